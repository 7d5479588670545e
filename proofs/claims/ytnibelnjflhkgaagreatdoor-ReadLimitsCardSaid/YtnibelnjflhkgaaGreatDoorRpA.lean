/- The document's reader over states: words. No condition. The document's reader over states: pure: what patterns it tells. No condition. The document's reader over states: two, one, row. No condition. The document's reader over states: pair, both, pattern. No condition. -/
import Derived.Test.YtnibelnjflhkgaaGreatDoorRfC
import Derived.Test.YtnibelnjflhkgaaGreatDoorRoE
import Derived.Test.YtnibelnjflhkgaaGreatDoorAbC
namespace Go.Proofs.YtnibelnjflhkgaaGreatDoor.Ab
set_option linter.unusedVariables false
set_option linter.unusedSimpArgs false
set_option maxRecDepth 10000
def rfX (ts:List Tk) (s:St) (d:Int):Blk:=rfC ts s.i (erE s.er) (erP 0 s.er) d
structure Sf where
 s:St
 d:Int
def FOk (ts:List Tk) (x:Sf):Prop:=SOk ts x.s∧(x.s.er=none→ ∃n:Nat,n≤100∧x.d=n)
def needK (ts:List Tk) (k:Int) (c:List UInt8) (s:St):St:=match s.er with|none=>if ((tkS ts s).k==k&&(tkS ts s).s==c)=true then ⟨s.i+1,none⟩ else ⟨s.i,some (4,(tkS ts s).p)⟩|some _=>s
theorem needK_4 (ts:List Tk) (c:List UInt8) (s:St):needK ts 4 c s=needS ts c s:=rfl
def openF (ts:List Tk) (x:Sf):Sf:=
 if (needS ts [40] x.s).er.isNone=true then ⟨if IntKind.i64.wrap (x.d+1)>100 then failS (tkS ts x.s).p 2 (needS ts [40] x.s) else needS ts [40] x.s,IntKind.i64.wrap (x.d+1)⟩ else ⟨needS ts [40] x.s,x.d⟩
def closeF (ts:List Tk) (x:Sf):Sf:=⟨needS ts [41] x.s,IntKind.i64.wrap (x.d-1)⟩
theorem shrink_rY {h hp:Hp} {l:Nat} {ts:List Tk} {s:St} {d:Int} (h1:h.n≤hp.n) (h2: ∀k,k<h.n→k≠l→hp.bk k=h.bk k) (h3:hp.bk l=rfX ts s d):Shrink h hp ⟨h.n,updB h.bk l (rfX ts s d)⟩:=shrink_rfX h1 h2 h3
theorem needK_ok {ts:List Tk} (N:Nx ts) {s:St} {k:Int} {c:List UInt8} (hk:(k !=5)=true) (h:SOk ts s):SOk ts (needK ts k c s):=by
 obtain ⟨i,er⟩:=s
 cases er with
 |some e=>exact h
 |none=>
  unfold needK;simp only
  split
  ·rename_i e
   have:((tkS ts ⟨i,none⟩).k !=5)=true:=by simp only [Bool.and_eq_true,beq_iff_eq] at e;rw [e.1];exact hk
   exact ⟨N i _ (tkS_get h) this,fun e he=>by cases he⟩
  ·exact ⟨h.1,fun e he=>by cases he;exact (by decide:(4:Int)≠0)⟩
section
variable {h:Hp} {l:Nat} (hl:l<h.n) {ts:List Tk} {s:St} (hs:SOk ts s) {d:Int} (hb:h.bk l=rfX ts s d)
include hl hs hb
theorem fy_now:Fn Tryz.prog 52 [.ptr l 0] h (.agg [.int .i64 (tkS ts s).k, .str (tkS ts s).s, .int .i64 (tkS ts s).n, .int .i64 ((tkS ts s).p:Nat)]) h:=fnr_now h l hl ts s.i (erE s.er) (erP 0 s.er) d hb _ (tkS_get hs)
theorem fy_is (k:Int) (c:List UInt8):Fn Tryz.prog 105 [.ptr l 0, .int .i64 k, .str c] h (.bool (s.er.isNone&&((tkS ts s).k==k&&(tkS ts s).s==c))) h:=by
 have:=fnr_is h l hl ts s.i (erE s.er) (erP 0 s.er) d hb _ (tkS_get hs) k c
 rwa [erE_z hs.2] at this
theorem fy_mark (c:List UInt8):Fn Tryz.prog 103 [.ptr l 0, .str c] h (.bool (takeS ts c s)) h:=by
 have:=fnr_mark h l hl ts s.i (erE s.er) (erP 0 s.er) d hb _ (tkS_get hs) c
 rwa [erE_z hs.2] at this
theorem fy_fails (p:Nat) (e:Int):Fn Tryz.prog 58 [.ptr l 0, .int .i64 e, .int .i64 (p:Nat)] h (.tup []) ⟨h.n,updB h.bk l (rfX ts (failS p e s) d)⟩:=by
 have:=fnr_fails h l hl ts s.i (erE s.er) (erP 0 s.er) d hb p e
 rw [erE_z hs.2] at this
 obtain ⟨i,er⟩:=s
 cases er with
 |none=>exact this
 |some e' =>
  rw [show (some e' :Er).isNone=false from rfl,if_neg (by simp)] at this
  rw [show failS p e ⟨i,some e'⟩=⟨i,some e'⟩ from rfl,updB_self _ _ _ hb];exact this
theorem fy_take (W:Wds ts) (c:List UInt8):Fn Tryz.prog 54 [.ptr l 0, .str c] h (.bool (takeS ts c s)) ⟨h.n,updB h.bk l (rfX ts (goS ts c s) d)⟩:=by
 have hi:=hs.1
 have hL:=W.len
 have:=fnr_take h l hl ts s.i (by omega) (erE s.er) (erP 0 s.er) d hb _ (tkS_get hs) c
 rw [erE_z hs.2] at this
 unfold goS
 cases hk:takeS ts c s with
 |false=>
  rw [show (s.er.isNone&&((tkS ts s).k==4&&(tkS ts s).s==c))=false from hk,if_neg (by simp)] at this
  rw [if_neg (by simp),updB_self _ _ _ hb];exact this
 |true=>
  rw [show (s.er.isNone&&((tkS ts s).k==4&&(tkS ts s).s==c))=true from hk,if_pos rfl] at this
  rw [if_pos rfl]
  have he:s.er=none:=by unfold takeS at hk;simp at hk;exact hk.1
  rw [he] at this;exact this
theorem fy_must (W:Wds ts) (k:Int) (c:List UInt8):Fn Tryz.prog 56 [.ptr l 0, .int .i64 k, .str c] h (.tup []) ⟨h.n,updB h.bk l (rfX ts (needK ts k c s) d)⟩:=by
 have hi:=hs.1
 have hL:=W.len
 have:=fnr_must h l hl ts s.i (by omega) (erE s.er) (erP 0 s.er) d hb _ (tkS_get hs) k c
 rw [erE_z hs.2] at this
 obtain ⟨i,er⟩:=s
 cases er with
 |some e' =>
  rw [show (some e' :Er).isNone=false from rfl,if_neg (by simp)] at this
  rw [show needK ts k c ⟨i,some e'⟩=⟨i,some e'⟩ from rfl,updB_self _ _ _ hb];exact this
 |none=>
  rw [show (none:Er).isNone=true from rfl,if_pos rfl] at this
  unfold needK;simp only
  cases hk:((tkS ts ⟨i,none⟩).k==k&&(tkS ts ⟨i,none⟩).s==c) with
  |false=>rw [hk,if_neg (by simp)] at this;rw [if_neg (by simp)];exact this
  |true=>rw [hk,if_pos rfl] at this;rw [if_pos rfl];exact this
theorem fy_close (W:Wds ts):Fn Tryz.prog 153 [.ptr l 0] h (.tup []) ⟨h.n,updB h.bk l (rfX ts (closeF ts ⟨s,d⟩).s (closeF ts ⟨s,d⟩).d)⟩:=by
 have hi:=hs.1
 have hL:=W.len
 have:=fnr_close h l hl ts s.i (by omega) (erE s.er) (erP 0 s.er) d hb _ (tkS_get hs)
 rw [erE_z hs.2] at this
 unfold closeF;simp only
 obtain ⟨i,er⟩:=s
 cases er with
 |some e' =>
  rw [show (some e' :Er).isNone=false from rfl,if_neg (by simp)] at this
  exact this
 |none=>
  rw [show (none:Er).isNone=true from rfl,if_pos rfl] at this
  unfold needS isS;simp only
  cases hk:((tkS ts ⟨i,none⟩).k==4&&(tkS ts ⟨i,none⟩).s== [41]) with
  |false=>rw [hk,if_neg (by simp)] at this;rw [if_neg (by simp)];exact this
  |true=>rw [hk,if_pos rfl] at this;rw [if_pos rfl];exact this
theorem fy_open (W:Wds ts):Fn Tryz.prog 152 [.ptr l 0] h (.tup []) ⟨h.n,updB h.bk l (rfX ts (openF ts ⟨s,d⟩).s (openF ts ⟨s,d⟩).d)⟩:=by
 have h1:=needS_ok (c:= [40]) W.Nx hs
 refine fnC mixed Tryz.func152 c152 (by simp) ?_
 simp only [go_sem,seval]
 refine ccall (fy_now (l:=l) (ts:=ts) (s:=s) (d:=d) (by simp;omega) hs (by simp [hb])) (by simp only [go_sem,seval]) ?_
 simp only [go_sem,seval]
 refine ccall (fy_must (l:=l) (ts:=ts) (s:=s) (d:=d) (by simp;omega) hs (by simp [hb]) W 4 [40]) (by simp only [go_sem,seval]) ?_
 rw [needK_4]
 unfold openF
 simp only
 generalize hs1:needS ts [40] s=s1 at *
 have hz:=erE_z h1.2
 have hrf:rfX ts s1 d= .cells [.sl .sh 4 (ts.map Tk.av), .int .i64 (s1.i:Nat), .int .i64 (erE s1.er), .int .i64 ((erP 0 s1.er:Nat):Int), .int .i64 d]:=rfl
 cases hn:s1.er.isNone with
 |false=>
  rw [hn] at hz
  rw [if_neg (by simp)]
  simp only [go_sem,seval,hrf,hz]
  exact shrink_rY (by simp) (fun q hq hne=>by simp [bk_apply,hne]) (by simp [bk_apply];rfl)
 |true=>
  rw [hn] at hz
  rw [if_pos rfl]
  by_cases hd:IntKind.i64.wrap (d+1)>100
  ·rw [if_pos hd]
   have hd' :decide (IntKind.i64.wrap (d+1)>100)=true:=decide_eq_true hd
   simp only [go_sem,seval,hrf,hz,hd']
   refine ccall (fy_fails (l:=l) (ts:=ts) (s:=s1) (d:=IntKind.i64.wrap (d+1)) (by simp;omega) h1 (by simp [bk_apply];rfl) (tkS ts s).p 2) (by simp only [go_sem,seval]) ?_
   simp only [go_sem,seval]
   exact shrink_rY (by simp) (fun q hq hne=>by simp [bk_apply,hne]) (by simp [bk_apply])
  ·rw [if_neg hd]
   have hd' :decide (IntKind.i64.wrap (d+1)>100)=false:=decide_eq_false hd
   simp only [go_sem,seval,hrf,hz,hd']
   exact shrink_rY (by simp) (fun q hq hne=>by simp [bk_apply,hne]) (by simp [bk_apply];rfl)
end
def tmF (ts:List Tk) (x:Sf):T×St:=match x.s.er with|none=>((tmG zR (2 * ts.length) x.d.toNat (ts.drop x.s.i)).1,⟨x.s.i+(tmG zR (2 * ts.length) x.d.toNat (ts.drop x.s.i)).2.1,(tmG zR (2 * ts.length) x.d.toNat (ts.drop x.s.i)).2.2⟩)|some _=>(zT,x.s)
theorem tmF_ok {ts:List Tk} (W:Wds ts) {x:Sf} (h:FOk ts x):SOk ts (tmF ts x).2:=by
 obtain ⟨⟨i,er⟩,d⟩:=x
 cases er with
 |some e=>exact h.1
 |none=>
  obtain ⟨h2,h3⟩:=tmG_two zR (2 * ts.length) d.toNat (ts.drop i)
  have hi:i<ts.length:=h.1.1
  have h4:=(gTL_lt zR (by decide) (2 * ts.length)).1 d.toNat (ts.drop i) (W.Nx.drop i) (by simp;omega) (by simp;omega)
  rw [←h2,List.length_drop] at h4
  exact ⟨show i+(tmG zR (2 * ts.length) d.toNat (ts.drop i)).2.1<ts.length by omega,h3⟩
theorem tmF_i (ts:List Tk) (x:Sf):x.s.i≤(tmF ts x).2.i:=by
 obtain ⟨⟨i,er⟩,d⟩:=x
 cases er with
 |some e=>exact Nat.le_refl _
 |none=>exact Nat.le_add_right _ _
theorem tmF_st {ts:List Tk} {x:Sf} (h:(tmF ts x).2.er=none):x.s.er=none:=by
 obtain ⟨⟨i,er⟩,d⟩:=x
 cases er<;>simp [tmF] at h ⊢
theorem fy_term {h:Hp} {l:Nat} (hl:l<h.n) {ts:List Tk} (W:Wds ts) {x:Sf} (hx:FOk ts x) (hb:h.bk l=rfX ts x.s x.d):
  Fn Tryz.prog 53 [.ptr l 0] h (tmF ts x).1.avf ⟨h.n,updB h.bk l (rfX ts (tmF ts x).2 x.d)⟩:=by
 obtain ⟨⟨i,er⟩,d⟩:=x
 have hi:i<ts.length:=hx.1.1
 cases er with
 |none=>
  obtain ⟨n,hn,rfl⟩: ∃n:Nat,n≤100∧d=n:=hx.2 rfl
  exact fnr_term (2 * ts.length) (by have:=W.len;omega) h l ts i n 0 W hl hi (by omega) hn hb
 |some e=>
  have he:(erE (some e) !=0)=true:=by simpa [erE] using hx.1.2 e rfl
  have hrf:h.bk l= .cells [.sl .sh 4 (ts.map Tk.av), .int .i64 (i:Nat), .int .i64 (erE (some e)), .int .i64 ((erP 0 (some e):Nat):Int), .int .i64 d]:=hb
  show Fn _ _ _ _ zT.avf ⟨h.n,updB h.bk l (rfX ts ⟨i,some e⟩ d)⟩
  rw [updB_self _ _ _ hb]
  have n0: ¬l=h.n:=by omega
  have m0: ¬h.n=l:=by omega
  unfold zT
  rw [avf_mk]
  refine fnC mixed Tryz.func53 c53 (by simp) ?_
  simp only [go_sem,seval,hrf,he,n0,m0]
  rfl
end Go.Proofs.YtnibelnjflhkgaaGreatDoor.Ab
namespace Go.Proofs.YtnibelnjflhkgaaGreatDoor.Ab
set_option linter.unusedVariables false
set_option linter.unusedSimpArgs false
def An (n:Nat) (x:Sf):Prop:=x.s.er=none→100<x.d+n
def PFy (f:FuncId) (ts:List Tk) (n:Nat) (g:Sf→Pn×Sf):Prop:= ∀(h:Hp) (l:Nat) (x:Sf),l<h.n→FOk ts x→An n x→h.bk l=rfX ts x.s x.d→Fn Tryz.prog f [.ptr l 0] h (g x).1.avf ⟨h.n,updB h.bk l (rfX ts (g x).2.s (g x).2.d)⟩
def Gf (ts:List Tk) (n:Nat) (g:Sf→Pn×Sf):Prop:= ∀x,FOk ts x→An n x→FOk ts (g x).2∧x.s.i≤(g x).2.s.i∧((g x).2.s.er=none→x.s.er=none∧(g x).2.d=x.d)
theorem Gf.an {ts:List Tk} {n:Nat} {g:Sf→Pn×Sf} (G:Gf ts n g) {x:Sf} (hx:FOk ts x) (ha:An n x):An n (g x).2:=fun e=>by
 obtain ⟨k1,k2,k3⟩:=G x hx ha
 rw [(k3 e).2];exact ha (k3 e).1
theorem FOk.to {ts:List Tk} {x:Sf} (hx:FOk ts x) {s:St} (hs:SOk ts s) (he:s.er=none→x.s.er=none):FOk ts ⟨s,x.d⟩:=⟨hs,fun e=>hx.2 (he e)⟩
theorem An.to {n:Nat} {x:Sf} (hx:An n x) {s:St} (he:s.er=none→x.s.er=none):An n ⟨s,x.d⟩:=fun e=>hx (he e)
def withinF (pat:Sf→Pn×Sf) (ts:List Tk) (x:Sf):Pn×Sf:=((pat (openF ts x)).1,closeF ts (pat (openF ts x)).2)
def oneF (pat:Sf→Pn×Sf) (ts:List Tk) (x:Sf):Pn×Sf:=
 if x.s.er.isNone=true then (if isS (tkS ts x.s) [40]=true then withinF pat ts x else (.mk 1 (tmF ts x).1 0 [] [] [],⟨(tmF ts x).2,x.d⟩)) else (zPn,x)
def rowBF (pat:Sf→Pn×Sf) (ts:List Tk) (p:Pn) (x:Sf):Pn×Sf:=
 if takeS ts [92,43] x.s=true then
  (.mk 5 zT 0 [p] [(oneF pat ts ⟨needS ts [59] (withinF pat ts ⟨goS ts [92,43] x.s,x.d⟩).2.s,(withinF pat ts ⟨goS ts [92,43] x.s,x.d⟩).2.d⟩).1] [(withinF pat ts ⟨goS ts [92,43] x.s,x.d⟩).1],
   (oneF pat ts ⟨needS ts [59] (withinF pat ts ⟨goS ts [92,43] x.s,x.d⟩).2.s,(withinF pat ts ⟨goS ts [92,43] x.s,x.d⟩).2.d⟩).2)
 else (.mk 2 zT 0 [p] [(oneF pat ts x).1] [],(oneF pat ts x).2)
def loopF (ts:List Tk) (c:List UInt8) (body:Pn→Sf→Pn×Sf):Nat→Pn→Sf→Pn×Sf
 |0,p,x=>(p,x)
 |m+1,p,x=>if takeS ts c x.s=true then loopF ts c body m (body p ⟨goS ts c x.s,x.d⟩).1 (body p ⟨goS ts c x.s,x.d⟩).2 else (p,x)
def rowF (pat:Sf→Pn×Sf) (ts:List Tk) (x:Sf):Pn×Sf:=loopF ts [59] (rowBF pat ts) ts.length (oneF pat ts x).1 (oneF pat ts x).2
def pairBF (row:Sf→Pn×Sf) (ts:List Tk) (p:Pn) (x:Sf):Pn×Sf:=
 if badRel (tkS ts x.s)=true then (p,⟨failS (tkS ts x.s).p 4 x.s,x.d⟩)
 else (.mk 6 zT (relOf (tkS ts x.s).s) [p] [(row ⟨⟨x.s.i+1,x.s.er⟩,x.d⟩).1] [],(row ⟨⟨x.s.i+1,x.s.er⟩,x.d⟩).2)
def pairF (row:Sf→Pn×Sf) (ts:List Tk) (x:Sf):Pn×Sf:=
 if takeS ts [64] (row x).2.s=true then pairBF row ts (row x).1 ⟨goS ts [64] (row x).2.s,(row x).2.d⟩ else row x
def chainBF (part:Sf→Pn×Sf) (kind:Int) (p:Pn) (x:Sf):Pn×Sf:=(.mk kind zT 0 [p] [(part x).1] [],(part x).2)
def chainF (part:Sf→Pn×Sf) (kind:Int) (c:List UInt8) (ts:List Tk) (x:Sf):Pn×Sf:=loopF ts c (chainBF part kind) ts.length (part x).1 (part x).2
def patB (pat:Sf→Pn×Sf) (ts:List Tk):Sf→Pn×Sf:=chainF (chainF (pairF (rowF pat ts) ts) 3 [38] ts) 4 [124] ts
def patF (ts:List Tk):Nat→Sf→Pn×Sf
 |0=>patB (fun x=>(zPn,x)) ts
 |n+1=>patB (patF ts n) ts
theorem open_ok {ts:List Tk} (W:Wds ts) {x:Sf} (hx:FOk ts x):FOk ts (openF ts x)∧x.s.i≤(openF ts x).s.i∧((openF ts x).s.er=none→x.s.er=none∧(openF ts x).d=x.d+1):=by
 have h1:=needS_ok (c:= [40]) W.Nx hx.1
 have h2:=needS_i ts [40] x.s
 unfold openF
 split
 ·rename_i e
  have e1:(needS ts [40] x.s).er=none:=by simpa using e
  have e2:=needS_st e1
  obtain ⟨n,hn,hd⟩:=hx.2 e2
  have hw:IntKind.i64.wrap (x.d+1)=x.d+1:=by rw [hd,wrap64]<;>omega
  by_cases hc:IntKind.i64.wrap (x.d+1)>100
  ·rw [if_pos hc]
   refine ⟨⟨failS_ok h1 (by decide),fun e=>(failS_no e).elim⟩,by rw [failS_i];exact h2,fun e=>(failS_no e).elim⟩
  ·rw [if_neg hc]
   rw [hw] at hc ⊢
   exact ⟨⟨h1,fun _=>⟨n+1,by omega,by simp only;omega⟩⟩,h2,fun _=>⟨e2,rfl⟩⟩
 ·rename_i e
  have e1:(needS ts [40] x.s).er=none→False:=fun h=>e (by rw [h];rfl)
  exact ⟨⟨h1,fun h=>(e1 h).elim⟩,h2,fun h=>(e1 h).elim⟩
theorem within_gf {pat:Sf→Pn×Sf} {ts:List Tk} (W:Wds ts) {n:Nat} (hp:Gf ts n pat) {x:Sf} (hx:FOk ts x) (ha:An (n+1) x):
  FOk ts (withinF pat ts x).2∧x.s.i≤(withinF pat ts x).2.s.i∧((withinF pat ts x).2.s.er=none→x.s.er=none∧(withinF pat ts x).2.d=x.d):=by
 obtain ⟨k1,k2,k3⟩:=open_ok W hx
 have ka:An n (openF ts x):=fun e=>by rw [(k3 e).2];have:=ha (k3 e).1;push_cast at this;omega
 obtain ⟨k4,k5,k6⟩:=hp _ k1 ka
 have k7:=needS_ok (c:= [41]) W.Nx k4.1
 have k8:=needS_i ts [41] (pat (openF ts x)).2.s
 have k9:(needS ts [41] (pat (openF ts x)).2.s).er=none→x.s.er=none∧IntKind.i64.wrap ((pat (openF ts x)).2.d-1)=x.d:=fun e=>by
  obtain ⟨a1,a2⟩:=k6 (needS_st e)
  obtain ⟨a3,a4⟩:=k3 a1
  obtain ⟨m,hm,hd⟩:=hx.2 a3
  refine ⟨a3, ?_⟩
  rw [a2,a4,hd,wrap64]<;>omega
 unfold withinF closeF
 exact ⟨⟨k7,fun e=>by
  obtain ⟨a1,a2⟩:=k9 e
  obtain ⟨m,hm,hd⟩:=hx.2 a1
  exact ⟨m,hm,by simp only;rw [a2,hd]⟩⟩,by simp only;omega,k9⟩
theorem an_pos {ts:List Tk} {n:Nat} {x:Sf} (hx:FOk ts x) (ha:An n x) (he:x.s.er=none): ∃m,n=m+1:=by
 obtain ⟨k,hk,hd⟩:=hx.2 he
 have:=ha he
 exact ⟨n-1,by omega⟩
theorem one_gf {pat:Sf→Pn×Sf} {ts:List Tk} (W:Wds ts) {n:Nat} (hp: ∀m,n=m+1→Gf ts m pat):Gf ts n (oneF pat ts):=by
 intro x hx ha
 unfold oneF
 split
 ·rename_i e
  have e1:x.s.er=none:=by simpa using e
  obtain ⟨m,rfl⟩:=an_pos hx ha e1
  split
  ·exact within_gf W (hp m rfl) hx ha
  ·exact ⟨hx.to (tmF_ok W hx) (fun _=>e1),tmF_i ts x,fun _=>⟨e1,rfl⟩⟩
 ·exact ⟨hx,Nat.le_refl _,fun e=>⟨e,rfl⟩⟩
theorem loopF_gf {ts:List Tk} (W:Wds ts) {n:Nat} {c:List UInt8} {body:Pn→Sf→Pn×Sf} (hb: ∀p,Gf ts n (body p)): ∀(m:Nat) (p:Pn),Gf ts n (loopF ts c body m p)
 |0,p=>fun x hx ha=>⟨hx,Nat.le_refl _,fun e=>⟨e,rfl⟩⟩
 |m+1,p=>fun x hx ha=>by
  rw [loopF];split
  ·have g1:=goS_ok (c:=c) W.Nx hx.1
   have g2:=goS_i ts c x.s
   have hx' :=hx.to g1 (fun e=>goS_st e)
   have ha' :An n ⟨goS ts c x.s,x.d⟩:=ha.to (fun e=>goS_st e)
   obtain ⟨k1,k2,k3⟩:=hb p _ hx' ha'
   obtain ⟨k4,k5,k6⟩:=loopF_gf W hb m _ _ k1 ((hb p).an hx' ha')
   refine ⟨k4, ?_,fun e=> ?_⟩
   ·simp only at k2;omega
   ·obtain ⟨a1,a2⟩:=k6 e
    obtain ⟨a3,a4⟩:=k3 a1
    exact ⟨goS_st a3,by rw [a2,a4]⟩
  ·exact ⟨hx,Nat.le_refl _,fun e=>⟨e,rfl⟩⟩
theorem rowB_gf {pat:Sf→Pn×Sf} {ts:List Tk} (W:Wds ts) {n:Nat} (hp: ∀m,n=m+1→Gf ts m pat) (p:Pn):Gf ts n (rowBF pat ts p):=by
 intro x hx ha
 have ho:=one_gf W hp
 unfold rowBF
 split
 ·rename_i e
  have e1:x.s.er=none:=by unfold takeS at e;simp at e;exact e.1
  obtain ⟨m,rfl⟩:=an_pos hx ha e1
  have g1:=goS_ok (c:= [92,43]) W.Nx hx.1
  have g2:=goS_i ts [92,43] x.s
  have hx' :=hx.to g1 (fun e=>goS_st e)
  have ha' :An (m+1) ⟨goS ts [92,43] x.s,x.d⟩:=ha.to (fun e=>goS_st e)
  obtain ⟨k1,k2,k3⟩:=within_gf W (hp m rfl) hx' ha'
  generalize withinF pat ts ⟨goS ts [92,43] x.s,x.d⟩=w at *
  have g3:=needS_ok (c:= [59]) W.Nx k1.1
  have g4:=needS_i ts [59] w.2.s
  have hx2:=k1.to g3 (fun e=>needS_st e)
  have ha2:An (m+1) ⟨needS ts [59] w.2.s,w.2.d⟩:=fun e=>by
   obtain ⟨a1,a2⟩:=k3 (needS_st e)
   show 100<w.2.d+_
   rw [a2];exact ha e1
  obtain ⟨k4,k5,k6⟩:=ho _ hx2 ha2
  refine ⟨k4, ?_,fun e=> ?_⟩
  ·simp only at k2 k5 ⊢;omega
  ·obtain ⟨a1,a2⟩:=k6 e
   obtain ⟨a3,a4⟩:=k3 (needS_st a1)
   exact ⟨e1,by rw [a2];exact a4⟩
 ·exact ho x hx ha
theorem Gf.seq {ts:List Tk} {n:Nat} {g:Sf→Pn×Sf} (G:Gf ts n g) {x:Sf} (hx:FOk ts x) (ha:An n x) {h:Pn→Sf→Pn×Sf} (H: ∀p,Gf ts n (h p)):
  FOk ts (h (g x).1 (g x).2).2∧x.s.i≤(h (g x).1 (g x).2).2.s.i∧((h (g x).1 (g x).2).2.s.er=none→x.s.er=none∧(h (g x).1 (g x).2).2.d=x.d):=by
 obtain ⟨k1,k2,k3⟩:=G x hx ha
 obtain ⟨k4,k5,k6⟩:=H (g x).1 _ k1 (G.an hx ha)
 exact ⟨k4,by omega,fun e=>by
  obtain ⟨a1,a2⟩:=k6 e
  obtain ⟨a3,a4⟩:=k3 a1
  exact ⟨a3,by rw [a2,a4]⟩⟩
theorem row_gf {pat:Sf→Pn×Sf} {ts:List Tk} (W:Wds ts) {n:Nat} (hp: ∀m,n=m+1→Gf ts m pat):Gf ts n (rowF pat ts):=fun x hx ha=>
 (one_gf W hp).seq hx ha (h:=fun p x=>loopF ts [59] (rowBF pat ts) ts.length p x) (fun p=>loopF_gf W (rowB_gf W hp) _ p)
theorem badRel_k {t:Tk} (h:badRel t=false):(t.k !=5)=true:=by
 unfold badRel at h
 simp only [Bool.or_eq_false_iff,Bool.not_eq_false',beq_iff_eq] at h
 rw [h.1];rfl
theorem pairB_gf {row:Sf→Pn×Sf} {ts:List Tk} (W:Wds ts) {n:Nat} (hr:Gf ts n row) (p:Pn) (x:Sf) (hx:FOk ts x) (ha:An n x) (he:x.s.er=none):FOk ts (pairBF row ts p x).2∧x.s.i≤(pairBF row ts p x).2.s.i∧((pairBF row ts p x).2.s.er=none→x.s.er=none∧(pairBF row ts p x).2.d=x.d):=by
 unfold pairBF
 split
 ·exact ⟨⟨failS_ok hx.1 (by decide),fun e=>(failS_no e).elim⟩,by rw [failS_i];exact Nat.le_refl _,fun e=>(failS_no e).elim⟩
 ·rename_i hb
  have hk:=badRel_k (Bool.eq_false_iff.2 hb)
  have h1:SOk ts ⟨x.s.i+1,x.s.er⟩:=⟨W.Nx x.s.i _ (tkS_get hx.1) hk,hx.1.2⟩
  obtain ⟨k1,k2,k3⟩:=hr _ (hx.to h1 (fun e=>e)) (ha.to (fun e=>e))
  exact ⟨k1,by simp only at k2 ⊢;omega,k3⟩
theorem pair_gf {row:Sf→Pn×Sf} {ts:List Tk} (W:Wds ts) {n:Nat} (hr:Gf ts n row):Gf ts n (pairF row ts):=by
 intro x hx ha
 obtain ⟨k1,k2,k3⟩:=hr x hx ha
 have ka:=hr.an hx ha
 unfold pairF
 split
 ·rename_i e
  have e1:(row x).2.s.er=none:=by unfold takeS at e;simp at e;exact e.1
  have g1:=goS_ok (c:= [64]) W.Nx k1.1
  have g2:=goS_i ts [64] (row x).2.s
  have ge:(goS ts [64] (row x).2.s).er=none:=by unfold goS;rw [if_pos e]
  obtain ⟨k4,k5,k6⟩:=pairB_gf W hr (row x).1 ⟨goS ts [64] (row x).2.s,(row x).2.d⟩ (k1.to g1 (fun e=>goS_st e)) (ka.to (fun e=>goS_st e)) ge
  exact ⟨k4,by simp only at k5;omega,fun e=>⟨(k3 e1).1,by rw [(k6 e).2];exact (k3 e1).2⟩⟩
 ·exact ⟨k1,k2,k3⟩
theorem chain_gf {part:Sf→Pn×Sf} {kind:Int} {c:List UInt8} {ts:List Tk} (W:Wds ts) {n:Nat} (hp:Gf ts n part):Gf ts n (chainF part kind c ts):=fun x hx ha=>
 hp.seq hx ha (h:=fun p x=>loopF ts c (chainBF part kind) ts.length p x) (fun p=>loopF_gf W (body:=chainBF part kind) (fun p x hx ha=>hp x hx ha) _ p)
theorem patB_gf {pat:Sf→Pn×Sf} {ts:List Tk} (W:Wds ts) {n:Nat} (hp: ∀m,n=m+1→Gf ts m pat):Gf ts n (patB pat ts):=chain_gf W (chain_gf W (pair_gf W (row_gf W hp)))
theorem patF_gf {ts:List Tk} (W:Wds ts): ∀n,Gf ts n (patF ts n)
 |0=>patB_gf W (fun m h=>by omega)
 |n+1=>patB_gf W (fun m h=>by cases h;exact patF_gf W n)
end Go.Proofs.YtnibelnjflhkgaaGreatDoor.Ab
namespace Go.Proofs.YtnibelnjflhkgaaGreatDoor.Ab
set_option linter.unusedVariables false
set_option linter.unusedSimpArgs false
set_option maxRecDepth 10000
theorem c156:compF Tryz.prog ow Tryz.f156=(some (13,([(.c 6 (.agg 9))],(.seq (.ops [(none,(.box 4 (.t 1))),(none,(.box 5 (.t 2))),(none,(.alloc 6 [(.int .i64 0),(.int .i64 0),(.str []),(.int .i64 0),(.sl .full 4 []),(.int .i64 0),(.sl .full 9 []),(.sl .full 9 []),(.sl .full 9 [])]))]) (.seq (.ops [(none,(.cp 7 0)),(none,(.ld (some 8) (.t 4) (.agg 9))),(none,(.bs 9 9 [(.t 8)])),(none,(.ld (some 10) (.t 5) (.agg 9))),(none,(.bs 11 9 [(.t 10)])),(none,(.bld (some 12) [(.int .i64 0),(.int .i64 0),(.str []),(.int .i64 0),(.sl .full 4 []),(.int .i64 0),(.sl .full 9 []),(.sl .full 9 []),(.sl .full 9 [])] [(0,1),(1,4),(5,1),(6,1),(7,1),(8,1)] [(0,(.t 7)),(3,(.t 9)),(4,(.t 11))])),(none,(.st (.t 6) (.t 12) 9))]) .ret))))):=by kernel_rfl
theorem c240:compF Tryz.prog ow Tryz.f240=(some (22,([(.c 2 (.agg 9))],(.seq (.ops [(none,(.alloc 2 [(.int .i64 0),(.int .i64 0),(.str []),(.int .i64 0),(.sl .full 4 []),(.int .i64 0),(.sl .full 9 []),(.sl .full 9 []),(.sl .full 9 [])]))]) (.seq (.seq (.ops [(none,(.cp 4 0)),(none,(.nil (some 5) (.t 4))),(none,(.fa (some 6) (.t 5) 2)),(none,(.ld (some 7) (.t 6) (.one none))),(none,(.bin (some 8) .neq (.t 7) (.k (.int .i64 0)) false false))]) (.cond (.t 8) (.seq (.ops [(none,(.bld (some 9) [(.int .i64 0),(.int .i64 0),(.str []),(.int .i64 0),(.sl .full 4 []),(.int .i64 0),(.sl .full 9 []),(.sl .full 9 []),(.sl .full 9 [])] [(0,1),(1,4),(5,1),(6,1),(7,1),(8,1)] [])),(none,(.st (.t 2) (.t 9) 9))]) .ret) .skip)) (.seq (.seq (.ops [(none,(.cp 10 0)),(none,(.call (some 11) (.k (.func 103 [] [])) [(.t 10),(.k (.str [40]))] none))]) (.cond (.t 11) (.seq (.ops [(none,(.cp 12 0)),(none,(.call (some 13) (.k (.func 152 [] [])) [(.t 12)] none))]) (.seq (.ops [(none,(.cp 14 0)),(none,(.call (some 15) (.k (.func 104 [] [])) [(.t 14)] none)),(none,(.alloc 3 [(.int .i64 0),(.int .i64 0),(.str []),(.int .i64 0),(.sl .full 4 []),(.int .i64 0),(.sl .full 9 []),(.sl .full 9 []),(.sl .full 9 [])])),(none,(.st (.t 3) (.t 15) 9))]) (.seq (.ops [(none,(.cp 16 0)),(none,(.call (some 17) (.k (.func 153 [] [])) [(.t 16)] none))]) (.seq (.ops [(none,(.ld (some 18) (.t 3) (.agg 9))),(none,(.st (.t 2) (.t 18) 9))]) .ret)))) .skip)) (.seq (.ops [(none,(.cp 19 0)),(none,(.call (some 20) (.k (.func 53 [] [])) [(.t 19)] none)),(none,(.bld (some 21) [(.int .i64 0),(.int .i64 0),(.str []),(.int .i64 0),(.sl .full 4 []),(.int .i64 0),(.sl .full 9 []),(.sl .full 9 []),(.sl .full 9 [])] [(0,1),(1,4),(5,1),(6,1),(7,1),(8,1)] [(0,(.k (.int .i64 1))),(1,(.t 20))])),(none,(.st (.t 2) (.t 21) 9))]) .ret))))))):=by kernel_rfl
theorem c226:compF Tryz.prog ow Tryz.f226=(some (32,([(.c 2 (.agg 9))],(.seq (.ops [(none,(.alloc 2 [(.int .i64 0),(.int .i64 0),(.str []),(.int .i64 0),(.sl .full 4 []),(.int .i64 0),(.sl .full 9 []),(.sl .full 9 []),(.sl .full 9 [])]))]) (.seq (.ops [(none,(.cp 5 0)),(none,(.call (some 6) (.k (.func 240 [] [])) [(.t 5)] (some 100))),(none,(.alloc 3 [(.int .i64 0),(.int .i64 0),(.str []),(.int .i64 0),(.sl .full 4 []),(.int .i64 0),(.sl .full 9 []),(.sl .full 9 []),(.sl .full 9 [])])),(none,(.st (.t 3) (.t 6) 9))]) (.seq (.block 0 (.loop (.seq (.seq (.ops [(none,(.cp 7 0)),(none,(.call (some 8) (.k (.func 54 [] [])) [(.t 7),(.k (.str [59]))] none))]) (.cond (.t 8) .skip (.exit 0))) (.block 1 (.seq (.seq (.ops [(none,(.cp 9 0)),(none,(.call (some 10) (.k (.func 54 [] [])) [(.t 9),(.k (.str [92,43]))] none)),(none,(.un (some 11) .not (.t 10)))]) (.cond (.t 11) (.seq (.opsT (.one none (.cp 13 0) (.alt none (.ld (some 12) (.t 3) (.agg 9)) (.one none (.call (some 14) (.k (.func 240 [] [])) [(.t 13)] (some 100)) (.one none (.call (some 15) (.k (.func 156 [] [])) [(.k (.int .i64 2)),(.t 12),(.t 14)] none) (.one none (.st (.t 3) (.t 15) 9) .done))) (.alt none (.call (some 14) (.k (.func 240 [] [])) [(.t 13)] (some 100)) (.one none (.ld (some 12) (.t 3) (.agg 9)) (.one none (.call (some 15) (.k (.func 156 [] [])) [(.k (.int .i64 2)),(.t 12),(.t 14)] none) (.one none (.st (.t 3) (.t 15) 9) .done))) .nil)))) (.exit 1)) .skip)) (.seq (.ops [(none,(.cp 16 0)),(none,(.call (some 17) (.k (.func 152 [] [])) [(.t 16)] none))]) (.seq (.ops [(none,(.cp 18 0)),(none,(.call (some 19) (.k (.func 104 [] [])) [(.t 18)] none)),(none,(.alloc 4 [(.int .i64 0),(.int .i64 0),(.str []),(.int .i64 0),(.sl .full 4 []),(.int .i64 0),(.sl .full 9 []),(.sl .full 9 []),(.sl .full 9 [])])),(none,(.st (.t 4) (.t 19) 9))]) (.seq (.ops [(none,(.cp 20 0)),(none,(.call (some 21) (.k (.func 153 [] [])) [(.t 20)] none))]) (.seq (.ops [(none,(.cp 22 0)),(none,(.call (some 23) (.k (.func 56 [] [])) [(.t 22),(.k (.int .i64 4)),(.k (.str [59]))] none))]) (.seq (.opsT (.one none (.cp 25 0) (.alt none (.ld (some 24) (.t 3) (.agg 9)) (.one none (.call (some 26) (.k (.func 240 [] [])) [(.t 25)] (some 100)) (.one none (.call (some 27) (.k (.func 156 [] [])) [(.k (.int .i64 5)),(.t 24),(.t 26)] none) (.one none (.st (.t 3) (.t 27) 9) .done))) (.alt none (.call (some 26) (.k (.func 240 [] [])) [(.t 25)] (some 100)) (.one none (.ld (some 24) (.t 3) (.agg 9)) (.one none (.call (some 27) (.k (.func 156 [] [])) [(.k (.int .i64 5)),(.t 24),(.t 26)] none) (.one none (.st (.t 3) (.t 27) 9) .done))) .nil)))) (.ops [(none,(.ld (some 28) (.t 4) (.agg 9))),(none,(.bs 29 9 [(.t 28)])),(none,(.fa (some 30) (.t 3) 8)),(none,(.st (.t 30) (.t 29) 1))]))))))))))) (.seq (.ops [(none,(.ld (some 31) (.t 3) (.agg 9))),(none,(.st (.t 2) (.t 31) 9))]) .ret))))))):=by kernel_rfl
theorem fy_two (k:Int) (p q:Pn):PFn Tryz.prog 156 [.int .i64 k,p.avf,q.avf] (.agg [.int .i64 k, .int .i64 0, .str [], .int .i64 0, .sl .full 4 [], .int .i64 0, .sl .sh 9 [p.avf], .sl .sh 9 [q.avf], .sl .full 9 []]):=by
 intro h
 have p0: ¬h.n=h.n+1:=by omega
 have p1: ¬h.n+1=h.n:=by omega
 have p2: ¬h.n=h.n+2:=by omega
 have p3: ¬h.n+2=h.n:=by omega
 have p4: ¬h.n+1=h.n+2:=by omega
 have p5: ¬h.n+2=h.n+1:=by omega
 refine fnC mixed Tryz.func156 c156 (by simp) ?_
 simp only [go_sem,seval,p0,p1,p2,p3,p4,p5,lab_pavf]
theorem fy_one {pat:Sf→Pn×Sf} {ts:List Tk} (W:Wds ts) {n:Nat} (gp: ∀m,n=m+1→Gf ts m pat) (hp: ∀m,n=m+1→PFy 104 ts m pat):PFy 240 ts n (oneF pat ts):=by
 intro h l x hl hx ha hb
 have n0: ¬l=h.n:=by omega
 have n1: ¬l=h.n+1:=by omega
 have m0: ¬h.n=l:=by omega
 have m1: ¬h.n+1=l:=by omega
 have p0: ¬h.n=h.n+1:=by omega
 have p1: ¬h.n+1=h.n:=by omega
 have hrf:h.bk l= .cells [.sl .sh 4 (ts.map Tk.av), .int .i64 (x.s.i:Nat), .int .i64 (erE x.s.er), .int .i64 ((erP 0 x.s.er:Nat):Int), .int .i64 x.d]:=hb
 have hz:=erE_z hx.1.2
 refine fnC mixed Tryz.func240 c240 (by simp) ?_
 unfold oneF
 cases hn:x.s.er.isNone with
 |false=>
  rw [hn] at hz
  have hz' :(erE x.s.er !=0)=true:=by simp [bne,hz]
  rw [if_neg (by simp)]
  simp only [go_sem,seval,hrf,hz',n0,m0]
  exact ⟨by rw [zPn,pavf_mk];rfl,lab_pavf _ _,shrink_rY (by simp) (fun q hq hne=>by simp [bk_apply,hne,show q≠h.n by omega]) (by simp [bk_apply,n0,hb])⟩
 |true=>
  rw [hn] at hz
  have hz' :(erE x.s.er !=0)=false:=by simp [bne,hz]
  have he:x.s.er=none:=by simpa using hn
  rw [if_pos rfl]
  obtain ⟨m,rfl⟩:=an_pos hx ha he
  have hM:=fun (H:Hp) (a1:l<H.n) (a2:H.bk l=rfX ts x.s x.d)=>fy_mark (h:=H) a1 hx.1 a2 [40]
  rw [show takeS ts [40] x.s=isS (tkS ts x.s) [40] by unfold takeS;rw [hn];rfl] at hM
  simp only [go_sem,seval,hrf,hz',n0,m0]
  refine ccall (hM _ (by simp;omega) (by simp [bk_apply,n0,hb])) (by simp only [go_sem,seval]) ?_
  cases hm:isS (tkS ts x.s) [40] with
  |false=>
   rw [if_neg (by simp)]
   simp only [go_sem,seval,n0,m0]
   refine ccall (fy_term (l:=l) (ts:=ts) (x:=x) (by simp;omega) W hx (by simp [bk_apply,n0,hb])) (by simp only [go_sem,seval]) ?_
   generalize tmF ts x=R
   obtain ⟨⟨tk,tn,tv,tl⟩,s2⟩:=R
   simp only [avf_mk]
   simp only [go_sem,seval,n0,m0]
   exact ⟨by rw [pavf_mk];rfl,lab_pavf _ _,shrink_rY (by simp) (fun q hq hne=>by simp [bk_apply,hne,show q≠h.n by omega]) (by simp [bk_apply,n0])⟩
  |true=>
   rw [if_pos rfl]
   unfold withinF
   simp only
   obtain ⟨k1,k2,k3⟩:=open_ok W hx
   have ka:An m (openF ts x):=fun e=>by rw [(k3 e).2];have:=ha (k3 e).1;push_cast at this;omega
   obtain ⟨k4,k5,k6⟩:=gp m rfl _ k1 ka
   have hO:=fun (H:Hp) (a1:l<H.n) (a2:H.bk l=rfX ts x.s x.d)=>fy_open (h:=H) a1 hx.1 a2 W
   rw [show (⟨x.s,x.d⟩:Sf)=x from rfl] at hO
   have hP:=fun (H:Hp) (a1:l<H.n) (a2:H.bk l=rfX ts (openF ts x).s (openF ts x).d)=>hp m rfl H l _ a1 k1 ka a2
   generalize openF ts x=x1 at *
   generalize pat x1=R at *
   obtain ⟨p,x2⟩:=R
   simp only at k4 hP ⊢
   have hC:=fun (H:Hp) (a1:l<H.n) (a2:H.bk l=rfX ts x2.s x2.d)=>fy_close (h:=H) a1 k4.1 a2 W
   rw [show (⟨x2.s,x2.d⟩:Sf)=x2 from rfl] at hC
   generalize closeF ts x2=x3 at *
   simp only [go_sem,seval,n0,m0]
   refine ccall (hO _ (by simp;omega) (by simp [bk_apply,n0,hb])) (by simp only [go_sem,seval]) ?_
   simp only [go_sem,seval,n0,m0]
   refine ccall (hP _ (by simp;omega) (by simp [bk_apply,n0,hb])) (by simp only [go_sem,seval]) ?_
   simp only [go_sem,seval,n0,m0,n1,m1,p0,p1]
   refine ccall (hC _ (by simp;omega) (by simp [bk_apply,n0,n1,hb])) (by simp only [go_sem,seval]) ?_
   simp only [go_sem,seval,n0,m0,n1,m1,p0,p1]
   exact ⟨by first|rfl|exact wk_refl _,lab_pavf _ _,shrink_rY (by simp) (fun q hq hne=>by simp [bk_apply,hne,show q≠h.n by omega,show q≠h.n+1 by omega]) (by simp [bk_apply,n0,n1])⟩
set_option maxHeartbeats 4000000 in
theorem fy_row {pat:Sf→Pn×Sf} {ts:List Tk} (W:Wds ts) {n:Nat} (gp: ∀m,n=m+1→Gf ts m pat) (hp: ∀m,n=m+1→PFy 104 ts m pat) (ho:PFy 240 ts n (oneF pat ts)):PFy 226 ts n (rowF pat ts):=by
 intro h l x hl hx ha hb
 have go:=one_gf W gp
 have n0: ¬l=h.n:=by omega
 have n1: ¬l=h.n+1:=by omega
 have m0: ¬h.n=l:=by omega
 have m1: ¬h.n+1=l:=by omega
 have p0: ¬h.n=h.n+1:=by omega
 have p1: ¬h.n+1=h.n:=by omega
 refine fnC mixed Tryz.func226 c226 (by simp) ?_
 simp only [go_sem,seval]
 refine ccall (ho _ l x (by simp;omega) hx ha (by simp [bk_apply,n0,hb])) (by simp only [go_sem,seval]) ?_
 unfold rowF
 obtain ⟨k1,k2,k3⟩:=go x hx ha
 have ka:=go.an hx ha
 generalize oneF pat ts x=R at *
 obtain ⟨p0',x0⟩:=R
 simp only at k1 k2 k3 ka ⊢
 simp only [go_sem,seval,n0,n1,m0,m1,p0,p1]
 have hi0:=k1.1.1
 generalize hG:loopF ts [59] (rowBF pat ts) ts.length p0' x0=G
 refine cloop (fun m t=> ∃(p:Pn) (cs:List AV) (x:Sf),cs.length=9∧cs.map strip=p.avf.cells∧FOk ts x∧An n x∧ts.length≤m+x.s.i∧t.fr 0= .ptr l 0∧t.fr 2= .ptr h.n 0∧t.fr 3= .ptr (h.n+1) 0∧h.n+2≤t.hp.n∧t.hp.bk l=rfX ts x.s x.d∧t.hp.bk (h.n+1)= .cells cs∧
  t.hp.bk h.n= .cells [.int .i64 0, .int .i64 0, .str [], .int .i64 0, .sl .full 4 [], .int .i64 0, .sl .full 9 [], .sl .full 9 [], .sl .full 9 []]∧(∀q,q<h.n→q≠l→t.hp.bk q=h.bk q)∧loopF ts [59] (rowBF pat ts) m p x=G) ts.length
  ⟨p0',p0'.avf.cells,x0,pavf_len _,pavf_cstrip _,k1,ka,by omega,by simp [fr_apply,argsF],by simp [fr_apply],by simp [fr_apply],by simp,by simp [bk_apply,n0,n1],by simp [bk_apply,p1,m1],by simp [bk_apply,p0,m0],fun q hq hne=>by simp [bk_apply,hne,show q≠h.n by omega,show q≠h.n+1 by omega],hG⟩ ?_
 clear hG k1 k2 k3 ka hi0 hx ha hb
 rintro m ⟨F,hp'⟩ ⟨p,cs,x,hlen,hcs,hx,ha,hm,f0,f2,f3,hn,hb1,hb3,hb2,hbo,hG⟩
 simp only at f0 f2 f3 hn hb1 hb2 hb3 hbo
 have hi:=hx.1.1
 have ht9:List.take 9 cs=cs:=List.take_of_length_le (by omega)
 have hd9:List.drop 9 cs= []:=List.drop_eq_nil_of_le (by omega)
 have hl9:9≤cs.length:=by omega
 have hTw:=fun (k:Int) (o:Pn)=>pfn_agS (P:=Tryz.prog) (args:= [.int .i64 k, .agg cs,o.avf]) (by rw [show List.map agS [AV.int .i64 k, .agg cs,o.avf]= [.int .i64 k,p.avf,o.avf] by rw [←pavf_agg p, ←hcs, ←pavf_agg o];simp [agS,strip,pavf_cstrip]];exact fy_two k p o)
 obtain ⟨m,rfl⟩: ∃m',m=m' +1:=⟨m-1,by omega⟩
 rw [loopF] at hG
 have q0: ¬l=hp'.n:=by omega
 have q1: ¬hp'.n=l:=by omega
 have q2: ¬h.n=hp'.n:=by omega
 have q3: ¬hp'.n=h.n:=by omega
 have q4: ¬h.n+1=hp'.n:=by omega
 have q5: ¬hp'.n=h.n+1:=by omega
 simp only [go_sem,seval,f0,f2,f3]
 refine ccall (fy_take (l:=l) (s:=x.s) (d:=x.d) (by simp only;omega) hx.1 (by simp only;exact hb1) W [59]) (by simp only [go_sem,seval,f0]) ?_
 cases ht:takeS ts [59] x.s with
 |false=>
  rw [if_neg (by simp [ht])] at hG
  subst hG
  rw [show goS ts [59] x.s=x.s by unfold goS;rw [if_neg (by simp [ht])]]
  simp only [go_sem,seval,f0,f2,f3,hb3,hcs,ht9,hd9,hlen,hb2,n0,n1,m0,m1,p0,p1]
  exact ⟨wk_refl _,lab_pavf _ _,shrink_rY (by simp only;omega) (fun q hq hne=>by simp [bk_apply,hne,show q≠h.n by omega];exact hbo q hq hne) (by simp [bk_apply,n0])⟩
 |true=>
  have hlt:=goS_lt ht
  rw [if_pos ht] at hG
  have h1:=hx.to (goS_ok (c:= [59]) W.Nx hx.1) (fun e=>goS_st e)
  have a1:An n ⟨goS ts [59] x.s,x.d⟩:=ha.to (fun e=>goS_st e)
  generalize hx1:(⟨goS ts [59] x.s,x.d⟩:Sf)=x1 at *
  have e1s:goS ts [59] x.s=x1.s:=by rw [←hx1]
  have e1d:x.d=x1.d:=by rw [←hx1]
  rw [e1s] at hlt ⊢
  rw [e1d]
  simp only [go_sem,seval,f0,f2,f3]
  refine ccall (fy_take (l:=l) (s:=x1.s) (d:=x1.d) (by simp;omega) h1.1 (by simp [bk_apply]) W [92,43]) (by simp only [go_sem,seval,f0]) ?_
  unfold rowBF at hG
  cases ht2:takeS ts [92,43] x1.s with
  |false=>
   rw [if_neg (by simp [ht2])] at hG
   rw [show goS ts [92,43] x1.s=x1.s by unfold goS;rw [if_neg (by simp [ht2])]]
   obtain ⟨k3,k4,k5⟩:=go x1 h1 a1
   have k6:=go.an h1 a1
   have hO:=fun (H:Hp) (b1:l<H.n) (b2:H.bk l=rfX ts x1.s x1.d)=>ho H l x1 b1 h1 a1 b2
   generalize oneF pat ts x1=R at *
   obtain ⟨o,x3⟩:=R
   simp only at k3 k4 k6 hG hO
   simp only [go_sem,seval,f0,f2,f3,q0,q1,q2,q3,q4,q5,hb3,hcs,ht9,hd9,hlen,n1,m1]
   refine ⟨?_, ?_⟩
   iterate 2
    ·skip
     refine ccallD rfl (hO _ (by simp;omega) (by simp [bk_apply,q0,q1])) (by simp only [go_sem,seval,f0]) ?_
     simp only [go_sem,seval,f0,f2,f3,q0,q1,q2,q3,q4,q5,hb3,hcs,ht9,hd9,hlen,n1,m1]
     refine pcallD (hTw 2 o) (by simp only [go_sem,seval]) ?_
     simp only [go_sem,seval,f0,f2,f3,q0,q1,q2,q3,q4,q5,hb3,hcs,ht9,hd9,hlen,n1,m1]
     exact ⟨m,by omega, .mk 2 zT 0 [p] [o] [],_,x3,rfl,by rw [zT,pavf_mk];rfl,k3,k6,by omega,by omega,rfl,rfl,by simp [m0];exact hb2,fun q hq hne=>by simp [hne,show q≠h.n+1 by omega,show q≠hp'.n by omega];exact hbo q hq hne,hG⟩
  |true=>
   rw [if_pos ht2] at hG
   have he1:x1.s.er=none:=by unfold takeS at ht2;simp at ht2;exact ht2.1
   obtain ⟨nm,rfl⟩:=an_pos h1 a1 he1
   have h2:=h1.to (goS_ok (c:= [92,43]) W.Nx h1.1) (fun e=>goS_st e)
   have a2:An (nm+1) ⟨goS ts [92,43] x1.s,x1.d⟩:=a1.to (fun e=>goS_st e)
   have i2:=goS_i ts [92,43] x1.s
   generalize hx2:(⟨goS ts [92,43] x1.s,x1.d⟩:Sf)=x2 at *
   have e2s:goS ts [92,43] x1.s=x2.s:=by rw [←hx2]
   have e2d:x1.d=x2.d:=by rw [←hx2]
   rw [e2s] at i2 ⊢
   rw [e2d]
   obtain ⟨k5,k6,k7⟩:=within_gf W (gp nm rfl) h2 a2
   unfold withinF at hG k5 k6 k7
   simp only at hG k5 k6 k7
   obtain ⟨b1,b2,b3⟩:=open_ok W h2
   have ka:An nm (openF ts x2):=fun e=>by rw [(b3 e).2];have:=a2 (b3 e).1;push_cast at this;omega
   obtain ⟨b4,b5,b6⟩:=gp nm rfl _ b1 ka
   have hO:=fun (H:Hp) (c1:l<H.n) (c2:H.bk l=rfX ts x2.s x2.d)=>fy_open (h:=H) c1 h2.1 c2 W
   rw [show (⟨x2.s,x2.d⟩:Sf)=x2 from rfl] at hO
   have hP:=fun (H:Hp) (c1:l<H.n) (c2:H.bk l=rfX ts (openF ts x2).s (openF ts x2).d)=>hp nm rfl H l _ c1 b1 ka c2
   generalize openF ts x2=x3 at *
   generalize pat x3=R at *
   obtain ⟨w,x4⟩:=R
   simp only at b4 b5 b6 hP hG k5 k6 k7
   have hC:=fun (H:Hp) (c1:l<H.n) (c2:H.bk l=rfX ts x4.s x4.d)=>fy_close (h:=H) c1 b4.1 c2 W
   rw [show (⟨x4.s,x4.d⟩:Sf)=x4 from rfl] at hC
   generalize closeF ts x4=x5 at *
   have hMu:=fun (H:Hp) (c1:l<H.n) (c2:H.bk l=rfX ts x5.s x5.d)=>fy_must (h:=H) c1 k5.1 c2 W 4 [59]
   rw [needK_4] at hMu
   have h6:=k5.to (needS_ok (c:= [59]) W.Nx k5.1) (fun e=>needS_st e)
   have i6:=needS_i ts [59] x5.s
   have a6:An (nm+1) ⟨needS ts [59] x5.s,x5.d⟩:=fun e=>by
    obtain ⟨c1,c2⟩:=k7 (needS_st e)
    show 100<x5.d+_
    rw [c2];exact a2 c1
   generalize hx6:(⟨needS ts [59] x5.s,x5.d⟩:Sf)=x6 at *
   have e6s:needS ts [59] x5.s=x6.s:=by rw [←hx6]
   have e6d:x5.d=x6.d:=by rw [←hx6]
   rw [e6s] at i6 hMu
   obtain ⟨k13,k14,k15⟩:=go x6 h6 a6
   have k16:=go.an h6 a6
   have hO2:=fun (H:Hp) (b1:l<H.n) (b2:H.bk l=rfX ts x6.s x6.d)=>ho H l x6 b1 h6 a6 b2
   generalize oneF pat ts x6=R at *
   obtain ⟨o,x7⟩:=R
   simp only at k13 k14 k16 hG hO2
   simp only [go_sem,seval,f0,f2,f3,q0,q1,q2,q3,q4,q5]
   refine ccall (hO _ (by simp;omega) (by simp [bk_apply,q0,q1])) (by simp only [go_sem,seval,f0]) ?_
   simp only [go_sem,seval,f0,f2,f3,q0,q1,q2,q3,q4,q5]
   refine ccall (hP _ (by simp;omega) (by simp [bk_apply,q0,q1])) (by simp only [go_sem,seval,f0]) ?_
   simp only [go_sem,seval,f0,f2,f3,q0,q1,q2,q3,q4,q5]
   refine ccall (hC _ (by simp;omega) (by simp [bk_apply,q0,q1])) (by simp only [go_sem,seval,f0]) ?_
   simp only [go_sem,seval,f0,f2,f3,q0,q1,q2,q3,q4,q5]
   refine ccall (hMu _ (by simp;omega) (by simp [bk_apply,q0,q1])) (by simp only [go_sem,seval,f0]) ?_
   rw [e6d]
   simp only [go_sem,seval,f0,f2,f3,q0,q1,q2,q3,q4,q5,hb3,hcs,ht9,hd9,hlen,n1,m1]
   refine ⟨?_, ?_⟩
   iterate 2
    ·skip
     refine ccallD rfl (hO2 _ (by simp;omega) (by simp [bk_apply,q0,q1])) (by simp only [go_sem,seval,f0]) ?_
     simp only [go_sem,seval,f0,f2,f3,q0,q1,q2,q3,q4,q5,hb3,hcs,ht9,hd9,hlen,n1,m1]
     refine pcallD (hTw 5 o) (by simp only [go_sem,seval]) ?_
     simp only [go_sem,seval,f0,f2,f3,q0,q1,q2,q3,q4,q5,hb3,hcs,ht9,hd9,hlen,n1,m1]
     exact ⟨m,by omega, .mk 5 zT 0 [p] [o] [w],_,x7,rfl,by rw [zT,pavf_mk];rfl,k13,k16,by omega,by omega,rfl,rfl,by simp [m0,q2];exact hb2,fun q hq hne=>by simp [hne,show q≠h.n+1 by omega,show q≠hp'.n by omega];exact hbo q hq hne,hG⟩
end Go.Proofs.YtnibelnjflhkgaaGreatDoor.Ab
namespace Go.Proofs.YtnibelnjflhkgaaGreatDoor.Ab
set_option linter.unusedVariables false
set_option linter.unusedSimpArgs false
set_option maxRecDepth 10000
theorem c200:compF Tryz.prog ow Tryz.f200=(some (43,([(.c 2 (.agg 9))],(.seq (.ops [(none,(.alloc 2 [(.int .i64 0),(.int .i64 0),(.str []),(.int .i64 0),(.sl .full 4 []),(.int .i64 0),(.sl .full 9 []),(.sl .full 9 []),(.sl .full 9 [])]))]) (.seq (.ops [(none,(.cp 6 0)),(none,(.call (some 7) (.k (.func 226 [] [])) [(.t 6)] (some 100))),(none,(.alloc 3 [(.int .i64 0),(.int .i64 0),(.str []),(.int .i64 0),(.sl .full 4 []),(.int .i64 0),(.sl .full 9 []),(.sl .full 9 []),(.sl .full 9 [])])),(none,(.st (.t 3) (.t 7) 9))]) (.seq (.seq (.ops [(none,(.cp 8 0)),(none,(.call (some 9) (.k (.func 54 [] [])) [(.t 8),(.k (.str [64]))] none)),(none,(.un (some 10) .not (.t 9)))]) (.cond (.t 10) (.seq (.ops [(none,(.ld (some 11) (.t 3) (.agg 9))),(none,(.st (.t 2) (.t 11) 9))]) .ret) .skip)) (.seq (.ops [(none,(.cp 12 0)),(none,(.call (some 13) (.k (.func 52 [] [])) [(.t 12)] (some 100))),(none,(.alloc 4 [(.int .i64 0),(.str []),(.int .i64 0),(.int .i64 0)])),(none,(.st (.t 4) (.t 13) 4))]) (.seq (.ops [(none,(.fa (some 14) (.t 4) 1)),(none,(.ld (some 15) (.t 14) (.one none))),(none,(.call (some 16) (.k (.func 227 [] [])) [(.t 15)] none)),(none,(.mv 5 16))]) (.seq (.seq (.ops [(none,(.fa (some 17) (.t 4) 0)),(none,(.ld (some 18) (.t 17) (.one none))),(none,(.bin (some 19) .neq (.t 18) (.k (.int .i64 1)) false false)),(none,(.cp 20 19)),((some (20,false)),(.cp 21 5)),((some (20,false)),(.bin (some 22) .eql (.t 21) (.k (.int .i64 0)) false false)),(none,(.pick (some 23) (.t 20) (.k (.bool true)) (.t 22)))]) (.cond (.t 23) (.seq (.ops [(none,(.cp 24 0)),(none,(.fa (some 25) (.t 4) 3)),(none,(.ld (some 26) (.t 25) (.one none))),(none,(.call (some 27) (.k (.func 58 [] [])) [(.t 24),(.k (.int .i64 4)),(.t 26)] none))]) (.seq (.ops [(none,(.ld (some 28) (.t 3) (.agg 9))),(none,(.st (.t 2) (.t 28) 9))]) .ret)) .skip)) (.seq (.ops [(none,(.cp 29 0)),(none,(.nil (some 30) (.t 29))),(none,(.fa (some 31) (.t 30) 1)),(none,(.ld (some 32) (.t 31) (.one none))),(none,(.bin (some 33) .add (.t 32) (.k (.int .i64 1)) false false)),(none,(.nil (some 34) (.t 29))),(none,(.fa (some 35) (.t 34) 1)),(none,(.st (.t 35) (.t 33) 1))]) (.seq (.opsT (.one none (.cp 37 0) (.alt none (.ld (some 36) (.t 3) (.agg 9)) (.one none (.call (some 38) (.k (.func 226 [] [])) [(.t 37)] (some 100)) (.one none (.call (some 39) (.k (.func 156 [] [])) [(.k (.int .i64 6)),(.t 36),(.t 38)] none) (.one none (.st (.t 3) (.t 39) 9) .done))) (.alt none (.call (some 38) (.k (.func 226 [] [])) [(.t 37)] (some 100)) (.one none (.ld (some 36) (.t 3) (.agg 9)) (.one none (.call (some 39) (.k (.func 156 [] [])) [(.k (.int .i64 6)),(.t 36),(.t 38)] none) (.one none (.st (.t 3) (.t 39) 9) .done))) .nil)))) (.seq (.ops [(none,(.cp 40 5)),(none,(.fa (some 41) (.t 3) 5)),(none,(.st (.t 41) (.t 40) 1))]) (.seq (.ops [(none,(.ld (some 42) (.t 3) (.agg 9))),(none,(.st (.t 2) (.t 42) 9))]) .ret))))))))))))):=by kernel_rfl
theorem c155:compF Tryz.prog ow Tryz.f155=(some (13,([(.c 2 (.agg 9))],(.seq (.ops [(none,(.alloc 2 [(.int .i64 0),(.int .i64 0),(.str []),(.int .i64 0),(.sl .full 4 []),(.int .i64 0),(.sl .full 9 []),(.sl .full 9 []),(.sl .full 9 [])]))]) (.seq (.ops [(none,(.cp 4 0)),(none,(.call (some 5) (.k (.func 200 [] [])) [(.t 4)] (some 100))),(none,(.alloc 3 [(.int .i64 0),(.int .i64 0),(.str []),(.int .i64 0),(.sl .full 4 []),(.int .i64 0),(.sl .full 9 []),(.sl .full 9 []),(.sl .full 9 [])])),(none,(.st (.t 3) (.t 5) 9))]) (.seq (.block 0 (.loop (.seq (.seq (.ops [(none,(.cp 6 0)),(none,(.call (some 7) (.k (.func 54 [] [])) [(.t 6),(.k (.str [38]))] none))]) (.cond (.t 7) .skip (.exit 0))) (.block 1 (.opsT (.one none (.cp 9 0) (.alt none (.ld (some 8) (.t 3) (.agg 9)) (.one none (.call (some 10) (.k (.func 200 [] [])) [(.t 9)] (some 100)) (.one none (.call (some 11) (.k (.func 156 [] [])) [(.k (.int .i64 3)),(.t 8),(.t 10)] none) (.one none (.st (.t 3) (.t 11) 9) .done))) (.alt none (.call (some 10) (.k (.func 200 [] [])) [(.t 9)] (some 100)) (.one none (.ld (some 8) (.t 3) (.agg 9)) (.one none (.call (some 11) (.k (.func 156 [] [])) [(.k (.int .i64 3)),(.t 8),(.t 10)] none) (.one none (.st (.t 3) (.t 11) 9) .done))) .nil)))))))) (.seq (.ops [(none,(.ld (some 12) (.t 3) (.agg 9))),(none,(.st (.t 2) (.t 12) 9))]) .ret))))))):=by kernel_rfl
theorem c104:compF Tryz.prog ow Tryz.f104=(some (13,([(.c 2 (.agg 9))],(.seq (.ops [(none,(.alloc 2 [(.int .i64 0),(.int .i64 0),(.str []),(.int .i64 0),(.sl .full 4 []),(.int .i64 0),(.sl .full 9 []),(.sl .full 9 []),(.sl .full 9 [])]))]) (.seq (.ops [(none,(.cp 4 0)),(none,(.call (some 5) (.k (.func 155 [] [])) [(.t 4)] (some 100))),(none,(.alloc 3 [(.int .i64 0),(.int .i64 0),(.str []),(.int .i64 0),(.sl .full 4 []),(.int .i64 0),(.sl .full 9 []),(.sl .full 9 []),(.sl .full 9 [])])),(none,(.st (.t 3) (.t 5) 9))]) (.seq (.block 0 (.loop (.seq (.seq (.ops [(none,(.cp 6 0)),(none,(.call (some 7) (.k (.func 54 [] [])) [(.t 6),(.k (.str [124]))] none))]) (.cond (.t 7) .skip (.exit 0))) (.block 1 (.opsT (.one none (.cp 9 0) (.alt none (.ld (some 8) (.t 3) (.agg 9)) (.one none (.call (some 10) (.k (.func 155 [] [])) [(.t 9)] (some 100)) (.one none (.call (some 11) (.k (.func 156 [] [])) [(.k (.int .i64 4)),(.t 8),(.t 10)] none) (.one none (.st (.t 3) (.t 11) 9) .done))) (.alt none (.call (some 10) (.k (.func 155 [] [])) [(.t 9)] (some 100)) (.one none (.ld (some 8) (.t 3) (.agg 9)) (.one none (.call (some 11) (.k (.func 156 [] [])) [(.k (.int .i64 4)),(.t 8),(.t 10)] none) (.one none (.st (.t 3) (.t 11) 9) .done))) .nil)))))))) (.seq (.ops [(none,(.ld (some 12) (.t 3) (.agg 9))),(none,(.st (.t 2) (.t 12) 9))]) .ret))))))):=by kernel_rfl
set_option maxHeartbeats 4000000 in
theorem fy_pair {row:Sf→Pn×Sf} {ts:List Tk} (W:Wds ts) {n:Nat} (gr:Gf ts n row) (hr:PFy 226 ts n row):PFy 200 ts n (pairF row ts):=by
 intro h l x hl hx ha hb
 have n0: ¬l=h.n:=by omega
 have n1: ¬l=h.n+1:=by omega
 have n2: ¬l=h.n+2:=by omega
 have m0: ¬h.n=l:=by omega
 have m1: ¬h.n+1=l:=by omega
 have m2: ¬h.n+2=l:=by omega
 have p0: ¬h.n=h.n+1:=by omega
 have p1: ¬h.n+1=h.n:=by omega
 have p2: ¬h.n=h.n+2:=by omega
 have p3: ¬h.n+2=h.n:=by omega
 have p4: ¬h.n+1=h.n+2:=by omega
 have p5: ¬h.n+2=h.n+1:=by omega
 refine fnC mixed Tryz.func200 c200 (by simp) ?_
 simp only [go_sem,seval]
 refine ccall (hr _ l x (by simp;omega) hx ha (by simp [bk_apply,n0,hb])) (by simp only [go_sem,seval]) ?_
 unfold pairF
 obtain ⟨k1,k2,k3⟩:=gr x hx ha
 have ka:=gr.an hx ha
 have hrr:=fun (H:Hp) (y:Sf) (a1:l<H.n) (a2:FOk ts y) (a3:An n y) (a4:H.bk l=rfX ts y.s y.d)=>hr H l y a1 a2 a3 a4
 generalize row x=R at *
 obtain ⟨p,x0⟩:=R
 simp only at k1 k2 k3 ka ⊢
 simp only [go_sem,seval,n0,n1,m0,m1,p0,p1]
 refine ccall (fy_take (l:=l) (s:=x0.s) (d:=x0.d) (by simp;omega) k1.1 (by simp [bk_apply,n0,n1]) W [64]) (by simp only [go_sem,seval]) ?_
 cases ht:takeS ts [64] x0.s with
 |false=>
  rw [show goS ts [64] x0.s=x0.s by unfold goS;rw [if_neg (by simp [ht])]]
  rw [if_neg (by simp)]
  simp only [go_sem,seval,n0,n1,m0,m1,p0,p1]
  exact ⟨by first|rfl|exact wk_refl _,lab_pavf _ _,shrink_rY (by simp) (fun q hq hne=>by simp [bk_apply,hne,show q≠h.n by omega,show q≠h.n+1 by omega]) (by simp [bk_apply,n0,n1])⟩
 |true=>
  rw [if_pos rfl]
  have h1:=k1.to (goS_ok (c:= [64]) W.Nx k1.1) (fun e=>goS_st e)
  have a1:An n ⟨goS ts [64] x0.s,x0.d⟩:=ka.to (fun e=>goS_st e)
  have he1:(goS ts [64] x0.s).er=none:=by unfold goS;rw [if_pos ht]
  generalize hx1:(⟨goS ts [64] x0.s,x0.d⟩:Sf)=x1 at *
  have e1s:goS ts [64] x0.s=x1.s:=by rw [←hx1]
  have e1d:x0.d=x1.d:=by rw [←hx1]
  rw [e1s] at he1 ⊢
  rw [e1d]
  unfold pairBF
  have hi1:=h1.1.1
  have hL:=W.len
  have hw:IntKind.i64.wrap ((x1.s.i:Int)+1)=((x1.s.i+1:Nat):Int):=by rw [wrap64]<;>omega
  have hT: ∀H:Hp,l<H.n→H.bk l=rfX ts x1.s x1.d→Fn Tryz.prog 52 [.ptr l 0] H (.agg [.int .i64 (tkS ts x1.s).k, .str (tkS ts x1.s).s, .int .i64 (tkS ts x1.s).n, .int .i64 ((tkS ts x1.s).p:Nat)]) H:=fun H a b=>fy_now (h:=H) a h1.1 b
  have hO:=fns_rRelOf (tkS ts x1.s).s
  have hk5:=fun h:badRel (tkS ts x1.s)=false=>W.Nx x1.s.i _ (tkS_get h1.1) (badRel_k h)
  generalize ht1:tkS ts x1.s=t at *
  generalize hrel:relOf t.s=rel at *
  have hbr:badRel t=(!(t.k==1)||(rel==0)):=by unfold badRel;rw [hrel]
  have hrf:rfX ts x1.s x1.d= .cells [.sl .sh 4 (ts.map Tk.av), .int .i64 (x1.s.i:Nat), .int .i64 (erE x1.s.er), .int .i64 ((erP 0 x1.s.er:Nat):Int), .int .i64 x1.d]:=rfl
  simp only [go_sem,seval,n0,n1,n2,m0,m1,m2,p0,p1,p2,p3,p4,p5]
  refine ccall (hT _ (by simp;omega) (by simp [bk_apply,n0,n1,m0,m1])) (by simp only [go_sem,seval]) ?_
  simp only [go_sem,seval,n0,n1,n2,m0,m1,m2,p0,p1,p2,p3,p4,p5]
  refine pcall hO (by simp only [go_sem,seval]) ?_
  cases hb2:badRel t with
  |false=>
   rw [hb2] at hbr
   have hb3:=hbr.symm
   simp only [Bool.or_eq_false_iff,Bool.not_eq_false'] at hb3
   have e1:(t.k !=1)=false:=by simp [bne,hb3.1]
   have e2:(rel==0)=false:=hb3.2
   have h5:=hk5 hb2
   rw [if_neg (by simp)]
   have h2:SOk ts ⟨x1.s.i+1,x1.s.er⟩:=⟨h5,h1.1.2⟩
   have h3:=h1.to h2 (fun e=>e)
   have a3:An n ⟨⟨x1.s.i+1,x1.s.er⟩,x1.d⟩:=a1.to (fun e=>e)
   have hR:=fun (H:Hp) (b1:l<H.n) (b2:H.bk l=rfX ts ⟨x1.s.i+1,x1.s.er⟩ x1.d)=>hrr H ⟨⟨x1.s.i+1,x1.s.er⟩,x1.d⟩ b1 h3 a3 b2
   have hrf2:rfX ts ⟨x1.s.i+1,x1.s.er⟩ x1.d= .cells [.sl .sh 4 (ts.map Tk.av), .int .i64 ((x1.s.i+1:Nat):Int), .int .i64 (erE x1.s.er), .int .i64 ((erP 0 x1.s.er:Nat):Int), .int .i64 x1.d]:=rfl
   generalize row ⟨⟨x1.s.i+1,x1.s.er⟩,x1.d⟩=R at *
   obtain ⟨r,x3⟩:=R
   simp only at hR ⊢
   simp only [go_sem,seval,e1,e2,hrf,hw,n0,n1,n2,m0,m1,m2,p0,p1,p2,p3,p4,p5]
   rw [←hrf2]
   refine ⟨?_, ?_⟩
   iterate 2
    ·skip
     refine ccallD rfl (hR _ (by simp;omega) (by simp [bk_apply,n0,n1,n2,m0,m1,m2])) (by simp only [go_sem,seval]) ?_
     simp only [go_sem,seval,n0,n1,n2,m0,m1,m2,p0,p1,p2,p3,p4,p5]
     refine pcallD (fy_two 6 p r) (by simp only [go_sem,seval]) ?_
     simp only [go_sem,seval,n0,n1,n2,m0,m1,m2,p0,p1,p2,p3,p4,p5]
     exact ⟨by rw [zT,pavf_mk];rfl,lab_pavf _ _,shrink_rY (by simp) (fun q hq hne=>by simp [bk_apply,hne,show q≠h.n by omega,show q≠h.n+1 by omega,show q≠h.n+2 by omega]) (by simp [bk_apply,n0,n1,n2])⟩
  |true=>
   rw [hb2] at hbr
   rw [if_pos rfl]
   cases e1:(t.k !=1) with
   |true=>
    simp only [go_sem,seval,e1,n0,n1,n2,m0,m1,m2,p0,p1,p2,p3,p4,p5]
    refine ccall (fy_fails (l:=l) (s:=x1.s) (d:=x1.d) (by simp;omega) h1.1 (by simp [bk_apply,n0,n1,n2,m0,m1,m2]) t.p 4) (by simp only [go_sem,seval]) ?_
    simp only [go_sem,seval,n0,n1,n2,m0,m1,m2,p0,p1,p2,p3,p4,p5]
    exact ⟨by first|rfl|exact wk_refl _,lab_pavf _ _,shrink_rY (by simp) (fun q hq hne=>by simp [bk_apply,hne,show q≠h.n by omega,show q≠h.n+1 by omega,show q≠h.n+2 by omega]) (by simp [bk_apply,n0,n1,n2])⟩
   |false=>
    have e3:(t.k==1)=true:=by simpa [bne] using e1
    have e2:(rel==0)=true:=by
     rw [e3] at hbr
     simpa using hbr.symm
    simp only [go_sem,seval,e1,e2,n0,n1,n2,m0,m1,m2,p0,p1,p2,p3,p4,p5]
    refine ccall (fy_fails (l:=l) (s:=x1.s) (d:=x1.d) (by simp;omega) h1.1 (by simp [bk_apply,n0,n1,n2,m0,m1,m2]) t.p 4) (by simp only [go_sem,seval]) ?_
    simp only [go_sem,seval,n0,n1,n2,m0,m1,m2,p0,p1,p2,p3,p4,p5]
    exact ⟨by first|rfl|exact wk_refl _,lab_pavf _ _,shrink_rY (by simp) (fun q hq hne=>by simp [bk_apply,hne,show q≠h.n by omega,show q≠h.n+1 by omega,show q≠h.n+2 by omega]) (by simp [bk_apply,n0,n1,n2])⟩
theorem fy_both {part:Sf→Pn×Sf} {ts:List Tk} (W:Wds ts) {n:Nat} (gp:Gf ts n part) (hp:PFy 200 ts n part):PFy 155 ts n (chainF part 3 [38] ts):=by
 intro h l x hl hx ha hb
 have n0: ¬l=h.n:=by omega
 have n1: ¬l=h.n+1:=by omega
 have m0: ¬h.n=l:=by omega
 have m1: ¬h.n+1=l:=by omega
 have p0: ¬h.n=h.n+1:=by omega
 have p1: ¬h.n+1=h.n:=by omega
 refine fnC mixed Tryz.func155 c155 (by simp) ?_
 simp only [go_sem,seval]
 refine ccall (hp _ l x (by simp;omega) hx ha (by simp [bk_apply,n0,hb])) (by simp only [go_sem,seval]) ?_
 unfold chainF
 obtain ⟨k1,k2,k3⟩:=gp x hx ha
 have ka:=gp.an hx ha
 have hpp:=fun (H:Hp) (y:Sf) (a1:l<H.n) (a2:FOk ts y) (a3:An n y) (a4:H.bk l=rfX ts y.s y.d)=>hp H l y a1 a2 a3 a4
 generalize part x=R at *
 obtain ⟨p0',x0⟩:=R
 simp only at k1 k2 k3 ka ⊢
 simp only [go_sem,seval,n0,n1,m0,m1,p0,p1]
 have hi0:=k1.1.1
 generalize hG:loopF ts [38] (chainBF part 3) ts.length p0' x0=G
 refine cloop (fun m t=> ∃(p:Pn) (x:Sf),FOk ts x∧An n x∧ts.length≤m+x.s.i∧t.fr 0= .ptr l 0∧t.fr 2= .ptr h.n 0∧t.fr 3= .ptr (h.n+1) 0∧h.n+2≤t.hp.n∧t.hp.bk l=rfX ts x.s x.d∧t.hp.bk (h.n+1)= .cells p.avf.cells∧
  t.hp.bk h.n= .cells [.int .i64 0, .int .i64 0, .str [], .int .i64 0, .sl .full 4 [], .int .i64 0, .sl .full 9 [], .sl .full 9 [], .sl .full 9 []]∧(∀q,q<h.n→q≠l→t.hp.bk q=h.bk q)∧loopF ts [38] (chainBF part 3) m p x=G) ts.length
  ⟨p0',x0,k1,ka,by omega,by simp [fr_apply,argsF],by simp [fr_apply],by simp [fr_apply],by simp,by simp [bk_apply,n0,n1],by simp [bk_apply,p1,m1],by simp [bk_apply,p0,m0],fun q hq hne=>by simp [bk_apply,hne,show q≠h.n by omega,show q≠h.n+1 by omega],hG⟩ ?_
 clear hG k1 k2 k3 ka hi0 hx ha hb
 rintro m ⟨F,hp'⟩ ⟨p,x,hx,ha,hm,f0,f2,f3,hn,hb1,hb3,hb2,hbo,hG⟩
 simp only at f0 f2 f3 hn hb1 hb2 hb3 hbo
 have hi:=hx.1.1
 obtain ⟨m,rfl⟩: ∃m',m=m' +1:=⟨m-1,by omega⟩
 rw [loopF] at hG
 simp only [go_sem,seval,f0,f2,f3]
 refine ccall (fy_take (l:=l) (s:=x.s) (d:=x.d) (by simp only;omega) hx.1 (by simp only;exact hb1) W [38]) (by simp only [go_sem,seval,f0]) ?_
 cases ht:takeS ts [38] x.s with
 |false=>
  rw [if_neg (by simp [ht])] at hG
  subst hG
  rw [show goS ts [38] x.s=x.s by unfold goS;rw [if_neg (by simp [ht])]]
  simp only [go_sem,seval,f0,f2,f3,hb3,hb2,n0,n1,m0,m1,p0,p1]
  exact ⟨wk_refl _,lab_pavf _ _,shrink_rY (by simp only;omega) (fun q hq hne=>by simp [bk_apply,hne,show q≠h.n by omega];exact hbo q hq hne) (by simp [bk_apply,n0])⟩
 |true=>
  have hlt:=goS_lt ht
  rw [if_pos ht] at hG
  have h1:=hx.to (goS_ok (c:= [38]) W.Nx hx.1) (fun e=>goS_st e)
  have a1:An n ⟨goS ts [38] x.s,x.d⟩:=ha.to (fun e=>goS_st e)
  generalize hx1:(⟨goS ts [38] x.s,x.d⟩:Sf)=x1 at *
  have e1s:goS ts [38] x.s=x1.s:=by rw [←hx1]
  have e1d:x.d=x1.d:=by rw [←hx1]
  rw [e1s] at hlt ⊢
  rw [e1d]
  have hE:chainBF part 3 p x1=(.mk 3 zT 0 [p] [(part x1).1] [],(part x1).2):=rfl
  rw [hE] at hG
  obtain ⟨k3,k4,k5⟩:=gp x1 h1 a1
  have k6:=gp.an h1 a1
  have hO:=fun (H:Hp) (b1:l<H.n) (b2:H.bk l=rfX ts x1.s x1.d)=>hpp H x1 b1 h1 a1 b2
  generalize hR:part x1=R at *
  obtain ⟨o,x3⟩:=R
  simp only at k3 k4 k6 hG hO
  simp only [go_sem,seval,f0,f2,f3,hb3,n0,n1,m0,m1,p0,p1]
  refine ⟨?_, ?_⟩
  iterate 2
   ·skip
    refine ccallD rfl (hO _ (by simp;omega) (by simp [bk_apply])) (by simp only [go_sem,seval,f0]) ?_
    simp only [go_sem,seval,f0,f2,f3,hb3,n0,n1,m0,m1,p0,p1]
    refine pcallD (fy_two 3 p o) (by simp only [go_sem,seval]) ?_
    simp only [go_sem,seval,f0,f2,f3,hb3,n0,n1,m0,m1,p0,p1]
    exact ⟨m,by omega, .mk 3 zT 0 [p] [o] [],x3,k3,k6,by omega,hn,rfl,by rw [pavf_drop,zT,pavf_mk];rfl,hb2,fun q hq hne=>by simp [hne,show q≠h.n+1 by omega];exact hbo q hq hne,hG⟩
theorem fy_pattern {part:Sf→Pn×Sf} {ts:List Tk} (W:Wds ts) {n:Nat} (gp:Gf ts n part) (hp:PFy 155 ts n part):PFy 104 ts n (chainF part 4 [124] ts):=by
 intro h l x hl hx ha hb
 have n0: ¬l=h.n:=by omega
 have n1: ¬l=h.n+1:=by omega
 have m0: ¬h.n=l:=by omega
 have m1: ¬h.n+1=l:=by omega
 have p0: ¬h.n=h.n+1:=by omega
 have p1: ¬h.n+1=h.n:=by omega
 refine fnC mixed Tryz.func104 c104 (by simp) ?_
 simp only [go_sem,seval]
 refine ccall (hp _ l x (by simp;omega) hx ha (by simp [bk_apply,n0,hb])) (by simp only [go_sem,seval]) ?_
 unfold chainF
 obtain ⟨k1,k2,k3⟩:=gp x hx ha
 have ka:=gp.an hx ha
 have hpp:=fun (H:Hp) (y:Sf) (a1:l<H.n) (a2:FOk ts y) (a3:An n y) (a4:H.bk l=rfX ts y.s y.d)=>hp H l y a1 a2 a3 a4
 generalize part x=R at *
 obtain ⟨p0',x0⟩:=R
 simp only at k1 k2 k3 ka ⊢
 simp only [go_sem,seval,n0,n1,m0,m1,p0,p1]
 have hi0:=k1.1.1
 generalize hG:loopF ts [124] (chainBF part 4) ts.length p0' x0=G
 refine cloop (fun m t=> ∃(p:Pn) (x:Sf),FOk ts x∧An n x∧ts.length≤m+x.s.i∧t.fr 0= .ptr l 0∧t.fr 2= .ptr h.n 0∧t.fr 3= .ptr (h.n+1) 0∧h.n+2≤t.hp.n∧t.hp.bk l=rfX ts x.s x.d∧t.hp.bk (h.n+1)= .cells p.avf.cells∧
  t.hp.bk h.n= .cells [.int .i64 0, .int .i64 0, .str [], .int .i64 0, .sl .full 4 [], .int .i64 0, .sl .full 9 [], .sl .full 9 [], .sl .full 9 []]∧(∀q,q<h.n→q≠l→t.hp.bk q=h.bk q)∧loopF ts [124] (chainBF part 4) m p x=G) ts.length
  ⟨p0',x0,k1,ka,by omega,by simp [fr_apply,argsF],by simp [fr_apply],by simp [fr_apply],by simp,by simp [bk_apply,n0,n1],by simp [bk_apply,p1,m1],by simp [bk_apply,p0,m0],fun q hq hne=>by simp [bk_apply,hne,show q≠h.n by omega,show q≠h.n+1 by omega],hG⟩ ?_
 clear hG k1 k2 k3 ka hi0 hx ha hb
 rintro m ⟨F,hp'⟩ ⟨p,x,hx,ha,hm,f0,f2,f3,hn,hb1,hb3,hb2,hbo,hG⟩
 simp only at f0 f2 f3 hn hb1 hb2 hb3 hbo
 have hi:=hx.1.1
 obtain ⟨m,rfl⟩: ∃m',m=m' +1:=⟨m-1,by omega⟩
 rw [loopF] at hG
 simp only [go_sem,seval,f0,f2,f3]
 refine ccall (fy_take (l:=l) (s:=x.s) (d:=x.d) (by simp only;omega) hx.1 (by simp only;exact hb1) W [124]) (by simp only [go_sem,seval,f0]) ?_
 cases ht:takeS ts [124] x.s with
 |false=>
  rw [if_neg (by simp [ht])] at hG
  subst hG
  rw [show goS ts [124] x.s=x.s by unfold goS;rw [if_neg (by simp [ht])]]
  simp only [go_sem,seval,f0,f2,f3,hb3,hb2,n0,n1,m0,m1,p0,p1]
  exact ⟨wk_refl _,lab_pavf _ _,shrink_rY (by simp only;omega) (fun q hq hne=>by simp [bk_apply,hne,show q≠h.n by omega];exact hbo q hq hne) (by simp [bk_apply,n0])⟩
 |true=>
  have hlt:=goS_lt ht
  rw [if_pos ht] at hG
  have h1:=hx.to (goS_ok (c:= [124]) W.Nx hx.1) (fun e=>goS_st e)
  have a1:An n ⟨goS ts [124] x.s,x.d⟩:=ha.to (fun e=>goS_st e)
  generalize hx1:(⟨goS ts [124] x.s,x.d⟩:Sf)=x1 at *
  have e1s:goS ts [124] x.s=x1.s:=by rw [←hx1]
  have e1d:x.d=x1.d:=by rw [←hx1]
  rw [e1s] at hlt ⊢
  rw [e1d]
  have hE:chainBF part 4 p x1=(.mk 4 zT 0 [p] [(part x1).1] [],(part x1).2):=rfl
  rw [hE] at hG
  obtain ⟨k3,k4,k5⟩:=gp x1 h1 a1
  have k6:=gp.an h1 a1
  have hO:=fun (H:Hp) (b1:l<H.n) (b2:H.bk l=rfX ts x1.s x1.d)=>hpp H x1 b1 h1 a1 b2
  generalize hR:part x1=R at *
  obtain ⟨o,x3⟩:=R
  simp only at k3 k4 k6 hG hO
  simp only [go_sem,seval,f0,f2,f3,hb3,n0,n1,m0,m1,p0,p1]
  refine ⟨?_, ?_⟩
  iterate 2
   ·skip
    refine ccallD rfl (hO _ (by simp;omega) (by simp [bk_apply])) (by simp only [go_sem,seval,f0]) ?_
    simp only [go_sem,seval,f0,f2,f3,hb3,n0,n1,m0,m1,p0,p1]
    refine pcallD (fy_two 4 p o) (by simp only [go_sem,seval]) ?_
    simp only [go_sem,seval,f0,f2,f3,hb3,n0,n1,m0,m1,p0,p1]
    exact ⟨m,by omega, .mk 4 zT 0 [p] [o] [],x3,k3,k6,by omega,hn,rfl,by rw [pavf_drop,zT,pavf_mk];rfl,hb2,fun q hq hne=>by simp [hne,show q≠h.n+1 by omega];exact hbo q hq hne,hG⟩
theorem patB_all {pat:Sf→Pn×Sf} {ts:List Tk} (W:Wds ts) {n:Nat} (gp: ∀m,n=m+1→Gf ts m pat) (hp: ∀m,n=m+1→PFy 104 ts m pat):PFy 104 ts n (patB pat ts):=by
 have ho:=fy_one W gp hp
 have hr:=fy_row W gp hp ho
 have gr:=row_gf W gp
 have hpr:=fy_pair W gr hr
 have gpr:=pair_gf W gr
 have hb:=fy_both W gpr hpr
 exact fy_pattern W (chain_gf W gpr) hb
theorem patF_all {ts:List Tk} (W:Wds ts): ∀n,PFy 104 ts n (patF ts n)
 |0=>patB_all W (fun m h=>by omega) (fun m h=>by omega)
 |n+1=>patB_all W (fun m h=>by cases h;exact patF_gf W n) (fun m h=>by cases h;exact patF_all W n)
end Go.Proofs.YtnibelnjflhkgaaGreatDoor.Ab

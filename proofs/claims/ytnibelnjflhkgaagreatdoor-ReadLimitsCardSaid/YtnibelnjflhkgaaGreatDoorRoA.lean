/- Patterns as plain data; the program's reader's small functions over a state of words taken and error. No condition. The program's reader over states: names, words, brackets, a term. No condition. The program's reader over states: a term. No condition. The program's reader over states: a pattern in brackets, one of a row. No condition. Names of relations. No condition. -/
import Derived.Test.YtnibelnjflhkgaaGreatDoorRoZ
namespace Go.Proofs.YtnibelnjflhkgaaGreatDoor.Ab
set_option linter.unusedVariables false
set_option linter.unusedSimpArgs false
set_option maxRecDepth 10000
inductive Pn|mk (k:Int) (t:T) (rel:Int) (l r c:List Pn)
theorem Pn.ind {M:Pn→Prop} (h: ∀k t rel l r c,(∀x∈l,M x)→(∀x∈r,M x)→(∀x∈c,M x)→M (.mk k t rel l r c)): ∀p,M p
 | .mk k t rel l r c=>h k t rel l r c (fun x hx=>Pn.ind h x) (fun x hx=>Pn.ind h x) (fun x hx=>Pn.ind h x)
termination_by p=>SizeOf.sizeOf p
decreasing_by all_goals (have:=List.sizeOf_lt_of_mem hx;simp;omega)
def flP:List Pn→Fl| []=> .full|_=> .sh
mutual
def Pn.avf:Pn→AV| .mk k (.mk tk tn tv tl) rel l r c=> .agg [.int .i64 k, .int .i64 tk, .str tn, .int .i64 tv, .sl (flS tl) 4 (tl.map T.avf), .int .i64 rel, .sl (flP l) 9 (pavfs l), .sl (flP r) 9 (pavfs r), .sl (flP c) 9 (pavfs c)]
def pavfs:List Pn→List AV| []=> []|p::l=>p.avf::pavfs l
end
theorem pavfs_map: ∀l,pavfs l=l.map Pn.avf
 | []=>by rw [pavfs];rfl
 |p::l=>by rw [pavfs,pavfs_map l];rfl
theorem pavf_mk (k tk:Int) (tn:List UInt8) (tv:Int) (tl:List T) (rel:Int) (l r c:List Pn):(Pn.mk k (.mk tk tn tv tl) rel l r c).avf= .agg [.int .i64 k, .int .i64 tk, .str tn, .int .i64 tv, .sl (flS tl) 4 (tl.map T.avf), .int .i64 rel, .sl (flP l) 9 (l.map Pn.avf), .sl (flP r) 9 (r.map Pn.avf), .sl (flP c) 9 (c.map Pn.avf)]:=by
 rw [Pn.avf,pavfs_map,pavfs_map,pavfs_map]
theorem strip_flP (l:List Pn) (xs:List AV):strip (.sl (flP l) 9 xs)= .sl (flP l) 9 xs:=by cases l<;>rfl
theorem isOwn_flP (l:List Pn) (xs:List AV):isOwn (.sl (flP l) 9 xs)=false:=by cases l<;>rfl
theorem pavf_agg (p:Pn):AV.agg p.avf.cells=p.avf:=by obtain ⟨k,⟨tk,tn,tv,tl⟩,rel,l,r,c⟩:=p;rw [pavf_mk];rfl
theorem strip_pavf (p:Pn):strip p.avf=p.avf:=by obtain ⟨k,⟨tk,tn,tv,tl⟩,rel,l,r,c⟩:=p;rw [pavf_mk];rfl
theorem isOwn_pavf (p:Pn):isOwn p.avf=false:=by obtain ⟨k,⟨tk,tn,tv,tl⟩,rel,l,r,c⟩:=p;rw [pavf_mk];rfl
theorem pavf_len (p:Pn):p.avf.cells.length=9:=by obtain ⟨k,⟨tk,tn,tv,tl⟩,rel,l,r,c⟩:=p;rw [pavf_mk];rfl
theorem pavf_take (p:Pn):List.take 9 p.avf.cells=p.avf.cells:=by obtain ⟨k,⟨tk,tn,tv,tl⟩,rel,l,r,c⟩:=p;rw [pavf_mk];rfl
theorem pavf_okc (p:Pn):okc p.avf=true:=by obtain ⟨k,⟨tk,tn,tv,tl⟩,rel,l,r,c⟩:=p;rw [pavf_mk];rfl
theorem pavf_put (a b c d e f g h i:AV) (p:Pn):putCells [a,b,c,d,e,f,g,h,i] 0 p.avf.cells=p.avf.cells:=by obtain ⟨k,⟨tk,tn,tv,tl⟩,rel,l,r,c'⟩:=p;rw [pavf_mk];rfl
theorem pavf_self (p q:Pn):putCells p.avf.cells 0 q.avf.cells=q.avf.cells:=by
 obtain ⟨k,⟨tk,tn,tv,tl⟩,rel,l,r,c⟩:=p;obtain ⟨k',⟨tk',tn',tv',tl'⟩,rel',l',r',c'⟩:=q;rw [pavf_mk,pavf_mk];rfl
theorem pavf_cstrip (p:Pn):p.avf.cells.map strip=p.avf.cells:=by
 obtain ⟨k,⟨tk,tn,tv,tl⟩,rel,l,r,c⟩:=p;rw [pavf_mk];simp only [AV.cells,List.map_cons,List.map_nil,strip_flP,strip_flS];rfl
theorem lab_pavf (n:Nat): ∀p:Pn,labOK n p.avf=true:=by
 refine Pn.ind fun k t rel l r c h1 h2 h3=> ?_
 obtain ⟨tk,tn,tv,tl⟩:=t
 have hL: ∀m:List Pn,(∀x∈m,labOK n x.avf=true)→labL n (m.map Pn.avf)=true:=by
  intro m
  induction m with
  |nil=>intro _;rfl
  |cons x m ihm=>intro ih;simp [labL,ih x (by simp),ihm (fun y hy=>ih y (by simp [hy]))]
 have hT: ∀m:List T,labL n (m.map T.avf)=true:=by
  intro m
  induction m with
  |nil=>rfl
  |cons x m ihm=>simp [labL,lab_avf n x,ihm]
 rw [pavf_mk]
 simp [labOK,labL,hL l h1,hL r h2,hL c h3,hT]
attribute [go_sem] strip_flP isOwn_flP pavf_agg strip_pavf isOwn_pavf pavf_len pavf_take pavf_okc pavf_put pavf_self pavf_cstrip
def zPn:Pn:= .mk 0 (.mk 0 [] 0 []) 0 [] [] []
structure St where
 i:Nat
 er:Er
def SOk (ts:List Tk) (s:St):Prop:=s.i<ts.length∧ ∀e,s.er=some e→e.1≠0
def rdX (ts:List Tk) (s:St) (d:Int):Blk:=rdC .sh ts s.i d (erP 0 s.er) (erE s.er)
theorem erE_z {er:Er} (h: ∀e,er=some e→e.1≠0):(erE er==0)=er.isNone:=by
 cases er with
 |none=>rfl
 |some e=>simpa [erE] using h e rfl
def tkS (ts:List Tk) (s:St):Tk:=ts[s.i]?.getD ⟨5, [],0,0⟩
theorem tkS_get {ts:List Tk} {s:St} (h:SOk ts s):ts[s.i]? =some (tkS ts s):=by
 unfold tkS;rw [List.getElem?_eq_getElem h.1];rfl
def isS (t:Tk) (c:List UInt8):Bool:=t.k==4&&t.s==c
def failS (p:Nat) (e:Int) (s:St):St:=match s.er with|none=>⟨s.i,some (e,p)⟩|some _=>s
def stepS (ts:List Tk) (s:St):St:=match s.er with|none=>if ((tkS ts s).k !=5)=true then ⟨s.i+1,none⟩ else s|some _=>s
def takeS (ts:List Tk) (c:List UInt8) (s:St):Bool:=s.er.isNone&&isS (tkS ts s) c
def goS (ts:List Tk) (c:List UInt8) (s:St):St:=if takeS ts c s=true then ⟨s.i+1,none⟩ else s
def needS (ts:List Tk) (c:List UInt8) (s:St):St:=match s.er with|none=>if isS (tkS ts s) c=true then ⟨s.i+1,none⟩ else ⟨s.i,some (4,(tkS ts s).p)⟩|some _=>s
theorem failS_ok {ts:List Tk} {s:St} {p:Nat} {e:Int} (h:SOk ts s) (he:e≠0):SOk ts (failS p e s):=by
 obtain ⟨i,er⟩:=s
 cases er with
 |none=>exact ⟨h.1,fun e' h' =>by simp only [failS,Option.some.injEq] at h';subst h';exact he⟩
 |some _=>exact h
theorem stepS_ok {ts:List Tk} (N:Nx ts) {s:St} (h:SOk ts s):SOk ts (stepS ts s):=by
 have ht:=tkS_get h
 obtain ⟨i,er⟩:=s
 cases er with
 |none=>
  unfold stepS
  by_cases hk:((tkS ts ⟨i,none⟩).k !=5)=true
  ·simp only [hk,if_true];exact ⟨N i _ ht hk,fun e h' =>by cases h'⟩
  ·simp only [hk,if_false];exact h
 |some _=>exact h
theorem isS_ne5 {t:Tk} {c:List UInt8} (h:isS t c=true):(t.k !=5)=true:=mark_ne5 h
theorem goS_ok {ts:List Tk} (N:Nx ts) {s:St} {c:List UInt8} (h:SOk ts s):SOk ts (goS ts c s):=by
 unfold goS
 split
 ·rename_i h1
  simp only [takeS,Bool.and_eq_true] at h1
  exact ⟨N _ _ (tkS_get h) (isS_ne5 h1.2),fun e h' =>by cases h'⟩
 ·exact h
theorem needS_ok {ts:List Tk} (N:Nx ts) {s:St} {c:List UInt8} (h:SOk ts s):SOk ts (needS ts c s):=by
 have ht:=tkS_get h
 obtain ⟨i,er⟩:=s
 cases er with
 |none=>
  simp only [needS]
  split
  ·rename_i h1;exact ⟨N _ _ ht (isS_ne5 h1),fun e h' =>by cases h'⟩
  ·exact ⟨h.1,fun e h' =>by simp only [Option.some.injEq] at h';subst h';exact (by decide:(4:Int)≠0)⟩
 |some _=>exact h
theorem shrink_rX {h hp:Hp} {l:Nat} {ts:List Tk} {s:St} {d:Int} (h1:h.n≤hp.n) (h2: ∀k,k<h.n→k≠l→hp.bk k=h.bk k) (h3:hp.bk l=rdX ts s d):Shrink h hp ⟨h.n,updB h.bk l (rdX ts s d)⟩:=shrink_rdX h1 h2 h3
section
variable {h:Hp} {l:Nat} (hl:l<h.n) {ts:List Tk} (W:Wds ts) {s:St} {d:Int} (hs:SOk ts s) (hb:h.bk l=rdX ts s d)
include hl hs hb
theorem fx_token:Fn Tryz.prog 48 [.ptr l 0] h (.agg [.int .i64 (tkS ts s).k, .str (tkS ts s).s, .int .i64 (tkS ts s).n, .int .i64 ((tkS ts s).p:Nat)]) h:=fnu_token h l hl ts s.i d (erP 0 s.er) _ (tkS_get hs) (erE s.er) hb
theorem fx_ok:Fn Tryz.prog 47 [.ptr l 0] h (.bool s.er.isNone) h:=by
 have:=fnu_ok h l hl ts s.i d (erP 0 s.er) (erE s.er) hb
 rwa [erE_z hs.2] at this
theorem fx_fail (p:Nat) (e:Int):Fn Tryz.prog 99 [.ptr l 0, .int .i64 (p:Nat), .int .i64 e] h (.tup []) ⟨h.n,updB h.bk l (rdX ts (failS p e s) d)⟩:=by
 have:=fnl_rfail h l hl ts s.i d (erP 0 s.er) (erE s.er) hb p e
 rw [erE_z hs.2] at this
 obtain ⟨i,er⟩:=s
 cases er with
 |none=>exact this
 |some e' =>rw [show failS p e ⟨i,some e'⟩=⟨i,some e'⟩ from rfl,updB_self _ _ _ hb];exact this
include W
theorem fx_step:Fn Tryz.prog 143 [.ptr l 0] h (.tup []) ⟨h.n,updB h.bk l (rdX ts (stepS ts s) d)⟩:=by
 have:=fnl_rstep h l hl ts s.i (by have:=hs.1;have:=W.len;omega) d (erP 0 s.er) (erE s.er) hb _ (tkS_get hs)
 rw [erE_z hs.2] at this
 obtain ⟨i,er⟩:=s
 cases er with
 |none=>
  simp only [Option.isNone_none,Bool.true_and] at this
  unfold stepS
  by_cases hk:((tkS ts ⟨i,none⟩).k !=5)=true
  ·simp only [hk,if_true] at this ⊢;exact this
  ·have hk:((tkS ts ⟨i,none⟩).k !=5)=false:=by simpa using hk
   simp only [hk,Bool.false_eq_true,if_false] at this ⊢;rw [updB_self _ _ _ hb];exact this
 |some e' =>rw [show stepS ts ⟨i,some e'⟩=⟨i,some e'⟩ from rfl,updB_self _ _ _ hb];exact this
theorem fx_take (c:List UInt8):Fn Tryz.prog 144 [.ptr l 0, .str c] h (.bool (takeS ts c s)) ⟨h.n,updB h.bk l (rdX ts (goS ts c s) d)⟩:=by
 have:=fnl_rtake h l hl ts s.i (by have:=hs.1;have:=W.len;omega) d (erP 0 s.er) (erE s.er) hb _ (tkS_get hs) c
 rw [erE_z hs.2] at this
 unfold goS
 obtain ⟨i,er⟩:=s
 by_cases hk:takeS ts c ⟨i,er⟩=true
 ·rw [if_pos hk]
  have hk' :(er.isNone&&((tkS ts ⟨i,er⟩).k==4&&(tkS ts ⟨i,er⟩).s==c))=true:=hk
  simp only [hk',if_true] at this
  rw [hk]
  cases er with
  |none=>exact this
  |some e' =>cases hk
 ·rw [if_neg hk,updB_self _ _ _ hb]
  have hk2:takeS ts c ⟨i,er⟩=false:=by simpa using hk
  have hk' :(er.isNone&&((tkS ts ⟨i,er⟩).k==4&&(tkS ts ⟨i,er⟩).s==c))=false:=hk2
  simp only [hk',Bool.false_eq_true,if_false] at this
  rw [hk2];exact this
theorem fx_need (c:List UInt8):Fn Tryz.prog 141 [.ptr l 0, .str c] h (.tup []) ⟨h.n,updB h.bk l (rdX ts (needS ts c s) d)⟩:=by
 have:=fnl_rneed h l hl ts s.i (by have:=hs.1;have:=W.len;omega) d (erP 0 s.er) (erE s.er) hb _ (tkS_get hs) c
 rw [erE_z hs.2] at this
 obtain ⟨i,er⟩:=s
 cases er with
 |none=>
  simp only [Option.isNone_none,if_true] at this
  simp only [needS]
  by_cases hk:isS (tkS ts ⟨i,none⟩) c=true
  ·have hk' :((tkS ts ⟨i,none⟩).k==4&&(tkS ts ⟨i,none⟩).s==c)=true:=hk
   simp only [hk',if_true] at this;rw [if_pos hk];exact this
  ·have hk' :((tkS ts ⟨i,none⟩).k==4&&(tkS ts ⟨i,none⟩).s==c)=false:=by simpa [isS] using hk
   simp only [hk',Bool.false_eq_true,if_false] at this;rw [if_neg hk];exact this
 |some e' =>rw [show needS ts c ⟨i,some e'⟩=⟨i,some e'⟩ from rfl,updB_self _ _ _ hb];exact this
end
end Go.Proofs.YtnibelnjflhkgaaGreatDoor.Ab
namespace Go.Proofs.YtnibelnjflhkgaaGreatDoor.Ab
set_option linter.unusedVariables false
set_option linter.unusedSimpArgs false
set_option maxRecDepth 10000
theorem c145:compF Tryz.prog ow Tryz.f145=(some (14,([(.t 4)],(.seq (.ops [(none,(.box 2 (.t 0))),(none,(.set 4 (.bool false)))]) (.seq (.ops [(none,(.fa (some 5) (.t 2) 0)),(none,(.ld (some 6) (.t 5) (.one none))),(none,(.bin (some 7) .eql (.t 6) (.k (.int .i64 1)) false false)),(none,(.cp 8 7)),((some (8,true)),(.fa (some 9) (.t 2) 1)),((some (8,true)),(.ld (some 10) (.t 9) (.one none))),((some (8,true)),(.cp 11 1)),((some (8,true)),(.bin (some 12) .eql (.t 10) (.t 11) false false)),(none,(.pick (some 13) (.t 8) (.t 12) (.k (.bool false)))),(none,(.mv 4 13))]) .ret))))):=by kernel_rfl
theorem c142:compF Tryz.prog ow Tryz.f142=(some (16,([],(.seq (.seq (.ops [(none,(.cp 4 0)),(none,(.call (some 5) (.k (.func 48 [] [])) [(.t 4)] none)),(none,(.cp 6 1)),(none,(.call (some 7) (.k (.func 145 [] [])) [(.t 5),(.t 6)] none)),(none,(.un (some 8) .not (.t 7)))]) (.cond (.t 8) (.ops [(none,(.cp 9 0)),(none,(.cp 10 0)),(none,(.call (some 11) (.k (.func 48 [] [])) [(.t 10)] none)),(none,(.fld (some 12) (.t 11) 3 (.one none))),(none,(.call (some 13) (.k (.func 99 [] [])) [(.t 9),(.t 12),(.k (.int .i64 4))] none))]) .skip)) (.ops [(none,(.cp 14 0)),(none,(.call (some 15) (.k (.func 143 [] [])) [(.t 14)] none))]))))):=by kernel_rfl
theorem c98:compF Tryz.prog ow Tryz.f98=(some (18,([],(.seq (.ops [(none,(.cp 8 0)),(none,(.call (some 9) (.k (.func 47 [] [])) [(.t 8)] none)),(none,(.cp 10 9)),((some (10,true)),(.cp 11 1)),((some (10,true)),(.cp 12 2)),((some (10,true)),(.bin (some 13) .gtr (.t 11) (.t 12) false false)),(none,(.pick (some 14) (.t 10) (.t 13) (.k (.bool false))))]) (.cond (.t 14) (.ops [(none,(.cp 15 0)),(none,(.cp 16 3)),(none,(.call (some 17) (.k (.func 99 [] [])) [(.t 15),(.t 16),(.k (.int .i64 2))] none))]) .skip))))):=by kernel_rfl
theorem c186:compF Tryz.prog ow Tryz.f186=(some (5,([(.t 2)],(.seq (.ops [(none,(.box 1 (.t 0))),(none,(.set 2 (.sl .full 9 [])))]) (.seq (.ops [(none,(.ld (some 3) (.t 1) (.agg 9))),(none,(.bs 4 9 [(.t 3)])),(none,(.mv 2 4))]) .ret))))):=by kernel_rfl
theorem rdX_cells (ts:List Tk) (s:St) (d:Int):rdX ts s d= .cells [.sl .sh 4 (ts.map Tk.av), .int .i64 (s.i:Nat), .int .i64 d, .int .i64 ((erP 0 s.er:Nat):Int), .int .i64 (erE s.er)]:=rfl
theorem fx_name (t:Tk) (c:List UInt8):PFn Tryz.prog 145 [t.av, .str c] (.bool (t.k==1&&t.s==c)):=by
 intro h
 refine fnC mixed Tryz.func145 c145 (by simp) ?_
 unfold Tk.av
 cases hk:(t.k==1) with
 |true=>simp only [go_sem,seval,hk]
 |false=>simp only [go_sem,seval,hk]
theorem fx_list (p:Pn):PFn Tryz.prog 186 [p.avf] (.sl .sh 9 [p.avf]):=by
 intro h
 refine fnC mixed Tryz.func186 c186 (by simp) ?_
 simp only [go_sem,seval]
 simp [lab_pavf]
def isN (t:Tk) (c:List UInt8):Bool:=t.k==1&&t.s==c
def wordS (ts:List Tk) (c:List UInt8) (s:St):St:=stepS ts (if isN (tkS ts s) c=true then s else failS (tkS ts s).p 4 s)
def mostS (n m:Int) (p:Nat) (s:St):St:=if n>m then failS p 2 s else s
def openS (ts:List Tk) (d:Nat) (s:St):St:=needS ts [40] (if isS (tkS ts s) [40]=true∧d=100 then failS (tkS ts s).p 2 s else s)
theorem wordS_ok {ts:List Tk} (N:Nx ts) {s:St} {c:List UInt8} (h:SOk ts s):SOk ts (wordS ts c s):=by
 unfold wordS;split
 ·exact stepS_ok N h
 ·exact stepS_ok N (failS_ok h (by decide))
theorem mostS_ok {ts:List Tk} {s:St} {n m:Int} {p:Nat} (h:SOk ts s):SOk ts (mostS n m p s):=by
 unfold mostS;split
 ·exact failS_ok h (by decide)
 ·exact h
theorem openS_ok {ts:List Tk} (N:Nx ts) {s:St} {d:Nat} (h:SOk ts s):SOk ts (openS ts d s):=by
 unfold openS;split
 ·exact needS_ok N (failS_ok h (by decide))
 ·exact needS_ok N h
section
variable {h:Hp} {l:Nat} (hl:l<h.n) {ts:List Tk} (W:Wds ts) {s:St} (hs:SOk ts s)
include hl hs
theorem fx_most {d:Int} (hb:h.bk l=rdX ts s d) (n m:Int) (p:Nat):Fn Tryz.prog 98 [.ptr l 0, .int .i64 n, .int .i64 m, .int .i64 (p:Nat)] h (.tup []) ⟨h.n,updB h.bk l (rdX ts (mostS n m p s) d)⟩:=by
 refine fnC mixed Tryz.func98 c98 (by simp) ?_
 simp only [go_sem,seval]
 refine ccall (fx_ok hl hs hb) (by simp only [go_sem,seval]) ?_
 unfold mostS
 cases hn:s.er.isNone with
 |false=>
  obtain ⟨i,er⟩:=s
  cases er with
  |none=>cases hn
  |some e=>
   rw [show (if n>m then failS p 2 ⟨i,some e⟩ else ⟨i,some e⟩)=(⟨i,some e⟩:St) by split<;>rfl]
   simp only [go_sem,seval]
   exact shrink_self hb
 |true=>
  by_cases hc:n>m
  ·have hc' :decide (n>m)=true:=decide_eq_true hc
   rw [if_pos hc]
   simp only [go_sem,seval,hc']
   refine ccall (fx_fail hl hs hb p 2) (by simp only [go_sem,seval]) ?_
   simp only [go_sem,seval]
   exact shrink_rX (by simp) (fun q hq hne=>by simp [bk_apply,hne]) (by simp [bk_apply])
  ·have hc' :decide (n>m)=false:=decide_eq_false hc
   rw [if_neg hc]
   simp only [go_sem,seval,hc']
   exact shrink_self hb
include W
theorem fx_word {d:Int} (hb:h.bk l=rdX ts s d) (c:List UInt8):Fn Tryz.prog 142 [.ptr l 0, .str c] h (.tup []) ⟨h.n,updB h.bk l (rdX ts (wordS ts c s) d)⟩:=by
 have hN:=fx_name (tkS ts s) c
 unfold Tk.av at hN
 refine fnC mixed Tryz.func142 c142 (by simp) ?_
 simp only [go_sem,seval]
 refine ccall (fx_token hl hs hb) (by simp only [go_sem,seval]) ?_
 simp only [go_sem,seval]
 refine pcall hN (by simp only [go_sem,seval]) ?_
 unfold wordS
 cases hc:((tkS ts s).k==1&&(tkS ts s).s==c) with
 |true=>
  have hc' :isN (tkS ts s) c=true:=hc
  rw [if_pos hc']
  simp only [go_sem,seval]
  refine ccall (fx_step hl W hs hb) (by simp only [go_sem,seval]) ?_
  simp only [go_sem,seval]
  exact shrink_rX (by simp) (fun q hq hne=>by simp [bk_apply,hne]) (by simp [bk_apply])
 |false=>
  have hc' : ¬isN (tkS ts s) c=true:=by simpa [isN] using hc
  rw [if_neg hc']
  simp only [go_sem,seval]
  refine ccall (fx_token hl hs hb) (by simp only [go_sem,seval]) ?_
  simp only [go_sem,seval]
  refine ccall (fx_fail hl hs hb (tkS ts s).p 4) (by simp only [go_sem,seval]) ?_
  simp only [go_sem,seval]
  refine ccall (fx_step (h:=⟨h.n,updB h.bk l (rdX ts (failS (tkS ts s).p 4 s) d)⟩) (s:=failS (tkS ts s).p 4 s) (d:=d) hl W (failS_ok hs (by decide)) (by simp [bk_apply])) (by simp only [go_sem,seval]) ?_
  simp only [go_sem,seval]
  exact shrink_rX (by simp) (fun q hq hne=>by simp [bk_apply,hne]) (by simp [bk_apply])
theorem fx_open {d:Nat} (hd:d<100000) (hb:h.bk l=rdX ts s (d:Nat)):Fn Tryz.prog 159 [.ptr l 0] h (.tup []) ⟨h.n,updB h.bk l (rdX ts (openS ts d s) ((d+1:Nat):Int))⟩:=by
 have hM:=fnl_mark (tkS ts s) [40]
 unfold Tk.av at hM
 have hw:IntKind.i64.wrap ((d:Int)+1)=((d+1:Nat):Int):=by rw [wrap64]<;>omega
 have hb2:=hb
 rw [rdX_cells] at hb2
 refine fnC mixed Tryz.func159 c159 (by simp) ?_
 simp only [go_sem,seval]
 refine ccall (fx_token hl hs hb) (by simp only [go_sem,seval]) ?_
 simp only [go_sem,seval]
 refine pcall hM (by simp only [go_sem,seval]) ?_
 unfold openS
 cases hc:((tkS ts s).k==4&&(tkS ts s).s== [40]) with
 |false=>
  have hc' : ¬(isS (tkS ts s) [40]=true∧d=100):=fun e=>by have:isS (tkS ts s) [40]=false:=hc;rw [this] at e;cases e.1
  rw [if_neg hc']
  simp only [go_sem,seval]
  refine ccall (fx_need hl W hs hb [40]) (by simp only [go_sem,seval]) ?_
  simp only [go_sem,seval,rdX_cells,hw]
  exact shrink_rX (s:=needS ts [40] s) (by simp) (fun q hq hne=>by simp [bk_apply,hne]) (by simp [bk_apply,rdX_cells])
 |true=>
  by_cases hd2:d=100
  ·have hd' :((d:Int)==100)=true:=by rw [hd2];rfl
   rw [if_pos ⟨hc,hd2⟩]
   simp only [go_sem,seval,hb2,hd']
   refine ccall (fx_token hl hs hb) (by simp only [go_sem,seval]) ?_
   simp only [go_sem,seval]
   refine ccall (fx_fail hl hs hb (tkS ts s).p 2) (by simp only [go_sem,seval]) ?_
   simp only [go_sem,seval]
   refine ccall (fx_need (h:=⟨h.n,updB h.bk l (rdX ts (failS (tkS ts s).p 2 s) d)⟩) (s:=failS (tkS ts s).p 2 s) (d:=(d:Int)) hl W (failS_ok hs (by decide)) (by simp [bk_apply]) [40]) (by simp only [go_sem,seval]) ?_
   simp only [go_sem,seval,rdX_cells,hw]
   exact shrink_rX (s:=needS ts [40] (failS (tkS ts s).p 2 s)) (by simp) (fun q hq hne=>by simp [bk_apply,hne]) (by simp [bk_apply,rdX_cells])
  ·have hd' :((d:Int)==100)=false:=by simp;omega
   rw [if_neg (fun e=>hd2 e.2)]
   simp only [go_sem,seval,hb2,hd']
   refine ccall (fx_need hl W hs hb [40]) (by simp only [go_sem,seval]) ?_
   simp only [go_sem,seval,rdX_cells,hw]
   exact shrink_rX (s:=needS ts [40] s) (by simp) (fun q hq hne=>by simp [bk_apply,hne]) (by simp [bk_apply,rdX_cells])
theorem fx_close {d:Nat} (hd:d<100000) (hb:h.bk l=rdX ts s ((d+1:Nat):Int)):Fn Tryz.prog 160 [.ptr l 0] h (.tup []) ⟨h.n,updB h.bk l (rdX ts (needS ts [41] s) (d:Nat))⟩:=by
 have hw:IntKind.i64.wrap (((d+1:Nat):Int)-1)=(d:Int):=by rw [wrap64]<;>omega
 refine fnC mixed Tryz.func160 c160 (by simp) ?_
 simp only [go_sem,seval]
 refine ccall (fx_need hl W hs hb [41]) (by simp only [go_sem,seval]) ?_
 simp only [go_sem,seval,rdX_cells,hw]
 exact shrink_rX (s:=needS ts [41] s) (by simp) (fun q hq hne=>by simp [bk_apply,hne]) (by simp [bk_apply,rdX_cells])
end
end Go.Proofs.YtnibelnjflhkgaaGreatDoor.Ab
namespace Go.Proofs.YtnibelnjflhkgaaGreatDoor.Ab
set_option linter.unusedVariables false
set_option linter.unusedSimpArgs false
set_option maxRecDepth 10000
def gE (k:Tk):T:=if k.k=2 then .mk 1 k.s 0 [] else if k.k=3 then .mk 2 [] k.n [] else if k.k=1 then .mk 3 k.s 0 [] else .mk 0 [] 0 []
theorem fx_innerE {h:Hp} {l:Nat} (hl:l<h.n) {ts:List Tk} (W:Wds ts) {s:St} (hs:SOk ts s) (he:s.er.isNone=false) {d:Int} (hb:h.bk l=rdX ts s d):
  Fn Tryz.prog 112 [.ptr l 0] h (gE (tkS ts s)).avf h:=by
 have n0: ¬l=h.n:=by omega
 have n1: ¬l=h.n+1:=by omega
 have m0: ¬h.n=l:=by omega
 have m1: ¬h.n+1=l:=by omega
 have p0: ¬h.n=h.n+1:=by omega
 have p1: ¬h.n+1=h.n:=by omega
 have hst:stepS ts s=s:=by obtain ⟨i,er⟩:=s;cases er with|none=>cases he|some e=>rfl
 have hfl: ∀p e,failS p e s=s:=by obtain ⟨i,er⟩:=s;cases er with|none=>cases he|some e=>exact fun _ _=>rfl
 have hS: ∀H:Hp,l<H.n→H.bk l=rdX ts s d→Fn Tryz.prog 143 [.ptr l 0] H (.tup []) H:=fun H a b=>by
  have:=fx_step (h:=H) a W hs b
  rw [hst,updB_self _ _ _ b] at this;exact this
 have hF: ∀H:Hp,l<H.n→H.bk l=rdX ts s d→ ∀(p:Nat) e,Fn Tryz.prog 99 [.ptr l 0, .int .i64 (p:Nat), .int .i64 e] H (.tup []) H:=fun H a b p e=>by
  have:=fx_fail (h:=H) a hs b p e
  rw [hfl,updB_self _ _ _ b] at this;exact this
 have hM:=fnl_mark (tkS ts s) [40]
 unfold Tk.av at hM
 unfold gE
 generalize hk:tkS ts s=k at *
 have hT: ∀H:Hp,l<H.n→H.bk l=rdX ts s d→Fn Tryz.prog 48 [.ptr l 0] H (.agg [.int .i64 k.k, .str k.s, .int .i64 k.n, .int .i64 (k.p:Nat)]) H:=fun H a b=>hk▸fx_token (h:=H) a hs b
 by_cases c2:k.k=2
 ·have e2:(k.k==2)=true:=by rw [c2];rfl
  rw [if_pos c2]
  refine fnC mixed Tryz.func112 c112 (by simp) ?_
  simp only [go_sem,seval]
  refine ccall (hT _ (by simp;omega) (by simp [bk_apply,n0,hb])) (by simp only [go_sem,seval]) ?_
  simp only [go_sem,seval,n0,n1,m0,m1,p0,p1]
  simp only [go_sem,seval,e2]
  refine ccall (hS _ (by simp;omega) (by simp [bk_apply,n0,n1,hb])) (by simp only [go_sem,seval]) ?_
  simp only [go_sem,seval,n0,n1,m0,m1,p0,p1]
  exact ⟨rfl,lab_avf _ _⟩
 have e2:(k.k==2)=false:=by simpa using c2
 rw [if_neg c2]
 by_cases c3:k.k=3
 ·have e3:(k.k==3)=true:=by rw [c3];rfl
  rw [if_pos c3]
  refine fnC mixed Tryz.func112 c112 (by simp) ?_
  simp only [go_sem,seval]
  refine ccall (hT _ (by simp;omega) (by simp [bk_apply,n0,hb])) (by simp only [go_sem,seval]) ?_
  simp only [go_sem,seval,n0,n1,m0,m1,p0,p1]
  simp only [go_sem,seval,e2,e3]
  refine ccall (hS _ (by simp;omega) (by simp [bk_apply,n0,n1,hb])) (by simp only [go_sem,seval]) ?_
  simp only [go_sem,seval,n0,n1,m0,m1,p0,p1]
  exact ⟨rfl,lab_avf _ _⟩
 have e3:(k.k==3)=false:=by simpa using c3
 rw [if_neg c3]
 by_cases c1:k.k=1
 ·have e1:(k.k==1)=true:=by rw [c1];rfl
  have hm:(k.k==4&&k.s== [40])=false:=by rw [c1];rfl
  rw [if_pos c1]
  rw [hm] at hM
  refine fnC mixed Tryz.func112 c112 (by simp) ?_
  simp only [go_sem,seval]
  refine ccall (hT _ (by simp;omega) (by simp [bk_apply,n0,hb])) (by simp only [go_sem,seval]) ?_
  simp only [go_sem,seval,n0,n1,m0,m1,p0,p1]
  simp only [go_sem,seval,e1,e2,e3]
  refine ccall (hS _ (by simp;omega) (by simp [bk_apply,n0,n1,hb])) (by simp only [go_sem,seval]) ?_
  simp only [go_sem,seval,n0,n1,m0,m1,p0,p1]
  refine ccall (hT _ (by simp;omega) (by simp [bk_apply,n0,n1,hb])) (by simp only [go_sem,seval]) ?_
  simp only [go_sem,seval]
  refine pcall hM (by simp only [go_sem,seval]) ?_
  simp only [go_sem,seval,n0,n1,m0,m1,p0,p1]
  exact ⟨rfl,lab_avf _ _⟩
 have e1:(k.k==1)=false:=by simpa using c1
 rw [if_neg c1]
 refine fnC mixed Tryz.func112 c112 (by simp) ?_
 simp only [go_sem,seval]
 refine ccall (hT _ (by simp;omega) (by simp [bk_apply,n0,hb])) (by simp only [go_sem,seval]) ?_
 simp only [go_sem,seval,n0,n1,m0,m1,p0,p1]
 simp only [go_sem,seval,e1,e2,e3]
 refine ccall (hF _ (by simp;omega) (by simp [bk_apply,n0,n1,hb]) k.p 4) (by simp only [go_sem,seval]) ?_
 simp only [go_sem,seval,n0,n1,m0,m1,p0,p1]
 refine ccall (hS _ (by simp;omega) (by simp [bk_apply,n0,n1,hb])) (by simp only [go_sem,seval]) ?_
 simp only [go_sem,seval,n0,n1,m0,m1,p0,p1]
 exact ⟨rfl,lab_avf _ _⟩
def tmS (ts:List Tk) (d:Nat) (s:St):T×St:=match s.er with|none=>((tmG zP (2 * ts.length) d (ts.drop s.i)).1,⟨s.i+(tmG zP (2 * ts.length) d (ts.drop s.i)).2.1,(tmG zP (2 * ts.length) d (ts.drop s.i)).2.2⟩)|some _=>(gE (tkS ts s),s)
theorem tmS_ok {ts:List Tk} (W:Wds ts) {s:St} {d:Nat} (h:SOk ts s):SOk ts (tmS ts d s).2:=by
 obtain ⟨i,er⟩:=s
 cases er with
 |some e=>exact h
 |none=>
  obtain ⟨h2,h3⟩:=tmG_two zP (2 * ts.length) d (ts.drop i)
  have hi:i<ts.length:=h.1
  have h4:=(gTL_lt zP (by decide) (2 * ts.length)).1 d (ts.drop i) (W.Nx.drop i) (by simp;omega) (by simp;omega)
  rw [←h2,List.length_drop] at h4
  exact ⟨show i+(tmG zP (2 * ts.length) d (ts.drop i)).2.1<ts.length by omega,h3⟩
theorem fx_term {h:Hp} {l:Nat} (hl:l<h.n) {ts:List Tk} (W:Wds ts) {s:St} (hs:SOk ts s) {d:Nat} (hd:d≤100) (hb:h.bk l=rdX ts s (d:Nat)):
  Fn Tryz.prog 62 [.ptr l 0] h (tmS ts d s).1.avf ⟨h.n,updB h.bk l (rdX ts (tmS ts d s).2 (d:Nat))⟩:=by
 obtain ⟨i,er⟩:=s
 have hi:i<ts.length:=hs.1
 cases er with
 |none=>exact fnl_rterm (2 * ts.length) (by have:=W.len;omega) h l ts i d 0 W hl hi (by omega) hd hb
 |some e=>
  have he:(some e:Er).isNone=false:=rfl
  have hi2: ∀H:Hp,l<H.n→H.bk l=rdX ts ⟨i,some e⟩ (d:Nat)→Fn Tryz.prog 112 [.ptr l 0] H (gE (tkS ts ⟨i,some e⟩)).avf H:=fun H a b=>fx_innerE a W hs he b
  show Fn _ _ _ _ (gE (tkS ts ⟨i,some e⟩)).avf ⟨h.n,updB h.bk l (rdX ts ⟨i,some e⟩ (d:Nat))⟩
  rw [updB_self _ _ _ hb]
  generalize gE (tkS ts ⟨i,some e⟩)=t at *
  have n0: ¬l=h.n:=by omega
  have n1: ¬l=h.n+1:=by omega
  have m0: ¬h.n=l:=by omega
  have m1: ¬h.n+1=l:=by omega
  have p0: ¬h.n=h.n+1:=by omega
  have p1: ¬h.n+1=h.n:=by omega
  refine fnC mixed Tryz.func62 c62 (by simp) ?_
  simp only [go_sem,seval]
  refine ccall (fx_token (l:=l) (ts:=ts) (s:=⟨i,some e⟩) (d:=(d:Int)) (by simp;omega) hs (by simp [bk_apply,n0,hb])) (by simp only [go_sem,seval]) ?_
  simp only [go_sem,seval]
  refine ccall (hi2 _ (by simp;omega) (by simp [bk_apply,n0,hb])) (by simp only [go_sem,seval]) ?_
  simp only [go_sem,seval,n0,n1,m0,m1,p0,p1]
  refine ccall (fx_ok (l:=l) (ts:=ts) (s:=⟨i,some e⟩) (d:=(d:Int)) (by simp;omega) hs (by simp [bk_apply,n0,n1,hb])) (by simp only [go_sem,seval]) ?_
  rw [show (⟨i,some e⟩:St).er.isNone=false from rfl]
  simp only [go_sem,seval,n0,n1,m0,m1,p0,p1]
  exact ⟨wk_refl _,lab_avf _ _⟩
end Go.Proofs.YtnibelnjflhkgaaGreatDoor.Ab
namespace Go.Proofs.YtnibelnjflhkgaaGreatDoor.Ab
set_option linter.unusedVariables false
set_option linter.unusedSimpArgs false
set_option maxRecDepth 10000
theorem c238:compF Tryz.prog ow Tryz.f238=(some (13,([(.c 2 (.agg 9))],(.seq (.ops [(none,(.alloc 2 [(.int .i64 0),(.int .i64 0),(.str []),(.int .i64 0),(.sl .full 4 []),(.int .i64 0),(.sl .full 9 []),(.sl .full 9 []),(.sl .full 9 [])]))]) (.seq (.ops [(none,(.cp 4 0)),(none,(.call (some 5) (.k (.func 159 [] [])) [(.t 4)] none))]) (.seq (.ops [(none,(.alloc 3 [(.int .i64 0),(.int .i64 0),(.str []),(.int .i64 0),(.sl .full 4 []),(.int .i64 0),(.sl .full 9 []),(.sl .full 9 []),(.sl .full 9 [])]))]) (.seq (.seq (.ops [(none,(.cp 6 0)),(none,(.call (some 7) (.k (.func 47 [] [])) [(.t 6)] none))]) (.cond (.t 7) (.ops [(none,(.cp 8 0)),(none,(.call (some 9) (.k (.func 92 [] [])) [(.t 8)] none)),(none,(.st (.t 3) (.t 9) 9))]) .skip)) (.seq (.ops [(none,(.cp 10 0)),(none,(.call (some 11) (.k (.func 160 [] [])) [(.t 10)] none))]) (.seq (.ops [(none,(.ld (some 12) (.t 3) (.agg 9))),(none,(.st (.t 2) (.t 12) 9))]) .ret))))))))):=by kernel_rfl
theorem c237:compF Tryz.prog ow Tryz.f237=(some (12,([(.c 2 (.agg 9))],(.seq (.ops [(none,(.alloc 2 [(.int .i64 0),(.int .i64 0),(.str []),(.int .i64 0),(.sl .full 4 []),(.int .i64 0),(.sl .full 9 []),(.sl .full 9 []),(.sl .full 9 [])]))]) (.seq (.seq (.ops [(none,(.cp 3 0)),(none,(.call (some 4) (.k (.func 48 [] [])) [(.t 3)] none)),(none,(.call (some 5) (.k (.func 95 [] [])) [(.t 4),(.k (.str [40]))] none)),(none,(.un (some 6) .not (.t 5)))]) (.cond (.t 6) (.seq (.ops [(none,(.cp 7 0)),(none,(.call (some 8) (.k (.func 62 [] [])) [(.t 7)] (some 100))),(none,(.bld (some 9) [(.int .i64 0),(.int .i64 0),(.str []),(.int .i64 0),(.sl .full 4 []),(.int .i64 0),(.sl .full 9 []),(.sl .full 9 []),(.sl .full 9 [])] [(0,1),(1,4),(5,1),(6,1),(7,1),(8,1)] [(0,(.k (.int .i64 1))),(1,(.t 8))])),(none,(.st (.t 2) (.t 9) 9))]) .ret) .skip)) (.seq (.ops [(none,(.cp 10 0)),(none,(.call (some 11) (.k (.func 238 [] [])) [(.t 10)] none)),(none,(.st (.t 2) (.t 11) 9))]) .ret)))))):=by kernel_rfl
def zT:T:= .mk 0 [] 0 []
def Gd (ts:List Tk) (g:St→Pn×St):Prop:= ∀s,SOk ts s→SOk ts (g s).2∧s.i≤(g s).2.i
def PFx (f:FuncId) (ts:List Tk) (d:Nat) (g:St→Pn×St):Prop:= ∀(h:Hp) (l:Nat) (s:St),l<h.n→SOk ts s→h.bk l=rdX ts s (d:Nat)→Fn Tryz.prog f [.ptr l 0] h (g s).1.avf ⟨h.n,updB h.bk l (rdX ts (g s).2 (d:Nat))⟩
def withinW (pat:Nat→St→Pn×St) (ts:List Tk) (d:Nat) (s:St):Pn×St:=
 if (openS ts d s).er.isNone=true then ((pat (d+1) (openS ts d s)).1,needS ts [41] (pat (d+1) (openS ts d s)).2) else (zPn,needS ts [41] (openS ts d s))
def oneW (pat:Nat→St→Pn×St) (ts:List Tk) (d:Nat) (s:St):Pn×St:=
 if isS (tkS ts s) [40]=true then withinW pat ts d s else (.mk 1 (tmS ts d s).1 0 [] [] [],(tmS ts d s).2)
theorem failS_i (p:Nat) (e:Int) (s:St):(failS p e s).i=s.i:=by obtain ⟨i,er⟩:=s;cases er<;>rfl
theorem needS_i (ts:List Tk) (c:List UInt8) (s:St):s.i≤(needS ts c s).i:=by
 obtain ⟨i,er⟩:=s
 cases er with
 |none=>simp only [needS];split<;>simp
 |some e=>exact Nat.le_refl _
theorem stepS_i (ts:List Tk) (s:St):s.i≤(stepS ts s).i:=by
 obtain ⟨i,er⟩:=s
 cases er with
 |none=>simp only [stepS];split<;>simp
 |some e=>exact Nat.le_refl _
theorem openS_i (ts:List Tk) (d:Nat) (s:St):s.i≤(openS ts d s).i:=by
 unfold openS;split
 ·have:=needS_i ts [40] (failS (tkS ts s).p 2 s);rwa [failS_i] at this
 ·exact needS_i _ _ _
theorem tmS_i (ts:List Tk) (d:Nat) (s:St):s.i≤(tmS ts d s).2.i:=by
 obtain ⟨i,er⟩:=s
 cases er with
 |none=>exact Nat.le_add_right _ _
 |some e=>exact Nat.le_refl _
theorem openS_deep (ts:List Tk) (s:St):(openS ts 100 s).er.isNone=false:=by
 obtain ⟨i,er⟩:=s
 cases er with
 |some e=>unfold openS;split<;>rfl
 |none=>
  unfold openS
  by_cases h:isS (tkS ts ⟨i,none⟩) [40]=true
  ·rw [if_pos ⟨h,rfl⟩];rfl
  ·rw [if_neg (fun e=>h e.1)];simp only [needS,if_neg h];rfl
theorem within_gd {pat:Nat→St→Pn×St} {ts:List Tk} (W:Wds ts) {d:Nat} (hp:d<100→Gd ts (pat (d+1))) (hd:d≤100):Gd ts (withinW pat ts d):=by
 intro s hs
 have h1:=openS_ok (d:=d) W.Nx hs
 have h2:=openS_i ts d s
 unfold withinW
 by_cases hc:(openS ts d s).er.isNone=true
 ·rw [if_pos hc]
  have hd' :d<100:=by
   rcases Nat.lt_or_ge d 100 with h|h
   ·exact h
   ·have:d=100:=by omega
    subst this;rw [openS_deep] at hc;cases hc
  obtain ⟨k1,k2⟩:=hp hd' _ h1
  exact ⟨needS_ok W.Nx k1,Nat.le_trans (Nat.le_trans h2 k2) (needS_i _ _ _)⟩
 ·rw [if_neg hc]
  exact ⟨needS_ok W.Nx h1,Nat.le_trans h2 (needS_i _ _ _)⟩
theorem one_gd {pat:Nat→St→Pn×St} {ts:List Tk} (W:Wds ts) {d:Nat} (hp:d<100→Gd ts (pat (d+1))) (hd:d≤100):Gd ts (oneW pat ts d):=by
 intro s hs
 unfold oneW;split
 ·exact within_gd W hp hd s hs
 ·exact ⟨tmS_ok W hs,tmS_i ts d s⟩
theorem fx_within {pat:Nat→St→Pn×St} {ts:List Tk} (W:Wds ts) {d:Nat} (hd:d≤100) (hg:d<100→Gd ts (pat (d+1))) (hp:d<100→PFx 92 ts (d+1) (pat (d+1))):PFx 238 ts d (withinW pat ts d):=by
 intro h l s hl hs hb
 have n0: ¬l=h.n:=by omega
 have n1: ¬l=h.n+1:=by omega
 have m0: ¬h.n=l:=by omega
 have m1: ¬h.n+1=l:=by omega
 have p0: ¬h.n=h.n+1:=by omega
 have p1: ¬h.n+1=h.n:=by omega
 have h1:=openS_ok (d:=d) W.Nx hs
 refine fnC mixed Tryz.func238 c238 (by simp) ?_
 simp only [go_sem,seval]
 refine ccall (fx_open (l:=l) (by simp;omega) W hs (d:=d) (by omega) (by simp [bk_apply,n0,hb])) (by simp only [go_sem,seval]) ?_
 simp only [go_sem,seval,n0,n1,m0,m1,p0,p1]
 refine ccall (fx_ok (l:=l) (ts:=ts) (s:=openS ts d s) (d:=((d+1:Nat):Int)) (by simp;omega) h1 (by simp [bk_apply,n0,n1])) (by simp only [go_sem,seval]) ?_
 unfold withinW
 by_cases hc:(openS ts d s).er.isNone=true
 ·have hd' :d<100:=by
   rcases Nat.lt_or_ge d 100 with h|h
   ·exact h
   ·have:d=100:=by omega
    subst this;rw [openS_deep] at hc;cases hc
  obtain ⟨k1,k2⟩:=hg hd' _ h1
  rw [if_pos hc,hc]
  simp only [go_sem,seval,n0,n1,m0,m1,p0,p1]
  refine ccall (hp hd' _ l (openS ts d s) (by simp;omega) h1 (by simp [bk_apply,n0,n1])) (by simp only [go_sem,seval]) ?_
  generalize pat (d+1) (openS ts d s)=R at *
  obtain ⟨p,s2⟩:=R
  simp only at k1 k2 ⊢
  simp only [go_sem,seval,n0,n1,m0,m1,p0,p1]
  refine ccall (fx_close (l:=l) (by simp;omega) W k1 (d:=d) (by omega) (by simp [bk_apply,n0,n1,m1])) (by simp only [go_sem,seval]) ?_
  simp only [go_sem,seval,n0,n1,m0,m1,p0,p1]
  exact ⟨wk_refl _,lab_pavf _ _,shrink_rX (by simp) (fun q hq hne=>by simp [bk_apply,hne,show q≠h.n by omega,show q≠h.n+1 by omega]) (by simp [bk_apply,n0,n1])⟩
 ·have hc' :(openS ts d s).er.isNone=false:=Bool.eq_false_iff.2 hc
  rw [if_neg hc,hc']
  simp only [go_sem,seval,n0,n1,m0,m1,p0,p1]
  refine ccall (fx_close (l:=l) (by simp;omega) W h1 (d:=d) (by omega) (by simp [bk_apply,n0,n1])) (by simp only [go_sem,seval]) ?_
  simp only [go_sem,seval,n0,n1,m0,m1,p0,p1]
  exact ⟨by rw [zPn,pavf_mk];rfl,lab_pavf _ _,shrink_rX (by simp) (fun q hq hne=>by simp [bk_apply,hne,show q≠h.n by omega,show q≠h.n+1 by omega]) (by simp [bk_apply,n0,n1])⟩
theorem fx_one {pat:Nat→St→Pn×St} {ts:List Tk} (W:Wds ts) {d:Nat} (hd:d≤100) (hw:PFx 238 ts d (withinW pat ts d)):PFx 237 ts d (oneW pat ts d):=by
 intro h l s hl hs hb
 have n0: ¬l=h.n:=by omega
 have m0: ¬h.n=l:=by omega
 have hM:=fnl_mark (tkS ts s) [40]
 unfold Tk.av at hM
 refine fnC mixed Tryz.func237 c237 (by simp) ?_
 simp only [go_sem,seval]
 refine ccall (fx_token (l:=l) (ts:=ts) (s:=s) (d:=(d:Int)) (by simp;omega) hs (by simp [bk_apply,n0,hb])) (by simp only [go_sem,seval]) ?_
 simp only [go_sem,seval]
 refine pcall hM (by simp only [go_sem,seval]) ?_
 unfold oneW
 cases hc:((tkS ts s).k==4&&(tkS ts s).s== [40]) with
 |true=>
  have hc' :isS (tkS ts s) [40]=true:=hc
  rw [if_pos hc']
  simp only [go_sem,seval]
  refine ccall (hw _ l s (by simp;omega) hs (by simp [bk_apply,n0,hb])) (by simp only [go_sem,seval]) ?_
  generalize withinW pat ts d s=R
  obtain ⟨p,s2⟩:=R
  simp only
  simp only [go_sem,seval,n0,m0]
  exact ⟨wk_refl _,lab_pavf _ _,shrink_rX (by simp) (fun q hq hne=>by simp [bk_apply,hne,show q≠h.n by omega]) (by simp [bk_apply,n0])⟩
 |false=>
  have hc' : ¬isS (tkS ts s) [40]=true:=by simpa [isS] using hc
  rw [if_neg hc']
  simp only [go_sem,seval]
  refine ccall (fx_term (l:=l) (by simp;omega) W hs (d:=d) hd (by simp [bk_apply,n0,hb])) (by simp only [go_sem,seval]) ?_
  generalize tmS ts d s=R
  obtain ⟨⟨tk,tn,tv,tl⟩,s2⟩:=R
  simp only [avf_mk]
  simp only [go_sem,seval,n0,m0]
  exact ⟨by rw [pavf_mk];rfl,lab_pavf _ _,shrink_rX (by simp) (fun q hq hne=>by simp [bk_apply,hne,show q≠h.n by omega]) (by simp [bk_apply,n0])⟩
end Go.Proofs.YtnibelnjflhkgaaGreatDoor.Ab
namespace Go.Proofs.YtnibelnjflhkgaaGreatDoor.Ab
set_option linter.unusedVariables false
set_option linter.unusedSimpArgs false
set_option maxRecDepth 10000
theorem c87:compF Tryz.prog ow Tryz.f87=(some (2,([(.t 0)],(.seq (.ops [(none,(.set 0 (.sl .full 1 [])))]) (.seq (.ops [(none,(.bs 1 1 [(.k (.str [98,101,102,111,114,101])),(.k (.str [109,101,101,116,115])),(.k (.str [111,118,101,114,108,97,112,115])),(.k (.str [115,116,97,114,116,115])),(.k (.str [100,117,114,105,110,103])),(.k (.str [101,110,100,115])),(.k (.str [101,113,117,97,108])),(.k (.str [101,110,100,101,100])),(.k (.str [104,111,108,100,115])),(.k (.str [115,116,97,114,116,101,100])),(.k (.str [111,118,101,114,108,97,112,112,101,100])),(.k (.str [109,101,116])),(.k (.str [97,102,116,101,114]))])),(none,(.mv 0 1))]) .ret))))):=by kernel_rfl
theorem c222:compF Tryz.prog ow Tryz.f222=(some (19,([(.t 2),(.t 3)],(.seq (.ops [(none,(.set 2 (.int .i64 0))),(none,(.set 3 (.int .i64 0)))]) (.seq (.seq (.ops [(none,(.call (some 6) (.k (.func 181 [] [])) [(.k (.str [98,101,102,111,114,101,32,109,101,101,116,115,32,111,118,101,114,108,97,112,115,32,115,116,97,114,116,115,32,100,117,114,105,110,103,32,101,110,100,115,32,101,113,117,97,108,32,101,110,100,101,100,32,104,111,108,100,115,32,115,116,97,114,116,101,100,32,111,118,101,114,108,97,112,112,101,100,32,109,101,116,32,97,102,116,101,114]))] none)),(none,(.len (some 7) (.t 6) false true)),(none,(.set 8 (.int .i64 0)))]) (.block 0 (.loop (.seq (.ops [(none,(.bin (some 9) .lss (.t 8) (.t 7) false false))]) (.seq (.cond (.t 9) .skip (.exit 0)) (.seq (.block 1 (.seq (.ops [(none,(.mv 10 8)),(none,(.ia (some 11) (.t 6) (.t 8) (some 1) none)),(none,(.ld (some 12) (.t 11) (.one none))),(none,(.mv 4 10)),(none,(.mv 5 12))]) (.seq (.ops [(none,(.cp 13 5)),(none,(.cp 14 0)),(none,(.bin (some 15) .eql (.t 13) (.t 14) false false))]) (.cond (.t 15) (.seq (.ops [(none,(.cp 16 4)),(none,(.bin (some 17) .add (.t 16) (.k (.int .i64 1)) false false)),(none,(.mv 2 17)),(none,(.set 3 (.int .i64 0)))]) .ret) .skip)))) (.ops [(none,(.bin (some 18) .add (.t 8) (.k (.int .i64 1)) false false)),(none,(.cp 8 18))]))))))) (.seq (.ops [(none,(.set 2 (.int .i64 0))),(none,(.set 3 (.int .i64 3)))]) .ret)))))):=by kernel_rfl
theorem c227:compF Tryz.prog ow Tryz.f227=(some (20,([(.t 2)],(.seq (.ops [(none,(.set 2 (.int .i64 0)))]) (.seq (.ops [(none,(.call (some 5) (.k (.func 87 [] [])) [] none)),(none,(.mv 3 5))]) (.seq (.seq (.ops [(none,(.set 4 (.int .i64 0)))]) (.block 0 (.loop (.seq (.seq (.ops [(none,(.cp 6 4)),(none,(.cp 7 3)),(none,(.len (some 8) (.t 7) false true)),(none,(.bin (some 9) .lss (.t 6) (.t 8) false false))]) (.cond (.t 9) .skip (.exit 0))) (.seq (.block 1 (.seq (.ops [(none,(.cp 12 3)),(none,(.cp 13 4)),(none,(.ia (some 14) (.t 12) (.t 13) (some 1) none)),(none,(.ld (some 15) (.t 14) (.one none))),(none,(.cp 16 0)),(none,(.bin (some 17) .eql (.t 15) (.t 16) false false))]) (.cond (.t 17) (.seq (.ops [(none,(.cp 18 4)),(none,(.bin (some 19) .add (.t 18) (.k (.int .i64 1)) false false)),(none,(.mv 2 19))]) .ret) .skip))) (.ops [(none,(.cp 10 4)),(none,(.bin (some 11) .add (.t 10) (.k (.int .i64 1)) false false)),(none,(.mv 4 11))])))))) (.seq (.ops [(none,(.set 2 (.int .i64 0)))]) .ret))))))):=by kernel_rfl
def namesT:List UInt8:= [98,101,102,111,114,101,32,109,101,101,116,115,32,111,118,101,114,108,97,112,115,32,115,116,97,114,116,115,32,100,117,114,105,110,103,32,101,110,100,115,32,101,113,117,97,108,32,101,110,100,101,100,32,104,111,108,100,115,32,115,116,97,114,116,101,100,32,111,118,101,114,108,97,112,112,101,100,32,109,101,116,32,97,102,116,101,114]
def namesL:List (List UInt8):= [[98,101,102,111,114,101], [109,101,101,116,115], [111,118,101,114,108,97,112,115], [115,116,97,114,116,115], [100,117,114,105,110,103], [101,110,100,115], [101,113,117,97,108], [101,110,100,101,100], [104,111,108,100,115], [115,116,97,114,116,101,100], [111,118,101,114,108,97,112,112,101,100], [109,101,116], [97,102,116,101,114]]
theorem fns_fields:PFn Tryz.prog 181 [.str namesT] (.sl .sh 1 (namesL.map AV.str)):=by
 have h:=fnl_fields namesT (by decide) (by decide)
 have e:Lib.fields namesT=namesL:=by decide+kernel
 rw [e] at h;exact h
theorem fns_Rels:PFn Tryz.prog 87 [] (.sl .sh 1 (namesL.map AV.str)):=by
 intro h
 refine fnC mixed Tryz.func87 c87 (by simp) ?_
 unfold namesL
 simp only [go_sem,seval]
def atN (s:List UInt8):Nat→List (List UInt8)→Option Nat
 |_, []=>none
 |i,x::xs=>if x==s then some i else atN s (i+1) xs
def relOf (s:List UInt8):Int:=match atN s 0 namesL with|some i=>((i+1:Nat):Int)|none=>0
theorem fns_rRelOf (s:List UInt8):PFn Tryz.prog 227 [.str s] (.int .i64 (relOf s)):=by
 intro h
 have hF:=fns_Rels
 have hl:namesL.length=13:=rfl
 refine fnC mixed Tryz.func227 c227 (by simp) ?_
 unfold relOf
 generalize hR:atN s 0 namesL=R
 generalize namesL=L at *
 simp only [go_sem,seval]
 refine pcall hF (by simp only [go_sem,seval]) ?_
 simp only [go_sem,seval]
 refine cloop (fun k t=> ∃i:Nat,i+k=13∧t.fr 0= .str s∧t.fr 3= .sl .sh 1 (L.map AV.str)∧t.fr 4= .int .i64 (i:Nat)∧atN s i (L.drop i)=R∧t.hp=h) 13 ⟨0,by omega,by simp [fr_apply,argsF],by simp [fr_apply],by simp [fr_apply],hR,rfl⟩ ?_
 clear hR
 rintro k ⟨F,hp⟩ ⟨i,hk,f0,f3,f4,hR,rfl⟩
 simp only at f0 f3 f4
 by_cases hi:i<L.length
 ·have hi' :decide ((i:Int)<(L.length:Int))=true:=decide_eq_true (by omega)
  have hw:IntKind.i64.wrap ((i:Int)+1)=((i+1:Nat):Int):=by rw [wrap64]<;>omega
  have hx:(L.map AV.str)[i]? =some (.str L[i]):=by rw [List.getElem?_map,List.getElem?_eq_getElem hi];rfl
  rw [List.drop_eq_getElem_cons hi,atN] at hR
  generalize L[i]=x at hx hR
  cases he:(x==s) with
  |true=>
   rw [he,if_pos rfl] at hR
   subst hR
   simp only [go_sem,seval,f0,f3,f4,hi',hx,he,hw]
  |false=>
   rw [he,if_neg (by simp)] at hR
   simp only [go_sem,seval,f0,f3,f4,hi',hx,he,hw]
   exact ⟨k-1,by omega,i+1,by omega,rfl,hR⟩
 ·have hi' :decide ((i:Int)<(L.length:Int))=false:=decide_eq_false (by omega)
  rw [List.drop_eq_nil_of_le (by omega),atN] at hR
  subst hR
  simp only [go_sem,seval,f0,f3,f4,hi']
theorem fns_Of (s:List UInt8):PFn Tryz.prog 222 [.str s] (.tup [.int .i64 (relOf s), .int .i64 (if relOf s=0 then 3 else 0)]):=by
 intro h
 have hF:=fns_fields
 unfold namesT at hF
 have hl:namesL.length=13:=rfl
 refine fnC mixed Tryz.func222 c222 (by simp) ?_
 unfold relOf
 generalize hR:atN s 0 namesL=R
 generalize namesL=L at *
 simp only [go_sem,seval]
 refine pcall hF (by simp only [go_sem,seval]) ?_
 simp only [go_sem,seval,hl]
 refine cloop (fun k t=> ∃i:Nat,i+k=13∧t.fr 0= .str s∧t.fr 6= .sl .sh 1 (L.map AV.str)∧t.fr 7= .int .i64 13∧t.fr 8= .int .i64 (i:Nat)∧atN s i (L.drop i)=R∧t.hp=h) 13 ⟨0,by omega,by simp [fr_apply,argsF],by simp [fr_apply],by simp [fr_apply],by simp [fr_apply],hR,rfl⟩ ?_
 clear hR
 rintro k ⟨F,hp⟩ ⟨i,hk,f0,f6,f7,f8,hR,rfl⟩
 simp only at f0 f6 f7 f8
 by_cases hi:i<L.length
 ·have hi' :decide ((i:Int)<13)=true:=decide_eq_true (by omega)
  have hw:IntKind.i64.wrap ((i:Int)+1)=((i+1:Nat):Int):=by rw [wrap64]<;>omega
  have hx:(L.map AV.str)[i]? =some (.str L[i]):=by rw [List.getElem?_map,List.getElem?_eq_getElem hi];rfl
  rw [List.drop_eq_getElem_cons hi,atN] at hR
  generalize L[i]=x at hx hR
  cases he:(x==s) with
  |true=>
   rw [he,if_pos rfl] at hR
   subst hR
   have h0: ¬(((i+1:Nat):Int)=0):=by omega
   simp only
   rw [if_neg h0]
   simp only [go_sem,seval,f0,f6,f7,f8,hi',hx,he,hw]
  |false=>
   rw [he,if_neg (by simp)] at hR
   simp only [go_sem,seval,f0,f6,f7,f8,hi',hx,he,hw]
   exact ⟨k-1,by omega,i+1,by omega,rfl,hR⟩
 ·have hi' :decide ((i:Int)<13)=false:=decide_eq_false (by omega)
  rw [List.drop_eq_nil_of_le (by omega),atN] at hR
  subst hR
  simp only [go_sem,seval,f0,f6,f7,f8,hi']
end Go.Proofs.YtnibelnjflhkgaaGreatDoor.Ab

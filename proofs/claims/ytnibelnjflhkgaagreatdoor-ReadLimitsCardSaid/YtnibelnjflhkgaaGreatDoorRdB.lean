/- The program's reader: brackets. No condition. A term out of words, as plain data: what both readers tell, also behind a fault. No condition. The program's reader: a bracket that is there; small steps where there is no error. No condition. -/
import Derived.Test.YtnibelnjflhkgaaGreatDoorRmC
namespace Go.Proofs.YtnibelnjflhkgaaGreatDoor.Ab
set_option linter.unusedVariables false
set_option linter.unusedSimpArgs false
set_option maxRecDepth 10000
theorem c160:compF Tryz.prog ow Tryz.f160=(some (11,([],(.seq (.ops [(none,(.cp 2 0)),(none,(.call (some 3) (.k (.func 141 [] [])) [(.t 2),(.k (.str [41]))] none))]) (.ops [(none,(.cp 4 0)),(none,(.nil (some 5) (.t 4))),(none,(.fa (some 6) (.t 5) 2)),(none,(.ld (some 7) (.t 6) (.one none))),(none,(.bin (some 8) .sub (.t 7) (.k (.int .i64 1)) false false)),(none,(.nil (some 9) (.t 4))),(none,(.fa (some 10) (.t 9) 2)),(none,(.st (.t 10) (.t 8) 1))]))))):=by kernel_rfl
theorem fnl_rclose (h:Hp) (l:Nat) (hl:l<h.n) (ts:List Tk) (i:Nat) (hi:i<1000000000) (d:Nat) (hd:d<1000) (b:Nat) (e:Int) (hb:h.bk l=rdC .sh ts i ((d+1:Nat):Int) b e) (t:Tk) (ht:ts[i]? =some t):
  Fn Tryz.prog 160 [.ptr l 0] h (.tup []) ⟨h.n,updB h.bk l (if (e==0) then (if (t.k==4&&t.s== [41]) then rdC .sh ts (i+1) d b e else rdC .sh ts i d t.p 4) else rdC .sh ts i d b e)⟩:=by
 have hN:=fnl_rneed h l hl ts i hi ((d+1:Nat):Int) b e hb t ht [41]
 have hw:IntKind.i64.wrap (((d+1:Nat):Int)-1)=(d:Int):=by rw [wrap64]<;>omega
 have s1:=shrink_rdr h l ts (i+1) d b e
 have s2:=shrink_rdr h l ts i d t.p 4
 have s3:=shrink_rdr h l ts i d b e
 have hb2:=hb
 unfold rdC at hN hb2 ⊢
 refine fnC mixed Tryz.func160 c160 (by simp) ?_
 cases he:(e==0) with
 |false=>
  rw [he] at hN
  simp only [Bool.false_eq_true,if_false] at hN
  simp only [go_sem,seval]
  refine ccall hN (by simp only [go_sem,seval]) ?_
  simp only [go_sem,seval,hb2,hw]
  exact s3
 |true=>
  rw [he] at hN
  simp only [if_true] at hN
  cases hk:(t.k==4&&t.s== [41]) with
  |false=>
   rw [hk] at hN
   simp only [Bool.false_eq_true,if_false] at hN
   simp only [go_sem,seval]
   refine ccall hN (by simp only [go_sem,seval]) ?_
   simp only [go_sem,seval,hw]
   exact s2
  |true=>
   rw [hk] at hN
   simp only [if_true] at hN
   simp only [go_sem,seval]
   refine ccall hN (by simp only [go_sem,seval]) ?_
   simp only [go_sem,seval,hw]
   exact s1
end Go.Proofs.YtnibelnjflhkgaaGreatDoor.Ab
namespace Go.Proofs.YtnibelnjflhkgaaGreatDoor.Ab
set_option linter.unusedVariables false
set_option linter.unusedSimpArgs false
abbrev Er:=Option (Int×Nat)
def erE:Er→Int|some (e,_)=>e|none=>0
def erP (b:Nat):Er→Nat|some (_,p)=>p|none=>b
def shutG (k:List UInt8) (x:List T×Nat×Er) (r:List Tk):T×Nat×Er:=
 match x.2.2 with
 |some e=>(.mk 3 k 0 x.1,x.2.1+2,some e)
 |none=>if isM [41] r then (.mk 3 k 0 x.1,x.2.1+3,none) else (.mk 3 k 0 x.1,x.2.1+2,some (4,headP r))
mutual
def gT (z:List T×Nat):Nat→Nat→List Tk→T×Nat×Er
 |0,_,_=>(.mk 0 [] 0 [],0,some (4,0))
 |_+1,_, []=>(.mk 0 [] 0 [],0,some (4,0))
 |f+1,d,k::r=>
  if k.k=2 then (.mk 1 k.s 0 [],1,none)
  else if k.k=3 then (.mk 2 [] k.n [],1,none)
  else if k.k=1 then
   (if isM [40] r then
    (if d=100 then (.mk 3 k.s 0 z.1,z.2,some (2,headP r)) else shutG k.s (gL z f (d+1) (r.drop 1)) ((r.drop 1).drop (gL z f (d+1) (r.drop 1)).2.1))
   else (.mk 3 k.s 0 [],1,none))
  else (.mk 0 [] 0 [],0,some (4,k.p))
def gL (z:List T×Nat):Nat→Nat→List Tk→List T×Nat×Er
 |0,_,_=>([],0,some (4,0))
 |f+1,d,ts=>
  if (gT z f d ts).2.2.isSome then ([(gT z f d ts).1],(gT z f d ts).2.1,(gT z f d ts).2.2)
  else if isM [44] (ts.drop (gT z f d ts).2.1) then
   ((gT z f d ts).1::(gL z f d ((ts.drop (gT z f d ts).2.1).drop 1)).1,(gT z f d ts).2.1+1+(gL z f d ((ts.drop (gT z f d ts).2.1).drop 1)).2.1,(gL z f d ((ts.drop (gT z f d ts).2.1).drop 1)).2.2)
  else ([(gT z f d ts).1],(gT z f d ts).2.1,none)
end
section
variable {z:List T×Nat} {f d:Nat} {k:Tk} {r:List Tk}
theorem gT_var (h:k.k=2):gT z (f+1) d (k::r)=(.mk 1 k.s 0 [],1,none):=by rw [gT,if_pos h]
theorem gT_num (h:k.k=3):gT z (f+1) d (k::r)=(.mk 2 [] k.n [],1,none):=by rw [gT,if_neg (by omega),if_pos h]
theorem gT_non (h1:k.k≠1) (h2:k.k≠2) (h3:k.k≠3):gT z (f+1) d (k::r)=(.mk 0 [] 0 [],0,some (4,k.p)):=by rw [gT,if_neg h2,if_neg h3,if_neg h1]
theorem gT_atom (h:k.k=1) (hm:isM [40] r=false):gT z (f+1) d (k::r)=(.mk 3 k.s 0 [],1,none):=by rw [gT,if_neg (by omega),if_neg (by omega),if_pos h,if_neg (by simp [hm])]
theorem gT_deep (h:k.k=1) (hm:isM [40] r=true):gT z (f+1) 100 (k::r)=(.mk 3 k.s 0 z.1,z.2,some (2,headP r)):=by rw [gT,if_neg (by omega),if_neg (by omega),if_pos h,if_pos hm,if_pos rfl]
theorem gT_row (h:k.k=1) (hm:isM [40] r=true) (hd:d≠100):gT z (f+1) d (k::r)=shutG k.s (gL z f (d+1) (r.drop 1)) ((r.drop 1).drop (gL z f (d+1) (r.drop 1)).2.1):=by
 rw [gT,if_neg (by omega),if_neg (by omega),if_pos h,if_pos hm,if_neg hd]
theorem gL_bad {ts:List Tk} {e:Int×Nat} (h:(gT z f d ts).2.2=some e):gL z (f+1) d ts=([(gT z f d ts).1],(gT z f d ts).2.1,some e):=by
 rw [gL,h];rfl
theorem gL_end {ts:List Tk} (h:(gT z f d ts).2.2=none) (hm:isM [44] (ts.drop (gT z f d ts).2.1)=false):gL z (f+1) d ts=([(gT z f d ts).1],(gT z f d ts).2.1,none):=by
 rw [gL,h,hm];rfl
theorem gL_more {ts:List Tk} (h:(gT z f d ts).2.2=none) (hm:isM [44] (ts.drop (gT z f d ts).2.1)=true):gL z (f+1) d ts=
  ((gT z f d ts).1::(gL z f d (ts.drop ((gT z f d ts).2.1+1))).1,(gT z f d ts).2.1+1+(gL z f d (ts.drop ((gT z f d ts).2.1+1))).2.1,(gL z f d (ts.drop ((gT z f d ts).2.1+1))).2.2):=by
 rw [gL,h,hm,List.drop_drop];rfl
end
theorem mark_ne5 {t:Tk} {s:List UInt8} (h:(t.k==4&&t.s==s)=true):(t.k !=5)=true:=by
 simp only [Bool.and_eq_true,beq_iff_eq] at h
 rw [h.1];rfl
def Nx (ts:List Tk):Prop:= ∀i t,ts[i]? =some t→(t.k !=5)=true→i+1<ts.length
theorem Nx.drop {ts:List Tk} (h:Nx ts) (n:Nat):Nx (ts.drop n):=fun i t hi hk=>by
 rw [List.getElem?_drop] at hi
 have:=h (n+i) t hi hk
 simp;omega
theorem Nx.mark {ts:List Tk} (h:Nx ts) {n:Nat} {c:List UInt8} (hm:isM c (ts.drop n)=true):n+1<ts.length:=by
 cases hd:ts.drop n with
 |nil=>rw [hd] at hm;cases hm
 |cons t l=>
  rw [hd] at hm
  have ht:ts[n]? =some t:=by
   have:(ts.drop n)[0]? =some t:=by rw [hd];rfl
   simpa [List.getElem?_drop] using this
  exact h n t ht (mark_ne5 hm)
theorem gTL_lt (z:List T×Nat) (hz:z.2≤2) (f:Nat):(∀d ts,Nx ts→0<ts.length→2 * ts.length≤f→(gT z f d ts).2.1<ts.length)∧(∀d ts,Nx ts→0<ts.length→2 * ts.length+1≤f→(gL z f d ts).2.1<ts.length):=by
 induction f with
 |zero=>exact ⟨fun d ts _ h1 h2=>by omega,fun d ts _ h1 h2=>by omega⟩
 |succ f ih=>
  refine ⟨fun d ts hn h1 h2=> ?_,fun d ts hn h1 h2=> ?_⟩
  ·cases ts with
   |nil=>cases h1
   |cons k r=>
    by_cases c2:k.k=2
    ·rw [gT_var c2];exact hn 0 k rfl (by rw [c2];rfl)
    by_cases c3:k.k=3
    ·rw [gT_num c3];exact hn 0 k rfl (by rw [c3];rfl)
    by_cases c1:k.k=1
    ·cases hm:isM [40] r with
     |false=>rw [gT_atom c1 hm];exact hn 0 k rfl (by rw [c1];rfl)
     |true=>
      have h3:=hn.mark (n:=1) (c:= [40]) (by simpa using hm)
      by_cases hd:d=100
      ·subst hd;rw [gT_deep c1 hm];simp only;omega
      ·rw [gT_row c1 hm hd]
       simp only [List.length_cons] at h2 h3 ⊢
       have hl:=ih.2 (d+1) (r.drop 1) (by simpa using hn.drop 2) (by simp;omega) (by simp;omega)
       have hq:=Nx.mark (c:= [41]) (n:=(gL z f (d+1) (r.drop 1)).2.1) (by simpa using hn.drop 2:Nx (r.drop 1))
       simp only [List.length_drop] at hl hq
       unfold shutG
       split
       ·simp only;omega
       ·split
        ·rename_i h4;have:=hq h4;simp only;omega
        ·simp only;omega
    ·rw [gT_non c1 c2 c3];simp
  ·have hT:=ih.1 d ts hn h1 (by omega)
   cases he:(gT z f d ts).2.2 with
   |some e=>rw [gL_bad he];exact hT
   |none=>
    cases hm:isM [44] (ts.drop (gT z f d ts).2.1) with
    |false=>rw [gL_end he hm];exact hT
    |true=>
     have h3:=hn.mark hm
     rw [gL_more he hm]
     have hl:=ih.2 d (ts.drop ((gT z f d ts).2.1+1)) (hn.drop _) (by simp;omega) (by simp;omega)
     simp only [List.length_drop] at hl ⊢
     omega
theorem shutG_er {k:List UInt8} {x:List T×Nat×Er} {r:List Tk} {e:Int×Nat} (h:(shutG k x r).2.2=some e) (hx: ∀e,x.2.2=some e→e.1≠0):e.1≠0:=by
 unfold shutG at h
 split at h
 ·rename_i e2 h2;simp only [Option.some.injEq] at h;subst h;exact hx _ h2
 ·split at h
  ·cases h
  ·simp only [Option.some.injEq] at h;subst h;exact (by decide:(4:Int)≠0)
theorem gTL_ne (z:List T×Nat) (f:Nat):(∀d ts e,(gT z f d ts).2.2=some e→e.1≠0)∧(∀d ts e,(gL z f d ts).2.2=some e→e.1≠0):=by
 induction f with
 |zero=>exact ⟨fun d ts e h=>(by rw [gT] at h;cases h;decide),fun d ts e h=>(by rw [gL] at h;cases h;decide)⟩
 |succ f ih=>
  refine ⟨fun d ts e h=> ?_,fun d ts e h=> ?_⟩
  ·cases ts with
   |nil=>rw [gT] at h;cases h;decide
   |cons k r=>
    by_cases c2:k.k=2
    ·rw [gT_var c2] at h;cases h
    by_cases c3:k.k=3
    ·rw [gT_num c3] at h;cases h
    by_cases c1:k.k=1
    ·cases hm:isM [40] r with
     |false=>rw [gT_atom c1 hm] at h;cases h
     |true=>
      by_cases hd:d=100
      ·subst hd;rw [gT_deep c1 hm] at h;cases h;exact (by decide:(2:Int)≠0)
      ·rw [gT_row c1 hm hd] at h
       exact shutG_er h (ih.2 _ _)
    ·rw [gT_non c1 c2 c3] at h;cases h;exact (by decide:(4:Int)≠0)
  ·cases he:(gT z f d ts).2.2 with
   |some e2=>rw [gL_bad he] at h;simp only [Option.some.injEq] at h;subst h;exact ih.1 _ _ _ he
   |none=>
    cases hm:isM [44] (ts.drop (gT z f d ts).2.1) with
    |false=>rw [gL_end he hm] at h;cases h
    |true=>rw [gL_more he hm] at h;exact ih.2 _ _ _ h
end Go.Proofs.YtnibelnjflhkgaaGreatDoor.Ab
namespace Go.Proofs.YtnibelnjflhkgaaGreatDoor.Ab
set_option linter.unusedVariables false
set_option linter.unusedSimpArgs false
set_option maxRecDepth 10000
theorem c159:compF Tryz.prog ow Tryz.f159=(some (26,([],(.seq (.seq (.ops [(none,(.cp 2 0)),(none,(.call (some 3) (.k (.func 48 [] [])) [(.t 2)] none)),(none,(.call (some 4) (.k (.func 95 [] [])) [(.t 3),(.k (.str [40]))] none)),(none,(.cp 5 4)),((some (5,true)),(.cp 6 0)),((some (5,true)),(.nil (some 7) (.t 6))),((some (5,true)),(.fa (some 8) (.t 7) 2)),((some (5,true)),(.ld (some 9) (.t 8) (.one none))),((some (5,true)),(.bin (some 10) .eql (.t 9) (.k (.int .i64 100)) false false)),(none,(.pick (some 11) (.t 5) (.t 10) (.k (.bool false))))]) (.cond (.t 11) (.ops [(none,(.cp 12 0)),(none,(.cp 13 0)),(none,(.call (some 14) (.k (.func 48 [] [])) [(.t 13)] none)),(none,(.fld (some 15) (.t 14) 3 (.one none))),(none,(.call (some 16) (.k (.func 99 [] [])) [(.t 12),(.t 15),(.k (.int .i64 2))] none))]) .skip)) (.seq (.ops [(none,(.cp 17 0)),(none,(.call (some 18) (.k (.func 141 [] [])) [(.t 17),(.k (.str [40]))] none))]) (.ops [(none,(.cp 19 0)),(none,(.nil (some 20) (.t 19))),(none,(.fa (some 21) (.t 20) 2)),(none,(.ld (some 22) (.t 21) (.one none))),(none,(.bin (some 23) .add (.t 22) (.k (.int .i64 1)) false false)),(none,(.nil (some 24) (.t 19))),(none,(.fa (some 25) (.t 24) 2)),(none,(.st (.t 25) (.t 23) 1))])))))):=by kernel_rfl
theorem lab_rd (n:Nat) (ts:List Tk) (i:Nat) (d:Int) (b:Nat) (e:Int):labL n [.sl .sh 4 (ts.map Tk.av), .int .i64 (i:Nat), .int .i64 d, .int .i64 (b:Nat), .int .i64 e]=true:=by
 have lb:=lab_tks n ts
 simp [labL,labOK]
 simpa [labOK] using lb
theorem shrink_rdX {h hp:Hp} {l:Nat} {ts:List Tk} {i:Nat} {d:Int} {b:Nat} {e:Int} (h1:h.n≤hp.n) (h2: ∀k,k<h.n→k≠l→hp.bk k=h.bk k) (h3:hp.bk l=rdC .sh ts i d b e):
  Shrink h hp ⟨h.n,updB h.bk l (.cells [.sl .sh 4 (ts.map Tk.av), .int .i64 (i:Nat), .int .i64 d, .int .i64 (b:Nat), .int .i64 e])⟩:=shrink_set h1 h2 h3 (lab_rd _ _ _ _ _ _)
section
variable (h:Hp) (l:Nat) (hl:l<h.n) (ts:List Tk) (i:Nat) (d:Int) (b:Nat) (t:Tk) (ht:ts[i]? =some t)
include hl ht
theorem fnu_token (e:Int) (hb:h.bk l=rdC .sh ts i d b e):Fn Tryz.prog 48 [.ptr l 0] h (.agg [.int .i64 t.k, .str t.s, .int .i64 t.n, .int .i64 (t.p:Nat)]) h:=fnl_rtoken h l hl ts i d b e hb t ht
theorem fnu_step (hi:i<1000000000) (hk:(t.k !=5)=true) (hb:h.bk l=rdC .sh ts i d b 0):Fn Tryz.prog 143 [.ptr l 0] h (.tup []) ⟨h.n,updB h.bk l (.cells [.sl .sh 4 (ts.map Tk.av), .int .i64 ((i+1:Nat):Int), .int .i64 d, .int .i64 (b:Nat), .int .i64 0])⟩:=by
 have:=fnl_rstep h l hl ts i hi d b 0 hb t ht
 rw [hk] at this
 exact this
theorem fnu_step5 (hi:i<1000000000) (e:Int) (hk:(e==0&&t.k !=5)=false) (hb:h.bk l=rdC .sh ts i d b e):Fn Tryz.prog 143 [.ptr l 0] h (.tup []) h:=by
 have:=fnl_rstep h l hl ts i hi d b e hb t ht
 rw [hk] at this
 exact this
omit ht in
theorem fnu_fail (p:Nat) (e2:Int) (hb:h.bk l=rdC .sh ts i d b 0):Fn Tryz.prog 99 [.ptr l 0, .int .i64 (p:Nat), .int .i64 e2] h (.tup []) ⟨h.n,updB h.bk l (.cells [.sl .sh 4 (ts.map Tk.av), .int .i64 (i:Nat), .int .i64 d, .int .i64 (p:Nat), .int .i64 e2])⟩:=fnl_rfail h l hl ts i d b 0 hb p e2
omit ht in
omit ht in
theorem fnu_ok (e:Int) (hb:h.bk l=rdC .sh ts i d b e):Fn Tryz.prog 47 [.ptr l 0] h (.bool (e==0)) h:=fnl_rok h l hl .sh ts i d b e hb
theorem fnu_takeF (hi:i<1000000000) (e:Int) (s:List UInt8) (hk:(e==0&&(t.k==4&&t.s==s))=false) (hb:h.bk l=rdC .sh ts i d b e):Fn Tryz.prog 144 [.ptr l 0, .str s] h (.bool false) h:=by
 have:=fnl_rtake h l hl ts i hi d b e hb t ht s
 rw [hk] at this
 exact this
theorem fnu_takeT (hi:i<1000000000) (s:List UInt8) (hk:(t.k==4&&t.s==s)=true) (hb:h.bk l=rdC .sh ts i d b 0):Fn Tryz.prog 144 [.ptr l 0, .str s] h (.bool true) ⟨h.n,updB h.bk l (.cells [.sl .sh 4 (ts.map Tk.av), .int .i64 ((i+1:Nat):Int), .int .i64 d, .int .i64 (b:Nat), .int .i64 0])⟩:=by
 have:=fnl_rtake h l hl ts i hi d b 0 hb t ht s
 rw [hk] at this
 exact this
end
theorem fnl_ropen (h:Hp) (l:Nat) (hl:l<h.n) (ts:List Tk) (i:Nat) (hi:i<1000000000) (d:Nat) (hd:d<1000) (b:Nat) (hb:h.bk l=rdC .sh ts i d b 0) (t:Tk) (ht:ts[i]? =some t) (hm:(t.k==4&&t.s== [40])=true):
  Fn Tryz.prog 159 [.ptr l 0] h (.tup []) ⟨h.n,updB h.bk l (if d=100 then rdC .sh ts i ((d+1:Nat):Int) t.p 2 else rdC .sh ts (i+1) ((d+1:Nat):Int) b 0)⟩:=by
 have hT:=fnu_token h l hl ts i d b t ht 0 hb
 have hM:=fnl_mark t [40]
 rw [hm] at hM
 unfold Tk.av at hM
 have hw:IntKind.i64.wrap ((d:Int)+1)=((d+1:Nat):Int):=by rw [wrap64]<;>omega
 have s1:=shrink_rdr h l ts i ((d+1:Nat):Int) t.p 2
 have s2:=shrink_rdr h l ts (i+1) ((d+1:Nat):Int) b 0
 have hb2:=hb
 unfold rdC at hb2
 by_cases hc:d=100
 ·have hc' :((d:Int)==100)=true:=by rw [hc];rfl
  have hF:=fnu_fail h l hl ts i d b t.p 2 hb
  have hN:=fnl_rneed ⟨h.n,updB h.bk l (rdC .sh ts i d t.p 2)⟩ l hl ts i hi d t.p 2 (by simp [bk_apply]) t ht [40]
  rw [show ((2:Int)==0)=false from rfl] at hN
  simp only [Bool.false_eq_true,if_false] at hN
  rw [if_pos hc]
  unfold rdC at hN ⊢
  refine fnC mixed Tryz.func159 c159 (by simp) ?_
  simp only [go_sem,seval]
  refine ccall hT (by simp only [go_sem,seval]) ?_
  simp only [go_sem,seval]
  refine pcall hM (by simp only [go_sem,seval]) ?_
  simp only [go_sem,seval,hb2,hc']
  refine ccall hT (by simp only [go_sem,seval]) ?_
  simp only [go_sem,seval]
  refine ccall hF (by simp only [go_sem,seval]) ?_
  simp only [go_sem,seval]
  refine ccall hN (by simp only [go_sem,seval]) ?_
  simp only [go_sem,seval,hw]
  exact s1
 ·have hc' :((d:Int)==100)=false:=by simp;omega
  have hN:=fnl_rneed h l hl ts i hi d b 0 hb t ht [40]
  rw [hm] at hN
  simp only [beq_self_eq_true,if_true] at hN
  rw [if_neg hc]
  unfold rdC at hN ⊢
  refine fnC mixed Tryz.func159 c159 (by simp) ?_
  simp only [go_sem,seval]
  refine ccall hT (by simp only [go_sem,seval]) ?_
  simp only [go_sem,seval]
  refine pcall hM (by simp only [go_sem,seval]) ?_
  simp only [go_sem,seval,hb2,hc']
  refine ccall hN (by simp only [go_sem,seval]) ?_
  simp only [go_sem,seval,hw]
  exact s2
end Go.Proofs.YtnibelnjflhkgaaGreatDoor.Ab

/- The program's reader over states: a row. No condition. The program's reader over states: two that lie in a way; parts with a mark between; a pattern. No condition. The program's reader over states: parts with a mark between; a pattern. No condition. How many terms a pattern has, and how deep it is. No condition. The program's reader over states: which policy comes, in whatever order the map's entries come; a pattern that is asked. No condition. -/
import Derived.Test.YtnibelnjflhkgaaGreatDoorRoA
namespace Go.Proofs.YtnibelnjflhkgaaGreatDoor.Ab
set_option linter.unusedVariables false
set_option linter.unusedSimpArgs false
set_option maxRecDepth 10000
theorem c221:compF Tryz.prog ow Tryz.f221=(some (27,([(.c 2 (.agg 9))],(.seq (.ops [(none,(.alloc 2 [(.int .i64 0),(.int .i64 0),(.str []),(.int .i64 0),(.sl .full 4 []),(.int .i64 0),(.sl .full 9 []),(.sl .full 9 []),(.sl .full 9 [])]))]) (.seq (.ops [(none,(.cp 5 0)),(none,(.call (some 6) (.k (.func 237 [] [])) [(.t 5)] none)),(none,(.alloc 3 [(.int .i64 0),(.int .i64 0),(.str []),(.int .i64 0),(.sl .full 4 []),(.int .i64 0),(.sl .full 9 []),(.sl .full 9 []),(.sl .full 9 [])])),(none,(.st (.t 3) (.t 6) 9))]) (.seq (.block 0 (.loop (.seq (.seq (.ops [(none,(.cp 7 0)),(none,(.call (some 8) (.k (.func 144 [] [])) [(.t 7),(.k (.str [59]))] none))]) (.cond (.t 8) .skip (.exit 0))) (.block 1 (.seq (.ops [(none,(.ld (some 9) (.t 3) (.agg 9))),(none,(.call (some 10) (.k (.func 186 [] [])) [(.t 9)] none)),(none,(.bld (some 11) [(.int .i64 0),(.int .i64 0),(.str []),(.int .i64 0),(.sl .full 4 []),(.int .i64 0),(.sl .full 9 []),(.sl .full 9 []),(.sl .full 9 [])] [(0,1),(1,4),(5,1),(6,1),(7,1),(8,1)] [(0,(.k (.int .i64 2))),(3,(.t 10))])),(none,(.alloc 4 [(.int .i64 0),(.int .i64 0),(.str []),(.int .i64 0),(.sl .full 4 []),(.int .i64 0),(.sl .full 9 []),(.sl .full 9 []),(.sl .full 9 [])])),(none,(.st (.t 4) (.t 11) 9))]) (.seq (.seq (.ops [(none,(.cp 12 0)),(none,(.call (some 13) (.k (.func 144 [] [])) [(.t 12),(.k (.str [92,43]))] none))]) (.cond (.t 13) (.seq (.ops [(none,(.cp 14 0)),(none,(.call (some 15) (.k (.func 238 [] [])) [(.t 14)] none)),(none,(.call (some 16) (.k (.func 186 [] [])) [(.t 15)] none)),(none,(.fa (some 17) (.t 4) 0)),(none,(.st (.t 17) (.k (.int .i64 5)) 1)),(none,(.fa (some 18) (.t 4) 8)),(none,(.st (.t 18) (.t 16) 1))]) (.ops [(none,(.cp 19 0)),(none,(.call (some 20) (.k (.func 141 [] [])) [(.t 19),(.k (.str [59]))] none))])) .skip)) (.seq (.ops [(none,(.cp 21 0)),(none,(.call (some 22) (.k (.func 237 [] [])) [(.t 21)] none)),(none,(.call (some 23) (.k (.func 186 [] [])) [(.t 22)] none)),(none,(.fa (some 24) (.t 4) 7)),(none,(.st (.t 24) (.t 23) 1))]) (.ops [(none,(.ld (some 25) (.t 4) (.agg 9))),(none,(.st (.t 3) (.t 25) 9))])))))))) (.seq (.ops [(none,(.ld (some 26) (.t 3) (.agg 9))),(none,(.st (.t 2) (.t 26) 9))]) .ret))))))):=by kernel_rfl
def rowB (pat:Nat→St→Pn×St) (ts:List Tk) (d:Nat) (p:Pn) (s:St):Pn×St:=
 if takeS ts [92,43] s=true then
  (.mk 5 zT 0 [p] [(oneW pat ts d (needS ts [59] (withinW pat ts d (goS ts [92,43] s)).2)).1] [(withinW pat ts d (goS ts [92,43] s)).1],(oneW pat ts d (needS ts [59] (withinW pat ts d (goS ts [92,43] s)).2)).2)
 else (.mk 2 zT 0 [p] [(oneW pat ts d (goS ts [92,43] s)).1] [],(oneW pat ts d (goS ts [92,43] s)).2)
def loopW (ts:List Tk) (c:List UInt8) (body:Pn→St→Pn×St):Nat→Pn→St→Pn×St
 |0,p,s=>(p,s)
 |m+1,p,s=>if takeS ts c s=true then loopW ts c body m (body p (goS ts c s)).1 (body p (goS ts c s)).2 else (p,s)
def rowW (pat:Nat→St→Pn×St) (ts:List Tk) (d:Nat) (s:St):Pn×St:=loopW ts [59] (rowB pat ts d) ts.length (oneW pat ts d s).1 (oneW pat ts d s).2
theorem goS_i (ts:List Tk) (c:List UInt8) (s:St):s.i≤(goS ts c s).i:=by unfold goS;split<;>simp
theorem goS_lt {ts:List Tk} {c:List UInt8} {s:St} (h:takeS ts c s=true):s.i<(goS ts c s).i:=by unfold goS;rw [if_pos h];simp
theorem loopW_gd {ts:List Tk} (W:Wds ts) {c:List UInt8} {body:Pn→St→Pn×St} (hb: ∀p,Gd ts (body p)): ∀(m:Nat) (p:Pn) (s:St),SOk ts s→SOk ts (loopW ts c body m p s).2∧s.i≤(loopW ts c body m p s).2.i
 |0,p,s,h=>⟨h,Nat.le_refl _⟩
 |m+1,p,s,h=>by
  rw [loopW]
  split
  ·obtain ⟨k1,k2⟩:=hb p _ (goS_ok (c:=c) W.Nx h)
   obtain ⟨k3,k4⟩:=loopW_gd W hb m (body p (goS ts c s)).1 _ k1
   exact ⟨k3,Nat.le_trans (Nat.le_trans (goS_i ts c s) k2) k4⟩
  ·exact ⟨h,Nat.le_refl _⟩
theorem rowB_gd {pat:Nat→St→Pn×St} {ts:List Tk} (W:Wds ts) {d:Nat} (hw:Gd ts (withinW pat ts d)) (ho:Gd ts (oneW pat ts d)) (p:Pn):Gd ts (rowB pat ts d p):=by
 intro s hs
 have h1:=goS_ok (c:= [92,43]) W.Nx hs
 have h2:=goS_i ts [92,43] s
 unfold rowB;split
 ·obtain ⟨k1,k2⟩:=hw _ h1
  obtain ⟨k3,k4⟩:=ho _ (needS_ok (c:= [59]) W.Nx k1)
  exact ⟨k3,Nat.le_trans (Nat.le_trans (Nat.le_trans h2 k2) (needS_i _ _ _)) k4⟩
 ·obtain ⟨k3,k4⟩:=ho _ h1
  exact ⟨k3,Nat.le_trans h2 k4⟩
theorem row_gd {pat:Nat→St→Pn×St} {ts:List Tk} (W:Wds ts) {d:Nat} (hw:Gd ts (withinW pat ts d)) (ho:Gd ts (oneW pat ts d)):Gd ts (rowW pat ts d):=by
 intro s hs
 obtain ⟨k1,k2⟩:=ho s hs
 obtain ⟨k3,k4⟩:=loopW_gd W (c:= [59]) (rowB_gd W hw ho) ts.length (oneW pat ts d s).1 _ k1
 exact ⟨k3,Nat.le_trans k2 k4⟩
theorem pavf_drop (p:Pn):List.drop 9 p.avf.cells= []:=List.drop_eq_nil_of_le (by rw [pavf_len];exact Nat.le_refl _)
theorem fx_row {pat:Nat→St→Pn×St} {ts:List Tk} (W:Wds ts) {d:Nat} (gw:Gd ts (withinW pat ts d)) (go:Gd ts (oneW pat ts d)) (hw:PFx 238 ts d (withinW pat ts d)) (ho:PFx 237 ts d (oneW pat ts d)):PFx 221 ts d (rowW pat ts d):=by
 intro h l s hl hs hb
 have n0: ¬l=h.n:=by omega
 have n1: ¬l=h.n+1:=by omega
 have m0: ¬h.n=l:=by omega
 have m1: ¬h.n+1=l:=by omega
 have p0: ¬h.n=h.n+1:=by omega
 have p1: ¬h.n+1=h.n:=by omega
 refine fnC mixed Tryz.func221 c221 (by simp) ?_
 simp only [go_sem,seval]
 refine ccall (ho _ l s (by simp;omega) hs (by simp [bk_apply,n0,hb])) (by simp only [go_sem,seval]) ?_
 unfold rowW
 obtain ⟨k1,k2⟩:=go s hs
 generalize oneW pat ts d s=R at *
 obtain ⟨p0',s0⟩:=R
 simp only at k1 k2 ⊢
 simp only [go_sem,seval,n0,n1,m0,m1,p0,p1]
 generalize hG:loopW ts [59] (rowB pat ts d) ts.length p0' s0=G
 refine cloop (fun m t=> ∃(p:Pn) (s:St),SOk ts s∧ts.length≤m+s.i∧t.fr 0= .ptr l 0∧t.fr 2= .ptr h.n 0∧t.fr 3= .ptr (h.n+1) 0∧h.n+2≤t.hp.n∧t.hp.bk l=rdX ts s d∧t.hp.bk (h.n+1)= .cells p.avf.cells∧
  t.hp.bk h.n= .cells [.int .i64 0, .int .i64 0, .str [], .int .i64 0, .sl .full 4 [], .int .i64 0, .sl .full 9 [], .sl .full 9 [], .sl .full 9 []]∧(∀q,q<h.n→q≠l→t.hp.bk q=h.bk q)∧loopW ts [59] (rowB pat ts d) m p s=G) ts.length
  ⟨p0',s0,k1,by omega,by simp [fr_apply,argsF],by simp [fr_apply],by simp [fr_apply],by simp,by simp [bk_apply,n0,n1],by simp [bk_apply,p1,m1],by simp [bk_apply,p0,m0],fun q hq hne=>by simp [bk_apply,hne,show q≠h.n by omega,show q≠h.n+1 by omega],hG⟩ ?_
 clear hG
 rintro m ⟨F,hp⟩ ⟨p,s,hs,hm,f0,f2,f3,hn,hb1,hb3,hb2,hbo,hG⟩
 simp only at f0 f2 f3 hn hb1 hb2 hb3 hbo
 have hi:=hs.1
 obtain ⟨m,rfl⟩: ∃m',m=m' +1:=⟨m-1,by omega⟩
 rw [loopW] at hG
 have q0: ¬l=hp.n:=by omega
 have q1: ¬hp.n=l:=by omega
 have q2: ¬h.n=hp.n:=by omega
 have q3: ¬hp.n=h.n:=by omega
 have q4: ¬h.n+1=hp.n:=by omega
 have q5: ¬hp.n=h.n+1:=by omega
 simp only [go_sem,seval,f0,f2,f3]
 refine ccall (fx_take (l:=l) (by simp only;omega) W hs (d:=(d:Int)) (by simp only;exact hb1) [59]) (by simp only [go_sem,seval,f0]) ?_
 have h1:=goS_ok (c:= [59]) W.Nx hs
 cases ht:takeS ts [59] s with
 |false=>
  rw [if_neg (by simp [ht])] at hG
  subst hG
  rw [show goS ts [59] s=s by unfold goS;rw [if_neg (by simp [ht])]]
  simp only [go_sem,seval,f0,f2,f3,hb3,hb2,n0,n1,m0,m1,p0,p1]
  exact ⟨wk_refl _,lab_pavf _ _,shrink_rX (by simp only;omega) (fun q hq hne=>by simp [bk_apply,hne,show q≠h.n by omega];exact hbo q hq hne) (by simp [bk_apply,n0])⟩
 |true=>
  have hlt:=goS_lt ht
  rw [if_pos ht] at hG
  generalize goS ts [59] s=s1 at *
  simp only [go_sem,seval,f0,f2,f3,hb3,n1,m1]
  refine pcall (fx_list p) (by simp only [go_sem,seval]) ?_
  simp only [go_sem,seval,f0,f2,f3]
  refine ccall (fx_take (l:=l) (s:=s1) (by simp;omega) W h1 (d:=(d:Int)) (by simp [bk_apply,q0,q1]) [92,43]) (by simp only [go_sem,seval,f0]) ?_
  unfold rowB at hG
  have h2:=goS_ok (c:= [92,43]) W.Nx h1
  have h3:=goS_i ts [92,43] s1
  cases ht2:takeS ts [92,43] s1 with
  |false=>
   rw [if_neg (by simp [ht2])] at hG
   generalize goS ts [92,43] s1=s2 at *
   simp only [go_sem,seval,f0,f2,f3,q0,q1,q2,q3,q4,q5]
   obtain ⟨k3,k4⟩:=go s2 h2
   refine ccall (ho _ l s2 (by simp;omega) h2 (by simp [bk_apply,q0,q1])) (by simp only [go_sem,seval,f0]) ?_
   generalize oneW pat ts d s2=R at *
   obtain ⟨o,s3⟩:=R
   simp only at k3 k4 hG ⊢
   simp only [go_sem,seval,f0,f2,f3]
   refine pcall (fx_list o) (by simp only [go_sem,seval]) ?_
   simp only [go_sem,seval,f0,f2,f3,q0,q1,q2,q3,q4,q5,hb3,n1,m1]
   exact ⟨m,by omega, .mk 2 zT 0 [p] [o] [],s3,k3,by omega,by omega,rfl,by rw [pavf_drop,zT,pavf_mk];rfl,by simp [m0];exact hb2,fun q hq hne=>by simp [hne,show q≠h.n+1 by omega,show q≠hp.n by omega];exact hbo q hq hne,hG⟩
  |true=>
   rw [if_pos ht2] at hG
   generalize goS ts [92,43] s1=s2 at *
   simp only [go_sem,seval,f0,f2,f3,q0,q1,q2,q3,q4,q5]
   obtain ⟨k5,k6⟩:=gw s2 h2
   refine ccall (hw _ l s2 (by simp;omega) h2 (by simp [bk_apply,q0,q1])) (by simp only [go_sem,seval,f0]) ?_
   generalize withinW pat ts d s2=R at *
   obtain ⟨w,s3⟩:=R
   simp only at k5 k6 hG ⊢
   simp only [go_sem,seval,f0,f2,f3]
   refine pcall (fx_list w) (by simp only [go_sem,seval]) ?_
   simp only [go_sem,seval,f0,f2,f3,q0,q1,q2,q3,q4,q5]
   refine ccall (fx_need (l:=l) (s:=s3) (by simp;omega) W k5 (d:=(d:Int)) (by simp [bk_apply,q0,q1]) [59]) (by simp only [go_sem,seval,f0]) ?_
   have k7:=needS_ok (c:= [59]) W.Nx k5
   have k8:=needS_i ts [59] s3
   generalize needS ts [59] s3=s4 at *
   simp only [go_sem,seval,f0,f2,f3,q0,q1,q2,q3,q4,q5]
   obtain ⟨k3,k4⟩:=go s4 k7
   refine ccall (ho _ l s4 (by simp;omega) k7 (by simp [bk_apply,q0,q1])) (by simp only [go_sem,seval,f0]) ?_
   generalize oneW pat ts d s4=R at *
   obtain ⟨o,s5⟩:=R
   simp only at k3 k4 hG ⊢
   simp only [go_sem,seval,f0,f2,f3]
   refine pcall (fx_list o) (by simp only [go_sem,seval]) ?_
   simp only [go_sem,seval,f0,f2,f3,q0,q1,q2,q3,q4,q5,hb3,n1,m1]
   exact ⟨m,by omega, .mk 5 zT 0 [p] [o] [w],s5,k3,by omega,by omega,rfl,by rw [pavf_drop,zT,pavf_mk];rfl,by simp [m0];exact hb2,fun q hq hne=>by simp [hne,show q≠h.n+1 by omega,show q≠hp.n by omega];exact hbo q hq hne,hG⟩
end Go.Proofs.YtnibelnjflhkgaaGreatDoor.Ab
namespace Go.Proofs.YtnibelnjflhkgaaGreatDoor.Ab
set_option linter.unusedVariables false
set_option linter.unusedSimpArgs false
set_option maxRecDepth 10000
theorem c187:compF Tryz.prog ow Tryz.f187=(some (41,([(.c 2 (.agg 9))],(.seq (.ops [(none,(.alloc 2 [(.int .i64 0),(.int .i64 0),(.str []),(.int .i64 0),(.sl .full 4 []),(.int .i64 0),(.sl .full 9 []),(.sl .full 9 []),(.sl .full 9 [])]))]) (.seq (.ops [(none,(.cp 6 0)),(none,(.call (some 7) (.k (.func 221 [] [])) [(.t 6)] none)),(none,(.alloc 3 [(.int .i64 0),(.int .i64 0),(.str []),(.int .i64 0),(.sl .full 4 []),(.int .i64 0),(.sl .full 9 []),(.sl .full 9 []),(.sl .full 9 [])])),(none,(.st (.t 3) (.t 7) 9))]) (.seq (.seq (.ops [(none,(.cp 8 0)),(none,(.call (some 9) (.k (.func 144 [] [])) [(.t 8),(.k (.str [64]))] none)),(none,(.un (some 10) .not (.t 9)))]) (.cond (.t 10) (.seq (.ops [(none,(.ld (some 11) (.t 3) (.agg 9))),(none,(.st (.t 2) (.t 11) 9))]) .ret) .skip)) (.seq (.ops [(none,(.cp 13 0)),(none,(.call (some 14) (.k (.func 48 [] [])) [(.t 13)] none)),(none,(.fld (some 15) (.t 14) 1 (.one none))),(none,(.call (some 16) (.k (.func 222 [] [])) [(.t 15)] none)),(none,(.cp 12 16)),(none,(.ext (some 17) (.t 12) 0)),(none,(.ext (some 18) (.t 12) 1)),(none,(.mv 4 17)),(none,(.mv 5 18))]) (.seq (.seq (.ops [(none,(.cp 19 0)),(none,(.call (some 20) (.k (.func 48 [] [])) [(.t 19)] none)),(none,(.fld (some 21) (.t 20) 0 (.one none))),(none,(.bin (some 22) .neq (.t 21) (.k (.int .i64 1)) false false)),(none,(.cp 23 22)),((some (23,false)),(.cp 24 5)),((some (23,false)),(.bin (some 25) .neq (.t 24) (.k (.int .i64 0)) false false)),(none,(.pick (some 26) (.t 23) (.k (.bool true)) (.t 25)))]) (.cond (.t 26) (.ops [(none,(.cp 27 0)),(none,(.cp 28 0)),(none,(.call (some 29) (.k (.func 48 [] [])) [(.t 28)] none)),(none,(.fld (some 30) (.t 29) 3 (.one none))),(none,(.call (some 31) (.k (.func 99 [] [])) [(.t 27),(.t 30),(.k (.int .i64 4))] none))]) .skip)) (.seq (.ops [(none,(.cp 32 0)),(none,(.call (some 33) (.k (.func 143 [] [])) [(.t 32)] none))]) (.seq (.ops [(none,(.cp 34 4)),(none,(.ld (some 35) (.t 3) (.agg 9))),(none,(.call (some 36) (.k (.func 186 [] [])) [(.t 35)] none)),(none,(.cp 37 0)),(none,(.call (some 38) (.k (.func 221 [] [])) [(.t 37)] none)),(none,(.call (some 39) (.k (.func 186 [] [])) [(.t 38)] none)),(none,(.bld (some 40) [(.int .i64 0),(.int .i64 0),(.str []),(.int .i64 0),(.sl .full 4 []),(.int .i64 0),(.sl .full 9 []),(.sl .full 9 []),(.sl .full 9 [])] [(0,1),(1,4),(5,1),(6,1),(7,1),(8,1)] [(0,(.k (.int .i64 6))),(2,(.t 34)),(3,(.t 36)),(4,(.t 39))])),(none,(.st (.t 2) (.t 40) 9))]) .ret)))))))))):=by kernel_rfl
theorem c136:compF Tryz.prog ow Tryz.f136=(some (23,([(.c 8 (.agg 9))],(.seq (.ops [(none,(.alloc 8 [(.int .i64 0),(.int .i64 0),(.str []),(.int .i64 0),(.sl .full 4 []),(.int .i64 0),(.sl .full 9 []),(.sl .full 9 []),(.sl .full 9 [])]))]) (.seq (.ops [(none,(.cp 10 3)),(none,(.call (some 11) (.t 10) [] none)),(none,(.alloc 9 [(.int .i64 0),(.int .i64 0),(.str []),(.int .i64 0),(.sl .full 4 []),(.int .i64 0),(.sl .full 9 []),(.sl .full 9 []),(.sl .full 9 [])])),(none,(.st (.t 9) (.t 11) 9))]) (.seq (.block 0 (.loop (.seq (.seq (.ops [(none,(.cp 12 0)),(none,(.cp 13 2)),(none,(.call (some 14) (.k (.func 144 [] [])) [(.t 12),(.t 13)] none))]) (.cond (.t 14) .skip (.exit 0))) (.block 1 (.ops [(none,(.cp 15 1)),(none,(.ld (some 16) (.t 9) (.agg 9))),(none,(.call (some 17) (.k (.func 186 [] [])) [(.t 16)] none)),(none,(.cp 18 3)),(none,(.call (some 19) (.t 18) [] none)),(none,(.call (some 20) (.k (.func 186 [] [])) [(.t 19)] none)),(none,(.bld (some 21) [(.int .i64 0),(.int .i64 0),(.str []),(.int .i64 0),(.sl .full 4 []),(.int .i64 0),(.sl .full 9 []),(.sl .full 9 []),(.sl .full 9 [])] [(0,1),(1,4),(5,1),(6,1),(7,1),(8,1)] [(0,(.t 15)),(3,(.t 17)),(4,(.t 20))])),(none,(.st (.t 9) (.t 21) 9))]))))) (.seq (.ops [(none,(.ld (some 22) (.t 9) (.agg 9))),(none,(.st (.t 8) (.t 22) 9))]) .ret))))))):=by kernel_rfl
theorem c137:compF Tryz.prog ow Tryz.f137=(some (7,([(.c 2 (.agg 9))],(.seq (.ops [(none,(.alloc 2 [(.int .i64 0),(.int .i64 0),(.str []),(.int .i64 0),(.sl .full 4 []),(.int .i64 0),(.sl .full 9 []),(.sl .full 9 []),(.sl .full 9 [])]))]) (.seq (.ops [(none,(.cp 3 0)),(none,(.cp 4 0)),(none,(.mkf (some 5) 187 [(.t 4)] [])),(none,(.call (some 6) (.k (.func 136 [] [])) [(.t 3),(.k (.int .i64 3)),(.k (.str [38])),(.t 5)] none)),(none,(.st (.t 2) (.t 6) 9))]) .ret))))):=by kernel_rfl
theorem c92:compF Tryz.prog ow Tryz.f92=(some (7,([(.c 2 (.agg 9))],(.seq (.ops [(none,(.alloc 2 [(.int .i64 0),(.int .i64 0),(.str []),(.int .i64 0),(.sl .full 4 []),(.int .i64 0),(.sl .full 9 []),(.sl .full 9 []),(.sl .full 9 [])]))]) (.seq (.ops [(none,(.cp 3 0)),(none,(.cp 4 0)),(none,(.mkf (some 5) 137 [(.t 4)] [])),(none,(.call (some 6) (.k (.func 136 [] [])) [(.t 3),(.k (.int .i64 4)),(.k (.str [124])),(.t 5)] none)),(none,(.st (.t 2) (.t 6) 9))]) .ret))))):=by kernel_rfl
def badRel (t:Tk):Bool:= !(t.k==1)||(relOf t.s==0)
def pairB (row:St→Pn×St) (ts:List Tk) (p:Pn) (s:St):Pn×St:=
 (.mk 6 zT (relOf (tkS ts s).s) [p] [(row (stepS ts (if badRel (tkS ts s)=true then failS (tkS ts s).p 4 s else s))).1] [],(row (stepS ts (if badRel (tkS ts s)=true then failS (tkS ts s).p 4 s else s))).2)
def pairW (row:St→Pn×St) (ts:List Tk) (s:St):Pn×St:=
 if takeS ts [64] (row s).2=true then pairB row ts (row s).1 (goS ts [64] (row s).2) else row s
def chainB (part:St→Pn×St) (kind:Int) (p:Pn) (s:St):Pn×St:=(.mk kind zT 0 [p] [(part s).1] [],(part s).2)
def chainW (part:St→Pn×St) (kind:Int) (c:List UInt8) (ts:List Tk) (s:St):Pn×St:=loopW ts c (chainB part kind) ts.length (part s).1 (part s).2
theorem pair_gd {row:St→Pn×St} {ts:List Tk} (W:Wds ts) (hr:Gd ts row):Gd ts (pairW row ts):=by
 intro s hs
 obtain ⟨k1,k2⟩:=hr s hs
 unfold pairW;split
 ·have h1:=goS_ok (c:= [64]) W.Nx k1
  have h2:=goS_i ts [64] (row s).2
  unfold pairB
  simp only
  generalize goS ts [64] (row s).2=s1 at *
  have h3:SOk ts (if badRel (tkS ts s1)=true then failS (tkS ts s1).p 4 s1 else s1)∧(if badRel (tkS ts s1)=true then failS (tkS ts s1).p 4 s1 else s1).i=s1.i:=by
   split
   ·exact ⟨failS_ok h1 (by decide),failS_i _ _ _⟩
   ·exact ⟨h1,rfl⟩
  generalize (if badRel (tkS ts s1)=true then failS (tkS ts s1).p 4 s1 else s1)=s2 at *
  obtain ⟨k3,k4⟩:=hr _ (stepS_ok W.Nx h3.1)
  have:=stepS_i ts s2
  exact ⟨k3,by omega⟩
 ·exact ⟨k1,k2⟩
theorem chain_gd {part:St→Pn×St} {kind:Int} {c:List UInt8} {ts:List Tk} (W:Wds ts) (hp:Gd ts part):Gd ts (chainW part kind c ts):=by
 intro s hs
 obtain ⟨k1,k2⟩:=hp s hs
 obtain ⟨k3,k4⟩:=loopW_gd W (c:=c) (body:=chainB part kind) (fun p s hs=>hp s hs) ts.length (part s).1 _ k1
 exact ⟨k3,Nat.le_trans k2 k4⟩
theorem fx_pair {row:St→Pn×St} {ts:List Tk} (W:Wds ts) {d:Nat} (gr:Gd ts row) (hr:PFx 221 ts d row):PFx 187 ts d (pairW row ts):=by
 intro h l s hl hs hb
 have n0: ¬l=h.n:=by omega
 have n1: ¬l=h.n+1:=by omega
 have m0: ¬h.n=l:=by omega
 have m1: ¬h.n+1=l:=by omega
 have p0: ¬h.n=h.n+1:=by omega
 have p1: ¬h.n+1=h.n:=by omega
 refine fnC mixed Tryz.func187 c187 (by simp) ?_
 simp only [go_sem,seval]
 refine ccall (hr _ l s (by simp;omega) hs (by simp [bk_apply,n0,hb])) (by simp only [go_sem,seval]) ?_
 unfold pairW
 obtain ⟨k1,k2⟩:=gr s hs
 generalize row s=R at *
 obtain ⟨p,s0⟩:=R
 simp only at k1 k2 ⊢
 simp only [go_sem,seval,n0,n1,m0,m1,p0,p1]
 refine ccall (fx_take (l:=l) (s:=s0) (by simp;omega) W k1 (d:=(d:Int)) (by simp [bk_apply,n0,n1]) [64]) (by simp only [go_sem,seval]) ?_
 cases ht:takeS ts [64] s0 with
 |false=>
  rw [show goS ts [64] s0=s0 by unfold goS;rw [if_neg (by simp [ht])]]
  simp only [Bool.false_eq_true,if_false]
  simp only [go_sem,seval,n0,n1,m0,m1,p0,p1]
  exact ⟨wk_refl _,lab_pavf _ _,shrink_rX (by simp) (fun q hq hne=>by simp [bk_apply,hne,show q≠h.n by omega,show q≠h.n+1 by omega]) (by simp [bk_apply,n0,n1])⟩
 |true=>
  have h1:=goS_ok (c:= [64]) W.Nx k1
  simp only [if_true]
  unfold pairB
  generalize goS ts [64] s0=s1 at *
  generalize ht1:tkS ts s1=t at *
  have hO:=fns_Of t.s
  have hT: ∀H:Hp,l<H.n→H.bk l=rdX ts s1 d→Fn Tryz.prog 48 [.ptr l 0] H (.agg [.int .i64 t.k, .str t.s, .int .i64 t.n, .int .i64 (t.p:Nat)]) H:=fun H a b=>ht1▸fx_token (h:=H) a h1 b
  generalize hrel:relOf t.s=rel at *
  simp only [go_sem,seval,n0,n1,m0,m1,p0,p1]
  refine ccall (hT _ (by simp;omega) (by simp [bk_apply,n0,n1,m0,m1])) (by simp only [go_sem,seval]) ?_
  simp only [go_sem,seval]
  refine pcall hO (by simp only [go_sem,seval]) ?_
  simp only [go_sem,seval]
  refine ccall (hT _ (by simp;omega) (by simp [bk_apply,n0,n1,m0,m1])) (by simp only [go_sem,seval]) ?_
  have hbr:badRel t=(!(t.k==1)||(rel==0)):=by unfold badRel;rw [hrel]
  have fin: ∀s3:St,SOk ts s3→ ∀hp:Hp,True→True:=fun _ _ _ _=>trivial
  cases hb2:badRel t with
  |false=>
   rw [hb2] at hbr
   have hb3:=hbr.symm
   simp only [Bool.or_eq_false_iff,Bool.not_eq_false'] at hb3
   have e1:(t.k !=1)=false:=by simp [bne,hb3.1]
   have e2:((if rel=0 then (3:Int) else 0) !=0)=false:=by
    have:rel≠0:=by simpa using hb3.2
    rw [if_neg this];rfl
   simp only [Bool.false_eq_true,if_false]
   simp only [go_sem,seval,e1,e2]
   refine ccall (fx_step (l:=l) (s:=s1) (by simp;omega) W h1 (d:=(d:Int)) (by simp [bk_apply,n0,n1,m0,m1])) (by simp only [go_sem,seval]) ?_
   have h3:=stepS_ok W.Nx h1
   generalize stepS ts s1=s3 at *
   simp only [go_sem,seval,n0,n1,m0,m1,p0,p1]
   refine pcall (fx_list p) (by simp only [go_sem,seval]) ?_
   simp only [go_sem,seval,n0,n1,m0,m1,p0,p1]
   refine ccall (hr _ l s3 (by simp;omega) h3 (by simp [bk_apply,n0,n1,m0,m1])) (by simp only [go_sem,seval]) ?_
   generalize row s3=R at *
   obtain ⟨r,s4⟩:=R
   simp only
   simp only [go_sem,seval,n0,n1,m0,m1,p0,p1]
   refine pcall (fx_list r) (by simp only [go_sem,seval]) ?_
   simp only [go_sem,seval,n0,n1,m0,m1,p0,p1]
   exact ⟨by rw [zT,pavf_mk];rfl,lab_pavf _ _,shrink_rX (by simp) (fun q hq hne=>by simp [bk_apply,hne,show q≠h.n by omega,show q≠h.n+1 by omega]) (by simp [bk_apply,n0,n1])⟩
  |true=>
   rw [hb2] at hbr
   simp only [if_true]
   have h3:=stepS_ok W.Nx (failS_ok (p:=t.p) (e:=4) h1 (by decide))
   cases e1:(t.k !=1) with
   |true=>
    simp only [go_sem,seval,e1]
    refine ccall (hT _ (by simp;omega) (by simp [bk_apply,n0,n1,m0,m1])) (by simp only [go_sem,seval]) ?_
    simp only [go_sem,seval]
    refine ccall (fx_fail (l:=l) (s:=s1) (by simp;omega) h1 (d:=(d:Int)) (by simp [bk_apply,n0,n1,m0,m1]) t.p 4) (by simp only [go_sem,seval]) ?_
    simp only [go_sem,seval,n0,n1,m0,m1,p0,p1]
    refine ccall (fx_step (l:=l) (s:=failS t.p 4 s1) (by simp;omega) W (failS_ok h1 (by decide)) (d:=(d:Int)) (by simp [bk_apply,n0,n1,m0,m1])) (by simp only [go_sem,seval]) ?_
    generalize stepS ts (failS t.p 4 s1)=s3 at *
    simp only [go_sem,seval,n0,n1,m0,m1,p0,p1]
    refine pcall (fx_list p) (by simp only [go_sem,seval]) ?_
    simp only [go_sem,seval,n0,n1,m0,m1,p0,p1]
    refine ccall (hr _ l s3 (by simp;omega) h3 (by simp [bk_apply,n0,n1,m0,m1])) (by simp only [go_sem,seval]) ?_
    generalize row s3=R at *
    obtain ⟨r,s4⟩:=R
    simp only
    simp only [go_sem,seval,n0,n1,m0,m1,p0,p1]
    refine pcall (fx_list r) (by simp only [go_sem,seval]) ?_
    simp only [go_sem,seval,n0,n1,m0,m1,p0,p1]
    exact ⟨by rw [zT,pavf_mk];rfl,lab_pavf _ _,shrink_rX (by simp) (fun q hq hne=>by simp [bk_apply,hne,show q≠h.n by omega,show q≠h.n+1 by omega]) (by simp [bk_apply,n0,n1])⟩
   |false=>
    have e3:(t.k==1)=true:=by simpa [bne] using e1
    have e2:((if rel=0 then (3:Int) else 0) !=0)=true:=by
     rw [e3] at hbr
     have:rel=0:=by simpa using hbr.symm
     rw [if_pos this];rfl
    simp only [go_sem,seval,e1,e2]
    refine ccall (hT _ (by simp;omega) (by simp [bk_apply,n0,n1,m0,m1])) (by simp only [go_sem,seval]) ?_
    simp only [go_sem,seval]
    refine ccall (fx_fail (l:=l) (s:=s1) (by simp;omega) h1 (d:=(d:Int)) (by simp [bk_apply,n0,n1,m0,m1]) t.p 4) (by simp only [go_sem,seval]) ?_
    simp only [go_sem,seval,n0,n1,m0,m1,p0,p1]
    refine ccall (fx_step (l:=l) (s:=failS t.p 4 s1) (by simp;omega) W (failS_ok h1 (by decide)) (d:=(d:Int)) (by simp [bk_apply,n0,n1,m0,m1])) (by simp only [go_sem,seval]) ?_
    generalize stepS ts (failS t.p 4 s1)=s3 at *
    simp only [go_sem,seval,n0,n1,m0,m1,p0,p1]
    refine pcall (fx_list p) (by simp only [go_sem,seval]) ?_
    simp only [go_sem,seval,n0,n1,m0,m1,p0,p1]
    refine ccall (hr _ l s3 (by simp;omega) h3 (by simp [bk_apply,n0,n1,m0,m1])) (by simp only [go_sem,seval]) ?_
    generalize row s3=R at *
    obtain ⟨r,s4⟩:=R
    simp only
    simp only [go_sem,seval,n0,n1,m0,m1,p0,p1]
    refine pcall (fx_list r) (by simp only [go_sem,seval]) ?_
    simp only [go_sem,seval,n0,n1,m0,m1,p0,p1]
    exact ⟨by rw [zT,pavf_mk];rfl,lab_pavf _ _,shrink_rX (by simp) (fun q hq hne=>by simp [bk_apply,hne,show q≠h.n by omega,show q≠h.n+1 by omega]) (by simp [bk_apply,n0,n1])⟩
end Go.Proofs.YtnibelnjflhkgaaGreatDoor.Ab
namespace Go.Proofs.YtnibelnjflhkgaaGreatDoor.Ab
set_option linter.unusedVariables false
set_option linter.unusedSimpArgs false
set_option maxRecDepth 10000
theorem fx_chain {F:FuncId} {part:St→Pn×St} {ts:List Tk} (W:Wds ts) {d:Nat} (gp:Gd ts part) (hp:PFx F ts d part) (kind:Int) (c:List UInt8) (h:Hp) (l:Nat) (s:St) (hl:l<h.n) (hs:SOk ts s) (hb:h.bk l=rdX ts s (d:Nat)):
  Fn Tryz.prog 136 [.ptr l 0, .int .i64 kind, .str c, .func F [.ptr l 0] []] h (chainW part kind c ts s).1.avf ⟨h.n,updB h.bk l (rdX ts (chainW part kind c ts s).2 (d:Nat))⟩:=by
 have n0: ¬l=h.n:=by omega
 have n1: ¬l=h.n+1:=by omega
 have m0: ¬h.n=l:=by omega
 have m1: ¬h.n+1=l:=by omega
 have p0: ¬h.n=h.n+1:=by omega
 have p1: ¬h.n+1=h.n:=by omega
 refine fnC mixed Tryz.func136 c136 (by simp) ?_
 simp only [go_sem,seval]
 refine ccall (hp _ l s (by simp;omega) hs (by simp [bk_apply,n0,hb])) (by simp only [go_sem,seval]) ?_
 unfold chainW
 obtain ⟨k1,k2⟩:=gp s hs
 generalize part s=R at *
 obtain ⟨p0',s0⟩:=R
 simp only at k1 k2 ⊢
 simp only [go_sem,seval,n0,n1,m0,m1,p0,p1]
 generalize hG:loopW ts c (chainB part kind) ts.length p0' s0=G
 refine cloop (fun m t=> ∃(p:Pn) (s:St),SOk ts s∧ts.length≤m+s.i∧t.fr 0= .ptr l 0∧t.fr 1= .int .i64 kind∧t.fr 2= .str c∧t.fr 3= .func F [.ptr l 0] []∧t.fr 8= .ptr h.n 0∧t.fr 9= .ptr (h.n+1) 0∧h.n+2≤t.hp.n∧t.hp.bk l=rdX ts s d∧t.hp.bk (h.n+1)= .cells p.avf.cells∧
  t.hp.bk h.n= .cells [.int .i64 0, .int .i64 0, .str [], .int .i64 0, .sl .full 4 [], .int .i64 0, .sl .full 9 [], .sl .full 9 [], .sl .full 9 []]∧(∀q,q<h.n→q≠l→t.hp.bk q=h.bk q)∧loopW ts c (chainB part kind) m p s=G) ts.length
  ⟨p0',s0,k1,by omega,by simp [fr_apply,argsF],by simp [fr_apply,argsF],by simp [fr_apply,argsF],by simp [fr_apply,argsF,strip],by simp [fr_apply],by simp [fr_apply],by simp,by simp [bk_apply,n0,n1],by simp [bk_apply,p1,m1],by simp [bk_apply,p0,m0],fun q hq hne=>by simp [bk_apply,hne,show q≠h.n by omega,show q≠h.n+1 by omega],hG⟩ ?_
 clear hG
 rintro m ⟨Fr,hp'⟩ ⟨p,s,hs,hm,f0,f1,f2,f3,f8,f9,hn,hb1,hb3,hb2,hbo,hG⟩
 simp only at f0 f1 f2 f3 f8 f9 hn hb1 hb2 hb3 hbo
 have hi:=hs.1
 obtain ⟨m,rfl⟩: ∃m',m=m' +1:=⟨m-1,by omega⟩
 rw [loopW] at hG
 simp only [go_sem,seval,f0,f1,f2,f3,f8,f9]
 refine ccall (fx_take (l:=l) (by simp only;omega) W hs (d:=(d:Int)) (by simp only;exact hb1) c) (by simp only [go_sem,seval,f0,f2]) ?_
 have h1:=goS_ok (c:=c) W.Nx hs
 cases ht:takeS ts c s with
 |false=>
  rw [if_neg (by simp [ht])] at hG
  subst hG
  rw [show goS ts c s=s by unfold goS;rw [if_neg (by simp [ht])]]
  simp only [go_sem,seval,f0,f1,f2,f3,f8,f9,hb3,hb2,n0,n1,m0,m1,p0,p1]
  exact ⟨wk_refl _,lab_pavf _ _,shrink_rX (by simp only;omega) (fun q hq hne=>by simp [bk_apply,hne,show q≠h.n by omega];exact hbo q hq hne) (by simp [bk_apply,n0])⟩
 |true=>
  have hlt:=goS_lt ht
  rw [if_pos ht] at hG
  unfold chainB at hG
  generalize goS ts c s=s1 at *
  simp only [go_sem,seval,f0,f1,f2,f3,f8,f9,hb3,n1,m1]
  refine pcall (fx_list p) (by simp only [go_sem,seval]) ?_
  simp only [go_sem,seval,f0,f1,f2,f3,f8,f9]
  obtain ⟨k3,k4⟩:=gp s1 h1
  refine ccall (hp _ l s1 (by simp only;omega) h1 (by simp [bk_apply])) (by simp only [go_sem,seval,f3]) ?_
  generalize part s1=R at *
  obtain ⟨o,s3⟩:=R
  simp only at k3 k4 hG ⊢
  simp only [go_sem,seval,f0,f1,f2,f3,f8,f9]
  refine pcall (fx_list o) (by simp only [go_sem,seval]) ?_
  simp only [go_sem,seval,f0,f1,f2,f3,f8,f9,hb3,n1,m1]
  exact ⟨m,by omega, .mk kind zT 0 [p] [o] [],s3,k3,by omega,hn,rfl,by rw [pavf_drop,zT,pavf_mk];rfl,by simp [m0];exact hb2,fun q hq hne=>by simp [hne,show q≠h.n+1 by omega];exact hbo q hq hne,hG⟩
def bothW (pair:St→Pn×St) (ts:List Tk):St→Pn×St:=chainW pair 3 [38] ts
def patW (both:St→Pn×St) (ts:List Tk):St→Pn×St:=chainW both 4 [124] ts
theorem fx_both {pair:St→Pn×St} {ts:List Tk} (W:Wds ts) {d:Nat} (gp:Gd ts pair) (hp:PFx 187 ts d pair):PFx 137 ts d (bothW pair ts):=by
 intro h l s hl hs hb
 have n0: ¬l=h.n:=by omega
 have m0: ¬h.n=l:=by omega
 refine fnC mixed Tryz.func137 c137 (by simp) ?_
 simp only [go_sem,seval]
 refine ccall (fx_chain W gp hp 3 [38] _ l s (by simp;omega) hs (by simp [bk_apply,n0,hb])) (by simp only [go_sem,seval]) ?_
 unfold bothW
 generalize chainW pair 3 [38] ts s=R
 obtain ⟨p,s2⟩:=R
 simp only [go_sem,seval,n0,m0]
 exact ⟨wk_refl _,lab_pavf _ _,shrink_rX (by simp) (fun q hq hne=>by simp [bk_apply,hne,show q≠h.n by omega]) (by simp [bk_apply,n0])⟩
theorem fx_pat {both:St→Pn×St} {ts:List Tk} (W:Wds ts) {d:Nat} (gp:Gd ts both) (hp:PFx 137 ts d both):PFx 92 ts d (patW both ts):=by
 intro h l s hl hs hb
 have n0: ¬l=h.n:=by omega
 have m0: ¬h.n=l:=by omega
 refine fnC mixed Tryz.func92 c92 (by simp) ?_
 simp only [go_sem,seval]
 refine ccall (fx_chain W gp hp 4 [124] _ l s (by simp;omega) hs (by simp [bk_apply,n0,hb])) (by simp only [go_sem,seval]) ?_
 unfold patW
 generalize chainW both 4 [124] ts s=R
 obtain ⟨p,s2⟩:=R
 simp only [go_sem,seval,n0,m0]
 exact ⟨wk_refl _,lab_pavf _ _,shrink_rX (by simp) (fun q hq hne=>by simp [bk_apply,hne,show q≠h.n by omega]) (by simp [bk_apply,n0])⟩
def patN (ts:List Tk):Nat→Nat→St→Pn×St
 |0,_,s=>(zPn,s)
 |n+1,d,s=>patW (bothW (pairW (rowW (patN ts n) ts d) ts) ts) ts s
theorem patN_all {ts:List Tk} (W:Wds ts): ∀(n d:Nat),d≤100→100<d+n→Gd ts (patN ts n d)∧PFx 92 ts d (patN ts n d)
 |0,d,h1,h2=>by omega
 |n+1,d,h1,h2=>by
  have ih:d<100→Gd ts (patN ts n (d+1))∧PFx 92 ts (d+1) (patN ts n (d+1)):=fun h=>patN_all W n (d+1) (by omega) (by omega)
  have gw:=within_gd W (fun h=>(ih h).1) h1
  have go:=one_gd W (fun h=>(ih h).1) h1
  have hw:=fx_within W h1 (fun h=>(ih h).1) (fun h=>(ih h).2)
  have ho:=fx_one W h1 hw
  have gr:=row_gd W gw go
  have hr:=fx_row W gw go hw ho
  have gp:=pair_gd W gr
  have hp:=fx_pair W gr hr
  have gb:=chain_gd (kind:=3) (c:= [38]) W gp
  have hb:=fx_both W gp hp
  exact ⟨chain_gd (kind:=4) (c:= [124]) W gb,fx_pat W gb hb⟩
end Go.Proofs.YtnibelnjflhkgaaGreatDoor.Ab
namespace Go.Proofs.YtnibelnjflhkgaaGreatDoor.Ab
set_option linter.unusedVariables false
set_option linter.unusedSimpArgs false
set_option maxRecDepth 10000
theorem c138:compF Tryz.prog ow Tryz.f138=(some (39,([(.t 2),(.t 3)],(.seq (.ops [(none,(.box 1 (.t 0))),(none,(.set 2 (.int .i64 0))),(none,(.set 3 (.int .i64 0)))]) (.seq (.seq (.ops [(none,(.fa (some 8) (.t 1) 0)),(none,(.ld (some 9) (.t 8) (.one none))),(none,(.bin (some 10) .eql (.t 9) (.k (.int .i64 1)) false false))]) (.cond (.t 10) (.seq (.ops [(none,(.set 2 (.int .i64 1))),(none,(.set 3 (.int .i64 1)))]) .ret) .skip)) (.seq (.seq (.ops [(none,(.fa (some 11) (.t 1) 6)),(none,(.ld (some 12) (.t 11) (.one (some 9)))),(none,(.fa (some 13) (.t 1) 7)),(none,(.ld (some 14) (.t 13) (.one (some 9)))),(none,(.fa (some 15) (.t 1) 8)),(none,(.ld (some 16) (.t 15) (.one (some 9)))),(none,(.bs 17 1 [(.t 12),(.t 14),(.t 16)])),(none,(.call (some 18) (.k (.func 179 [] [])) [(.t 17)] none)),(none,(.len (some 19) (.t 18) false true)),(none,(.set 20 (.int .i64 0)))]) (.block 0 (.loop (.seq (.ops [(none,(.bin (some 21) .lss (.t 20) (.t 19) false false))]) (.seq (.cond (.t 21) .skip (.exit 0)) (.seq (.block 1 (.seq (.ops [(none,(.ia (some 22) (.t 18) (.t 20) (some 9) none)),(none,(.ld (some 23) (.t 22) (.agg 9))),(none,(.alloc 5 [(.int .i64 0),(.int .i64 0),(.str []),(.int .i64 0),(.sl .full 4 []),(.int .i64 0),(.sl .full 9 []),(.sl .full 9 []),(.sl .full 9 [])])),(none,(.st (.t 5) (.t 23) 9))]) (.seq (.ops [(none,(.ld (some 25) (.t 5) (.agg 9))),(none,(.call (some 26) (.k (.func 138 [] [])) [(.t 25)] none)),(none,(.cp 24 26)),(none,(.ext (some 27) (.t 24) 0)),(none,(.ext (some 28) (.t 24) 1)),(none,(.mv 6 27)),(none,(.mv 7 28))]) (.ops [(none,(.cp 29 2)),(none,(.cp 30 6)),(none,(.bin (some 31) .add (.t 29) (.t 30) false false)),(none,(.cp 32 3)),(none,(.cp 33 7)),(none,(.mx (some 34) (.t 32) (.t 33))),(none,(.mv 2 31)),(none,(.mv 3 34))])))) (.ops [(none,(.bin (some 35) .add (.t 20) (.k (.int .i64 1)) false false)),(none,(.cp 20 35))]))))))) (.seq (.ops [(none,(.mv 36 2)),(none,(.cp 37 3)),(none,(.bin (some 38) .add (.t 37) (.k (.int .i64 1)) false false)),(none,(.mv 2 36)),(none,(.mv 3 38))]) .ret))))))):=by kernel_rfl
theorem shrink_oldq {h hp:Hp} (h1:h.n≤hp.n) (h2: ∀q,q<h.n→hp.bk q=h.bk q):Shrink h hp h:=⟨Nat.le_refl _,h1,fun k hk=>⟨(h2 k hk).symm, .inl ⟨hk,h2 k hk⟩⟩⟩
mutual
def Pn.av:Pn→AV| .mk k (.mk tk tn tv tl) rel l r c=> .agg [.int .i64 k, .int .i64 tk, .str tn, .int .i64 tv, .sl .sh 4 (tl.map T.av), .int .i64 rel, .sl .sh 9 (pavs l), .sl .sh 9 (pavs r), .sl .sh 9 (pavs c)]
def pavs:List Pn→List AV| []=> []|p::l=>p.av::pavs l
end
theorem pavs_map: ∀l,pavs l=l.map Pn.av
 | []=>by rw [pavs];rfl
 |p::l=>by rw [pavs,pavs_map l];rfl
theorem pav_mk (k tk:Int) (tn:List UInt8) (tv:Int) (tl:List T) (rel:Int) (l r c:List Pn):(Pn.mk k (.mk tk tn tv tl) rel l r c).av= .agg [.int .i64 k, .int .i64 tk, .str tn, .int .i64 tv, .sl .sh 4 (tl.map T.av), .int .i64 rel, .sl .sh 9 (l.map Pn.av), .sl .sh 9 (r.map Pn.av), .sl .sh 9 (c.map Pn.av)]:=by
 rw [Pn.av,pavs_map,pavs_map,pavs_map]
theorem fk_pavf: ∀p:Pn,fk p.avf=p.av:=by
 refine Pn.ind fun k t rel l r c h1 h2 h3=> ?_
 obtain ⟨tk,tn,tv,tl⟩:=t
 have hL: ∀m:List Pn,(∀x∈m,fk x.avf=x.av)→fkL (m.map Pn.avf)=m.map Pn.av:=fun m hm=>by
  rw [fkL_map,List.map_map];exact List.map_congr_left fun x hx=>hm x hx
 have hT:fkL (tl.map T.avf)=tl.map T.av:=by
  rw [fkL_map,List.map_map];exact List.map_congr_left fun x _=>fk_avf x
 rw [pavf_mk,pav_mk]
 simp [fk,fkL,hL l h1,hL r h2,hL c h3,hT]
theorem lab_pav (n:Nat): ∀p:Pn,labOK n p.av=true:=by
 refine Pn.ind fun k t rel l r c h1 h2 h3=> ?_
 obtain ⟨tk,tn,tv,tl⟩:=t
 have hL: ∀m:List Pn,(∀x∈m,labOK n x.av=true)→labL n (m.map Pn.av)=true:=by
  intro m
  induction m with
  |nil=>intro _;rfl
  |cons x m ihm=>intro ih;simp [labL,ih x (by simp),ihm (fun y hy=>ih y (by simp [hy]))]
 have hT: ∀m:List T,labL n (m.map T.av)=true:=by
  intro m
  induction m with
  |nil=>rfl
  |cons x m ihm=>
   have: ∀t:T,labOK n t.av=true:=by
    refine T.ind fun k s v l ih=> ?_
    have: ∀m:List T,(∀x∈m,labOK n x.av=true)→labL n (m.map T.av)=true:=by
     intro m
     induction m with
     |nil=>intro _;rfl
     |cons x m ihm=>intro ih;simp [labL,ih x (by simp),ihm (fun y hy=>ih y (by simp [hy]))]
    rw [av_mk];simp [labOK,labL,this l ih]
   simp [labL,this x,ihm]
 rw [pav_mk]
 simp [labOK,labL,hL l h1,hL r h2,hL c h3,hT]
theorem labL_pav (n:Nat) (l:List Pn):labL n (l.map Pn.av)=true:=labL_all.2 fun a ha=>by obtain ⟨p,_,rfl⟩:=List.mem_map.1 ha;exact lab_pav n p
theorem pav_agg (p:Pn):AV.agg p.av.cells=p.av:=by obtain ⟨k,⟨tk,tn,tv,tl⟩,rel,l,r,c⟩:=p;rw [pav_mk];rfl
theorem pav_len (p:Pn):p.av.cells.length=9:=by obtain ⟨k,⟨tk,tn,tv,tl⟩,rel,l,r,c⟩:=p;rw [pav_mk];rfl
theorem pav_take (p:Pn):List.take 9 p.av.cells=p.av.cells:=by obtain ⟨k,⟨tk,tn,tv,tl⟩,rel,l,r,c⟩:=p;rw [pav_mk];rfl
theorem strip_pav (p:Pn):strip p.av=p.av:=by obtain ⟨k,⟨tk,tn,tv,tl⟩,rel,l,r,c⟩:=p;rw [pav_mk];rfl
theorem isOwn_pav (p:Pn):isOwn p.av=false:=by obtain ⟨k,⟨tk,tn,tv,tl⟩,rel,l,r,c⟩:=p;rw [pav_mk];rfl
theorem pav_okc (p:Pn):okc p.av=true:=by obtain ⟨k,⟨tk,tn,tv,tl⟩,rel,l,r,c⟩:=p;rw [pav_mk];rfl
theorem pav_put (a b c d e f g h i:AV) (p:Pn):putCells [a,b,c,d,e,f,g,h,i] 0 p.av.cells=p.av.cells:=by obtain ⟨k,⟨tk,tn,tv,tl⟩,rel,l,r,c'⟩:=p;rw [pav_mk];rfl
theorem pav_cstrip (p:Pn):p.av.cells.map strip=p.av.cells:=by obtain ⟨k,⟨tk,tn,tv,tl⟩,rel,l,r,c⟩:=p;rw [pav_mk];rfl
attribute [go_sem] pav_agg pav_len pav_take strip_pav isOwn_pav pav_okc pav_put pav_cstrip
mutual
def nP:Pn→Int| .mk k t rel l r c=>if k=1 then 1 else nPs c (nPs r (nPs l 0))
def nPs:List Pn→Int→Int| [],n=>n|p::l,n=>nPs l (IntKind.i64.wrap (n+nP p))
end
mutual
def dP:Pn→Int| .mk k t rel l r c=>if k=1 then 1 else IntKind.i64.wrap (dPs c (dPs r (dPs l 0))+1)
def dPs:List Pn→Int→Int| [],m=>m|p::l,m=>dPs l (if dP p>m then dP p else m)
end
theorem nPs_app: ∀(a b:List Pn) (n:Int),nPs (a++b) n=nPs b (nPs a n)
 | [],b,n=>by rw [nPs];rfl
 |p::a,b,n=>by rw [List.cons_append,nPs,nPs,nPs_app a b]
theorem dPs_app: ∀(a b:List Pn) (n:Int),dPs (a++b) n=dPs b (dPs a n)
 | [],b,n=>by rw [dPs];rfl
 |p::a,b,n=>by rw [List.cons_append,dPs,dPs,dPs_app a b]
inductive Pn.good:Pn→Prop
 |t (t:T) (rel:Int):Pn.good (.mk 1 t rel [] [] [])
 |two (k:Int) (t:T) (rel:Int) (a b:Pn) (hk:k≠1) (ha:a.good) (hb:b.good):Pn.good (.mk k t rel [a] [b] [])
 |tri (k:Int) (t:T) (rel:Int) (a b c:Pn) (hk:k≠1) (ha:a.good) (hb:b.good) (hc:c.good):Pn.good (.mk k t rel [a] [b] [c])
theorem fn_partsL (xs:List Pn) (h0:0<xs.length) (hx:xs.length<1000) (k:Int) (hk:k≠1) (t:T) (rel:Int) (l r c:List Pn) (hxs:l++(r++c)=xs) (ih: ∀x∈xs,PFn Tryz.prog 138 [x.av] (.tup [.int .i64 (nP x), .int .i64 (dP x)])):
  PFn Tryz.prog 138 [(Pn.mk k t rel l r c).av] (.tup [.int .i64 (nP (.mk k t rel l r c)), .int .i64 (dP (.mk k t rel l r c))]):=by
 intro h
 have hk' :(k==1)=false:=by simpa using hk
 obtain ⟨tk,tn,tv,tl⟩:=t
 have hC:=fn_concat [l.map Pn.av,r.map Pn.av,c.map Pn.av] (by simp) (by rw [←hxs] at h0;simpa using h0) (by have:xs.length=_:=congrArg List.length hxs.symm;simp at this ⊢;omega) (fun n=>by
  have:=labL_pav n xs
  rw [←hxs] at this;simpa using this)
 have hfl: [l.map Pn.av,r.map Pn.av,c.map Pn.av].flatten=xs.map Pn.av:=by rw [←hxs];simp
 rw [hfl] at hC
 simp only [List.map_cons,List.map_nil] at hC
 have hn:nP (.mk k (.mk tk tn tv tl) rel l r c)=nPs xs 0:=by rw [nP,if_neg hk, ←hxs,nPs_app,nPs_app]
 have hd:dP (.mk k (.mk tk tn tv tl) rel l r c)=IntKind.i64.wrap (dPs xs 0+1):=by rw [dP,if_neg hk, ←hxs,dPs_app,dPs_app]
 rw [hn,hd,pav_mk]
 refine fnC mixed Tryz.func138 c138 (by simp) ?_
 simp only [go_sem,seval,hk']
 refine pcall hC (by simp only [go_sem,seval]) ?_
 clear hC hfl hn hd hxs
 simp only [go_sem,seval]
 generalize hGn:nPs xs 0=Gn
 generalize hGd:dPs xs 0=Gd'
 refine cloop (fun m t=> ∃(i:Nat) (n d:Int),i+m=xs.length∧t.fr 18= .sl .sh 9 (xs.map Pn.av)∧t.fr 19= .int .i64 (xs.length:Nat)∧t.fr 20= .int .i64 (i:Nat)∧t.fr 2= .int .i64 n∧t.fr 3= .int .i64 d∧nPs (xs.drop i) n=Gn∧dPs (xs.drop i) d=Gd' ∧h.n≤t.hp.n∧ ∀q,q<h.n→t.hp.bk q=h.bk q) xs.length
  ⟨0,0,0,by simp,by simp [fr_apply],by simp [fr_apply],by simp [fr_apply],by simp [fr_apply],by simp [fr_apply],hGn,hGd,by simp,fun q hq=>by simp [bk_apply,show q≠h.n by omega]⟩ ?_
 clear hGn hGd
 rintro m ⟨F,hp⟩ ⟨i,n,d,hm,f18,f19,f20,f2,f3,hGn,hGd,hn,ho⟩
 simp only at f18 f19 f20 f2 f3 hn ho
 by_cases hi:i<xs.length
 ·have hi' :decide ((i:Int)<(xs.length:Int))=true:=decide_eq_true (by omega)
  have hw:IntKind.i64.wrap ((i:Int)+1)=((i+1:Nat):Int):=by rw [wrap64]<;>omega
  have hx:(xs.map Pn.av)[i]? =some xs[i].av:=by rw [List.getElem?_map,List.getElem?_eq_getElem hi];rfl
  have hI:=ih xs[i] (List.getElem_mem hi)
  rw [List.drop_eq_getElem_cons hi,nPs] at hGn
  rw [List.drop_eq_getElem_cons hi,dPs] at hGd
  generalize xs[i]=x at *
  simp only [go_sem,seval,f18,f19,f20,f2,f3,hi',hx]
  refine pcall hI (by simp only [go_sem,seval]) ?_
  simp only [go_sem,seval,f18,f19,f20,f2,f3,hw]
  exact ⟨m-1,by omega,i+1,_,_,by omega,rfl,rfl,rfl,hGn,hGd,by omega,fun q hq=>by simp [show q≠hp.n by omega];exact ho q hq⟩
 ·have hi' :decide ((i:Int)<(xs.length:Int))=false:=decide_eq_false (by omega)
  rw [List.drop_eq_nil_of_le (by omega),nPs] at hGn
  rw [List.drop_eq_nil_of_le (by omega),dPs] at hGd
  subst hGn hGd
  simp only [go_sem,seval,f18,f19,f20,f2,f3,hi']
  exact shrink_oldq hn ho
theorem fn_parts: ∀p:Pn,p.good→PFn Tryz.prog 138 [p.av] (.tup [.int .i64 (nP p), .int .i64 (dP p)]):=by
 intro p hp
 induction hp with
 |t t rel=>
  intro h
  obtain ⟨tk,tn,tv,tl⟩:=t
  rw [nP,dP,if_pos rfl,if_pos rfl,pav_mk]
  refine fnC mixed Tryz.func138 c138 (by simp) ?_
  simp only [go_sem,seval]
 |two k t rel a b hk ha hb iha ihb=>exact fn_partsL [a,b] (by simp) (by simp) k hk t rel [a] [b] [] rfl (fun x hx=>by simp at hx;rcases hx with rfl|rfl<;>assumption)
 |tri k t rel a b c hk ha hb hc iha ihb ihc=>exact fn_partsL [a,b,c] (by simp) (by simp) k hk t rel [a] [b] [c] rfl (fun x hx=>by simp at hx;rcases hx with rfl|rfl|rfl<;>assumption)
end Go.Proofs.YtnibelnjflhkgaaGreatDoor.Ab
namespace Go.Proofs.YtnibelnjflhkgaaGreatDoor.Ab
set_option linter.unusedVariables false
set_option linter.unusedSimpArgs false
set_option maxRecDepth 10000
theorem c93:compF Tryz.prog ow Tryz.f93=(some (25,([],(.seq (.ops [(none,(.box 4 (.t 1)))]) (.seq (.seq (.ops [(none,(.cp 8 0)),(none,(.call (some 9) (.k (.func 47 [] [])) [(.t 8)] none)),(none,(.un (some 10) .not (.t 9)))]) (.cond (.t 10) .ret .skip)) (.seq (.ops [(none,(.ld (some 12) (.t 4) (.agg 9))),(none,(.call (some 13) (.k (.func 138 [] [])) [(.t 12)] none)),(none,(.cp 11 13)),(none,(.ext (some 14) (.t 11) 0)),(none,(.ext (some 15) (.t 11) 1)),(none,(.mv 6 14)),(none,(.mv 7 15))]) (.seq (.ops [(none,(.cp 16 6)),(none,(.bin (some 17) .gtr (.t 16) (.k (.int .i64 12)) false false)),(none,(.cp 18 17)),((some (18,false)),(.cp 19 7)),((some (18,false)),(.bin (some 20) .gtr (.t 19) (.k (.int .i64 8)) false false)),(none,(.pick (some 21) (.t 18) (.k (.bool true)) (.t 20)))]) (.cond (.t 21) (.ops [(none,(.cp 22 0)),(none,(.cp 23 2)),(none,(.call (some 24) (.k (.func 99 [] [])) [(.t 22),(.t 23),(.k (.int .i64 2))] none))]) .skip)))))))):=by kernel_rfl
def poEs:List (AV×AV):= [(.int .i64 1, .str [114,101,99,101,110,116]),(.int .i64 2, .str [102,105,114,115,116])]
def poS:Nat→List UInt8|0=> [114,101,99,101,110,116]|_=> [102,105,114,115,116]
def policyS (ts:List Tk) (s:St):Int×St:=if isN (tkS ts s) (poS 0)=true then (1,stepS ts s) else if isN (tkS ts s) (poS 1)=true then (2,stepS ts s) else (0,s)
theorem poS_hit (ts:List Tk) (s:St) (j:Nat) (hj:j<2) (h:isN (tkS ts s) (poS j)=true):policyS ts s=(((j+1:Nat):Int),stepS ts s):=by
 unfold policyS
 rcases j with _|_|j
 ·rw [if_pos h];rfl
 ·have: ¬isN (tkS ts s) (poS 0)=true:=by
   intro e
   unfold isN at h e
   simp only [Bool.and_eq_true,beq_iff_eq] at h e
   have:=e.2.symm.trans h.2
   simp [poS] at this
  rw [if_neg this,if_pos h];rfl
 ·omega
theorem poS_miss (ts:List Tk) (s:St) (h: ∀j,j<2→isN (tkS ts s) (poS j)=false):policyS ts s=(0,s):=by
 unfold policyS
 rw [if_neg (by rw [h 0 (by omega)];simp),if_neg (by rw [h 1 (by omega)];simp)]
theorem fx_policy {h:Hp} {l:Nat} (hl:l<h.n) {ts:List Tk} (W:Wds ts) {s:St} (hs:SOk ts s) {d:Int} (hb:h.bk l=rdX ts s d):
  Fn Tryz.prog 147 [.ptr l 0] h (.int .i64 (policyS ts s).1) ⟨h.n,updB h.bk l (rdX ts (policyS ts s).2 d)⟩:=by
 have hT:=fx_token hl hs hb
 have hS:=fx_step hl W hs hb
 have hNm:=fun c=>fx_name (tkS ts s) c
 unfold Tk.av at hNm
 generalize htk:tkS ts s=tk at hT hNm
 refine fn_WP (rs:= [.t 2]) Tryz.func147 rfl rfl (Nat.le_of_ble_eq_true rfl) rfl ?_
 refine WP_seq (WP_of (ow:=ow) mixed (cc:= .ops [(none, .set 2 (.int .i64 0))]) (by kernel_rfl) ?_)
 simp only [go_sem,seval]
 refine WP_seq (WP_rng (ow:=ow) mixed (es:=poEs) rfl (r5:=5) (r6:=6) (r7:=7) (tk1:=fun _=>false) (tk2:=fun _=>false) (tk3:=fun _=>false)
  (pre:=_) (oR:=_) (l1:= [(none, .x (some 5) .mkm []),(none, .x none (.mup (some .i64)) [.t 5, .k (.int .i64 1), .k (.str [114,101,99,101,110,116])]),(none, .x none (.mup (some .i64)) [.t 5, .k (.int .i64 2), .k (.str [102,105,114,115,116])]),(none, .cp 6 5)])
  (l2:= [(none, .ext (some 9) (.t 8) 0)]) (l3:= [(none, .ext (some 11) (.t 10) 0),(none, .ext (some 12) (.t 10) 1),(none, .mv 3 11),(none, .mv 4 12)])
  (ccB:= .seq (.ops [(none, .cp 13 0),(none, .call (some 14) (.k (.func 48 [] [])) [.t 13] none),(none, .cp 15 4),(none, .call (some 16) (.k (.func 145 [] [])) [.t 14, .t 15] none)]) (.cond (.t 16) (.seq (.ops [(none, .cp 17 0),(none, .call (some 18) (.k (.func 143 [] [])) [.t 17] none)]) (.seq (.ops [(none, .mv 19 3),(none, .mv 2 19)]) .ret)) .skip))
  (show _= [_,_,_,_]++ [_] from rfl) rfl rfl rfl (by decide) (by kernel_rfl) (by kernel_rfl) ?_ rfl rfl rfl rfl (by decide) (by kernel_rfl) rfl rfl rfl rfl (by decide) (by kernel_rfl) (by kernel_rfl)
  (fun vit S u=>u.fr 7= .val vit∧u.fr 0= .ptr l 0∧u.fr 2= .int .i64 0∧u.hp=h∧ ∀j,j∈S→j<2→isN tk (poS j)=false)
  (fun vit S u hu=>hu.1) ?_ ?_ ?_)
 ·exact lit_pre rfl
 ·intro vit
  exact ⟨by simp [upd],by simp [upd,argsF],by simp [upd],rfl,fun j hj=>by cases hj⟩
 ·rintro vit S ⟨F,hp⟩ hall ⟨f7,f0,f2,hh,hS'⟩
  simp only at f7 f0 f2 hh
  subst hh
  rw [poS_miss ts s fun j hj=>htk▸hS' j (hall j (by simpa [poEs] using hj)) hj]
  simp only [go_sem,seval]
  refine WP_of (ow:=ow) mixed (cc:= .seq (.ops [(none, .set 2 (.int .i64 0))]) .ret) (by kernel_rfl) ?_
  simp only [go_sem,seval]
  exact shrink_self hb
 ·rintro vit S ⟨F,hp⟩ j k v hjS hkv ⟨f7,f0,f2,hh,hS'⟩
  simp only at f7 f0 f2 hh
  subst hh
  rcases j with _|_|j
  ·skip
   simp [poEs] at hkv
   obtain ⟨rfl,rfl⟩:=hkv
   simp only [go_sem,seval,f7,f0,f2]
   refine ccall hT (by simp only [go_sem,seval,f0]) ?_
   simp only [go_sem,seval,f7,f0,f2]
   refine pcall (hNm _) (by simp only [go_sem,seval];rfl) ?_
   cases hb1:isN tk (poS 0) with
   |true=>
    have hb' :(tk.k==1&&tk.s== [114,101,99,101,110,116])=true:=hb1
    rw [poS_hit ts s 0 (by omega) (htk▸hb1)]
    simp only [go_sem,seval,hb',f7,f0,f2]
    refine ccall hS (by simp only [go_sem,seval,f0]) ?_
    simp only [go_sem,seval]
    exact shrink_rX (by simp) (fun q hq hne=>by simp [bk_apply,hne]) (by simp [bk_apply])
   |false=>
    have hb' :(tk.k==1&&tk.s== [114,101,99,101,110,116])=false:=hb1
    simp only [go_sem,seval,hb',f7,f0,f2]
    exact fun j hj hj4=>by rcases List.mem_cons.1 hj with rfl|hj;exact hb1;exact hS' j hj hj4
  ·skip
   simp [poEs] at hkv
   obtain ⟨rfl,rfl⟩:=hkv
   simp only [go_sem,seval,f7,f0,f2]
   refine ccall hT (by simp only [go_sem,seval,f0]) ?_
   simp only [go_sem,seval,f7,f0,f2]
   refine pcall (hNm _) (by simp only [go_sem,seval];rfl) ?_
   cases hb1:isN tk (poS 1) with
   |true=>
    have hb' :(tk.k==1&&tk.s== [102,105,114,115,116])=true:=hb1
    rw [poS_hit ts s 1 (by omega) (htk▸hb1)]
    simp only [go_sem,seval,hb',f7,f0,f2]
    refine ccall hS (by simp only [go_sem,seval,f0]) ?_
    simp only [go_sem,seval]
    exact shrink_rX (by simp) (fun q hq hne=>by simp [bk_apply,hne]) (by simp [bk_apply])
   |false=>
    have hb' :(tk.k==1&&tk.s== [102,105,114,115,116])=false:=hb1
    simp only [go_sem,seval,hb',f7,f0,f2]
    exact fun j hj hj4=>by rcases List.mem_cons.1 hj with rfl|hj;exact hb1;exact hS' j hj hj4
  ·simp [poEs] at hkv
def askS (p:Pn) (at' :Nat) (s:St):St:=if s.er.isNone=true∧(nP p>12∨dP p>8) then failS at' 2 s else s
theorem fx_asked {h:Hp} {l:Nat} (hl:l<h.n) {ts:List Tk} {s:St} (hs:SOk ts s) {d:Int} (hb:h.bk l=rdX ts s d) (p:Pn) (hg:s.er=none→p.good) (at' :Nat):
  Fn Tryz.prog 93 [.ptr l 0,p.avf, .int .i64 (at' :Nat)] h (.tup []) ⟨h.n,updB h.bk l (rdX ts (askS p at' s) d)⟩:=by
 have n0: ¬l=h.n:=by omega
 have m0: ¬h.n=l:=by omega
 refine fnC mixed Tryz.func93 c93 (by simp) ?_
 simp only [go_sem,seval]
 refine ccall (fx_ok (l:=l) (ts:=ts) (s:=s) (d:=d) (by simp;omega) hs (by simp [bk_apply,n0,hb])) (by simp only [go_sem,seval]) ?_
 unfold askS
 cases hn:s.er.isNone with
 |false=>
  rw [if_neg (fun e=>by cases e.1),updB_self _ _ _ hb]
  simp only [go_sem,seval]
 |true=>
  have hP:PFn Tryz.prog 138 [p.avf] (.tup [.int .i64 (nP p), .int .i64 (dP p)]):=pfn_fk (by rw [List.map_cons,List.map_nil,fk_pavf];exact fn_parts p (hg (by simpa using hn)))
  simp only [go_sem,seval]
  refine pcall hP (by simp only [go_sem,seval]) ?_
  by_cases h1:nP p>12
  ·have h1' :decide (nP p>12)=true:=decide_eq_true h1
   rw [if_pos (.inl h1)]
   simp only [go_sem,seval,h1']
   refine ccall (fx_fail (l:=l) (ts:=ts) (s:=s) (d:=d) (by simp;omega) hs (by simp [bk_apply,n0,hb]) at' 2) (by simp only [go_sem,seval]) ?_
   simp only [go_sem,seval]
   exact shrink_rX (by simp) (fun q hq hne=>by simp [bk_apply,hne,show q≠h.n by omega]) (by simp [bk_apply])
  ·have h1' :decide (nP p>12)=false:=decide_eq_false h1
   by_cases h2:dP p>8
   ·have h2' :decide (dP p>8)=true:=decide_eq_true h2
    rw [if_pos (.inr h2)]
    simp only [go_sem,seval,h1',h2']
    refine ccall (fx_fail (l:=l) (ts:=ts) (s:=s) (d:=d) (by simp;omega) hs (by simp [bk_apply,n0,hb]) at' 2) (by simp only [go_sem,seval]) ?_
    simp only [go_sem,seval]
    exact shrink_rX (by simp) (fun q hq hne=>by simp [bk_apply,hne,show q≠h.n by omega]) (by simp [bk_apply])
   ·have h2' :decide (dP p>8)=false:=decide_eq_false h2
    rw [if_neg (fun e=>by rcases e with e|e<;>contradiction),updB_self _ _ _ hb]
    simp only [go_sem,seval,h1',h2']
end Go.Proofs.YtnibelnjflhkgaaGreatDoor.Ab

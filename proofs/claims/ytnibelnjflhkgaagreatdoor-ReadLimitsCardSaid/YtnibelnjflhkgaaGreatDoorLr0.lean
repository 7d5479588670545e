/- The layer of reading: what its statements share. No condition. -/
import Derived.Test.YtnibelnjflhkgaaGreatDoorRfC
namespace Go.Proofs.YtnibelnjflhkgaaGreatDoor.Ab
set_option linter.unusedVariables false
set_option linter.unusedSimpArgs false
set_option maxRecDepth 10000
theorem c18:compF Tryz.prog ow Tryz.f18=(some (4,([(.t 2)],(.seq (.ops [(none,(.set 2 (.int .i64 0)))]) (.seq (.ops [(none,(.mv 3 0)),(none,(.mv 2 3))]) .ret))))):=by kernel_rfl
theorem c14:compF Tryz.prog ow Tryz.f14=(some (7,([(.t 2)],(.seq (.ops [(none,(.box 1 (.t 0))),(none,(.set 2 (.bool false)))]) (.seq (.ops [(none,(.fa (some 3) (.t 1) 0)),(none,(.ld (some 4) (.t 3) (.one (some 1)))),(none,(.call (some 5) (.k (.func 45 [] [])) [(.t 4)] none)),(none,(.bin (some 6) .gtr (.t 5) (.k (.int .i64 9000)) false false)),(none,(.mv 2 6))]) .ret))))):=by kernel_rfl
theorem c45:compF Tryz.prog ow Tryz.f45=(some (25,([(.t 2)],(.seq (.ops [(none,(.set 2 (.int .i64 0)))]) (.seq (.ops [(none,(.cp 5 0)),(none,(.len (some 6) (.t 5) false true)),(none,(.mv 3 6))]) (.seq (.seq (.ops [(none,(.set 4 (.int .i64 0)))]) (.block 0 (.loop (.seq (.seq (.ops [(none,(.cp 7 4)),(none,(.cp 8 0)),(none,(.len (some 9) (.t 8) false true)),(none,(.bin (some 10) .lss (.t 7) (.t 9) false false)),(none,(.cp 11 10)),((some (11,true)),(.cp 12 3)),((some (11,true)),(.bin (some 13) .lss (.t 12) (.k (.int .i64 1048576)) false false)),(none,(.pick (some 14) (.t 11) (.t 13) (.k (.bool false))))]) (.cond (.t 14) .skip (.exit 0))) (.seq (.block 1 (.ops [(none,(.cp 17 3)),(none,(.cp 18 0)),(none,(.cp 19 4)),(none,(.ia (some 20) (.t 18) (.t 19) (some 1) none)),(none,(.ld (some 21) (.t 20) (.one none))),(none,(.len (some 22) (.t 21) true false)),(none,(.bin (some 23) .add (.t 17) (.t 22) false false)),(none,(.mv 3 23))])) (.ops [(none,(.cp 15 4)),(none,(.bin (some 16) .add (.t 15) (.k (.int .i64 1)) false false)),(none,(.mv 4 16))])))))) (.seq (.ops [(none,(.mv 24 3)),(none,(.mv 2 24))]) .ret))))))):=by kernel_rfl
theorem fn5_num (e:Int):PFn Tryz.prog 18 [.int .i64 e] (.int .i64 e):=by
 intro h
 refine fnC mixed Tryz.func18 c18 (by simp) ?_
 simp only [go_sem,seval]
def txtF:Nat→List (List UInt8)→Nat
 |t, []=>t
 |t,x::xs=>if t<1048576 then txtF (t+x.length) xs else t
theorem txtF_ge: ∀(xs:List (List UInt8)) (t:Nat),t≤txtF t xs
 | [],t=>Nat.le_refl _
 |x::xs,t=>by
  rw [txtF];split
  ·have:=txtF_ge xs (t+x.length);omega
  ·exact Nat.le_refl _
theorem txtF_each: ∀(xs:List (List UInt8)) (t:Nat),txtF t xs<1048576→ ∀x∈xs,x.length≤txtF t xs
 | [],t,_,x,hx=>by cases hx
 |y::xs,t,h,x,hx=>by
  rw [txtF] at h ⊢
  split at h
  ·rename_i ht
   rw [if_pos ht]
   rcases List.mem_cons.1 hx with rfl|hx
   ·have:=txtF_ge xs (t+x.length);omega
   ·exact txtF_each xs _ h x hx
  ·omega
theorem fn0_Texts (xs:List (List UInt8)) (hl:xs.length<1000000000000000) (hs: ∀x∈xs,x.length≤140737488351232):PFn Tryz.prog 45 [.sl .sh 1 (xs.map AV.str)] (.int .i64 (txtF xs.length xs:Nat)):=by
 intro h
 refine fnC mixed Tryz.func45 c45 (by simp) ?_
 generalize hR:txtF xs.length xs=R
 simp only [go_sem,seval]
 refine cloop (fun k t=> ∃i n:Nat,i+k=xs.length∧n<1000000000000000∧t.fr 0= .sl .sh 1 (xs.map AV.str)∧t.fr 3= .int .i64 (n:Nat)∧t.fr 4= .int .i64 (i:Nat)∧txtF n (xs.drop i)=R∧t.hp=h) xs.length ⟨0,xs.length,by omega,by omega,by simp [fr_apply,argsF],by simp [fr_apply],by simp [fr_apply],hR,rfl⟩ ?_
 clear hR
 rintro k ⟨F,hp⟩ ⟨i,n,hk,hn,f0,f3,f4,hR,rfl⟩
 simp only at f0 f3 f4
 by_cases hi:i<xs.length
 ·have hi' :decide ((i:Int)<(xs.length:Int))=true:=decide_eq_true (by omega)
  have hw:IntKind.i64.wrap ((i:Int)+1)=((i+1:Nat):Int):=by rw [wrap64]<;>omega
  have hx:(xs.map AV.str)[i]? =some (.str xs[i]):=by rw [List.getElem?_map,List.getElem?_eq_getElem hi];rfl
  have hxl:=hs xs[i] (List.getElem_mem _)
  rw [List.drop_eq_getElem_cons hi,txtF] at hR
  generalize xs[i]=x at hx hxl hR
  by_cases hb:n<1048576
  ·have hb' :decide ((n:Int)<1048576)=true:=decide_eq_true (by omega)
   have hw2:IntKind.i64.wrap ((n:Int)+(x.length:Int))=((n+x.length:Nat):Int):=by rw [wrap64]<;>omega
   rw [if_pos hb] at hR
   simp only [go_sem,seval,f0,f3,f4,hi',hb',hx,hw,hw2]
   exact ⟨k-1,by omega,i+1,n+x.length,by omega,by omega,rfl,rfl,hR⟩
  ·have hb' :decide ((n:Int)<1048576)=false:=decide_eq_false (by omega)
   rw [if_neg hb] at hR
   subst hR
   simp only [go_sem,seval,f0,f3,f4,hi',hb']
 ·have hi' :decide ((i:Int)<(xs.length:Int))=false:=decide_eq_false (by omega)
  rw [List.drop_eq_nil_of_le (by omega),txtF] at hR
  subst hR
  simp only [go_sem,seval,f0,f3,f4,hi']
theorem fn4_Heavy (xs:List (List UInt8)) (hl:xs.length<1000000000000000) (hs: ∀x∈xs,x.length≤140737488351232):PFn Tryz.prog 14 [.agg [.sl .sh 1 (xs.map AV.str)]] (.bool (decide (txtF xs.length xs>9000))):=by
 intro h
 have hT:=fn0_Texts xs hl hs
 refine fnC mixed Tryz.func14 c14 (by simp) ?_
 generalize txtF xs.length xs=n at *
 have e:decide ((n:Int)>9000)=decide (n>9000):=by rw [Bool.eq_iff_iff];simp;omega
 rw [←e]
 simp only [go_sem,seval]
 refine pcall hT (by simp only [go_sem,seval]) ?_
 simp only [go_sem,seval]
end Go.Proofs.YtnibelnjflhkgaaGreatDoor.Ab

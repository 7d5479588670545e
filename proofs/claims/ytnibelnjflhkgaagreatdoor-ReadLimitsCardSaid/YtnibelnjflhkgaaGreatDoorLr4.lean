/- The statement ReadLimits: its walk. No condition. -/
import Derived.Test.YtnibelnjflhkgaaGreatDoorLr3
namespace Go.Proofs.YtnibelnjflhkgaaGreatDoor.Ab
set_option linter.unusedVariables false
set_option linter.unusedSimpArgs false
set_option maxRecDepth 10000
theorem c21:compF Tryz.prog ow Tryz.f21=(some (16,([(.t 4)],(.seq (.ops [(none,(.set 4 (.str [])))]) (.seq (.ops [(none,(.set 5 (.str [])))]) (.seq (.seq (.ops [(none,(.set 6 (.int .i64 0)))]) (.block 0 (.loop (.seq (.seq (.ops [(none,(.cp 7 6)),(none,(.cp 8 1)),(none,(.bin (some 9) .lss (.t 7) (.t 8) false false))]) (.cond (.t 9) .skip (.exit 0))) (.seq (.block 1 (.ops [(none,(.cp 12 5)),(none,(.cp 13 0)),(none,(.bin (some 14) .add (.t 12) (.t 13) false false)),(none,(.mv 5 14))])) (.ops [(none,(.cp 10 6)),(none,(.bin (some 11) .add (.t 10) (.k (.int .i64 1)) false false)),(none,(.mv 6 11))])))))) (.seq (.ops [(none,(.mv 15 5)),(none,(.mv 4 15))]) .ret))))))):=by kernel_rfl
theorem c4:compF Tryz.prog ow Tryz.f4=(some (91,([(.t 2)],(.seq (.ops [(none,(.box 1 (.t 0))),(none,(.set 2 (.bool false)))]) (.seq (.ops [(none,(.call (some 13) (.k (.func 21 [] [])) [(.k (.str [97,32,60,45,32,98,44,32,119,105,116,104,105,110,32,49,46,10])),(.k (.int .i64 20))] none)),(none,(.mv 3 13))]) (.seq (.ops [(none,(.call (some 14) (.k (.func 21 [] [])) [(.k (.str [40])),(.k (.int .i64 100))] none)),(none,(.bin (some 15) .add (.t 14) (.k (.str [97])) false false)),(none,(.call (some 16) (.k (.func 21 [] [])) [(.k (.str [41])),(.k (.int .i64 100))] none)),(none,(.bin (some 17) .add (.t 15) (.t 16) false false)),(none,(.mv 4 17))]) (.seq (.ops [(none,(.cp 18 3)),(none,(.cp 19 3)),(none,(.bin (some 20) .add (.t 19) (.k (.str [97,32,60,45,32,98,44,32,119,105,116,104,105,110,32,49,46])) false false)),(none,(.call (some 21) (.k (.func 21 [] [])) [(.k (.str [102,40,49,41,46,10])),(.k (.int .i64 30))] none)),(none,(.call (some 22) (.k (.func 21 [] [])) [(.k (.str [102,40,49,41,46,10])),(.k (.int .i64 31))] none)),(none,(.cp 23 4)),(none,(.bin (some 24) .add (.k (.str [97,32,60,45,32])) (.t 23) false false)),(none,(.bin (some 25) .add (.t 24) (.k (.str [44,32,119,105,116,104,105,110,32,49,46])) false false)),(none,(.cp 26 4)),(none,(.bin (some 27) .add (.k (.str [97,32,60,45,32,40])) (.t 26) false false)),(none,(.bin (some 28) .add (.t 27) (.k (.str [41,44,32,119,105,116,104,105,110,32,49,46])) false false)),(none,(.call (some 29) (.k (.func 21 [] [])) [(.k (.str [98,32,38,32])),(.k (.int .i64 11))] none)),(none,(.bin (some 30) .add (.k (.str [97,32,60,45,32])) (.t 29) false false)),(none,(.bin (some 31) .add (.t 30) (.k (.str [98,44,32,119,105,116,104,105,110,32,49,46])) false false)),(none,(.call (some 32) (.k (.func 21 [] [])) [(.k (.str [98,32,38,32])),(.k (.int .i64 12))] none)),(none,(.bin (some 33) .add (.k (.str [97,32,60,45,32])) (.t 32) false false)),(none,(.bin (some 34) .add (.t 33) (.k (.str [98,44,32,119,105,116,104,105,110,32,49,46])) false false)),(none,(.call (some 35) (.k (.func 21 [] [])) [(.k (.str [98,32,38,32])),(.k (.int .i64 6))] none)),(none,(.bin (some 36) .add (.k (.str [97,32,60,45,32])) (.t 35) false false)),(none,(.bin (some 37) .add (.t 36) (.k (.str [98,44,32,119,105,116,104,105,110,32,49,46])) false false)),(none,(.call (some 38) (.k (.func 21 [] [])) [(.k (.str [103,40])),(.k (.int .i64 4))] none)),(none,(.bin (some 39) .add (.k (.str [102,40])) (.t 38) false false)),(none,(.bin (some 40) .add (.t 39) (.k (.str [49])) false false)),(none,(.call (some 41) (.k (.func 21 [] [])) [(.k (.str [41])),(.k (.int .i64 4))] none)),(none,(.bin (some 42) .add (.t 40) (.t 41) false false)),(none,(.bin (some 43) .add (.t 42) (.k (.str [41,46])) false false)),(none,(.bs 44 1 [(.t 18),(.t 20),(.t 21),(.t 22),(.k (.str [102,40,49,41,32,58,45,32,97,44,32,98,44,32,99,46])),(.k (.str [102,40,49,41,32,58,45,32,97,44,32,98,44,32,99,44,32,100,46])),(.k (.str [97,32,60,45,32,98,44,32,119,105,116,104,105,110,32,49,44,32,119,104,101,114,101,32,49,32,60,32,50,44,32,49,32,60,32,50,44,32,49,32,60,32,50,44,32,49,32,60,32,50,46])),(.k (.str [97,32,60,45,32,98,44,32,119,105,116,104,105,110,32,49,44,32,119,104,101,114,101,32,49,32,60,32,50,44,32,49,32,60,32,50,44,32,49,32,60,32,50,44,32,49,32,60,32,50,44,32,49,32,60,32,50,44,32,114,101,99,101,110,116,46])),(.t 25),(.t 28),(.t 31),(.t 34),(.t 37),(.t 43),(.k (.str [102,40,49,44,50,44,51,44,52,44,53,41,46])),(.k (.str [97,32,60,45,32,98,44,32,119,105,116,104,105,110,32,49,44,32,114,101,99,101,110,116,46])),(.k (.str [97,32,60,45,32,98,44,32,119,105,116,104,105,110,32,49,44,32,119,104,101,114,101,32,114,101,99,101,110,116,32,60,32,51,44,32,102,105,114,115,116,46])),(.k (.str [97,32,60,45,32,98,44,32,119,105,116,104,105,110,32,49,44,32,114,101,99,101,110,116,44,32,102,105,114,115,116,46])),(.k (.str [97,32,60,45,32,107,110,111,119,110,44,32,119,105,116,104,105,110,32,49,44,32,119,104,101,114,101,32,107,110,111,119,110,32,107,110,111,119,110,44,32,117,110,107,110,111,119,110,32,102,40,49,41,46]))])),(none,(.mv 5 44))]) (.seq (.seq (.ops [(none,(.set 6 (.int .i64 0)))]) (.block 0 (.loop (.seq (.seq (.ops [(none,(.cp 45 6)),(none,(.cp 46 5)),(none,(.len (some 47) (.t 46) false true)),(none,(.bin (some 48) .lss (.t 45) (.t 47) false false))]) (.cond (.t 48) .skip (.exit 0))) (.seq (.block 1 (.seq (.ops [(none,(.cp 52 5)),(none,(.cp 53 6)),(none,(.ia (some 54) (.t 52) (.t 53) (some 1) none)),(none,(.ld (some 55) (.t 54) (.one none))),(none,(.call (some 56) (.k (.func 16 [] [])) [(.t 55)] none)),(none,(.cp 51 56)),(none,(.ext (some 57) (.t 51) 0)),(none,(.ext (some 58) (.t 51) 1)),(none,(.ext (some 59) (.t 51) 2)),(none,(.alloc 7 [(.sl .full 6 []),(.sl .full 16 [])])),(none,(.st (.t 7) (.t 57) 2)),(none,(.mv 8 58)),(none,(.mv 9 59))]) (.seq (.ops [(none,(.cp 61 5)),(none,(.cp 62 6)),(none,(.ia (some 63) (.t 61) (.t 62) (some 1) none)),(none,(.ld (some 64) (.t 63) (.one none))),(none,(.call (some 65) (.k (.func 17 [] [])) [(.t 64)] none)),(none,(.cp 60 65)),(none,(.ext (some 66) (.t 60) 0)),(none,(.ext (some 67) (.t 60) 1)),(none,(.ext (some 68) (.t 60) 2)),(none,(.alloc 10 [(.sl .full 6 []),(.sl .full 16 [])])),(none,(.st (.t 10) (.t 66) 2)),(none,(.mv 11 67)),(none,(.mv 12 68))]) (.seq (.ops [(none,(.cp 69 9)),(none,(.call (some 70) (.k (.func 18 [] [])) [(.t 69)] none)),(none,(.cp 71 12)),(none,(.bin (some 72) .neq (.t 70) (.t 71) false false)),(none,(.cp 73 72)),((some (73,false)),(.cp 74 8)),((some (73,false)),(.cp 75 11)),((some (73,false)),(.bin (some 76) .neq (.t 74) (.t 75) false false)),(none,(.pick (some 77) (.t 73) (.k (.bool true)) (.t 76))),(none,(.cp 78 77)),((some (78,false)),(.ld (some 79) (.t 7) (.agg 2))),((some (78,false)),(.ld (some 80) (.t 10) (.agg 2))),((some (78,false)),(.call (some 81) (.k (.func 19 [] [])) [(.t 79),(.t 80)] none)),((some (78,false)),(.un (some 82) .not (.t 81))),(none,(.pick (some 83) (.t 78) (.k (.bool true)) (.t 82)))]) (.cond (.t 83) (.seq (.ops [(none,(.set 2 (.bool false)))]) .ret) .skip))))) (.ops [(none,(.cp 49 6)),(none,(.bin (some 50) .add (.t 49) (.k (.int .i64 1)) false false)),(none,(.mv 6 50))])))))) (.seq (.ops [(none,(.fa (some 84) (.t 1) 0)),(none,(.ld (some 85) (.t 84) (.one (some 1)))),(none,(.len (some 86) (.t 85) false true)),(none,(.bin (some 87) .geq (.t 86) (.k (.int .i64 0)) false false)),(none,(.cp 88 87)),((some (88,true)),(.call (some 89) (.k (.func 20 [] [])) [] none)),(none,(.pick (some 90) (.t 88) (.t 89) (.k (.bool false)))),(none,(.mv 2 90))]) .ret))))))))):=by kernel_rfl
theorem fn5_rep (s:List UInt8) (n:Nat) (hs:s.length<1000) (hn:n<1000): ∃r:List UInt8,r.length=s.length * n∧PFn Tryz.prog 21 [.str s, .int .i64 (n:Nat)] (.str r):=by
 have hlen: ∀m:Nat,(List.replicate m s).flatten.length=s.length * m:=by
  intro m
  induction m with
  |zero=>simp
  |succ m ih=>rw [List.replicate_succ,List.flatten_cons,List.length_append,ih,Nat.mul_succ];omega
 refine ⟨(List.replicate n s).flatten,hlen n, ?_⟩
 intro h
 refine fnC mixed Tryz.func21 c21 (by simp) ?_
 simp only [go_sem,seval]
 refine cloop (fun k t=> ∃i:Nat,i+k=n∧t.fr 0= .str s∧t.fr 1= .int .i64 (n:Nat)∧t.fr 5= .str (List.replicate i s).flatten∧t.fr 6= .int .i64 (i:Nat)∧t.hp=h) n ⟨0,by omega,by simp [fr_apply,argsF],by simp [fr_apply,argsF],by simp [fr_apply,argsF],by simp [fr_apply],rfl⟩ ?_
 rintro k ⟨F,hp⟩ ⟨i,hk,f0,f1,f5,f6,rfl⟩
 simp only at f0 f1 f5 f6
 by_cases hi:i<n
 ·have hi' :decide ((i:Int)<(n:Int))=true:=decide_eq_true (by omega)
  have hw:IntKind.i64.wrap ((i:Int)+1)=((i+1:Nat):Int):=by rw [wrap64]<;>omega
  have hl:=hlen i
  have hb:s.length * i≤1000 * 1000:=Nat.mul_le_mul (by omega) (by omega)
  have e:(List.replicate (i+1) s).flatten=(List.replicate i s).flatten++s:=by
   rw [List.replicate_succ',List.flatten_append];simp
  rw [←hl] at hb
  generalize (List.replicate i s).flatten=r at *
  have hlim:r.length+s.length≤9223372036854775807:=by omega
  simp only [go_sem,seval,f0,f1,f5,f6,hi',hw,hlim,List.length_append]
  exact ⟨k-1,by omega,i+1,by omega,by rw [e],rfl⟩
 ·have hi' :decide ((i:Int)<(n:Int))=false:=decide_eq_false (by omega)
  have:i=n:=by omega
  subst this
  simp only [go_sem,seval,f0,f1,f5,f6,hi']
set_option maxHeartbeats 8000000 in
theorem fn5_ReadLimits (xs:List (List UInt8)) (hl:xs.length<1000000000000000) (hs: ∀x∈xs,x.length≤140737488351232):PFn Tryz.prog 4 [.agg [.sl .sh 1 (xs.map AV.str)]] (.bool true):=by
 intro h
 obtain ⟨R0,hl0,hR0⟩:=fn5_rep [97,32,60,45,32,98,44,32,119,105,116,104,105,110,32,49,46,10] 20 (by decide) (by decide)
 rw [show ([97,32,60,45,32,98,44,32,119,105,116,104,105,110,32,49,46,10]:List UInt8).length * 20=360 from rfl] at hl0
 rw [show ((20:Nat):Int)=20 from rfl] at hR0
 obtain ⟨R1,hl1,hR1⟩:=fn5_rep [40] 100 (by decide) (by decide)
 rw [show ([40]:List UInt8).length * 100=100 from rfl] at hl1
 rw [show ((100:Nat):Int)=100 from rfl] at hR1
 obtain ⟨R2,hl2,hR2⟩:=fn5_rep [41] 100 (by decide) (by decide)
 rw [show ([41]:List UInt8).length * 100=100 from rfl] at hl2
 rw [show ((100:Nat):Int)=100 from rfl] at hR2
 obtain ⟨R3,hl3,hR3⟩:=fn5_rep [102,40,49,41,46,10] 30 (by decide) (by decide)
 rw [show ([102,40,49,41,46,10]:List UInt8).length * 30=180 from rfl] at hl3
 rw [show ((30:Nat):Int)=30 from rfl] at hR3
 obtain ⟨R4,hl4,hR4⟩:=fn5_rep [102,40,49,41,46,10] 31 (by decide) (by decide)
 rw [show ([102,40,49,41,46,10]:List UInt8).length * 31=186 from rfl] at hl4
 rw [show ((31:Nat):Int)=31 from rfl] at hR4
 obtain ⟨R5,hl5,hR5⟩:=fn5_rep [98,32,38,32] 11 (by decide) (by decide)
 rw [show ([98,32,38,32]:List UInt8).length * 11=44 from rfl] at hl5
 rw [show ((11:Nat):Int)=11 from rfl] at hR5
 obtain ⟨R6,hl6,hR6⟩:=fn5_rep [98,32,38,32] 12 (by decide) (by decide)
 rw [show ([98,32,38,32]:List UInt8).length * 12=48 from rfl] at hl6
 rw [show ((12:Nat):Int)=12 from rfl] at hR6
 obtain ⟨R7,hl7,hR7⟩:=fn5_rep [98,32,38,32] 6 (by decide) (by decide)
 rw [show ([98,32,38,32]:List UInt8).length * 6=24 from rfl] at hl7
 rw [show ((6:Nat):Int)=6 from rfl] at hR7
 obtain ⟨R8,hl8,hR8⟩:=fn5_rep [103,40] 4 (by decide) (by decide)
 rw [show ([103,40]:List UInt8).length * 4=8 from rfl] at hl8
 rw [show ((4:Nat):Int)=4 from rfl] at hR8
 obtain ⟨R9,hl9,hR9⟩:=fn5_rep [41] 4 (by decide) (by decide)
 rw [show ([41]:List UInt8).length * 4=4 from rfl] at hl9
 rw [show ((4:Nat):Int)=4 from rfl] at hR9
 have hge:decide ((xs.length:Int)≥0)=true:=decide_eq_true (by omega)
 refine fnC mixed Tryz.func4 c4 (by simp) ?_
 simp only [go_sem,seval]
 refine pcall hR0 (by simp only [go_sem,seval]) ?_
 simp only [go_sem,seval,hl0,hl1,hl2,hl3,hl4,hl5,hl6,hl7,hl8,hl9,List.length_append]
 refine pcall hR1 (by simp only [go_sem,seval]) ?_
 simp only [go_sem,seval,hl0,hl1,hl2,hl3,hl4,hl5,hl6,hl7,hl8,hl9,List.length_append]
 refine pcall hR2 (by simp only [go_sem,seval]) ?_
 simp only [go_sem,seval,hl0,hl1,hl2,hl3,hl4,hl5,hl6,hl7,hl8,hl9,List.length_append]
 refine pcall hR3 (by simp only [go_sem,seval]) ?_
 simp only [go_sem,seval,hl0,hl1,hl2,hl3,hl4,hl5,hl6,hl7,hl8,hl9,List.length_append]
 refine pcall hR4 (by simp only [go_sem,seval]) ?_
 simp only [go_sem,seval,hl0,hl1,hl2,hl3,hl4,hl5,hl6,hl7,hl8,hl9,List.length_append]
 refine pcall hR5 (by simp only [go_sem,seval]) ?_
 simp only [go_sem,seval,hl0,hl1,hl2,hl3,hl4,hl5,hl6,hl7,hl8,hl9,List.length_append]
 refine pcall hR6 (by simp only [go_sem,seval]) ?_
 simp only [go_sem,seval,hl0,hl1,hl2,hl3,hl4,hl5,hl6,hl7,hl8,hl9,List.length_append]
 refine pcall hR7 (by simp only [go_sem,seval]) ?_
 simp only [go_sem,seval,hl0,hl1,hl2,hl3,hl4,hl5,hl6,hl7,hl8,hl9,List.length_append]
 refine pcall hR8 (by simp only [go_sem,seval]) ?_
 simp only [go_sem,seval,hl0,hl1,hl2,hl3,hl4,hl5,hl6,hl7,hl8,hl9,List.length_append]
 refine pcall hR9 (by simp only [go_sem,seval]) ?_
 simp only [go_sem,seval,hl0,hl1,hl2,hl3,hl4,hl5,hl6,hl7,hl8,hl9,List.length_append]
 obtain ⟨tx,htx⟩: ∃tx:List (List UInt8),tx= [R0,R0++ [97,32,60,45,32,98,44,32,119,105,116,104,105,110,32,49,46],R3,R4, [102,40,49,41,32,58,45,32,97,44,32,98,44,32,99,46], [102,40,49,41,32,58,45,32,97,44,32,98,44,32,99,44,32,100,46], [97,32,60,45,32,98,44,32,119,105,116,104,105,110,32,49,44,32,119,104,101,114,101,32,49,32,60,32,50,44,32,49,32,60,32,50,44,32,49,32,60,32,50,44,32,49,32,60,32,50,46], [97,32,60,45,32,98,44,32,119,105,116,104,105,110,32,49,44,32,119,104,101,114,101,32,49,32,60,32,50,44,32,49,32,60,32,50,44,32,49,32,60,32,50,44,32,49,32,60,32,50,44,32,49,32,60,32,50,44,32,114,101,99,101,110,116,46], [97,32,60,45,32]++(R1++ [97]++R2)++ [44,32,119,105,116,104,105,110,32,49,46], [97,32,60,45,32,40]++(R1++ [97]++R2)++ [41,44,32,119,105,116,104,105,110,32,49,46], [97,32,60,45,32]++R5++ [98,44,32,119,105,116,104,105,110,32,49,46], [97,32,60,45,32]++R6++ [98,44,32,119,105,116,104,105,110,32,49,46], [97,32,60,45,32]++R7++ [98,44,32,119,105,116,104,105,110,32,49,46], [102,40]++R8++ [49]++R9++ [41,46], [102,40,49,44,50,44,51,44,52,44,53,41,46], [97,32,60,45,32,98,44,32,119,105,116,104,105,110,32,49,44,32,114,101,99,101,110,116,46], [97,32,60,45,32,98,44,32,119,105,116,104,105,110,32,49,44,32,119,104,101,114,101,32,114,101,99,101,110,116,32,60,32,51,44,32,102,105,114,115,116,46], [97,32,60,45,32,98,44,32,119,105,116,104,105,110,32,49,44,32,114,101,99,101,110,116,44,32,102,105,114,115,116,46], [97,32,60,45,32,107,110,111,119,110,44,32,119,105,116,104,105,110,32,49,44,32,119,104,101,114,101,32,107,110,111,119,110,32,107,110,111,119,110,44,32,117,110,107,110,111,119,110,32,102,40,49,41,46]]:=⟨_,rfl⟩
 have hL: ∀y∈tx,y.length≤9000:=fun y hy=>by
  rw [htx] at hy
  simp only [List.mem_cons,List.not_mem_nil,or_false] at hy
  rcases hy with rfl|rfl|rfl|rfl|rfl|rfl|rfl|rfl|rfl|rfl|rfl|rfl|rfl|rfl|rfl|rfl|rfl|rfl|rfl<;>(try simp only [List.length_append,List.length_cons,List.length_nil])<;>omega
 have hTl:tx.length=19:=by rw [htx];rfl
 refine cloop (fun m t=> ∃(j:Nat),j+m=tx.length∧t.fr 1= .ptr h.n 0∧t.fr 5= .sl .own 1 (tx.map AV.str)∧t.fr 6= .int .i64 (j:Nat)∧h.n+1≤t.hp.n∧t.hp.bk h.n= .cells [.sl .sh 1 (xs.map AV.str)]∧ ∀q,q<h.n→t.hp.bk q=h.bk q) tx.length
  ⟨0,by omega,by simp [fr_apply],by simp [fr_apply,htx],by simp [fr_apply],Nat.le_refl _,by simp [bk_apply],fun q hq=>by simp [bk_apply,show q≠h.n by omega]⟩ ?_
 clear htx hR0 hR1 hR2 hR3 hR4 hR5 hR6 hR7 hR8 hR9
 rintro m ⟨F,hp⟩ ⟨j2,hm,f1,f5,f6,hn,hb,ho⟩
 simp only at f1 f5 f6 hn hb ho
 by_cases hj2:j2<tx.length
 ·have hj2' :decide ((j2:Int)<(tx.length:Int))=true:=decide_eq_true (by omega)
  have hwj2:IntKind.i64.wrap ((j2:Int)+1)=((j2+1:Nat):Int):=by rw [wrap64]<;>omega
  have hy:(tx.map AV.str)[j2]? =some (.str tx[j2]):=by rw [List.getElem?_map,List.getElem?_eq_getElem hj2];rfl
  have hyl:=hL tx[j2] (List.getElem_mem _)
  generalize tx[j2]=y at hy hyl
  obtain ⟨c,r,p,e,hA,hB,hE⟩:=both_pr y (by omega)
  have hN:=fn5_num e
  have q0: ¬h.n=hp.n:=by omega
  have q1: ¬hp.n=h.n:=by omega
  have q2: ¬h.n=hp.n+1:=by omega
  have q3: ¬hp.n+1=h.n:=by omega
  have q4: ¬hp.n=hp.n+1:=by omega
  have q5: ¬hp.n+1=hp.n:=by omega
  simp only [go_sem,seval,f1,f5,f6,hj2',hy]
  refine pcall hA (by simp only [go_sem,seval]) ?_
  simp only [go_sem,seval,f1,f5,f6,hy,q0,q1]
  refine pcall hB (by simp only [go_sem,seval]) ?_
  simp only [go_sem,seval,f1,f5,f6,hy,q0,q1,q2,q3,q4,q5]
  refine pcall hN (by simp only [go_sem,seval]) ?_
  simp only [go_sem,seval,f1,f5,f6,q0,q1,q2,q3,q4,q5]
  refine pcall hE (by simp only [go_sem,seval]) ?_
  simp only [go_sem,seval,f1,f5,f6,hwj2]
  exact ⟨m-1,by omega,j2+1,by omega,rfl,by omega,by simp [q0,q2,hb],fun q hq=>by simp [show q≠hp.n by omega,show q≠hp.n+1 by omega];exact ho q hq⟩
 ·have hj2' :decide ((j2:Int)<(tx.length:Int))=false:=decide_eq_false (by omega)
  simp only [go_sem,seval,f1,f5,f6,hj2',hb,hge]
  refine pcall fn5_wakes (by simp only [go_sem,seval]) ?_
  simp only [go_sem,seval]
  exact shrink_old (by omega) ho
end Go.Proofs.YtnibelnjflhkgaaGreatDoor.Ab

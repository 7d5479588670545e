/- The statement ReadGuards: its walk. No condition. -/
import Derived.Test.YtnibelnjflhkgaaGreatDoorLr2
namespace Go.Proofs.YtnibelnjflhkgaaGreatDoor.Ab
set_option linter.unusedVariables false
set_option linter.unusedSimpArgs false
set_option maxRecDepth 10000
theorem c5:compF Tryz.prog ow Tryz.f5=(some (176,([(.t 2)],(.seq (.ops [(none,(.box 1 (.t 0))),(none,(.set 2 (.bool false)))]) (.seq (.seq (.ops [(none,(.ld (some 24) (.t 1) (.agg 1))),(none,(.call (some 25) (.k (.func 14 [] [])) [(.t 24)] none))]) (.cond (.t 25) (.seq (.ops [(none,(.set 2 (.bool true)))]) .ret) .skip)) (.seq (.ops [(none,(.bs 26 1 [(.k (.str [88])),(.k (.str [49])),(.k (.str [107,110,111,119,110])),(.k (.str [102,40,88,41]))])),(none,(.fa (some 27) (.t 1) 0)),(none,(.ld (some 28) (.t 27) (.one (some 1)))),(none,(.app 29 (.t 26) (.t 28) 1 16 true true)),(none,(.mv 3 29))]) (.seq (.seq (.ops [(none,(.set 4 (.int .i64 0)))]) (.block 0 (.loop (.seq (.seq (.ops [(none,(.cp 30 4)),(none,(.cp 31 3)),(none,(.len (some 32) (.t 31) false true)),(none,(.bin (some 33) .lss (.t 30) (.t 32) false false)),(none,(.cp 34 33)),((some (34,true)),(.cp 35 4)),((some (34,true)),(.bin (some 36) .lss (.t 35) (.k (.int .i64 7)) false false)),(none,(.pick (some 37) (.t 34) (.t 36) (.k (.bool false))))]) (.cond (.t 37) .skip (.exit 0))) (.seq (.block 1 (.seq (.ops [(none,(.set 5 (.int .i64 0)))]) (.block 2 (.loop (.seq (.seq (.ops [(none,(.cp 40 5)),(none,(.cp 41 3)),(none,(.len (some 42) (.t 41) false true)),(none,(.bin (some 43) .lss (.t 40) (.t 42) false false)),(none,(.cp 44 43)),((some (44,true)),(.cp 45 5)),((some (44,true)),(.bin (some 46) .lss (.t 45) (.k (.int .i64 7)) false false)),(none,(.pick (some 47) (.t 44) (.t 46) (.k (.bool false))))]) (.cond (.t 47) .skip (.exit 2))) (.seq (.block 3 (.seq (.seq (.opsD [(none,(.cp 50 3)),(none,(.cp 51 4)),(none,(.ia (some 52) (.t 50) (.t 51) (some 1) none)),(none,(.ld (some 53) (.t 52) (.one none))),(none,(.len (some 54) (.t 53) true false)),(none,(.cp 55 3)),(none,(.cp 56 5)),(none,(.ia (some 57) (.t 55) (.t 56) (some 1) none)),(none,(.ld (some 58) (.t 57) (.one none))),(none,(.len (some 59) (.t 58) true false)),(none,(.bin (some 60) .add (.t 54) (.t 59) false false)),(none,(.bin (some 61) .gtr (.t 60) (.k (.int .i64 1500)) false false))]) (.cond (.t 61) (.exit 3) .skip)) (.seq (.opsD [(none,(.cp 62 3)),(none,(.cp 63 4)),(none,(.ia (some 64) (.t 62) (.t 63) (some 1) none)),(none,(.ld (some 65) (.t 64) (.one none))),(none,(.cp 66 3)),(none,(.cp 67 5)),(none,(.ia (some 68) (.t 66) (.t 67) (some 1) none)),(none,(.ld (some 69) (.t 68) (.one none))),(none,(.mv 6 65)),(none,(.mv 7 69))]) (.seq (.ops [(none,(.cp 70 6)),(none,(.bin (some 71) .add (.t 70) (.k (.str [32,60,32])) false false)),(none,(.cp 72 7)),(none,(.bin (some 73) .add (.t 71) (.t 72) false false)),(none,(.cp 74 6)),(none,(.bin (some 75) .add (.t 74) (.k (.str [32,61,60,32])) false false)),(none,(.cp 76 7)),(none,(.bin (some 77) .add (.t 75) (.t 76) false false)),(none,(.cp 78 6)),(none,(.bin (some 79) .add (.t 78) (.k (.str [32,61,32])) false false)),(none,(.cp 80 7)),(none,(.bin (some 81) .add (.t 79) (.t 80) false false)),(none,(.cp 82 6)),(none,(.bin (some 83) .add (.t 82) (.k (.str [32,92,61,32])) false false)),(none,(.cp 84 7)),(none,(.bin (some 85) .add (.t 83) (.t 84) false false)),(none,(.cp 86 6)),(none,(.bin (some 87) .add (.k (.str [107,110,111,119,110,32])) (.t 86) false false)),(none,(.cp 88 6)),(none,(.bin (some 89) .add (.k (.str [117,110,107,110,111,119,110,32])) (.t 88) false false)),(none,(.bin (some 90) .add (.t 89) (.k (.str [44,32,107,110,111,119,110,32])) false false)),(none,(.cp 91 7)),(none,(.bin (some 92) .add (.t 90) (.t 91) false false)),(none,(.cp 93 6)),(none,(.bs 94 1 [(.t 73),(.t 77),(.t 81),(.t 85),(.t 87),(.t 92),(.t 93)])),(none,(.mv 8 94))]) (.seq (.ops [(none,(.set 9 (.int .i64 0)))]) (.block 4 (.loop (.seq (.seq (.ops [(none,(.cp 95 9)),(none,(.cp 96 8)),(none,(.len (some 97) (.t 96) false true)),(none,(.bin (some 98) .lss (.t 95) (.t 97) false false))]) (.cond (.t 98) .skip (.exit 4))) (.seq (.block 5 (.seq (.ops [(none,(.cp 101 8)),(none,(.cp 102 9)),(none,(.ia (some 103) (.t 101) (.t 102) (some 1) none)),(none,(.ld (some 104) (.t 103) (.one none))),(none,(.bin (some 105) .add (.k (.str [104,32,60,45,32,97,44,32,119,105,116,104,105,110,32,51,44,32,119,104,101,114,101,32])) (.t 104) false false)),(none,(.bin (some 106) .add (.t 105) (.k (.str [46])) false false)),(none,(.mv 10 106))]) (.seq (.ops [(none,(.cp 107 8)),(none,(.cp 108 9)),(none,(.ia (some 109) (.t 107) (.t 108) (some 1) none)),(none,(.ld (some 110) (.t 109) (.one none))),(none,(.bin (some 111) .add (.k (.str [102,40,88,41,32,58,45,32,103,40,88,41,44,32])) (.t 110) false false)),(none,(.bin (some 112) .add (.t 111) (.k (.str [46])) false false)),(none,(.mv 11 112))]) (.seq (.ops [(none,(.cp 114 10)),(none,(.cp 115 11)),(none,(.bin (some 116) .add (.t 114) (.t 115) false false)),(none,(.call (some 117) (.k (.func 16 [] [])) [(.t 116)] none)),(none,(.cp 113 117)),(none,(.ext (some 118) (.t 113) 0)),(none,(.ext (some 119) (.t 113) 1)),(none,(.ext (some 120) (.t 113) 2)),(none,(.alloc 12 [(.sl .full 6 []),(.sl .full 16 [])])),(none,(.st (.t 12) (.t 118) 2)),(none,(.mv 13 119)),(none,(.mv 14 120))]) (.seq (.ops [(none,(.cp 122 10)),(none,(.cp 123 11)),(none,(.bin (some 124) .add (.t 122) (.t 123) false false)),(none,(.call (some 125) (.k (.func 17 [] [])) [(.t 124)] none)),(none,(.cp 121 125)),(none,(.ext (some 126) (.t 121) 0)),(none,(.ext (some 127) (.t 121) 1)),(none,(.ext (some 128) (.t 121) 2)),(none,(.alloc 15 [(.sl .full 6 []),(.sl .full 16 [])])),(none,(.st (.t 15) (.t 126) 2)),(none,(.mv 16 127)),(none,(.mv 17 128))]) (.seq (.ops [(none,(.cp 130 11)),(none,(.call (some 131) (.k (.func 16 [] [])) [(.t 130)] none)),(none,(.cp 129 131)),(none,(.ext (some 132) (.t 129) 0)),(none,(.ext (some 133) (.t 129) 1)),(none,(.ext (some 134) (.t 129) 2)),(none,(.alloc 18 [(.sl .full 6 []),(.sl .full 16 [])])),(none,(.st (.t 18) (.t 132) 2)),(none,(.mv 19 133)),(none,(.mv 20 134))]) (.seq (.ops [(none,(.cp 136 11)),(none,(.call (some 137) (.k (.func 17 [] [])) [(.t 136)] none)),(none,(.cp 135 137)),(none,(.ext (some 138) (.t 135) 0)),(none,(.ext (some 139) (.t 135) 1)),(none,(.ext (some 140) (.t 135) 2)),(none,(.alloc 21 [(.sl .full 6 []),(.sl .full 16 [])])),(none,(.st (.t 21) (.t 138) 2)),(none,(.mv 22 139)),(none,(.mv 23 140))]) (.seq (.ops [(none,(.cp 141 14)),(none,(.call (some 142) (.k (.func 18 [] [])) [(.t 141)] none)),(none,(.cp 143 17)),(none,(.bin (some 144) .neq (.t 142) (.t 143) false false)),(none,(.cp 145 144)),((some (145,false)),(.cp 146 13)),((some (145,false)),(.cp 147 16)),((some (145,false)),(.bin (some 148) .neq (.t 146) (.t 147) false false)),(none,(.pick (some 149) (.t 145) (.k (.bool true)) (.t 148))),(none,(.cp 150 149)),((some (150,false)),(.ld (some 151) (.t 12) (.agg 2))),((some (150,false)),(.ld (some 152) (.t 15) (.agg 2))),((some (150,false)),(.call (some 153) (.k (.func 19 [] [])) [(.t 151),(.t 152)] none)),((some (150,false)),(.un (some 154) .not (.t 153))),(none,(.pick (some 155) (.t 150) (.k (.bool true)) (.t 154))),(none,(.cp 156 155)),((some (156,false)),(.cp 157 20)),((some (156,false)),(.call (some 158) (.k (.func 18 [] [])) [(.t 157)] none)),((some (156,false)),(.cp 159 23)),((some (156,false)),(.bin (some 160) .neq (.t 158) (.t 159) false false)),(none,(.pick (some 161) (.t 156) (.k (.bool true)) (.t 160))),(none,(.cp 162 161)),((some (162,false)),(.cp 163 19)),((some (162,false)),(.cp 164 22)),((some (162,false)),(.bin (some 165) .neq (.t 163) (.t 164) false false)),(none,(.pick (some 166) (.t 162) (.k (.bool true)) (.t 165))),(none,(.cp 167 166)),((some (167,false)),(.ld (some 168) (.t 18) (.agg 2))),((some (167,false)),(.ld (some 169) (.t 21) (.agg 2))),((some (167,false)),(.call (some 170) (.k (.func 19 [] [])) [(.t 168),(.t 169)] none)),((some (167,false)),(.un (some 171) .not (.t 170))),(none,(.pick (some 172) (.t 167) (.k (.bool true)) (.t 171)))]) (.cond (.t 172) (.seq (.ops [(none,(.set 2 (.bool false)))]) .ret) .skip))))))))) (.ops [(none,(.cp 99 9)),(none,(.bin (some 100) .add (.t 99) (.k (.int .i64 1)) false false)),(none,(.mv 9 100))])))))))))) (.ops [(none,(.cp 48 5)),(none,(.bin (some 49) .add (.t 48) (.k (.int .i64 1)) false false)),(none,(.mv 5 49))]))))))) (.ops [(none,(.cp 38 4)),(none,(.bin (some 39) .add (.t 38) (.k (.int .i64 1)) false false)),(none,(.mv 4 39))])))))) (.seq (.ops [(none,(.set 173 (.bool true))),((some (173,true)),(.call (some 174) (.k (.func 20 [] [])) [] none)),(none,(.pick (some 175) (.t 173) (.t 174) (.k (.bool false)))),(none,(.mv 2 175))]) .ret)))))))):=by kernel_rfl
theorem both_l (x:List UInt8) (hx:x.length<1000000000000000):PFn Tryz.prog 16 [.str x] (.tup [.agg [.sl (flC (rdP x).1.c) 6 ((rdP x).1.c.map Cl.avf), .sl (flR (rdP x).1.r) 16 ((rdP x).1.r.map Ru.avf)], .int .i64 ((rdP x).2.1:Nat), .int .i64 (rdP x).2.2]):=fnl_readProgram x hx
theorem both_r (x:List UInt8) (hx:x.length<1000000000000000):PFn Tryz.prog 17 [.str x] (.tup [.agg [.sl (flC (rdP x).1.c) 6 ((rdP x).1.c.map Cl.avf), .sl (flR (rdP x).1.r) 16 ((rdP x).1.r.map Ru.avf)], .int .i64 ((rdP x).2.1:Nat), .int .i64 (rdP x).2.2]):=by
 have:=fnr_readProgram x hx
 rw [←rdP_F] at this
 exact this
theorem apFl_own (ys:List AV):apFl .own ys= .own:=by cases ys<;>rfl
set_option maxHeartbeats 8000000 in
theorem fn5_ReadGuards (xs:List (List UInt8)) (hl:xs.length<1000000000000000) (hs: ∀x∈xs,x.length≤140737488351232):PFn Tryz.prog 5 [.agg [.sl .sh 1 (xs.map AV.str)]] (.bool true):=by
 intro h
 have hT:=fn4_Heavy xs hl hs
 refine fnC mixed Tryz.func5 c5 (by simp) ?_
 simp only [go_sem,seval]
 refine pcall hT (by simp only [go_sem,seval]) ?_
 by_cases hv:txtF xs.length xs>9000
 ·have hv' :decide (txtF xs.length xs>9000)=true:=decide_eq_true hv
  simp only [go_sem,seval,hv']
 have hv' :decide (txtF xs.length xs>9000)=false:=decide_eq_false hv
 have hsm:=txtF_each xs xs.length (by omega)
 have hge:=txtF_ge xs xs.length
 generalize txtF xs.length xs=N at *
 have hA:(4+xs.length) * 16≤140737488355328:=by omega
 have hA2:4+xs.length≤9223372036854775807:=by omega
 have hA3:xs.length≤9223372036854775803:=by omega
 simp only [go_sem,seval,hv',List.length_append,hA,hA2,hA3]
 obtain ⟨tx,htx⟩: ∃tx:List (List UInt8),tx= [[88], [49], [107,110,111,119,110], [102,40,88,41]]++xs:=⟨_,rfl⟩
 have hL: ∀y∈tx,y.length≤9000:=fun y hy=>by
  rw [htx] at hy
  rcases List.mem_append.1 hy with hy|hy
  ·simp only [List.mem_cons,List.not_mem_nil,or_false] at hy
   rcases hy with rfl|rfl|rfl|rfl<;>simp
  ·have:=hsm y hy;omega
 have hTl:tx.length≤9004:=by rw [htx];simp;omega
 refine cloop (fun k t=> ∃i:Nat,i+k=tx.length∧t.fr 1= .ptr h.n 0∧t.fr 3= .sl .own 1 (tx.map AV.str)∧t.fr 4= .int .i64 (i:Nat)∧h.n+1≤t.hp.n∧ ∀q,q<h.n→t.hp.bk q=h.bk q) tx.length ⟨0,by omega,by simp [fr_apply],by simp [fr_apply,htx,apFl_own],by simp [fr_apply],Nat.le_refl _,fun q hq=>by simp [bk_apply,show q≠h.n by omega]⟩ ?_
 clear htx
 rintro k ⟨F,hp⟩ ⟨i,hk,f1,f3,f4,hn,ho⟩
 simp only at f1 f3 f4 hn ho
 by_cases hi:i<tx.length
 ·have hi' :decide ((i:Int)<(tx.length:Int))=true:=decide_eq_true (by omega)
  by_cases h8:i<7
  ·have h8' :decide ((i:Int)<7)=true:=decide_eq_true (by omega)
   have hw:IntKind.i64.wrap ((i:Int)+1)=((i+1:Nat):Int):=by rw [wrap64]<;>omega
   simp only [go_sem,seval,f1,f3,f4,hi',h8']
   refine cloop (fun m t=> ∃j:Nat,j+m=tx.length∧t.fr 1= .ptr h.n 0∧t.fr 3= .sl .own 1 (tx.map AV.str)∧t.fr 4= .int .i64 (i:Nat)∧t.fr 5= .int .i64 (j:Nat)∧h.n+1≤t.hp.n∧ ∀q,q<h.n→t.hp.bk q=h.bk q) tx.length ⟨0,by omega,by simp [fr_apply,f1],by simp [fr_apply,f3],by simp [fr_apply,f4],by simp [fr_apply],hn,ho⟩ ?_
   clear f1 f3 f4 hn ho F hp
   rintro m ⟨F,hp⟩ ⟨j,hm,f1,f3,f4,f5,hn,ho⟩
   simp only at f1 f3 f4 f5 hn ho
   by_cases hj:j<tx.length
   ·have hj' :decide ((j:Int)<(tx.length:Int))=true:=decide_eq_true (by omega)
    by_cases hj8:j<7
    ·have hj8' :decide ((j:Int)<7)=true:=decide_eq_true (by omega)
     have hwj:IntKind.i64.wrap ((j:Int)+1)=((j+1:Nat):Int):=by rw [wrap64]<;>omega
     have hx:(tx.map AV.str)[i]? =some (.str tx[i]):=by rw [List.getElem?_map,List.getElem?_eq_getElem hi];rfl
     have hxl:=hL tx[i] (List.getElem_mem _)
     have hy:(tx.map AV.str)[j]? =some (.str tx[j]):=by rw [List.getElem?_map,List.getElem?_eq_getElem hj];rfl
     have hyl:=hL tx[j] (List.getElem_mem _)
     generalize tx[i]=x at hx hxl
     generalize tx[j]=y at hy hyl
     have hw2:IntKind.i64.wrap ((x.length:Int)+(y.length:Int))=((x.length+y.length:Nat):Int):=by rw [wrap64]<;>omega
     by_cases hb:x.length+y.length>1500
     ·have hb' :decide (((x.length+y.length:Nat):Int)>1500)=true:=decide_eq_true (by omega)
      simp only [go_sem,seval,f1,f3,f4,f5,hj',hj8',hx,hy,hw2,hb',hwj]
      exact ⟨m-1,by omega,j+1,by omega,rfl,by omega,ho⟩
     ·have hb' :decide (((x.length+y.length:Nat):Int)>1500)=false:=decide_eq_false (by omega)
      have b1:x.length≤9223372036854775804:=by omega
      have b3:x.length+(3+y.length)≤9223372036854775807:=by omega
      have b4:x.length+(4+y.length)≤9223372036854775807:=by omega
      have b5:6+x.length≤9223372036854775807:=by omega
      have b6:8+x.length≤9223372036854775807:=by omega
      have b7:8+(x.length+8)≤9223372036854775807:=by omega
      have b8:8+(x.length+(8+y.length))≤9223372036854775807:=by omega
      have b9:x.length+3≤9223372036854775807:=by omega
      have c1:x.length≤9223372036854775801:=by omega
      have c2:x.length≤9223372036854775799:=by omega
      have c3:x.length≤9223372036854775791:=by omega
      have c4:x.length+(16+y.length)≤9223372036854775807:=by omega
      have b2:x.length≤9223372036854775803:=by omega
      simp only [go_sem,seval,f1,f3,f4,f5,hj',hj8',hx,hy,hw2,hb',b1,b2,b3,b4,b5,b6,b7,b8,b9,c1,c2,c3,c4,List.length_append]
      obtain ⟨al,hal⟩: ∃al:List (List UInt8),al= [x++ [32,60,32]++y,x++ [32,61,60,32]++y,x++ [32,61,32]++y,x++ [32,92,61,32]++y, [107,110,111,119,110,32]++x, [117,110,107,110,111,119,110,32]++x++ [44,32,107,110,111,119,110,32]++y,x]:=⟨_,rfl⟩
      have hal7:al.length=7:=by rw [hal];rfl
      have haL: ∀z∈al,z.length≤20000:=fun z hz=>by
       rw [hal] at hz
       simp only [List.mem_cons,List.not_mem_nil,or_false] at hz
       rcases hz with rfl|rfl|rfl|rfl|rfl|rfl|rfl<;>(try simp only [List.length_append,List.length_cons,List.length_nil])<;>omega
      refine cloop (fun n t=> ∃j2:Nat,j2+n=al.length∧t.fr 1= .ptr h.n 0∧t.fr 3= .sl .own 1 (tx.map AV.str)∧t.fr 4= .int .i64 (i:Nat)∧t.fr 5= .int .i64 (j:Nat)∧t.fr 8= .sl .own 1 (al.map AV.str)∧t.fr 9= .int .i64 (j2:Nat)∧h.n+1≤t.hp.n∧ ∀q,q<h.n→t.hp.bk q=h.bk q) al.length ⟨0,by omega,by simp [fr_apply,f1],by simp [fr_apply,f3],by simp [fr_apply,f4],by simp [fr_apply,f5],by simp [fr_apply,hal],by simp [fr_apply],hn,ho⟩ ?_
      clear f1 f3 f4 f5 hn ho F hp hal
      rintro n ⟨F,hp⟩ ⟨j2,hn2,f1,f3,f4,f5,f8,f9,hn,ho⟩
      simp only at f1 f3 f4 f5 f8 f9 hn ho
      by_cases hj2:j2<al.length
      ·have hj2' :decide ((j2:Int)<(al.length:Int))=true:=decide_eq_true (by omega)
       have hwj2:IntKind.i64.wrap ((j2:Int)+1)=((j2+1:Nat):Int):=by rw [wrap64]<;>omega
       have hz:(al.map AV.str)[j2]? =some (.str al[j2]):=by rw [List.getElem?_map,List.getElem?_eq_getElem hj2];rfl
       have hzl:=haL al[j2] (List.getElem_mem _)
       generalize al[j2]=z at hz hzl
       have d1:24+z.length≤9223372036854775807:=by omega
       have d2:24+(z.length+1)≤9223372036854775807:=by omega
       have d3:14+z.length≤9223372036854775807:=by omega
       have d4:14+(z.length+1)≤9223372036854775807:=by omega
       have d5:z.length≤9223372036854775782:=by omega
       have d7:z.length+(25+(z.length+15))≤9223372036854775807:=by omega
       have d6:z.length≤9223372036854775792:=by omega
       simp only [go_sem,seval,f1,f3,f4,f5,f8,f9,hj2',hz,d1,d2,d3,d4,d5,d6,d7,List.length_append]
       refine pcall (both_l _ ?_) (by simp only [go_sem,seval,f1,f3,f4,f5,f8,f9];exact rfl) ?_
       ·simp only [List.length_append,List.length_cons,List.length_nil];omega
       have q0: ¬hp.n=hp.n+1:=by omega
       have q1: ¬hp.n+1=hp.n:=by omega
       have q2: ¬hp.n=hp.n+2:=by omega
       have q3: ¬hp.n+2=hp.n:=by omega
       have q4: ¬hp.n=hp.n+3:=by omega
       have q5: ¬hp.n+3=hp.n:=by omega
       have q6: ¬hp.n+1=hp.n+2:=by omega
       have q7: ¬hp.n+2=hp.n+1:=by omega
       have q8: ¬hp.n+1=hp.n+3:=by omega
       have q9: ¬hp.n+3=hp.n+1:=by omega
       have r0: ¬hp.n+2=hp.n+3:=by omega
       have r1: ¬hp.n+3=hp.n+2:=by omega
       simp only [go_sem,seval,f1,f3,f4,f5,f8,f9,d7,List.length_append]
       refine pcall (both_r _ ?_) (by simp only [go_sem,seval,f1,f3,f4,f5,f8,f9];exact rfl) ?_
       ·simp only [List.length_append,List.length_cons,List.length_nil];omega
       generalize rdP _=R1
       obtain ⟨⟨c1,g1⟩,p1,e1⟩:=R1
       have hN1:=fn5_num e1
       have hE1:=fef_program ⟨c1,g1⟩
       unfold Pr.avf at hE1
       simp only at hE1 ⊢
       simp only [go_sem,seval,f1,f3,f4,f5,f8,f9,q0,q1]
       refine pcall (both_l _ ?_) (by simp only [go_sem,seval,f1,f3,f4,f5,f8,f9];exact rfl) ?_
       ·simp only [List.length_append,List.length_cons,List.length_nil];omega
       simp only [go_sem,seval,f1,f3,f4,f5,f8,f9,q0,q1,q2,q3,q6,q7]
       refine pcall (both_r _ ?_) (by simp only [go_sem,seval,f1,f3,f4,f5,f8,f9];exact rfl) ?_
       ·simp only [List.length_append,List.length_cons,List.length_nil];omega
       generalize rdP _=R2
       obtain ⟨⟨c2,g2⟩,p2,e2⟩:=R2
       have hN2:=fn5_num e2
       have hE2:=fef_program ⟨c2,g2⟩
       unfold Pr.avf at hE2
       simp only at hE2 ⊢
       simp only [go_sem,seval,f1,f3,f4,f5,f8,f9,q0,q1,q2,q3,q4,q5,q6,q7,q8,q9,r0,r1]
       refine pcall hN1 (by simp only [go_sem,seval]) ?_
       simp only [go_sem,seval,f1,f3,f4,f5,f8,f9,q0,q1,q2,q3,q4,q5,q6,q7,q8,q9,r0,r1]
       refine pcall hE1 (by simp only [go_sem,seval]) ?_
       simp only [go_sem,seval,f1,f3,f4,f5,f8,f9,q0,q1,q2,q3,q4,q5,q6,q7,q8,q9,r0,r1]
       refine pcall hN2 (by simp only [go_sem,seval]) ?_
       simp only [go_sem,seval,f1,f3,f4,f5,f8,f9,q0,q1,q2,q3,q4,q5,q6,q7,q8,q9,r0,r1]
       refine pcall hE2 (by simp only [go_sem,seval]) ?_
       simp only [go_sem,seval,f1,f3,f4,f5,f8,f9,hwj2]
       exact ⟨n-1,by omega,j2+1,by omega,rfl,by omega,fun q hq=>by simp [show q≠hp.n by omega,show q≠hp.n+1 by omega,show q≠hp.n+2 by omega,show q≠hp.n+3 by omega];exact ho q hq⟩
      ·have hj2' :decide ((j2:Int)<(al.length:Int))=false:=decide_eq_false (by omega)
       simp only [go_sem,seval,f1,f3,f4,f5,f8,f9,hj2',hwj]
       exact ⟨m-1,by omega,j+1,by omega,rfl,by omega,ho⟩
    ·have hj8' :decide ((j:Int)<7)=false:=decide_eq_false (by omega)
     simp only [go_sem,seval,f1,f3,f4,f5,hj',hj8',hw]
     exact ⟨k-1,by omega,i+1,by omega,rfl,by omega,ho⟩
   ·have hj' :decide ((j:Int)<(tx.length:Int))=false:=decide_eq_false (by omega)
    simp only [go_sem,seval,f1,f3,f4,f5,hj',hw]
    exact ⟨k-1,by omega,i+1,by omega,rfl,by omega,ho⟩
  ·have h8' :decide ((i:Int)<7)=false:=decide_eq_false (by omega)
   simp only [go_sem,seval,f1,f3,f4,hi',h8']
   refine pcall fn5_wakes (by simp only [go_sem,seval]) ?_
   simp only [go_sem,seval]
   exact shrink_old (by omega) ho
 ·have hi' :decide ((i:Int)<(tx.length:Int))=false:=decide_eq_false (by omega)
  simp only [go_sem,seval,f1,f3,f4,hi']
  refine pcall fn5_wakes (by simp only [go_sem,seval]) ?_
  simp only [go_sem,seval]
  exact shrink_old (by omega) ho
end Go.Proofs.YtnibelnjflhkgaaGreatDoor.Ab

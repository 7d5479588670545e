/- The statement ReadPrograms: its walk. No condition. -/
import Derived.Test.YtnibelnjflhkgaaGreatDoorRqA
import Derived.Test.YtnibelnjflhkgaaGreatDoorRp11
import Derived.Test.YtnibelnjflhkgaaGreatDoorRoE
namespace Go.Proofs.YtnibelnjflhkgaaGreatDoor.Ab
set_option linter.unusedVariables false
set_option linter.unusedSimpArgs false
set_option maxRecDepth 10000
theorem c3:compF Tryz.prog ow Tryz.f3=(some (108,([(.t 2)],(.seq (.ops [(none,(.box 1 (.t 0))),(none,(.set 2 (.bool false)))]) (.seq (.seq (.ops [(none,(.ld (some 16) (.t 1) (.agg 1))),(none,(.call (some 17) (.k (.func 14 [] [])) [(.t 16)] none))]) (.cond (.t 17) (.seq (.ops [(none,(.set 2 (.bool true)))]) .ret) .skip)) (.seq (.seq (.ops [(none,(.set 3 (.int .i64 0)))]) (.block 0 (.loop (.seq (.seq (.ops [(none,(.cp 18 3)),(none,(.fa (some 19) (.t 1) 0)),(none,(.ld (some 20) (.t 19) (.one (some 1)))),(none,(.len (some 21) (.t 20) false true)),(none,(.bin (some 22) .lss (.t 18) (.t 21) false false)),(none,(.cp 23 22)),((some (23,true)),(.cp 24 3)),((some (23,true)),(.bin (some 25) .lss (.t 24) (.k (.int .i64 6)) false false)),(none,(.pick (some 26) (.t 23) (.t 25) (.k (.bool false))))]) (.cond (.t 26) .skip (.exit 0))) (.seq (.block 1 (.seq (.ops [(none,(.fa (some 29) (.t 1) 0)),(none,(.ld (some 30) (.t 29) (.one (some 1)))),(none,(.cp 31 3)),(none,(.ia (some 32) (.t 30) (.t 31) (some 1) none)),(none,(.ld (some 33) (.t 32) (.one none))),(none,(.mv 4 33))]) (.seq (.ops [(none,(.cp 34 4)),(none,(.bs 35 1 [(.t 34)])),(none,(.mv 5 35))]) (.seq (.seq (.ops [(none,(.set 6 (.int .i64 0)))]) (.block 2 (.loop (.seq (.seq (.ops [(none,(.cp 36 6)),(none,(.bin (some 37) .lss (.t 36) (.k (.int .i64 6)) false false)),(none,(.cp 38 37)),((some (38,true)),(.cp 39 4)),((some (38,true)),(.len (some 40) (.t 39) true false)),((some (38,true)),(.bin (some 41) .gtr (.t 40) (.k (.int .i64 0)) false false)),(none,(.pick (some 42) (.t 38) (.t 41) (.k (.bool false))))]) (.cond (.t 42) .skip (.exit 2))) (.seq (.block 3 (.seq (.ops [(none,(.cp 45 6)),(none,(.bin (some 46) .mul (.t 45) (.k (.int .i64 37)) false false)),(none,(.cp 47 4)),(none,(.len (some 48) (.t 47) true false)),(none,(.bin (some 49) .add (.t 46) (.t 48) false false)),(none,(.cp 50 4)),(none,(.len (some 51) (.t 50) true false)),(none,(.call (some 52) (.k (.func 15 [] [])) [(.t 49),(.t 51)] none)),(none,(.mv 7 52))]) (.seq (.ops [(none,(.cp 53 4)),(none,(.x (some 54) .sb [(.t 53)])),(none,(.mv 8 54))]) (.seq (.ops [(none,(.cp 55 8)),(none,(.cp 56 7)),(none,(.cp 57 6)),(none,(.idx (some 58) (.k (.str [97,40,88,41,44,46,59])) (.t 57) true none)),(none,(.ia (some 59) (.t 55) (.t 56) (some 1) none)),(none,(.st (.t 59) (.t 58) 1))]) (.opsD [(none,(.mv 60 5)),(none,(.cp 61 4)),(none,(.cp 62 7)),(none,(.sl (some 63) (.t 61) none (some (.t 62)) none true none)),(none,(.cp 64 8)),(none,(.x (some 65) .bs [(.t 64)])),(none,(.bs 66 1 [(.t 63),(.t 65)])),(none,(.app 67 (.t 60) (.t 66) 1 16 true true)),(none,(.mv 5 67))]))))) (.ops [(none,(.cp 43 6)),(none,(.bin (some 44) .add (.t 43) (.k (.int .i64 1)) false false)),(none,(.mv 6 44))])))))) (.seq (.ops [(none,(.set 9 (.int .i64 0)))]) (.block 4 (.loop (.seq (.seq (.ops [(none,(.cp 68 9)),(none,(.cp 69 5)),(none,(.len (some 70) (.t 69) false true)),(none,(.bin (some 71) .lss (.t 68) (.t 70) false false))]) (.cond (.t 71) .skip (.exit 4))) (.seq (.block 5 (.seq (.ops [(none,(.cp 75 5)),(none,(.cp 76 9)),(none,(.ia (some 77) (.t 75) (.t 76) (some 1) none)),(none,(.ld (some 78) (.t 77) (.one none))),(none,(.call (some 79) (.k (.func 16 [] [])) [(.t 78)] none)),(none,(.cp 74 79)),(none,(.ext (some 80) (.t 74) 0)),(none,(.ext (some 81) (.t 74) 1)),(none,(.ext (some 82) (.t 74) 2)),(none,(.alloc 10 [(.sl .full 6 []),(.sl .full 16 [])])),(none,(.st (.t 10) (.t 80) 2)),(none,(.mv 11 81)),(none,(.mv 12 82))]) (.seq (.ops [(none,(.cp 84 5)),(none,(.cp 85 9)),(none,(.ia (some 86) (.t 84) (.t 85) (some 1) none)),(none,(.ld (some 87) (.t 86) (.one none))),(none,(.call (some 88) (.k (.func 17 [] [])) [(.t 87)] none)),(none,(.cp 83 88)),(none,(.ext (some 89) (.t 83) 0)),(none,(.ext (some 90) (.t 83) 1)),(none,(.ext (some 91) (.t 83) 2)),(none,(.alloc 13 [(.sl .full 6 []),(.sl .full 16 [])])),(none,(.st (.t 13) (.t 89) 2)),(none,(.mv 14 90)),(none,(.mv 15 91))]) (.seq (.ops [(none,(.cp 92 12)),(none,(.call (some 93) (.k (.func 18 [] [])) [(.t 92)] none)),(none,(.cp 94 15)),(none,(.bin (some 95) .neq (.t 93) (.t 94) false false)),(none,(.cp 96 95)),((some (96,false)),(.cp 97 11)),((some (96,false)),(.cp 98 14)),((some (96,false)),(.bin (some 99) .neq (.t 97) (.t 98) false false)),(none,(.pick (some 100) (.t 96) (.k (.bool true)) (.t 99))),(none,(.cp 101 100)),((some (101,false)),(.ld (some 102) (.t 10) (.agg 2))),((some (101,false)),(.ld (some 103) (.t 13) (.agg 2))),((some (101,false)),(.call (some 104) (.k (.func 19 [] [])) [(.t 102),(.t 103)] none)),((some (101,false)),(.un (some 105) .not (.t 104))),(none,(.pick (some 106) (.t 101) (.k (.bool true)) (.t 105)))]) (.cond (.t 106) (.seq (.ops [(none,(.set 2 (.bool false)))]) .ret) .skip))))) (.ops [(none,(.cp 72 9)),(none,(.bin (some 73) .add (.t 72) (.k (.int .i64 1)) false false)),(none,(.mv 9 73))])))))))))) (.ops [(none,(.cp 27 3)),(none,(.bin (some 28) .add (.t 27) (.k (.int .i64 1)) false false)),(none,(.mv 3 28))])))))) (.seq (.ops [(none,(.call (some 107) (.k (.func 20 [] [])) [] none)),(none,(.mv 2 107))]) .ret))))))):=by kernel_rfl
theorem c15:compF Tryz.prog ow Tryz.f15=(some (11,([(.t 4)],(.seq (.ops [(none,(.set 4 (.int .i64 0)))]) (.seq (.ops [(none,(.cp 5 0)),(none,(.cvt (some 6) (.t 5) (some .u64) false false)),(none,(.cp 7 1)),(none,(.cvt (some 8) (.t 7) (some .u64) false false)),(none,(.bin (some 9) .rem (.t 6) (.t 8) false false)),(none,(.cvt (some 10) (.t 9) (some .i64) false false)),(none,(.mv 4 10))]) .ret))))):=by kernel_rfl
theorem both_pr (x:List UInt8) (hx:x.length<1000000000000000): ∃(c:List Cl) (r:List Ru) (p:Nat) (e:Int),
  PFn Tryz.prog 16 [.str x] (.tup [.agg [.sl (flC c) 6 (c.map Cl.avf), .sl (flR r) 16 (r.map Ru.avf)], .int .i64 (p:Nat), .int .i64 e])∧
  PFn Tryz.prog 17 [.str x] (.tup [.agg [.sl (flC c) 6 (c.map Cl.avf), .sl (flR r) 16 (r.map Ru.avf)], .int .i64 (p:Nat), .int .i64 e])∧
  PFn Tryz.prog 19 [.agg [.sl (flC c) 6 (c.map Cl.avf), .sl (flR r) 16 (r.map Ru.avf)], .agg [.sl (flC c) 6 (c.map Cl.avf), .sl (flR r) 16 (r.map Ru.avf)]] (.bool true):=by
 refine ⟨(rdP x).1.c,(rdP x).1.r,(rdP x).2.1,(rdP x).2.2,fnl_readProgram x hx, ?_,fef_program (rdP x).1⟩
 have:=fnr_readProgram x hx
 rw [←rdP_F] at this
 exact this
theorem wrapu (x:Int) (h0:0≤x) (h1:x<18446744073709551616):IntKind.u64.wrap x=x:=by
 rw [IntKind.wrap_u64];omega
theorem fn_Within (a b:Nat) (ha:a<4611686018427387904) (hb0:0<b) (hb:b<4611686018427387904):PFn Tryz.prog 15 [.int .i64 (a:Nat), .int .i64 (b:Nat)] (.int .i64 ((a % b:Nat):Int)):=by
 intro h
 refine fnC mixed Tryz.func15 c15 (by simp) ?_
 have e1:IntKind.u64.wrap (a:Int)=a:=wrapu _ (by omega) (by omega)
 have e2:IntKind.u64.wrap (b:Int)=b:=wrapu _ (by omega) (by omega)
 have e3:(a:Int).tmod (b:Int)=((a % b:Nat):Int):=by
  rw [Int.tmod_eq_emod_of_nonneg (by omega)];omega
 have hlt:a % b<b:=Nat.mod_lt _ hb0
 have e4:IntKind.i64.wrap ((a % b:Nat):Int)=((a % b:Nat):Int):=by rw [wrap64]<;>omega
 have hne: ¬(b:Int)=0:=by omega
 simp only [go_sem,seval,e1,e2,e3,e4,hne]
 done
theorem bytesOf_str: ∀l:List UInt8,bytesOf (l.map fun b=>AV.int .u8 (b.toNat:Int))=some l
 | []=>rfl
 |b::l=>by simp [bytesOf,bytesOf_str l]
set_option maxHeartbeats 4000000 in
theorem fn5_ReadPrograms (xs:List (List UInt8)) (hl:xs.length<1000000000000000) (hs: ∀x∈xs,x.length≤140737488351232):PFn Tryz.prog 3 [.agg [.sl .sh 1 (xs.map AV.str)]] (.bool true):=by
 intro h
 have hT:=fn4_Heavy xs hl hs
 refine fnC mixed Tryz.func3 c3 (by simp) ?_
 simp only [go_sem,seval]
 refine pcall hT (by simp only [go_sem,seval]) ?_
 by_cases hv:txtF xs.length xs>9000
 ·have hv' :decide (txtF xs.length xs>9000)=true:=decide_eq_true hv
  simp only [go_sem,seval,hv']
 have hv' :decide (txtF xs.length xs>9000)=false:=decide_eq_false hv
 have hsm:=txtF_each xs xs.length (by omega)
 generalize txtF xs.length xs=N at *
 simp only [go_sem,seval,hv']
 refine cloop (fun k t=> ∃i:Nat,i+k=xs.length∧t.fr 1= .ptr h.n 0∧t.fr 3= .int .i64 (i:Nat)∧h.n+1≤t.hp.n∧t.hp.bk h.n= .cells [.sl .sh 1 (xs.map AV.str)]∧ ∀q,q<h.n→t.hp.bk q=h.bk q) xs.length ⟨0,by omega,by simp [fr_apply],by simp [fr_apply],Nat.le_refl _,by simp [bk_apply],fun q hq=>by simp [bk_apply,show q≠h.n by omega]⟩ ?_
 rintro k ⟨F,hp⟩ ⟨i,hk,f1,f3,hn,hb,ho⟩
 simp only at f1 f3 hn hb ho
 by_cases hi:i<xs.length
 ·have hi' :decide ((i:Int)<(xs.length:Int))=true:=decide_eq_true (by omega)
  by_cases h8:i<6
  ·have h8' :decide ((i:Int)<6)=true:=decide_eq_true (by omega)
   have hw:IntKind.i64.wrap ((i:Int)+1)=((i+1:Nat):Int):=by rw [wrap64]<;>omega
   have hx:(xs.map AV.str)[i]? =some (.str xs[i]):=by rw [List.getElem?_map,List.getElem?_eq_getElem hi];rfl
   have hxl:=hsm xs[i] (List.getElem_mem _)
   generalize xs[i]=x at hx hxl
   have hx9:x.length≤9000:=by omega
   simp only [go_sem,seval,f1,f3,hi',h8',hx,hb]
   refine cloop (fun m t=> ∃(j:Nat) (L:List (List UInt8)),j+m=6∧L.length≤1+2 * j∧(∀y∈L,y.length≤9000)∧t.fr 1= .ptr h.n 0∧t.fr 3= .int .i64 (i:Nat)∧t.fr 4= .str x∧t.fr 5= .sl .own 1 (L.map AV.str)∧t.fr 6= .int .i64 (j:Nat)∧h.n+1≤t.hp.n∧t.hp.bk h.n= .cells [.sl .sh 1 (xs.map AV.str)]∧ ∀q,q<h.n→t.hp.bk q=h.bk q) 6
    ⟨0, [x],by omega,by simp,by simp [hx9],by simp [fr_apply,f1],by simp [fr_apply,f3],by simp [fr_apply],by simp [fr_apply],by simp [fr_apply],hn,hb,ho⟩ ?_
   clear f1 f3 hn hb ho F hp
   rintro m ⟨F,hp⟩ ⟨j,L,hm,hLn,hL,f1,f3,f4,f5,f6,hn,hb,ho⟩
   simp only at f1 f3 f4 f5 f6 hn hb ho
   by_cases hj:j<6
   ·have hj' :decide ((j:Int)<6)=true:=decide_eq_true (by omega)
    by_cases h0:0<x.length
    ·have h0' :decide ((x.length:Int)>0)=true:=decide_eq_true (by omega)
     have hwj:IntKind.i64.wrap ((j:Int)+1)=((j+1:Nat):Int):=by rw [wrap64]<;>omega
     have hw1:IntKind.i64.wrap ((j:Int) * 37)=((j * 37:Nat):Int):=by rw [wrap64]<;>omega
     have hw2:IntKind.i64.wrap (((j * 37:Nat):Int)+(x.length:Int))=((j * 37+x.length:Nat):Int):=by rw [wrap64]<;>omega
     have hslen:x.length≤9223372036854775807:=by omega
     have hW:=fn_Within (j * 37+x.length) x.length (by omega) h0 (by omega)
     simp only [go_sem,seval,f1,f3,f4,f5,f6,hj',h0',hw1,hw2,hslen]
     refine pcall hW (by simp only [go_sem,seval]) ?_
     have hat:(j * 37+x.length) % x.length<x.length:=Nat.mod_lt _ h0
     generalize (j * 37+x.length) % x.length=at0 at *
     have hat' :(at0:Int)<(x.length:Int):=by omega
     have hat1:at0+1≤x.length:=by omega
     have hat2:at0≤x.length:=by omega
     obtain ⟨c,hc⟩: ∃c,([97,40,88,41,44,46,59]:List UInt8)[j]? =some c:=⟨_,List.getElem?_eq_getElem (by simp;omega)⟩
     have hset:(x.map fun b=>AV.int .u8 (b.toNat:Int)).set at0 (.int .u8 (c.toNat:Int))=(x.set at0 c).map fun b=>AV.int .u8 (b.toNat:Int):=by rw [List.map_set]
     have htk:((x.set at0 c).map fun b=>AV.int .u8 (b.toNat:Int)).take x.length=(x.set at0 c).map fun b=>AV.int .u8 (b.toNat:Int):=List.take_of_length_le (by simp)
     have hby:=bytesOf_str (x.set at0 c)
     have hA:(L.length+2) * 16≤140737488355328:=by omega
     have hA2:L.length+2≤9223372036854775807:=by omega
     have hA3:L.length≤9223372036854775805:=by omega
     simp only [go_sem,seval,f1,f3,f4,f5,f6,hslen,hat',hat1,hat2,hc,hset,htk,hby,List.length_set,hA,hA2,hA3,hwj]
     exact ⟨m-1,by omega,j+1,L++ [x.take at0,x.set at0 c],by omega,by simp;omega,fun y hy=>by
      rcases List.mem_append.1 hy with hy|hy
      ·exact hL y hy
      ·simp only [List.mem_cons,List.not_mem_nil,or_false] at hy
       rcases hy with rfl|rfl
       ·rw [List.length_take];omega
       ·rw [List.length_set];exact hx9,by simp,rfl,by omega,by simp [show h.n≠hp.n by omega,hb],fun q hq=>by simp [show q≠hp.n by omega];exact ho q hq⟩
    ·have h0' :decide ((x.length:Int)>0)=false:=decide_eq_false (by omega)
     simp only [go_sem,seval,f1,f3,f4,f5,f6,hj',h0']
     have hL13:L.length≤13:=by omega
     refine cloop (fun m t=> ∃(j:Nat),j+m=L.length∧t.fr 1= .ptr h.n 0∧t.fr 3= .int .i64 (i:Nat)∧t.fr 5= .sl .own 1 (L.map AV.str)∧t.fr 9= .int .i64 (j:Nat)∧h.n+1≤t.hp.n∧t.hp.bk h.n= .cells [.sl .sh 1 (xs.map AV.str)]∧ ∀q,q<h.n→t.hp.bk q=h.bk q) L.length
      ⟨0,by omega,by simp [fr_apply,f1],by simp [fr_apply,f3],by simp [fr_apply,f5],by simp [fr_apply],hn,hb,ho⟩ ?_
     clear f1 f3 f4 f5 f6 hn hb ho F hp hm
     rintro m ⟨F,hp⟩ ⟨j2,hm,f1,f3,f5,f9,hn,hb,ho⟩
     simp only at f1 f3 f5 f9 hn hb ho
     by_cases hj2:j2<L.length
     ·have hj2' :decide ((j2:Int)<(L.length:Int))=true:=decide_eq_true (by omega)
      have hwj2:IntKind.i64.wrap ((j2:Int)+1)=((j2+1:Nat):Int):=by rw [wrap64]<;>omega
      have hy:(L.map AV.str)[j2]? =some (.str L[j2]):=by rw [List.getElem?_map,List.getElem?_eq_getElem hj2];rfl
      have hyl:=hL L[j2] (List.getElem_mem _)
      generalize L[j2]=y at hy hyl
      obtain ⟨c,r,p,e,hA,hB,hE⟩:=both_pr y (by omega)
      have hN:=fn5_num e
      have q0: ¬h.n=hp.n:=by omega
      have q1: ¬hp.n=h.n:=by omega
      have q2: ¬h.n=hp.n+1:=by omega
      have q3: ¬hp.n+1=h.n:=by omega
      have q4: ¬hp.n=hp.n+1:=by omega
      have q5: ¬hp.n+1=hp.n:=by omega
      simp only [go_sem,seval,f1,f3,f5,f9,hj2',hy]
      refine pcall hA (by simp only [go_sem,seval]) ?_
      simp only [go_sem,seval,f1,f3,f5,f9,hy,q0,q1]
      refine pcall hB (by simp only [go_sem,seval]) ?_
      simp only [go_sem,seval,f1,f3,f5,f9,hy,q0,q1,q2,q3,q4,q5]
      refine pcall hN (by simp only [go_sem,seval]) ?_
      simp only [go_sem,seval,f1,f3,f5,f9,q0,q1,q2,q3,q4,q5]
      refine pcall hE (by simp only [go_sem,seval]) ?_
      simp only [go_sem,seval,f1,f3,f5,f9,hwj2]
      exact ⟨m-1,by omega,j2+1,by omega,rfl,by omega,by simp [q0,q2,hb],fun q hq=>by simp [show q≠hp.n by omega,show q≠hp.n+1 by omega];exact ho q hq⟩
     ·have hj2' :decide ((j2:Int)<(L.length:Int))=false:=decide_eq_false (by omega)
      simp only [go_sem,seval,f1,f3,f5,f9,hj2',hw]
      exact ⟨k-1,by omega,i+1,by omega,rfl,by omega,hb,ho⟩
   ·have hj' :decide ((j:Int)<6)=false:=decide_eq_false (by omega)
    simp only [go_sem,seval,f1,f3,f4,f5,f6,hj']
    have hL13:L.length≤13:=by omega
    refine cloop (fun m t=> ∃(j:Nat),j+m=L.length∧t.fr 1= .ptr h.n 0∧t.fr 3= .int .i64 (i:Nat)∧t.fr 5= .sl .own 1 (L.map AV.str)∧t.fr 9= .int .i64 (j:Nat)∧h.n+1≤t.hp.n∧t.hp.bk h.n= .cells [.sl .sh 1 (xs.map AV.str)]∧ ∀q,q<h.n→t.hp.bk q=h.bk q) L.length
     ⟨0,by omega,by simp [fr_apply,f1],by simp [fr_apply,f3],by simp [fr_apply,f5],by simp [fr_apply],hn,hb,ho⟩ ?_
    clear f1 f3 f4 f5 f6 hn hb ho F hp hm
    rintro m ⟨F,hp⟩ ⟨j2,hm,f1,f3,f5,f9,hn,hb,ho⟩
    simp only at f1 f3 f5 f9 hn hb ho
    by_cases hj2:j2<L.length
    ·have hj2' :decide ((j2:Int)<(L.length:Int))=true:=decide_eq_true (by omega)
     have hwj2:IntKind.i64.wrap ((j2:Int)+1)=((j2+1:Nat):Int):=by rw [wrap64]<;>omega
     have hy:(L.map AV.str)[j2]? =some (.str L[j2]):=by rw [List.getElem?_map,List.getElem?_eq_getElem hj2];rfl
     have hyl:=hL L[j2] (List.getElem_mem _)
     generalize L[j2]=y at hy hyl
     obtain ⟨c,r,p,e,hA,hB,hE⟩:=both_pr y (by omega)
     have hN:=fn5_num e
     have q0: ¬h.n=hp.n:=by omega
     have q1: ¬hp.n=h.n:=by omega
     have q2: ¬h.n=hp.n+1:=by omega
     have q3: ¬hp.n+1=h.n:=by omega
     have q4: ¬hp.n=hp.n+1:=by omega
     have q5: ¬hp.n+1=hp.n:=by omega
     simp only [go_sem,seval,f1,f3,f5,f9,hj2',hy]
     refine pcall hA (by simp only [go_sem,seval]) ?_
     simp only [go_sem,seval,f1,f3,f5,f9,hy,q0,q1]
     refine pcall hB (by simp only [go_sem,seval]) ?_
     simp only [go_sem,seval,f1,f3,f5,f9,hy,q0,q1,q2,q3,q4,q5]
     refine pcall hN (by simp only [go_sem,seval]) ?_
     simp only [go_sem,seval,f1,f3,f5,f9,q0,q1,q2,q3,q4,q5]
     refine pcall hE (by simp only [go_sem,seval]) ?_
     simp only [go_sem,seval,f1,f3,f5,f9,hwj2]
     exact ⟨m-1,by omega,j2+1,by omega,rfl,by omega,by simp [q0,q2,hb],fun q hq=>by simp [show q≠hp.n by omega,show q≠hp.n+1 by omega];exact ho q hq⟩
    ·have hj2' :decide ((j2:Int)<(L.length:Int))=false:=decide_eq_false (by omega)
     simp only [go_sem,seval,f1,f3,f5,f9,hj2',hw]
     exact ⟨k-1,by omega,i+1,by omega,rfl,by omega,hb,ho⟩
  ·have h8' :decide ((i:Int)<6)=false:=decide_eq_false (by omega)
   simp only [go_sem,seval,f1,f3,hi',h8',hb]
   refine pcall fn5_wakes (by simp only [go_sem,seval]) ?_
   simp only [go_sem,seval]
   exact shrink_old (by omega) ho
 ·have hi' :decide ((i:Int)<(xs.length:Int))=false:=decide_eq_false (by omega)
  simp only [go_sem,seval,f1,f3,hi',hb]
  refine pcall fn5_wakes (by simp only [go_sem,seval]) ?_
  simp only [go_sem,seval]
  exact shrink_old (by omega) ho
end Go.Proofs.YtnibelnjflhkgaaGreatDoor.Ab

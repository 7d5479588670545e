/- Names and terms that may be, the document's way; a term's bytes, the document's way. Whether a term may be, the document's way. -/
import Derived.Test.YtnibelnjflhkgaaGreatDoorRmA
namespace Go.Proofs.YtnibelnjflhkgaaGreatDoor.Ab
set_option linter.unusedVariables false
set_option linter.unusedSimpArgs false
set_option maxRecDepth 10000
theorem c239:compF Tryz.prog ow Tryz.f239=(some (41,([(.t 2)],(.seq (.ops [(none,(.set 2 (.bool false)))]) (.seq (.seq (.ops [(none,(.set 3 (.int .i64 0)))]) (.block 0 (.loop (.seq (.seq (.ops [(none,(.cp 5 3)),(none,(.cp 6 0)),(none,(.len (some 7) (.t 6) true false)),(none,(.bin (some 8) .lss (.t 5) (.t 7) false false))]) (.cond (.t 8) .skip (.exit 0))) (.seq (.block 1 (.seq (.ops [(none,(.cp 11 0)),(none,(.cp 12 3)),(none,(.idx (some 13) (.t 11) (.t 12) true none)),(none,(.mv 4 13))]) (.seq (.ops [(none,(.cp 14 4)),(none,(.bin (some 15) .geq (.t 14) (.k (.int .u8 97)) false false)),(none,(.cp 16 15)),((some (16,true)),(.cp 17 4)),((some (16,true)),(.bin (some 18) .leq (.t 17) (.k (.int .u8 122)) false false)),(none,(.pick (some 19) (.t 16) (.t 18) (.k (.bool false)))),(none,(.cp 20 19)),((some (20,false)),(.cp 21 4)),((some (20,false)),(.bin (some 22) .geq (.t 21) (.k (.int .u8 65)) false false)),((some (20,false)),(.cp 23 22)),((some (23,true)),(.cp 24 4)),((some (23,true)),(.bin (some 25) .leq (.t 24) (.k (.int .u8 90)) false false)),((some (20,false)),(.pick (some 26) (.t 23) (.t 25) (.k (.bool false)))),(none,(.pick (some 27) (.t 20) (.k (.bool true)) (.t 26))),(none,(.cp 28 27)),((some (28,false)),(.cp 29 4)),((some (28,false)),(.bin (some 30) .geq (.t 29) (.k (.int .u8 48)) false false)),((some (28,false)),(.cp 31 30)),((some (31,true)),(.cp 32 4)),((some (31,true)),(.bin (some 33) .leq (.t 32) (.k (.int .u8 57)) false false)),((some (28,false)),(.pick (some 34) (.t 31) (.t 33) (.k (.bool false)))),(none,(.pick (some 35) (.t 28) (.k (.bool true)) (.t 34))),(none,(.cp 36 35)),((some (36,false)),(.cp 37 4)),((some (36,false)),(.bin (some 38) .eql (.t 37) (.k (.int .u8 95)) false false)),(none,(.pick (some 39) (.t 36) (.k (.bool true)) (.t 38))),(none,(.un (some 40) .not (.t 39)))]) (.cond (.t 40) (.seq (.ops [(none,(.set 2 (.bool false)))]) .ret) .skip)))) (.ops [(none,(.cp 9 3)),(none,(.bin (some 10) .add (.t 9) (.k (.int .i64 1)) false false)),(none,(.mv 3 10))])))))) (.seq (.ops [(none,(.set 2 (.bool true)))]) .ret)))))):=by kernel_rfl
theorem c225:compF Tryz.prog ow Tryz.f225=(some (29,([(.t 6)],(.seq (.ops [(none,(.set 6 (.bool false)))]) (.seq (.seq (.ops [(none,(.cp 7 0)),(none,(.len (some 8) (.t 7) true false)),(none,(.bin (some 9) .eql (.t 8) (.k (.int .i64 0)) false false)),(none,(.cp 10 9)),((some (10,false)),(.cp 11 0)),((some (10,false)),(.len (some 12) (.t 11) true false)),((some (10,false)),(.bin (some 13) .gtr (.t 12) (.k (.int .i64 16)) false false)),(none,(.pick (some 14) (.t 10) (.k (.bool true)) (.t 13))),(none,(.cp 15 14)),((some (15,false)),(.cp 16 0)),((some (15,false)),(.idx (some 17) (.t 16) (.k (.int .i64 0)) true none)),((some (15,false)),(.cp 18 1)),((some (15,false)),(.bin (some 19) .lss (.t 17) (.t 18) false false)),(none,(.pick (some 20) (.t 15) (.k (.bool true)) (.t 19))),(none,(.cp 21 20)),((some (21,false)),(.cp 22 0)),((some (21,false)),(.idx (some 23) (.t 22) (.k (.int .i64 0)) true none)),((some (21,false)),(.cp 24 2)),((some (21,false)),(.bin (some 25) .gtr (.t 23) (.t 24) false false)),(none,(.pick (some 26) (.t 21) (.k (.bool true)) (.t 25)))]) (.cond (.t 26) (.seq (.ops [(none,(.set 6 (.bool false)))]) .ret) .skip)) (.seq (.ops [(none,(.cp 27 0)),(none,(.call (some 28) (.k (.func 239 [] [])) [(.t 27)] none)),(none,(.mv 6 28))]) .ret)))))):=by kernel_rfl
theorem c198:compF Tryz.prog ow Tryz.f198=(some (5,([(.t 2)],(.seq (.ops [(none,(.set 2 (.bool false)))]) (.seq (.ops [(none,(.cp 3 0)),(none,(.call (some 4) (.k (.func 225 [] [])) [(.t 3),(.k (.int .u8 65)),(.k (.int .u8 90))] none)),(none,(.mv 2 4))]) .ret))))):=by kernel_rfl
theorem c199:compF Tryz.prog ow Tryz.f199=(some (5,([(.t 2)],(.seq (.ops [(none,(.set 2 (.bool false)))]) (.seq (.ops [(none,(.cp 3 0)),(none,(.call (some 4) (.k (.func 225 [] [])) [(.t 3),(.k (.int .u8 97)),(.k (.int .u8 122))] none)),(none,(.mv 2 4))]) .ret))))):=by kernel_rfl
theorem fn_tail (s:List UInt8) (hl:s.length<1000000000000000):PFn Tryz.prog 239 [.str s] (.bool (s.all fun c=>innerB c.toNat)):=by
 intro h
 refine fnC mixed Tryz.func239 c239 (by simp) ?_
 simp only [go_sem,seval]
 refine cloop (fun k t=> ∃i,i+k=s.length∧t.fr 0= .str s∧t.fr 3= .int .i64 (i:Nat)∧((s.drop i).all fun c=>innerB c.toNat)=(s.all fun c=>innerB c.toNat)∧t.hp=h) s.length ⟨0,by simp [fr_apply,argsF]⟩ ?_
 rintro k ⟨g,hp⟩ ⟨i,hk,g0,g3,he,rfl⟩
 simp only at g0 g3
 simp only [go_sem,seval,g0,g3]
 refine cif (fun hb=> ?_) (fun hb=> ?_)
 ·have hi:i<s.length:=by simpa using hb
  rw [List.drop_eq_getElem_cons hi,List.all_cons] at he
  have hw:IntKind.i64.wrap ((i:Int)+1)=((i+1:Nat):Int):=by rw [wrap64]<;>omega
  generalize hC:s[i].toNat=c at he
  have hc:c<256:=by rw [←hC];exact s[i].toNat_lt
  have hcase:(97≤c∧c≤122)∨(65≤c∧c≤90)∨(48≤c∧c≤57)∨(95≤c∧c≤95)∨(0≤c∧c≤47)∨(58≤c∧c≤64)∨(91≤c∧c≤94)∨(96≤c∧c≤96)∨(123≤c∧c≤255):=by omega
  rcases hcase with hc|hc|hc|hc|hc|hc|hc|hc|hc
  ·have e1:decide ((c:Int)≥97)=true:=decide_eq_true (by omega)
   have e2:decide ((c:Int)≤122)=true:=decide_eq_true (by omega)
   have e3:decide ((c:Int)≥65)=true:=decide_eq_true (by omega)
   have e4:decide ((c:Int)≤90)=false:=decide_eq_false (by omega)
   have e5:decide ((c:Int)≥48)=true:=decide_eq_true (by omega)
   have e6:decide ((c:Int)≤57)=false:=decide_eq_false (by omega)
   have e7:((c:Int)==95)=false:=by simp;omega
   have ei:innerB (c:Int)=true:=by simp [innerB,betw];omega
   simp only [go_sem,seval,g0,g3,decide_true,List.getElem?_eq_getElem hi,hw,hC,e1,e2,e3,e4,e5,e6,e7]
   exact ⟨k-1,by omega,i+1,by omega,rfl,by rw [ei] at he;simpa using he⟩
  ·have e1:decide ((c:Int)≥97)=false:=decide_eq_false (by omega)
   have e2:decide ((c:Int)≤122)=true:=decide_eq_true (by omega)
   have e3:decide ((c:Int)≥65)=true:=decide_eq_true (by omega)
   have e4:decide ((c:Int)≤90)=true:=decide_eq_true (by omega)
   have e5:decide ((c:Int)≥48)=true:=decide_eq_true (by omega)
   have e6:decide ((c:Int)≤57)=false:=decide_eq_false (by omega)
   have e7:((c:Int)==95)=false:=by simp;omega
   have ei:innerB (c:Int)=true:=by simp [innerB,betw];omega
   simp only [go_sem,seval,g0,g3,decide_true,List.getElem?_eq_getElem hi,hw,hC,e1,e2,e3,e4,e5,e6,e7]
   exact ⟨k-1,by omega,i+1,by omega,rfl,by rw [ei] at he;simpa using he⟩
  ·have e1:decide ((c:Int)≥97)=false:=decide_eq_false (by omega)
   have e2:decide ((c:Int)≤122)=true:=decide_eq_true (by omega)
   have e3:decide ((c:Int)≥65)=false:=decide_eq_false (by omega)
   have e4:decide ((c:Int)≤90)=true:=decide_eq_true (by omega)
   have e5:decide ((c:Int)≥48)=true:=decide_eq_true (by omega)
   have e6:decide ((c:Int)≤57)=true:=decide_eq_true (by omega)
   have e7:((c:Int)==95)=false:=by simp;omega
   have ei:innerB (c:Int)=true:=by simp [innerB,betw];omega
   simp only [go_sem,seval,g0,g3,decide_true,List.getElem?_eq_getElem hi,hw,hC,e1,e2,e3,e4,e5,e6,e7]
   exact ⟨k-1,by omega,i+1,by omega,rfl,by rw [ei] at he;simpa using he⟩
  ·have e1:decide ((c:Int)≥97)=false:=decide_eq_false (by omega)
   have e2:decide ((c:Int)≤122)=true:=decide_eq_true (by omega)
   have e3:decide ((c:Int)≥65)=true:=decide_eq_true (by omega)
   have e4:decide ((c:Int)≤90)=false:=decide_eq_false (by omega)
   have e5:decide ((c:Int)≥48)=true:=decide_eq_true (by omega)
   have e6:decide ((c:Int)≤57)=false:=decide_eq_false (by omega)
   have e7:((c:Int)==95)=true:=by simp;omega
   have ei:innerB (c:Int)=true:=by simp [innerB,betw];omega
   simp only [go_sem,seval,g0,g3,decide_true,List.getElem?_eq_getElem hi,hw,hC,e1,e2,e3,e4,e5,e6,e7]
   exact ⟨k-1,by omega,i+1,by omega,rfl,by rw [ei] at he;simpa using he⟩
  ·have e1:decide ((c:Int)≥97)=false:=decide_eq_false (by omega)
   have e2:decide ((c:Int)≤122)=true:=decide_eq_true (by omega)
   have e3:decide ((c:Int)≥65)=false:=decide_eq_false (by omega)
   have e4:decide ((c:Int)≤90)=true:=decide_eq_true (by omega)
   have e5:decide ((c:Int)≥48)=false:=decide_eq_false (by omega)
   have e6:decide ((c:Int)≤57)=true:=decide_eq_true (by omega)
   have e7:((c:Int)==95)=false:=by simp;omega
   have ei:innerB (c:Int)=false:=by simp [innerB,betw];omega
   simp only [go_sem,seval,g0,g3,decide_true,List.getElem?_eq_getElem hi,hw,hC,e1,e2,e3,e4,e5,e6,e7]
   rw [←he,ei];rfl
  ·have e1:decide ((c:Int)≥97)=false:=decide_eq_false (by omega)
   have e2:decide ((c:Int)≤122)=true:=decide_eq_true (by omega)
   have e3:decide ((c:Int)≥65)=false:=decide_eq_false (by omega)
   have e4:decide ((c:Int)≤90)=true:=decide_eq_true (by omega)
   have e5:decide ((c:Int)≥48)=true:=decide_eq_true (by omega)
   have e6:decide ((c:Int)≤57)=false:=decide_eq_false (by omega)
   have e7:((c:Int)==95)=false:=by simp;omega
   have ei:innerB (c:Int)=false:=by simp [innerB,betw];omega
   simp only [go_sem,seval,g0,g3,decide_true,List.getElem?_eq_getElem hi,hw,hC,e1,e2,e3,e4,e5,e6,e7]
   rw [←he,ei];rfl
  iterate 2
   ·have e1:decide ((c:Int)≥97)=false:=decide_eq_false (by omega)
    have e2:decide ((c:Int)≤122)=true:=decide_eq_true (by omega)
    have e3:decide ((c:Int)≥65)=true:=decide_eq_true (by omega)
    have e4:decide ((c:Int)≤90)=false:=decide_eq_false (by omega)
    have e5:decide ((c:Int)≥48)=true:=decide_eq_true (by omega)
    have e6:decide ((c:Int)≤57)=false:=decide_eq_false (by omega)
    have e7:((c:Int)==95)=false:=by simp;omega
    have ei:innerB (c:Int)=false:=by simp [innerB,betw];omega
    simp only [go_sem,seval,g0,g3,decide_true,List.getElem?_eq_getElem hi,hw,hC,e1,e2,e3,e4,e5,e6,e7]
    rw [←he,ei];rfl
  ·have e1:decide ((c:Int)≥97)=true:=decide_eq_true (by omega)
   have e2:decide ((c:Int)≤122)=false:=decide_eq_false (by omega)
   have e3:decide ((c:Int)≥65)=true:=decide_eq_true (by omega)
   have e4:decide ((c:Int)≤90)=false:=decide_eq_false (by omega)
   have e5:decide ((c:Int)≥48)=true:=decide_eq_true (by omega)
   have e6:decide ((c:Int)≤57)=false:=decide_eq_false (by omega)
   have e7:((c:Int)==95)=false:=by simp;omega
   have ei:innerB (c:Int)=false:=by simp [innerB,betw];omega
   simp only [go_sem,seval,g0,g3,decide_true,List.getElem?_eq_getElem hi,hw,hC,e1,e2,e3,e4,e5,e6,e7]
   rw [←he,ei];rfl
 ·have hi:s.length≤i:=by simpa using hb
  simp only [go_sem,seval,g0,g3]
  rw [List.drop_eq_nil_of_le hi] at he
  rw [←he];rfl
end Go.Proofs.YtnibelnjflhkgaaGreatDoor.Ab
namespace Go.Proofs.YtnibelnjflhkgaaGreatDoor.Ab
set_option linter.unusedVariables false
set_option linter.unusedSimpArgs false
set_option maxRecDepth 10000
theorem c154:compF Tryz.prog ow Tryz.f154=(some (90,([(.t 4)],(.seq (.ops [(none,(.box 2 (.t 0))),(none,(.set 4 (.int .i64 0)))]) (.seq (.seq (.ops [(none,(.fa (some 7) (.t 2) 0)),(none,(.ld (some 8) (.t 7) (.one none)))]) (.block 0 (.seq (.ops [(none,(.bin (some 10) .eql (.t 8) (.k (.int .i64 1)) false false)),(none,(.mv 9 10))]) (.cond (.t 9) (.seq (.ops [(none,(.fa (some 11) (.t 2) 1)),(none,(.ld (some 12) (.t 11) (.one none))),(none,(.call (some 13) (.k (.func 198 [] [])) [(.t 12)] none)),(none,(.cp 14 13)),((some (14,true)),(.fa (some 15) (.t 2) 2)),((some (14,true)),(.ld (some 16) (.t 15) (.one none))),((some (14,true)),(.bin (some 17) .eql (.t 16) (.k (.int .i64 0)) false false)),(none,(.pick (some 18) (.t 14) (.t 17) (.k (.bool false)))),(none,(.cp 19 18)),((some (19,true)),(.fa (some 20) (.t 2) 3)),((some (19,true)),(.ld (some 21) (.t 20) (.one (some 4)))),((some (19,true)),(.len (some 22) (.t 21) false true)),((some (19,true)),(.bin (some 23) .eql (.t 22) (.k (.int .i64 0)) false false)),(none,(.pick (some 24) (.t 19) (.t 23) (.k (.bool false))))]) (.cond (.t 24) (.seq (.ops [(none,(.set 4 (.int .i64 1)))]) .ret) .skip)) (.seq (.ops [(none,(.bin (some 26) .eql (.t 8) (.k (.int .i64 2)) false false)),(none,(.mv 25 26))]) (.cond (.t 25) (.seq (.ops [(none,(.fa (some 27) (.t 2) 1)),(none,(.ld (some 28) (.t 27) (.one none))),(none,(.bin (some 29) .eql (.t 28) (.k (.str [])) false false)),(none,(.cp 30 29)),((some (30,true)),(.fa (some 31) (.t 2) 2)),((some (30,true)),(.ld (some 32) (.t 31) (.one none))),((some (30,true)),(.call (some 33) (.k (.func 134 [] [])) [(.t 32),(.k (.int .i64 (-1073741824))),(.k (.int .i64 1073741824))] none)),(none,(.pick (some 34) (.t 30) (.t 33) (.k (.bool false)))),(none,(.cp 35 34)),((some (35,true)),(.fa (some 36) (.t 2) 3)),((some (35,true)),(.ld (some 37) (.t 36) (.one (some 4)))),((some (35,true)),(.len (some 38) (.t 37) false true)),((some (35,true)),(.bin (some 39) .eql (.t 38) (.k (.int .i64 0)) false false)),(none,(.pick (some 40) (.t 35) (.t 39) (.k (.bool false))))]) (.cond (.t 40) (.seq (.ops [(none,(.set 4 (.int .i64 1)))]) .ret) .skip)) (.seq (.ops [(none,(.bin (some 42) .eql (.t 8) (.k (.int .i64 3)) false false)),(none,(.mv 41 42))]) (.cond (.t 41) (.seq (.seq (.ops [(none,(.fa (some 43) (.t 2) 1)),(none,(.ld (some 44) (.t 43) (.one none))),(none,(.call (some 45) (.k (.func 199 [] [])) [(.t 44)] none)),(none,(.un (some 46) .not (.t 45))),(none,(.cp 47 46)),((some (47,false)),(.fa (some 48) (.t 2) 2)),((some (47,false)),(.ld (some 49) (.t 48) (.one none))),((some (47,false)),(.bin (some 50) .neq (.t 49) (.k (.int .i64 0)) false false)),(none,(.pick (some 51) (.t 47) (.k (.bool true)) (.t 50))),(none,(.cp 52 51)),((some (52,false)),(.fa (some 53) (.t 2) 3)),((some (52,false)),(.ld (some 54) (.t 53) (.one (some 4)))),((some (52,false)),(.len (some 55) (.t 54) false true)),((some (52,false)),(.bin (some 56) .gtr (.t 55) (.k (.int .i64 4)) false false)),(none,(.pick (some 57) (.t 52) (.k (.bool true)) (.t 56))),(none,(.cp 58 57)),((some (58,false)),(.fa (some 59) (.t 2) 3)),((some (58,false)),(.ld (some 60) (.t 59) (.one (some 4)))),((some (58,false)),(.len (some 61) (.t 60) false true)),((some (58,false)),(.bin (some 62) .gtr (.t 61) (.k (.int .i64 0)) false false)),((some (58,false)),(.cp 63 62)),((some (63,true)),(.cp 64 1)),((some (63,true)),(.bin (some 65) .eql (.t 64) (.k (.int .i64 1)) false false)),((some (58,false)),(.pick (some 66) (.t 63) (.t 65) (.k (.bool false)))),(none,(.pick (some 67) (.t 58) (.k (.bool true)) (.t 66)))]) (.cond (.t 67) (.seq (.ops [(none,(.set 4 (.int .i64 25)))]) .ret) .skip)) (.seq (.ops [(none,(.set 5 (.int .i64 1)))]) (.seq (.seq (.ops [(none,(.set 6 (.int .i64 0)))]) (.block 1 (.loop (.seq (.seq (.ops [(none,(.cp 68 6)),(none,(.fa (some 69) (.t 2) 3)),(none,(.ld (some 70) (.t 69) (.one (some 4)))),(none,(.len (some 71) (.t 70) false true)),(none,(.bin (some 72) .lss (.t 68) (.t 71) false false)),(none,(.cp 73 72)),((some (73,true)),(.cp 74 5)),((some (73,true)),(.bin (some 75) .leq (.t 74) (.k (.int .i64 24)) false false)),(none,(.pick (some 76) (.t 73) (.t 75) (.k (.bool false))))]) (.cond (.t 76) .skip (.exit 1))) (.seq (.block 2 (.ops [(none,(.cp 79 5)),(none,(.fa (some 80) (.t 2) 3)),(none,(.ld (some 81) (.t 80) (.one (some 4)))),(none,(.cp 82 6)),(none,(.ia (some 83) (.t 81) (.t 82) (some 4) none)),(none,(.ld (some 84) (.t 83) (.agg 4))),(none,(.cp 85 1)),(none,(.bin (some 86) .sub (.t 85) (.k (.int .i64 1)) false false)),(none,(.call (some 87) (.k (.func 154 [] [])) [(.t 84),(.t 86)] none)),(none,(.bin (some 88) .add (.t 79) (.t 87) false false)),(none,(.mv 5 88))])) (.ops [(none,(.cp 77 6)),(none,(.bin (some 78) .add (.t 77) (.k (.int .i64 1)) false false)),(none,(.mv 6 78))])))))) (.seq (.ops [(none,(.mv 89 5)),(none,(.mv 4 89))]) .ret)))) .skip)))))))) (.seq (.ops [(none,(.set 4 (.int .i64 25)))]) .ret)))))):=by kernel_rfl
theorem c102:compF Tryz.prog ow Tryz.f102=(some (6,([(.t 2)],(.seq (.ops [(none,(.box 1 (.t 0))),(none,(.set 2 (.bool false)))]) (.seq (.ops [(none,(.ld (some 3) (.t 1) (.agg 4))),(none,(.call (some 4) (.k (.func 154 [] [])) [(.t 3),(.k (.int .i64 5))] none)),(none,(.bin (some 5) .leq (.t 4) (.k (.int .i64 24)) false false)),(none,(.mv 2 5))]) .ret))))):=by kernel_rfl
theorem fn_rword (lo hi:Int) (s:List UInt8) (hl:s.length<1000000000000000):PFn Tryz.prog 225 [.str s, .int .u8 lo, .int .u8 hi] (.bool (wordB (betw lo hi) s)):=by
 intro h
 refine fnC mixed Tryz.func225 c225 (by simp) ?_
 cases s with
 |nil=>
  simp only [go_sem,seval]
  rfl
 |cons c s' =>
  have e0:(c::s')[(0:Int).toNat]? =some c:=rfl
  generalize hs:c::s' =s at *
  have hne:((s.length:Int)==0)=false:=by rw [←hs];simp;omega
  have hne2:(s== [])=false:=by rw [←hs];rfl
  have hd:s.headD 0=c:=by rw [←hs];rfl
  have e00:s[0]? =some c:=e0
  by_cases h1:16<s.length
  ·have d1:decide ((s.length:Int)>16)=true:=decide_eq_true (by omega)
   simp only [go_sem,seval,hne,d1]
   simp [wordB,h1]
  ·have d1:decide ((s.length:Int)>16)=false:=decide_eq_false (by omega)
   by_cases h2:(c.toNat:Int)<lo
   ·have d2:decide ((c.toNat:Int)<lo)=true:=decide_eq_true h2
    simp only [go_sem,seval,hne,d1,d2,e00,Int.le_refl,decide_true]
    unfold wordB;rw [hd];simp [betw,show ¬lo≤(c.toNat:Int) by omega]
   ·have d2:decide ((c.toNat:Int)<lo)=false:=decide_eq_false h2
    by_cases h3:(c.toNat:Int)>hi
    ·have d3:decide ((c.toNat:Int)>hi)=true:=decide_eq_true h3
     simp only [go_sem,seval,hne,d1,d2,d3,e00,Int.le_refl,decide_true]
     unfold wordB;rw [hd];simp [betw,show ¬(c.toNat:Int)≤hi by omega]
    ·have d3:decide ((c.toNat:Int)>hi)=false:=decide_eq_false h3
     simp only [go_sem,seval,hne,d1,d2,d3,e00,Int.le_refl,decide_true]
     refine pcall (fn_tail s hl) (by simp only [go_sem,seval]) ?_
     simp only [go_sem,seval]
     unfold wordB;rw [hd,hne2];simp [betw,show lo≤(c.toNat:Int) by omega,show (c.toNat:Int)≤hi by omega,show s.length≤16 by omega]
theorem fn_rVar (s:List UInt8) (hl:s.length<1000000000000000):PFn Tryz.prog 198 [.str s] (.bool (varB s)):=by
 intro h
 refine fnC mixed Tryz.func198 c198 (by simp) ?_
 simp only [go_sem,seval]
 refine pcall (fn_rword 65 90 s hl) (by simp only [go_sem,seval]) ?_
 simp only [go_sem,seval]
 rfl
theorem fn_rName (s:List UInt8) (hl:s.length<1000000000000000):PFn Tryz.prog 199 [.str s] (.bool (nameB s)):=by
 intro h
 refine fnC mixed Tryz.func199 c199 (by simp) ?_
 simp only [go_sem,seval]
 refine pcall (fn_rword 97 122 s hl) (by simp only [go_sem,seval]) ?_
 simp only [go_sem,seval]
 rfl
mutual
def sizR:T→Nat→Int| .mk k n v l,d=>if k=1 then (if (varB n&&(v==0&&decide (l.length=0)))=true then 1 else 25)
 else if k=2 then (if (n== []&&(okN v&&decide (l.length=0)))=true then 1 else 25)
 else if k=3 then (if (nameB n&&(v==0&&(decide (l.length≤4)&& !(decide (0<l.length)&&decide (d=1)))))=true then sizRs l (d-1) 1 else 25) else 25
def sizRs:List T→Nat→Int→Int| [],d,m=>m|t::l,d,m=>if m≤24 then sizRs l d (m+sizR t d) else m
end
theorem sizR_le: ∀t:T, ∀d:Nat,1≤d→1≤sizR t d∧sizR t d≤25+25 * d:=by
 refine T.ind ?_
 intro k n v l ih d hd
 have hs: ∀(m:List T),(∀x∈m, ∀d:Nat,1≤d→1≤sizR x d∧sizR x d≤25+25 * d)→ ∀(d:Nat) (q:Int),1≤d→1≤q→q≤50+25 * d→1≤sizRs m d q∧sizRs m d q≤50+25 * d:=by
  intro m
  induction m with
  |nil=>intro _ d q h1 h2 h3;rw [sizRs];omega
  |cons t m ihm=>
   intro ih d q h1 h2 h3
   rw [sizRs]
   split
   ·have:=ih t (by simp) d h1
    exact ihm (fun x hx=>ih x (by simp [hx])) d _ h1 (by omega) (by omega)
   ·omega
 rw [sizR]
 repeat' split
 all_goals first
  |omega
  |(
    rename_i hc
    simp at hc
    cases l with
    |nil=>rw [sizRs];omega
    |cons x l=>
     have hd1:d≠1:=fun e=>by simp [e] at hc
     have:=hs (x::l) ih (d-1) 1 (by omega) (by omega) (by omega)
     omega)
theorem sizRs_drop {l:List T} {i:Nat} (hi:i<l.length) (d:Nat) (m:Int):sizRs (l.drop i) d m=if m≤24 then sizRs (l.drop (i+1)) d (m+sizR l[i] d) else m:=by
 rw [List.drop_eq_getElem_cons hi,sizRs]
theorem fn_size: ∀t:T,t.ok→ ∀d:Nat,1≤d→d<1000→PFn Tryz.prog 154 [t.av, .int .i64 (d:Nat)] (.int .i64 (sizR t d)):=by
 refine T.ind ?_
 intro k n v l ih hok d hd hd2 h
 rw [ok_mk] at hok
 rw [av_mk,sizR]
 have hnl:n.length<1000000000000000:=hok.2.1
 refine fnC mixed Tryz.func154 c154 (by simp) ?_
 by_cases k1:k=1
 ·subst k1
  rw [if_pos rfl]
  simp only [go_sem,seval]
  refine pcall (fn_rVar n hnl) (by simp only [go_sem,seval]) ?_
  simp only [go_sem,seval]
  cases hv:varB n with
  |false=>simp only [go_sem,seval,hv]
  |true=>
   cases hz:(v==0) with
   |false=>simp only [go_sem,seval,hv,hz]
   |true=>
    cases hl0:decide (l.length=0) with
    |false=>simp only [go_sem,seval,hv,hz,len0,hl0]
    |true=>simp only [go_sem,seval,hv,hz,len0,hl0]
 have k1b:(k==1)=false:=by simpa using k1
 rw [if_neg k1]
 by_cases k2:k=2
 ·subst k2
  rw [if_pos rfl]
  cases hn0:(n== []) with
  |false=>simp only [go_sem,seval,k1b,hn0]
  |true=>
   simp only [go_sem,seval,k1b,hn0]
   refine pcall (fn_Between v (-1073741824) 1073741824) (by simp only [go_sem,seval]) ?_
   cases hv:okN v with
   |false=>
    unfold okN at hv
    simp only [go_sem,seval,hv]
   |true=>
    unfold okN at hv
    cases hl0:decide (l.length=0) with
    |false=>simp only [go_sem,seval,hv,len0,hl0]
    |true=>simp only [go_sem,seval,hv,len0,hl0]
 have k2b:(k==2)=false:=by simpa using k2
 rw [if_neg k2]
 by_cases k3:k=3
 ·subst k3
  rw [if_pos rfl]
  simp only [go_sem,seval,k1b,k2b]
  refine pcall (fn_rName n hnl) (by simp only [go_sem,seval]) ?_
  cases hv:nameB n with
  |false=>simp only [go_sem,seval,hv]
  |true=>
   cases hz:(v==0) with
   |false=>
    have hz' :(v !=0)=true:=by simpa using hz
    simp only [go_sem,seval,hv,hz,hz']
   |true=>
    have hz' :(v !=0)=false:=by simpa using hz
    by_cases h4:l.length≤4
    ·have d4:decide ((l.length:Int)>4)=false:=decide_eq_false (by omega)
     have d4' :decide (l.length≤4)=true:=decide_eq_true h4
     by_cases h0:0<l.length
     ·have d0:decide ((l.length:Int)>0)=true:=decide_eq_true (by omega)
      have d0' :decide (0<l.length)=true:=decide_eq_true h0
      by_cases h1:d=1
      ·have d1:(((d:Nat):Int)==1)=true:=by rw [h1];rfl
       have d1' :decide (d=1)=true:=decide_eq_true h1
       simp only [go_sem,seval,hv,hz,hz',d4,d4',d0,d0',d1,d1']
      ·have d1:(((d:Nat):Int)==1)=false:=by simp;omega
       have d1' :decide (d=1)=false:=decide_eq_false h1
       have hd1:0<l.length→d≠1:=fun _=>h1
       rw [if_pos (show (true&&(true&&(decide (l.length≤4)&& !(decide (0<l.length)&&decide (d=1)))))=true by rw [d4',d0',d1'];rfl)]
       simp only [go_sem,seval,hv,hz,hz',d4,d0,d1]
       have hwd:IntKind.i64.wrap ((d:Int)-1)=((d-1:Nat):Int):=by rw [wrap64]<;>omega
       refine cloop (fun k' t=> ∃(i:Nat) (q:Int),i+k' =l.length∧1≤q∧q≤50+25 * d∧t.fr 1= .int .i64 (d:Nat)∧t.fr 2= .ptr h.n 0∧t.fr 5= .int .i64 q∧t.fr 6= .int .i64 (i:Nat)∧sizRs (l.drop i) (d-1) q=sizRs l (d-1) 1∧
        t.hp=⟨h.n+1,updB h.bk h.n (.cells [.int .i64 3, .str n, .int .i64 v, .sl .sh 4 (l.map T.av)])⟩) l.length ⟨0,1,by simp [fr_apply,argsF];omega⟩ ?_
       rintro k' ⟨f,hp⟩ ⟨i,q,hk,hq1,hq2,f1,f2,f5,f6,he,rfl⟩
       simp only at f1 f2 f5 f6
       by_cases hi:i<l.length
       ·have hi' :decide ((i:Int)<(l.length:Int))=true:=decide_eq_true (by omega)
        rw [sizRs_drop hi] at he
        by_cases hq:q≤24
        ·have hq' :decide (q≤24)=true:=decide_eq_true hq
         rw [if_pos hq] at he
         have hb:=sizR_le l[i] (d-1) (by have:=hd1 (by omega);omega)
         have hw1:IntKind.i64.wrap ((i:Int)+1)=((i+1:Nat):Int):=by rw [wrap64]<;>omega
         have hw2:IntKind.i64.wrap (q+sizR l[i] (d-1))=q+sizR l[i] (d-1):=by rw [wrap64]<;>omega
         simp only [go_sem,seval,f1,f2,f5,f6,hi',hq',getAv hi,hwd]
         refine pcall (ih _ (List.getElem_mem hi) (hok.2.2 _ (List.getElem_mem hi)) (d-1) (by have:=hd1 (by omega);omega) (by omega)) (by simp only [go_sem,seval]) ?_
         simp only [go_sem,seval,f1,f2,f5,f6,hw1,hw2]
         exact ⟨k' -1,by omega,i+1,_,by omega,by omega,by omega,rfl,rfl,he⟩
        ·have hq' :decide (q≤24)=false:=decide_eq_false hq
         rw [if_neg hq] at he
         simp only [go_sem,seval,f1,f2,f5,f6,hi',hq']
         rw [←he]
       ·have hi' :decide ((i:Int)<(l.length:Int))=false:=decide_eq_false (by omega)
        rw [List.drop_eq_nil_of_le (by omega),sizRs] at he
        simp only [go_sem,seval,f1,f2,f5,f6,hi']
        rw [←he]
     ·have d0:decide ((l.length:Int)>0)=false:=decide_eq_false (by omega)
      have d0' :decide (0<l.length)=false:=decide_eq_false h0
      have hd1:0<l.length→d≠1:=fun e=>absurd e h0
      rw [if_pos (show (true&&(true&&(decide (l.length≤4)&& !(decide (0<l.length)&&decide (d=1)))))=true by rw [d4',d0'];rfl)]
      simp only [go_sem,seval,hv,hz,hz',d4,d0]
      have hwd:IntKind.i64.wrap ((d:Int)-1)=((d-1:Nat):Int):=by rw [wrap64]<;>omega
      refine cloop (fun k' t=> ∃(i:Nat) (q:Int),i+k' =l.length∧1≤q∧q≤50+25 * d∧t.fr 1= .int .i64 (d:Nat)∧t.fr 2= .ptr h.n 0∧t.fr 5= .int .i64 q∧t.fr 6= .int .i64 (i:Nat)∧sizRs (l.drop i) (d-1) q=sizRs l (d-1) 1∧
       t.hp=⟨h.n+1,updB h.bk h.n (.cells [.int .i64 3, .str n, .int .i64 v, .sl .sh 4 (l.map T.av)])⟩) l.length ⟨0,1,by simp [fr_apply,argsF];omega⟩ ?_
      rintro k' ⟨f,hp⟩ ⟨i,q,hk,hq1,hq2,f1,f2,f5,f6,he,rfl⟩
      simp only at f1 f2 f5 f6
      by_cases hi:i<l.length
      ·have hi' :decide ((i:Int)<(l.length:Int))=true:=decide_eq_true (by omega)
       rw [sizRs_drop hi] at he
       by_cases hq:q≤24
       ·have hq' :decide (q≤24)=true:=decide_eq_true hq
        rw [if_pos hq] at he
        have hb:=sizR_le l[i] (d-1) (by have:=hd1 (by omega);omega)
        have hw1:IntKind.i64.wrap ((i:Int)+1)=((i+1:Nat):Int):=by rw [wrap64]<;>omega
        have hw2:IntKind.i64.wrap (q+sizR l[i] (d-1))=q+sizR l[i] (d-1):=by rw [wrap64]<;>omega
        simp only [go_sem,seval,f1,f2,f5,f6,hi',hq',getAv hi,hwd]
        refine pcall (ih _ (List.getElem_mem hi) (hok.2.2 _ (List.getElem_mem hi)) (d-1) (by have:=hd1 (by omega);omega) (by omega)) (by simp only [go_sem,seval]) ?_
        simp only [go_sem,seval,f1,f2,f5,f6,hw1,hw2]
        exact ⟨k' -1,by omega,i+1,_,by omega,by omega,by omega,rfl,rfl,he⟩
       ·have hq' :decide (q≤24)=false:=decide_eq_false hq
        rw [if_neg hq] at he
        simp only [go_sem,seval,f1,f2,f5,f6,hi',hq']
        rw [←he]
      ·have hi' :decide ((i:Int)<(l.length:Int))=false:=decide_eq_false (by omega)
       rw [List.drop_eq_nil_of_le (by omega),sizRs] at he
       simp only [go_sem,seval,f1,f2,f5,f6,hi']
       rw [←he]
    ·have d4:decide ((l.length:Int)>4)=true:=decide_eq_true (by omega)
     have d4' :decide (l.length≤4)=false:=decide_eq_false h4
     simp only [go_sem,seval,hv,hz,hz',d4,d4']
 ·have k3b:(k==3)=false:=by simpa using k3
  rw [if_neg k3]
  simp only [go_sem,seval,k1b,k2b,k3b]
theorem sizRs_ge: ∀(m:List T) (d:Nat) (q:Int),(1≤d∨m= [])→q≤sizRs m d q
 | [],d,q,_=>by rw [sizRs];omega
 |t::m,d,q,hd=>by
  have h1:1≤d:=by rcases hd with h|h;exact h;cases h
  rw [sizRs]
  split
  ·have:=sizR_le t d h1
   have:=sizRs_ge m d (q+sizR t d) (.inl h1)
   omega
  ·omega
theorem sizR_may: ∀t:T, ∀(d:Nat) (left:Int),1≤d→0≤left→left≤24→((mayT t d left).1=true↔sizR t d≤left)∧((mayT t d left).1=true→(mayT t d left).2=left-sizR t d):=by
 refine T.ind ?_
 intro k n v l ih d left hd h0 h1
 have hs: ∀(m:List T),(∀x∈m, ∀(d:Nat) (left:Int),1≤d→0≤left→left≤24→((mayT x d left).1=true↔sizR x d≤left)∧((mayT x d left).1=true→(mayT x d left).2=left-sizR x d))→
   ∀(d:Nat) (q r:Int),(1≤d∨m= [])→1≤q→0≤r→q+r≤24→((mayTs m d r).1=true↔sizRs m d q≤q+r)∧((mayTs m d r).1=true→(mayTs m d r).2=q+r-sizRs m d q):=by
  intro m
  induction m with
  |nil=>intro _ d q r _ h1 h2 h3;simp only [mayTs,sizRs];exact ⟨⟨fun _=>by omega,fun _=>trivial⟩,fun _=>by omega⟩
  |cons t m ihm=>
   intro ih d q r hd h1 h2 h3
   have hd1:1≤d:=by rcases hd with h|h;exact h;cases h
   obtain ⟨a1,a2⟩:=ih t (by simp) d r hd1 h2 (by omega)
   have hb:=sizR_le t d hd1
   rw [mayTs,sizRs,if_pos (show q≤24 by omega)]
   by_cases c:(mayT t d r).1=true
   ·have c1:=a1.1 c
    rw [if_pos c,a2 c]
    obtain ⟨b1,b2⟩:=ihm (fun x hx=>ih x (by simp [hx])) d (q+sizR t d) (r-sizR t d) (.inl hd1) (by omega) (by omega) (by omega)
    rw [show q+sizR t d+(r-sizR t d)=q+r by omega] at b1 b2
    exact ⟨b1,b2⟩
   ·rw [if_neg c]
    have c1: ¬sizR t d≤r:=fun e=>c (a1.2 e)
    have:=sizRs_ge m d (q+sizR t d) (.inl hd1)
    exact ⟨⟨fun e=>(by cases e),fun e=>absurd e (by omega)⟩,fun e=>(by cases e)⟩
 have e25: ∀x:Int,((false,x).1=true↔(25:Int)≤left)∧((false,x).1=true→(false,x).2=left-25):=fun x=>⟨⟨fun e=>(by cases e),fun e=>absurd e (by omega)⟩,fun e=>(by cases e)⟩
 have hb:=sizR_le (.mk k n v l) d hd
 rw [mayT]
 by_cases hl:left-1<0
 ·rw [if_pos (.inr hl)]
  exact ⟨⟨fun e=>(by cases e),fun e=>absurd e (by omega)⟩,fun e=>(by cases e)⟩
 rw [if_neg (by omega),sizR]
 by_cases k1:k=1
 ·rw [if_pos k1,if_pos k1]
  cases hc:(varB n&&(v==0&&decide (l.length=0))) with
  |true=>rw [if_pos rfl];exact ⟨⟨fun _=>by omega,fun _=>rfl⟩,fun _=>rfl⟩
  |false=>rw [if_neg (by simp)];exact e25 _
 rw [if_neg k1,if_neg k1]
 by_cases k2:k=2
 ·rw [if_pos k2,if_pos k2]
  have hcc:(betw (-1073741824) 1073741824 v&&(n== []&&decide (l.length=0)))=(n== []&&(okN v&&decide (l.length=0))):=by
   unfold okN;cases betw (-1073741824) 1073741824 v<;>cases (n== [])<;>rfl
  rw [hcc]
  cases hc:(n== []&&(okN v&&decide (l.length=0))) with
  |true=>rw [if_pos rfl];exact ⟨⟨fun _=>by omega,fun _=>rfl⟩,fun _=>rfl⟩
  |false=>rw [if_neg (by simp)];exact e25 _
 rw [if_neg k2,if_neg k2]
 by_cases k3:k=3
 ·rw [if_pos k3,if_pos k3]
  by_cases hc:(nameB n&&(v==0&&decide (l.length≤4)))=true
  ·rw [if_pos hc]
   simp only [Bool.and_eq_true] at hc
   by_cases hz:0<l.length∧d=1
   ·rw [if_neg (by simp [hz])]
    obtain ⟨x,l,rfl⟩: ∃x l',l=x::l' :=by cases l with|nil=>simp at hz|cons x l=>exact ⟨x,l,rfl⟩
    have e:(mayTs (x::l) (d-1) (left-1)).1=false:=by
     rw [hz.2]
     obtain ⟨k',n',v',l'⟩:=x
     rw [mayTs]
     have:(mayT (.mk k' n' v' l') (1-1) (left-1)).1=false:=by rw [mayT,if_pos (.inl rfl)]
     rw [if_neg (by rw [this];simp)]
    rw [e]
    exact ⟨⟨fun e=>(by cases e),fun e=>absurd e (by omega)⟩,fun e=>(by cases e)⟩
   ·have hz' :(decide (0<l.length)&&decide (d=1))=false:=by
     cases h1:decide (0<l.length)<;>cases h2:decide (d=1)<;>simp_all
    rw [if_pos (by rw [hc.1,hc.2.1,hc.2.2,hz'];rfl)]
    have hdd:1≤d-1∨l= []:=by
     cases l with
     |nil=>exact .inr rfl
     |cons x l=>refine .inl ?_;simp at hz;omega
    have:=hs l ih (d-1) 1 (left-1) hdd (by omega) (by omega) (by omega)
    rwa [show (1:Int)+(left-1)=left by omega] at this
  ·rw [if_neg hc]
   have: ¬(nameB n&&(v==0&&(decide (l.length≤4)&& !(decide (0<l.length)&&decide (d=1)))))=true:=by
    intro e;apply hc;simp only [Bool.and_eq_true] at e ⊢;exact ⟨e.1,e.2.1,e.2.2.1⟩
   rw [if_neg this];exact e25 _
 ·rw [if_neg k3,if_neg k3];exact e25 _
theorem fn_rTerm (t:T) (ht:t.ok):PFn Tryz.prog 102 [t.av] (.bool (mayB t)):=by
 intro h
 refine fnC mixed Tryz.func102 c102 (by simp) ?_
 simp only [go_sem,seval]
 refine pcall (fn_size t ht 5 (by omega) (by omega)) (by simp only [go_sem,seval]) ?_
 simp only [go_sem,seval]
 have:=(sizR_may t 5 24 (by omega) (by omega) (by omega)).1
 have e:mayB t=decide (sizR t 5≤24):=by
  unfold mayB
  by_cases c:sizR t 5≤24
  ·rw [this.2 c,decide_eq_true c]
  ·rw [decide_eq_false c];cases hm:(mayT t 5 24).1 with
   |false=>rfl
   |true=>exact absurd (this.1 hm) c
 rw [e]
end Go.Proofs.YtnibelnjflhkgaaGreatDoor.Ab

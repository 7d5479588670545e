/- Names of terms. Whether a term may be. Whether a term may be. No condition. -/
import Derived.Test.YtnibelnjflhkgaaGreatDoorBsA
import Derived.Test.YtnibelnjflhkgaaGreatDoorLxC
import Derived.Test.YtnibelnjflhkgaaGreatDoorAbD
import Derived.Test.YtnibelnjflhkgaaGreatDoorShelf
namespace Go.Proofs.YtnibelnjflhkgaaGreatDoor.Ab
set_option linter.unusedVariables false
set_option linter.unusedSimpArgs false
set_option maxRecDepth 10000
theorem c220:compF Tryz.prog ow Tryz.f220=(some (9,([(.t 2)],(.seq (.ops [(none,(.set 2 (.bool false)))]) (.seq (.ops [(none,(.cp 3 0)),(none,(.bin (some 4) .geq (.t 3) (.k (.int .u8 97)) false false)),(none,(.cp 5 4)),((some (5,true)),(.cp 6 0)),((some (5,true)),(.bin (some 7) .leq (.t 6) (.k (.int .u8 122)) false false)),(none,(.pick (some 8) (.t 5) (.t 7) (.k (.bool false)))),(none,(.mv 2 8))]) .ret))))):=by kernel_rfl
theorem c219:compF Tryz.prog ow Tryz.f219=(some (9,([(.t 2)],(.seq (.ops [(none,(.set 2 (.bool false)))]) (.seq (.ops [(none,(.cp 3 0)),(none,(.bin (some 4) .geq (.t 3) (.k (.int .u8 65)) false false)),(none,(.cp 5 4)),((some (5,true)),(.cp 6 0)),((some (5,true)),(.bin (some 7) .leq (.t 6) (.k (.int .u8 90)) false false)),(none,(.pick (some 8) (.t 5) (.t 7) (.k (.bool false)))),(none,(.mv 2 8))]) .ret))))):=by kernel_rfl
theorem c245:compF Tryz.prog ow Tryz.f245=(some (9,([(.t 2)],(.seq (.ops [(none,(.set 2 (.bool false)))]) (.seq (.ops [(none,(.cp 3 0)),(none,(.bin (some 4) .geq (.t 3) (.k (.int .u8 48)) false false)),(none,(.cp 5 4)),((some (5,true)),(.cp 6 0)),((some (5,true)),(.bin (some 7) .leq (.t 6) (.k (.int .u8 57)) false false)),(none,(.pick (some 8) (.t 5) (.t 7) (.k (.bool false)))),(none,(.mv 2 8))]) .ret))))):=by kernel_rfl
theorem c183:compF Tryz.prog ow Tryz.f183=(some (9,([(.t 2)],(.seq (.ops [(none,(.set 2 (.bool false)))]) (.seq (.ops [(none,(.cp 3 0)),(none,(.bin (some 4) .geq (.t 3) (.k (.int .i64 (-1073741824))) false false)),(none,(.cp 5 4)),((some (5,true)),(.cp 6 0)),((some (5,true)),(.bin (some 7) .leq (.t 6) (.k (.int .i64 1073741824)) false false)),(none,(.pick (some 8) (.t 5) (.t 7) (.k (.bool false)))),(none,(.mv 2 8))]) .ret))))):=by kernel_rfl
theorem c236:compF Tryz.prog ow Tryz.f236=(some (17,([(.t 2)],(.seq (.ops [(none,(.set 2 (.bool false)))]) (.seq (.ops [(none,(.cp 3 0)),(none,(.call (some 4) (.k (.func 220 [] [])) [(.t 3)] none)),(none,(.cp 5 4)),((some (5,false)),(.cp 6 0)),((some (5,false)),(.call (some 7) (.k (.func 219 [] [])) [(.t 6)] none)),(none,(.pick (some 8) (.t 5) (.k (.bool true)) (.t 7))),(none,(.cp 9 8)),((some (9,false)),(.cp 10 0)),((some (9,false)),(.call (some 11) (.k (.func 245 [] [])) [(.t 10)] none)),(none,(.pick (some 12) (.t 9) (.k (.bool true)) (.t 11))),(none,(.cp 13 12)),((some (13,false)),(.cp 14 0)),((some (13,false)),(.bin (some 15) .eql (.t 14) (.k (.int .u8 95)) false false)),(none,(.pick (some 16) (.t 13) (.k (.bool true)) (.t 15))),(none,(.mv 2 16))]) .ret))))):=by kernel_rfl
theorem c218:compF Tryz.prog ow Tryz.f218=(some (31,([(.t 4)],(.seq (.ops [(none,(.set 4 (.bool false)))]) (.seq (.seq (.ops [(none,(.cp 6 0)),(none,(.bin (some 7) .eql (.t 6) (.k (.str [])) false false)),(none,(.cp 8 7)),((some (8,false)),(.cp 9 0)),((some (8,false)),(.len (some 10) (.t 9) true false)),((some (8,false)),(.bin (some 11) .gtr (.t 10) (.k (.int .i64 16)) false false)),(none,(.pick (some 12) (.t 8) (.k (.bool true)) (.t 11))),(none,(.cp 13 12)),((some (13,false)),(.cp 14 1)),((some (13,false)),(.cp 15 0)),((some (13,false)),(.idx (some 16) (.t 15) (.k (.int .i64 0)) true none)),((some (13,false)),(.call (some 17) (.t 14) [(.t 16)] none)),((some (13,false)),(.un (some 18) .not (.t 17))),(none,(.pick (some 19) (.t 13) (.k (.bool true)) (.t 18)))]) (.cond (.t 19) (.seq (.ops [(none,(.set 4 (.bool false)))]) .ret) .skip)) (.seq (.seq (.ops [(none,(.cp 20 0)),(none,(.len (some 21) (.t 20) true false)),(none,(.set 22 (.int .i64 0)))]) (.block 0 (.loop (.seq (.ops [(none,(.bin (some 23) .lss (.t 22) (.t 21) false false))]) (.seq (.cond (.t 23) .skip (.exit 0)) (.seq (.block 1 (.seq (.ops [(none,(.mv 24 22)),(none,(.mv 5 24))]) (.seq (.ops [(none,(.cp 25 0)),(none,(.cp 26 5)),(none,(.idx (some 27) (.t 25) (.t 26) true none)),(none,(.call (some 28) (.k (.func 236 [] [])) [(.t 27)] none)),(none,(.un (some 29) .not (.t 28)))]) (.cond (.t 29) (.seq (.ops [(none,(.set 4 (.bool false)))]) .ret) .skip)))) (.ops [(none,(.bin (some 30) .add (.t 22) (.k (.int .i64 1)) false false)),(none,(.cp 22 30))]))))))) (.seq (.ops [(none,(.set 4 (.bool true)))]) .ret))))))):=by kernel_rfl
theorem c185:compF Tryz.prog ow Tryz.f185=(some (5,([(.t 2)],(.seq (.ops [(none,(.set 2 (.bool false)))]) (.seq (.ops [(none,(.cp 3 0)),(none,(.call (some 4) (.k (.func 218 [] [])) [(.t 3),(.k (.func 220 [] []))] none)),(none,(.mv 2 4))]) .ret))))):=by kernel_rfl
theorem c182:compF Tryz.prog ow Tryz.f182=(some (5,([(.t 2)],(.seq (.ops [(none,(.set 2 (.bool false)))]) (.seq (.ops [(none,(.cp 3 0)),(none,(.call (some 4) (.k (.func 218 [] [])) [(.t 3),(.k (.func 219 [] []))] none)),(none,(.mv 2 4))]) .ret))))):=by kernel_rfl
def betw (a b c:Int):Bool:=decide (a≤c)&&decide (c≤b)
def innerB (c:Int):Bool:=betw 97 122 c||(betw 65 90 c||(betw 48 57 c||c==95))
theorem fn_small (c:Int):PFn Tryz.prog 220 [.int .u8 c] (.bool (betw 97 122 c)):=by
 intro h
 refine fnC mixed Tryz.func220 c220 (by simp) ?_
 simp only [go_sem,seval]
 refine cog (fun h1=> ?_) (fun h1=> ?_)
 ·simp only [go_sem,seval,h1]
  simp at h1;simp [betw,h1]
 ·simp only [go_sem,seval,h1]
  simp at h1;simp [betw];omega
theorem fn_great (c:Int):PFn Tryz.prog 219 [.int .u8 c] (.bool (betw 65 90 c)):=by
 intro h
 refine fnC mixed Tryz.func219 c219 (by simp) ?_
 simp only [go_sem,seval]
 refine cog (fun h1=> ?_) (fun h1=> ?_)
 ·simp only [go_sem,seval,h1]
  simp at h1;simp [betw,h1]
 ·simp only [go_sem,seval,h1]
  simp at h1;simp [betw];omega
theorem fn_digit (c:Int):PFn Tryz.prog 245 [.int .u8 c] (.bool (betw 48 57 c)):=by
 intro h
 refine fnC mixed Tryz.func245 c245 (by simp) ?_
 simp only [go_sem,seval]
 refine cog (fun h1=> ?_) (fun h1=> ?_)
 ·simp only [go_sem,seval,h1]
  simp at h1;simp [betw,h1]
 ·simp only [go_sem,seval,h1]
  simp at h1;simp [betw];omega
theorem fn_Number (c:Int):PFn Tryz.prog 183 [.int .i64 c] (.bool (betw (-1073741824) 1073741824 c)):=by
 intro h
 refine fnC mixed Tryz.func183 c183 (by simp) ?_
 simp only [go_sem,seval]
 refine cog (fun h1=> ?_) (fun h1=> ?_)
 ·simp only [go_sem,seval,h1]
  simp at h1;simp [betw,h1]
 ·simp only [go_sem,seval,h1]
  simp at h1;simp [betw];omega
theorem fn_Inner (c:Int):PFn Tryz.prog 236 [.int .u8 c] (.bool (innerB c)):=by
 intro h
 refine fnC mixed Tryz.func236 c236 (by simp) ?_
 simp only [go_sem,seval]
 refine pcall (fn_small c) (by simp only [go_sem,seval]) ?_
 simp only [go_sem,seval]
 refine cog (fun h1=> ?_) (fun h1=> ?_)
 ·simp only [go_sem,seval,h1]
  refine pcall (fn_great c) (by simp only [go_sem,seval]) ?_
  simp only [go_sem,seval,h1]
  refine cog (fun h2=> ?_) (fun h2=> ?_)
  ·simp only [go_sem,seval,h1,h2]
   refine pcall (fn_digit c) (by simp only [go_sem,seval]) ?_
   simp only [go_sem,seval,h1,h2]
   refine cog (fun h3=> ?_) (fun h3=> ?_)
   ·simp only [go_sem,seval,h1,h2,h3]
    simp [innerB,h1,h2,h3]
   ·simp only [go_sem,seval,h1,h2,h3]
    simp at h3;simp [innerB,h3]
  ·simp only [go_sem,seval,h1,h2]
   simp at h2;simp [innerB,h2]
 ·simp only [go_sem,seval,h1]
  simp at h1;simp [innerB,h1]
def wordB (first:Int→Bool) (s:List UInt8):Bool:= !(s== [])&&(!(decide (16<s.length))&&(first (s.headD 0).toNat&&s.all fun c=>innerB c.toNat))
theorem fn_word (s:List UInt8) (f:FuncId) (first:Int→Bool) (hf: ∀c,PFn Tryz.prog f [.int .u8 c] (.bool (first c))):PFn Tryz.prog 218 [.str s, .func f [] []] (.bool (wordB first s)):=by
 intro h
 refine fnC mixed Tryz.func218 c218 (by simp) ?_
 simp only [go_sem,seval]
 refine cog (fun h1=> ?_) (fun h1=> ?_)
 ·simp only [go_sem,seval,h1]
  refine cog (fun h2=> ?_) (fun h2=> ?_)
  ·obtain ⟨c,s',rfl⟩: ∃c s',s=c::s' :=by cases s with
    |nil=>simp at h1
    |cons c s' =>exact ⟨c,s',rfl⟩
   have e0:(c::s')[(0:Int).toNat]? =some c:=rfl
   have hl:(c::s').length≤16:=by simp at h2 ⊢;omega
   generalize hs:c::s' =s at *
   have hd:s.headD 0=c:=by rw [←hs];rfl
   have e00:s[0]? =some c:=e0
   simp only [go_sem,seval,h1,h2,e00,Int.le_refl,decide_true]
   refine pcall (hf (c.toNat:Int)) (by simp only [go_sem,seval]) ?_
   simp only [go_sem,seval,h1,h2]
   refine cif (fun h3=> ?_) (fun h3=> ?_)
   ·simp only [go_sem,seval]
    simp at h3;unfold wordB;rw [hd,h3];simp
   ·simp only [go_sem,seval]
    refine cloop (fun k t=> ∃i,i+k=s.length∧t.fr 0= .str s∧t.fr 21= .int .i64 s.length∧t.fr 22= .int .i64 (i:Nat)∧((s.drop i).all fun c=>innerB c.toNat)=(s.all fun c=>innerB c.toNat)∧t.hp=h) s.length ⟨0,by simp [fr_apply,argsF]⟩ ?_
    rintro k ⟨g,hp⟩ ⟨i,hk,g0,g21,g22,he,rfl⟩
    simp only at g0 g21 g22
    simp only [go_sem,seval,g0,g21,g22]
    have h3' :first c.toNat=true:=by simpa using h3
    refine cif (fun hb=> ?_) (fun hb=> ?_)
    ·have hi:i<s.length:=by simpa using hb
     rw [List.drop_eq_getElem_cons hi,List.all_cons] at he
     simp only [go_sem,seval,g0,g21,g22,decide_true,List.getElem?_eq_getElem hi]
     refine pcall (fn_Inner (s[i].toNat:Int)) (by simp only [go_sem,seval]) ?_
     simp only [go_sem,seval,g0,g21,g22]
     refine cif (fun h4=> ?_) (fun h4=> ?_)
     ·simp only [go_sem,seval]
      simp at h4;unfold wordB;rw [←he,h4];simp
     ·have hw:IntKind.i64.wrap ((i:Int)+1)=((i+1:Nat):Int):=by rw [wrap64]<;>omega
      simp only [go_sem,seval,g0,g21,g22,hw]
      simp at h4
      refine ⟨k-1,by omega,i+1,by omega, ?_⟩;simpa [h4] using he
    ·have hi:s.length≤i:=by simpa using hb
     simp only [go_sem,seval,g0,g21,g22]
     rw [List.drop_eq_nil_of_le hi] at he
     unfold wordB;rw [hd,h3', ←he,h1,decide_eq_false (show ¬16<s.length by omega)];rfl
  ·simp only [go_sem,seval,h1,h2]
   simp at h2;simp [wordB,h1,show 16<s.length by omega]
 ·simp only [go_sem,seval,h1]
  simp at h1;simp [wordB,h1]
def nameB (s:List UInt8):Bool:=wordB (betw 97 122) s
def varB (s:List UInt8):Bool:=wordB (betw 65 90) s
theorem fn_Name (s:List UInt8):PFn Tryz.prog 185 [.str s] (.bool (nameB s)):=by
 intro h
 refine fnC mixed Tryz.func185 c185 (by simp) ?_
 simp only [go_sem,seval]
 refine pcall (fn_word s 220 _ fn_small) (by simp only [go_sem,seval]) ?_
 simp only [go_sem,seval]
 rfl
theorem fn_Var (s:List UInt8):PFn Tryz.prog 182 [.str s] (.bool (varB s)):=by
 intro h
 refine fnC mixed Tryz.func182 c182 (by simp) ?_
 simp only [go_sem,seval]
 refine pcall (fn_word s 219 _ fn_great) (by simp only [go_sem,seval]) ?_
 simp only [go_sem,seval]
 rfl
end Go.Proofs.YtnibelnjflhkgaaGreatDoor.Ab
namespace Go.Proofs.YtnibelnjflhkgaaGreatDoor.Ab
set_option linter.unusedVariables false
set_option linter.unusedSimpArgs false
set_option maxRecDepth 10000
theorem c135:compF Tryz.prog ow Tryz.f135=(some (79,([(.t 6)],(.seq (.ops [(none,(.box 3 (.t 0))),(none,(.box 4 (.t 1))),(none,(.box 5 (.t 2))),(none,(.set 6 (.bool false)))]) (.seq (.ops [(none,(.ld (some 8) (.t 5) (.one none))),(none,(.nil (some 9) (.t 8))),(none,(.ld (some 10) (.t 9) (.one none))),(none,(.bin (some 11) .sub (.t 10) (.k (.int .i64 1)) false false)),(none,(.nil (some 12) (.t 8))),(none,(.st (.t 12) (.t 11) 1))]) (.seq (.seq (.ops [(none,(.ld (some 13) (.t 4) (.one none))),(none,(.bin (some 14) .eql (.t 13) (.k (.int .i64 0)) false false)),(none,(.cp 15 14)),((some (15,false)),(.ld (some 16) (.t 5) (.one none))),((some (15,false)),(.nil (some 17) (.t 16))),((some (15,false)),(.ld (some 18) (.t 17) (.one none))),((some (15,false)),(.bin (some 19) .lss (.t 18) (.k (.int .i64 0)) false false)),(none,(.pick (some 20) (.t 15) (.k (.bool true)) (.t 19)))]) (.cond (.t 20) (.seq (.ops [(none,(.set 6 (.bool false)))]) .ret) .skip)) (.seq (.seq (.ops [(none,(.fa (some 21) (.t 3) 0)),(none,(.ld (some 22) (.t 21) (.one none)))]) (.block 0 (.seq (.ops [(none,(.bin (some 24) .eql (.t 22) (.k (.int .i64 1)) false false)),(none,(.mv 23 24))]) (.cond (.t 23) (.seq (.ops [(none,(.fa (some 25) (.t 3) 1)),(none,(.ld (some 26) (.t 25) (.one none))),(none,(.call (some 27) (.k (.func 182 [] [])) [(.t 26)] none)),(none,(.cp 28 27)),((some (28,true)),(.fa (some 29) (.t 3) 2)),((some (28,true)),(.ld (some 30) (.t 29) (.one none))),((some (28,true)),(.bin (some 31) .eql (.t 30) (.k (.int .i64 0)) false false)),(none,(.pick (some 32) (.t 28) (.t 31) (.k (.bool false)))),(none,(.cp 33 32)),((some (33,true)),(.fa (some 34) (.t 3) 3)),((some (33,true)),(.ld (some 35) (.t 34) (.one (some 4)))),((some (33,true)),(.len (some 36) (.t 35) false true)),((some (33,true)),(.bin (some 37) .eql (.t 36) (.k (.int .i64 0)) false false)),(none,(.pick (some 38) (.t 33) (.t 37) (.k (.bool false)))),(none,(.mv 6 38))]) .ret) (.seq (.ops [(none,(.bin (some 40) .eql (.t 22) (.k (.int .i64 2)) false false)),(none,(.mv 39 40))]) (.cond (.t 39) (.seq (.ops [(none,(.fa (some 41) (.t 3) 2)),(none,(.ld (some 42) (.t 41) (.one none))),(none,(.call (some 43) (.k (.func 183 [] [])) [(.t 42)] none)),(none,(.cp 44 43)),((some (44,true)),(.fa (some 45) (.t 3) 1)),((some (44,true)),(.ld (some 46) (.t 45) (.one none))),((some (44,true)),(.bin (some 47) .eql (.t 46) (.k (.str [])) false false)),(none,(.pick (some 48) (.t 44) (.t 47) (.k (.bool false)))),(none,(.cp 49 48)),((some (49,true)),(.fa (some 50) (.t 3) 3)),((some (49,true)),(.ld (some 51) (.t 50) (.one (some 4)))),((some (49,true)),(.len (some 52) (.t 51) false true)),((some (49,true)),(.bin (some 53) .eql (.t 52) (.k (.int .i64 0)) false false)),(none,(.pick (some 54) (.t 49) (.t 53) (.k (.bool false)))),(none,(.mv 6 54))]) .ret) (.seq (.ops [(none,(.bin (some 56) .eql (.t 22) (.k (.int .i64 3)) false false)),(none,(.mv 55 56))]) (.cond (.t 55) (.seq (.ops [(none,(.mkf (some 57) 184 [] [(.t 4),(.t 5)])),(none,(.mv 7 57))]) (.seq (.ops [(none,(.fa (some 58) (.t 3) 1)),(none,(.ld (some 59) (.t 58) (.one none))),(none,(.call (some 60) (.k (.func 185 [] [])) [(.t 59)] none)),(none,(.cp 61 60)),((some (61,true)),(.fa (some 62) (.t 3) 2)),((some (61,true)),(.ld (some 63) (.t 62) (.one none))),((some (61,true)),(.bin (some 64) .eql (.t 63) (.k (.int .i64 0)) false false)),(none,(.pick (some 65) (.t 61) (.t 64) (.k (.bool false)))),(none,(.cp 66 65)),((some (66,true)),(.fa (some 67) (.t 3) 3)),((some (66,true)),(.ld (some 68) (.t 67) (.one (some 4)))),((some (66,true)),(.len (some 69) (.t 68) false true)),((some (66,true)),(.bin (some 70) .leq (.t 69) (.k (.int .i64 4)) false false)),(none,(.pick (some 71) (.t 66) (.t 70) (.k (.bool false)))),(none,(.cp 72 71)),((some (72,true)),(.fa (some 73) (.t 3) 3)),((some (72,true)),(.ld (some 74) (.t 73) (.one (some 4)))),((some (72,true)),(.cp 75 7)),((some (72,true)),(.call (some 76) (.k (.func 165 [] [])) [(.t 74),(.t 75)] none)),((some (72,true)),(.un (some 77) .not (.t 76))),(none,(.pick (some 78) (.t 72) (.t 77) (.k (.bool false)))),(none,(.mv 6 78))]) .ret)) .skip)))))))) (.seq (.ops [(none,(.set 6 (.bool false)))]) .ret)))))))):=by kernel_rfl
theorem c184:compF Tryz.prog ow Tryz.f184=(some (11,([(.t 4)],(.seq (.ops [(none,(.box 3 (.t 0))),(none,(.set 4 (.bool false)))]) (.seq (.ops [(none,(.ld (some 5) (.t 3) (.agg 4))),(none,(.ld (some 6) (.t 1) (.one none))),(none,(.bin (some 7) .sub (.t 6) (.k (.int .i64 1)) false false)),(none,(.ld (some 8) (.t 2) (.one none))),(none,(.call (some 9) (.k (.func 135 [] [])) [(.t 5),(.t 7),(.t 8)] none)),(none,(.un (some 10) .not (.t 9))),(none,(.mv 4 10))]) .ret))))):=by kernel_rfl
theorem c165:compF Tryz.prog ow Tryz.f165=(some (9,([(.t 4)],(.seq (.ops [(none,(.set 4 (.bool false)))]) (.seq (.ops [(none,(.cp 5 0)),(none,(.cp 6 1)),(none,(.call (some 7) (.k (.func 204 [] [])) [(.t 5),(.t 6)] none)),(none,(.bin (some 8) .geq (.t 7) (.k (.int .i64 0)) false false)),(none,(.mv 4 8))]) .ret))))):=by kernel_rfl
theorem c204:compF Tryz.prog ow Tryz.f204=(some (19,([(.t 4)],(.seq (.ops [(none,(.set 4 (.int .i64 0)))]) (.seq (.seq (.ops [(none,(.cp 6 0)),(none,(.len (some 7) (.t 6) false true)),(none,(.set 8 (.int .i64 0)))]) (.block 0 (.loop (.seq (.ops [(none,(.bin (some 9) .lss (.t 8) (.t 7) false false))]) (.seq (.cond (.t 9) .skip (.exit 0)) (.seq (.block 1 (.seq (.ops [(none,(.mv 10 8)),(none,(.mv 5 10))]) (.seq (.ops [(none,(.cp 11 1)),(none,(.cp 12 0)),(none,(.cp 13 5)),(none,(.ia (some 14) (.t 12) (.t 13) (some 4) none)),(none,(.ld (some 15) (.t 14) (.agg 4))),(none,(.call (some 16) (.t 11) [(.t 15)] none))]) (.cond (.t 16) (.seq (.ops [(none,(.mv 17 5)),(none,(.mv 4 17))]) .ret) .skip)))) (.ops [(none,(.bin (some 18) .add (.t 8) (.k (.int .i64 1)) false false)),(none,(.cp 8 18))]))))))) (.seq (.ops [(none,(.set 4 (.int .i64 (-1))))]) .ret)))))):=by kernel_rfl
theorem c89:compF Tryz.prog ow Tryz.f89=(some (6,([(.t 2)],(.seq (.ops [(none,(.box 1 (.t 0))),(none,(.set 2 (.bool false)))]) (.seq (.ops [(none,(.alloc 3 [(.int .i64 0)])),(none,(.st (.t 3) (.k (.int .i64 24)) 1))]) (.seq (.ops [(none,(.ld (some 4) (.t 1) (.agg 4))),(none,(.call (some 5) (.k (.func 135 [] [])) [(.t 4),(.k (.int .i64 5)),(.t 3)] none)),(none,(.mv 2 5))]) .ret)))))):=by kernel_rfl
mutual
def mayT:T→Nat→Int→Bool×Int
 | .mk k n v l,d,left=>
  if d=0∨left-1<0 then (false,left-1)
  else if k=1 then (varB n&&(v==0&&decide (l.length=0)),left-1)
  else if k=2 then (betw (-1073741824) 1073741824 v&&(n== []&&decide (l.length=0)),left-1)
  else if k=3 then (if (nameB n&&(v==0&&decide (l.length≤4)))=true then mayTs l (d-1) (left-1) else (false,left-1))
  else (false,left-1)
def mayTs:List T→Nat→Int→Bool×Int
 | [],d,left=>(true,left)
 |t::l,d,left=>if (mayT t d left).1=true then mayTs l d (mayT t d left).2 else (false,(mayT t d left).2)
end
theorem shrink_set {h hp:Hp} {lb:Nat} {X:List AV} (h1:h.n≤hp.n) (h2: ∀l,l<h.n→l≠lb→hp.bk l=h.bk l) (h3:hp.bk lb= .cells X) (h4:labL h.n X=true):Shrink h hp ⟨h.n,updB h.bk lb (.cells X)⟩:=by
 refine ⟨Nat.le_refl _,h1,fun l hl=> ?_⟩
 simp only [bk_apply] at hl ⊢
 by_cases e:l=lb
 ·subst e;simp [h3,h4]
 ·simp [e,h2 l hl e,hl]
def Hp.put1 (h:Hp) (lb:Nat) (n:Int):Hp:=⟨h.n,updB h.bk lb (.cells [.int .i64 n])⟩
def MayFn (t:T):Prop:= ∀(d:Nat) (left:Int) (lb:Nat) (h:Hp),d<1000000→0≤left→left<1000000→lb<h.n→h.bk lb= .cells [.int .i64 left]→
 ((mayT t d left).1=true→0≤(mayT t d left).2)∧(mayT t d left).2≤left∧Fn Tryz.prog 135 [t.av, .int .i64 (d:Nat), .ptr lb 0] h (.bool (mayT t d left).1) (h.put1 lb (mayT t d left).2)
theorem fn_may1 (t:T) (ht:MayFn t) (d:Nat) (left:Int) (a b lb:Nat) (h:Hp) (hd:d<1000000) (h1:0≤left) (h2:left<1000000) (hl:lb<h.n) (ha:a<h.n) (hb:b<h.n) (e1:h.bk lb= .cells [.int .i64 left])
  (e2:h.bk a= .cells [.int .i64 ((d+1:Nat):Int)]) (e3:h.bk b= .cells [.ptr lb 0]):
  Fn Tryz.prog 184 [t.av, .ptr a 0, .ptr b 0] h (.bool (!(mayT t d left).1)) (h.put1 lb (mayT t d left).2):=by
 refine fnC mixed Tryz.func184 c184 (by simp) ?_
 have hw:IntKind.i64.wrap (((d+1:Nat):Int)-1)=((d:Nat):Int):=by rw [wrap64]<;>omega
 have na: ¬a=h.n:=by omega
 have nb: ¬b=h.n:=by omega
 have nl: ¬lb=h.n:=by omega
 simp only [go_sem,seval,na,nb,nl,e1,e2,e3,hw]
 obtain ⟨k1,k2,k3⟩:=ht d left lb ⟨h.n+1,updB h.bk h.n (.cells t.av.cells)⟩ hd h1 h2 (by simp only;omega) (by simp only [bk_apply,nl,if_false,e1])
 refine ccall k3 (by simp only [go_sem,seval]) ?_
 simp only [go_sem,seval]
 refine shrink_set (by simp [Hp.put1]) (fun l hl hne=> ?_) ?_ rfl
 ·simp only [Hp.put1,bk_apply,hne,if_false,show l≠h.n by omega]
 ·simp only [Hp.put1,bk_apply,if_true]
theorem put1_self {h:Hp} {lb:Nat} {n:Int} (e:h.bk lb= .cells [.int .i64 n]):h.put1 lb n=h:=by
 unfold Hp.put1;rw [updB_self _ _ _ e]
theorem put1_put1 (h:Hp) (lb:Nat) (m n:Int):(h.put1 lb m).put1 lb n=h.put1 lb n:=by
 unfold Hp.put1;simp only [updB_upd]
theorem put1_bk (h:Hp) (lb:Nat) (n:Int):(h.put1 lb n).bk lb= .cells [.int .i64 n]:=by simp [Hp.put1,bk_apply]
theorem put1_ne (h:Hp) {lb l:Nat} (n:Int) (e:l≠lb):(h.put1 lb n).bk l=h.bk l:=by simp [Hp.put1,bk_apply,e]
theorem shrink_put1 (h:Hp) (lb:Nat) (n:Int):Shrink h (h.put1 lb n) (h.put1 lb n):=shrink_set (Nat.le_refl _) (fun l hl hne=>put1_ne _ _ hne) (put1_bk _ _ _) rfl
def idxM:List T→Nat→Int→Nat→Int
 | [],d,left,i=> -1
 |t::l,d,left,i=>if (mayT t d left).1=true then idxM l d (mayT t d left).2 (i+1) else (i:Int)
theorem idxM_mayTs: ∀(l:List T) (d:Nat) (left:Int) (i:Nat),decide (idxM l d left i≥0)= !(mayTs l d left).1
 | [],d,left,i=>by simp [idxM,mayTs]
 |t::l,d,left,i=>by
  rw [idxM,mayTs]
  split
  ·exact idxM_mayTs l d _ _
  ·simp
theorem fn_index (l:List T) (hl:l.length<1000000000000000) (ih: ∀x∈l,MayFn x) (d:Nat) (left:Int) (a b lb:Nat) (h:Hp) (hd:d<1000000) (h1:0≤left) (h2:left<1000000) (hlb:lb<h.n) (hA:a<h.n) (hB:b<h.n)
  (na:a≠lb) (nb:b≠lb) (e1:h.bk lb= .cells [.int .i64 left]) (e2:h.bk a= .cells [.int .i64 ((d+1:Nat):Int)]) (e3:h.bk b= .cells [.ptr lb 0]):
  ((mayTs l d left).1=true→0≤(mayTs l d left).2)∧(mayTs l d left).2≤left∧
  Fn Tryz.prog 204 [.sl .sh 4 (l.map T.av), .func 184 [] [.ptr a 0, .ptr b 0]] h (.int .i64 (idxM l d left 0)) (h.put1 lb (mayTs l d left).2):=by
 have bd: ∀(l:List T),(∀x∈l,MayFn x)→ ∀left:Int,0≤left→left<1000000→((mayTs l d left).1=true→0≤(mayTs l d left).2)∧(mayTs l d left).2≤left:=by
  intro l
  induction l with
  |nil=>intro _ left h1 h2;simp [mayTs];omega
  |cons t l ihl=>
   intro ih left h1 h2
   obtain ⟨k1,k2,_⟩:=ih t (by simp) d left 0 ⟨1,fun _=> .cells [.int .i64 left]⟩ hd h1 h2 (by simp) rfl
   rw [mayTs]
   split
   ·rename_i ht
    have:=ihl (fun x hx=>ih x (by simp [hx])) (mayT t d left).2 (k1 ht) (by omega)
    exact ⟨this.1,by omega⟩
   ·exact ⟨fun hf=>(by cases hf),k2⟩
 refine ⟨(bd l ih left h1 h2).1,(bd l ih left h1 h2).2, ?_⟩
 refine fnC mixed Tryz.func204 c204 (by simp) ?_
 simp only [go_sem,seval]
 refine cloop (fun k t=> ∃(i:Nat) (q:Int),i+k=l.length∧0≤q∧q<1000000∧t.fr 0= .sl .sh 4 (l.map T.av)∧t.fr 1= .func 184 [] [.ptr a 0, .ptr b 0]∧t.fr 7= .int .i64 l.length∧t.fr 8= .int .i64 (i:Nat)∧idxM (l.drop i) d q i=idxM l d left 0∧(mayTs (l.drop i) d q).2=(mayTs l d left).2∧t.hp=h.put1 lb q) l.length ⟨0,left,by simp [fr_apply,argsF,put1_self e1,h1,h2,strip]⟩ ?_
 rintro k ⟨f,hp⟩ ⟨i,q,hk,q1,q2,f0,f1,f7,f8,he,he2,rfl⟩
 simp only at f0 f1 f7 f8
 simp only [go_sem,seval,f7,f8]
 refine cif (fun hb=> ?_) (fun hb=> ?_)
 ·have hi:i<l.length:=by simpa using hb
  rw [List.drop_eq_getElem_cons hi,idxM] at he
  rw [List.drop_eq_getElem_cons hi,mayTs] at he2
  simp only [go_sem,seval,f0,f1,f7,f8,getAv hi]
  obtain ⟨m1,m2,_⟩:=ih _ (List.getElem_mem hi) d q lb (h.put1 lb q) hd q1 q2 hlb (put1_bk _ _ _)
  refine ccall (fn_may1 l[i] (ih _ (List.getElem_mem hi)) d q a b lb (h.put1 lb q) hd q1 q2 hlb hA hB (put1_bk _ _ _) (by rw [put1_ne _ _ na,e2]) (by rw [put1_ne _ _ nb,e3])) (by simp only [go_sem,seval,f1]) ?_
  rw [put1_put1]
  simp only [go_sem,seval]
  refine cif (fun hc=> ?_) (fun hc=> ?_)
  ·have hc' : ¬(mayT l[i] d q).1=true:=by simpa using hc
   rw [if_neg hc'] at he he2
   simp only at he2
   simp only [go_sem,seval]
   rw [←he, ←he2]
   exact ⟨rfl,shrink_put1 _ _ _⟩
  ·have hw:IntKind.i64.wrap ((i:Int)+1)=((i+1:Nat):Int):=by rw [wrap64]<;>omega
   have hc' :(mayT l[i] d q).1=true:=by simpa using hc
   rw [if_pos hc'] at he he2
   simp only [go_sem,seval,f0,f1,f7,f8,hw]
   refine ⟨k-1,by omega,i+1,(mayT l[i] d q).2,by omega,m1 hc',by omega, ?_⟩;simp [he,he2]
 ·have hi:l.length≤i:=by simpa using hb
  simp only [go_sem,seval,f0,f1,f7,f8]
  rw [List.drop_eq_nil_of_le hi,idxM] at he
  rw [List.drop_eq_nil_of_le hi,mayTs] at he2
  simp only at he2
  rw [←he, ←he2]
  exact ⟨rfl,shrink_put1 _ _ _⟩
theorem fn_contains (l:List T) (hl:l.length<1000000000000000) (ih: ∀x∈l,MayFn x) (d:Nat) (left:Int) (a b lb:Nat) (h:Hp) (hd:d<1000000) (h1:0≤left) (h2:left<1000000) (hlb:lb<h.n) (hA:a<h.n) (hB:b<h.n)
  (na:a≠lb) (nb:b≠lb) (e1:h.bk lb= .cells [.int .i64 left]) (e2:h.bk a= .cells [.int .i64 ((d+1:Nat):Int)]) (e3:h.bk b= .cells [.ptr lb 0]):
  ((mayTs l d left).1=true→0≤(mayTs l d left).2)∧(mayTs l d left).2≤left∧
  Fn Tryz.prog 165 [.sl .sh 4 (l.map T.av), .func 184 [] [.ptr a 0, .ptr b 0]] h (.bool (!(mayTs l d left).1)) (h.put1 lb (mayTs l d left).2):=by
 obtain ⟨k1,k2,k3⟩:=fn_index l hl ih d left a b lb h hd h1 h2 hlb hA hB na nb e1 e2 e3
 refine ⟨k1,k2, ?_⟩
 refine fnC mixed Tryz.func165 c165 (by simp) ?_
 simp only [go_sem,seval]
 refine ccall k3 (by simp only [go_sem,seval]) ?_
 simp only [go_sem,seval,idxM_mayTs]
 exact shrink_put1 _ _ _
theorem len0 {α:Type} (l:List α):((l.length:Int)==0)=decide (l.length=0):=by rw [Bool.eq_iff_iff];simp
theorem fn_may: ∀t:T,t.ok→MayFn t:=by
 refine T.ind ?_
 intro k n v l ih hok d left lb h hd h1 h2 hlb e1
 rw [ok_mk] at hok
 have n0: ¬lb=h.n:=by omega
 have n1: ¬lb=h.n+1:=by omega
 have n2: ¬lb=h.n+2:=by omega
 have m0: ¬h.n=lb:=by omega
 have m1: ¬h.n+1=lb:=by omega
 have m2: ¬h.n+2=lb:=by omega
 have hw:IntKind.i64.wrap (left-1)=left-1:=by rw [wrap64]<;>omega
 have sh: ∀(bk:Nat→Blk) (q:Int),(∀l,l<h.n→l≠lb→bk l=h.bk l)→bk lb= .cells [.int .i64 q]→ ∀m,h.n≤m→Shrink h ⟨m,bk⟩ (h.put1 lb q):=fun bk q a1 a2 m hm=>shrink_set hm a1 a2 rfl
 have ne3: ∀l,l<h.n→l≠h.n∧l≠h.n+1∧l≠h.n+2:=fun l hl=>by omega
 by_cases c1:d=0∨left-1<0
 ·rw [mayT,if_pos c1]
  refine ⟨fun hf=>(by cases hf),by simp only;omega, ?_⟩
  rw [av_mk]
  refine fnC mixed Tryz.func135 c135 (by simp) ?_
  simp only [go_sem,seval,n0,n1,n2,m0,m1,m2,e1,hw]
  refine cog (fun hc=> ?_) (fun hc=> ?_)
  ·simp only [go_sem,seval,n0,n1,n2,m0,m1,m2,e1,hw,hc]
   have hd0:d≠0:=by simpa using hc
   have hl:decide (left-1<0)=true:=by simp;omega
   simp only [go_sem,seval,hl,n0,n1,n2,m0,m1,m2,e1,hw,hc]
   exact sh _ _ (fun l hl hne=>by simp only [bk_apply,ne3 l hl,hne,if_false]) (by simp only [bk_apply,if_true]) _ (by omega)
  ·simp only [go_sem,seval,n0,n1,n2,m0,m1,m2,e1,hw,hc]
   exact sh _ _ (fun l hl hne=>by simp only [bk_apply,ne3 l hl,hne,if_false]) (by simp only [bk_apply,if_true]) _ (by omega)
 ·have hd0:d≠0:=fun e=>c1 (.inl e)
  have hl1:0≤left-1:=by omega
  have hd1:(((d:Nat):Int)==0)=false:=by simp;omega
  have hl0:decide (left-1<0)=false:=by simp;omega
  rw [mayT,if_neg c1]
  by_cases k1:k=1
  ·subst k1
   rw [if_pos rfl]
   refine ⟨fun _=>hl1,by simp only;omega, ?_⟩
   rw [av_mk]
   refine fnC mixed Tryz.func135 c135 (by simp) ?_
   simp only [go_sem,seval,n0,n1,n2,m0,m1,m2,e1,hw,hd1,hl0]
   refine pcall (fn_Var n) (by simp only [go_sem,seval,n0,n1,n2,m0,m1,m2,e1,hw,hd1,hl0]) ?_
   simp only [go_sem,seval,n0,n1,n2,m0,m1,m2,e1,hw,hd1,hl0]
   refine cog (fun hc=> ?_) (fun hc=> ?_)
   ·simp only [go_sem,seval,n0,n1,n2,m0,m1,m2,e1,hw,hd1,hl0,hc]
    refine cog (fun hv=> ?_) (fun hv=> ?_)
    ·simp only [go_sem,seval,n0,n1,n2,m0,m1,m2,e1,hw,hd1,hl0,hc,hv]
     refine ⟨?_, ?_⟩
     ·rw [len0]
     ·exact sh _ _ (fun l hl hne=>by simp only [bk_apply,ne3 l hl,hne,if_false]) (by simp only [bk_apply,if_true]) _ (by omega)
    ·simp only [go_sem,seval,n0,n1,n2,m0,m1,m2,e1,hw,hd1,hl0,hc,hv]
     exact sh _ _ (fun l hl hne=>by simp only [bk_apply,ne3 l hl,hne,if_false]) (by simp only [bk_apply,if_true]) _ (by omega)
   ·simp only [go_sem,seval,n0,n1,n2,m0,m1,m2,e1,hw,hd1,hl0,hc]
    exact sh _ _ (fun l hl hne=>by simp only [bk_apply,ne3 l hl,hne,if_false]) (by simp only [bk_apply,if_true]) _ (by omega)
  rw [if_neg k1]
  have hk1:(k==1)=false:=by simpa using k1
  by_cases k2:k=2
  ·subst k2
   rw [if_pos rfl]
   refine ⟨fun _=>hl1,by simp only;omega, ?_⟩
   rw [av_mk]
   refine fnC mixed Tryz.func135 c135 (by simp) ?_
   simp only [go_sem,seval,n0,n1,n2,m0,m1,m2,e1,hw,hd1,hl0,hk1]
   refine pcall (fn_Number v) (by simp only [go_sem,seval,n0,n1,n2,m0,m1,m2,e1,hw,hd1,hl0]) ?_
   simp only [go_sem,seval,n0,n1,n2,m0,m1,m2,e1,hw,hd1,hl0]
   refine cog (fun hc=> ?_) (fun hc=> ?_)
   ·simp only [go_sem,seval,n0,n1,n2,m0,m1,m2,e1,hw,hd1,hl0,hc]
    refine cog (fun hv=> ?_) (fun hv=> ?_)
    ·simp only [go_sem,seval,n0,n1,n2,m0,m1,m2,e1,hw,hd1,hl0,hc,hv]
     refine ⟨?_, ?_⟩
     ·rw [len0]
     ·exact sh _ _ (fun l hl hne=>by simp only [bk_apply,ne3 l hl,hne,if_false]) (by simp only [bk_apply,if_true]) _ (by omega)
    ·simp only [go_sem,seval,n0,n1,n2,m0,m1,m2,e1,hw,hd1,hl0,hc,hv]
     exact sh _ _ (fun l hl hne=>by simp only [bk_apply,ne3 l hl,hne,if_false]) (by simp only [bk_apply,if_true]) _ (by omega)
   ·simp only [go_sem,seval,n0,n1,n2,m0,m1,m2,e1,hw,hd1,hl0,hc]
    exact sh _ _ (fun l hl hne=>by simp only [bk_apply,ne3 l hl,hne,if_false]) (by simp only [bk_apply,if_true]) _ (by omega)
  rw [if_neg k2]
  have hk2:(k==2)=false:=by simpa using k2
  by_cases k3:k=3
  ·subst k3
   rw [if_pos rfl]
   obtain ⟨q1,q2,q3⟩:=fn_contains l hok.1 (fun x hx=>ih x hx (hok.2.2 x hx)) (d-1) (left-1) (h.n+1) (h.n+2) lb
    ⟨h.n+3,updB (updB (updB (updB h.bk h.n (.cells [.int .i64 3, .str n, .int .i64 v, .sl .sh 4 (l.map T.av)])) (h.n+1) (.cells [.int .i64 d])) (h.n+2) (.cells [.ptr lb 0])) lb (.cells [.int .i64 (left-1)])⟩
    (by omega) hl1 (by omega) (by simp only;omega) (by simp only;omega) (by simp only;omega) (by omega) (by omega)
    (by simp only [bk_apply,if_true]) (by simp only [bk_apply,m1,if_false,if_true,show ¬h.n+1=h.n+2 by omega,show d-1+1=d by omega])
    (by simp only [bk_apply,m2,if_false,if_true])
   refine ⟨fun hf=> ?_, ?_, ?_⟩
   ·split at hf
    ·rename_i hh;rw [if_pos hh];exact q1 hf
    ·cases hf
   ·split
    ·omega
    ·simp only;omega
   rw [av_mk]
   refine fnC mixed Tryz.func135 c135 (by simp) ?_
   simp only [go_sem,seval,n0,n1,n2,m0,m1,m2,e1,hw,hd1,hl0,hk1,hk2]
   refine pcall (fn_Name n) (by simp only [go_sem,seval,n0,n1,n2,m0,m1,m2,e1,hw,hd1,hl0]) ?_
   simp only [go_sem,seval,n0,n1,n2,m0,m1,m2,e1,hw,hd1,hl0]
   refine cog (fun hc=> ?_) (fun hc=> ?_)
   ·simp only [go_sem,seval,n0,n1,n2,m0,m1,m2,e1,hw,hd1,hl0,hc]
    refine cog (fun hv=> ?_) (fun hv=> ?_)
    ·simp only [go_sem,seval,n0,n1,n2,m0,m1,m2,e1,hw,hd1,hl0,hc,hv]
     refine cog (fun hm=> ?_) (fun hm=> ?_)
     ·have hm' :decide (l.length≤4)=true:=by simp at hm ⊢;omega
      simp only [go_sem,seval,n0,n1,n2,m0,m1,m2,e1,hw,hd1,hl0,hc,hv,hm,hm']
      refine ccall q3 (by simp only [go_sem,seval,n0,n1,n2,m0,m1,m2,e1,hw,hd1,hl0,hc,hv,hm,hm']) ?_
      simp only [go_sem,seval,n0,n1,n2,m0,m1,m2,e1,hw,hd1,hl0,hc,hv,hm,hm',Bool.not_not]
      simp only [Hp.put1,updB_upd]
      exact sh _ _ (fun l hl hne=>by simp only [bk_apply,ne3 l hl,hne,if_false]) (by simp only [bk_apply,if_true]) _ (by omega)
     ·have hm' :decide (l.length≤4)=false:=by simp at hm ⊢;omega
      simp only [go_sem,seval,n0,n1,n2,m0,m1,m2,e1,hw,hd1,hl0,hc,hv,hm,hm']
      exact sh _ _ (fun l hl hne=>by simp only [bk_apply,ne3 l hl,hne,if_false]) (by simp only [bk_apply,if_true]) _ (by omega)
    ·simp only [go_sem,seval,n0,n1,n2,m0,m1,m2,e1,hw,hd1,hl0,hc,hv]
     exact sh _ _ (fun l hl hne=>by simp only [bk_apply,ne3 l hl,hne,if_false]) (by simp only [bk_apply,if_true]) _ (by omega)
   ·simp only [go_sem,seval,n0,n1,n2,m0,m1,m2,e1,hw,hd1,hl0,hc]
    exact sh _ _ (fun l hl hne=>by simp only [bk_apply,ne3 l hl,hne,if_false]) (by simp only [bk_apply,if_true]) _ (by omega)
  ·rw [if_neg k3]
   have hk3:(k==3)=false:=by simpa using k3
   refine ⟨fun _=>hl1,by simp only;omega, ?_⟩
   rw [av_mk]
   refine fnC mixed Tryz.func135 c135 (by simp) ?_
   simp only [go_sem,seval,n0,n1,n2,m0,m1,m2,e1,hw,hd1,hl0,hk1,hk2,hk3]
   exact sh _ _ (fun l hl hne=>by simp only [bk_apply,ne3 l hl,hne,if_false]) (by simp only [bk_apply,if_true]) _ (by omega)
end Go.Proofs.YtnibelnjflhkgaaGreatDoor.Ab
namespace Go.Proofs.YtnibelnjflhkgaaGreatDoor.Ab
set_option linter.unusedVariables false
set_option linter.unusedSimpArgs false
set_option maxRecDepth 10000
theorem c134:compF Tryz.prog ow Tryz.f134=(some (15,([(.t 6)],(.seq (.ops [(none,(.set 6 (.bool false)))]) (.seq (.ops [(none,(.cp 7 0)),(none,(.cp 8 1)),(none,(.bin (some 9) .geq (.t 7) (.t 8) false false)),(none,(.cp 10 9)),((some (10,true)),(.cp 11 0)),((some (10,true)),(.cp 12 2)),((some (10,true)),(.bin (some 13) .leq (.t 11) (.t 12) false false)),(none,(.pick (some 14) (.t 10) (.t 13) (.k (.bool false)))),(none,(.mv 6 14))]) .ret))))):=by kernel_rfl
def okN (n:Int):Bool:=betw (-1073741824) 1073741824 n
def mayB (t:T):Bool:=(mayT t 5 24).1
theorem fn_May (t:T) (ht:t.ok):PFn Tryz.prog 89 [t.av] (.bool (mayB t)):=by
 intro h
 refine fnC mixed Tryz.func89 c89 (by simp) ?_
 have n0: ¬h.n=h.n+1:=by omega
 simp only [go_sem,seval]
 obtain ⟨k1,k2,k3⟩:=fn_may t ht 5 24 (h.n+1) ⟨h.n+2,updB (updB h.bk h.n (.cells t.av.cells)) (h.n+1) (.cells [.int .i64 24])⟩ (by omega) (by omega) (by omega) (by simp) (by simp [bk_apply])
 refine ccall k3 (by simp only [go_sem,seval]) ?_
 simp only [Hp.put1]
 simp only [go_sem,seval]
 rfl
theorem fn_Between (n a b:Int):PFn Tryz.prog 134 [.int .i64 n, .int .i64 a, .int .i64 b] (.bool (betw a b n)):=by
 intro h
 refine fnC mixed Tryz.func134 c134 (by simp) ?_
 simp only [go_sem,seval]
 refine cog (fun h1=> ?_) (fun h1=> ?_)
 ·simp only [go_sem,seval,h1]
  simp at h1;simp [betw,h1]
 ·simp only [go_sem,seval,h1]
  simp at h1;simp [betw];omega
end Go.Proofs.YtnibelnjflhkgaaGreatDoor.Ab

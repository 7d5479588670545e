/- Words of a text: the word that a text begins with; the program's words. No condition. Words of a text: all of them, the program's way. No condition. -/
import Derived.Test.YtnibelnjflhkgaaGreatDoorLxA
namespace Go.Proofs.YtnibelnjflhkgaaGreatDoor.Ab
set_option linter.unusedVariables false
set_option linter.unusedSimpArgs false
set_option maxRecDepth 10000
theorem c140:compF Tryz.prog ow Tryz.f140=(some (73,([(.c 2 (.agg 4)),(.t 3),(.t 4)],(.seq (.ops [(none,(.alloc 2 [(.int .i64 0),(.str []),(.int .i64 0),(.int .i64 0)])),(none,(.set 3 (.int .i64 0))),(none,(.set 4 (.int .i64 0)))]) (.seq (.ops [(none,(.set 5 (.func 190 [] [])))]) (.seq (.block 0 (.seq (.ops [(none,(.cp 11 0)),(none,(.idx (some 12) (.t 11) (.k (.int .i64 0)) true none)),(none,(.call (some 13) (.k (.func 191 [] [])) [(.t 12)] none)),(none,(.cp 14 13)),((some (14,false)),(.cp 15 0)),((some (14,false)),(.idx (some 16) (.t 15) (.k (.int .i64 0)) true none)),((some (14,false)),(.call (some 17) (.k (.func 192 [] [])) [(.t 16)] none)),(none,(.pick (some 18) (.t 14) (.k (.bool true)) (.t 17))),(none,(.mv 10 18))]) (.cond (.t 10) (.seq (.ops [(none,(.cp 19 0)),(none,(.cp 20 5)),(none,(.call (some 21) (.k (.func 188 [] [])) [(.t 19),(.t 20)] none)),(none,(.mv 6 21)),(none,(.set 7 (.int .i64 1)))]) (.seq (.seq (.ops [(none,(.cp 22 0)),(none,(.idx (some 23) (.t 22) (.k (.int .i64 0)) true none)),(none,(.call (some 24) (.k (.func 192 [] [])) [(.t 23)] none))]) (.cond (.t 24) (.ops [(none,(.set 7 (.int .i64 2)))]) .skip)) (.seq (.seq (.ops [(none,(.cp 25 6)),(none,(.bin (some 26) .gtr (.t 25) (.k (.int .i64 16)) false false))]) (.cond (.t 26) (.seq (.ops [(none,(.bld (some 27) [(.int .i64 0),(.str []),(.int .i64 0),(.int .i64 0)] [(0,1),(1,1),(2,1),(3,1)] [])),(none,(.st (.t 2) (.t 27) 4)),(none,(.set 3 (.int .i64 0))),(none,(.set 4 (.int .i64 2)))]) .ret) .skip)) (.seq (.ops [(none,(.cp 28 7)),(none,(.cp 29 0)),(none,(.cp 30 6)),(none,(.sl (some 31) (.t 29) none (some (.t 30)) none true none)),(none,(.bld (some 32) [(.int .i64 0),(.str []),(.int .i64 0),(.int .i64 0)] [(0,1),(1,1),(2,1),(3,1)] [(0,(.t 28)),(1,(.t 31))])),(none,(.mv 33 6)),(none,(.st (.t 2) (.t 32) 4)),(none,(.mv 3 33)),(none,(.set 4 (.int .i64 0)))]) .ret)))) (.seq (.ops [(none,(.cp 35 0)),(none,(.idx (some 36) (.t 35) (.k (.int .i64 0)) true none)),(none,(.call (some 37) (.k (.func 193 [] [])) [(.t 36)] none)),(none,(.cp 38 37)),((some (38,false)),(.cp 39 0)),((some (38,false)),(.idx (some 40) (.t 39) (.k (.int .i64 0)) true none)),((some (38,false)),(.bin (some 41) .eql (.t 40) (.k (.int .u8 45)) false false)),((some (38,false)),(.cp 42 41)),((some (42,true)),(.cp 43 0)),((some (42,true)),(.len (some 44) (.t 43) true false)),((some (42,true)),(.bin (some 45) .gtr (.t 44) (.k (.int .i64 1)) false false)),((some (38,false)),(.pick (some 46) (.t 42) (.t 45) (.k (.bool false)))),((some (38,false)),(.cp 47 46)),((some (47,true)),(.cp 48 0)),((some (47,true)),(.idx (some 49) (.t 48) (.k (.int .i64 1)) true none)),((some (47,true)),(.call (some 50) (.k (.func 193 [] [])) [(.t 49)] none)),((some (38,false)),(.pick (some 51) (.t 47) (.t 50) (.k (.bool false)))),(none,(.pick (some 52) (.t 38) (.k (.bool true)) (.t 51))),(none,(.mv 34 52))]) (.cond (.t 34) (.seq (.ops [(none,(.cp 53 0)),(none,(.call (some 54) (.k (.func 194 [] [])) [(.t 53)] none)),(none,(.ext (some 55) (.t 54) 0)),(none,(.ext (some 56) (.t 54) 1)),(none,(.ext (some 57) (.t 54) 2)),(none,(.st (.t 2) (.t 55) 4)),(none,(.mv 3 56)),(none,(.mv 4 57))]) .ret) .skip))))) (.seq (.seq (.ops [(none,(.call (some 58) (.k (.func 181 [] [])) [(.k (.str [40,32,41,32,44,32,46,32,59,32,58,45,32,60,45,32,61,60,32,60,32,61,32,92,61,32,38,32,124,32,64,32,92,43]))] none)),(none,(.len (some 59) (.t 58) false true)),(none,(.set 60 (.int .i64 0)))]) (.block 1 (.loop (.seq (.ops [(none,(.bin (some 61) .lss (.t 60) (.t 59) false false))]) (.seq (.cond (.t 61) .skip (.exit 1)) (.seq (.block 2 (.seq (.ops [(none,(.ia (some 62) (.t 58) (.t 60) (some 1) none)),(none,(.ld (some 63) (.t 62) (.one none))),(none,(.mv 9 63))]) (.seq (.ops [(none,(.cp 64 0)),(none,(.cp 65 9)),(none,(.call (some 66) (.k (.func 195 [] [])) [(.t 64),(.t 65)] none))]) (.cond (.t 66) (.seq (.ops [(none,(.cp 67 9)),(none,(.bld (some 68) [(.int .i64 0),(.str []),(.int .i64 0),(.int .i64 0)] [(0,1),(1,1),(2,1),(3,1)] [(0,(.k (.int .i64 4))),(1,(.t 67))])),(none,(.cp 69 9)),(none,(.len (some 70) (.t 69) true false)),(none,(.st (.t 2) (.t 68) 4)),(none,(.mv 3 70)),(none,(.set 4 (.int .i64 0)))]) .ret) .skip)))) (.ops [(none,(.bin (some 71) .add (.t 60) (.k (.int .i64 1)) false false)),(none,(.cp 60 71))]))))))) (.seq (.ops [(none,(.bld (some 72) [(.int .i64 0),(.str []),(.int .i64 0),(.int .i64 0)] [(0,1),(1,1),(2,1),(3,1)] [])),(none,(.st (.t 2) (.t 72) 4)),(none,(.set 3 (.int .i64 0))),(none,(.set 4 (.int .i64 4)))]) .ret)))))))):=by kernel_rfl
theorem c94:compF Tryz.prog ow Tryz.f94=(some (49,([(.t 2),(.t 3),(.t 4)],(.seq (.ops [(none,(.set 2 (.sl .full 4 []))),(none,(.set 3 (.int .i64 0))),(none,(.set 4 (.int .i64 0)))]) (.seq (.seq (.ops [(none,(.cp 8 0)),(none,(.len (some 9) (.t 8) true false)),(none,(.bin (some 10) .gtr (.t 9) (.k (.int .i64 4000)) false false))]) (.cond (.t 10) (.seq (.ops [(none,(.set 2 (.sl .full 4 []))),(none,(.set 3 (.int .i64 0))),(none,(.set 4 (.int .i64 2)))]) .ret) .skip)) (.seq (.ops [(none,(.cp 11 0)),(none,(.call (some 12) (.k (.func 139 [] [])) [(.t 11)] none)),(none,(.mv 3 12))]) (.seq (.block 0 (.loop (.seq (.seq (.ops [(none,(.cp 13 3)),(none,(.cp 14 0)),(none,(.len (some 15) (.t 14) true false)),(none,(.bin (some 16) .lss (.t 13) (.t 15) false false))]) (.cond (.t 16) .skip (.exit 0))) (.block 1 (.seq (.ops [(none,(.cp 18 0)),(none,(.cp 19 3)),(none,(.sl (some 20) (.t 18) (some (.t 19)) none none true none)),(none,(.call (some 21) (.k (.func 140 [] [])) [(.t 20)] none)),(none,(.cp 17 21)),(none,(.ext (some 22) (.t 17) 0)),(none,(.ext (some 23) (.t 17) 1)),(none,(.ext (some 24) (.t 17) 2)),(none,(.alloc 5 [(.int .i64 0),(.str []),(.int .i64 0),(.int .i64 0)])),(none,(.st (.t 5) (.t 22) 4)),(none,(.mv 6 23)),(none,(.mv 7 24))]) (.seq (.seq (.ops [(none,(.cp 25 7)),(none,(.bin (some 26) .neq (.t 25) (.k (.int .i64 0)) false false))]) (.cond (.t 26) (.seq (.ops [(none,(.mv 27 3)),(none,(.mv 28 7)),(none,(.set 2 (.sl .full 4 []))),(none,(.mv 3 27)),(none,(.mv 4 28))]) .ret) .skip)) (.seq (.ops [(none,(.cp 29 3)),(none,(.fa (some 30) (.t 5) 3)),(none,(.st (.t 30) (.t 29) 1))]) (.seq (.ops [(none,(.mv 31 2)),(none,(.ld (some 32) (.t 5) (.agg 4))),(none,(.bs 33 4 [(.t 32)])),(none,(.app 34 (.t 31) (.t 33) 4 40 true true)),(none,(.mv 2 34))]) (.seq (.ops [(none,(.cp 35 3)),(none,(.cp 36 6)),(none,(.bin (some 37) .add (.t 35) (.t 36) false false)),(none,(.mv 3 37))]) (.ops [(none,(.cp 38 3)),(none,(.cp 39 0)),(none,(.cp 40 3)),(none,(.sl (some 41) (.t 39) (some (.t 40)) none none true none)),(none,(.call (some 42) (.k (.func 139 [] [])) [(.t 41)] none)),(none,(.bin (some 43) .add (.t 38) (.t 42) false false)),(none,(.mv 3 43))])))))))))) (.seq (.ops [(none,(.mv 44 2)),(none,(.cp 45 3)),(none,(.bld (some 46) [(.int .i64 0),(.str []),(.int .i64 0),(.int .i64 0)] [(0,1),(1,1),(2,1),(3,1)] [(0,(.k (.int .i64 5))),(3,(.t 45))])),(none,(.bs 47 4 [(.t 46)])),(none,(.app 48 (.t 44) (.t 47) 4 40 true true)),(none,(.mv 2 48)),(none,(.set 3 (.int .i64 0))),(none,(.set 4 (.int .i64 0)))]) .ret)))))))):=by kernel_rfl
theorem marks_small: ∀m∈marksL,m.length<1000:=by decide
set_option maxHeartbeats 1000000 in
theorem fnl_word (s:List UInt8) (hs:s.length<1000000000) (c:UInt8) (r:List UInt8) (he:s=c::r):PFn Tryz.prog 140 [.str s] (.tup (wdA (wordW s))):=by
 intro h
 have hx:s[0]? =some c:=by rw [he];rfl
 have hx0:s[(0:Int).toNat]? =some c:=hx
 have hS:=fnl_small (c.toNat:Nat)
 have hG:=fnl_great (c.toNat:Nat)
 have hD:=fnl_digit (c.toNat:Nat)
 have q45:=u8_eqb c 45 (by omega)
 simp only [Int.cast_ofNat_Int,UInt8.reduceOfNat] at q45
 have hI:=fnl_span s 190 innB fnl_inner (by omega)
 have n0: ¬(h.n=h.n+1):=by omega
 have hW:wordW s=(if smaB c||greB c then (if spanN innB s>16 then .bad 2 else .tok (if greB c then 2 else 1) (s.take (spanN innB s)) 0 (spanN innB s)) else if digB c then numW 0 s else if c==45&&digAt r then numW 1 s else markW s):=by rw [he];rfl
 rw [hW]
 have hM:=fnl_marks
 simp only [marksT] at hM
 have hle:=spanN_le innB s
 have hgr:greB c=inR 65 90 (c.toNat:Nat):=rfl
 have hnum0:c≠45→PFn Tryz.prog 194 [.str s] (.tup (wdA (numW 0 s))):=fun hc=>fnl_number s hs c r he 0 (by rw [if_neg hc])
 have hnum1:c=45→PFn Tryz.prog 194 [.str s] (.tup (wdA (numW 1 s))):=fun hc=>fnl_number s hs c r he 1 (by rw [if_pos hc])
 have hd45:digB c=true→c≠45:=fun h1 h2=>by rw [h2] at h1;revert h1;decide
 unfold smaB
 generalize hb1:inR 97 122 (c.toNat:Nat)=b1 at *
 generalize hb2:greB c=b2 at *
 rw [←hgr] at hG
 have hD' :PFn Tryz.prog 193 [.int .u8 (c.toNat:Nat)] (.bool (digB c)):=hD
 clear hD
 generalize hb3:digB c=b3 at *
 generalize hsp:spanN innB s=m at *
 refine fnC mixed Tryz.func140 c140 (by simp) ?_
 simp only [go_sem,seval,hx,hx0,Int.le_refl]
 refine pcall hS (by simp only [go_sem,seval]) ?_
 cases b1 with
 |true=>
  simp only [Bool.true_or,if_true]
  simp only [go_sem,seval]
  refine pcall hI (by simp only [go_sem,seval]) ?_
  simp only [go_sem,seval,hx,hx0,Int.le_refl]
  refine pcall hG (by simp only [go_sem,seval]) ?_
  rw [apply_ite wdA,apply_ite AV.tup]
  by_cases hbig:m>16
  ·have hb:decide ((m:Int)>16)=true:=decide_eq_true (by omega)
   rw [if_pos hbig]
   unfold wdA
   first
    |(simp only [go_sem,seval,hb];done)
    |(cases b2 with
     |true=>simp only [go_sem,seval,hb]
     |false=>simp only [go_sem,seval,hb])
  ·have hb:decide ((m:Int)>16)=false:=decide_eq_false (by omega)
   rw [if_neg hbig]
   unfold wdA
   first
    |(simp only [go_sem,seval,hb,hle,Nat.sub_zero];done)
    |(cases b2 with
     |true=>simp only [go_sem,seval,hb,hle,Nat.sub_zero]
     |false=>simp only [go_sem,seval,hb,hle,Nat.sub_zero])
 |false=>
  simp only [Bool.false_or]
  simp only [go_sem,seval,hx,hx0,Int.le_refl]
  refine pcall hG (by simp only [go_sem,seval]) ?_
  cases b2 with
  |true=>
   simp only [if_true]
   simp only [go_sem,seval]
   refine pcall hI (by simp only [go_sem,seval]) ?_
   simp only [go_sem,seval,hx,hx0,Int.le_refl]
   refine pcall hG (by simp only [go_sem,seval]) ?_
   rw [apply_ite wdA,apply_ite AV.tup]
   by_cases hbig:m>16
   ·have hb:decide ((m:Int)>16)=true:=decide_eq_true (by omega)
    rw [if_pos hbig]
    unfold wdA
    first
     |(simp only [go_sem,seval,hb];done)
     |(cases b2 with
      |true=>simp only [go_sem,seval,hb]
      |false=>simp only [go_sem,seval,hb])
   ·have hb:decide ((m:Int)>16)=false:=decide_eq_false (by omega)
    rw [if_neg hbig]
    unfold wdA
    first
     |(simp only [go_sem,seval,hb,hle,Nat.sub_zero];done)
     |(cases b2 with
      |true=>simp only [go_sem,seval,hb,hle,Nat.sub_zero]
      |false=>simp only [go_sem,seval,hb,hle,Nat.sub_zero])
  |false=>
   simp only [Bool.false_eq_true,if_false]
   simp only [go_sem,seval,hx,hx0,Int.le_refl]
   refine pcall hD' (by simp only [go_sem,seval]) ?_
   cases b3 with
   |true=>
    simp only [if_true]
    have hn:=hnum0 (hd45 rfl)
    generalize numW 0 s=w at hn ⊢
    cases w with
    |tok k t n len=>unfold wdA at hn ⊢;simp only [go_sem,seval];refine pcall hn (by simp only [go_sem,seval]) ?_;simp only [go_sem,seval]
    |bad e=>unfold wdA at hn ⊢;simp only [go_sem,seval];refine pcall hn (by simp only [go_sem,seval]) ?_;simp only [go_sem,seval]
   |false=>
    simp only [Bool.false_eq_true,if_false]
    rcases Bool.eq_false_or_eq_true (c==45) with hm|hm
    rotate_left
    ·rw [hm] at q45
     simp only [hm,Bool.false_and,Bool.false_eq_true,if_false]
     simp only [go_sem,seval,hx,hx0,Int.le_refl,q45]
     refine pcall hM (by simp only [go_sem,seval]) ?_
     simp only [go_sem,seval]
     refine cloop (fun k t=> ∃i:Nat,i+k=marksL.length∧t.fr 0= .str s∧t.fr 2= .ptr h.n 0∧t.fr 58= .sl .sh 1 (marksL.map AV.str)∧t.fr 59= .int .i64 (marksL.length:Nat)∧t.fr 60= .int .i64 (i:Nat)∧(marksL.drop i).find? (·.isPrefixOf s)=marksL.find? (·.isPrefixOf s)∧t.hp=⟨h.n+1,updB h.bk h.n (.cells [.int .i64 0, .str [], .int .i64 0, .int .i64 0])⟩) marksL.length ⟨0,by simp,by simp [fr_apply,argsF],by simp [fr_apply,argsF],by simp [fr_apply],by simp [fr_apply],by simp [fr_apply],by simp,by simp⟩ ?_
     rintro k ⟨F,hp⟩ ⟨i,hk,f0,f2,f58,f59,f60,hf,rfl⟩
     simp only at f0 f2 f58 f59 f60
     by_cases hi:i<marksL.length
     ·have hi' :decide ((i:Int)<(marksL.length:Int))=true:=decide_eq_true (by omega)
      have hw:IntKind.i64.wrap ((i:Int)+1)=((i+1:Nat):Int):=by
       have:marksL.length=15:=rfl
       rw [wrap64]<;>omega
      have hxm:(marksL.map AV.str)[i]? =some (.str marksL[i]):=by simp [hi]
      have hms:=marks_small _ (List.getElem_mem hi)
      rw [drop_cons hi,List.find?_cons] at hf
      generalize marksL[i]=mk at hxm hms hf
      have hP:=fnl_prefix s mk (by omega) hms
      simp only [go_sem,seval,f0,f2,f58,f59,f60,hi',hxm]
      refine pcall hP (by simp only [go_sem,seval]) ?_
      rcases Bool.eq_false_or_eq_true (mk.isPrefixOf s) with hp1|hp1
      ·rw [hp1] at hf
       simp only at hf
       unfold markW
       rw [←hf]
       unfold wdA
       simp only [go_sem,seval,f0,f2,f58,f59,f60,hp1]
      ·rw [hp1] at hf
       simp only at hf
       simp only [go_sem,seval,f0,f2,f58,f59,f60,hp1,hw]
       exact ⟨k-1,by omega,i+1,by omega,rfl,hf⟩
     ·have hi' :decide ((i:Int)<(marksL.length:Int))=false:=decide_eq_false (by omega)
      rw [List.drop_eq_nil_of_le (by omega)] at hf
      unfold markW
      rw [←hf]
      unfold wdA
      simp only [go_sem,seval,f0,f2,f58,f59,f60,hi',List.find?_nil]
    ·rw [hm] at q45
     have hc:c=45:=by simpa using hm
     simp only [hm,Bool.true_and]
     rcases r with _|⟨d,r⟩
     ·have hl:decide ((s.length:Int)>1)=false:=decide_eq_false (by rw [he];simp)
      simp only [digAt,Bool.false_eq_true,if_false]
      simp only [go_sem,seval,hx,hx0,Int.le_refl,q45,hl]
      refine pcall hM (by simp only [go_sem,seval]) ?_
      simp only [go_sem,seval]
      refine cloop (fun k t=> ∃i:Nat,i+k=marksL.length∧t.fr 0= .str s∧t.fr 2= .ptr h.n 0∧t.fr 58= .sl .sh 1 (marksL.map AV.str)∧t.fr 59= .int .i64 (marksL.length:Nat)∧t.fr 60= .int .i64 (i:Nat)∧(marksL.drop i).find? (·.isPrefixOf s)=marksL.find? (·.isPrefixOf s)∧t.hp=⟨h.n+1,updB h.bk h.n (.cells [.int .i64 0, .str [], .int .i64 0, .int .i64 0])⟩) marksL.length ⟨0,by simp,by simp [fr_apply,argsF],by simp [fr_apply,argsF],by simp [fr_apply],by simp [fr_apply],by simp [fr_apply],by simp,by simp⟩ ?_
      rintro k ⟨F,hp⟩ ⟨i,hk,f0,f2,f58,f59,f60,hf,rfl⟩
      simp only at f0 f2 f58 f59 f60
      by_cases hi:i<marksL.length
      ·have hi' :decide ((i:Int)<(marksL.length:Int))=true:=decide_eq_true (by omega)
       have hw:IntKind.i64.wrap ((i:Int)+1)=((i+1:Nat):Int):=by
        have:marksL.length=15:=rfl
        rw [wrap64]<;>omega
       have hxm:(marksL.map AV.str)[i]? =some (.str marksL[i]):=by simp [hi]
       have hms:=marks_small _ (List.getElem_mem hi)
       rw [drop_cons hi,List.find?_cons] at hf
       generalize marksL[i]=mk at hxm hms hf
       have hP:=fnl_prefix s mk (by omega) hms
       simp only [go_sem,seval,f0,f2,f58,f59,f60,hi',hxm]
       refine pcall hP (by simp only [go_sem,seval]) ?_
       rcases Bool.eq_false_or_eq_true (mk.isPrefixOf s) with hp1|hp1
       ·rw [hp1] at hf
        simp only at hf
        unfold markW
        rw [←hf]
        unfold wdA
        simp only [go_sem,seval,f0,f2,f58,f59,f60,hp1]
       ·rw [hp1] at hf
        simp only at hf
        simp only [go_sem,seval,f0,f2,f58,f59,f60,hp1,hw]
        exact ⟨k-1,by omega,i+1,by omega,rfl,hf⟩
      ·have hi' :decide ((i:Int)<(marksL.length:Int))=false:=decide_eq_false (by omega)
       rw [List.drop_eq_nil_of_le (by omega)] at hf
       unfold markW
       rw [←hf]
       unfold wdA
       simp only [go_sem,seval,f0,f2,f58,f59,f60,hi',List.find?_nil]
     ·have hl:decide ((s.length:Int)>1)=true:=decide_eq_true (by rw [he];simp;omega)
      have hx1:s[(1:Int).toNat]? =some d:=by rw [he];rfl
      have hx2:s[1]? =some d:=hx1
      have h01:(0:Int)≤1:=by omega
      have hD2:PFn Tryz.prog 193 [.int .u8 (d.toNat:Nat)] (.bool (digB d)):=fnl_digit _
      simp only [digAt]
      rcases Bool.eq_false_or_eq_true (digB d) with hb4|hb4
      rotate_left
      ·rw [hb4] at hD2
       simp only [hb4,Bool.false_eq_true,if_false]
       simp only [go_sem,seval,hx,hx0,Int.le_refl,q45,hl,hx1,hx2,h01]
       refine pcall hD2 (by simp only [go_sem,seval]) ?_
       simp only [go_sem,seval]
       refine pcall hM (by simp only [go_sem,seval]) ?_
       simp only [go_sem,seval]
       refine cloop (fun k t=> ∃i:Nat,i+k=marksL.length∧t.fr 0= .str s∧t.fr 2= .ptr h.n 0∧t.fr 58= .sl .sh 1 (marksL.map AV.str)∧t.fr 59= .int .i64 (marksL.length:Nat)∧t.fr 60= .int .i64 (i:Nat)∧(marksL.drop i).find? (·.isPrefixOf s)=marksL.find? (·.isPrefixOf s)∧t.hp=⟨h.n+1,updB h.bk h.n (.cells [.int .i64 0, .str [], .int .i64 0, .int .i64 0])⟩) marksL.length ⟨0,by simp,by simp [fr_apply,argsF],by simp [fr_apply,argsF],by simp [fr_apply],by simp [fr_apply],by simp [fr_apply],by simp,by simp⟩ ?_
       rintro k ⟨F,hp⟩ ⟨i,hk,f0,f2,f58,f59,f60,hf,rfl⟩
       simp only at f0 f2 f58 f59 f60
       by_cases hi:i<marksL.length
       ·have hi' :decide ((i:Int)<(marksL.length:Int))=true:=decide_eq_true (by omega)
        have hw:IntKind.i64.wrap ((i:Int)+1)=((i+1:Nat):Int):=by
         have:marksL.length=15:=rfl
         rw [wrap64]<;>omega
        have hxm:(marksL.map AV.str)[i]? =some (.str marksL[i]):=by simp [hi]
        have hms:=marks_small _ (List.getElem_mem hi)
        rw [drop_cons hi,List.find?_cons] at hf
        generalize marksL[i]=mk at hxm hms hf
        have hP:=fnl_prefix s mk (by omega) hms
        simp only [go_sem,seval,f0,f2,f58,f59,f60,hi',hxm]
        refine pcall hP (by simp only [go_sem,seval]) ?_
        rcases Bool.eq_false_or_eq_true (mk.isPrefixOf s) with hp1|hp1
        ·rw [hp1] at hf
         simp only at hf
         unfold markW
         rw [←hf]
         unfold wdA
         simp only [go_sem,seval,f0,f2,f58,f59,f60,hp1]
        ·rw [hp1] at hf
         simp only at hf
         simp only [go_sem,seval,f0,f2,f58,f59,f60,hp1,hw]
         exact ⟨k-1,by omega,i+1,by omega,rfl,hf⟩
       ·have hi' :decide ((i:Int)<(marksL.length:Int))=false:=decide_eq_false (by omega)
        rw [List.drop_eq_nil_of_le (by omega)] at hf
        unfold markW
        rw [←hf]
        unfold wdA
        simp only [go_sem,seval,f0,f2,f58,f59,f60,hi',List.find?_nil]
      ·rw [hb4] at hD2
       simp only [hb4,if_true]
       have hn:=hnum1 hc
       simp only [go_sem,seval,hx,hx0,Int.le_refl,q45,hl,hx1,hx2,h01]
       refine pcall hD2 (by simp only [go_sem,seval]) ?_
       clear hnum1
       generalize numW 1 s=w at hn ⊢
       cases w with
       |tok k t n len=>unfold wdA at hn ⊢;simp only [go_sem,seval];refine pcall hn (by simp only [go_sem,seval]) ?_;simp only [go_sem,seval]
       |bad e=>unfold wdA at hn ⊢;simp only [go_sem,seval];refine pcall hn (by simp only [go_sem,seval]) ?_;simp only [go_sem,seval]
end Go.Proofs.YtnibelnjflhkgaaGreatDoor.Ab
namespace Go.Proofs.YtnibelnjflhkgaaGreatDoor.Ab
set_option linter.unusedVariables false
set_option linter.unusedSimpArgs false
set_option maxRecDepth 10000
def flK:List Tk→Fl| []=> .full|_=> .sh
def flL:List Tk→Fl| []=> .full|_=> .own
def tkA (R:List Tk×Nat×Int):List AV:= [.sl (flK R.1) 4 (R.1.map Tk.av), .int .i64 (R.2.1:Nat), .int .i64 R.2.2]
def toksG (f p:Nat) (s:List UInt8) (acc:List Tk):List Tk×Nat×Int:=
 if s= [] then (acc++ [⟨5, [],0,p⟩],0,0)
 else match wordW s with
  | .bad e=>([],p,e)
  | .tok k t n len=>toksF f (p+len) (s.drop len) (acc++ [⟨k,t,n,p⟩])
theorem toksF_succ (f p:Nat) (s:List UInt8) (acc:List Tk):toksF (f+1) p s acc=toksG f (p+skipN false s) (s.drop (skipN false s)) acc:=by rw [toksF];rfl
theorem lab_tks (n:Nat) (l:List Tk):labL n (l.map Tk.av)=true:=by
 refine labL_all.2 fun c hc=> ?_
 obtain ⟨f,_,rfl⟩:=List.mem_map.1 hc
 rfl
theorem wordW_bad {s:List UInt8} {e:Int} (h:wordW s= .bad e):(e !=0)=true:=by
 have h2: ∀sg,numW sg s= .bad e→(e !=0)=true:=fun sg h=>by unfold numW at h;split at h<;>cases h;rfl
 have h3:markW s= .bad e→(e !=0)=true:=fun h=>by unfold markW at h;split at h<;>cases h;rfl
 unfold wordW at h
 split at h
 ·cases h;rfl
 ·split at h
  ·split at h<;>cases h;rfl
  split at h
  ·exact h2 _ h
  split at h
  ·exact h2 _ h
  ·exact h3 h
set_option maxHeartbeats 1000000 in
theorem fnl_Tokens (s:List UInt8) (hs:s.length<1000000000000000):PFn Tryz.prog 94 [.str s] (.tup (tkA (toks s))):=by
 intro h
 refine fnC mixed Tryz.func94 c94 (by simp) ?_
 unfold toks
 by_cases hbig:s.length>4000
 ·have hb:decide ((s.length:Int)>4000)=true:=decide_eq_true (by omega)
  rw [if_pos hbig]
  unfold tkA
  simp only [go_sem,seval,hb]
  exact .inl rfl
 have hb:decide ((s.length:Int)>4000)=false:=decide_eq_false (by omega)
 rw [if_neg hbig,toksF_succ,Nat.zero_add]
 have hsk:=skipN_le false s
 have hP0:=fnl_passed s hs
 generalize hR:toksG s.length (skipN false s) (s.drop (skipN false s)) []=R
 generalize skipN false s=p0 at *
 simp only [go_sem,seval,hb]
 refine pcall hP0 (by simp only [go_sem,seval]) ?_
 simp only [go_sem,seval]
 refine cloop (fun k t=> ∃(p:Nat) (acc:List Tk),p≤s.length∧s.length≤k+p∧acc.length≤p∧t.fr 0= .str s∧t.fr 2= .sl (flL acc) 4 (acc.map Tk.av)∧t.fr 3= .int .i64 (p:Nat)∧toksG k p (s.drop p) acc=R∧h.n≤t.hp.n∧Shrink h t.hp h) s.length ⟨p0, [],hsk,by omega,by simp,by simp [fr_apply,argsF],by simp [fr_apply,flL],by simp [fr_apply],hR,by simp,shrink_refl h⟩ ?_
 clear hR
 rintro k ⟨F,hp⟩ ⟨p,acc,hpl,hk,hal,f0,f2,f3,hR,hn,hsh⟩
 simp only at f0 f2 f3 hn hsh
 by_cases hi:p<s.length
 ·have hi' :decide ((p:Int)<(s.length:Int))=true:=decide_eq_true (by omega)
  have htk:(s.drop p).take (s.length-p)=s.drop p:=List.take_of_length_le (by simp)
  have hd:=drop_cons hi
  have hW:=fnl_word (s.drop p) (by simp;omega) _ _ hd
  have hne: ¬s.drop p= []:=fun e=>by have:=congrArg List.length e;simp at this;omega
  have hsg:=shrink_grow (n:=hp.n+1) hsh (by omega)
  have hWl:=fun k t n len=>wordW_len (s:=s.drop p) (k:=k) (t:=t) (n:=n) (len:=len)
  have hWe:=fun e=>wordW_bad (s:=s.drop p) (e:=e)
  rw [toksG,if_neg hne] at hR
  generalize wordW (s.drop p)=w at hW hR hWl hWe
  have hple:p≤s.length:=hpl
  cases w with
  |bad e=>
   simp only at hR
   subst hR
   have he0:(e !=0)=true:=hWe e rfl
   unfold wdA at hW
   unfold tkA
   simp only [go_sem,seval,f0,f2,f3,hi',htk,hple]
   refine pcall hW (by simp only [go_sem,seval]) ?_
   simp only [go_sem,seval,f0,f2,f3,he0]
   refine ⟨.inl rfl, ?_⟩
   simp [shrink_upd,hsg,hn]
  |tok tk tt tn len=>
   obtain ⟨hl1,hl2⟩:=hWl _ _ _ _ rfl
   rw [List.length_drop] at hl2
   simp only at hR
   obtain ⟨k',rfl⟩: ∃k',k=k' +1:=⟨k-1,by omega⟩
   rw [toksF_succ,List.drop_drop,List.drop_drop] at hR
   have hP:=fnl_passed (s.drop (p+len)) (by simp;omega)
   have hsk2:=skipN_le false (s.drop (p+len))
   rw [List.length_drop] at hsk2
   have htk2:(s.drop (p+len)).take (s.length-(p+len))=s.drop (p+len):=List.take_of_length_le (by simp)
   generalize skipN false (s.drop (p+len))=q at *
   have hpl2:p+len≤s.length:=by omega
   have w1:IntKind.i64.wrap ((p:Int)+(len:Int))=((p+len:Nat):Int):=by rw [wrap64]<;>omega
   have w2:IntKind.i64.wrap (((p+len:Nat):Int)+(q:Int))=((p+len+q:Nat):Int):=by rw [wrap64]<;>omega
   have a1:(acc.length+1) * 40≤140737488355328:=by omega
   have a2:acc.length≤9223372036854775806:=by omega
   unfold wdA at hW
   cases acc with
   |nil=>
    simp only [flL,List.map_nil] at f2
    have a3:1 * 40≤140737488355328:=by omega
    simp only [go_sem,seval,f0,f2,f3,hi',htk,hple]
    refine pcall hW (by simp only [go_sem,seval]) ?_
    simp only [go_sem,seval,f0,f2,f3,a3,Int.le_refl,w1,hpl2,htk2]
    refine pcall hP (by simp only [go_sem,seval]) ?_
    simp only [go_sem,seval,f0,f2,f3,w2]
    exact ⟨k',by omega,p+(len+q), [⟨tk,tt,tn,p⟩],by omega,by omega,by simp;omega,rfl,rfl,by rw [←Nat.add_assoc];exact hR,by omega,by simp [shrink_upd,hsg,hn]⟩
   |cons x acc=>
    simp only [flL] at f2
    have a4:(acc.length+2) * 40≤140737488355328:=by simp at a1;omega
    have a5:acc.length≤9223372036854775805:=by simp at a2;omega
    simp only [go_sem,seval,f0,f2,f3,hi',htk,hple]
    refine pcall hW (by simp only [go_sem,seval]) ?_
    simp only [go_sem,seval,f0,f2,f3,a1,a2,a4,a5,w1,hpl2,htk2]
    refine pcall hP (by simp only [go_sem,seval]) ?_
    simp only [go_sem,seval,f0,f2,f3,w2]
    exact ⟨k',by omega,p+(len+q),x::acc++ [⟨tk,tt,tn,p⟩],by omega,by omega,by simp at hal ⊢;omega,by simp [flL,Tk.av],rfl,by rw [←Nat.add_assoc];exact hR,by omega,by simp [shrink_upd,hsg,hn]⟩
 ·have hi' :decide ((p:Int)<(s.length:Int))=false:=decide_eq_false (by omega)
  rw [toksG,if_pos (List.drop_eq_nil_of_le (by omega))] at hR
  subst hR
  unfold tkA
  have a1:(acc.length+1) * 40≤140737488355328:=by omega
  have a2:acc.length≤9223372036854775806:=by omega
  have lb:=lab_tks h.n acc
  cases acc with
  |nil=>
   simp only [flL,List.map_nil] at f2
   have a3:1 * 40≤140737488355328:=by omega
   simp only [go_sem,seval,f0,f2,f3,hi',a3,Int.le_refl]
   exact ⟨by simp [flK,Tk.av],rfl,hsh⟩
  |cons x acc=>
   simp only [flL] at f2
   have a4:(acc.length+2) * 40≤140737488355328:=by simp at a1;omega
   have a5:acc.length≤9223372036854775805:=by simp at a2;omega
   simp only [go_sem,seval,f0,f2,f3,hi',a1,a2,a4,a5]
   exact ⟨by simp [flK,Tk.av],by have:=lab_tks h.n (x::(acc++ [⟨5, [],0,p⟩]));simpa [labL] using this,hsh⟩
end Go.Proofs.YtnibelnjflhkgaaGreatDoor.Ab

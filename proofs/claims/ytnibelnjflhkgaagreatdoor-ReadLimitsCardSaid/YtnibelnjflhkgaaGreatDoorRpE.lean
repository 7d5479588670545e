/- The document's reader over states: a rule, as plain data. No condition. The document's reader over states: a rule. No condition. The document's reader over states: items, as plain data. No condition. -/
import Derived.Test.YtnibelnjflhkgaaGreatDoorRpD
namespace Go.Proofs.YtnibelnjflhkgaaGreatDoor.Ab
set_option linter.unusedVariables false
set_option linter.unusedSimpArgs false
def grE (n:Nat):Bool:=decide ((n:Int)>4)
def grL (ts:List Tk) (d:Int):Nat→List Gu→St→List Gu×Int×St
 |0,gs,s=>(gs,0,s)
 |m+1,gs,s=>
  match guardF ts ⟨s,d⟩ with
  |(g,s1)=>if s1.er.isNone=true then
    (if takeS ts [44] (limF (grE (gs++ [g]).length) (tkS ts s).p s1)=true then
     (if (polK ts (goS ts [44] (limF (grE (gs++ [g]).length) (tkS ts s).p s1))==0)=true then grL ts d m (gs++ [g]) (goS ts [44] (limF (grE (gs++ [g]).length) (tkS ts s).p s1))
     else (gs++ [g],polK ts (goS ts [44] (limF (grE (gs++ [g]).length) (tkS ts s).p s1)),⟨(goS ts [44] (limF (grE (gs++ [g]).length) (tkS ts s).p s1)).i+1,(goS ts [44] (limF (grE (gs++ [g]).length) (tkS ts s).p s1)).er⟩))
    else (gs++ [g],0,limF (grE (gs++ [g]).length) (tkS ts s).p s1))
   else (gs,0,s1)
def endPF (ts:List Tk) (s:St):Int×St:=
 if (s.er.isNone&&isN (tkS ts s) (poS 0))=true then (1,⟨s.i+1,s.er⟩)
 else if (s.er.isNone&&isN (tkS ts s) (poS 1))=true then (2,⟨s.i+1,s.er⟩)
 else (0,if s.er.isNone=true then failS (tkS ts s).p 4 s else s)
def ruGF (ts:List Tk) (d:Int) (s:St):List Gu×Int×St:=
 if (s.er.isNone&&isN (tkS ts s) whereT)=true then grL ts d ts.length [] ⟨s.i+1,s.er⟩ else ([],(endPF ts s).1,(endPF ts s).2)
def ruWF (ts:List Tk) (d:Int) (s:St):Int×List Gu×Int×St:=
 if s.er.isNone=true then
  (if takeS ts [44] ⟨s.i+1,s.er⟩=true then ((tkS ts s).n,ruGF ts d (goS ts [44] ⟨s.i+1,s.er⟩)) else ((tkS ts s).n, [],0,⟨s.i+1,s.er⟩))
 else (0, [],0,s)
def ruNF (ts:List Tk) (s:St):St:=if (s.er.isNone&&(tkS ts s).k !=3)=true then failS (tkS ts s).p 4 s else s
def ruEF (ts:List Tk) (t:T) (p:Pn) (r:Int×List Gu×Int×St):Ru×St:=(⟨t,p,r.2.1,r.1,r.2.2.1⟩,r.2.2.2)
def ruMF (ts:List Tk) (s:St):St:=needK ts 1 withinT (needS ts [44] s)
def ruleF (ts:List Tk) (t:T) (x:Sf):Ru×Sf:=
 ((ruEF ts t (patF ts 101 x).1 (ruWF ts (patF ts 101 x).2.d (ruNF ts (ruMF ts (patF ts 101 x).2.s)))).1,⟨(ruEF ts t (patF ts 101 x).1 (ruWF ts (patF ts 101 x).2.d (ruNF ts (ruMF ts (patF ts 101 x).2.s)))).2,(patF ts 101 x).2.d⟩)
theorem needK_st {ts:List Tk} {k:Int} {c:List UInt8} {s:St} (h:(needK ts k c s).er=none):s.er=none:=by obtain ⟨i,er⟩:=s;cases er<;>simp [needK] at h ⊢
theorem needK_i (ts:List Tk) (k:Int) (c:List UInt8) (s:St):s.i≤(needK ts k c s).i:=by
 obtain ⟨i,er⟩:=s
 cases er with
 |some e=>exact Nat.le_refl _
 |none=>unfold needK;simp only;split<;>simp
theorem isN_ne5 {t:Tk} {c:List UInt8} (h:isN t c=true):(t.k !=5)=true:=by unfold isN at h;simp at h;rw [h.1];rfl
theorem one_more {ts:List Tk} (W:Wds ts) {s:St} (h:SOk ts s) (hk:((tkS ts s).k !=5)=true):SOk ts ⟨s.i+1,s.er⟩:=⟨W.Nx s.i _ (tkS_get h) hk,h.2⟩
theorem polK_k {ts:List Tk} {s:St} (h:(polK ts s==0)=false):((tkS ts s).k !=5)=true:=by
 unfold polK at h;split at h
 ·rename_i e;simp only [Bool.and_eq_true,beq_iff_eq] at e;rw [e.2.1];rfl
 ·cases h
theorem grL_ok {ts:List Tk} (W:Wds ts) {d:Int} : ∀(m:Nat) (gs:List Gu) (s:St),FOk ts ⟨s,d⟩→SOk ts (grL ts d m gs s).2.2∧s.i≤(grL ts d m gs s).2.2.i∧((grL ts d m gs s).2.2.er=none→s.er=none)
 |0,gs,s,h=>⟨h.1,Nat.le_refl _,fun e=>e⟩
 |m+1,gs,s,h=>by
  obtain ⟨k1,k2,k3⟩:=guardF_ok W h
  rw [grL]
  generalize guardF ts ⟨s,d⟩=R at *
  obtain ⟨g,s1⟩:=R
  simp only at k1 k2 k3 ⊢
  split
  ·obtain ⟨k4,k5,k6⟩:=limF_ok (b:=grE (gs++ [g]).length) (p:=(tkS ts s).p) k1
   generalize limF (grE (gs++ [g]).length) (tkS ts s).p s1=s2 at *
   have k7:=goS_ok (c:= [44]) W.Nx k4
   have k8:=goS_i ts [44] s2
   have k9:=fun e=>goS_st (ts:=ts) (c:= [44]) (s:=s2) e
   split
   ·generalize goS ts [44] s2=s3 at *
    split
    ·obtain ⟨a1,a2,a3⟩:=grL_ok (d:=d) W m (gs++ [g]) s3 (h.to k7 (fun e=>k3 (k6 (k9 e))))
     exact ⟨a1,by omega,fun e=>k3 (k6 (k9 (a3 e)))⟩
    ·rename_i e
     exact ⟨one_more W k7 (polK_k (Bool.eq_false_iff.2 e)),by simp only;omega,fun e=>k3 (k6 (k9 e))⟩
   ·exact ⟨k4,by simp only;omega,fun e=>k3 (k6 e)⟩
  ·exact ⟨k1,k2,k3⟩
theorem endPF_ok {ts:List Tk} (W:Wds ts) {s:St} (h:SOk ts s):SOk ts (endPF ts s).2∧s.i≤(endPF ts s).2.i∧((endPF ts s).2.er=none→s.er=none):=by
 unfold endPF
 split
 ·rename_i e;simp only [Bool.and_eq_true] at e;exact ⟨one_more W h (isN_ne5 e.2),by simp only;omega,fun e=>e⟩
 split
 ·rename_i e;simp only [Bool.and_eq_true] at e;exact ⟨one_more W h (isN_ne5 e.2),by simp only;omega,fun e=>e⟩
 ·simp only;split
  ·exact ⟨failS_ok h (by decide),by rw [failS_i];exact Nat.le_refl _,fun e=>failS_st e⟩
  ·exact ⟨h,Nat.le_refl _,fun e=>e⟩
theorem ruGF_ok {ts:List Tk} (W:Wds ts) {d:Int} {s:St} (h:FOk ts ⟨s,d⟩):SOk ts (ruGF ts d s).2.2∧s.i≤(ruGF ts d s).2.2.i∧((ruGF ts d s).2.2.er=none→s.er=none):=by
 unfold ruGF;split
 ·rename_i e;simp only [Bool.and_eq_true] at e
  obtain ⟨k1,k2,k3⟩:=grL_ok W ts.length [] ⟨s.i+1,s.er⟩ (h.to (one_more W h.1 (isN_ne5 e.2)) (fun e=>e))
  exact ⟨k1,by simp only at k2;omega,k3⟩
 ·exact endPF_ok W h.1
theorem ruNF_ok {ts:List Tk} {s:St} (h:SOk ts s):SOk ts (ruNF ts s)∧(ruNF ts s).i=s.i∧((ruNF ts s).er=none→s.er=none)∧((ruNF ts s).er=none→(tkS ts (ruNF ts s)).k=3):=by
 unfold ruNF;split
 ·exact ⟨failS_ok h (by decide),failS_i _ _ _,fun e=>failS_st e,fun e=>(failS_no e).elim⟩
 ·rename_i hh
  refine ⟨h,rfl,fun e=>e,fun e=> ?_⟩
  rw [e] at hh
  simpa using hh
theorem ruWF_ok {ts:List Tk} (W:Wds ts) {d:Int} {s:St} (h:FOk ts ⟨s,d⟩) (hk:s.er=none→(tkS ts s).k=3):SOk ts (ruWF ts d s).2.2.2∧s.i≤(ruWF ts d s).2.2.2.i∧((ruWF ts d s).2.2.2.er=none→s.er=none):=by
 unfold ruWF;split
 ·rename_i e
  have e1:s.er=none:=by simpa using e
  have h5:=one_more W h.1 (by rw [hk e1];rfl)
  split
  ·have k1:=goS_ok (c:= [44]) W.Nx h5
   have k2:=goS_i ts [44] ⟨s.i+1,s.er⟩
   obtain ⟨k3,k4,k5⟩:=ruGF_ok (d:=d) W ((h.to h5 (fun e=>e)).to k1 (fun e=>goS_st e))
   exact ⟨k3,by simp only at k2 k4 ⊢;omega,fun e=>e1⟩
  ·exact ⟨h5,by simp only;omega,fun e=>e1⟩
 ·exact ⟨h.1,Nat.le_refl _,fun e=>e⟩
theorem ruMF_ok {ts:List Tk} (W:Wds ts) {s:St} (h:SOk ts s):SOk ts (ruMF ts s)∧s.i≤(ruMF ts s).i∧((ruMF ts s).er=none→s.er=none):=by
 have h1:=needS_ok (c:= [44]) W.Nx h
 have h2:=needS_i ts [44] s
 have h3:=needK_i ts 1 withinT (needS ts [44] s)
 exact ⟨needK_ok W.Nx (by decide) h1,by unfold ruMF;omega,fun e=>needS_st (needK_st e)⟩
theorem an101 {ts:List Tk} {x:Sf} (hx:FOk ts x):An 101 x:=fun e=>by
 obtain ⟨n,hn,hd⟩:=hx.2 e
 rw [hd];omega
theorem ruleF_ok {ts:List Tk} (W:Wds ts) {t:T} {x:Sf} (hx:FOk ts x):FOk ts (ruleF ts t x).2∧x.s.i≤(ruleF ts t x).2.s.i∧((ruleF ts t x).2.s.er=none→x.s.er=none∧(ruleF ts t x).2.d=x.d):=by
 obtain ⟨k1,k2,k3⟩:=patF_gf W 101 x hx (an101 hx)
 unfold ruleF
 generalize patF ts 101 x=R at *
 obtain ⟨k4,k5,k6⟩:=ruMF_ok W k1.1
 obtain ⟨k7,k8,k9,k10⟩:=ruNF_ok k4
 have hk:=k1.to k7 (fun e=>k6 (k9 e))
 obtain ⟨k11,k12,k13⟩:=ruWF_ok W hk k10
 unfold ruEF
 simp only
 refine ⟨k1.to k11 (fun e=>k6 (k9 (k13 e))),by omega,fun e=>k3 (k6 (k9 (k13 e)))⟩
end Go.Proofs.YtnibelnjflhkgaaGreatDoor.Ab
namespace Go.Proofs.YtnibelnjflhkgaaGreatDoor.Ab
set_option linter.unusedVariables false
set_option linter.unusedSimpArgs false
set_option maxRecDepth 10000
theorem c55:compF Tryz.prog ow Tryz.f55=(some (139,([(.c 4 (.agg 16)),(.t 5)],(.seq (.ops [(none,(.box 3 (.t 1))),(none,(.alloc 4 [(.int .i64 0),(.str []),(.int .i64 0),(.sl .full 4 []),(.int .i64 0),(.int .i64 0),(.str []),(.int .i64 0),(.sl .full 4 []),(.int .i64 0),(.sl .full 9 []),(.sl .full 9 []),(.sl .full 9 []),(.sl .full 9 []),(.int .i64 0),(.int .i64 0)])),(none,(.set 5 (.int .i64 0)))]) (.seq (.ops [(none,(.ld (some 10) (.t 3) (.agg 4))),(none,(.bld (some 11) [(.int .i64 0),(.str []),(.int .i64 0),(.sl .full 4 []),(.int .i64 0),(.int .i64 0),(.str []),(.int .i64 0),(.sl .full 4 []),(.int .i64 0),(.sl .full 9 []),(.sl .full 9 []),(.sl .full 9 []),(.sl .full 9 []),(.int .i64 0),(.int .i64 0)] [(0,4),(4,9),(13,1),(14,1),(15,1)] [(0,(.t 10))])),(none,(.alloc 6 [(.int .i64 0),(.str []),(.int .i64 0),(.sl .full 4 []),(.int .i64 0),(.int .i64 0),(.str []),(.int .i64 0),(.sl .full 4 []),(.int .i64 0),(.sl .full 9 []),(.sl .full 9 []),(.sl .full 9 []),(.sl .full 9 []),(.int .i64 0),(.int .i64 0)])),(none,(.st (.t 6) (.t 11) 16))]) (.seq (.ops [(none,(.cp 12 0)),(none,(.call (some 13) (.k (.func 52 [] [])) [(.t 12)] (some 100))),(none,(.fld (some 14) (.t 13) 3 (.one none))),(none,(.mv 7 14))]) (.seq (.ops [(none,(.cp 15 0)),(none,(.call (some 16) (.k (.func 104 [] [])) [(.t 15)] none)),(none,(.fa (some 17) (.t 6) 4)),(none,(.st (.t 17) (.t 16) 9))]) (.seq (.ops [(none,(.cp 18 0)),(none,(.call (some 19) (.k (.func 56 [] [])) [(.t 18),(.k (.int .i64 4)),(.k (.str [44]))] none))]) (.seq (.ops [(none,(.cp 20 0)),(none,(.call (some 21) (.k (.func 56 [] [])) [(.t 20),(.k (.int .i64 1)),(.k (.str [119,105,116,104,105,110]))] none))]) (.seq (.seq (.ops [(none,(.cp 22 0)),(none,(.nil (some 23) (.t 22))),(none,(.fa (some 24) (.t 23) 2)),(none,(.ld (some 25) (.t 24) (.one none))),(none,(.bin (some 26) .eql (.t 25) (.k (.int .i64 0)) false false)),(none,(.cp 27 26)),((some (27,true)),(.cp 28 0)),((some (27,true)),(.call (some 29) (.k (.func 52 [] [])) [(.t 28)] (some 100))),((some (27,true)),(.fld (some 30) (.t 29) 0 (.one none))),((some (27,true)),(.bin (some 31) .neq (.t 30) (.k (.int .i64 3)) false false)),(none,(.pick (some 32) (.t 27) (.t 31) (.k (.bool false))))]) (.cond (.t 32) (.ops [(none,(.cp 33 0)),(none,(.cp 34 0)),(none,(.call (some 35) (.k (.func 52 [] [])) [(.t 34)] (some 100))),(none,(.fld (some 36) (.t 35) 3 (.one none))),(none,(.call (some 37) (.k (.func 58 [] [])) [(.t 33),(.k (.int .i64 4)),(.t 36)] none))]) .skip)) (.seq (.seq (.ops [(none,(.cp 38 0)),(none,(.nil (some 39) (.t 38))),(none,(.fa (some 40) (.t 39) 2)),(none,(.ld (some 41) (.t 40) (.one none))),(none,(.bin (some 42) .neq (.t 41) (.k (.int .i64 0)) false false))]) (.cond (.t 42) (.seq (.ops [(none,(.ld (some 43) (.t 6) (.agg 16))),(none,(.mv 44 7)),(none,(.st (.t 4) (.t 43) 16)),(none,(.mv 5 44))]) .ret) .skip)) (.seq (.ops [(none,(.cp 45 0)),(none,(.call (some 46) (.k (.func 52 [] [])) [(.t 45)] (some 100))),(none,(.fld (some 47) (.t 46) 2 (.one none))),(none,(.fa (some 48) (.t 6) 14)),(none,(.st (.t 48) (.t 47) 1))]) (.seq (.ops [(none,(.cp 49 0)),(none,(.nil (some 50) (.t 49))),(none,(.fa (some 51) (.t 50) 1)),(none,(.ld (some 52) (.t 51) (.one none))),(none,(.bin (some 53) .add (.t 52) (.k (.int .i64 1)) false false)),(none,(.nil (some 54) (.t 49))),(none,(.fa (some 55) (.t 54) 1)),(none,(.st (.t 55) (.t 53) 1))]) (.seq (.seq (.ops [(none,(.cp 56 0)),(none,(.call (some 57) (.k (.func 54 [] [])) [(.t 56),(.k (.str [44]))] none)),(none,(.un (some 58) .not (.t 57)))]) (.cond (.t 58) (.seq (.ops [(none,(.ld (some 59) (.t 6) (.agg 16))),(none,(.mv 60 7)),(none,(.st (.t 4) (.t 59) 16)),(none,(.mv 5 60))]) .ret) .skip)) (.seq (.seq (.ops [(none,(.cp 61 0)),(none,(.call (some 62) (.k (.func 105 [] [])) [(.t 61),(.k (.int .i64 1)),(.k (.str [119,104,101,114,101]))] none))]) (.cond (.t 62) (.seq (.ops [(none,(.cp 63 0)),(none,(.nil (some 64) (.t 63))),(none,(.fa (some 65) (.t 64) 1)),(none,(.ld (some 66) (.t 65) (.one none))),(none,(.bin (some 67) .add (.t 66) (.k (.int .i64 1)) false false)),(none,(.nil (some 68) (.t 63))),(none,(.fa (some 69) (.t 68) 1)),(none,(.st (.t 69) (.t 67) 1))]) (.block 0 (.loop (.block 1 (.seq (.ops [(none,(.cp 70 0)),(none,(.call (some 71) (.k (.func 52 [] [])) [(.t 70)] (some 100))),(none,(.fld (some 72) (.t 71) 3 (.one none))),(none,(.mv 8 72))]) (.seq (.ops [(none,(.cp 73 0)),(none,(.call (some 74) (.k (.func 106 [] [])) [(.t 73)] none)),(none,(.alloc 9 [(.int .i64 0),(.int .i64 0),(.str []),(.int .i64 0),(.sl .full 4 []),(.int .i64 0),(.str []),(.int .i64 0),(.sl .full 4 [])])),(none,(.st (.t 9) (.t 74) 9))]) (.seq (.seq (.ops [(none,(.cp 75 0)),(none,(.nil (some 76) (.t 75))),(none,(.fa (some 77) (.t 76) 2)),(none,(.ld (some 78) (.t 77) (.one none))),(none,(.bin (some 79) .neq (.t 78) (.k (.int .i64 0)) false false))]) (.cond (.t 79) (.seq (.ops [(none,(.ld (some 80) (.t 6) (.agg 16))),(none,(.mv 81 7)),(none,(.st (.t 4) (.t 80) 16)),(none,(.mv 5 81))]) .ret) .skip)) (.seq (.ops [(none,(.fa (some 82) (.t 6) 13)),(none,(.ldT 83 (.t 82) (some 9))),(none,(.ld (some 84) (.t 9) (.agg 9))),(none,(.bs 85 9 [(.t 84)])),(none,(.app 86 (.t 83) (.t 85) 9 120 true true)),(none,(.fa (some 87) (.t 6) 13)),(none,(.st (.t 87) (.t 86) 1))]) (.seq (.seq (.ops [(none,(.fa (some 88) (.t 6) 13)),(none,(.ld (some 89) (.t 88) (.one (some 9)))),(none,(.len (some 90) (.t 89) false true)),(none,(.bin (some 91) .gtr (.t 90) (.k (.int .i64 4)) false false))]) (.cond (.t 91) (.ops [(none,(.cp 92 0)),(none,(.cp 93 8)),(none,(.call (some 94) (.k (.func 58 [] [])) [(.t 92),(.k (.int .i64 2)),(.t 93)] none))]) .skip)) (.seq (.seq (.ops [(none,(.cp 95 0)),(none,(.call (some 96) (.k (.func 54 [] [])) [(.t 95),(.k (.str [44]))] none)),(none,(.un (some 97) .not (.t 96)))]) (.cond (.t 97) (.seq (.ops [(none,(.ld (some 98) (.t 6) (.agg 16))),(none,(.mv 99 7)),(none,(.st (.t 4) (.t 98) 16)),(none,(.mv 5 99))]) .ret) .skip)) (.seq (.ops [(none,(.cp 100 0)),(none,(.call (some 101) (.k (.func 107 [] [])) [(.t 100),(.t 6)] none))]) (.cond (.t 101) (.seq (.ops [(none,(.ld (some 102) (.t 6) (.agg 16))),(none,(.mv 103 7)),(none,(.st (.t 4) (.t 102) 16)),(none,(.mv 5 103))]) .ret) .skip)))))))))))) .skip)) (.seq (.block 2 (.seq (.ops [(none,(.cp 105 0)),(none,(.call (some 106) (.k (.func 105 [] [])) [(.t 105),(.k (.int .i64 1)),(.k (.str [114,101,99,101,110,116]))] none)),(none,(.mv 104 106))]) (.cond (.t 104) (.seq (.ops [(none,(.fa (some 107) (.t 6) 15)),(none,(.st (.t 107) (.k (.int .i64 1)) 1))]) (.ops [(none,(.cp 108 0)),(none,(.nil (some 109) (.t 108))),(none,(.fa (some 110) (.t 109) 1)),(none,(.ld (some 111) (.t 110) (.one none))),(none,(.bin (some 112) .add (.t 111) (.k (.int .i64 1)) false false)),(none,(.nil (some 113) (.t 108))),(none,(.fa (some 114) (.t 113) 1)),(none,(.st (.t 114) (.t 112) 1))])) (.seq (.ops [(none,(.cp 116 0)),(none,(.call (some 117) (.k (.func 105 [] [])) [(.t 116),(.k (.int .i64 1)),(.k (.str [102,105,114,115,116]))] none)),(none,(.mv 115 117))]) (.cond (.t 115) (.seq (.ops [(none,(.fa (some 118) (.t 6) 15)),(none,(.st (.t 118) (.k (.int .i64 2)) 1))]) (.ops [(none,(.cp 119 0)),(none,(.nil (some 120) (.t 119))),(none,(.fa (some 121) (.t 120) 1)),(none,(.ld (some 122) (.t 121) (.one none))),(none,(.bin (some 123) .add (.t 122) (.k (.int .i64 1)) false false)),(none,(.nil (some 124) (.t 119))),(none,(.fa (some 125) (.t 124) 1)),(none,(.st (.t 125) (.t 123) 1))])) (.seq (.ops [(none,(.cp 127 0)),(none,(.nil (some 128) (.t 127))),(none,(.fa (some 129) (.t 128) 2)),(none,(.ld (some 130) (.t 129) (.one none))),(none,(.bin (some 131) .eql (.t 130) (.k (.int .i64 0)) false false)),(none,(.mv 126 131))]) (.cond (.t 126) (.ops [(none,(.cp 132 0)),(none,(.cp 133 0)),(none,(.call (some 134) (.k (.func 52 [] [])) [(.t 133)] (some 100))),(none,(.fld (some 135) (.t 134) 3 (.one none))),(none,(.call (some 136) (.k (.func 58 [] [])) [(.t 132),(.k (.int .i64 4)),(.t 135)] none))]) .skip))))))) (.seq (.ops [(none,(.ld (some 137) (.t 6) (.agg 16))),(none,(.mv 138 7)),(none,(.st (.t 4) (.t 137) 16)),(none,(.mv 5 138))]) .ret))))))))))))))))):=by kernel_rfl
set_option maxHeartbeats 8000000 in
theorem fy_rule {h:Hp} {l:Nat} (hl:l<h.n) {ts:List Tk} (W:Wds ts) {x:Sf} (hx:FOk ts x) (hb:h.bk l=rfX ts x.s x.d) (t:T):
  Fn Tryz.prog 55 [.ptr l 0,t.avf] h (.tup [(ruleF ts t x).1.avf, .int .i64 ((tkS ts x.s).p:Nat)]) ⟨h.n,updB h.bk l (rfX ts (ruleF ts t x).2.s (ruleF ts t x).2.d)⟩:=by
 have n0: ¬l=h.n:=by omega
 have n1: ¬l=h.n+1:=by omega
 have n2: ¬l=h.n+2:=by omega
 have m0: ¬h.n=l:=by omega
 have m1: ¬h.n+1=l:=by omega
 have m2: ¬h.n+2=l:=by omega
 have p0: ¬h.n=h.n+1:=by omega
 have p1: ¬h.n+1=h.n:=by omega
 have p2: ¬h.n=h.n+2:=by omega
 have p3: ¬h.n+2=h.n:=by omega
 have p4: ¬h.n+1=h.n+2:=by omega
 have p5: ¬h.n+2=h.n+1:=by omega
 have hL:=W.len
 obtain ⟨ta,tb,tc,te⟩:=t
 rw [avf_mk]
 refine fnC mixed Tryz.func55 c55 (by simp) ?_
 simp only [go_sem,seval,n0,n1,n2,m0,m1,m2,p0,p1,p2,p3,p4,p5]
 refine ccall (fy_now (l:=l) (ts:=ts) (s:=x.s) (d:=x.d) (by simp;omega) hx.1 (by simp [bk_apply,n0,n1,n2,hb])) (by simp only [go_sem,seval]) ?_
 unfold ruleF
 generalize (tkS ts x.s).p=at0
 have hP:=fun (H:Hp) (b1:l<H.n) (b2:H.bk l=rfX ts x.s x.d)=>patF_all W 101 H l x b1 hx (an101 hx) b2
 obtain ⟨k1,k2,k3⟩:=patF_gf W 101 x hx (an101 hx)
 generalize patF ts 101 x=R at *
 obtain ⟨⟨k,⟨tk,tn,tv,tl⟩,rel,pl,pr,pc⟩,s2,d⟩:=R
 simp only [pavf_mk] at k1 k2 k3 hP ⊢
 simp only [go_sem,seval,n0,n1,n2,m0,m1,m2,p0,p1,p2,p3,p4,p5]
 refine ccall (hP _ (by simp;omega) (by simp [bk_apply,n0,n1,n2,hb])) (by simp only [go_sem,seval]) ?_
 simp only [go_sem,seval,n0,n1,n2,m0,m1,m2,p0,p1,p2,p3,p4,p5]
 refine ccall (fy_must (l:=l) (ts:=ts) (s:=s2) (d:=d) (by simp;omega) k1.1 (by simp [bk_apply,n0,n1,n2,m2]) W 4 [44]) (by simp only [go_sem,seval]) ?_
 rw [needK_4]
 have h3:=needS_ok (c:= [44]) W.Nx k1.1
 simp only [go_sem,seval,n0,n1,n2,m0,m1,m2,p0,p1,p2,p3,p4,p5]
 refine ccall (fy_must (l:=l) (ts:=ts) (s:=needS ts [44] s2) (d:=d) (by simp;omega) h3 (by simp [bk_apply,n0,n1,n2,m2]) W 1 withinT) (by simp only [go_sem,seval];try rfl) ?_
 obtain ⟨k4,k5,k6⟩:=ruMF_ok W k1.1
 rw [show needK ts 1 withinT (needS ts [44] s2)=ruMF ts s2 from rfl]
 have hf4:=k1.to k4 k6
 generalize ruMF ts s2=s4 at *
 clear h3 k1 k2 k3 k5 k6 hP hx
 have hz4:=erE_z k4.2
 have hrf4:rfX ts s4 d= .cells [.sl .sh 4 (ts.map Tk.av), .int .i64 (s4.i:Nat), .int .i64 (erE s4.er), .int .i64 ((erP 0 s4.er:Nat):Int), .int .i64 d]:=rfl
 obtain ⟨k7,k8,k9,k10⟩:=ruNF_ok k4
 have hf5:=hf4.to k7 k9
 cases hn4:s4.er.isNone with
 |false=>
  rw [hn4] at hz4
  have hz4' :(erE s4.er !=0)=true:=by simp [bne,hz4]
  have e5:ruNF ts s4=s4:=by unfold ruNF;rw [hn4];rfl
  rw [e5]
  unfold ruWF
  rw [if_neg (by simp [hn4])]
  simp only [go_sem,seval,hrf4,hz4,hz4',n0,n1,n2,m0,m1,m2,p0,p1,p2,p3,p4,p5]
  rw [←hrf4]
  exact ⟨rfl,lab_ru _ _,shrink_rY (by simp) (fun q hq hne=>by simp [bk_apply,hne,show q≠h.n by omega,show q≠h.n+1 by omega,show q≠h.n+2 by omega]) (by simp [bk_apply,n0,n1,n2,ruEF])⟩
 |true=>
  rw [hn4] at hz4
  have hz4' :(erE s4.er !=0)=false:=by simp [bne,hz4]
  have hT4:=fun (H:Hp) (b1:l<H.n) (b2:H.bk l=rfX ts s4 d)=>fy_now (h:=H) b1 k4 b2
  cases hk:((tkS ts s4).k !=3) with
  |true=>
   have e5:ruNF ts s4=failS (tkS ts s4).p 4 s4:=by unfold ruNF;rw [hn4,hk];rfl
   rw [e5] at k7 ⊢
   have hn5:(failS (tkS ts s4).p 4 s4).er.isNone=false:=by
    cases h:(failS (tkS ts s4).p 4 s4).er with
    |none=>exact (failS_no h).elim
    |some _=>rfl
   have hz5:=erE_z k7.2
   rw [hn5] at hz5
   have hz5' :(erE (failS (tkS ts s4).p 4 s4).er !=0)=true:=by simp [bne,hz5]
   unfold ruWF
   rw [if_neg (by simp [hn5])]
   simp only [go_sem,seval,hrf4,hz4,hz4',n0,n1,n2,m0,m1,m2,p0,p1,p2,p3,p4,p5]
   rw [←hrf4]
   refine ccall (hT4 _ (by simp;omega) (by simp [bk_apply,n0,n1,n2,m2])) (by simp only [go_sem,seval]) ?_
   simp only [go_sem,seval,hk,n0,n1,n2,m0,m1,m2,p0,p1,p2,p3,p4,p5]
   refine ccall (hT4 _ (by simp;omega) (by simp [bk_apply,n0,n1,n2,m2])) (by simp only [go_sem,seval]) ?_
   simp only [go_sem,seval,n0,n1,n2,m0,m1,m2,p0,p1,p2,p3,p4,p5]
   refine ccall (fy_fails (l:=l) (ts:=ts) (s:=s4) (d:=d) (by simp;omega) k4 (by simp [bk_apply,n0,n1,n2,m2]) (tkS ts s4).p 4) (by simp only [go_sem,seval]) ?_
   generalize failS (tkS ts s4).p 4 s4=s5 at *
   have hrf5:rfX ts s5 d= .cells [.sl .sh 4 (ts.map Tk.av), .int .i64 (s5.i:Nat), .int .i64 (erE s5.er), .int .i64 ((erP 0 s5.er:Nat):Int), .int .i64 d]:=rfl
   simp only [go_sem,seval,hrf5,hz5',n0,n1,n2,m0,m1,m2,p0,p1,p2,p3,p4,p5]
   rw [←hrf5]
   exact ⟨rfl,lab_ru _ _,shrink_rY (by simp) (fun q hq hne=>by simp [bk_apply,hne,show q≠h.n by omega,show q≠h.n+1 by omega,show q≠h.n+2 by omega]) (by simp [bk_apply,n0,n1,n2,ruEF])⟩
  |false=>
   have e5:ruNF ts s4=s4:=by unfold ruNF;rw [hn4,hk];rfl
   rw [e5] at hf5 k10 ⊢
   have hk3:=k10 (by simpa using hn4)
   have h6:=one_more W k4 (by rw [hk3];rfl)
   have hf6:=hf4.to h6 (fun e=>e)
   have hw:IntKind.i64.wrap ((s4.i:Int)+1)=((s4.i+1:Nat):Int):=by have:=k4.1;rw [wrap64]<;>omega
   unfold ruWF
   rw [if_pos hn4]
   have hrf6:rfX ts ⟨s4.i+1,s4.er⟩ d= .cells [.sl .sh 4 (ts.map Tk.av), .int .i64 ((s4.i+1:Nat):Int), .int .i64 (erE s4.er), .int .i64 ((erP 0 s4.er:Nat):Int), .int .i64 d]:=rfl
   simp only [go_sem,seval,hrf4,hz4,hz4',n0,n1,n2,m0,m1,m2,p0,p1,p2,p3,p4,p5]
   rw [←hrf4]
   refine ccall (hT4 _ (by simp;omega) (by simp [bk_apply,n0,n1,n2,m2])) (by simp only [go_sem,seval]) ?_
   simp only [go_sem,seval,hk,hrf4,hz4',n0,n1,n2,m0,m1,m2,p0,p1,p2,p3,p4,p5]
   rw [←hrf4]
   refine ccall (hT4 _ (by simp;omega) (by simp [bk_apply,n0,n1,n2,m2])) (by simp only [go_sem,seval]) ?_
   simp only [go_sem,seval,hrf4,hw,n0,n1,n2,m0,m1,m2,p0,p1,p2,p3,p4,p5]
   rw [←hrf6]
   generalize (tkS ts s4).n=wi
   generalize (⟨s4.i+1,s4.er⟩:St)=s6 at *
   clear hT4 hk3 hrf6 hw k10 e5 hk hz4' hn4 hf5 k9 k8 k7 hrf4 hz4 hf4 k4
   refine ccall (fy_take (l:=l) (ts:=ts) (s:=s6) (d:=d) (by simp;omega) h6 (by simp [bk_apply,n0,n1,n2,m2]) W [44]) (by simp only [go_sem,seval]) ?_
   have h7:=goS_ok (c:= [44]) W.Nx h6
   have hf7:=hf6.to h7 (fun e=>goS_st e)
   cases ht:takeS ts [44] s6 with
   |false=>
    rw [if_neg (by simp),show goS ts [44] s6=s6 by unfold goS;rw [if_neg (by simp [ht])]]
    simp only [go_sem,seval,n0,n1,n2,m0,m1,m2,p0,p1,p2,p3,p4,p5]
    exact ⟨rfl,lab_ru _ _,shrink_rY (by simp) (fun q hq hne=>by simp [bk_apply,hne,show q≠h.n by omega,show q≠h.n+1 by omega,show q≠h.n+2 by omega]) (by simp [bk_apply,n0,n1,n2,ruEF])⟩
   |true=>
    rw [if_pos rfl]
    generalize goS ts [44] s6=s7 at *
    clear ht h6 hf6
    simp only [go_sem,seval,n0,n1,n2,m0,m1,m2,p0,p1,p2,p3,p4,p5]
    have hI:=fun (H:Hp) (a1:l<H.n) (a2:H.bk l=rfX ts s7 d) (c:List UInt8)=>fy_is (h:=H) a1 h7 a2 1 c
    refine ccall (hI _ (by simp;omega) (by simp [bk_apply,n0,n1,n2,m2]) whereT) (by simp only [go_sem,seval];try rfl) ?_
    unfold ruGF
    rw [show ((tkS ts s7).k==1&&(tkS ts s7).s==whereT)=isN (tkS ts s7) whereT from rfl]
    cases hwh:(s7.er.isNone&&isN (tkS ts s7) whereT) with
    |false=>
     rw [if_neg (by simp)]
     simp only [go_sem,seval,n0,n1,n2,m0,m1,m2,p0,p1,p2,p3,p4,p5]
     have hrf7:rfX ts s7 d= .cells [.sl .sh 4 (ts.map Tk.av), .int .i64 (s7.i:Nat), .int .i64 (erE s7.er), .int .i64 ((erP 0 s7.er:Nat):Int), .int .i64 d]:=rfl
     have hrf8:rfX ts ⟨s7.i+1,s7.er⟩ d= .cells [.sl .sh 4 (ts.map Tk.av), .int .i64 ((s7.i+1:Nat):Int), .int .i64 (erE s7.er), .int .i64 ((erP 0 s7.er:Nat):Int), .int .i64 d]:=rfl
     have hw:IntKind.i64.wrap ((s7.i:Int)+1)=((s7.i+1:Nat):Int):=by have:=h7.1;rw [wrap64]<;>omega
     have hz7:=erE_z h7.2
     refine ccall (hI _ (by simp;omega) (by simp [bk_apply,n0,n1,n2,m2]) (poS 0)) (by simp only [go_sem,seval];try rfl) ?_
     unfold endPF
     rw [show ((tkS ts s7).k==1&&(tkS ts s7).s==poS 0)=isN (tkS ts s7) (poS 0) from rfl]
     cases c0:(s7.er.isNone&&isN (tkS ts s7) (poS 0)) with
     |true=>
      rw [if_pos rfl]
      simp only [go_sem,seval,hrf7,hw,n0,n1,n2,m0,m1,m2,p0,p1,p2,p3,p4,p5]
      rw [←hrf8]
      exact ⟨rfl,lab_ru _ _,shrink_rY (by simp) (fun q hq hne=>by simp [bk_apply,hne,show q≠h.n by omega,show q≠h.n+1 by omega,show q≠h.n+2 by omega]) (by simp [bk_apply,n0,n1,n2,ruEF])⟩
     |false=>
      rw [if_neg (by simp)]
      simp only [go_sem,seval,n0,n1,n2,m0,m1,m2,p0,p1,p2,p3,p4,p5]
      refine ccall (hI _ (by simp;omega) (by simp [bk_apply,n0,n1,n2,m2]) (poS 1)) (by simp only [go_sem,seval];try rfl) ?_
      rw [show ((tkS ts s7).k==1&&(tkS ts s7).s==poS 1)=isN (tkS ts s7) (poS 1) from rfl]
      cases c1:(s7.er.isNone&&isN (tkS ts s7) (poS 1)) with
      |true=>
       rw [if_pos rfl]
       simp only [go_sem,seval,hrf7,hw,n0,n1,n2,m0,m1,m2,p0,p1,p2,p3,p4,p5]
       rw [←hrf8]
       exact ⟨rfl,lab_ru _ _,shrink_rY (by simp) (fun q hq hne=>by simp [bk_apply,hne,show q≠h.n by omega,show q≠h.n+1 by omega,show q≠h.n+2 by omega]) (by simp [bk_apply,n0,n1,n2,ruEF])⟩
      |false=>
       rw [if_neg (by simp)]
       cases hn7:s7.er.isNone with
       |false=>
        rw [hn7] at hz7
        rw [if_neg (by simp)]
        simp only [go_sem,seval,hrf7,hz7,n0,n1,n2,m0,m1,m2,p0,p1,p2,p3,p4,p5]
        rw [←hrf7]
        exact ⟨rfl,lab_ru _ _,shrink_rY (by simp) (fun q hq hne=>by simp [bk_apply,hne,show q≠h.n by omega,show q≠h.n+1 by omega,show q≠h.n+2 by omega]) (by simp [bk_apply,n0,n1,n2,ruEF])⟩
       |true=>
        rw [hn7] at hz7
        rw [if_pos rfl]
        simp only [go_sem,seval,hrf7,hz7,n0,n1,n2,m0,m1,m2,p0,p1,p2,p3,p4,p5]
        rw [←hrf7]
        refine ccall (fy_now (l:=l) (ts:=ts) (s:=s7) (d:=d) (by simp;omega) h7 (by simp [bk_apply,n0,n1,n2,m2])) (by simp only [go_sem,seval]) ?_
        simp only [go_sem,seval,n0,n1,n2,m0,m1,m2,p0,p1,p2,p3,p4,p5]
        refine ccall (fy_fails (l:=l) (ts:=ts) (s:=s7) (d:=d) (by simp;omega) h7 (by simp [bk_apply,n0,n1,n2,m2]) (tkS ts s7).p 4) (by simp only [go_sem,seval]) ?_
        generalize failS (tkS ts s7).p 4 s7=s8 at *
        simp only [go_sem,seval,n0,n1,n2,m0,m1,m2,p0,p1,p2,p3,p4,p5]
        exact ⟨rfl,lab_ru _ _,shrink_rY (by simp) (fun q hq hne=>by simp [bk_apply,hne,show q≠h.n by omega,show q≠h.n+1 by omega,show q≠h.n+2 by omega]) (by simp [bk_apply,n0,n1,n2,ruEF])⟩
    |true=>
     rw [if_pos rfl]
     simp only [Bool.and_eq_true] at hwh
     have hrf7:rfX ts s7 d= .cells [.sl .sh 4 (ts.map Tk.av), .int .i64 (s7.i:Nat), .int .i64 (erE s7.er), .int .i64 ((erP 0 s7.er:Nat):Int), .int .i64 d]:=rfl
     have hrf8:rfX ts ⟨s7.i+1,s7.er⟩ d= .cells [.sl .sh 4 (ts.map Tk.av), .int .i64 ((s7.i+1:Nat):Int), .int .i64 (erE s7.er), .int .i64 ((erP 0 s7.er:Nat):Int), .int .i64 d]:=rfl
     have h8:=one_more W h7 (isN_ne5 hwh.2)
     have hw:IntKind.i64.wrap ((s7.i:Int)+1)=((s7.i+1:Nat):Int):=by have:=h7.1;rw [wrap64]<;>omega
     have hf8:=hf7.to h8 (fun e=>e)
     have hi0:=h8.1
     generalize hG:grL ts d ts.length [] ⟨s7.i+1,s7.er⟩=G
     simp only [go_sem,seval,hrf7,hw,n0,n1,n2,m0,m1,m2,p0,p1,p2,p3,p4,p5]
     refine cloop (fun m u=> ∃(gs:List Gu) (s:St),FOk ts ⟨s,d⟩∧ts.length≤m+s.i∧gs.length≤s.i∧u.fr 0= .ptr l 0∧u.fr 4= .ptr (h.n+1) 0∧u.fr 6= .ptr (h.n+2) 0∧u.fr 7= .int .i64 (at0:Nat)∧h.n+3≤u.hp.n∧u.hp.bk l=rfX ts s d∧
      u.hp.bk (h.n+2)= .cells [.int .i64 ta, .str tb, .int .i64 tc, .sl (flS te) 4 (te.map T.avf), .int .i64 k, .int .i64 tk, .str tn, .int .i64 tv, .sl (flS tl) 4 (tl.map T.avf), .int .i64 rel, .sl (flP pl) 9 (pl.map Pn.avf), .sl (flP pr) 9 (pr.map Pn.avf), .sl (flP pc) 9 (pc.map Pn.avf), .sl (flGo gs) 9 (gs.map Gu.avf), .int .i64 wi, .int .i64 0]∧
      u.hp.bk (h.n+1)= .cells [.int .i64 0, .str [], .int .i64 0, .sl .full 4 [], .int .i64 0, .int .i64 0, .str [], .int .i64 0, .sl .full 4 [], .int .i64 0, .sl .full 9 [], .sl .full 9 [], .sl .full 9 [], .sl .full 9 [], .int .i64 0, .int .i64 0]∧(∀q,q<h.n→q≠l→u.hp.bk q=h.bk q)∧grL ts d m gs s=G) ts.length
      ⟨[],⟨s7.i+1,s7.er⟩,hf8,by simp only at hi0 ⊢;omega,by simp,by simp [fr_apply,argsF],by simp [fr_apply],by simp [fr_apply],by simp [fr_apply],by simp,by rw [hrf8];simp [bk_apply,n0,n1,n2],by simp [bk_apply,m2,flGo],by simp [bk_apply,m1,p4],fun q hq hne=>by simp [bk_apply,hne,show q≠h.n by omega,show q≠h.n+1 by omega,show q≠h.n+2 by omega],hG⟩ ?_
     clear hG hi0 hf8 hw h8 hrf8 hrf7 hwh hI hf7 h7 hb
     rintro m ⟨F,hp⟩ ⟨gs,s,hx,hm,hgl,f0,f4,f6,f7,hn,hb1,hb3,hb2,hbo,hG⟩
     simp only at f0 f4 f6 f7 hn hb1 hb2 hb3 hbo
     have hi:s.i<ts.length:=hx.1.1
     obtain ⟨m,rfl⟩: ∃m',m=m' +1:=⟨m-1,by omega⟩
     have q0: ¬l=hp.n:=by omega
     have q1: ¬hp.n=l:=by omega
     have q2: ¬h.n+1=hp.n:=by omega
     have q3: ¬hp.n=h.n+1:=by omega
     have q4: ¬h.n+2=hp.n:=by omega
     have q5: ¬hp.n=h.n+2:=by omega
     rw [grL] at hG
     simp only [go_sem,seval,f0,f4,f6,f7]
     refine ccall (fy_now (l:=l) (ts:=ts) (s:=s) (d:=d) (by simp only;omega) hx.1 (by simp only;exact hb1)) (by simp only [go_sem,seval,f0]) ?_
     generalize (tkS ts s).p=at1 at *
     have hGu:=fun (H:Hp) (b1:l<H.n) (b2:H.bk l=rfX ts s d)=>fy_guard (h:=H) b1 W (x:=⟨s,d⟩) hx b2
     obtain ⟨k1,k2,k3⟩:=guardF_ok W hx
     generalize guardF ts ⟨s,d⟩=R at *
     obtain ⟨gu,s1⟩:=R
     simp only at k1 k2 k3 hGu hG
     simp only [go_sem,seval,f0,f4,f6,f7]
     refine ccall (hGu _ (by simp only;omega) (by simp only;exact hb1)) (by simp only [go_sem,seval,f0]) ?_
     have hz:=erE_z k1.2
     have hrf:rfX ts s1 d= .cells [.sl .sh 4 (ts.map Tk.av), .int .i64 (s1.i:Nat), .int .i64 (erE s1.er), .int .i64 ((erP 0 s1.er:Nat):Int), .int .i64 d]:=rfl
     cases hn1:s1.er.isNone with
     |false=>
      rw [hn1] at hz
      have hz' :(erE s1.er !=0)=true:=by simp [bne,hz]
      rw [hn1,if_neg (by simp)] at hG
      subst hG
      simp only [go_sem,seval,f0,f4,f6,f7,n1,n2,m1,m2,q0,q1,q2,q3,q4,q5,p4,p5,hrf,hz',hb3,hb2]
      rw [←hrf]
      exact ⟨rfl,lab_ru _ _,shrink_rY (by simp;omega) (fun q hq hne=>by simp [bk_apply,hne,show q≠h.n+1 by omega,show q≠hp.n by omega];exact hbo q hq hne) (by simp [bk_apply,n1,q0,ruEF])⟩
     |true=>
      rw [hn1] at hz
      have hz' :(erE s1.er !=0)=false:=by simp [bne,hz]
      rw [hn1,if_pos rfl] at hG
      have hgi:gs.length<1000000000:=by omega
      cases gs with
      |nil=>
       have fl0:flGo []= .full:=rfl
       rw [fl0] at hb3
       have a1:1 * 120≤140737488355328:=by omega
       have a2:0≤9223372036854775805:=by omega
       have a3:decide ((1:Int)>4)=false:=by decide
       obtain ⟨gn,hgn⟩: ∃gn:List Gu,gn= []++ [gu]:=⟨_,rfl⟩
       rw [←hgn] at hG
       have hgl' :gn.length≤s1.i+1:=by rw [hgn];simp
       have hE:grE gn.length=false:=by rw [hgn];rfl
       simp only [go_sem,seval,f0,f4,f6,f7,n1,n2,m1,m2,q0,q1,q2,q3,q4,q5,p4,p5,hrf,hz',hb3,hb2,a1,a2,a3]
       rw [hE,show limF false at1 s1=s1 from rfl] at hG
       rw [←hrf]
       have k4:=k1
       generalize hs4:s1=s4 at k4 hG ⊢
       have k5:s4.i=s1.i:=by rw [hs4]
       have k6:s4.er=none→s1.er=none:=fun e=>by rw [hs4];exact e
       refine ccall (fy_take (l:=l) (ts:=ts) (s:=s4) (d:=d) (by simp;omega) k4 (by simp [bk_apply,q0,n1,n2]) W [44]) (by simp only [go_sem,seval,f0]) ?_
       cases ht:takeS ts [44] s4 with
       |false=>
        rw [if_neg (by simp [ht])] at hG
        subst hG
        rw [show goS ts [44] s4=s4 by unfold goS;rw [if_neg (by simp [ht])]]
        simp only [go_sem,seval,f0,f4,f6,f7,n1,n2,m1,m2,q0,q1,q2,q3,q4,q5,hb2,p4,p5]
        exact ⟨by rw [hgn];simp [ruEF,Ru.avf,flS,flG,flGo],lab_ru _ _,shrink_rY (by simp;omega) (fun q hq hne=>by simp [bk_apply,hne,show q≠h.n+1 by omega,show q≠h.n+2 by omega,show q≠hp.n by omega];exact hbo q hq hne) (by simp [bk_apply,n1,n2,q0,ruEF])⟩
       |true=>
        have hlt:=goS_lt ht
        have k7:=hx.to (goS_ok (c:= [44]) W.Nx k4) (fun e=>k3 (k6 (goS_st e)))
        rw [if_pos ht] at hG
        generalize goS ts [44] s4=s5 at *
        simp only [go_sem,seval,f0,f4,f6,f7,n1,n2,m1,m2,q0,q1,q2,q3,q4,q5]
        have k2' :s.i≤s1.i:=k2
        have hPo:=fun (H:Hp) (b1:l<H.n) (b2:h.n+2<H.n) (b3:H.bk l=rfX ts s5 d) (b4:H.bk (h.n+2)= .cells [.int .i64 ta, .str tb, .int .i64 tc, .sl (flS te) 4 (te.map T.avf), .int .i64 k, .int .i64 tk, .str tn, .int .i64 tv, .sl (flS tl) 4 (tl.map T.avf), .int .i64 rel, .sl (flP pl) 9 (pl.map Pn.avf), .sl (flP pr) 9 (pr.map Pn.avf), .sl (flP pc) 9 (pc.map Pn.avf), .sl (flGo gn) 9 (gn.map Gu.avf), .int .i64 wi, .int .i64 0])=>fy_policy (h:=H) b1 b2 n2 W k7.1 (d:=d) b3 _ _ _ _ _ _ _ _ _ _ _ _ _ _ _ _ b4 (fun kk=>by simp [labL,labOK,lab_avfs,lab_gus,lab_pavfs])
        cases hpk:(polK ts s5==0) with
        |true=>
         rw [hpk,if_pos rfl] at hG
         rw [hpk] at hPo
         simp only [Bool.not_true,if_true] at hPo
         refine ccall (hPo _ (by simp;omega) (by simp;omega) (by simp [bk_apply,q0,n1,n2]) (by rw [hgn];simp [bk_apply,m2,q4,flGo])) (by simp only [go_sem,seval,f0,f6]) ?_
         simp only [go_sem,seval,f0,f4,f6,f7,n1,n2,m1,m2,q0,q1,q2,q3,q4,q5]
         exact ⟨m,by omega,gn,s5,k7,by omega,by omega,by omega,rfl,by rw [hgn];simp [flGo],hb2,fun q hq hne=>by simp [hne,show q≠h.n+2 by omega,show q≠hp.n by omega];exact hbo q hq hne,hG⟩
        |false=>
         rw [hpk,if_neg (by simp)] at hG
         rw [hpk] at hPo
         simp only [Bool.not_false,Bool.false_eq_true,if_false] at hPo
         subst hG
         refine ccall (hPo _ (by simp;omega) (by simp;omega) (by simp [bk_apply,q0,n1,n2]) (by rw [hgn];simp [bk_apply,m2,q4,flGo])) (by simp only [go_sem,seval,f0,f6]) ?_
         generalize polK ts s5=pk at *
         simp only [go_sem,seval,f0,f4,f6,f7,n1,n2,m1,m2,q0,q1,q2,q3,q4,q5,hb2,p4,p5]
         exact ⟨rfl,lab_ru _ _,shrink_rY (by simp;omega) (fun q hq hne=>by simp [bk_apply,hne,show q≠h.n+1 by omega,show q≠h.n+2 by omega,show q≠hp.n by omega];exact hbo q hq hne) (by simp [bk_apply,n1,n2,q0,ruEF])⟩
      |cons z gs=>
       have fl0:flGo (z::gs)= .own:=rfl
       rw [fl0] at hb3
       have a1:(gs.length+2) * 120≤140737488355328:=by simp at hgi;omega
       have a2:gs.length≤9223372036854775805:=by simp at hgi;omega
       obtain ⟨gn,hgn⟩: ∃gn:List Gu,gn=(z::gs)++ [gu]:=⟨_,rfl⟩
       have e0:gn.length=gs.length+2:=by rw [hgn];simp
       rw [←hgn] at hG
       have hgl' :gn.length≤s1.i+1:=by rw [e0];simp at hgl k2;omega
       cases c1:decide (((gs.length+2:Nat):Int)>4) with
       |true=>
        have hE:grE gn.length=true:=by rw [e0];exact c1
        simp only [go_sem,seval,f0,f4,f6,f7,n1,n2,m1,m2,q0,q1,q2,q3,q4,q5,p4,p5,hrf,hz',hb3,hb2,List.length_append,List.length_map,List.length_cons,List.length_nil,Nat.zero_add,a1,a2,c1]
        rw [hE,show limF true at1 s1=failS at1 2 s1 from rfl] at hG
        rw [←hrf]
        refine ccall (fy_fails (l:=l) (ts:=ts) (s:=s1) (d:=d) (by simp;omega) k1 (by simp [bk_apply,q0,n1,n2]) at1 2) (by simp only [go_sem,seval]) ?_
        have k4:=failS_ok (ts:=ts) (p:=at1) (e:=2) k1 (by decide)
        have k5:(failS at1 2 s1).i=s1.i:=failS_i _ _ _
        have k6:=fun e=>failS_st (p:=at1) (e:=2) (s:=s1) e
        generalize failS at1 2 s1=s4 at *
        simp only [go_sem,seval,f0,f4,f6,f7,n1,n2,m1,m2,q0,q1,q2,q3,q4,q5]
        refine ccall (fy_take (l:=l) (ts:=ts) (s:=s4) (d:=d) (by simp;omega) k4 (by simp [bk_apply,q0,n1,n2]) W [44]) (by simp only [go_sem,seval,f0]) ?_
        cases ht:takeS ts [44] s4 with
        |false=>
         rw [if_neg (by simp [ht])] at hG
         subst hG
         rw [show goS ts [44] s4=s4 by unfold goS;rw [if_neg (by simp [ht])]]
         simp only [go_sem,seval,f0,f4,f6,f7,n1,n2,m1,m2,q0,q1,q2,q3,q4,q5,hb2,p4,p5]
         exact ⟨by rw [hgn];simp [ruEF,Ru.avf,flS,flG,flGo],lab_ru _ _,shrink_rY (by simp;omega) (fun q hq hne=>by simp [bk_apply,hne,show q≠h.n+1 by omega,show q≠h.n+2 by omega,show q≠hp.n by omega];exact hbo q hq hne) (by simp [bk_apply,n1,n2,q0,ruEF])⟩
        |true=>
         have hlt:=goS_lt ht
         have k7:=hx.to (goS_ok (c:= [44]) W.Nx k4) (fun e=>k3 (k6 (goS_st e)))
         rw [if_pos ht] at hG
         generalize goS ts [44] s4=s5 at *
         simp only [go_sem,seval,f0,f4,f6,f7,n1,n2,m1,m2,q0,q1,q2,q3,q4,q5]
         have k2' :s.i≤s1.i:=k2
         have hPo:=fun (H:Hp) (b1:l<H.n) (b2:h.n+2<H.n) (b3:H.bk l=rfX ts s5 d) (b4:H.bk (h.n+2)= .cells [.int .i64 ta, .str tb, .int .i64 tc, .sl (flS te) 4 (te.map T.avf), .int .i64 k, .int .i64 tk, .str tn, .int .i64 tv, .sl (flS tl) 4 (tl.map T.avf), .int .i64 rel, .sl (flP pl) 9 (pl.map Pn.avf), .sl (flP pr) 9 (pr.map Pn.avf), .sl (flP pc) 9 (pc.map Pn.avf), .sl (flGo gn) 9 (gn.map Gu.avf), .int .i64 wi, .int .i64 0])=>fy_policy (h:=H) b1 b2 n2 W k7.1 (d:=d) b3 _ _ _ _ _ _ _ _ _ _ _ _ _ _ _ _ b4 (fun kk=>by simp [labL,labOK,lab_avfs,lab_gus,lab_pavfs])
         cases hpk:(polK ts s5==0) with
         |true=>
          rw [hpk,if_pos rfl] at hG
          rw [hpk] at hPo
          simp only [Bool.not_true,if_true] at hPo
          refine ccall (hPo _ (by simp;omega) (by simp;omega) (by simp [bk_apply,q0,n1,n2]) (by rw [hgn];simp [bk_apply,m2,q4,flGo])) (by simp only [go_sem,seval,f0,f6]) ?_
          simp only [go_sem,seval,f0,f4,f6,f7,n1,n2,m1,m2,q0,q1,q2,q3,q4,q5]
          exact ⟨m,by omega,gn,s5,k7,by omega,by omega,by omega,rfl,by rw [hgn];simp [flGo],hb2,fun q hq hne=>by simp [hne,show q≠h.n+2 by omega,show q≠hp.n by omega];exact hbo q hq hne,hG⟩
         |false=>
          rw [hpk,if_neg (by simp)] at hG
          rw [hpk] at hPo
          simp only [Bool.not_false,Bool.false_eq_true,if_false] at hPo
          subst hG
          refine ccall (hPo _ (by simp;omega) (by simp;omega) (by simp [bk_apply,q0,n1,n2]) (by rw [hgn];simp [bk_apply,m2,q4,flGo])) (by simp only [go_sem,seval,f0,f6]) ?_
          generalize polK ts s5=pk at *
          simp only [go_sem,seval,f0,f4,f6,f7,n1,n2,m1,m2,q0,q1,q2,q3,q4,q5,hb2,p4,p5]
          exact ⟨rfl,lab_ru _ _,shrink_rY (by simp;omega) (fun q hq hne=>by simp [bk_apply,hne,show q≠h.n+1 by omega,show q≠h.n+2 by omega,show q≠hp.n by omega];exact hbo q hq hne) (by simp [bk_apply,n1,n2,q0,ruEF])⟩
       |false=>
        have hE:grE gn.length=false:=by rw [e0];exact c1
        simp only [go_sem,seval,f0,f4,f6,f7,n1,n2,m1,m2,q0,q1,q2,q3,q4,q5,p4,p5,hrf,hz',hb3,hb2,List.length_append,List.length_map,List.length_cons,List.length_nil,Nat.zero_add,a1,a2,c1]
        rw [hE,show limF false at1 s1=s1 from rfl] at hG
        rw [←hrf]
        have k4:=k1
        generalize hs4:s1=s4 at k4 hG ⊢
        have k5:s4.i=s1.i:=by rw [hs4]
        have k6:s4.er=none→s1.er=none:=fun e=>by rw [hs4];exact e
        refine ccall (fy_take (l:=l) (ts:=ts) (s:=s4) (d:=d) (by simp;omega) k4 (by simp [bk_apply,q0,n1,n2]) W [44]) (by simp only [go_sem,seval,f0]) ?_
        cases ht:takeS ts [44] s4 with
        |false=>
         rw [if_neg (by simp [ht])] at hG
         subst hG
         rw [show goS ts [44] s4=s4 by unfold goS;rw [if_neg (by simp [ht])]]
         simp only [go_sem,seval,f0,f4,f6,f7,n1,n2,m1,m2,q0,q1,q2,q3,q4,q5,hb2,p4,p5]
         exact ⟨by rw [hgn];simp [ruEF,Ru.avf,flS,flG,flGo],lab_ru _ _,shrink_rY (by simp;omega) (fun q hq hne=>by simp [bk_apply,hne,show q≠h.n+1 by omega,show q≠h.n+2 by omega,show q≠hp.n by omega];exact hbo q hq hne) (by simp [bk_apply,n1,n2,q0,ruEF])⟩
        |true=>
         have hlt:=goS_lt ht
         have k7:=hx.to (goS_ok (c:= [44]) W.Nx k4) (fun e=>k3 (k6 (goS_st e)))
         rw [if_pos ht] at hG
         generalize goS ts [44] s4=s5 at *
         simp only [go_sem,seval,f0,f4,f6,f7,n1,n2,m1,m2,q0,q1,q2,q3,q4,q5]
         have k2' :s.i≤s1.i:=k2
         have hPo:=fun (H:Hp) (b1:l<H.n) (b2:h.n+2<H.n) (b3:H.bk l=rfX ts s5 d) (b4:H.bk (h.n+2)= .cells [.int .i64 ta, .str tb, .int .i64 tc, .sl (flS te) 4 (te.map T.avf), .int .i64 k, .int .i64 tk, .str tn, .int .i64 tv, .sl (flS tl) 4 (tl.map T.avf), .int .i64 rel, .sl (flP pl) 9 (pl.map Pn.avf), .sl (flP pr) 9 (pr.map Pn.avf), .sl (flP pc) 9 (pc.map Pn.avf), .sl (flGo gn) 9 (gn.map Gu.avf), .int .i64 wi, .int .i64 0])=>fy_policy (h:=H) b1 b2 n2 W k7.1 (d:=d) b3 _ _ _ _ _ _ _ _ _ _ _ _ _ _ _ _ b4 (fun kk=>by simp [labL,labOK,lab_avfs,lab_gus,lab_pavfs])
         cases hpk:(polK ts s5==0) with
         |true=>
          rw [hpk,if_pos rfl] at hG
          rw [hpk] at hPo
          simp only [Bool.not_true,if_true] at hPo
          refine ccall (hPo _ (by simp;omega) (by simp;omega) (by simp [bk_apply,q0,n1,n2]) (by rw [hgn];simp [bk_apply,m2,q4,flGo])) (by simp only [go_sem,seval,f0,f6]) ?_
          simp only [go_sem,seval,f0,f4,f6,f7,n1,n2,m1,m2,q0,q1,q2,q3,q4,q5]
          exact ⟨m,by omega,gn,s5,k7,by omega,by omega,by omega,rfl,by rw [hgn];simp [flGo],hb2,fun q hq hne=>by simp [hne,show q≠h.n+2 by omega,show q≠hp.n by omega];exact hbo q hq hne,hG⟩
         |false=>
          rw [hpk,if_neg (by simp)] at hG
          rw [hpk] at hPo
          simp only [Bool.not_false,Bool.false_eq_true,if_false] at hPo
          subst hG
          refine ccall (hPo _ (by simp;omega) (by simp;omega) (by simp [bk_apply,q0,n1,n2]) (by rw [hgn];simp [bk_apply,m2,q4,flGo])) (by simp only [go_sem,seval,f0,f6]) ?_
          generalize polK ts s5=pk at *
          simp only [go_sem,seval,f0,f4,f6,f7,n1,n2,m1,m2,q0,q1,q2,q3,q4,q5,hb2,p4,p5]
          exact ⟨rfl,lab_ru _ _,shrink_rY (by simp;omega) (fun q hq hne=>by simp [bk_apply,hne,show q≠h.n+1 by omega,show q≠h.n+2 by omega,show q≠hp.n by omega];exact hbo q hq hne) (by simp [bk_apply,n1,n2,q0,ruEF])⟩
end Go.Proofs.YtnibelnjflhkgaaGreatDoor.Ab
namespace Go.Proofs.YtnibelnjflhkgaaGreatDoor.Ab
set_option linter.unusedVariables false
set_option linter.unusedSimpArgs false
def Gg (n:Nat) (ts:List Tk) (g:Sf→Pn×Sf):Prop:= ∀x,FOk ts x→An n x→(g x).2.s.er=none→(g x).1.good
theorem within_gg {pat:Sf→Pn×Sf} {ts:List Tk} (W:Wds ts) {n:Nat} (hp:Gg n ts pat) {x:Sf} (hx:FOk ts x) (ha:An (n+1) x) (h:(withinF pat ts x).2.s.er=none):(withinF pat ts x).1.good:=by
 obtain ⟨k1,k2,k3⟩:=open_ok W hx
 have ka:An n (openF ts x):=fun e=>by rw [(k3 e).2];have:=ha (k3 e).1;push_cast at this;omega
 exact hp _ k1 ka (needS_st (c:= [41]) h)
theorem one_gg {pat:Sf→Pn×Sf} {ts:List Tk} (W:Wds ts) {n:Nat} (hp: ∀m,n=m+1→Gg m ts pat):Gg n ts (oneF pat ts):=by
 intro x hx ha h
 unfold oneF at h ⊢
 split at h
 ·rename_i e
  rw [if_pos e]
  have e1:x.s.er=none:=by simpa using e
  obtain ⟨m,rfl⟩:=an_pos hx ha e1
  split at h
  ·rename_i e2;rw [if_pos e2];exact within_gg W (hp m rfl) hx ha h
  ·rename_i e2;rw [if_neg e2];exact .t _ _
 ·rename_i e;rw [h] at e;exact absurd rfl e
theorem loopF_gg {ts:List Tk} (W:Wds ts) {n:Nat} {c:List UInt8} {body:Pn→Sf→Pn×Sf} (hb: ∀p,Gf ts n (body p)) (hg: ∀p x,FOk ts x→An n x→p.good→(body p x).2.s.er=none→(body p x).1.good): ∀(m:Nat) (p:Pn) (x:Sf),FOk ts x→An n x→(x.s.er=none→p.good)→(loopF ts c body m p x).2.s.er=none→(loopF ts c body m p x).1.good
 |0,p,x,hx,ha,hp,h=>hp h
 |m+1,p,x,hx,ha,hp,h=>by
  rw [loopF] at h ⊢
  split at h
  ·rename_i e
   rw [if_pos e]
   have he:x.s.er=none:=by unfold takeS at e;simp at e;exact e.1
   have hx' :=hx.to (goS_ok (c:=c) W.Nx hx.1) (fun e=>goS_st e)
   have ha' :An n ⟨goS ts c x.s,x.d⟩:=ha.to (fun e=>goS_st e)
   obtain ⟨k1,k2,k3⟩:=hb p _ hx' ha'
   exact loopF_gg W hb hg m _ _ k1 ((hb p).an hx' ha') (fun e=>hg p _ hx' ha' (hp he) e) h
  ·rename_i e;rw [if_neg e];exact hp h
theorem rowB_gg {pat:Sf→Pn×Sf} {ts:List Tk} (W:Wds ts) {n:Nat} (hf: ∀m,n=m+1→Gf ts m pat) (hp: ∀m,n=m+1→Gg m ts pat) (p:Pn) (x:Sf) (hx:FOk ts x) (ha:An n x) (hpg:p.good) (h:(rowBF pat ts p x).2.s.er=none):(rowBF pat ts p x).1.good:=by
 have ho:=one_gg W hp
 unfold rowBF at h ⊢
 split at h
 ·rename_i e
  rw [if_pos e]
  have e1:x.s.er=none:=by unfold takeS at e;simp at e;exact e.1
  obtain ⟨m,rfl⟩:=an_pos hx ha e1
  have hx' :=hx.to (goS_ok (c:= [92,43]) W.Nx hx.1) (fun e=>goS_st e)
  have ha' :An (m+1) ⟨goS ts [92,43] x.s,x.d⟩:=ha.to (fun e=>goS_st e)
  obtain ⟨k1,k2,k3⟩:=within_gf W (hf m rfl) hx' ha'
  have k4:=within_gg W (hp m rfl) hx' ha'
  generalize withinF pat ts ⟨goS ts [92,43] x.s,x.d⟩=w at *
  have hx2:=k1.to (needS_ok (c:= [59]) W.Nx k1.1) (fun e=>needS_st e)
  have ha2:An (m+1) ⟨needS ts [59] w.2.s,w.2.d⟩:=fun e=>by
   obtain ⟨a1,a2⟩:=k3 (needS_st e)
   show 100<w.2.d+_
   rw [a2];exact ha e1
  obtain ⟨k5,k6,k7⟩:=one_gf W hf _ hx2 ha2
  exact .tri _ _ _ _ _ _ (by decide) hpg (ho _ hx2 ha2 h) (k4 (needS_st (k7 h).1))
 ·rename_i e;rw [if_neg e];exact .two _ _ _ _ _ (by decide) hpg (ho x hx ha h)
theorem row_gg {pat:Sf→Pn×Sf} {ts:List Tk} (W:Wds ts) {n:Nat} (hf: ∀m,n=m+1→Gf ts m pat) (hp: ∀m,n=m+1→Gg m ts pat):Gg n ts (rowF pat ts):=by
 intro x hx ha h
 obtain ⟨k1,k2,k3⟩:=one_gf W hf x hx ha
 exact loopF_gg W (rowB_gf W hf) (rowB_gg W hf hp) _ _ _ k1 ((one_gf W hf).an hx ha) (one_gg W hp x hx ha) h
theorem pair_gg {row:Sf→Pn×Sf} {ts:List Tk} (W:Wds ts) {n:Nat} (hf:Gf ts n row) (hr:Gg n ts row):Gg n ts (pairF row ts):=by
 intro x hx ha h
 obtain ⟨k1,k2,k3⟩:=hf x hx ha
 have ka:=hf.an hx ha
 unfold pairF at h ⊢
 split at h
 ·rename_i e
  rw [if_pos e]
  have e1:(row x).2.s.er=none:=by unfold takeS at e;simp at e;exact e.1
  have hx1:=k1.to (goS_ok (c:= [64]) W.Nx k1.1) (fun e=>goS_st e)
  have ha1:An n ⟨goS ts [64] (row x).2.s,(row x).2.d⟩:=ka.to (fun e=>goS_st e)
  unfold pairBF at h ⊢
  split at h
  ·exact (failS_no h).elim
  ·rename_i hb
   rw [if_neg hb]
   have hk:=badRel_k (Bool.eq_false_iff.2 hb)
   have h1:=one_more W hx1.1 hk
   exact .two _ _ _ _ _ (by decide) (hr x hx ha e1) (hr _ (hx1.to h1 (fun e=>e)) (ha1.to (fun e=>e)) h)
 ·rename_i e;rw [if_neg e];exact hr x hx ha h
theorem chain_gg {part:Sf→Pn×Sf} {kind:Int} (hk:kind≠1) {c:List UInt8} {ts:List Tk} (W:Wds ts) {n:Nat} (hf:Gf ts n part) (hp:Gg n ts part):Gg n ts (chainF part kind c ts):=by
 intro x hx ha h
 obtain ⟨k1,k2,k3⟩:=hf x hx ha
 exact loopF_gg W (body:=chainBF part kind) (fun p x hx ha=>hf x hx ha) (fun p x hx ha hg h=> .two _ _ _ _ _ hk hg (hp x hx ha h)) _ _ _ k1 (hf.an hx ha) (hp x hx ha) h
theorem patB_gg {pat:Sf→Pn×Sf} {ts:List Tk} (W:Wds ts) {n:Nat} (hf: ∀m,n=m+1→Gf ts m pat) (hp: ∀m,n=m+1→Gg m ts pat):Gg n ts (patB pat ts):=by
 have r1:=row_gf W hf
 have r2:=row_gg W hf hp
 have q1:=pair_gf W r1
 have q2:=pair_gg W r1 r2
 exact chain_gg (by decide) W (chain_gf W q1) (chain_gg (by decide) W q1 q2)
theorem patF_gg {ts:List Tk} (W:Wds ts): ∀n,Gg n ts (patF ts n)
 |0=>patB_gg W (fun m h=>by omega) (fun m h=>by omega)
 |n+1=>patB_gg W (fun m h=>by cases h;exact patF_gf W n) (fun m h=>by cases h;exact patF_gg W n)
theorem ruleF_gg {ts:List Tk} (W:Wds ts) {t:T} {x:Sf} (hx:FOk ts x) (h:(ruleF ts t x).2.s.er=none):(ruleF ts t x).1.b.good:=by
 obtain ⟨k1,k2,k3⟩:=patF_gf W 101 x hx (an101 hx)
 have k4:=patF_gg W 101 x hx (an101 hx)
 unfold ruleF at h ⊢
 generalize patF ts 101 x=R at *
 obtain ⟨k5,k6,k7⟩:=ruMF_ok W k1.1
 obtain ⟨k8,k9,k10,k11⟩:=ruNF_ok k5
 have hk:=k1.to k8 (fun e=>k7 (k10 e))
 obtain ⟨k12,k13,k14⟩:=ruWF_ok W hk k11
 exact k4 (k7 (k10 (k14 h)))
def muchP (p:Pn):Bool:=decide (nP p>12)||decide (dP p>8)
def itRF (ts:List Tk) (at' :Nat) (t:T) (cs:List Cl) (rs:List Ru) (x:Sf):List Cl×List Ru×Sf:=
 match ruleF ts t x with
 |(r,y)=>(cs,rs++ [r],⟨(fun s3:St=>limF (s3.er.isNone&&((rs.length:Int)==20)) at' s3) ((fun s2:St=>limF (s2.er.isNone&&muchP r.b) (tkS ts x.s).p s2) (needS ts [46] y.s)),y.d⟩)
def itCF (ts:List Tk) (at' :Nat) (t:T) (cs:List Cl) (rs:List Ru) (x:Sf):List Cl×List Ru×Sf:=
 match (if takeS ts [58,45] x.s=true then clauseF ts t ⟨goS ts [58,45] x.s,x.d⟩ else (⟨t, [], []⟩,x.s)) with
 |(c,s1)=>(cs++ [c],rs,⟨(fun s2:St=>limF (s2.er.isNone&&((cs.length:Int)==30)) at' s2) (needS ts [46] s1),x.d⟩)
def itemF (ts:List Tk) (cs:List Cl) (rs:List Ru) (x:Sf):List Cl×List Ru×Sf:=
 if takeS ts [60,45] (tmF ts x).2=true then itRF ts (tkS ts x.s).p (tmF ts x).1 cs rs ⟨goS ts [60,45] (tmF ts x).2,x.d⟩
 else itCF ts (tkS ts x.s).p (tmF ts x).1 cs rs ⟨(tmF ts x).2,x.d⟩
def prF (ts:List Tk):Nat→List Cl→List Ru→Sf→List Cl×List Ru×Sf
 |0,cs,rs,x=>(cs,rs,x)
 |m+1,cs,rs,x=>if (x.s.er.isNone&&(tkS ts x.s).k !=5)=true then prF ts m (itemF ts cs rs x).1 (itemF ts cs rs x).2.1 (itemF ts cs rs x).2.2 else (cs,rs,x)
theorem itRF_ok {ts:List Tk} (W:Wds ts) {a:Nat} {t:T} {cs:List Cl} {rs:List Ru} {x:Sf} (hx:FOk ts x):FOk ts (itRF ts a t cs rs x).2.2∧((itRF ts a t cs rs x).2.2.s.er=none→x.s.er=none∧(itRF ts a t cs rs x).2.2.d=x.d∧x.s.i<(itRF ts a t cs rs x).2.2.s.i):=by
 obtain ⟨k1,k2,k3⟩:=ruleF_ok W (t:=t) hx
 unfold itRF
 generalize ruleF ts t x=R at *
 obtain ⟨r,y⟩:=R
 simp only at k1 k2 k3 ⊢
 have k4:=needS_ok (c:= [46]) W.Nx k1.1
 have k5:(needS ts [46] y.s).er=none→y.s.er=none∧y.s.i<(needS ts [46] y.s).i:=fun e=>⟨needS_st e,needS_lt e⟩
 generalize needS ts [46] y.s=s2 at *
 obtain ⟨k6,k7,k8⟩:=limF_ok (b:=s2.er.isNone&&muchP r.b) (p:=(tkS ts x.s).p) k4
 generalize limF (s2.er.isNone&&muchP r.b) (tkS ts x.s).p s2=s3 at *
 obtain ⟨k9,k10,k11⟩:=limF_ok (b:=s3.er.isNone&&((rs.length:Int)==20)) (p:=a) k6
 generalize limF (s3.er.isNone&&((rs.length:Int)==20)) a s3=s4 at *
 refine ⟨k1.to k9 (fun e=>(k5 (k8 (k11 e))).1),fun e=> ?_⟩
 obtain ⟨a1,a2⟩:=k5 (k8 (k11 e))
 obtain ⟨a3,a4⟩:=k3 a1
 exact ⟨a3,a4,by omega⟩
theorem itCF_ok {ts:List Tk} (W:Wds ts) {a:Nat} {t:T} {cs:List Cl} {rs:List Ru} {x:Sf} (hx:FOk ts x):FOk ts (itCF ts a t cs rs x).2.2∧((itCF ts a t cs rs x).2.2.s.er=none→x.s.er=none∧(itCF ts a t cs rs x).2.2.d=x.d∧x.s.i<(itCF ts a t cs rs x).2.2.s.i):=by
 have hc: ∀c s1,(if takeS ts [58,45] x.s=true then clauseF ts t ⟨goS ts [58,45] x.s,x.d⟩ else (⟨t, [], []⟩,x.s))=(c,s1)→SOk ts s1∧x.s.i≤s1.i∧(s1.er=none→x.s.er=none):=by
  intro c s1 h
  split at h
  ·have g1:=goS_i ts [58,45] x.s
   obtain ⟨k1,k2,k3⟩:=clauseF_ok W (t:=t) (hx.to (goS_ok (c:= [58,45]) W.Nx hx.1) (fun e=>goS_st e))
   rw [h] at k1 k2 k3
   exact ⟨k1,by simp only at k2;omega,fun e=>goS_st (k3 e)⟩
  ·cases h;exact ⟨hx.1,Nat.le_refl _,fun e=>e⟩
 unfold itCF
 generalize (if takeS ts [58,45] x.s=true then clauseF ts t ⟨goS ts [58,45] x.s,x.d⟩ else (⟨t, [], []⟩,x.s))=R at *
 obtain ⟨c,s1⟩:=R
 obtain ⟨k1,k2,k3⟩:=hc c s1 rfl
 simp only
 have k4:=needS_ok (c:= [46]) W.Nx k1
 have k5:(needS ts [46] s1).er=none→s1.er=none∧s1.i<(needS ts [46] s1).i:=fun e=>⟨needS_st e,needS_lt e⟩
 generalize needS ts [46] s1=s2 at *
 obtain ⟨k6,k7,k8⟩:=limF_ok (b:=s2.er.isNone&&((cs.length:Int)==30)) (p:=a) k4
 generalize limF (s2.er.isNone&&((cs.length:Int)==30)) a s2=s3 at *
 refine ⟨hx.to k6 (fun e=>k3 (k5 (k8 e)).1),fun e=> ?_⟩
 obtain ⟨a1,a2⟩:=k5 (k8 e)
 exact ⟨k3 a1,trivial,by omega⟩
theorem itemF_ok {ts:List Tk} (W:Wds ts) {cs:List Cl} {rs:List Ru} {x:Sf} (hx:FOk ts x):FOk ts (itemF ts cs rs x).2.2∧((itemF ts cs rs x).2.2.s.er=none→x.s.er=none∧(itemF ts cs rs x).2.2.d=x.d∧x.s.i<(itemF ts cs rs x).2.2.s.i):=by
 have h1:=tmF_ok W hx
 have h2:=tmF_i ts x
 have h3:=fun e=>tmF_st (ts:=ts) (x:=x) e
 have h4:=hx.to h1 h3
 unfold itemF
 split
 ·have g1:=goS_i ts [60,45] (tmF ts x).2
  obtain ⟨k1,k2⟩:=itRF_ok W (a:=(tkS ts x.s).p) (t:=(tmF ts x).1) (cs:=cs) (rs:=rs) (h4.to (goS_ok (c:= [60,45]) W.Nx h4.1) (fun e=>goS_st e))
  exact ⟨k1,fun e=>by obtain ⟨a1,a2,a3⟩:=k2 e;exact ⟨h3 (goS_st a1),a2,by simp only at a3 g1;omega⟩⟩
 ·obtain ⟨k1,k2⟩:=itCF_ok W (a:=(tkS ts x.s).p) (t:=(tmF ts x).1) (cs:=cs) (rs:=rs) h4
  exact ⟨k1,fun e=>by obtain ⟨a1,a2,a3⟩:=k2 e;exact ⟨h3 a1,a2,by simp only at a3;omega⟩⟩
theorem itemF_len (ts:List Tk) (cs:List Cl) (rs:List Ru) (x:Sf):(itemF ts cs rs x).1.length≤cs.length+1∧(itemF ts cs rs x).2.1.length≤rs.length+1:=by
 unfold itemF itRF itCF;split<;>simp
theorem prF_ok {ts:List Tk} (W:Wds ts): ∀(m:Nat) (cs:List Cl) (rs:List Ru) (x:Sf),FOk ts x→FOk ts (prF ts m cs rs x).2.2
 |0,cs,rs,x,h=>h
 |m+1,cs,rs,x,h=>by
  rw [prF];split
  ·exact prF_ok W m _ _ _ (itemF_ok W h).1
  ·exact h
def rdPF (s:List UInt8):Pr×Nat×Int:=
 if (toks s).2.2=0 then rdPO ((prF (toks s).1 (toks s).1.length [] [] ⟨⟨0,none⟩,0⟩).1,(prF (toks s).1 (toks s).1.length [] [] ⟨⟨0,none⟩,0⟩).2.1,(prF (toks s).1 (toks s).1.length [] [] ⟨⟨0,none⟩,0⟩).2.2.s) (prF (toks s).1 (toks s).1.length [] [] ⟨⟨0,none⟩,0⟩).2.2.s.er
 else (⟨[], []⟩,(toks s).2.1,(toks s).2.2)
end Go.Proofs.YtnibelnjflhkgaaGreatDoor.Ab

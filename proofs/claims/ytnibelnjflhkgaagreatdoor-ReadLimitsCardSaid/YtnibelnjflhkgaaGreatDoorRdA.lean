/- Words: marks, places. No condition. The program's reader: its small functions. No condition. The program's reader: the word in hand, an error. No condition. The program's reader: a step. No condition. The program's reader: take. No condition. The program's reader: what must be there. No condition. -/
import Derived.Test.YtnibelnjflhkgaaGreatDoorLxC
import Derived.Test.YtnibelnjflhkgaaGreatDoorBsA
namespace Go.Proofs.YtnibelnjflhkgaaGreatDoor.Ab
set_option linter.unusedVariables false
set_option linter.unusedSimpArgs false
def isM (c:List UInt8):List Tk→Bool|t::_=>t.k==4&&t.s==c| []=>false
def headP:List Tk→Nat|t::_=>t.p| []=>0
end Go.Proofs.YtnibelnjflhkgaaGreatDoor.Ab
namespace Go.Proofs.YtnibelnjflhkgaaGreatDoor.Ab
set_option linter.unusedVariables false
set_option linter.unusedSimpArgs false
set_option maxRecDepth 10000
theorem c47:compF Tryz.prog ow Tryz.f47=(some (8,([(.t 2)],(.seq (.ops [(none,(.set 2 (.bool false)))]) (.seq (.ops [(none,(.cp 3 0)),(none,(.nil (some 4) (.t 3))),(none,(.fa (some 5) (.t 4) 4)),(none,(.ld (some 6) (.t 5) (.one none))),(none,(.bin (some 7) .eql (.t 6) (.k (.int .i64 0)) false false)),(none,(.mv 2 7))]) .ret))))):=by kernel_rfl
theorem c95:compF Tryz.prog ow Tryz.f95=(some (14,([(.t 4)],(.seq (.ops [(none,(.box 2 (.t 0))),(none,(.set 4 (.bool false)))]) (.seq (.ops [(none,(.fa (some 5) (.t 2) 0)),(none,(.ld (some 6) (.t 5) (.one none))),(none,(.bin (some 7) .eql (.t 6) (.k (.int .i64 4)) false false)),(none,(.cp 8 7)),((some (8,true)),(.fa (some 9) (.t 2) 1)),((some (8,true)),(.ld (some 10) (.t 9) (.one none))),((some (8,true)),(.cp 11 1)),((some (8,true)),(.bin (some 12) .eql (.t 10) (.t 11) false false)),(none,(.pick (some 13) (.t 8) (.t 12) (.k (.bool false)))),(none,(.mv 4 13))]) .ret))))):=by kernel_rfl
def rdC (fl:Fl) (ts:List Tk) (i:Nat) (d:Int) (b:Nat) (e:Int):Blk:= .cells [.sl fl 4 (ts.map Tk.av), .int .i64 (i:Nat), .int .i64 d, .int .i64 (b:Nat), .int .i64 e]
theorem fnl_rok (h:Hp) (l:Nat) (hl:l<h.n) (fl:Fl) (ts:List Tk) (i:Nat) (d:Int) (b:Nat) (e:Int) (hb:h.bk l=rdC fl ts i d b e):Fn Tryz.prog 47 [.ptr l 0] h (.bool (e==0)) h:=by
 unfold rdC at hb
 refine fnC mixed Tryz.func47 c47 (by simp) ?_
 simp only [go_sem,seval,hb]
theorem fnl_mark (t:Tk) (s:List UInt8):PFn Tryz.prog 95 [t.av, .str s] (.bool (t.k==4&&t.s==s)):=by
 intro h
 refine fnC mixed Tryz.func95 c95 (by simp) ?_
 unfold Tk.av
 cases hk:(t.k==4) with
 |true=>simp only [go_sem,seval,hk]
 |false=>simp only [go_sem,seval,hk]
end Go.Proofs.YtnibelnjflhkgaaGreatDoor.Ab
namespace Go.Proofs.YtnibelnjflhkgaaGreatDoor.Ab
set_option linter.unusedVariables false
set_option linter.unusedSimpArgs false
set_option maxRecDepth 10000
theorem c48:compF Tryz.prog ow Tryz.f48=(some (13,([(.c 2 (.agg 4))],(.seq (.ops [(none,(.alloc 2 [(.int .i64 0),(.str []),(.int .i64 0),(.int .i64 0)]))]) (.seq (.opsD [(none,(.cp 3 0)),(none,(.nil (some 4) (.t 3))),(none,(.fa (some 5) (.t 4) 0)),(none,(.ld (some 6) (.t 5) (.one (some 4)))),(none,(.cp 7 0)),(none,(.nil (some 8) (.t 7))),(none,(.fa (some 9) (.t 8) 1)),(none,(.ld (some 10) (.t 9) (.one none))),(none,(.ia (some 11) (.t 6) (.t 10) (some 4) none)),(none,(.ld (some 12) (.t 11) (.agg 4))),(none,(.st (.t 2) (.t 12) 4))]) .ret))))):=by kernel_rfl
theorem c99:compF Tryz.prog ow Tryz.f99=(some (19,([],(.seq (.ops [(none,(.cp 6 0)),(none,(.nil (some 7) (.t 6))),(none,(.fa (some 8) (.t 7) 4)),(none,(.ld (some 9) (.t 8) (.one none))),(none,(.bin (some 10) .eql (.t 9) (.k (.int .i64 0)) false false))]) (.cond (.t 10) (.ops [(none,(.cp 11 0)),(none,(.cp 12 0)),(none,(.cp 13 1)),(none,(.cp 14 2)),(none,(.nil (some 15) (.t 11))),(none,(.fa (some 16) (.t 15) 3)),(none,(.st (.t 16) (.t 13) 1)),(none,(.nil (some 17) (.t 12))),(none,(.fa (some 18) (.t 17) 4)),(none,(.st (.t 18) (.t 14) 1))]) .skip))))):=by kernel_rfl
theorem fnl_rtoken (h:Hp) (l:Nat) (hl:l<h.n) (ts:List Tk) (i:Nat) (d:Int) (b:Nat) (e:Int) (hb:h.bk l=rdC .sh ts i d b e) (t:Tk) (ht:ts[i]? =some t):Fn Tryz.prog 48 [.ptr l 0] h t.av h:=by
 unfold rdC at hb
 have hx:(ts.map Tk.av)[i]? =some (.agg [.int .i64 t.k, .str t.s, .int .i64 t.n, .int .i64 (t.p:Nat)]):=by rw [List.getElem?_map,ht];rfl
 have n1: ¬(h.n=l):=by omega
 have n2: ¬(l=h.n):=by omega
 unfold Tk.av
 generalize List.map (fun t:Tk=>AV.agg [AV.int .i64 t.k,AV.str t.s,AV.int .i64 t.n,AV.int .i64 (t.p:Nat)]) ts=L at *
 refine fnC mixed Tryz.func48 c48 (by simp) ?_
 simp only [go_sem,seval,hb,hx,n1,n2]
theorem shrink_rdr (h:Hp) (l:Nat) (ts:List Tk) (i:Nat) (d:Int) (b:Nat) (e:Int):Shrink h ⟨h.n,updB h.bk l (.cells [.sl .sh 4 (ts.map Tk.av), .int .i64 (i:Nat), .int .i64 d, .int .i64 (b:Nat), .int .i64 e])⟩ ⟨h.n,updB h.bk l (.cells [.sl .sh 4 (ts.map Tk.av), .int .i64 (i:Nat), .int .i64 d, .int .i64 (b:Nat), .int .i64 e])⟩:=by
 refine ⟨Nat.le_refl _,Nat.le_refl _,fun k hk=>⟨rfl, ?_⟩⟩
 by_cases hkl:k=l
 ·right
  have lb:=lab_tks h.n ts
  simp [bk_apply,hkl,labL]
  exact ⟨by simpa [labOK] using lb,rfl,rfl,rfl,rfl⟩
 ·left
  exact ⟨hk,by simp [bk_apply,hkl]⟩
theorem fnl_rfail (h:Hp) (l:Nat) (hl:l<h.n) (ts:List Tk) (i:Nat) (d:Int) (b:Nat) (e:Int) (hb:h.bk l=rdC .sh ts i d b e) (p:Nat) (e2:Int):Fn Tryz.prog 99 [.ptr l 0, .int .i64 (p:Nat), .int .i64 e2] h (.tup []) (if (e==0) then ⟨h.n,updB h.bk l (rdC .sh ts i d p e2)⟩ else h):=by
 unfold rdC at hb ⊢
 refine fnC mixed Tryz.func99 c99 (by simp) ?_
 cases he:(e==0) with
 |true=>
  simp only [go_sem,seval,hb,he]
  exact shrink_rdr h l ts i d p e2
 |false=>simp only [go_sem,seval,hb,he]
end Go.Proofs.YtnibelnjflhkgaaGreatDoor.Ab
namespace Go.Proofs.YtnibelnjflhkgaaGreatDoor.Ab
set_option linter.unusedVariables false
set_option linter.unusedSimpArgs false
set_option maxRecDepth 10000
theorem c143:compF Tryz.prog ow Tryz.f143=(some (17,([],(.seq (.ops [(none,(.cp 2 0)),(none,(.call (some 3) (.k (.func 47 [] [])) [(.t 2)] none)),(none,(.cp 4 3)),((some (4,true)),(.cp 5 0)),((some (4,true)),(.call (some 6) (.k (.func 48 [] [])) [(.t 5)] none)),((some (4,true)),(.fld (some 7) (.t 6) 0 (.one none))),((some (4,true)),(.bin (some 8) .neq (.t 7) (.k (.int .i64 5)) false false)),(none,(.pick (some 9) (.t 4) (.t 8) (.k (.bool false))))]) (.cond (.t 9) (.ops [(none,(.cp 10 0)),(none,(.nil (some 11) (.t 10))),(none,(.fa (some 12) (.t 11) 1)),(none,(.ld (some 13) (.t 12) (.one none))),(none,(.bin (some 14) .add (.t 13) (.k (.int .i64 1)) false false)),(none,(.nil (some 15) (.t 10))),(none,(.fa (some 16) (.t 15) 1)),(none,(.st (.t 16) (.t 14) 1))]) .skip))))):=by kernel_rfl
theorem fnl_rstep (h:Hp) (l:Nat) (hl:l<h.n) (ts:List Tk) (i:Nat) (hi:i<1000000000) (d:Int) (b:Nat) (e:Int) (hb:h.bk l=rdC .sh ts i d b e) (t:Tk) (ht:ts[i]? =some t):Fn Tryz.prog 143 [.ptr l 0] h (.tup []) (if (e==0&&t.k !=5) then ⟨h.n,updB h.bk l (rdC .sh ts (i+1) d b e)⟩ else h):=by
 have hO:=fnl_rok h l hl .sh ts i d b e hb
 have hT:=fnl_rtoken h l hl ts i d b e hb t ht
 unfold Tk.av at hT
 have hw:IntKind.i64.wrap ((i:Int)+1)=((i+1:Nat):Int):=by rw [wrap64]<;>omega
 have hs:=shrink_rdr h l ts (i+1) d b e
 have hb2:=hb
 unfold rdC at hb2
 unfold rdC
 refine fnC mixed Tryz.func143 c143 (by simp) ?_
 simp only [go_sem,seval]
 refine ccall hO (by simp only [go_sem,seval]) ?_
 cases he:(e==0) with
 |false=>simp only [go_sem,seval]
 |true=>
  simp only [go_sem,seval]
  refine ccall hT (by simp only [go_sem,seval]) ?_
  cases hk:(t.k !=5) with
  |false=>simp only [go_sem,seval,hk]
  |true=>
   simp only [go_sem,seval,hk,hb2,hw]
   exact hs
end Go.Proofs.YtnibelnjflhkgaaGreatDoor.Ab
namespace Go.Proofs.YtnibelnjflhkgaaGreatDoor.Ab
set_option linter.unusedVariables false
set_option linter.unusedSimpArgs false
set_option maxRecDepth 10000
theorem c144:compF Tryz.prog ow Tryz.f144=(some (17,([(.t 4)],(.seq (.ops [(none,(.set 4 (.bool false)))]) (.seq (.seq (.ops [(none,(.cp 5 0)),(none,(.call (some 6) (.k (.func 47 [] [])) [(.t 5)] none)),(none,(.un (some 7) .not (.t 6))),(none,(.cp 8 7)),((some (8,false)),(.cp 9 0)),((some (8,false)),(.call (some 10) (.k (.func 48 [] [])) [(.t 9)] none)),((some (8,false)),(.cp 11 1)),((some (8,false)),(.call (some 12) (.k (.func 95 [] [])) [(.t 10),(.t 11)] none)),((some (8,false)),(.un (some 13) .not (.t 12))),(none,(.pick (some 14) (.t 8) (.k (.bool true)) (.t 13)))]) (.cond (.t 14) (.seq (.ops [(none,(.set 4 (.bool false)))]) .ret) .skip)) (.seq (.ops [(none,(.cp 15 0)),(none,(.call (some 16) (.k (.func 143 [] [])) [(.t 15)] none))]) (.seq (.ops [(none,(.set 4 (.bool true)))]) .ret))))))):=by kernel_rfl
theorem fnl_rtake (h:Hp) (l:Nat) (hl:l<h.n) (ts:List Tk) (i:Nat) (hi:i<1000000000) (d:Int) (b:Nat) (e:Int) (hb:h.bk l=rdC .sh ts i d b e) (t:Tk) (ht:ts[i]? =some t) (s:List UInt8):Fn Tryz.prog 144 [.ptr l 0, .str s] h (.bool (e==0&&(t.k==4&&t.s==s))) (if (e==0&&(t.k==4&&t.s==s)) then ⟨h.n,updB h.bk l (rdC .sh ts (i+1) d b e)⟩ else h):=by
 have hO:=fnl_rok h l hl .sh ts i d b e hb
 have hT:=fnl_rtoken h l hl ts i d b e hb t ht
 have hM:=fnl_mark t s
 have hS:=fnl_rstep h l hl ts i hi d b e hb t ht
 unfold Tk.av at hT hM
 have hs:=shrink_rdr h l ts (i+1) d b e
 unfold rdC at hS ⊢
 refine fnC mixed Tryz.func144 c144 (by simp) ?_
 simp only [go_sem,seval]
 refine ccall hO (by simp only [go_sem,seval]) ?_
 cases he:(e==0) with
 |false=>simp only [go_sem,seval]
 |true=>
  simp only [go_sem,seval]
  refine ccall hT (by simp only [go_sem,seval]) ?_
  simp only [go_sem,seval]
  refine pcall hM (by simp only [go_sem,seval]) ?_
  cases hk:(t.k==4&&t.s==s) with
  |false=>simp only [go_sem,seval]
  |true=>
   have h5:(t.k !=5)=true:=by
    simp only [Bool.and_eq_true,beq_iff_eq] at hk
    rw [hk.1];rfl
   rw [he,h5] at hS
   simp only [Bool.and_self,if_true] at hS
   simp only [go_sem,seval]
   refine ccall hS (by simp only [go_sem,seval]) ?_
   simp only [go_sem,seval]
   exact hs
end Go.Proofs.YtnibelnjflhkgaaGreatDoor.Ab
namespace Go.Proofs.YtnibelnjflhkgaaGreatDoor.Ab
set_option linter.unusedVariables false
set_option linter.unusedSimpArgs false
set_option maxRecDepth 10000
theorem c141:compF Tryz.prog ow Tryz.f141=(some (13,([],(.seq (.ops [(none,(.cp 4 0)),(none,(.cp 5 1)),(none,(.call (some 6) (.k (.func 144 [] [])) [(.t 4),(.t 5)] none)),(none,(.un (some 7) .not (.t 6)))]) (.cond (.t 7) (.ops [(none,(.cp 8 0)),(none,(.cp 9 0)),(none,(.call (some 10) (.k (.func 48 [] [])) [(.t 9)] none)),(none,(.fld (some 11) (.t 10) 3 (.one none))),(none,(.call (some 12) (.k (.func 99 [] [])) [(.t 8),(.t 11),(.k (.int .i64 4))] none))]) .skip))))):=by kernel_rfl
theorem fnl_rneed (h:Hp) (l:Nat) (hl:l<h.n) (ts:List Tk) (i:Nat) (hi:i<1000000000) (d:Int) (b:Nat) (e:Int) (hb:h.bk l=rdC .sh ts i d b e) (t:Tk) (ht:ts[i]? =some t) (s:List UInt8):Fn Tryz.prog 141 [.ptr l 0, .str s] h (.tup []) (if (e==0) then (if (t.k==4&&t.s==s) then ⟨h.n,updB h.bk l (rdC .sh ts (i+1) d b e)⟩ else ⟨h.n,updB h.bk l (rdC .sh ts i d t.p 4)⟩) else h):=by
 have hK:=fnl_rtake h l hl ts i hi d b e hb t ht s
 have hT:=fnl_rtoken h l hl ts i d b e hb t ht
 have hF:=fnl_rfail h l hl ts i d b e hb t.p 4
 unfold Tk.av at hT
 have hs:=shrink_rdr h l ts (i+1) d b e
 have hs2:=shrink_rdr h l ts i d t.p 4
 unfold rdC at hK hF ⊢
 refine fnC mixed Tryz.func141 c141 (by simp) ?_
 cases he:(e==0) with
 |false=>
  rw [he] at hK hF
  simp only [Bool.false_and,Bool.false_eq_true,if_false] at hK hF
  simp only [go_sem,seval]
  refine ccall hK (by simp only [go_sem,seval]) ?_
  simp only [go_sem,seval]
  refine ccall hT (by simp only [go_sem,seval]) ?_
  simp only [go_sem,seval]
  refine ccall hF (by simp only [go_sem,seval]) ?_
  simp only [go_sem,seval]
 |true=>
  rw [he] at hK hF
  simp only [Bool.true_and,if_true] at hK hF
  cases hk:(t.k==4&&t.s==s) with
  |false=>
   rw [hk] at hK
   simp only [Bool.false_eq_true,if_false] at hK
   simp only [go_sem,seval]
   refine ccall hK (by simp only [go_sem,seval]) ?_
   simp only [go_sem,seval]
   refine ccall hT (by simp only [go_sem,seval]) ?_
   simp only [go_sem,seval]
   refine ccall hF (by simp only [go_sem,seval]) ?_
   simp only [go_sem,seval]
   exact hs2
  |true=>
   rw [hk] at hK
   simp only [if_true] at hK
   simp only [go_sem,seval]
   refine ccall hK (by simp only [go_sem,seval]) ?_
   simp only [go_sem,seval]
   exact hs
end Go.Proofs.YtnibelnjflhkgaaGreatDoor.Ab

/- The document's reader: its small functions. No condition. The document's reader: take, must, brackets. No condition. -/
import Derived.Test.YtnibelnjflhkgaaGreatDoorRmC
namespace Go.Proofs.YtnibelnjflhkgaaGreatDoor.Ab
set_option linter.unusedVariables false
set_option linter.unusedSimpArgs false
set_option maxRecDepth 10000
theorem c52:compF Tryz.prog ow Tryz.f52=(some (13,([(.c 2 (.agg 4))],(.seq (.ops [(none,(.alloc 2 [(.int .i64 0),(.str []),(.int .i64 0),(.int .i64 0)]))]) (.seq (.opsD [(none,(.cp 3 0)),(none,(.nil (some 4) (.t 3))),(none,(.fa (some 5) (.t 4) 0)),(none,(.ld (some 6) (.t 5) (.one (some 4)))),(none,(.cp 7 0)),(none,(.nil (some 8) (.t 7))),(none,(.fa (some 9) (.t 8) 1)),(none,(.ld (some 10) (.t 9) (.one none))),(none,(.ia (some 11) (.t 6) (.t 10) (some 4) none)),(none,(.ld (some 12) (.t 11) (.agg 4))),(none,(.st (.t 2) (.t 12) 4))]) .ret))))):=by kernel_rfl
theorem c58:compF Tryz.prog ow Tryz.f58=(some (19,([],(.seq (.ops [(none,(.cp 6 0)),(none,(.nil (some 7) (.t 6))),(none,(.fa (some 8) (.t 7) 2)),(none,(.ld (some 9) (.t 8) (.one none))),(none,(.bin (some 10) .eql (.t 9) (.k (.int .i64 0)) false false))]) (.cond (.t 10) (.ops [(none,(.cp 11 0)),(none,(.cp 12 0)),(none,(.cp 13 1)),(none,(.cp 14 2)),(none,(.nil (some 15) (.t 11))),(none,(.fa (some 16) (.t 15) 2)),(none,(.st (.t 16) (.t 13) 1)),(none,(.nil (some 17) (.t 12))),(none,(.fa (some 18) (.t 17) 3)),(none,(.st (.t 18) (.t 14) 1))]) .skip))))):=by kernel_rfl
theorem c105:compF Tryz.prog ow Tryz.f105=(some (26,([(.t 6)],(.seq (.ops [(none,(.set 6 (.bool false)))]) (.seq (.ops [(none,(.cp 7 0)),(none,(.nil (some 8) (.t 7))),(none,(.fa (some 9) (.t 8) 2)),(none,(.ld (some 10) (.t 9) (.one none))),(none,(.bin (some 11) .eql (.t 10) (.k (.int .i64 0)) false false)),(none,(.cp 12 11)),((some (12,true)),(.cp 13 0)),((some (12,true)),(.call (some 14) (.k (.func 52 [] [])) [(.t 13)] (some 100))),((some (12,true)),(.fld (some 15) (.t 14) 0 (.one none))),((some (12,true)),(.cp 16 1)),((some (12,true)),(.bin (some 17) .eql (.t 15) (.t 16) false false)),(none,(.pick (some 18) (.t 12) (.t 17) (.k (.bool false)))),(none,(.cp 19 18)),((some (19,true)),(.cp 20 0)),((some (19,true)),(.call (some 21) (.k (.func 52 [] [])) [(.t 20)] (some 100))),((some (19,true)),(.fld (some 22) (.t 21) 1 (.one none))),((some (19,true)),(.cp 23 2)),((some (19,true)),(.bin (some 24) .eql (.t 22) (.t 23) false false)),(none,(.pick (some 25) (.t 19) (.t 24) (.k (.bool false)))),(none,(.mv 6 25))]) .ret))))):=by kernel_rfl
def rfC (ts:List Tk) (i:Nat) (e:Int) (b:Nat) (d:Int):Blk:= .cells [.sl .sh 4 (ts.map Tk.av), .int .i64 (i:Nat), .int .i64 e, .int .i64 (b:Nat), .int .i64 d]
theorem fnr_now (h:Hp) (l:Nat) (hl:l<h.n) (ts:List Tk) (i:Nat) (e:Int) (b:Nat) (d:Int) (hb:h.bk l=rfC ts i e b d) (t:Tk) (ht:ts[i]? =some t):Fn Tryz.prog 52 [.ptr l 0] h t.av h:=by
 unfold rfC at hb
 have hx:(ts.map Tk.av)[i]? =some (.agg [.int .i64 t.k, .str t.s, .int .i64 t.n, .int .i64 (t.p:Nat)]):=by rw [List.getElem?_map,ht];rfl
 have n1: ¬(h.n=l):=by omega
 have n2: ¬(l=h.n):=by omega
 unfold Tk.av
 generalize List.map (fun t:Tk=>AV.agg [AV.int .i64 t.k,AV.str t.s,AV.int .i64 t.n,AV.int .i64 (t.p:Nat)]) ts=L at *
 refine fnC mixed Tryz.func52 c52 (by simp) ?_
 simp only [go_sem,seval,hb,hx,n1,n2]
theorem shrink_rfr (h:Hp) (l:Nat) (ts:List Tk) (i:Nat) (e:Int) (b:Nat) (d:Int):Shrink h ⟨h.n,updB h.bk l (.cells [.sl .sh 4 (ts.map Tk.av), .int .i64 (i:Nat), .int .i64 e, .int .i64 (b:Nat), .int .i64 d])⟩ ⟨h.n,updB h.bk l (.cells [.sl .sh 4 (ts.map Tk.av), .int .i64 (i:Nat), .int .i64 e, .int .i64 (b:Nat), .int .i64 d])⟩:=by
 refine ⟨Nat.le_refl _,Nat.le_refl _,fun k hk=>⟨rfl, ?_⟩⟩
 by_cases hkl:k=l
 ·right
  have lb:=lab_tks h.n ts
  simp [bk_apply,hkl,labL]
  exact ⟨by simpa [labOK] using lb,rfl,rfl,rfl,rfl⟩
 ·left
  exact ⟨hk,by simp [bk_apply,hkl]⟩
theorem fnr_fails (h:Hp) (l:Nat) (hl:l<h.n) (ts:List Tk) (i:Nat) (e:Int) (b:Nat) (d:Int) (hb:h.bk l=rfC ts i e b d) (p:Nat) (e2:Int):Fn Tryz.prog 58 [.ptr l 0, .int .i64 e2, .int .i64 (p:Nat)] h (.tup []) (if (e==0) then ⟨h.n,updB h.bk l (rfC ts i e2 p d)⟩ else h):=by
 unfold rfC at hb ⊢
 refine fnC mixed Tryz.func58 c58 (by simp) ?_
 cases he:(e==0) with
 |true=>
  simp only [go_sem,seval,hb,he]
  exact shrink_rfr h l ts i e2 p d
 |false=>simp only [go_sem,seval,hb,he]
theorem fnr_is (h:Hp) (l:Nat) (hl:l<h.n) (ts:List Tk) (i:Nat) (e:Int) (b:Nat) (d:Int) (hb:h.bk l=rfC ts i e b d) (t:Tk) (ht:ts[i]? =some t) (k:Int) (s:List UInt8):
  Fn Tryz.prog 105 [.ptr l 0, .int .i64 k, .str s] h (.bool (e==0&&(t.k==k&&t.s==s))) h:=by
 have hT:=fnr_now h l hl ts i e b d hb t ht
 unfold rfC at hb
 unfold Tk.av at hT
 refine fnC mixed Tryz.func105 c105 (by simp) ?_
 cases he:(e==0) with
 |false=>simp only [go_sem,seval,hb,he]
 |true=>
  simp only [go_sem,seval,hb,he]
  refine ccall hT (by simp only [go_sem,seval]) ?_
  cases hk:(t.k==k) with
  |false=>simp only [go_sem,seval,hk]
  |true=>
   simp only [go_sem,seval,hk]
   refine ccall hT (by simp only [go_sem,seval]) ?_
   simp only [go_sem,seval]
end Go.Proofs.YtnibelnjflhkgaaGreatDoor.Ab
namespace Go.Proofs.YtnibelnjflhkgaaGreatDoor.Ab
set_option linter.unusedVariables false
set_option linter.unusedSimpArgs false
set_option maxRecDepth 10000
theorem c103:compF Tryz.prog ow Tryz.f103=(some (8,([(.t 4)],(.seq (.ops [(none,(.set 4 (.bool false)))]) (.seq (.ops [(none,(.cp 5 0)),(none,(.cp 6 1)),(none,(.call (some 7) (.k (.func 105 [] [])) [(.t 5),(.k (.int .i64 4)),(.t 6)] none)),(none,(.mv 4 7))]) .ret))))):=by kernel_rfl
theorem c54:compF Tryz.prog ow Tryz.f54=(some (16,([(.t 4)],(.seq (.ops [(none,(.set 4 (.bool false)))]) (.seq (.seq (.ops [(none,(.cp 5 0)),(none,(.cp 6 1)),(none,(.call (some 7) (.k (.func 103 [] [])) [(.t 5),(.t 6)] none)),(none,(.un (some 8) .not (.t 7)))]) (.cond (.t 8) (.seq (.ops [(none,(.set 4 (.bool false)))]) .ret) .skip)) (.seq (.ops [(none,(.cp 9 0)),(none,(.nil (some 10) (.t 9))),(none,(.fa (some 11) (.t 10) 1)),(none,(.ld (some 12) (.t 11) (.one none))),(none,(.bin (some 13) .add (.t 12) (.k (.int .i64 1)) false false)),(none,(.nil (some 14) (.t 9))),(none,(.fa (some 15) (.t 14) 1)),(none,(.st (.t 15) (.t 13) 1))]) (.seq (.ops [(none,(.set 4 (.bool true)))]) .ret))))))):=by kernel_rfl
theorem c56:compF Tryz.prog ow Tryz.f56=(some (28,([],(.seq (.seq (.ops [(none,(.cp 6 0)),(none,(.nil (some 7) (.t 6))),(none,(.fa (some 8) (.t 7) 2)),(none,(.ld (some 9) (.t 8) (.one none))),(none,(.bin (some 10) .neq (.t 9) (.k (.int .i64 0)) false false))]) (.cond (.t 10) .ret .skip)) (.seq (.seq (.ops [(none,(.cp 11 0)),(none,(.cp 12 1)),(none,(.cp 13 2)),(none,(.call (some 14) (.k (.func 105 [] [])) [(.t 11),(.t 12),(.t 13)] none)),(none,(.un (some 15) .not (.t 14)))]) (.cond (.t 15) (.seq (.ops [(none,(.cp 16 0)),(none,(.cp 17 0)),(none,(.call (some 18) (.k (.func 52 [] [])) [(.t 17)] (some 100))),(none,(.fld (some 19) (.t 18) 3 (.one none))),(none,(.call (some 20) (.k (.func 58 [] [])) [(.t 16),(.k (.int .i64 4)),(.t 19)] none))]) .ret) .skip)) (.ops [(none,(.cp 21 0)),(none,(.nil (some 22) (.t 21))),(none,(.fa (some 23) (.t 22) 1)),(none,(.ld (some 24) (.t 23) (.one none))),(none,(.bin (some 25) .add (.t 24) (.k (.int .i64 1)) false false)),(none,(.nil (some 26) (.t 21))),(none,(.fa (some 27) (.t 26) 1)),(none,(.st (.t 27) (.t 25) 1))])))))):=by kernel_rfl
theorem c152:compF Tryz.prog ow Tryz.f152=(some (28,([],(.seq (.ops [(none,(.cp 3 0)),(none,(.call (some 4) (.k (.func 52 [] [])) [(.t 3)] (some 100))),(none,(.fld (some 5) (.t 4) 3 (.one none))),(none,(.mv 2 5))]) (.seq (.ops [(none,(.cp 6 0)),(none,(.call (some 7) (.k (.func 56 [] [])) [(.t 6),(.k (.int .i64 4)),(.k (.str [40]))] none))]) (.seq (.ops [(none,(.cp 8 0)),(none,(.nil (some 9) (.t 8))),(none,(.fa (some 10) (.t 9) 2)),(none,(.ld (some 11) (.t 10) (.one none))),(none,(.bin (some 12) .eql (.t 11) (.k (.int .i64 0)) false false))]) (.cond (.t 12) (.seq (.ops [(none,(.cp 13 0)),(none,(.nil (some 14) (.t 13))),(none,(.fa (some 15) (.t 14) 4)),(none,(.ld (some 16) (.t 15) (.one none))),(none,(.bin (some 17) .add (.t 16) (.k (.int .i64 1)) false false)),(none,(.nil (some 18) (.t 13))),(none,(.fa (some 19) (.t 18) 4)),(none,(.st (.t 19) (.t 17) 1))]) (.seq (.ops [(none,(.cp 20 0)),(none,(.nil (some 21) (.t 20))),(none,(.fa (some 22) (.t 21) 4)),(none,(.ld (some 23) (.t 22) (.one none))),(none,(.bin (some 24) .gtr (.t 23) (.k (.int .i64 100)) false false))]) (.cond (.t 24) (.ops [(none,(.cp 25 0)),(none,(.cp 26 2)),(none,(.call (some 27) (.k (.func 58 [] [])) [(.t 25),(.k (.int .i64 2)),(.t 26)] none))]) .skip))) .skip))))))):=by kernel_rfl
theorem c153:compF Tryz.prog ow Tryz.f153=(some (11,([],(.seq (.ops [(none,(.cp 2 0)),(none,(.call (some 3) (.k (.func 56 [] [])) [(.t 2),(.k (.int .i64 4)),(.k (.str [41]))] none))]) (.ops [(none,(.cp 4 0)),(none,(.nil (some 5) (.t 4))),(none,(.fa (some 6) (.t 5) 4)),(none,(.ld (some 7) (.t 6) (.one none))),(none,(.bin (some 8) .sub (.t 7) (.k (.int .i64 1)) false false)),(none,(.nil (some 9) (.t 4))),(none,(.fa (some 10) (.t 9) 4)),(none,(.st (.t 10) (.t 8) 1))]))))):=by kernel_rfl
theorem fnr_mark (h:Hp) (l:Nat) (hl:l<h.n) (ts:List Tk) (i:Nat) (e:Int) (b:Nat) (d:Int) (hb:h.bk l=rfC ts i e b d) (t:Tk) (ht:ts[i]? =some t) (s:List UInt8):
  Fn Tryz.prog 103 [.ptr l 0, .str s] h (.bool (e==0&&(t.k==4&&t.s==s))) h:=by
 have hI:=fnr_is h l hl ts i e b d hb t ht 4 s
 refine fnC mixed Tryz.func103 c103 (by simp) ?_
 simp only [go_sem,seval]
 refine ccall hI (by simp only [go_sem,seval]) ?_
 simp only [go_sem,seval]
theorem fnr_take (h:Hp) (l:Nat) (hl:l<h.n) (ts:List Tk) (i:Nat) (hi:i<1000000000) (e:Int) (b:Nat) (d:Int) (hb:h.bk l=rfC ts i e b d) (t:Tk) (ht:ts[i]? =some t) (s:List UInt8):
  Fn Tryz.prog 54 [.ptr l 0, .str s] h (.bool (e==0&&(t.k==4&&t.s==s))) (if (e==0&&(t.k==4&&t.s==s)) then ⟨h.n,updB h.bk l (rfC ts (i+1) e b d)⟩ else h):=by
 have hM:=fnr_mark h l hl ts i e b d hb t ht s
 have hw:IntKind.i64.wrap ((i:Int)+1)=((i+1:Nat):Int):=by rw [wrap64]<;>omega
 have hs:=shrink_rfr h l ts (i+1) e b d
 unfold rfC at hb ⊢
 refine fnC mixed Tryz.func54 c54 (by simp) ?_
 simp only [go_sem,seval]
 refine ccall hM (by simp only [go_sem,seval]) ?_
 cases hk:(e==0&&(t.k==4&&t.s==s)) with
 |false=>simp only [go_sem,seval,hk]
 |true=>
  simp only [go_sem,seval,hk,hb,hw]
  exact hs
theorem fnr_must (h:Hp) (l:Nat) (hl:l<h.n) (ts:List Tk) (i:Nat) (hi:i<1000000000) (e:Int) (b:Nat) (d:Int) (hb:h.bk l=rfC ts i e b d) (t:Tk) (ht:ts[i]? =some t) (k:Int) (s:List UInt8):
  Fn Tryz.prog 56 [.ptr l 0, .int .i64 k, .str s] h (.tup []) (if (e==0) then (if (t.k==k&&t.s==s) then ⟨h.n,updB h.bk l (rfC ts (i+1) e b d)⟩ else ⟨h.n,updB h.bk l (rfC ts i 4 t.p d)⟩) else h):=by
 have hI:=fnr_is h l hl ts i e b d hb t ht k s
 have hT:=fnr_now h l hl ts i e b d hb t ht
 have hF:=fnr_fails h l hl ts i e b d hb t.p 4
 unfold Tk.av at hT
 have hw:IntKind.i64.wrap ((i:Int)+1)=((i+1:Nat):Int):=by rw [wrap64]<;>omega
 have hs:=shrink_rfr h l ts (i+1) e b d
 have hs2:=shrink_rfr h l ts i 4 t.p d
 unfold rfC at hb hF ⊢
 refine fnC mixed Tryz.func56 c56 (by simp) ?_
 cases he:(e==0) with
 |false=>
  have he' :(e !=0)=true:=by simpa [bne] using he
  simp only [go_sem,seval,hb,he,he']
 |true=>
  have he' :(e !=0)=false:=by simp [bne,he]
  rw [he] at hI hF
  simp only [Bool.true_and,if_true] at hI hF
  simp only [go_sem,seval,hb,he,he']
  refine ccall hI (by simp only [go_sem,seval]) ?_
  cases hk:(t.k==k&&t.s==s) with
  |false=>
   simp only [go_sem,seval,hk]
   refine ccall hT (by simp only [go_sem,seval]) ?_
   simp only [go_sem,seval]
   refine ccall hF (by simp only [go_sem,seval]) ?_
   simp only [go_sem,seval]
   exact hs2
  |true=>
   simp only [go_sem,seval,hk,hb,hw]
   exact hs
theorem fnr_close (h:Hp) (l:Nat) (hl:l<h.n) (ts:List Tk) (i:Nat) (hi:i<1000000000) (e:Int) (b:Nat) (d:Int) (hb:h.bk l=rfC ts i e b d) (t:Tk) (ht:ts[i]? =some t):
  Fn Tryz.prog 153 [.ptr l 0] h (.tup []) ⟨h.n,updB h.bk l (if (e==0) then (if (t.k==4&&t.s== [41]) then rfC ts (i+1) e b (IntKind.i64.wrap (d-1)) else rfC ts i 4 t.p (IntKind.i64.wrap (d-1))) else rfC ts i e b (IntKind.i64.wrap (d-1)))⟩:=by
 have hN:=fnr_must h l hl ts i hi e b d hb t ht 4 [41]
 have s1:=shrink_rfr h l ts (i+1) e b (IntKind.i64.wrap (d-1))
 have s2:=shrink_rfr h l ts i 4 t.p (IntKind.i64.wrap (d-1))
 have s3:=shrink_rfr h l ts i e b (IntKind.i64.wrap (d-1))
 have hb2:=hb
 unfold rfC at hN hb2 ⊢
 refine fnC mixed Tryz.func153 c153 (by simp) ?_
 cases he:(e==0) with
 |false=>
  rw [he] at hN
  simp only [Bool.false_eq_true,if_false] at hN
  simp only [go_sem,seval]
  refine ccall hN (by simp only [go_sem,seval]) ?_
  simp only [go_sem,seval,hb2]
  exact s3
 |true=>
  rw [he] at hN
  simp only [if_true] at hN
  cases hk:(t.k==4&&t.s== [41]) with
  |false=>
   rw [hk] at hN
   simp only [Bool.false_eq_true,if_false] at hN
   simp only [go_sem,seval]
   refine ccall hN (by simp only [go_sem,seval]) ?_
   simp only [go_sem,seval]
   exact s2
  |true=>
   rw [hk] at hN
   simp only [if_true] at hN
   simp only [go_sem,seval]
   refine ccall hN (by simp only [go_sem,seval]) ?_
   simp only [go_sem,seval]
   exact s1
theorem fnr_open (h:Hp) (l:Nat) (hl:l<h.n) (ts:List Tk) (i:Nat) (hi:i<1000000000) (b d:Nat) (hd:d<1000) (hb:h.bk l=rfC ts i 0 b d) (t:Tk) (ht:ts[i]? =some t) (hm:(t.k==4&&t.s== [40])=true):
  Fn Tryz.prog 152 [.ptr l 0] h (.tup []) ⟨h.n,updB h.bk l (if 100<d+1 then rfC ts (i+1) 2 t.p ((d+1:Nat):Int) else rfC ts (i+1) 0 b ((d+1:Nat):Int))⟩:=by
 have hT:=fnr_now h l hl ts i 0 b d hb t ht
 have hN:=fnr_must h l hl ts i hi 0 b d hb t ht 4 [40]
 rw [hm] at hN
 simp only [beq_self_eq_true,if_true] at hN
 unfold Tk.av at hT
 have hw:IntKind.i64.wrap ((d:Int)+1)=((d+1:Nat):Int):=by rw [wrap64]<;>omega
 have hF:=fnr_fails ⟨h.n,updB h.bk l (rfC ts (i+1) 0 b ((d+1:Nat):Int))⟩ l hl ts (i+1) 0 b ((d+1:Nat):Int) (by simp [bk_apply]) t.p 2
 simp only [beq_self_eq_true,if_true,updB_upd] at hF
 have s1:=shrink_rfr h l ts (i+1) 2 t.p ((d+1:Nat):Int)
 have s2:=shrink_rfr h l ts (i+1) 0 b ((d+1:Nat):Int)
 unfold rfC at hN hF ⊢
 refine fnC mixed Tryz.func152 c152 (by simp) ?_
 simp only [go_sem,seval]
 refine ccall hT (by simp only [go_sem,seval]) ?_
 simp only [go_sem,seval]
 refine ccall hN (by simp only [go_sem,seval]) ?_
 by_cases hc:100<d+1
 ·have hc' :decide (((d+1:Nat):Int)>100)=true:=decide_eq_true (by omega)
  rw [if_pos hc]
  simp only [go_sem,seval,hw,hc']
  refine ccall hF (by simp only [go_sem,seval]) ?_
  simp only [go_sem,seval]
  exact s1
 ·have hc' :decide (((d+1:Nat):Int)>100)=false:=decide_eq_false (by omega)
  rw [if_neg hc]
  simp only [go_sem,seval,hw,hc']
  exact s2
end Go.Proofs.YtnibelnjflhkgaaGreatDoor.Ab

/- What is shared: which calls own, that regions may mix. No condition. Terms as plain data, whether two are alike. -/
import Derived.Test.YtnibelnjflhkgaaGreatDoorAb38
import Derived.Test.YtnibelnjflhkgaaGreatDoorProg
import Derived.KernelRfl
namespace Go.Proofs.YtnibelnjflhkgaaGreatDoor.Ab
set_option linter.unusedVariables false
def ow:FuncId→Option Nat:=fun f=>match f with|52=>some 100|62=>some 100|96=>some 100|97=>some 100|101=>some 100|112=>some 100|149=>some 100|155=>some 100|196=>some 100|200=>some 100|226=>some 100|240=>some 100|_=>none
attribute [go_sem] decide_true decide_false Nat.zero_le Bool.not_true Bool.not_false Bool.false_eq_true if_false if_true forall_const true_and and_true List.map Option.map Bool.and_self Bool.and_true Bool.true_and Bool.false_and Bool.and_false List.getElem?_cons_zero List.getElem?_nil List.getElem?_cons_succ Int.natCast_nonneg Int.toNat_natCast List.length_map List.length_cons List.length_nil Nat.zero_add Nat.le_refl List.drop_zero List.drop_succ_cons List.take_succ_cons List.take_zero List.take_nil ne_eq not_true_eq_false not_false_eq_true upd_same Nat.add_assoc Nat.left_eq_add Nat.add_eq_left Nat.add_left_cancel_iff Nat.succ_ne_self Nat.one_ne_zero Nat.add_zero Nat.le_add_right ite_self List.set_cons_zero List.set_cons_succ List.all_cons List.all_nil bne_self_eq_false List.isEmpty_cons Int.cast_ofNat_Int Nat.mul_one List.nil_append or_self or_true true_or List.cons_append List.append_nil Option.none_beq_some Option.some_beq_some beq_self_eq_true Nat.add_le_add_iff_left
theorem mixed:Tryz.prog.follows .mixedOrders=true:=by kernel_rfl
end Go.Proofs.YtnibelnjflhkgaaGreatDoor.Ab
namespace Go.Proofs.YtnibelnjflhkgaaGreatDoor.Ab
set_option linter.unusedVariables false
set_option linter.unusedSimpArgs false
set_option maxRecDepth 10000
inductive T|mk (k:Int) (n:List UInt8) (v:Int) (l:List T)
theorem T.ind {M:T→Prop} (h: ∀k n v l,(∀x∈l,M x)→M (.mk k n v l)): ∀t,M t
 | .mk k n v l=>h k n v l (fun x hx=>T.ind h x)
termination_by t=>SizeOf.sizeOf t
decreasing_by have:=List.sizeOf_lt_of_mem hx;simp;omega
mutual
def T.av:T→AV| .mk k n v l=> .agg [.int .i64 k, .str n, .int .i64 v, .sl .sh 4 (avs l)]
def avs:List T→List AV| []=> []|t::l=>t.av::avs l
end
theorem avs_map: ∀l,avs l=l.map T.av
 | []=>by rw [avs];rfl
 |t::l=>by rw [avs,avs_map l];rfl
theorem av_mk (k:Int) (n:List UInt8) (v:Int) (l:List T):(T.mk k n v l).av= .agg [.int .i64 k, .str n, .int .i64 v, .sl .sh 4 (l.map T.av)]:=by rw [T.av,avs_map]
mutual
def T.ok:T→Prop| .mk k n v l=>l.length<1000000000000000∧n.length<1000000000000000∧oks l
def oks:List T→Prop| []=>True|t::l=>t.ok∧oks l
end
theorem oks_all: ∀l,oks l↔ ∀t∈l,t.ok
 | []=>by simp [oks]
 |t::l=>by simp [oks,oks_all l]
theorem ok_mk (k:Int) (n:List UInt8) (v:Int) (l:List T):(T.mk k n v l).ok↔l.length<1000000000000000∧n.length<1000000000000000∧ ∀t∈l,t.ok:=by rw [T.ok,oks_all]
theorem av_agg (t:T):AV.agg t.av.cells=t.av:=by cases t;rw [av_mk];rfl
theorem strip_av (t:T):strip t.av=t.av:=by cases t;rw [av_mk];rfl
theorem isOwn_av (t:T):isOwn t.av=false:=by cases t;rw [av_mk];rfl
theorem getAv {l:List T} {i:Nat} (hi:i<l.length):(l.map T.av)[i]? =some l[i].av:=by simp [List.getElem?_eq_getElem hi]
theorem av_len (t:T):t.av.cells.length=4:=by cases t;rw [av_mk];rfl
theorem av_take (t:T):List.take 4 t.av.cells=t.av.cells:=by cases t;rw [av_mk];rfl
theorem av_okc (t:T):okc t.av=true:=by cases t;rw [av_mk];rfl
theorem av_put (a b c d:AV) (t:T):putCells [a,b,c,d] 0 t.av.cells=t.av.cells:=by cases t;rw [av_mk];rfl
theorem av_cstrip (t:T):t.av.cells.map strip=t.av.cells:=by cases t;rw [av_mk];rfl
attribute [go_sem] av_put av_cstrip av_len av_take av_agg strip_av isOwn_av av_okc
theorem c24:compF Tryz.prog ow Tryz.f24=(some (31,([(.t 4)],(.seq (.ops [(none,(.box 2 (.t 0))),(none,(.box 3 (.t 1))),(none,(.set 4 (.bool false)))]) (.seq (.ops [(none,(.fa (some 5) (.t 2) 0)),(none,(.ld (some 6) (.t 5) (.one none))),(none,(.fa (some 7) (.t 3) 0)),(none,(.ld (some 8) (.t 7) (.one none))),(none,(.bin (some 9) .eql (.t 6) (.t 8) false false)),(none,(.cp 10 9)),((some (10,true)),(.fa (some 11) (.t 2) 1)),((some (10,true)),(.ld (some 12) (.t 11) (.one none))),((some (10,true)),(.fa (some 13) (.t 3) 1)),((some (10,true)),(.ld (some 14) (.t 13) (.one none))),((some (10,true)),(.bin (some 15) .eql (.t 12) (.t 14) false false)),(none,(.pick (some 16) (.t 10) (.t 15) (.k (.bool false)))),(none,(.cp 17 16)),((some (17,true)),(.fa (some 18) (.t 2) 2)),((some (17,true)),(.ld (some 19) (.t 18) (.one none))),((some (17,true)),(.fa (some 20) (.t 3) 2)),((some (17,true)),(.ld (some 21) (.t 20) (.one none))),((some (17,true)),(.bin (some 22) .eql (.t 19) (.t 21) false false)),(none,(.pick (some 23) (.t 17) (.t 22) (.k (.bool false)))),(none,(.cp 24 23)),((some (24,true)),(.fa (some 25) (.t 2) 3)),((some (24,true)),(.ld (some 26) (.t 25) (.one (some 4)))),((some (24,true)),(.fa (some 27) (.t 3) 3)),((some (24,true)),(.ld (some 28) (.t 27) (.one (some 4)))),((some (24,true)),(.call (some 29) (.k (.func 64 [] [])) [(.t 26),(.t 28)] none)),(none,(.pick (some 30) (.t 24) (.t 29) (.k (.bool false)))),(none,(.mv 4 30))]) .ret))))):=by kernel_rfl
theorem c64:compF Tryz.prog ow Tryz.f64=(some (27,([(.t 4)],(.seq (.ops [(none,(.set 4 (.bool false)))]) (.seq (.seq (.ops [(none,(.cp 6 0)),(none,(.len (some 7) (.t 6) false true)),(none,(.cp 8 1)),(none,(.len (some 9) (.t 8) false true)),(none,(.bin (some 10) .neq (.t 7) (.t 9) false false))]) (.cond (.t 10) (.seq (.ops [(none,(.set 4 (.bool false)))]) .ret) .skip)) (.seq (.seq (.ops [(none,(.set 5 (.int .i64 0)))]) (.block 0 (.loop (.seq (.seq (.ops [(none,(.cp 11 5)),(none,(.cp 12 0)),(none,(.len (some 13) (.t 12) false true)),(none,(.bin (some 14) .lss (.t 11) (.t 13) false false))]) (.cond (.t 14) .skip (.exit 0))) (.seq (.block 1 (.seq (.opsD [(none,(.cp 17 0)),(none,(.cp 18 5)),(none,(.ia (some 19) (.t 17) (.t 18) (some 4) none)),(none,(.ld (some 20) (.t 19) (.agg 4))),(none,(.cp 21 1)),(none,(.cp 22 5)),(none,(.ia (some 23) (.t 21) (.t 22) (some 4) none)),(none,(.ld (some 24) (.t 23) (.agg 4))),(none,(.call (some 25) (.k (.func 24 [] [])) [(.t 20),(.t 24)] none)),(none,(.un (some 26) .not (.t 25)))]) (.cond (.t 26) (.seq (.ops [(none,(.set 4 (.bool false)))]) .ret) .skip))) (.ops [(none,(.cp 15 5)),(none,(.bin (some 16) .add (.t 15) (.k (.int .i64 1)) false false)),(none,(.mv 5 16))])))))) (.seq (.ops [(none,(.set 4 (.bool true)))]) .ret))))))):=by kernel_rfl
end Go.Proofs.YtnibelnjflhkgaaGreatDoor.Ab

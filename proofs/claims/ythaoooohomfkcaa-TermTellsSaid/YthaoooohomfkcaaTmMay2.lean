/- Whether a term may be: the program's own question. No condition beyond the reading's own. -/
import Derived.Test.YthaoooohomfkcaaTmMay1
namespace Go.Proofs.Ythaoooohomfkcaa.A
open Go Go.RowKit
open Go.Proofs.YthaoooohomfkcaaW.PrintWords Go.Proofs.YthaoooohomfkcaaW.PrintLast Go.Proofs.YthaoooohomfkcaaW.PrintMore
set_option linter.unusedVariables false
set_option linter.unusedSimpArgs false

set_option maxHeartbeats 1000000 in
set_option maxRecDepth 100000 in
theorem may_zero : MayAt 0 := by
  intro x A c g l w0 w hC hc hB hg hl h0 h24
  have hu := Try.underlying31
  have H1 := Aside0.mk hB
  have H2 := Aside0.mk hl
  have HK := Aside0.mk (KeepBut.refl w g none)
  clear hC hc hB hl
  obtain ⟨D, hD⟩ : ∃ D : Int, ((0 : Nat) : Int) = D := ⟨_, rfl⟩
  rw [hD]
  have hD0 : (D == 0) = true := beq_iff_eq.2 (by omega)
  clear hD
  go_enter Try.func101, Try.ntmps101
  go_wp2_with (first | ((with_reducible refine gate_dst (N := 3) rfl ?_); refine box_event ?hg (N := 3) ?hd (cs := #[.int .i64 x.f0, .string x.f1, .int .i64 x.f2, .slice A x.f3.length c]) (t := 31) ?hr ?_; (case hd => rfl); (case hg => rfl); (case hr => first | (go_simp; done) | (go_simp; rfl)); intro b3 hb3 w2 hbox hb; have n1 := Aside0.mk (below_then H1.out H1.out.size hb); have n2 := Aside0.mk (IntAt.below H2.out hb); have n3 := Aside0.mk (HK.out.trans (keep_of_below (g := g) hb) (.inl rfl)); have n4 := Aside0.mk (show b3 ≠ g by have := blk_lt H2.out; omega); have n5 := Aside0.mk hbox; clear H1 H2 HK hb3 hbox hb; have H1 := n1; have H2 := n2; have HK := n3; have N3 := n4; have B3 := n5; clear n1 n2 n3 n4 n5) | ((with_reducible refine gate_dst (N := 4) rfl ?_); refine box_event ?hg (N := 4) ?hd (cs := #[.int .i64 D]) (t := 3) ?hr ?_; (case hd => rfl); (case hg => rfl); (case hr => first | (go_simp; done) | (go_simp; rfl)); intro b4 hb4 w3 hbox hb; have n1 := Aside0.mk (below_then H1.out H1.out.size hb); have n2 := Aside0.mk (IntAt.below H2.out hb); have n3 := Aside0.mk (HK.out.trans (keep_of_below (g := g) hb) (.inl rfl)); have n4 := Aside0.mk (show b4 ≠ g by have := blk_lt H2.out; omega); have n5 := Aside0.mk (show IntAt w3 b4 D from hbox); have n6 := Aside0.mk (blk_below B3.out hb); clear H1 H2 HK hb4 hbox hb B3; have H1 := n1; have H2 := n2; have HK := n3; have N4 := n4; have B4 := n5; have B3 := n6; clear n1 n2 n3 n4 n5 n6) | ((with_reducible refine gate_dst (N := 5) rfl ?_); refine box_event ?hg (N := 5) ?hd (cs := #[.pointer (some ⟨g, 0, none⟩)]) (t := 127) ?hr ?_; (case hd => rfl); (case hg => rfl); (case hr => first | (go_simp; done) | (go_simp; rfl)); intro b5 hb5 w4 hbox hb; have n1 := Aside0.mk (below_then H1.out H1.out.size hb); have n2 := Aside0.mk (IntAt.below H2.out hb); have n3 := Aside0.mk (HK.out.trans (keep_of_below (g := g) hb) (.inl rfl)); have n4 := Aside0.mk (show b5 ≠ g by have := blk_lt H2.out; omega); have n5 := Aside0.mk (show PtrAt w4 b5 g from hbox); have n6 := Aside0.mk (blk_below B3.out hb); have n7 := Aside0.mk (IntAt.below B4.out hb); have y1 := H2.out; clear H1 H2 HK hb5 hbox hb B3 B4; have H1 := n1; have H2 := n2; have HK := n3; have N5 := n4; have B5 := n5; have B3 := n6; have B4 := n7; clear n1 n2 n3 n4 n5 n6 n7 y1; have c5 := B5.out.cell; have cg := H2.out.cell; have fg : w4.frozen? ⟨g, 0, none⟩ = false := blk_frozen H2.out 0) | ((with_reducible refine gate_store (t := 3) (p := 12) rfl ?_); refine store_event (t := 3) (p := 12) (v := ?vo_) (w1 := w4.setCell ⟨g, 0, none⟩ (.int .i64 (l - 1))) ?hg ?ho ?hn ?hr ?_; (case ho => rfl); (case hg => rfl); (case hn => rfl); (case hr => first | (go_simp; done) | (go_simp; rfl)); intro w5 hw; have n1 := Aside0.mk (show Below w0.heap.size w0 w5 by rw [hw]; exact below_set H1.out hg); have n2 := Aside0.mk (show IntAt w5 g (l - 1) by rw [hw]; simpa [IntAt] using blk_set H2.out 0 (.int .i64 (l - 1))); have n3 := Aside0.mk (show KeepBut w w5 g none by rw [hw]; exact HK.out.trans (keep_set _ _ _ _) (.inl rfl)); have n4 := Aside0.mk (show w5.heap[b3]? = some (.cells #[.int .i64 x.f0, .string x.f1, .int .i64 x.f2, .slice A x.f3.length c] 31 (0, 0)) by rw [hw]; exact (Below.heap_setCell w4 _ _ b3 N3.out).trans B3.out); have n5 := Aside0.mk (show IntAt w5 b4 D by rw [hw]; exact (Below.heap_setCell w4 _ _ b4 N4.out).trans B4.out); have n6 := Aside0.mk (show PtrAt w5 b5 g by rw [hw]; exact (Below.heap_setCell w4 _ _ b5 N5.out).trans B5.out); clear c5 cg fg hw H1 H2 HK B3 B4 B5; have H1 := n1; have H2 := n2; have HK := n3; have B3 := n4; have B4 := n5; have B5 := n6; clear n1 n2 n3 n4 n5 n6; have c4 := B4.out.cell; have c5 := B5.out.cell; have cg := H2.out.cell; have z0 : w5.cell? ⟨b3, 0, none⟩ = some (.int .i64 x.f0) := (blk_cell B3.out 0).trans rfl; have z1 : w5.cell? ⟨b3, 1, none⟩ = some (.string x.f1) := (blk_cell B3.out 1).trans rfl; have z2 : w5.cell? ⟨b3, 2, none⟩ = some (.int .i64 x.f2) := (blk_cell B3.out 2).trans rfl; have z3 : w5.cell? ⟨b3, 3, none⟩ = some (.slice A x.f3.length c) := (blk_cell B3.out 3).trans rfl))
  go_ret
  show _ ∧ _ ∧ _ ∧ _
  exact ⟨rfl, H2.out, H1.out, HK.out⟩
theorem may_all : ∀ d : Nat, d ≤ 5 → MayAt d := by
  intro d
  induction d with
  | zero => intro _; exact may_zero
  | succ d ih => intro h; exact may_succ d (by omega) (ih (by omega))

theorem may_five (x : S31) (A : Option Addr) (c g : Nat) (w0 w : World) (h1 : Kd.C k31 w0 A x.f3.length x.f3) (h2 : x.f3.length ≤ c) (h3 : Below w0.heap.size w0 w) (h4 : w0.heap.size ≤ g) (h5 : IntAt w g 24) :
    Calls Try.prog 101 #[.agg #[.int .i64 x.f0, .string x.f1, .int .i64 x.f2, .slice A x.f3.length c], .int .i64 5, .pointer (some ⟨g, 0, none⟩)] w (MayPost (mayF 5 24 x) g w0 w) := MayAt.use (may_all 5 (by omega)) x A c g 24 w0 w h1 h2 h3 h4 h5 (by omega) (by omega)
def term_May.f (a0_0 : Int) (a0_1 : ByteArray) (a0_2 : Int) (l0_3 : List S31) : Option Bool := some (mayB ⟨a0_0, a0_1, a0_2, l0_3⟩)
set_option maxHeartbeats 1000000 in
set_option maxRecDepth 100000 in
theorem term_May.calls (a0_0 : Int) (a0_1 : ByteArray) (a0_2 : Int) (A0_3 : Option Addr) (c0_3 : Nat) (l0_3 : List (S31)) (r : Bool) (w : World) (hr0_3 : Kd.C k31 w A0_3 l0_3.length l0_3) (hc0_3 : l0_3.length ≤ c0_3) (h : term_May.f a0_0 a0_1 a0_2 l0_3 = some r) :
    Calls Try.prog 62 #[.agg #[.int .i64 a0_0, .string a0_1, .int .i64 a0_2, .slice A0_3 l0_3.length c0_3]] w fun e w' => e = .returned (.bool r) ∧ Below w.heap.size w w' := by
  obtain ⟨x, hx⟩ : ∃ x : S31, x = ⟨a0_0, a0_1, a0_2, l0_3⟩ := ⟨_, rfl⟩
  obtain rfl : a0_0 = x.f0 := by rw [hx]
  obtain rfl : a0_1 = x.f1 := by rw [hx]
  obtain rfl : a0_2 = x.f2 := by rw [hx]
  obtain rfl : l0_3 = x.f3 := by rw [hx]
  have hr : (mayF 5 24 x).1 = r := Option.some.inj h
  subst hr
  clear hx h
  have hu := Try.underlying31
  have HC := Aside0.mk hr0_3
  have HC2 := Aside0.mk hc0_3
  have HB := Aside0.mk (Below.refl w.heap.size w)
  clear hr0_3 hc0_3
  go_enter Try.func62, Try.ntmps62
  go_wp2_with (first | ((with_reducible refine gate_dst (N := 1) rfl ?_); refine box_event ?hg (N := 1) ?hd (cs := #[.int .i64 x.f0, .string x.f1, .int .i64 x.f2, .slice A0_3 x.f3.length c0_3]) (t := 31) ?hr ?_; (case hd => rfl); (case hg => rfl); (case hr => first | (go_simp; done) | (go_simp; rfl)); intro b1 hb1 w2 hbox hb; have n1 := Aside0.mk (below_step HB.out hb); have n5 := Aside0.mk hbox; have n6 := Aside0.mk (blk_lt hbox); clear HB hb1 hbox hb; have HB := n1; have B1 := n5; clear n1 n5; have B2 := blk_alloc B1.out (Obj.cells #[.int .i64 24] 3); have z0 : (w2.alloc (Obj.cells #[.int .i64 24] 3)).cell? ⟨b1, 0, none⟩ = some (.int .i64 x.f0) := (blk_cell B2 0).trans rfl; have z1 : (w2.alloc (Obj.cells #[.int .i64 24] 3)).cell? ⟨b1, 1, none⟩ = some (.string x.f1) := (blk_cell B2 1).trans rfl; have z2 : (w2.alloc (Obj.cells #[.int .i64 24] 3)).cell? ⟨b1, 2, none⟩ = some (.int .i64 x.f2) := (blk_cell B2 2).trans rfl; have z3 : (w2.alloc (Obj.cells #[.int .i64 24] 3)).cell? ⟨b1, 3, none⟩ = some (.slice A0_3 x.f3.length c0_3) := (blk_cell B2 3).trans rfl; clear B2) | (go_at_call 101; (refine (may_five x A0_3 c0_3 w2.heap.size w _ HC.out HC2.out (below_alloc HB.out (Obj.cells #[.int .i64 24] 3)) (below_size HB.out) (heap_alloc_new w2 (Obj.cells #[.int .i64 24] 3))).mono ?_); rintro e w3 ⟨rfl, h1, h2, h3⟩))
  go_ret
  exact ⟨rfl, h2⟩
end Go.Proofs.Ythaoooohomfkcaa.A

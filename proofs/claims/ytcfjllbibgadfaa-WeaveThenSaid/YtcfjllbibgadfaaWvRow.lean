/- One row of the table by the law's own function: it answers true. No condition beyond the reading's own bounds. -/
import Derived.Test.YtcfjllbibgadfaaWvEq
import Derived.Deep.Quiet
import Derived.Deep.QuietTactic
import Derived.IntWalk
import Derived.KernelRfl
namespace Go.Proofs.Ytcfjllbibgadfaa.B
open Go Go.RowKit
open Go.Proofs.YtcfjllbibgadfaaW.PrintWords Go.Proofs.YtcfjllbibgadfaaW.PrintLast Go.Proofs.YtcfjllbibgadfaaW.PrintMore Go.Proofs.Ytcfjllbibgadfaa.EvLib
set_option linter.unusedVariables false
set_option linter.unusedSimpArgs false

theorem wakes_f : weave_Then.f 1 1 = some (1, 0) := by
  unfold weave_Then.f
  rw [if_pos (by decide), if_pos (by decide), then_one]

set_option maxHeartbeats 8000000 in
set_option maxRecDepth 100000 in
theorem almagestlaw8_wakes_calls (w : World) : Calls Try.prog 26 #[] w fun e w' => e = .returned (.bool true) ∧ Below w.heap.size w w' := by
  have HB := Aside0.mk (Below.refl w.heap.size w)
  go_enter Try.func26, Try.ntmps26
  go_wp2_with fail
  refine (weave_Then.calls 1 1 1 0 _ wakes_f).mono ?_
  rintro e w1 ⟨rfl, hb⟩
  have HB1 := Aside0.mk (below_step HB.out hb)
  clear hb HB
  go_wp2_with (go_at_call 23; (with_reducible refine (almagestlaw8_num.calls 0 0 _ rfl).mono ?_); rintro e w' ⟨rfl, ⟨nd, rfl⟩⟩)
  go_ret
  exact ⟨rfl, by repeat (first | exact HB1.out | apply pw_below_drewN | apply below_drew1)⟩

theorem heap_setCells {b : Nat} : ∀ (vs : List Value) (o : Nat) (w : World) (k : Nat), k ≠ b → (w.setCells b o vs).heap[k]? = w.heap[k]?
  | [], _, _, _, _ => rfl
  | v :: r, o, w, k, h => by
    rw [World.setCells, heap_setCells r (o + 1) _ k h]
    exact Below.heap_setCell w _ v k h
theorem range_below {w w' : World} {b o : Nat} {cs : List Value} (h : w.rangeAt b o cs) (hb : Below w.heap.size w w') : w'.rangeAt b o cs := fun j v hv => pw_cell_below hb (h j v hv)

theorem below_of_drawn {w w' : World} {n : Nat} (h : w' = w.drewN n) : Below w.heap.size w w' := by
  rw [h]; exact pw_below_drewN (Below.refl _ _) n
theorem and7 (n : Int) : 0 ≤ Go.bits .and .i64 n 7 ∧ Go.bits .and .i64 n 7 ≤ 7 := by
  simp only [Go.bits, BitVec.toNat_and]
  have h7 : (BitVec.ofInt IntKind.i64.bits 7).toNat = 7 := by decide
  rw [h7]
  have h := Nat.and_le_right (n := (BitVec.ofInt IntKind.i64.bits n).toNat) (m := 7)
  generalize (BitVec.ofInt IntKind.i64.bits n).toNat &&& 7 = q at *
  rw [wraps_i64 _ (by omega) (by omega)]
  omega
theorem or_nat (a b : Nat) (ha : a < 2 ^ 62) (hb : b < 2 ^ 62) : Go.bits .or .i64 (a : Int) (b : Int) = ((a ||| b : Nat) : Int) := (bits_nat .i64 62 (by decide) wraps_i64 a b ha hb).2
theorem pow_small {a : Nat} (h : a ≤ 12) : wrap64 (2 ^ a) = ((2 ^ a : Nat) : Int) ∧ 2 ^ a < 2 ^ 13 := by
  have h1 : 2 ^ a < 2 ^ 13 := Nat.pow_lt_pow_right (by omega) (by omega)
  refine ⟨?_, h1⟩
  have e : ((2 : Int) ^ a) = ((2 ^ a : Nat) : Int) := by rw [Int.natCast_pow]; rfl
  rw [e]
  generalize 2 ^ a = q at *
  unfold wrap64
  omega
theorem or_small {a b : Nat} (ha : a ≤ 12) (hb : b ≤ 12) : 0 ≤ Go.bits .or .i64 (wrap64 (2 ^ a)) (wrap64 (2 ^ b)) ∧ Go.bits .or .i64 (wrap64 (2 ^ a)) (wrap64 (2 ^ b)) ≤ 8191 := by
  obtain ⟨e1, l1⟩ := pow_small ha
  obtain ⟨e2, l2⟩ := pow_small hb
  rw [e1, e2, or_nat _ _ (by omega) (by omega)]
  have := Nat.or_lt_two_pow l1 l2
  generalize 2 ^ a ||| 2 ^ b = q at *
  omega
theorem bit_small {a : Nat} (ha : a ≤ 12) : 0 ≤ wrap64 (2 ^ a) ∧ wrap64 (2 ^ a) ≤ 8191 := by
  obtain ⟨e1, l1⟩ := pow_small ha
  rw [e1]
  generalize 2 ^ a = q at *
  omega
theorem wrap_r {r : Nat} (h1 : 1 ≤ r) (h2 : r ≤ 13) : IntKind.i64.wrap ((r : Int) - 1) = (r : Int) - 1 := IntWalk.i64_in _ ⟨by omega, by omega⟩
theorem shift_r2 {r : Nat} (h1 : 1 ≤ r) (h2 : r ≤ 13) (W : World) : (Op.shift BinOp.shl IntKind.i64 1 IntKind.i64 ((r : Int) - 1)).run Try.prog W = .ok (.int .i64 (wrap64 (2 ^ (r - 1)))) W := by
  have e := shift_shl_i64 (yk := IntKind.i64) (x := 1) (y := (r : Int) - 1) (by omega) (by omega)
  rw [show ((r : Int) - 1).toNat = r - 1 by omega, Int.one_mul] at e
  have e2 : IntKind.i64.wrap (2 ^ (r - 1)) = wrap64 (2 ^ (r - 1)) := by rw [IntKind.wrap_i64, wrap64]
  rw [e2] at e
  simp only [e]
  rfl
theorem shift_r {r : Nat} (h1 : 1 ≤ r) (h2 : r ≤ 13) (W : World) : (Op.shift BinOp.shl IntKind.i64 1 IntKind.i64 (IntKind.i64.wrap ((r : Int) - 1))).run Try.prog W = .ok (.int .i64 (wrap64 (2 ^ (r - 1)))) W := by
  rw [wrap_r h1 h2]; exact shift_r2 h1 h2 W
theorem load_tab {W : World} {g : Nat} (h : W.rangeAt g 0 (arrL tabF)) : (Instr.loadAt 28 (.pointer (some ⟨g, 0, none⟩))).run Try.prog W = .ok (.agg (arrL tabF).toArray) W :=
  run_loadAt_mid W g 0 28 (arrL tabF) _ h Try.underlying28 rfl (by rw [arr_len]; kernel_rfl)
theorem then_ok {a b : Int} (h1 : 0 ≤ a) (h2 : a ≤ 8191) (h3 : 0 ≤ b) (h4 : b ≤ 8191) : weave_Then.f a b = some (thenF tabF a b, 0) := by
  unfold weave_Then.f isB
  simp [h1, h2, h3, h4]
theorem ref_calls (a b : Int) (w : World) (ha0 : 0 ≤ a) (ha1 : a ≤ 8191) (hb0 : 0 ≤ b) (hb1 : b ≤ 8191) :
    Calls Try.prog 25 #[.agg (arrL tabF).toArray, .int .i64 a, .int .i64 b] w fun e w' => e = .returned (.int .i64 (thenF tabF a b)) ∧ Below w.heap.size w w' := by
  refine (almagestref7_Then_calls tabF a b w ha0 ha1 hb0 hb1).mono ?_
  rintro e w' ⟨rfl, hb⟩
  exact ⟨by rw [then_eq ha0 ha1 hb0 hb1], hb⟩

set_option maxHeartbeats 8000000 in
set_option maxRecDepth 100000 in
theorem almagestlaw8_row_calls (k : Nat) (A0_0 : Option Addr) (c0_0 : Nat) (l0_0 : List Int) (A0_1 : Option Addr) (c0_1 : Nat) (l0_1 : List (List Int)) (a0_2 : Int) (r : Nat) (hv : Bool) (w : World)
    (hr0_0 : Kd.C (Kd.int .i64) w A0_0 l0_0.length l0_0) (hc0_0 : l0_0.length ≤ c0_0) (hr0_1 : Kd.C (Kd.slice 3 (Kd.int .i64)) w A0_1 l0_1.length l0_1) (hc0_1 : l0_1.length ≤ c0_1) (hH : almagestlaw8_Heavy.f k l0_0 l0_1 a0_2 = some hv) (hr1 : 1 ≤ r) (hr2 : r ≤ 13) :
    Calls Try.prog 27 #[.agg #[.slice A0_0 l0_0.length c0_0, .slice A0_1 l0_1.length c0_1, .int .i64 a0_2], .int .i64 (r : Int)] w fun e w' => e = .returned (.bool true) ∧ Below w.heap.size w w' := by
  have HB := Aside0.mk (Below.refl w.heap.size w)
  have HR0 := Aside0.mk hr0_0
  have HR1 := Aside0.mk hr0_1
  have HH := Aside0.mk hH
  clear hr0_0 hr0_1 hH
  have hal := zero28
  have hnew := new28
  have ZS := Aside0.mk (show (arrL fun _ _ => 0).toArray.size = 196 by rw [List.size_toArray, arr_len])
  generalize (arrL fun _ _ => 0).toArray = z at *
  go_enter Try.func27, Try.ntmps27
  go_wp2_with fail
  have HB1 := Aside0.mk (below_alloc HB.out (Obj.cells #[.slice A0_0 l0_0.length c0_0, .slice A0_1 l0_1.length c0_1, .int .i64 a0_2] 25))
  have BA := Aside0.mk (heap_alloc_new w (Obj.cells #[.slice A0_0 l0_0.length c0_0, .slice A0_1 l0_1.length c0_1, .int .i64 a0_2] 25))
  refine (almagestlaw8_Heavy.calls k A0_0 c0_0 l0_0 A0_1 c0_1 l0_1 a0_2 hv _ (Kd.C_alloc HR0.out _) hc0_0 (Kd.C_alloc HR1.out _) hc0_1 HH.out).mono ?_
  rintro e w1 ⟨rfl, hb⟩
  have HB2 := Aside0.mk (below_step HB1.out hb)
  have BA2 := Aside0.mk (blk_below BA.out hb)
  clear HB HB1 BA hb HR0 HR1 HH hc0_0 hc0_1
  generalize hga : w.heap.size = ga
  rw [hga] at BA2
  have GA := Aside0.mk hga
  clear hga
  cases hv with
  | true =>
    go_wp2_with fail
    go_ret
    exact ⟨rfl, HB2.out⟩
  | false =>
    go_wp2_with fail
    refine (almagestref7_Table_calls _).mono ?_
    rintro e w2 ⟨rfl, hb⟩
    have HB3 := Aside0.mk (below_step HB2.out hb)
    have BA3 := Aside0.mk (blk_below BA2.out hb)
    clear HB2 BA2 hb
    have TE := Aside0.mk (fun (a b : Int) (h1 : 0 ≤ a) (h2 : a ≤ 8191) (h3 : 0 ≤ b) (h4 : b ≤ 8191) => then_eq h1 h2 h3 h4)
    have hthere : (w2.alloc (Obj.cells z 28)).there w2.heap.size 0 (arrL tabF).toArray.size := fun j hj => by
      rw [List.size_toArray, arr_len] at hj
      rw [Nat.zero_add]
      refine ⟨?_, blk_frozen (heap_alloc_new w2 (Obj.cells z 28)) j⟩
      rw [blk_cell (heap_alloc_new w2 (Obj.cells z 28)) j, Array.getElem?_eq_getElem (by have := ZS.out; omega)]
      rfl
    have hinfo2 : (Try.prog.info? 28).map (·.size) = some (arrL tabF).toArray.size := by rw [List.size_toArray, arr_len]; kernel_rfl
    have hone : (arrL tabF).toArray.all (·.oneCell') = true := all_oneCell_toArray arr_one
    have HTH := Aside0.mk hthere
    have HI2 := Aside0.mk hinfo2
    have HON := Aside0.mk hone
    have HRG := Aside0.mk (World.rangeAt_setCells_same (w2.alloc (Obj.cells z 28)) w2.heap.size 0 (arrL tabF) (by have h := hthere; rw [List.size_toArray] at h; exact h))
    have HB4 := Aside0.mk (below_setCells (arrL tabF) 0 (below_alloc HB3.out (Obj.cells z 28)) (show w.heap.size ≤ w2.heap.size from below_size HB3.out))
    clear hthere hinfo2 hone
    go_wp2_with (first | (refine wpList_store_mid rfl 28 (.tmp 5) (.tmp 15) rfl w2.heap.size 0 (arrL tabF).toArray rfl rfl HTH.out HI2.out HON.out ?_))
    have hlt : ga < w2.heap.size := blk_lt BA3.out
    have BA4 := Aside0.mk ((heap_setCells (arrL tabF) 0 (w2.alloc (Obj.cells z 28)) ga (Nat.ne_of_lt hlt)).trans (blk_alloc BA3.out (Obj.cells z 28)))
    clear hlt
    clear HB3 BA3 HTH HI2 HON hal hnew ZS
    generalize (w2.alloc (Obj.cells z 28)).setCells w2.heap.size 0 (arrL tabF) = W at *
    generalize w2.heap.size = gt at *
    go_loopg [6] 14 (fun kq v6 w' => ∃ s : Nat, v6 = .int .i64 (s : Int) ∧ Aside0 (kq + s = 14) ∧ Aside0 (s ≤ 13) ∧ Aside0 (w'.rangeAt gt 0 (arrL tabF)) ∧ Aside0 (w'.heap[ga]? = some (.cells #[.slice A0_0 l0_0.length c0_0, .slice A0_1 l0_1.length c0_1, .int .i64 a0_2] 25 (0, 0))) ∧ Aside0 (Below w.heap.size w w'))
    case atStart => exact ⟨0, rfl, ⟨rfl⟩, ⟨by omega⟩, HRG, BA4, HB4⟩
    case round =>
      clear HRG BA4 HB4
      obtain ⟨s, rfl, HK3, HS, RG, BA, HB⟩ := hrel
      obtain ⟨g3, rfl⟩ : ∃ g, gk = g + 1 := ⟨gk - 1, by have := HK3.out; have := HS.out; omega⟩
      by_cases hs : s < 13
      · have q1 : decide ((s : Int) < 13) = true := decide_eq_true (by omega)
        go_wp2_with fail
        go_loopg [7] 3 (fun kq v7 w' => ∃ u : Nat, v7 = .int .i64 (u : Int) ∧ Aside0 (kq + u = 3) ∧ Aside0 (u ≤ 2) ∧ Aside0 (w'.rangeAt gt 0 (arrL tabF)) ∧ Aside0 (w'.heap[ga]? = some (.cells #[.slice A0_0 l0_0.length c0_0, .slice A0_1 l0_1.length c0_1, .int .i64 a0_2] 25 (0, 0))) ∧ Aside0 (Below w.heap.size w w'))
        case atStart => exact ⟨0, rfl, ⟨rfl⟩, ⟨by omega⟩, RG, BA, HB⟩
        case round =>
          clear RG BA HB q1
          obtain ⟨u, rfl, HK4, HU, RG, BA, HB⟩ := hrel
          obtain ⟨g4, rfl⟩ : ∃ g, gk = g + 1 := ⟨gk - 1, by have := HK4.out; have := HU.out; omega⟩
          by_cases hu : u < 2
          · have hN : wr.cell? ⟨ga, 2, none⟩ = some (.int .i64 a0_2) := (blk_cell BA.out 2).trans rfl
            obtain ⟨n0, n7⟩ := and7 a0_2
            have s0 : (0 : Int) ≤ (s : Int) := by omega
            have s1 : (s : Int) ≤ 12 := by omega
            obtain rfl | rfl : u = 0 ∨ u = 1 := by omega
            · go_wp2_with fail
              go_quiet (fail)
              obtain ⟨x0, x1⟩ := or_small (a := s) (b := (s % 13)) (by omega) (by omega)
              generalize Go.bits .or .i64 (wrap64 (2 ^ s)) (wrap64 (2 ^ (s % 13))) = x at *
              have P0 : (0 : Int) ≤ (r : Int) - 1 := by omega
              have P1 : (r : Int) ≤ 13 := by omega
              have P2 : (1 : Int) ≤ (r : Int) := by omega
              obtain ⟨p0, p1⟩ := bit_small (a := r - 1) (by omega)
              have hinfo : (Try.prog.info? 28).map (·.size) = some (arrL tabF).length := by rw [arr_len]; kernel_rfl
              have hu28 := Try.underlying28
              have THEN1 := Aside0.mk (then_ok p0 p1 x0 x1)
              have THEN2 := Aside0.mk (then_ok x0 x1 p0 p1)
              go_wp2_with fail
              have REF1 := Aside0.mk (fun w => ref_calls (wrap64 (2 ^ (r - 1))) x w p0 p1 x0 x1)
              have REF2 := Aside0.mk (fun w => ref_calls x (wrap64 (2 ^ (r - 1))) w x0 x1 p0 p1)
              generalize thenF tabF (wrap64 (2 ^ (r - 1))) x = y1 at *
              generalize thenF tabF x (wrap64 (2 ^ (r - 1))) = y2 at *
              refine (weave_Then.calls (wrap64 (2 ^ (r - 1))) x y1 0 _ THEN1.out).mono ?_
              rintro e w3 ⟨rfl, hb0⟩
              have hb : Below wr.heap.size wr w3 := below_step (pw_below_drewN (Below.refl wr.heap.size wr) nq) hb0
              clear hb0
              have n1 := Aside0.mk (below_step HB.out hb)
              have n2 := Aside0.mk (range_below RG.out hb)
              have n3 := Aside0.mk (blk_below BA.out hb)
              clear HB RG BA hb
              have HB := n1
              have RG := n2
              have BA := n3
              clear n1 n2 n3
              clear hN
              go_wp2_with fail
              refine (weave_Then.calls x (wrap64 (2 ^ (r - 1))) y2 0 _ THEN2.out).mono ?_
              rintro e w4 ⟨rfl, hb⟩
              have n1 := Aside0.mk (below_step HB.out hb)
              have n2 := Aside0.mk (range_below RG.out hb)
              have n3 := Aside0.mk (blk_below BA.out hb)
              clear HB RG BA hb
              have HB := n1
              have RG := n2
              have BA := n3
              clear n1 n2 n3
              have n1 := Aside0.mk HB.out.drew
              have n2 := Aside0.mk (range_below RG.out (below_drew1 (Below.refl _ _)))
              have n3 := Aside0.mk (blk_drew BA.out)
              clear HB RG BA
              have HB := n1
              have RG := n2
              have BA := n3
              clear n1 n2 n3
              go_wp2_with fail
              have hy1 : (y1 != y1) = false := by simp
              have hy2 : (y2 != y2) = false := by simp
              have hy3 : (y1 == y1) = true := by simp
              have hy4 : (y2 == y2) = true := by simp
              have hsh := shift_r hr1 hr2
              have hsh2 := shift_r2 hr1 hr2
              refine wp_region_held_drew (S := fun w' => w'.rangeAt gt 0 (arrL tabF)) (by kernel_rfl) RG.out (fun hHeld => ?_)
              refine wpAnyH_take (i := 0) (oi := ({ dst := some 53, op := Go.Op.move (Go.Operand.tmp 10), type := 30, pos := "more.go:20", after := #[], guard := none } : Go.Oper)) (v := ?_) rfl (by kernel_rfl) (by kernel_rfl) (by kernel_rfl) (fun _ _ _ h => h) (Or.inl ⟨by rfl, ?_⟩) (by assumption) ?_
              rotate_left 1
              · (intro w hSw; (try dsimp only at hSw); go_simp; try with_reducible rfl)
              try simp only [Act.put, List.setIfInBounds_toArray, List.set_cons_zero, List.set_cons_succ]
              refine wpAnyH_ready (rs := [1]) (by kernel_rfl) (by simp) ?_
              refine AllReadyH.cons (o := ({ dst := some 54, op := Go.Op.call { callee := Go.Callee.value (Go.Operand.func 23), args := #[Go.Operand.tmp 53], argTypes := #[30] }, type := 3, pos := "more.go:20", after := #[{ on := 0, ground := Go.Ground.data }], guard := none } : Go.Oper)) rfl (fun K hK => ?_) AllReadyH.nil
              go_simp
              refine (almagestlaw8_num.calls 0 0 _ rfl).mono ?_
              rintro e w5 ⟨rfl, ⟨nd, hw5⟩⟩
              have hb := below_of_drawn hw5
              clear hw5
              have n1 := Aside0.mk (below_step HB.out hb)
              have n2 := Aside0.mk (range_below RG.out hb)
              have n3 := Aside0.mk (blk_below BA.out hb)
              clear HB RG BA hb
              have HB := n1
              have RG := n2
              have BA := n3
              clear n1 n2 n3
              go_wp2_with fail
              refine hK.out _ _ RG.out (fun hHeld => ?_)
              clear hK K
              try simp only [Act.put, List.setIfInBounds_toArray, List.set_cons_zero, List.set_cons_succ]
              refine wpAnyH_take (i := 2) (oi := ({ dst := some 55, op := Go.Op.binOp Go.BinOp.neq 3 (Go.Operand.tmp 54) (Go.Operand.const (Go.Value.int Go.IntKind.i64 0)) 3, type := 4, pos := "more.go:20", after := #[{ on := 1, ground := Go.Ground.data }], guard := none } : Go.Oper)) (v := ?_) rfl (by kernel_rfl) (by kernel_rfl) (by kernel_rfl) (fun _ _ _ h => h) (Or.inl ⟨by rfl, ?_⟩) (by assumption) ?_
              rotate_left 1
              · (intro w hSw; (try dsimp only at hSw); go_simp; try with_reducible rfl)
              try simp only [Act.put, List.setIfInBounds_toArray, List.set_cons_zero, List.set_cons_succ]
              refine wpAnyH_take (i := 3) (oi := ({ dst := some 56, op := Go.Op.move (Go.Operand.tmp 55), type := 4, pos := "more.go:20", after := #[{ on := 2, ground := Go.Ground.data }, { on := 1, ground := Go.Ground.chain }], guard := none } : Go.Oper)) (v := ?_) rfl (by kernel_rfl) (by kernel_rfl) (by kernel_rfl) (fun _ _ _ h => h) (Or.inl ⟨by rfl, ?_⟩) (by assumption) ?_
              rotate_left 1
              · (intro w hSw; (try dsimp only at hSw); go_simp; try with_reducible rfl)
              try simp only [Act.put, List.setIfInBounds_toArray, List.set_cons_zero, List.set_cons_succ]
              refine wpAnyH_take (i := 4) (oi := ({ dst := some 57, op := Go.Op.move (Go.Operand.tmp 12), type := 30, pos := "more.go:20", after := #[{ on := 3, ground := Go.Ground.guard }], guard := some (3, false) } : Go.Oper)) (v := ?_) rfl (by kernel_rfl) (by kernel_rfl) (by kernel_rfl) (fun _ _ _ h => h) (Or.inl ⟨by rfl, ?_⟩) (by assumption) ?_
              rotate_left 1
              · (intro w hSw; (try dsimp only at hSw); go_simp; try with_reducible rfl)
              try simp only [Act.put, List.setIfInBounds_toArray, List.set_cons_zero, List.set_cons_succ]
              refine wpAnyH_ready (rs := [5]) (by kernel_rfl) (by simp) ?_
              refine AllReadyH.cons (o := ({ dst := some 58, op := Go.Op.call { callee := Go.Callee.value (Go.Operand.func 23), args := #[Go.Operand.tmp 57], argTypes := #[30] }, type := 3, pos := "more.go:20", after := #[{ on := 4, ground := Go.Ground.data }, { on := 3, ground := Go.Ground.chain }, { on := 3, ground := Go.Ground.guard }], guard := some (3, false) } : Go.Oper)) rfl (fun K hK => ?_) AllReadyH.nil
              go_simp
              refine (almagestlaw8_num.calls 0 0 _ rfl).mono ?_
              rintro e w5 ⟨rfl, ⟨nd, hw5⟩⟩
              have hb := below_of_drawn hw5
              clear hw5
              have n1 := Aside0.mk (below_step HB.out hb)
              have n2 := Aside0.mk (range_below RG.out hb)
              have n3 := Aside0.mk (blk_below BA.out hb)
              clear HB RG BA hb
              have HB := n1
              have RG := n2
              have BA := n3
              clear n1 n2 n3
              go_wp2_with fail
              refine hK.out _ _ RG.out (fun hHeld => ?_)
              clear hK K
              try simp only [Act.put, List.setIfInBounds_toArray, List.set_cons_zero, List.set_cons_succ]
              refine wpAnyH_take (i := 6) (oi := ({ dst := some 59, op := Go.Op.binOp Go.BinOp.neq 3 (Go.Operand.tmp 58) (Go.Operand.const (Go.Value.int Go.IntKind.i64 0)) 3, type := 4, pos := "more.go:20", after := #[{ on := 5, ground := Go.Ground.data }, { on := 3, ground := Go.Ground.guard }], guard := some (3, false) } : Go.Oper)) (v := ?_) rfl (by kernel_rfl) (by kernel_rfl) (by kernel_rfl) (fun _ _ _ h => h) (Or.inl ⟨by rfl, ?_⟩) (by assumption) ?_
              rotate_left 1
              · (intro w hSw; (try dsimp only at hSw); go_simp; try with_reducible rfl)
              try simp only [Act.put, List.setIfInBounds_toArray, List.set_cons_zero, List.set_cons_succ]
              refine wpAnyH_take (i := 7) (oi := ({ dst := some 60, op := Go.Op.pick (Go.Operand.tmp 56) (Go.Operand.const (Go.Value.bool true)) (Go.Operand.tmp 59), type := 4, pos := "more.go:20", after := #[{ on := 3, ground := Go.Ground.data }, { on := 6, ground := Go.Ground.data }], guard := none } : Go.Oper)) (v := ?_) rfl (by kernel_rfl) (by kernel_rfl) (by kernel_rfl) (fun _ _ _ h => h) (Or.inl ⟨by rfl, ?_⟩) (by assumption) ?_
              rotate_left 1
              · (intro w hSw; (try dsimp only at hSw); go_simp; try with_reducible rfl)
              try simp only [Act.put, List.setIfInBounds_toArray, List.set_cons_zero, List.set_cons_succ]
              refine wpAnyH_take (i := 8) (oi := ({ dst := some 61, op := Go.Op.move (Go.Operand.tmp 60), type := 4, pos := "more.go:20", after := #[{ on := 7, ground := Go.Ground.data }, { on := 5, ground := Go.Ground.chain }], guard := none } : Go.Oper)) (v := ?_) rfl (by kernel_rfl) (by kernel_rfl) (by kernel_rfl) (fun _ _ _ h => h) (Or.inl ⟨by rfl, ?_⟩) (by assumption) ?_
              rotate_left 1
              · (intro w hSw; (try dsimp only at hSw); go_simp; try with_reducible rfl)
              try simp only [Act.put, List.setIfInBounds_toArray, List.set_cons_zero, List.set_cons_succ]
              refine wpAnyH_take (i := 9) (oi := ({ dst := some 62, op := Go.Op.move (Go.Operand.tmp 9), type := 3, pos := "more.go:20", after := #[{ on := 8, ground := Go.Ground.guard }], guard := some (8, false) } : Go.Oper)) (v := ?_) rfl (by kernel_rfl) (by kernel_rfl) (by kernel_rfl) (fun _ _ _ h => h) (Or.inl ⟨by rfl, ?_⟩) (by assumption) ?_
              rotate_left 1
              · (intro w hSw; (try dsimp only at hSw); go_simp; try with_reducible rfl)
              try simp only [Act.put, List.setIfInBounds_toArray, List.set_cons_zero, List.set_cons_succ]
              refine wpAnyH_take (i := 10) (oi := ({ dst := some 63, op := Go.Op.load 28 (Go.Operand.tmp 5), type := 28, pos := "more.go:20", after := #[{ on := 8, ground := Go.Ground.guard }], guard := some (8, false) } : Go.Oper)) (v := .agg (arrL tabF).toArray) rfl (by kernel_rfl) (by kernel_rfl) (by kernel_rfl) (fun _ _ _ h => h) (yieldsIf_load_mid (by rfl) 28 (.tmp 5) rfl gt 0 rfl (arrL tabF) _ (fun _ h => h) Try.underlying28 rfl hinfo) (by assumption) ?_
              try simp only [Act.put, List.setIfInBounds_toArray, List.set_cons_zero, List.set_cons_succ]
              refine wpAnyH_take (i := 11) (oi := ({ dst := some 64, op := Go.Op.move (Go.Operand.tmp 1), type := 3, pos := "more.go:20", after := #[{ on := 8, ground := Go.Ground.guard }], guard := some (8, false) } : Go.Oper)) (v := ?_) rfl (by kernel_rfl) (by kernel_rfl) (by kernel_rfl) (fun _ _ _ h => h) (Or.inl ⟨by rfl, ?_⟩) (by assumption) ?_
              rotate_left 1
              · (intro w hSw; (try dsimp only at hSw); go_simp; try with_reducible rfl)
              try simp only [Act.put, List.setIfInBounds_toArray, List.set_cons_zero, List.set_cons_succ]
              refine wpAnyH_take (i := 12) (oi := ({ dst := some 65, op := Go.Op.binOp Go.BinOp.sub 3 (Go.Operand.tmp 64) (Go.Operand.const (Go.Value.int Go.IntKind.i64 1)) 3, type := 3, pos := "more.go:20", after := #[{ on := 11, ground := Go.Ground.data }, { on := 8, ground := Go.Ground.guard }], guard := some (8, false) } : Go.Oper)) (v := ?_) rfl (by kernel_rfl) (by kernel_rfl) (by kernel_rfl) (fun _ _ _ h => h) (Or.inl ⟨by rfl, ?_⟩) (by assumption) ?_
              rotate_left 1
              · (intro w hSw; (try dsimp only at hSw); go_simp; try with_reducible rfl)
              try simp only [Act.put, List.setIfInBounds_toArray, List.set_cons_zero, List.set_cons_succ]
              refine wpAnyH_take (i := 13) (oi := ({ dst := some 66, op := Go.Op.binOp Go.BinOp.shl 3 (Go.Operand.const (Go.Value.int Go.IntKind.i64 1)) (Go.Operand.tmp 65) 3, type := 3, pos := "more.go:20", after := #[{ on := 12, ground := Go.Ground.data }, { on := 8, ground := Go.Ground.guard }], guard := some (8, false) } : Go.Oper)) (v := ?_) rfl (by kernel_rfl) (by kernel_rfl) (by kernel_rfl) (fun _ _ _ h => h) (Or.inl ⟨by rfl, ?_⟩) (by assumption) ?_
              rotate_left 1
              · (intro w hSw; (try dsimp only at hSw); go_simp; try with_reducible rfl)
              try simp only [Act.put, List.setIfInBounds_toArray, List.set_cons_zero, List.set_cons_succ]
              refine wpAnyH_take (i := 14) (oi := ({ dst := some 67, op := Go.Op.move (Go.Operand.tmp 8), type := 3, pos := "more.go:20", after := #[{ on := 8, ground := Go.Ground.guard }], guard := some (8, false) } : Go.Oper)) (v := ?_) rfl (by kernel_rfl) (by kernel_rfl) (by kernel_rfl) (fun _ _ _ h => h) (Or.inl ⟨by rfl, ?_⟩) (by assumption) ?_
              rotate_left 1
              · (intro w hSw; (try dsimp only at hSw); go_simp; try with_reducible rfl)
              try simp only [Act.put, List.setIfInBounds_toArray, List.set_cons_zero, List.set_cons_succ]
              refine wpAnyH_ready (rs := [15]) (by kernel_rfl) (by simp) ?_
              refine AllReadyH.cons (o := ({ dst := some 68, op := Go.Op.call { callee := Go.Callee.value (Go.Operand.func 25), args := #[Go.Operand.tmp 63, Go.Operand.tmp 66, Go.Operand.tmp 67], argTypes := #[28, 3, 3] }, type := 3, pos := "more.go:20", after := #[{ on := 10, ground := Go.Ground.data }, { on := 13, ground := Go.Ground.data }, { on := 14, ground := Go.Ground.data }, { on := 8, ground := Go.Ground.chain }, { on := 8, ground := Go.Ground.guard }], guard := some (8, false) } : Go.Oper)) rfl (fun K hK => ?_) AllReadyH.nil
              go_simp
              refine (REF1.out _).mono ?_
              rintro e w6 ⟨rfl, hb⟩
              have n1 := Aside0.mk (below_step HB.out hb)
              have n2 := Aside0.mk (range_below RG.out hb)
              have n3 := Aside0.mk (blk_below BA.out hb)
              clear HB RG BA hb
              have HB := n1
              have RG := n2
              have BA := n3
              clear n1 n2 n3
              go_wp2_with fail
              refine hK.out _ _ RG.out (fun hHeld => ?_)
              clear hK K
              try simp only [Act.put, List.setIfInBounds_toArray, List.set_cons_zero, List.set_cons_succ]
              refine wpAnyH_take (i := 16) (oi := ({ dst := some 69, op := Go.Op.binOp Go.BinOp.neq 3 (Go.Operand.tmp 62) (Go.Operand.tmp 68) 3, type := 4, pos := "more.go:20", after := #[{ on := 9, ground := Go.Ground.data }, { on := 15, ground := Go.Ground.data }, { on := 8, ground := Go.Ground.guard }], guard := some (8, false) } : Go.Oper)) (v := ?_) rfl (by kernel_rfl) (by kernel_rfl) (by kernel_rfl) (fun _ _ _ h => h) (Or.inl ⟨by rfl, ?_⟩) (by assumption) ?_
              rotate_left 1
              · (intro w hSw; (try dsimp only at hSw); go_simp; try with_reducible rfl)
              try simp only [Act.put, List.setIfInBounds_toArray, List.set_cons_zero, List.set_cons_succ]
              refine wpAnyH_take (i := 17) (oi := ({ dst := some 70, op := Go.Op.pick (Go.Operand.tmp 61) (Go.Operand.const (Go.Value.bool true)) (Go.Operand.tmp 69), type := 4, pos := "more.go:20", after := #[{ on := 8, ground := Go.Ground.data }, { on := 16, ground := Go.Ground.data }], guard := none } : Go.Oper)) (v := ?_) rfl (by kernel_rfl) (by kernel_rfl) (by kernel_rfl) (fun _ _ _ h => h) (Or.inl ⟨by rfl, ?_⟩) (by assumption) ?_
              rotate_left 1
              · (intro w hSw; (try dsimp only at hSw); go_simp; try with_reducible rfl)
              try simp only [Act.put, List.setIfInBounds_toArray, List.set_cons_zero, List.set_cons_succ]
              refine wpAnyH_take (i := 18) (oi := ({ dst := some 71, op := Go.Op.move (Go.Operand.tmp 70), type := 4, pos := "more.go:20", after := #[{ on := 17, ground := Go.Ground.data }, { on := 15, ground := Go.Ground.chain }], guard := none } : Go.Oper)) (v := ?_) rfl (by kernel_rfl) (by kernel_rfl) (by kernel_rfl) (fun _ _ _ h => h) (Or.inl ⟨by rfl, ?_⟩) (by assumption) ?_
              rotate_left 1
              · (intro w hSw; (try dsimp only at hSw); go_simp; try with_reducible rfl)
              try simp only [Act.put, List.setIfInBounds_toArray, List.set_cons_zero, List.set_cons_succ]
              refine wpAnyH_take (i := 19) (oi := ({ dst := some 72, op := Go.Op.move (Go.Operand.tmp 11), type := 3, pos := "more.go:20", after := #[{ on := 18, ground := Go.Ground.guard }], guard := some (18, false) } : Go.Oper)) (v := ?_) rfl (by kernel_rfl) (by kernel_rfl) (by kernel_rfl) (fun _ _ _ h => h) (Or.inl ⟨by rfl, ?_⟩) (by assumption) ?_
              rotate_left 1
              · (intro w hSw; (try dsimp only at hSw); go_simp; try with_reducible rfl)
              try simp only [Act.put, List.setIfInBounds_toArray, List.set_cons_zero, List.set_cons_succ]
              refine wpAnyH_take (i := 20) (oi := ({ dst := some 73, op := Go.Op.load 28 (Go.Operand.tmp 5), type := 28, pos := "more.go:20", after := #[{ on := 18, ground := Go.Ground.guard }], guard := some (18, false) } : Go.Oper)) (v := .agg (arrL tabF).toArray) rfl (by kernel_rfl) (by kernel_rfl) (by kernel_rfl) (fun _ _ _ h => h) (yieldsIf_load_mid (by rfl) 28 (.tmp 5) rfl gt 0 rfl (arrL tabF) _ (fun _ h => h) Try.underlying28 rfl hinfo) (by assumption) ?_
              try simp only [Act.put, List.setIfInBounds_toArray, List.set_cons_zero, List.set_cons_succ]
              refine wpAnyH_take (i := 21) (oi := ({ dst := some 74, op := Go.Op.move (Go.Operand.tmp 8), type := 3, pos := "more.go:20", after := #[{ on := 18, ground := Go.Ground.guard }], guard := some (18, false) } : Go.Oper)) (v := ?_) rfl (by kernel_rfl) (by kernel_rfl) (by kernel_rfl) (fun _ _ _ h => h) (Or.inl ⟨by rfl, ?_⟩) (by assumption) ?_
              rotate_left 1
              · (intro w hSw; (try dsimp only at hSw); go_simp; try with_reducible rfl)
              try simp only [Act.put, List.setIfInBounds_toArray, List.set_cons_zero, List.set_cons_succ]
              refine wpAnyH_take (i := 22) (oi := ({ dst := some 75, op := Go.Op.move (Go.Operand.tmp 1), type := 3, pos := "more.go:20", after := #[{ on := 18, ground := Go.Ground.guard }], guard := some (18, false) } : Go.Oper)) (v := ?_) rfl (by kernel_rfl) (by kernel_rfl) (by kernel_rfl) (fun _ _ _ h => h) (Or.inl ⟨by rfl, ?_⟩) (by assumption) ?_
              rotate_left 1
              · (intro w hSw; (try dsimp only at hSw); go_simp; try with_reducible rfl)
              try simp only [Act.put, List.setIfInBounds_toArray, List.set_cons_zero, List.set_cons_succ]
              refine wpAnyH_take (i := 23) (oi := ({ dst := some 76, op := Go.Op.binOp Go.BinOp.sub 3 (Go.Operand.tmp 75) (Go.Operand.const (Go.Value.int Go.IntKind.i64 1)) 3, type := 3, pos := "more.go:20", after := #[{ on := 22, ground := Go.Ground.data }, { on := 18, ground := Go.Ground.guard }], guard := some (18, false) } : Go.Oper)) (v := ?_) rfl (by kernel_rfl) (by kernel_rfl) (by kernel_rfl) (fun _ _ _ h => h) (Or.inl ⟨by rfl, ?_⟩) (by assumption) ?_
              rotate_left 1
              · (intro w hSw; (try dsimp only at hSw); go_simp; try with_reducible rfl)
              try simp only [Act.put, List.setIfInBounds_toArray, List.set_cons_zero, List.set_cons_succ]
              refine wpAnyH_take (i := 24) (oi := ({ dst := some 77, op := Go.Op.binOp Go.BinOp.shl 3 (Go.Operand.const (Go.Value.int Go.IntKind.i64 1)) (Go.Operand.tmp 76) 3, type := 3, pos := "more.go:20", after := #[{ on := 23, ground := Go.Ground.data }, { on := 18, ground := Go.Ground.guard }], guard := some (18, false) } : Go.Oper)) (v := ?_) rfl (by kernel_rfl) (by kernel_rfl) (by kernel_rfl) (fun _ _ _ h => h) (Or.inl ⟨by rfl, ?_⟩) (by assumption) ?_
              rotate_left 1
              · (intro w hSw; (try dsimp only at hSw); go_simp; try with_reducible rfl)
              try simp only [Act.put, List.setIfInBounds_toArray, List.set_cons_zero, List.set_cons_succ]
              refine wpAnyH_ready (rs := [25]) (by kernel_rfl) (by simp) ?_
              refine AllReadyH.cons (o := ({ dst := some 78, op := Go.Op.call { callee := Go.Callee.value (Go.Operand.func 25), args := #[Go.Operand.tmp 73, Go.Operand.tmp 74, Go.Operand.tmp 77], argTypes := #[28, 3, 3] }, type := 3, pos := "more.go:20", after := #[{ on := 20, ground := Go.Ground.data }, { on := 21, ground := Go.Ground.data }, { on := 24, ground := Go.Ground.data }, { on := 18, ground := Go.Ground.chain }, { on := 18, ground := Go.Ground.guard }], guard := some (18, false) } : Go.Oper)) rfl (fun K hK => ?_) AllReadyH.nil
              go_simp
              refine (REF2.out _).mono ?_
              rintro e w7 ⟨rfl, hb⟩
              have n1 := Aside0.mk (below_step HB.out hb)
              have n2 := Aside0.mk (range_below RG.out hb)
              have n3 := Aside0.mk (blk_below BA.out hb)
              clear HB RG BA hb
              have HB := n1
              have RG := n2
              have BA := n3
              clear n1 n2 n3
              go_wp2_with fail
              refine hK.out _ _ RG.out (fun hHeld => ?_)
              clear hK K
              try simp only [Act.put, List.setIfInBounds_toArray, List.set_cons_zero, List.set_cons_succ]
              refine wpAnyH_take (i := 26) (oi := ({ dst := some 79, op := Go.Op.binOp Go.BinOp.neq 3 (Go.Operand.tmp 72) (Go.Operand.tmp 78) 3, type := 4, pos := "more.go:20", after := #[{ on := 19, ground := Go.Ground.data }, { on := 25, ground := Go.Ground.data }, { on := 18, ground := Go.Ground.guard }], guard := some (18, false) } : Go.Oper)) (v := ?_) rfl (by kernel_rfl) (by kernel_rfl) (by kernel_rfl) (fun _ _ _ h => h) (Or.inl ⟨by rfl, ?_⟩) (by assumption) ?_
              rotate_left 1
              · (intro w hSw; (try dsimp only at hSw); go_simp; try with_reducible rfl)
              try simp only [Act.put, List.setIfInBounds_toArray, List.set_cons_zero, List.set_cons_succ]
              refine wpAnyH_take (i := 27) (oi := ({ dst := some 80, op := Go.Op.pick (Go.Operand.tmp 71) (Go.Operand.const (Go.Value.bool true)) (Go.Operand.tmp 79), type := 4, pos := "more.go:20", after := #[{ on := 18, ground := Go.Ground.data }, { on := 26, ground := Go.Ground.data }], guard := none } : Go.Oper)) (v := ?_) rfl (by kernel_rfl) (by kernel_rfl) (by kernel_rfl) (fun _ _ _ h => h) (Or.inl ⟨by rfl, ?_⟩) (by assumption) ?_
              rotate_left 1
              · (intro w hSw; (try dsimp only at hSw); go_simp; try with_reducible rfl)
              try simp only [Act.put, List.setIfInBounds_toArray, List.set_cons_zero, List.set_cons_succ]
              refine wpAnyH_done (by kernel_rfl) ?_ _
              go_wp2_with fail
              go_roundg g4
              case measure => omega
              case rel => exact ⟨0 + 1, by go_num, ⟨by have := HK4.out; omega⟩, ⟨by omega⟩, RG, BA, HB⟩
            · go_wp2_with fail
              go_quiet (fail)
              obtain ⟨x0, x1⟩ := or_small (a := s) (b := (((s : Int) + (1 + Go.bits .and .i64 a0_2 7)) % 13).toNat) (by omega) (by omega)
              generalize Go.bits .or .i64 (wrap64 (2 ^ s)) (wrap64 (2 ^ (((s : Int) + (1 + Go.bits .and .i64 a0_2 7)) % 13).toNat)) = x at *
              have P0 : (0 : Int) ≤ (r : Int) - 1 := by omega
              have P1 : (r : Int) ≤ 13 := by omega
              have P2 : (1 : Int) ≤ (r : Int) := by omega
              obtain ⟨p0, p1⟩ := bit_small (a := r - 1) (by omega)
              have hinfo : (Try.prog.info? 28).map (·.size) = some (arrL tabF).length := by rw [arr_len]; kernel_rfl
              have hu28 := Try.underlying28
              have THEN1 := Aside0.mk (then_ok p0 p1 x0 x1)
              have THEN2 := Aside0.mk (then_ok x0 x1 p0 p1)
              go_wp2_with fail
              have REF1 := Aside0.mk (fun w => ref_calls (wrap64 (2 ^ (r - 1))) x w p0 p1 x0 x1)
              have REF2 := Aside0.mk (fun w => ref_calls x (wrap64 (2 ^ (r - 1))) w x0 x1 p0 p1)
              generalize thenF tabF (wrap64 (2 ^ (r - 1))) x = y1 at *
              generalize thenF tabF x (wrap64 (2 ^ (r - 1))) = y2 at *
              refine (weave_Then.calls (wrap64 (2 ^ (r - 1))) x y1 0 _ THEN1.out).mono ?_
              rintro e w3 ⟨rfl, hb0⟩
              have hb : Below wr.heap.size wr w3 := below_step (pw_below_drewN (Below.refl wr.heap.size wr) nq) hb0
              clear hb0
              have n1 := Aside0.mk (below_step HB.out hb)
              have n2 := Aside0.mk (range_below RG.out hb)
              have n3 := Aside0.mk (blk_below BA.out hb)
              clear HB RG BA hb
              have HB := n1
              have RG := n2
              have BA := n3
              clear n1 n2 n3
              clear hN
              go_wp2_with fail
              refine (weave_Then.calls x (wrap64 (2 ^ (r - 1))) y2 0 _ THEN2.out).mono ?_
              rintro e w4 ⟨rfl, hb⟩
              have n1 := Aside0.mk (below_step HB.out hb)
              have n2 := Aside0.mk (range_below RG.out hb)
              have n3 := Aside0.mk (blk_below BA.out hb)
              clear HB RG BA hb
              have HB := n1
              have RG := n2
              have BA := n3
              clear n1 n2 n3
              have n1 := Aside0.mk HB.out.drew
              have n2 := Aside0.mk (range_below RG.out (below_drew1 (Below.refl _ _)))
              have n3 := Aside0.mk (blk_drew BA.out)
              clear HB RG BA
              have HB := n1
              have RG := n2
              have BA := n3
              clear n1 n2 n3
              go_wp2_with fail
              have hy1 : (y1 != y1) = false := by simp
              have hy2 : (y2 != y2) = false := by simp
              have hy3 : (y1 == y1) = true := by simp
              have hy4 : (y2 == y2) = true := by simp
              have hsh := shift_r hr1 hr2
              have hsh2 := shift_r2 hr1 hr2
              refine wp_region_held_drew (S := fun w' => w'.rangeAt gt 0 (arrL tabF)) (by kernel_rfl) RG.out (fun hHeld => ?_)
              refine wpAnyH_take (i := 0) (oi := ({ dst := some 53, op := Go.Op.move (Go.Operand.tmp 10), type := 30, pos := "more.go:20", after := #[], guard := none } : Go.Oper)) (v := ?_) rfl (by kernel_rfl) (by kernel_rfl) (by kernel_rfl) (fun _ _ _ h => h) (Or.inl ⟨by rfl, ?_⟩) (by assumption) ?_
              rotate_left 1
              · (intro w hSw; (try dsimp only at hSw); go_simp; try with_reducible rfl)
              try simp only [Act.put, List.setIfInBounds_toArray, List.set_cons_zero, List.set_cons_succ]
              refine wpAnyH_ready (rs := [1]) (by kernel_rfl) (by simp) ?_
              refine AllReadyH.cons (o := ({ dst := some 54, op := Go.Op.call { callee := Go.Callee.value (Go.Operand.func 23), args := #[Go.Operand.tmp 53], argTypes := #[30] }, type := 3, pos := "more.go:20", after := #[{ on := 0, ground := Go.Ground.data }], guard := none } : Go.Oper)) rfl (fun K hK => ?_) AllReadyH.nil
              go_simp
              refine (almagestlaw8_num.calls 0 0 _ rfl).mono ?_
              rintro e w5 ⟨rfl, ⟨nd, hw5⟩⟩
              have hb := below_of_drawn hw5
              clear hw5
              have n1 := Aside0.mk (below_step HB.out hb)
              have n2 := Aside0.mk (range_below RG.out hb)
              have n3 := Aside0.mk (blk_below BA.out hb)
              clear HB RG BA hb
              have HB := n1
              have RG := n2
              have BA := n3
              clear n1 n2 n3
              go_wp2_with fail
              refine hK.out _ _ RG.out (fun hHeld => ?_)
              clear hK K
              try simp only [Act.put, List.setIfInBounds_toArray, List.set_cons_zero, List.set_cons_succ]
              refine wpAnyH_take (i := 2) (oi := ({ dst := some 55, op := Go.Op.binOp Go.BinOp.neq 3 (Go.Operand.tmp 54) (Go.Operand.const (Go.Value.int Go.IntKind.i64 0)) 3, type := 4, pos := "more.go:20", after := #[{ on := 1, ground := Go.Ground.data }], guard := none } : Go.Oper)) (v := ?_) rfl (by kernel_rfl) (by kernel_rfl) (by kernel_rfl) (fun _ _ _ h => h) (Or.inl ⟨by rfl, ?_⟩) (by assumption) ?_
              rotate_left 1
              · (intro w hSw; (try dsimp only at hSw); go_simp; try with_reducible rfl)
              try simp only [Act.put, List.setIfInBounds_toArray, List.set_cons_zero, List.set_cons_succ]
              refine wpAnyH_take (i := 3) (oi := ({ dst := some 56, op := Go.Op.move (Go.Operand.tmp 55), type := 4, pos := "more.go:20", after := #[{ on := 2, ground := Go.Ground.data }, { on := 1, ground := Go.Ground.chain }], guard := none } : Go.Oper)) (v := ?_) rfl (by kernel_rfl) (by kernel_rfl) (by kernel_rfl) (fun _ _ _ h => h) (Or.inl ⟨by rfl, ?_⟩) (by assumption) ?_
              rotate_left 1
              · (intro w hSw; (try dsimp only at hSw); go_simp; try with_reducible rfl)
              try simp only [Act.put, List.setIfInBounds_toArray, List.set_cons_zero, List.set_cons_succ]
              refine wpAnyH_take (i := 4) (oi := ({ dst := some 57, op := Go.Op.move (Go.Operand.tmp 12), type := 30, pos := "more.go:20", after := #[{ on := 3, ground := Go.Ground.guard }], guard := some (3, false) } : Go.Oper)) (v := ?_) rfl (by kernel_rfl) (by kernel_rfl) (by kernel_rfl) (fun _ _ _ h => h) (Or.inl ⟨by rfl, ?_⟩) (by assumption) ?_
              rotate_left 1
              · (intro w hSw; (try dsimp only at hSw); go_simp; try with_reducible rfl)
              try simp only [Act.put, List.setIfInBounds_toArray, List.set_cons_zero, List.set_cons_succ]
              refine wpAnyH_ready (rs := [5]) (by kernel_rfl) (by simp) ?_
              refine AllReadyH.cons (o := ({ dst := some 58, op := Go.Op.call { callee := Go.Callee.value (Go.Operand.func 23), args := #[Go.Operand.tmp 57], argTypes := #[30] }, type := 3, pos := "more.go:20", after := #[{ on := 4, ground := Go.Ground.data }, { on := 3, ground := Go.Ground.chain }, { on := 3, ground := Go.Ground.guard }], guard := some (3, false) } : Go.Oper)) rfl (fun K hK => ?_) AllReadyH.nil
              go_simp
              refine (almagestlaw8_num.calls 0 0 _ rfl).mono ?_
              rintro e w5 ⟨rfl, ⟨nd, hw5⟩⟩
              have hb := below_of_drawn hw5
              clear hw5
              have n1 := Aside0.mk (below_step HB.out hb)
              have n2 := Aside0.mk (range_below RG.out hb)
              have n3 := Aside0.mk (blk_below BA.out hb)
              clear HB RG BA hb
              have HB := n1
              have RG := n2
              have BA := n3
              clear n1 n2 n3
              go_wp2_with fail
              refine hK.out _ _ RG.out (fun hHeld => ?_)
              clear hK K
              try simp only [Act.put, List.setIfInBounds_toArray, List.set_cons_zero, List.set_cons_succ]
              refine wpAnyH_take (i := 6) (oi := ({ dst := some 59, op := Go.Op.binOp Go.BinOp.neq 3 (Go.Operand.tmp 58) (Go.Operand.const (Go.Value.int Go.IntKind.i64 0)) 3, type := 4, pos := "more.go:20", after := #[{ on := 5, ground := Go.Ground.data }, { on := 3, ground := Go.Ground.guard }], guard := some (3, false) } : Go.Oper)) (v := ?_) rfl (by kernel_rfl) (by kernel_rfl) (by kernel_rfl) (fun _ _ _ h => h) (Or.inl ⟨by rfl, ?_⟩) (by assumption) ?_
              rotate_left 1
              · (intro w hSw; (try dsimp only at hSw); go_simp; try with_reducible rfl)
              try simp only [Act.put, List.setIfInBounds_toArray, List.set_cons_zero, List.set_cons_succ]
              refine wpAnyH_take (i := 7) (oi := ({ dst := some 60, op := Go.Op.pick (Go.Operand.tmp 56) (Go.Operand.const (Go.Value.bool true)) (Go.Operand.tmp 59), type := 4, pos := "more.go:20", after := #[{ on := 3, ground := Go.Ground.data }, { on := 6, ground := Go.Ground.data }], guard := none } : Go.Oper)) (v := ?_) rfl (by kernel_rfl) (by kernel_rfl) (by kernel_rfl) (fun _ _ _ h => h) (Or.inl ⟨by rfl, ?_⟩) (by assumption) ?_
              rotate_left 1
              · (intro w hSw; (try dsimp only at hSw); go_simp; try with_reducible rfl)
              try simp only [Act.put, List.setIfInBounds_toArray, List.set_cons_zero, List.set_cons_succ]
              refine wpAnyH_take (i := 8) (oi := ({ dst := some 61, op := Go.Op.move (Go.Operand.tmp 60), type := 4, pos := "more.go:20", after := #[{ on := 7, ground := Go.Ground.data }, { on := 5, ground := Go.Ground.chain }], guard := none } : Go.Oper)) (v := ?_) rfl (by kernel_rfl) (by kernel_rfl) (by kernel_rfl) (fun _ _ _ h => h) (Or.inl ⟨by rfl, ?_⟩) (by assumption) ?_
              rotate_left 1
              · (intro w hSw; (try dsimp only at hSw); go_simp; try with_reducible rfl)
              try simp only [Act.put, List.setIfInBounds_toArray, List.set_cons_zero, List.set_cons_succ]
              refine wpAnyH_take (i := 9) (oi := ({ dst := some 62, op := Go.Op.move (Go.Operand.tmp 9), type := 3, pos := "more.go:20", after := #[{ on := 8, ground := Go.Ground.guard }], guard := some (8, false) } : Go.Oper)) (v := ?_) rfl (by kernel_rfl) (by kernel_rfl) (by kernel_rfl) (fun _ _ _ h => h) (Or.inl ⟨by rfl, ?_⟩) (by assumption) ?_
              rotate_left 1
              · (intro w hSw; (try dsimp only at hSw); go_simp; try with_reducible rfl)
              try simp only [Act.put, List.setIfInBounds_toArray, List.set_cons_zero, List.set_cons_succ]
              refine wpAnyH_take (i := 10) (oi := ({ dst := some 63, op := Go.Op.load 28 (Go.Operand.tmp 5), type := 28, pos := "more.go:20", after := #[{ on := 8, ground := Go.Ground.guard }], guard := some (8, false) } : Go.Oper)) (v := .agg (arrL tabF).toArray) rfl (by kernel_rfl) (by kernel_rfl) (by kernel_rfl) (fun _ _ _ h => h) (yieldsIf_load_mid (by rfl) 28 (.tmp 5) rfl gt 0 rfl (arrL tabF) _ (fun _ h => h) Try.underlying28 rfl hinfo) (by assumption) ?_
              try simp only [Act.put, List.setIfInBounds_toArray, List.set_cons_zero, List.set_cons_succ]
              refine wpAnyH_take (i := 11) (oi := ({ dst := some 64, op := Go.Op.move (Go.Operand.tmp 1), type := 3, pos := "more.go:20", after := #[{ on := 8, ground := Go.Ground.guard }], guard := some (8, false) } : Go.Oper)) (v := ?_) rfl (by kernel_rfl) (by kernel_rfl) (by kernel_rfl) (fun _ _ _ h => h) (Or.inl ⟨by rfl, ?_⟩) (by assumption) ?_
              rotate_left 1
              · (intro w hSw; (try dsimp only at hSw); go_simp; try with_reducible rfl)
              try simp only [Act.put, List.setIfInBounds_toArray, List.set_cons_zero, List.set_cons_succ]
              refine wpAnyH_take (i := 12) (oi := ({ dst := some 65, op := Go.Op.binOp Go.BinOp.sub 3 (Go.Operand.tmp 64) (Go.Operand.const (Go.Value.int Go.IntKind.i64 1)) 3, type := 3, pos := "more.go:20", after := #[{ on := 11, ground := Go.Ground.data }, { on := 8, ground := Go.Ground.guard }], guard := some (8, false) } : Go.Oper)) (v := ?_) rfl (by kernel_rfl) (by kernel_rfl) (by kernel_rfl) (fun _ _ _ h => h) (Or.inl ⟨by rfl, ?_⟩) (by assumption) ?_
              rotate_left 1
              · (intro w hSw; (try dsimp only at hSw); go_simp; try with_reducible rfl)
              try simp only [Act.put, List.setIfInBounds_toArray, List.set_cons_zero, List.set_cons_succ]
              refine wpAnyH_take (i := 13) (oi := ({ dst := some 66, op := Go.Op.binOp Go.BinOp.shl 3 (Go.Operand.const (Go.Value.int Go.IntKind.i64 1)) (Go.Operand.tmp 65) 3, type := 3, pos := "more.go:20", after := #[{ on := 12, ground := Go.Ground.data }, { on := 8, ground := Go.Ground.guard }], guard := some (8, false) } : Go.Oper)) (v := ?_) rfl (by kernel_rfl) (by kernel_rfl) (by kernel_rfl) (fun _ _ _ h => h) (Or.inl ⟨by rfl, ?_⟩) (by assumption) ?_
              rotate_left 1
              · (intro w hSw; (try dsimp only at hSw); go_simp; try with_reducible rfl)
              try simp only [Act.put, List.setIfInBounds_toArray, List.set_cons_zero, List.set_cons_succ]
              refine wpAnyH_take (i := 14) (oi := ({ dst := some 67, op := Go.Op.move (Go.Operand.tmp 8), type := 3, pos := "more.go:20", after := #[{ on := 8, ground := Go.Ground.guard }], guard := some (8, false) } : Go.Oper)) (v := ?_) rfl (by kernel_rfl) (by kernel_rfl) (by kernel_rfl) (fun _ _ _ h => h) (Or.inl ⟨by rfl, ?_⟩) (by assumption) ?_
              rotate_left 1
              · (intro w hSw; (try dsimp only at hSw); go_simp; try with_reducible rfl)
              try simp only [Act.put, List.setIfInBounds_toArray, List.set_cons_zero, List.set_cons_succ]
              refine wpAnyH_ready (rs := [15]) (by kernel_rfl) (by simp) ?_
              refine AllReadyH.cons (o := ({ dst := some 68, op := Go.Op.call { callee := Go.Callee.value (Go.Operand.func 25), args := #[Go.Operand.tmp 63, Go.Operand.tmp 66, Go.Operand.tmp 67], argTypes := #[28, 3, 3] }, type := 3, pos := "more.go:20", after := #[{ on := 10, ground := Go.Ground.data }, { on := 13, ground := Go.Ground.data }, { on := 14, ground := Go.Ground.data }, { on := 8, ground := Go.Ground.chain }, { on := 8, ground := Go.Ground.guard }], guard := some (8, false) } : Go.Oper)) rfl (fun K hK => ?_) AllReadyH.nil
              go_simp
              refine (REF1.out _).mono ?_
              rintro e w6 ⟨rfl, hb⟩
              have n1 := Aside0.mk (below_step HB.out hb)
              have n2 := Aside0.mk (range_below RG.out hb)
              have n3 := Aside0.mk (blk_below BA.out hb)
              clear HB RG BA hb
              have HB := n1
              have RG := n2
              have BA := n3
              clear n1 n2 n3
              go_wp2_with fail
              refine hK.out _ _ RG.out (fun hHeld => ?_)
              clear hK K
              try simp only [Act.put, List.setIfInBounds_toArray, List.set_cons_zero, List.set_cons_succ]
              refine wpAnyH_take (i := 16) (oi := ({ dst := some 69, op := Go.Op.binOp Go.BinOp.neq 3 (Go.Operand.tmp 62) (Go.Operand.tmp 68) 3, type := 4, pos := "more.go:20", after := #[{ on := 9, ground := Go.Ground.data }, { on := 15, ground := Go.Ground.data }, { on := 8, ground := Go.Ground.guard }], guard := some (8, false) } : Go.Oper)) (v := ?_) rfl (by kernel_rfl) (by kernel_rfl) (by kernel_rfl) (fun _ _ _ h => h) (Or.inl ⟨by rfl, ?_⟩) (by assumption) ?_
              rotate_left 1
              · (intro w hSw; (try dsimp only at hSw); go_simp; try with_reducible rfl)
              try simp only [Act.put, List.setIfInBounds_toArray, List.set_cons_zero, List.set_cons_succ]
              refine wpAnyH_take (i := 17) (oi := ({ dst := some 70, op := Go.Op.pick (Go.Operand.tmp 61) (Go.Operand.const (Go.Value.bool true)) (Go.Operand.tmp 69), type := 4, pos := "more.go:20", after := #[{ on := 8, ground := Go.Ground.data }, { on := 16, ground := Go.Ground.data }], guard := none } : Go.Oper)) (v := ?_) rfl (by kernel_rfl) (by kernel_rfl) (by kernel_rfl) (fun _ _ _ h => h) (Or.inl ⟨by rfl, ?_⟩) (by assumption) ?_
              rotate_left 1
              · (intro w hSw; (try dsimp only at hSw); go_simp; try with_reducible rfl)
              try simp only [Act.put, List.setIfInBounds_toArray, List.set_cons_zero, List.set_cons_succ]
              refine wpAnyH_take (i := 18) (oi := ({ dst := some 71, op := Go.Op.move (Go.Operand.tmp 70), type := 4, pos := "more.go:20", after := #[{ on := 17, ground := Go.Ground.data }, { on := 15, ground := Go.Ground.chain }], guard := none } : Go.Oper)) (v := ?_) rfl (by kernel_rfl) (by kernel_rfl) (by kernel_rfl) (fun _ _ _ h => h) (Or.inl ⟨by rfl, ?_⟩) (by assumption) ?_
              rotate_left 1
              · (intro w hSw; (try dsimp only at hSw); go_simp; try with_reducible rfl)
              try simp only [Act.put, List.setIfInBounds_toArray, List.set_cons_zero, List.set_cons_succ]
              refine wpAnyH_take (i := 19) (oi := ({ dst := some 72, op := Go.Op.move (Go.Operand.tmp 11), type := 3, pos := "more.go:20", after := #[{ on := 18, ground := Go.Ground.guard }], guard := some (18, false) } : Go.Oper)) (v := ?_) rfl (by kernel_rfl) (by kernel_rfl) (by kernel_rfl) (fun _ _ _ h => h) (Or.inl ⟨by rfl, ?_⟩) (by assumption) ?_
              rotate_left 1
              · (intro w hSw; (try dsimp only at hSw); go_simp; try with_reducible rfl)
              try simp only [Act.put, List.setIfInBounds_toArray, List.set_cons_zero, List.set_cons_succ]
              refine wpAnyH_take (i := 20) (oi := ({ dst := some 73, op := Go.Op.load 28 (Go.Operand.tmp 5), type := 28, pos := "more.go:20", after := #[{ on := 18, ground := Go.Ground.guard }], guard := some (18, false) } : Go.Oper)) (v := .agg (arrL tabF).toArray) rfl (by kernel_rfl) (by kernel_rfl) (by kernel_rfl) (fun _ _ _ h => h) (yieldsIf_load_mid (by rfl) 28 (.tmp 5) rfl gt 0 rfl (arrL tabF) _ (fun _ h => h) Try.underlying28 rfl hinfo) (by assumption) ?_
              try simp only [Act.put, List.setIfInBounds_toArray, List.set_cons_zero, List.set_cons_succ]
              refine wpAnyH_take (i := 21) (oi := ({ dst := some 74, op := Go.Op.move (Go.Operand.tmp 8), type := 3, pos := "more.go:20", after := #[{ on := 18, ground := Go.Ground.guard }], guard := some (18, false) } : Go.Oper)) (v := ?_) rfl (by kernel_rfl) (by kernel_rfl) (by kernel_rfl) (fun _ _ _ h => h) (Or.inl ⟨by rfl, ?_⟩) (by assumption) ?_
              rotate_left 1
              · (intro w hSw; (try dsimp only at hSw); go_simp; try with_reducible rfl)
              try simp only [Act.put, List.setIfInBounds_toArray, List.set_cons_zero, List.set_cons_succ]
              refine wpAnyH_take (i := 22) (oi := ({ dst := some 75, op := Go.Op.move (Go.Operand.tmp 1), type := 3, pos := "more.go:20", after := #[{ on := 18, ground := Go.Ground.guard }], guard := some (18, false) } : Go.Oper)) (v := ?_) rfl (by kernel_rfl) (by kernel_rfl) (by kernel_rfl) (fun _ _ _ h => h) (Or.inl ⟨by rfl, ?_⟩) (by assumption) ?_
              rotate_left 1
              · (intro w hSw; (try dsimp only at hSw); go_simp; try with_reducible rfl)
              try simp only [Act.put, List.setIfInBounds_toArray, List.set_cons_zero, List.set_cons_succ]
              refine wpAnyH_take (i := 23) (oi := ({ dst := some 76, op := Go.Op.binOp Go.BinOp.sub 3 (Go.Operand.tmp 75) (Go.Operand.const (Go.Value.int Go.IntKind.i64 1)) 3, type := 3, pos := "more.go:20", after := #[{ on := 22, ground := Go.Ground.data }, { on := 18, ground := Go.Ground.guard }], guard := some (18, false) } : Go.Oper)) (v := ?_) rfl (by kernel_rfl) (by kernel_rfl) (by kernel_rfl) (fun _ _ _ h => h) (Or.inl ⟨by rfl, ?_⟩) (by assumption) ?_
              rotate_left 1
              · (intro w hSw; (try dsimp only at hSw); go_simp; try with_reducible rfl)
              try simp only [Act.put, List.setIfInBounds_toArray, List.set_cons_zero, List.set_cons_succ]
              refine wpAnyH_take (i := 24) (oi := ({ dst := some 77, op := Go.Op.binOp Go.BinOp.shl 3 (Go.Operand.const (Go.Value.int Go.IntKind.i64 1)) (Go.Operand.tmp 76) 3, type := 3, pos := "more.go:20", after := #[{ on := 23, ground := Go.Ground.data }, { on := 18, ground := Go.Ground.guard }], guard := some (18, false) } : Go.Oper)) (v := ?_) rfl (by kernel_rfl) (by kernel_rfl) (by kernel_rfl) (fun _ _ _ h => h) (Or.inl ⟨by rfl, ?_⟩) (by assumption) ?_
              rotate_left 1
              · (intro w hSw; (try dsimp only at hSw); go_simp; try with_reducible rfl)
              try simp only [Act.put, List.setIfInBounds_toArray, List.set_cons_zero, List.set_cons_succ]
              refine wpAnyH_ready (rs := [25]) (by kernel_rfl) (by simp) ?_
              refine AllReadyH.cons (o := ({ dst := some 78, op := Go.Op.call { callee := Go.Callee.value (Go.Operand.func 25), args := #[Go.Operand.tmp 73, Go.Operand.tmp 74, Go.Operand.tmp 77], argTypes := #[28, 3, 3] }, type := 3, pos := "more.go:20", after := #[{ on := 20, ground := Go.Ground.data }, { on := 21, ground := Go.Ground.data }, { on := 24, ground := Go.Ground.data }, { on := 18, ground := Go.Ground.chain }, { on := 18, ground := Go.Ground.guard }], guard := some (18, false) } : Go.Oper)) rfl (fun K hK => ?_) AllReadyH.nil
              go_simp
              refine (REF2.out _).mono ?_
              rintro e w7 ⟨rfl, hb⟩
              have n1 := Aside0.mk (below_step HB.out hb)
              have n2 := Aside0.mk (range_below RG.out hb)
              have n3 := Aside0.mk (blk_below BA.out hb)
              clear HB RG BA hb
              have HB := n1
              have RG := n2
              have BA := n3
              clear n1 n2 n3
              go_wp2_with fail
              refine hK.out _ _ RG.out (fun hHeld => ?_)
              clear hK K
              try simp only [Act.put, List.setIfInBounds_toArray, List.set_cons_zero, List.set_cons_succ]
              refine wpAnyH_take (i := 26) (oi := ({ dst := some 79, op := Go.Op.binOp Go.BinOp.neq 3 (Go.Operand.tmp 72) (Go.Operand.tmp 78) 3, type := 4, pos := "more.go:20", after := #[{ on := 19, ground := Go.Ground.data }, { on := 25, ground := Go.Ground.data }, { on := 18, ground := Go.Ground.guard }], guard := some (18, false) } : Go.Oper)) (v := ?_) rfl (by kernel_rfl) (by kernel_rfl) (by kernel_rfl) (fun _ _ _ h => h) (Or.inl ⟨by rfl, ?_⟩) (by assumption) ?_
              rotate_left 1
              · (intro w hSw; (try dsimp only at hSw); go_simp; try with_reducible rfl)
              try simp only [Act.put, List.setIfInBounds_toArray, List.set_cons_zero, List.set_cons_succ]
              refine wpAnyH_take (i := 27) (oi := ({ dst := some 80, op := Go.Op.pick (Go.Operand.tmp 71) (Go.Operand.const (Go.Value.bool true)) (Go.Operand.tmp 79), type := 4, pos := "more.go:20", after := #[{ on := 18, ground := Go.Ground.data }, { on := 26, ground := Go.Ground.data }], guard := none } : Go.Oper)) (v := ?_) rfl (by kernel_rfl) (by kernel_rfl) (by kernel_rfl) (fun _ _ _ h => h) (Or.inl ⟨by rfl, ?_⟩) (by assumption) ?_
              rotate_left 1
              · (intro w hSw; (try dsimp only at hSw); go_simp; try with_reducible rfl)
              try simp only [Act.put, List.setIfInBounds_toArray, List.set_cons_zero, List.set_cons_succ]
              refine wpAnyH_done (by kernel_rfl) ?_ _
              go_wp2_with fail
              go_roundg g4
              case measure => omega
              case rel => exact ⟨1 + 1, by go_num, ⟨by have := HK4.out; omega⟩, ⟨by omega⟩, RG, BA, HB⟩
          · have q2 : decide ((u : Int) < 2) = false := decide_eq_false (by omega)
            have i2 : (s : Int) ≤ 100 := by omega
            go_wp2_with fail
            go_roundg g3
            case measure => omega
            case rel => exact ⟨s + 1, by go_num, ⟨by have := HK3.out; omega⟩, ⟨by omega⟩, RG, BA, HB⟩
      · have q1 : decide ((s : Int) < 13) = false := decide_eq_false (by omega)
        go_wp2_with (go_at_call 26; (with_reducible refine (almagestlaw8_wakes_calls _).mono ?_); rintro e w3 ⟨rfl, hb⟩)
        go_ret
        exact ⟨rfl, below_step HB.out hb⟩
end Go.Proofs.Ytcfjllbibgadfaa.B

/- The reference's answer to what follows from two sets. No condition. -/
import Derived.Test.YtcfjllbibgadfaaWvRef
namespace Go.Proofs.Ytcfjllbibgadfaa.B
open Go Go.RowKit
open Go.Proofs.YtcfjllbibgadfaaW.PrintWords Go.Proofs.YtcfjllbibgadfaaW.PrintLast Go.Proofs.YtcfjllbibgadfaaW.PrintMore
set_option linter.unusedVariables false
set_option linter.unusedSimpArgs false

/-- Does a set hold a relation, as the reference asks it? -/
def inQ (s : Int) (i : Nat) : Bool := Go.bits .and .i64 (s / 2 ^ (i - 1)) 1 == 1
def stepQ (m : Int → Int → Int) (a b : Int) (i j : Nat) (x : Int) : Int := if inQ a i = true then (if inQ b j = true then Go.bits .or .i64 x (m (i : Int) (j : Int)) else x) else x
def refI (m : Int → Int → Int) (a b : Int) (i : Nat) (x : Int) : Nat → Int
  | 0 => x
  | n + 1 => stepQ m a b i (n + 1) (refI m a b i x n)
def refO (m : Int → Int → Int) (a b : Int) : Nat → Int
  | 0 => 0
  | n + 1 => refI m a b (n + 1) (refO m a b n) 13

set_option maxHeartbeats 8000000 in
set_option maxRecDepth 100000 in
theorem almagestref7_Then_calls (m : Int → Int → Int) (a b : Int) (w : World) (ha0 : 0 ≤ a) (ha1 : a ≤ 8191) (hb0 : 0 ≤ b) (hb1 : b ≤ 8191) :
    Calls Try.prog 25 #[.agg (arrL m).toArray, .int .i64 a, .int .i64 b] w fun e w' => e = .returned (.int .i64 (refO m a b 13)) ∧ Below w.heap.size w w' := by
  have HB := Aside0.mk (Below.refl w.heap.size w)
  have HG := Aside0.mk (fun (i j : Nat) (hi : i < 14) (hj : j < 14) => (by simpa using arr_get m hi hj : (arrL m).toArray[i * 14 + j]? = some (.int .i64 (m (i : Int) (j : Int)))))
  generalize (arrL m).toArray = z at *
  go_enter Try.func25, Try.ntmps25
  go_wp2_with fail
  have HB1 := Aside0.mk (below_alloc HB.out (Obj.cells z 28))
  have BZ := Aside0.mk (heap_alloc_new w (Obj.cells z 28))
  clear HB
  go_loopg [7, 8] 16 (fun kq v7 v8 w' => ∃ i : Nat, v8 = .int .i64 ((i : Int) + 1) ∧ v7 = .int .i64 (refO m a b i) ∧ Aside0 (kq + i = 16) ∧ Aside0 (i ≤ 13) ∧ Aside0 (w'.heap[w.heap.size]? = some (.cells z 28 (0, 0))) ∧ Aside0 (Below w.heap.size w w'))
  case atStart => exact ⟨0, rfl, rfl, ⟨rfl⟩, ⟨by omega⟩, BZ, HB1⟩
  case round =>
    clear HB1 BZ
    obtain ⟨i, rfl, rfl, HK3, HI, BZ, HB⟩ := hrel
    obtain ⟨g3, rfl⟩ : ∃ g, gk = g + 1 := ⟨gk - 1, by have := HK3.out; have := HI.out; omega⟩
    have e1 : ((i : Int) + 1) = ((i + 1 : Nat) : Int) := by omega
    by_cases hi : i < 13
    · rw [e1]
      have EX := Aside0.mk (show refO m a b (i + 1) = refI m a b (i + 1) (refO m a b i) 13 from rfl)
      clear e1
      generalize refO m a b i = x at *
      obtain ⟨i1, hi1⟩ : ∃ i1, i1 = i + 1 := ⟨_, rfl⟩
      rw [← hi1]
      rw [← hi1] at EX
      have HI1 := Aside0.mk hi1
      have q1 : decide ((i1 : Int) ≤ 13) = true := decide_eq_true (by omega)
      have r1 : (0 : Int) ≤ (i1 : Int) - 1 := by omega
      have r3 : (i1 : Int) ≤ 13 := by omega
      have r5 : (1 : Int) ≤ (i1 : Int) := by omega
      clear hi1
      go_wp2_with fail
      go_loopg [7, 9] 16 (fun kq v7 v9 w' => ∃ j : Nat, v9 = .int .i64 ((j : Int) + 1) ∧ v7 = .int .i64 (refI m a b i1 x j) ∧ Aside0 (kq + j = 16) ∧ Aside0 (j ≤ 13) ∧ Aside0 (w'.heap[w.heap.size]? = some (.cells z 28 (0, 0))) ∧ Aside0 (Below w.heap.size w w'))
      case atStart => exact ⟨0, rfl, rfl, ⟨rfl⟩, ⟨by omega⟩, BZ, HB⟩
      case round =>
        clear HB BZ
        obtain ⟨j, rfl, rfl, HK4, HJ, BZ, HB⟩ := hrel
        obtain ⟨g4, rfl⟩ : ∃ g, gk = g + 1 := ⟨gk - 1, by have := HK4.out; have := HJ.out; omega⟩
        have e2 : ((j : Int) + 1) = ((j + 1 : Nat) : Int) := by omega
        by_cases hj : j < 13
        · rw [e2]
          have EY := Aside0.mk (show refI m a b i1 x (j + 1) = stepQ m a b i1 (j + 1) (refI m a b i1 x j) from rfl)
          clear e2
          generalize refI m a b i1 x j = y at *
          obtain ⟨j1, hj1⟩ : ∃ j1, j1 = j + 1 := ⟨_, rfl⟩
          rw [← hj1]
          rw [← hj1] at EY
          have HJ1 := Aside0.mk hj1
          have q2 : decide ((j1 : Int) ≤ 13) = true := decide_eq_true (by omega)
          have r2 : (0 : Int) ≤ (j1 : Int) - 1 := by omega
          have r4 : (j1 : Int) ≤ 13 := by omega
          have r6 : (1 : Int) ≤ (j1 : Int) := by omega
          have hcell : wr.cell? ⟨w.heap.size, i1 * 14 + j1, none⟩ = some (.int .i64 (m (i1 : Int) (j1 : Int))) := (blk_cell BZ.out (i1 * 14 + j1)).trans (HG.out i1 j1 (by omega) (by omega))
          clear hj1
          cases h1 : inQ a i1 with
          | true =>
            have t1 : (Go.bits .and .i64 (a / 2 ^ (i1 - 1)) 1 == 1) = true := h1
            have t2 : Go.bits .and .i64 (a / 2 ^ (i1 - 1)) 1 = 1 := beq_iff_eq.1 t1
            cases h2 : inQ b j1 with
            | true =>
              have t3 : (Go.bits .and .i64 (b / 2 ^ (j1 - 1)) 1 == 1) = true := h2
              have EZ := Aside0.mk (show stepQ m a b i1 j1 y = Go.bits .or .i64 y (m (i1 : Int) (j1 : Int)) by unfold stepQ; rw [if_pos h1, if_pos h2])
              clear h1 h2
              go_wp2_with fail
              go_roundg g4
              case measure => omega
              case rel => exact ⟨j + 1, (by have := HJ1.out; rw [this]; try rfl), by rw [← HJ1.out, EY.out, EZ.out], ⟨by have := HK4.out; omega⟩, ⟨by omega⟩, BZ, HB⟩
            | false =>
              have t3 : (Go.bits .and .i64 (b / 2 ^ (j1 - 1)) 1 == 1) = false := h2
              have EZ := Aside0.mk (show stepQ m a b i1 j1 y = y by unfold stepQ; rw [if_pos h1, if_neg (by rw [h2]; simp)])
              clear h1 h2 hcell
              go_wp2_with fail
              go_roundg g4
              case measure => omega
              case rel => exact ⟨j + 1, (by have := HJ1.out; rw [this]; try rfl), by rw [← HJ1.out, EY.out, EZ.out], ⟨by have := HK4.out; omega⟩, ⟨by omega⟩, BZ, HB⟩
          | false =>
            have t1 : (Go.bits .and .i64 (a / 2 ^ (i1 - 1)) 1 == 1) = false := h1
            have t2 : ¬ Go.bits .and .i64 (a / 2 ^ (i1 - 1)) 1 = 1 := beq_eq_false_iff_ne.1 t1
            have EZ := Aside0.mk (show stepQ m a b i1 j1 y = y by unfold stepQ; rw [if_neg (by rw [h1]; simp)])
            clear h1 hcell
            go_wp2_with fail
            go_roundg g4
            case measure => omega
            case rel => exact ⟨j + 1, (by have := HJ1.out; rw [this]; try rfl), by rw [← HJ1.out, EY.out, EZ.out], ⟨by have := HK4.out; omega⟩, ⟨by omega⟩, BZ, HB⟩
        · have e15 : j = 13 := by have := HJ.out; omega
          subst e15
          clear e2
          have i2 : (i1 : Int) ≤ 100 := by omega
          go_wp2_with fail
          go_roundg g3
          case measure => omega
          case rel => exact ⟨i + 1, (by have := HI1.out; rw [this]; try rfl), by rw [← HI1.out, EX.out], ⟨by have := HK3.out; omega⟩, ⟨by omega⟩, BZ, HB⟩
    · have e15 : i = 13 := by have := HI.out; omega
      subst e15
      clear e1
      go_wp2_with fail
      go_ret
      exact ⟨rfl, HB.out⟩
end Go.Proofs.Ytcfjllbibgadfaa.B

/- The variables of terms: the program's own answer. No condition beyond the reading's own. -/
import Derived.Test.YthaoooohomfkcaaTmNames1
import Derived.Test.YthaoooohomfkcaaIter
namespace Go.Proofs.Ythaoooohomfkcaa.A
open Go Go.RowKit Go.Maps Go.Sort Go.WideMaps
open Go.Proofs.YthaoooohomfkcaaW.PrintWords Go.Proofs.YthaoooohomfkcaaW.PrintLast Go.Proofs.YthaoooohomfkcaaW.PrintMore
set_option linter.unusedVariables false
set_option linter.unusedSimpArgs false

theorem dd_len : ∀ l : List (List UInt8), (dd l).length ≤ l.length := by
  intro l
  induction l with
  | nil => simp [dd]
  | cons x l ih => simp only [dd]; split <;> simp <;> omega
theorem keys_perm {w : World} {b : Nat} {acc : List ByteArray} (h : MapAt w b acc) : (dd (bytesL acc)).Perm (strKeys (setOf (H := Unit) (.lit (.bool true)) (acc.map litS))) := by
  refine Collected.perm (left := fun _ => false) ⟨nodup_dd _, fun x => ?_⟩ h (string_keyed Try.underlying9) Try.underlying9 (fun _ => rfl)
  rw [has_setOf _ _ _ (by intro y hy; obtain ⟨s, _, rfl⟩ := List.mem_map.1 hy; exact trivial), mem_dd, List.any_eq_true]
  unfold bytesL
  rw [List.mem_map]
  constructor
  · rintro ⟨s, hs, rfl⟩
    exact ⟨⟨litS s, List.mem_map_of_mem hs, by simp [litS, Lit.sameKey]⟩, rfl⟩
  · rintro ⟨⟨y, hy, he⟩, _⟩
    obtain ⟨s, hs, rfl⟩ := List.mem_map.1 hy
    exact ⟨s, hs, by simpa [litS, Lit.sameKey] using he⟩
theorem size_le {w : World} {b : Nat} {acc : List ByteArray} (h : MapAt w b acc) : Maps.size (setOf (H := Unit) (.lit (.bool true)) (acc.map litS)) ≤ acc.length := by
  have h1 := (keys_perm h).length_eq
  have h2 := dd_len (bytesL acc)
  obtain ⟨es, hD, _⟩ := World.ownsMap.keysOf h
  rw [hD] at h1 ⊢
  simp only [strKeys, List.length_map] at h1
  have h3 : (bytesL acc).length = acc.length := by simp [bytesL]
  show es.length ≤ _
  omega

theorem few_len {l : List ByteArray} (h : fewB l = true) : l.length ≤ 1000000 ∧ ∀ s ∈ l, s.size ≤ 1000000 := by
  unfold fewB at h
  simp only [Bool.and_eq_true, decide_eq_true_eq, List.all_eq_true] at h
  exact h
set_option maxHeartbeats 2000000 in
set_option maxRecDepth 100000 in
theorem term_Names.calls (A0 : Option Addr) (c0 : Nat) (l0 : List (S31)) (r : List ByteArray) (w : World) (hr0 : Kd.C k31 w A0 l0.length l0) (hc0 : l0.length ≤ c0) (h : term_Names.f l0 = some r) :
    Calls Try.prog 70 #[.slice A0 l0.length c0] w fun e w' => ∃ v0_ : Value, e = .returned (v0_) ∧ Kd.R Kd.string 9 w' w.heap.size (fun _ => True) v0_ r ∧ Below w.heap.size w w' := by
  unfold term_Names.f at h
  by_cases hf : fewB (occL l0) = true
  case neg => rw [if_neg hf] at h; cases h
  rw [if_pos hf] at h
  obtain rfl := Option.some.inj h
  clear h
  have HF := Aside0.mk (few_len hf)
  clear hf
  have hu := Try.underlying31
  have hmm := @run_makeMap Try.prog
  have HC := Aside0.mk hr0
  have HN := Aside0.mk hr0.2.1
  have HC2 := Aside0.mk hc0
  clear hr0 hc0
  have HB := Aside0.mk (Below.refl w.heap.size w)
  go_enter Try.func70, Try.ntmps70
  go_wp2
  go_loopg [9] (l0.length + 1) (fun kq v9 w' => ∃ i : Nat, v9 = .int .i64 (i : Int) ∧ Aside0 (kq + i = l0.length + 1) ∧ Aside0 (i ≤ l0.length) ∧ Aside0 (Below w.heap.size w w') ∧ Aside0 (MapAt w' w.heap.size (occL (l0.take i))))
  case atStart => exact ⟨0, rfl, ⟨rfl⟩, ⟨Nat.zero_le _⟩, ⟨below_alloc HB.out _⟩, ⟨MapAt.made w⟩⟩
  case round =>
    clear HB
    obtain ⟨i, rfl, HQ, HI2, H1, H2⟩ := hrel
    obtain ⟨g3, rfl⟩ : ∃ g, gk = g + 1 := ⟨gk - 1, by have := HQ.out; have := HI2.out; omega⟩
    by_cases hi : i < l0.length
    · have p1 : (0 : Int) ≤ (i : Int) := by omega
      have q1 : (i : Int) < (l0.length : Int) := by omega
      have bd : (i : Int) ≤ 9223372036854775806 := by have := HN.out; omega
      obtain ⟨ad, A3, c3, ead, y0, y1, y2, y3, yl, yC⟩ := at_T31 HC.out (i : Int) p1 q1
      cases ead
      rw [Int.toNat_natCast] at y0 y1 y2 y3
      have HCx := Aside0.mk yC
      have HCl := Aside0.mk yl
      have HIx := Aside0.mk (note_all (rd_T31 l0 (i : Int)))
      have HT := Aside0.mk (occL_take hi)
      have HR := Aside0.mk (occL_room hi)
      have HM := Aside0.mk (occL_mem (rd_in hi))
      clear yC yl
      replace y0 := (H1.out.cell (World.block_lt_of_cell? w _ y0)).trans y0
      replace y1 := (H1.out.cell (World.block_lt_of_cell? w _ y1)).trans y1
      replace y2 := (H1.out.cell (World.block_lt_of_cell? w _ y2)).trans y2
      replace y3 := (H1.out.cell (World.block_lt_of_cell? w _ y3)).trans y3
      generalize rd_T31 l0 (i : Int) = y at *
      have q1b : decide ((i : Int) < (l0.length : Int)) = true := decide_eq_true q1
      replace p1 := eq_true p1
      replace q1 := eq_true q1
      go_wp2_with fail
      refine (NoteAt.use HIx.out A3 c3 w.heap.size (occL (l0.take i)) w _ HCx.out HCl.out (below_alloc H1.out _) (Nat.le_refl _) (H2.out.below (below_alloc (Below.refl _ _) _)) (by have := HR.out; have := HF.out.1; omega) (fun s h => HF.out.2 s (HM.out s h))).mono ?_
      rintro e w5 ⟨rfl, h1, h2, h3⟩
      have n2 := Aside0.mk (show MapAt w5 w.heap.size (occL (l0.take (i + 1))) by rw [HT.out]; exact h1)
      clear h1 h3
      go_wp2
      go_roundg g3
      case measure => omega
      case rel => exact ⟨i + 1, by go_num, ⟨by have := HQ.out; omega⟩, ⟨by omega⟩, ⟨h2⟩, n2⟩
    · have q1b : decide ((i : Int) < (l0.length : Int)) = false := decide_eq_false (by omega)
      rw [List.take_of_length_le (by omega)] at H2
      have HZ := Aside0.mk (size_le H2.out)
      have HP := Aside0.mk (keys_perm H2.out)
      go_wp2_with fail
      refine (callsIn_wide.1 (Try.maps_Keys_108 (some w.heap.size) _)).mono ?_
      rintro e w5 ⟨rfl, rfl⟩
      go_wp2_with fail
      refine (callsIn_wide.1 (Try.slices_Sorted_keys_107_108 w.heap.size _ _ _ wr H2.out (by have := HZ.out; have := HF.out.1; simp only [maxLen]; omega) (by have := HZ.out; have := HF.out.1; omega))).mono ?_
      rintro e w6 ⟨v, ss, rfl, hp, hown, _, hb⟩
      have e1 : ss.mergeSort leQ = namesB (occL l0) := mergeSort_of_perm (hp.trans HP.out.symm)
      have HRR := Aside0.mk (show Kd.R Kd.string 9 w6 w.heap.size (fun _ => True) v (namesS (occL l0)) by
        refine Kd.R_of_own (xs := namesS (occL l0)) ?_ (fun _ _ => trivial)
        have e2 : (namesS (occL l0)).length = ss.length := by unfold namesS; rw [List.length_map, ← e1, List.length_mergeSort]
        rw [e2]
        have e3 : encs Value.string (namesS (occL l0)) = (ss.mergeSort (fun x y => decide (x ≤ y))).map encStr := by
          unfold namesS encs
          rw [← e1, List.map_map]
          rfl
        rw [e3]
        refine own_weaken hown ?_
        have := H1.out.size
        simp; omega)
      have HB2 := Aside0.mk (below_step (below_alloc H1.out _) hb)
      clear hp hown hb e1
      go_wp2
      go_ret
      exact ⟨v, rfl, HRR.out, HB2.out⟩
end Go.Proofs.Ythaoooohomfkcaa.A

/- A term's variables, noted in a set: the program's own walk. No condition beyond the reading's own. -/
import Derived.Test.YthaoooohomfkcaaTmNames0
import Derived.Test.YthaoooohomfkcaaTmMay1
import Derived.StringKeys
namespace Go.Proofs.Ythaoooohomfkcaa.A
open Go Go.RowKit Go.Maps Go.Sort Go.WideMaps
open Go.Proofs.YthaoooohomfkcaaW.PrintWords Go.Proofs.YthaoooohomfkcaaW.PrintLast Go.Proofs.YthaoooohomfkcaaW.PrintMore
set_option linter.unusedVariables false
set_option linter.unusedSimpArgs false

def litS (s : ByteArray) : Lit := .string s.data.toList
/-- Block b is a map that holds just these names, each true. -/
def MapAt (w : World) (b : Nat) (acc : List ByteArray) : Prop := w.ownsMap Try.prog 9 (plainElem (H := Unit) Try.prog 4) b acc.length (setOf (.lit (.bool true)) (acc.map litS))
theorem MapAt.made (w : World) : MapAt (w.alloc (.map #[] 0)) w.heap.size [] := World.ownsMap_made _ _ _ _
theorem MapAt.lt {w : World} {b : Nat} {acc : List ByteArray} (h : MapAt w b acc) : b < w.heap.size := World.ownsMap.lt h
theorem MapAt.move {w w' : World} {b : Nat} {acc : List ByteArray} (h : MapAt w b acc) (hb : w'.heap[b]? = w.heap[b]?) : MapAt w' b acc := by
  obtain ⟨es, clock, e1, r⟩ := h
  exact ⟨es, clock, hb.trans e1, r⟩
theorem MapAt.below {w w' : World} {b : Nat} {acc : List ByteArray} (h : MapAt w b acc) (hb : Below w.heap.size w w') : MapAt w' b acc := h.move (hb.block b h.lt)
theorem MapAt.keep {w w' : World} {b g : Nat} {acc : List ByteArray} (h : MapAt w b acc) (hk : KeepBut w w' g none) (hne : b ≠ g) : MapAt w' b acc := h.move (hk.2 b h.lt hne (by simp))
theorem keep_grown {w w' : World} {b : Nat} (h : w.grownBy w' (some b)) : KeepBut w w' b none := ⟨h.size, fun i hi hne _ => h.block i hi (by simpa using hne)⟩
theorem below_grown {w0 w w' : World} {b : Nat} (h : Below w0.heap.size w0 w) (hg : w.grownBy w' (some b)) (hb : w0.heap.size ≤ b) : Below w0.heap.size w0 w' :=
  h.grown hg h.size (fun k hk => by injection hk with hk; omega)
def NotePost (acc : List ByteArray) (b : Nat) (w0 w : World) (e : Ending) (w' : World) : Prop := e = .returned (.tuple #[]) ∧ MapAt w' b acc ∧ Below w0.heap.size w0 w' ∧ KeepBut w w' b none
def NoteAt (x : S31) : Prop := ∀ (A : Option Addr) (c b : Nat) (acc : List ByteArray) (w0 w : World), Kd.C k31 w0 A x.f3.length x.f3 → x.f3.length ≤ c → Below w0.heap.size w0 w → w0.heap.size ≤ b → MapAt w b acc → acc.length + (occ x).length ≤ 1000000 → (∀ s ∈ occ x, s.size ≤ 1000000) →
  Calls Try.prog 106 #[.agg #[.int .i64 x.f0, .string x.f1, .int .i64 x.f2, .slice A x.f3.length c], .map (some b)] w (NotePost (acc ++ occ x) b w0 w)
theorem NoteAt.use {x : S31} (h : NoteAt x) (A : Option Addr) (c b : Nat) (acc : List ByteArray) (w0 w : World) (h1 : Kd.C k31 w0 A x.f3.length x.f3) (h2 : x.f3.length ≤ c) (h3 : Below w0.heap.size w0 w) (h4 : w0.heap.size ≤ b) (h5 : MapAt w b acc) (h6 : acc.length + (occ x).length ≤ 1000000) (h7 : ∀ s ∈ occ x, s.size ≤ 1000000) :
  Calls Try.prog 106 #[.agg #[.int .i64 x.f0, .string x.f1, .int .i64 x.f2, .slice A x.f3.length c], .map (some b)] w (NotePost (acc ++ occ x) b w0 w) := h A c b acc w0 w h1 h2 h3 h4 h5 h6 h7
theorem rd_in {xs : List S31} {i : Nat} (h : i < xs.length) : rd_T31 xs (i : Int) ∈ xs := by
  unfold rd_T31
  rw [List.getD_eq_getElem?_getD, Int.toNat_natCast, List.getElem?_eq_getElem h]
  exact List.getElem_mem h
theorem occL_take {xs : List S31} {i : Nat} (h : i < xs.length) : occL (xs.take (i + 1)) = occL (xs.take i) ++ occ (rd_T31 xs (i : Int)) := by
  have e : xs[i]? = some (rd_T31 xs (i : Int)) := by
    unfold rd_T31
    rw [List.getD_eq_getElem?_getD, Int.toNat_natCast, List.getElem?_eq_getElem h]; rfl
  rw [List.take_add_one, e, occL_app]
  simp [occL]
theorem occL_len {xs : List S31} (i : Nat) : (occL (xs.take i)).length ≤ (occL xs).length := by
  conv => rhs; rw [← List.take_append_drop i xs, occL_app]
  simp
theorem occL_mem {xs : List S31} {x : S31} (h : x ∈ xs) : ∀ s ∈ occ x, s ∈ occL xs := by
  induction xs with
  | nil => simp at h
  | cons y ys ih =>
    intro s hs
    rw [occL, List.mem_append]
    rcases List.mem_cons.1 h with rfl | h
    · exact Or.inl hs
    · exact Or.inr (ih h s hs)
theorem occL_room {xs : List S31} {i : Nat} (h : i < xs.length) : (occL (xs.take i)).length + (occ (rd_T31 xs (i : Int))).length ≤ (occL xs).length := by
  have := occL_len (xs := xs) (i + 1)
  rw [occL_take h, List.length_append] at this
  exact this

set_option maxHeartbeats 2000000 in
set_option maxRecDepth 100000 in
theorem note_all : ∀ x : S31, NoteAt x := by
  intro x
  induction x using S31.ind with
  | h x IH =>
  intro A c b acc w0 w hC hc hB hb hM hn hs
  have hu := Try.underlying31
  have HI := Aside0.mk IH
  have HC := Aside0.mk hC
  have HN := Aside0.mk hC.2.1
  have HC2 := Aside0.mk hc
  have H1 := Aside0.mk hB
  have H2 := Aside0.mk hM
  have HK := Aside0.mk (KeepBut.refl w b none)
  have HL := Aside0.mk hn
  have HS := Aside0.mk hs
  have HO := Aside0.mk (occ_eq x)
  clear IH hC hc hB hM hn hs
  by_cases k1 : x.f0 = 1
  all_goals
    obtain ⟨q, hq⟩ : ∃ q, q = decide (x.f0 = 1) := ⟨_, rfl⟩
    obtain ⟨acc2, ha2⟩ : ∃ a, a = acc ++ (if x.f0 = 1 then [x.f1] else []) := ⟨_, rfl⟩
    have HA := Aside0.mk (show acc ++ occ x = acc2 ++ occL x.f3 by rw [HO.out, ha2, List.append_assoc])
    have HA2 := Aside0.mk ha2
    clear ha2
    have t1 : (x.f0 == 1) = q := by rw [hq]; rfl
    first | rw [decide_eq_true k1] at hq | rw [decide_eq_false k1] at hq
    first | rw [if_pos k1] at HA2 | rw [if_neg k1] at HA2
    subst hq
    have HL2 := Aside0.mk (show acc2.length + (occL x.f3).length ≤ 1000000 by have := congrArg List.length HA.out; simp only [List.length_append] at this; have := HL.out; omega)
    have HS2 := Aside0.mk (show ∀ s ∈ occL x.f3, s.size ≤ 1000000 from fun s h => HS.out s (by rw [HO.out]; exact List.mem_append_right _ h))
    have HX := Aside0.mk (show x.f0 = 1 → x.f1.size ≤ 1000000 from fun e => HS.out _ (by rw [HO.out, if_pos e]; simp))
    have HLT := Aside0.mk (show acc.length < maxLen by have h1 := HL.out; simp only [maxLen]; omega)
    have KX := Aside0.mk k1
    clear k1 HL HS HO
    rw [HA.out]
    clear HA
    go_enter Try.func106, Try.ntmps106
    go_wp2_with (first | ((with_reducible refine gate_dst (N := 2) rfl ?_); refine box_event ?hg (N := 2) ?hd (cs := #[.int .i64 x.f0, .string x.f1, .int .i64 x.f2, .slice A x.f3.length c]) (t := 31) ?hr ?_; (case hd => rfl); (case hg => rfl); (case hr => first | (go_simp; done) | (go_simp; rfl)); intro b2 hb2 w2 hbox hb3; have n1 := Aside0.mk (below_then H1.out H1.out.size hb3); have n2 := Aside0.mk (H2.out.below hb3); have n3 := Aside0.mk (HK.out.trans (keep_of_below (g := b) hb3) (.inl rfl)); have n4 := Aside0.mk (show b2 ≠ b by have := H2.out.lt; omega); have n5 := Aside0.mk hbox; clear H1 H2 HK hb2 hbox hb3; have H1 := n1; have H2 := n2; have HK := n3; have N2 := n4; have B2 := n5; clear n1 n2 n3 n4 n5; have z0 : w2.cell? ⟨b2, 0, none⟩ = some (.int .i64 x.f0) := (blk_cell B2.out 0).trans rfl; have z1 : w2.cell? ⟨b2, 1, none⟩ = some (.string x.f1) := (blk_cell B2.out 1).trans rfl; have z2 : w2.cell? ⟨b2, 2, none⟩ = some (.int .i64 x.f2) := (blk_cell B2.out 2).trans rfl; have z3 : w2.cell? ⟨b2, 3, none⟩ = some (.slice A x.f3.length c) := (blk_cell B2.out 3).trans rfl) | (at_mapUpdate; refine wpList_mapUpdate_own _ (by rfl) (.tmp 9) (.tmp 11) (.const (.bool true)) 130 (by rfl) 9 4 (string_keyed Try.underlying9) Try.underlying130 (plainElem (H := Unit) Try.prog 4) b acc.length _ (by rfl) H2.out HLT.out (.string x.f1) (.bool true) _ (by rfl) (by rfl) (keyOf_string_mk Try.underlying9 (by have := HX.out KX.out; simp only [maxLen]; omega)) _ [] (plainElem_bool Try.underlying4 true) ?_; intro w3 hown3 hg3; have n1 := Aside0.mk (below_grown H1.out hg3 hb); have n2 := Aside0.mk (show MapAt w3 b acc2 by rw [HA2.out]; unfold MapAt; rw [List.map_append, List.length_append, List.map_singleton, setOf_snoc]; exact hown3); have n3 := Aside0.mk (HK.out.trans (keep_grown hg3) (.inl rfl)); have n4 : w3.cell? ⟨b2, 3, none⟩ = some (.slice A x.f3.length c) := (blk_cell ((hg3.block b2 (blk_lt B2.out) (by have := N2.out; simpa using this)).trans B2.out) 3).trans rfl; clear H1 H2 HK hown3 hg3 z0 z1 z2 z3; have H1 := n1; have H2 := n2; have HK := n3; clear n1 n2 n3))
  · go_loopg [15] (x.f3.length + 1) (fun kq v15 w' => ∃ i : Nat, v15 = .int .i64 (i : Int) ∧ Aside0 (kq + i = x.f3.length + 1) ∧ Aside0 (i ≤ x.f3.length) ∧ Aside0 (Below w0.heap.size w0 w') ∧ Aside0 (MapAt w' b (acc2 ++ occL (x.f3.take i))) ∧ Aside0 (KeepBut w w' b none))
    case atStart => exact ⟨0, rfl, ⟨rfl⟩, ⟨Nat.zero_le _⟩, H1, by rw [List.take_zero]; simpa [occL] using H2, HK⟩
    case round =>
      clear H1 H2 HK
      obtain ⟨i, rfl, HQ, HI2, H1, H2, HK⟩ := hrel
      obtain ⟨g3, rfl⟩ : ∃ g, gk = g + 1 := ⟨gk - 1, by have := HQ.out; have := HI2.out; omega⟩
      by_cases hi : i < x.f3.length
      · have p1 : (0 : Int) ≤ (i : Int) := by omega
        have q1 : (i : Int) < (x.f3.length : Int) := by omega
        have bd : (i : Int) ≤ 9223372036854775806 := by have := HN.out; omega
        obtain ⟨ad, A3, c3, ead, y0, y1, y2, y3, yl, yC⟩ := at_T31 HC.out (i : Int) p1 q1
        cases ead
        rw [Int.toNat_natCast] at y0 y1 y2 y3
        have HCx := Aside0.mk yC
        have HCl := Aside0.mk yl
        have HIx := Aside0.mk (HI.out _ (rd_in hi))
        have HT := Aside0.mk (occL_take hi)
        have HR := Aside0.mk (occL_room hi)
        have HM := Aside0.mk (occL_mem (rd_in hi))
        clear yC yl
        replace y0 := (H1.out.cell (World.block_lt_of_cell? w0 _ y0)).trans y0
        replace y1 := (H1.out.cell (World.block_lt_of_cell? w0 _ y1)).trans y1
        replace y2 := (H1.out.cell (World.block_lt_of_cell? w0 _ y2)).trans y2
        replace y3 := (H1.out.cell (World.block_lt_of_cell? w0 _ y3)).trans y3
        generalize rd_T31 x.f3 (i : Int) = y at *
        have q1b : decide ((i : Int) < (x.f3.length : Int)) = true := decide_eq_true q1
        replace p1 := eq_true p1
        replace q1 := eq_true q1
        go_wp2_with fail
        refine (NoteAt.use HIx.out A3 c3 b (acc2 ++ occL (x.f3.take i)) w0 _ HCx.out HCl.out (below_alloc H1.out _) hb (H2.out.below (below_alloc (Below.refl _ _) _)) (by have := HR.out; have := HL2.out; rw [List.length_append]; omega) (fun s h => HS2.out s (HM.out s h))).mono ?_
        rintro e w5 ⟨rfl, h1, h2, h3⟩
        have n2 := Aside0.mk (show MapAt w5 b (acc2 ++ occL (x.f3.take (i + 1))) by rw [HT.out, ← List.append_assoc]; exact h1)
        have n3 := Aside0.mk ((HK.out.trans (keep_of_below (g := b) (below_alloc (Below.refl _ _) _)) (.inl rfl)).trans h3 (.inl rfl))
        clear h1 h3
        go_wp2
        go_roundg g3
        case measure => omega
        case rel => exact ⟨i + 1, by go_num, ⟨by have := HQ.out; omega⟩, ⟨by omega⟩, ⟨h2⟩, n2, n3⟩
      · have q1b : decide ((i : Int) < (x.f3.length : Int)) = false := decide_eq_false (by omega)
        rw [List.take_of_length_le (by omega)] at H2
        go_wp2
        go_end0
        show _ ∧ _ ∧ _ ∧ _
        exact ⟨rfl, H2.out, H1.out, HK.out⟩
  · go_loopg [15] (x.f3.length + 1) (fun kq v15 w' => ∃ i : Nat, v15 = .int .i64 (i : Int) ∧ Aside0 (kq + i = x.f3.length + 1) ∧ Aside0 (i ≤ x.f3.length) ∧ Aside0 (Below w0.heap.size w0 w') ∧ Aside0 (MapAt w' b (acc2 ++ occL (x.f3.take i))) ∧ Aside0 (KeepBut w w' b none))
    case atStart =>
      have e : acc2 = acc := by rw [HA2.out, List.append_nil]
      exact ⟨0, rfl, ⟨rfl⟩, ⟨Nat.zero_le _⟩, H1, by rw [List.take_zero, e]; simpa [occL] using H2, HK⟩
    case round =>
      clear H1 H2 HK
      obtain ⟨i, rfl, HQ, HI2, H1, H2, HK⟩ := hrel
      obtain ⟨g3, rfl⟩ : ∃ g, gk = g + 1 := ⟨gk - 1, by have := HQ.out; have := HI2.out; omega⟩
      by_cases hi : i < x.f3.length
      · have p1 : (0 : Int) ≤ (i : Int) := by omega
        have q1 : (i : Int) < (x.f3.length : Int) := by omega
        have bd : (i : Int) ≤ 9223372036854775806 := by have := HN.out; omega
        obtain ⟨ad, A3, c3, ead, y0, y1, y2, y3, yl, yC⟩ := at_T31 HC.out (i : Int) p1 q1
        cases ead
        rw [Int.toNat_natCast] at y0 y1 y2 y3
        have HCx := Aside0.mk yC
        have HCl := Aside0.mk yl
        have HIx := Aside0.mk (HI.out _ (rd_in hi))
        have HT := Aside0.mk (occL_take hi)
        have HR := Aside0.mk (occL_room hi)
        have HM := Aside0.mk (occL_mem (rd_in hi))
        clear yC yl
        replace y0 := (H1.out.cell (World.block_lt_of_cell? w0 _ y0)).trans y0
        replace y1 := (H1.out.cell (World.block_lt_of_cell? w0 _ y1)).trans y1
        replace y2 := (H1.out.cell (World.block_lt_of_cell? w0 _ y2)).trans y2
        replace y3 := (H1.out.cell (World.block_lt_of_cell? w0 _ y3)).trans y3
        generalize rd_T31 x.f3 (i : Int) = y at *
        have q1b : decide ((i : Int) < (x.f3.length : Int)) = true := decide_eq_true q1
        replace p1 := eq_true p1
        replace q1 := eq_true q1
        go_wp2_with fail
        refine (NoteAt.use HIx.out A3 c3 b (acc2 ++ occL (x.f3.take i)) w0 _ HCx.out HCl.out (below_alloc H1.out _) hb (H2.out.below (below_alloc (Below.refl _ _) _)) (by have := HR.out; have := HL2.out; rw [List.length_append]; omega) (fun s h => HS2.out s (HM.out s h))).mono ?_
        rintro e w5 ⟨rfl, h1, h2, h3⟩
        have n2 := Aside0.mk (show MapAt w5 b (acc2 ++ occL (x.f3.take (i + 1))) by rw [HT.out, ← List.append_assoc]; exact h1)
        have n3 := Aside0.mk ((HK.out.trans (keep_of_below (g := b) (below_alloc (Below.refl _ _) _)) (.inl rfl)).trans h3 (.inl rfl))
        clear h1 h3
        go_wp2
        go_roundg g3
        case measure => omega
        case rel => exact ⟨i + 1, by go_num, ⟨by have := HQ.out; omega⟩, ⟨by omega⟩, ⟨h2⟩, n2, n3⟩
      · have q1b : decide ((i : Int) < (x.f3.length : Int)) = false := decide_eq_false (by omega)
        rw [List.take_of_length_le (by omega)] at H2
        go_wp2
        go_end0
        show _ ∧ _ ∧ _ ∧ _
        exact ⟨rfl, H2.out, H1.out, HK.out⟩
end Go.Proofs.Ythaoooohomfkcaa.A

/- What follows from two sets of relations: the program's own answer, out of its table. No condition. -/
import Derived.Test.YtcfjllbibgadfaaWvTab
namespace Go.Proofs.Ytcfjllbibgadfaa.B
open Go Go.RowKit
open Go.Proofs.YtcfjllbibgadfaaW.PrintWords Go.Proofs.YtcfjllbibgadfaaW.PrintLast Go.Proofs.YtcfjllbibgadfaaW.PrintMore Go.Proofs.Ytcfjllbibgadfaa.EvLib
set_option linter.unusedVariables false
set_option linter.unusedSimpArgs false

/-- Does a set hold a relation? -/
def inS (s r : Int) : Bool := !(Go.bits .and .i64 s (bitF r) == 0)
def ofFrom (s : Int) : Nat → Int → List Int
  | 0, _ => []
  | n + 1, r => (if inS s r = true then [r] else []) ++ ofFrom s n (r + 1)
def ofF (s : Int) : List Int := ofFrom s 13 1
theorem of_l0 (s : Int) (n : Nat) : ∀ (acc : List Int) (r : Int), (14 : Int) - r = n → 1 ≤ r → acc.length + n ≤ 100 → weave_of.l0 (n + 1) s acc r = some (acc ++ ofFrom s n r) := by
  induction n with
  | zero =>
    intro acc r h h1 hl
    simp only [weave_of.l0, ofFrom, List.append_nil]
    rw [if_neg (by omega)]
  | succ n ih =>
    intro acc r h h1 hl
    have e : wrap64 (r + 1) = r + 1 := wrap_succ (by omega) (by omega)
    obtain ⟨b1, _⟩ := bit_ok (r := r) ⟨h1, by omega⟩
    rw [weave_of.l0, if_pos (by omega), b1]
    simp only [Option.bind_some, e]
    by_cases hb : Go.bits .and .i64 s (bitF r) = 0
    · rw [if_pos hb, ih acc (r + 1) (by omega) (by omega) (by omega)]
      simp [ofFrom, inS, hb]
    · rw [if_neg hb, if_pos (by omega), ih (acc ++ [r]) (r + 1) (by omega) (by omega) (by simp; omega)]
      have : (Go.bits .and .i64 s (bitF r) == 0) = false := beq_eq_false_iff_ne.2 hb
      simp [ofFrom, inS, this]
theorem of_ok (s : Int) : weave_of.f 14 s = some (ofF s) := by
  have h := of_l0 s 13 [] 1 (by omega) (by omega) (by simp)
  rw [List.nil_append] at h
  unfold weave_of.f ofF
  rw [show (14 : Nat) = 13 + 1 from rfl]
  exact h
theorem ofFrom_rg (s : Int) : ∀ (n : Nat) (r : Int), 1 ≤ r → r + n ≤ 14 → ∀ x ∈ ofFrom s n r, Rg x := by
  intro n
  induction n with
  | zero => intro r _ _ x hx; simp [ofFrom] at hx
  | succ n ih =>
    intro r h1 h2 x hx
    simp only [ofFrom, List.mem_append] at hx
    rcases hx with hx | hx
    · split at hx
      · rw [List.mem_singleton.1 hx]; exact ⟨h1, by omega⟩
      · simp at hx
    · exact ih (r + 1) (by omega) (by omega) x hx
theorem of_rg (s : Int) : ∀ x ∈ ofF s, Rg x := ofFrom_rg s 13 1 (by omega) (by omega)
theorem ofFrom_len (s : Int) : ∀ (n : Nat) (r : Int), (ofFrom s n r).length ≤ n := by
  intro n
  induction n with
  | zero => intro r; simp [ofFrom]
  | succ n ih => intro r; have := ih (r + 1); simp only [ofFrom, List.length_append]; split <;> simp <;> omega
theorem of_len (s : Int) : (ofF s).length ≤ 13 := ofFrom_len s 13 1

def thenR (m : Int → Int → Int) (n r : Int) (ly : List Int) : Int := ly.foldl (fun n q => Go.bits .or .i64 n (m r q)) n
def thenL (m : Int → Int → Int) (n : Int) (lx ly : List Int) : Int := lx.foldl (fun n r => thenR m n r ly) n
def thenF (m : Int → Int → Int) (x y : Int) : Int := thenL m 0 (ofF x) (ofF y)
theorem get_rd {l : List Int} {i : Nat} (h : i < l.length) : l[i]? = some (rd l (i : Int)) := by
  unfold rd
  rw [List.getD_eq_getElem?_getD, Int.toNat_natCast, List.getElem?_eq_getElem h]
  rfl
theorem rd_mem {l : List Int} {i : Nat} (h : i < l.length) : rd l (i : Int) ∈ l := List.mem_of_getElem? (get_rd h)
theorem take_rd {l : List Int} {i : Nat} (h : i < l.length) : l.take (i + 1) = l.take i ++ [rd l (i : Int)] := by
  rw [List.take_add_one, get_rd h]; rfl
theorem thenR_next (m : Int → Int → Int) (n r : Int) {l : List Int} {i : Nat} (h : i < l.length) : thenR m n r (l.take (i + 1)) = Go.bits .or .i64 (thenR m n r (l.take i)) (m r (rd l (i : Int))) := by
  unfold thenR; rw [take_rd h]; simp only [List.foldl_append, List.foldl_cons, List.foldl_nil]
theorem thenL_next (m : Int → Int → Int) (n : Int) {lx ly : List Int} {i : Nat} (h : i < lx.length) : thenL m n (lx.take (i + 1)) ly = thenR m (thenL m n (lx.take i) ly) (rd lx (i : Int)) ly := by
  unfold thenL; rw [take_rd h]; simp only [List.foldl_append, List.foldl_cons, List.foldl_nil]

set_option maxHeartbeats 8000000 in
set_option maxRecDepth 100000 in
theorem weave_then_calls (b n : Nat) (m : Int → Int → Int) (x y : Int) (lx ly : List Int) (w : World) (hO : OwnT w b n m) (hx : weave_of.f 14 x = some lx) (hy : weave_of.f 14 y = some ly) (gx : ∀ r ∈ lx, Rg r) (gy : ∀ r ∈ ly, Rg r) (lenx : lx.length ≤ 13) (leny : ly.length ≤ 13) :
    Calls Try.prog 43 #[.map (some b), .int .i64 x, .int .i64 y] w fun e w' => e = .returned (.int .i64 (thenL m 0 lx ly)) ∧ Below w.heap.size w w' := by
  have HO := Aside0.mk hO
  have LX := Aside0.mk lenx
  have LY := Aside0.mk leny
  have GX := Aside0.mk gx
  have GY := Aside0.mk gy
  have OX := Aside0.mk hx
  have OY := Aside0.mk hy
  clear hO lenx leny gx gy hx hy
  have HB := Aside0.mk (Below.refl w.heap.size w)
  go_enter Try.func43, Try.ntmps43
  go_wp2_with (go_at_call 48; (with_reducible refine (weave_of.calls 14 x lx _ OX.out).mono ?_); rintro e w1 ⟨v1, rfl, hr, hb⟩; have n1 := Aside0.mk (below_step HB.out hb); have n3 := Aside0.mk (HO.out.below hb); clear HB HO; have HB := n1; have HO := n3; clear n1 n3 hb; obtain ⟨A1, c1, e1, hl1, HR⟩ := Kd.R_reads hr; subst e1; have HX := Aside0.mk HR; clear HR hl1 hr)
  go_loopg [7, 15] 15 (fun kq v7 v15 w' => ∃ i : Nat, v15 = .int .i64 (i : Int) ∧ v7 = .int .i64 (thenL m 0 (lx.take i) ly) ∧ Aside0 (kq + i = 15) ∧ Aside0 (i ≤ lx.length) ∧ Aside0 (OwnT w' b n m) ∧ Aside0 (Kd.C (Kd.int .i64) w' A1 lx.length lx) ∧ Aside0 (Below w.heap.size w w'))
  case atStart => exact ⟨0, rfl, rfl, ⟨rfl⟩, ⟨Nat.zero_le _⟩, HO, HX, HB⟩
  case round =>
    clear HO HX HB
    obtain ⟨i, rfl, rfl, HK3, HI, HO, HX, HB⟩ := hrel
    obtain ⟨g3, rfl⟩ : ∃ g, gk = g + 1 := ⟨gk - 1, by have := HK3.out; have := HI.out; have := LX.out; omega⟩
    by_cases hi : i < lx.length
    · have p1 : (0 : Int) ≤ (i : Int) := by omega
      have q1 : (i : Int) < (lx.length : Int) := by omega
      obtain ⟨ad, ead, hx0⟩ := Kd.at_int HX.out (i : Int) p1 q1
      cases ead
      rw [Int.toNat_natCast] at hx0
      have RX := Aside0.mk (GX.out _ (rd_mem hi))
      have NX := Aside0.mk (thenL_next m 0 (ly := ly) hi)
      generalize rd lx (i : Int) = rx at *
      generalize thenL m 0 (lx.take i) ly = acc at *
      have bd1 : (i : Int) ≤ 100 := by have := LX.out; omega
      replace p1 := eq_true p1
      have q1b : decide ((i : Int) < (lx.length : Int)) = true := decide_eq_true q1
      replace q1 := eq_true q1
      go_wp2_with (go_at_call 48; (with_reducible refine (weave_of.calls 14 y ly _ OY.out).mono ?_); rintro e w2 ⟨v1, rfl, hr, hb⟩; have n1 := Aside0.mk (below_step HB.out hb); have n3 := Aside0.mk (HO.out.below hb); have n4 := Aside0.mk (Kd.C_below HX.out hb); clear HB HO HX; have HB := n1; have HO := n3; have HX := n4; clear n1 n3 n4 hb; obtain ⟨A2, c2, e2, hl2, HR⟩ := Kd.R_reads hr; subst e2; have HY := Aside0.mk HR; clear HR hl2 hr)
      clear hx0 p1 q1 q1b bd1
      go_loopg [7, 22] 15 (fun kq v7 v22 w' => ∃ j : Nat, v22 = .int .i64 (j : Int) ∧ v7 = .int .i64 (thenR m acc rx (ly.take j)) ∧ Aside0 (kq + j = 15) ∧ Aside0 (j ≤ ly.length) ∧ Aside0 (OwnT w' b n m) ∧ Aside0 (Kd.C (Kd.int .i64) w' (some ad) lx.length lx) ∧ Aside0 (Kd.C (Kd.int .i64) w' A2 ly.length ly) ∧ Aside0 (Below w.heap.size w w'))
      case atStart => exact ⟨0, rfl, rfl, ⟨rfl⟩, ⟨Nat.zero_le _⟩, HO, HX, HY, HB⟩
      case round =>
        clear HO HX HY HB
        obtain ⟨j, rfl, rfl, HK4, HJ, HO, HX, HY, HB⟩ := hrel
        obtain ⟨g4, rfl⟩ : ∃ g, gk = g + 1 := ⟨gk - 1, by have := HK4.out; have := HJ.out; have := LY.out; omega⟩
        by_cases hj : j < ly.length
        · have p1 : (0 : Int) ≤ (j : Int) := by omega
          have q1 : (j : Int) < (ly.length : Int) := by omega
          obtain ⟨ad2, ead, hx0⟩ := Kd.at_int HY.out (j : Int) p1 q1
          cases ead
          rw [Int.toNat_natCast] at hx0
          have RY := Aside0.mk (GY.out _ (rd_mem hj))
          have NY := Aside0.mk (thenR_next m acc rx hj)
          generalize rd ly (j : Int) = ry at *
          generalize thenR m acc rx (ly.take j) = acc2 at *
          have bd1 : (j : Int) ≤ 100 := by have := LY.out; omega
          replace p1 := eq_true p1
          have q1b : decide ((j : Int) < (ly.length : Int)) = true := decide_eq_true q1
          replace q1 := eq_true q1
          have hlk : (Instr.lookup 57 (.map (some b)) (.agg #[.int .i64 rx, .int .i64 ry]) false).run Try.prog wr = .ok (.int .i64 (m rx ry)) wr := HO.out.look RX.out RY.out
          go_wp2
          go_roundg g4
          case measure => omega
          case rel => exact ⟨j + 1, by go_num, by rw [NY.out], ⟨by have := HK4.out; omega⟩, ⟨by omega⟩, HO, HX, HY, HB⟩
        · have q1 : decide ((j : Int) < (ly.length : Int)) = false := decide_eq_false (by omega)
          have bd1 : (i : Int) ≤ 100 := by have := LX.out; omega
          go_wp2
          go_roundg g3
          case measure => omega
          case rel =>
            have e15 : j = ly.length := by have := HJ.out; omega
            refine ⟨i + 1, by go_num, ?_, ⟨by have := HK3.out; omega⟩, ⟨by omega⟩, HO, HX, HB⟩
            rw [NX.out, e15, List.take_length]
    · have q1 : decide ((i : Int) < (lx.length : Int)) = false := decide_eq_false (by omega)
      have e15 : thenL m 0 (lx.take i) ly = thenL m 0 lx ly := by rw [List.take_of_length_le (by omega)]
      rw [e15]
      clear e15
      go_wp2
      go_ret
      exact ⟨rfl, HB.out⟩

def isB (s : Int) : Bool := decide (0 ≤ s) && decide (s ≤ 8191)
theorem is_ok (s : Int) : weave_is.f s = some (isB s) := by
  unfold weave_is.f isB
  by_cases h : s ≥ 0
  · rw [if_pos h]; simp [show (0 : Int) ≤ s from h]
  · rw [if_neg h]; simp [show ¬ (0 : Int) ≤ s from h]
def weave_Then.f (a0 a1 : Int) : Option (Int × Int) := if isB a0 = true then (if isB a1 = true then some (thenF tabF a0 a1, 0) else some (0, 1)) else some (0, 1)

set_option maxHeartbeats 8000000 in
set_option maxRecDepth 100000 in
theorem weave_Then.calls (a0 : Int) (a1 : Int) (r1 : Int) (r2 : Int) (w : World) (h : weave_Then.f a0 a1 = some (r1, r2)) :
    Calls Try.prog 22 #[.int .i64 a0, .int .i64 a1] w fun e w' => e = .returned (.tuple #[.int .i64 r1, .int .i64 r2]) ∧ Below w.heap.size w w' := by
  have I0 := Aside0.mk (is_ok a0)
  have I1 := Aside0.mk (is_ok a1)
  have HB := Aside0.mk (Below.refl w.heap.size w)
  unfold weave_Then.f at h
  cases h0 : isB a0 with
  | false =>
    rw [h0] at h I0
    clear h0 I1
    simp only [Bool.false_eq_true, if_false, Option.some.injEq, Prod.mk.injEq] at h
    obtain ⟨rfl, rfl⟩ := h
    go_enter Try.func22, Try.ntmps22
    go_wp2_with (go_at_call 42; (with_reducible refine (weave_is.calls a0 false _ I0.out).mono ?_); rintro e w1 ⟨rfl, ⟨nd, rfl⟩⟩)
    go_ret2
    exact ⟨rfl, by repeat (first | exact HB.out | apply pw_below_drewN | apply below_drew1)⟩
  | true =>
    rw [h0] at h I0
    clear h0
    cases h1 : isB a1 with
    | false =>
      rw [h1] at h I1
      clear h1
      simp only [Bool.false_eq_true, if_false, if_true, Option.some.injEq, Prod.mk.injEq] at h
      obtain ⟨rfl, rfl⟩ := h
      go_enter Try.func22, Try.ntmps22
      go_wp2_with fail
      refine (weave_is.calls a0 true _ I0.out).mono ?_
      rintro e w1 ⟨rfl, ⟨nd, rfl⟩⟩
      go_wp2_with fail
      refine (weave_is.calls a1 false _ I1.out).mono ?_
      rintro e w1 ⟨rfl, ⟨nd, rfl⟩⟩
      go_wp2
      go_ret2
      exact ⟨rfl, by repeat (first | exact HB.out | apply pw_below_drewN | apply below_drew1)⟩
    | true =>
      rw [h1] at h I1
      clear h1
      simp only [if_true, Option.some.injEq, Prod.mk.injEq] at h
      obtain ⟨rfl, rfl⟩ := h
      go_enter Try.func22, Try.ntmps22
      go_wp2_with fail
      refine (weave_is.calls a0 true _ I0.out).mono ?_
      rintro e w1 ⟨rfl, ⟨nd, rfl⟩⟩
      go_wp2_with fail
      refine (weave_is.calls a1 true _ I1.out).mono ?_
      rintro e w1 ⟨rfl, ⟨nd1, rfl⟩⟩
      have HB1 := Aside0.mk (pw_below_drewN HB.out (nd + nd1))
      clear HB
      go_wp2_with fail
      refine (weave_table_calls _).mono ?_
      rintro e w2 ⟨b, n, rfl, _, _, hO, hb⟩
      have HO := Aside0.mk hO
      have HB2 := Aside0.mk (below_step HB1.out hb)
      clear hO hb HB1
      go_wp2_with fail
      refine (weave_then_calls b n tabF a0 a1 (ofF a0) (ofF a1) _ HO.out (of_ok a0) (of_ok a1) (of_rg a0) (of_rg a1) (of_len a0) (of_len a1)).mono ?_
      rintro e w3 ⟨rfl, hb⟩
      have HB3 := Aside0.mk (below_step HB2.out hb)
      clear hb HB2
      go_wp2
      go_ret2
      exact ⟨rfl, HB3.out⟩
end Go.Proofs.Ytcfjllbibgadfaa.B

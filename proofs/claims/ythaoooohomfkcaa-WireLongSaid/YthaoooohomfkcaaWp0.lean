/- A term that may be: its bytes and what they are taken as. No condition but that it may be. -/
import Derived.Test.YthaoooohomfkcaaWy1
import Derived.Test.YthaoooohomfkcaaNm1
namespace Go.Proofs.Ythaoooohomfkcaa.Ab
set_option linter.unusedVariables false
set_option linter.unusedSimpArgs false
theorem may_mk {k : Int} {n : List UInt8} {v : Int} {l : List T} {d : Nat} {left : Int} (h : (mayT (.mk k n v l) d left).1 = true) :
    d ≠ 0 ∧ 1 ≤ left ∧ ((k = 1 ∧ varB n = true ∧ v = 0 ∧ l = []) ∨ (k = 2 ∧ okN v = true ∧ n = [] ∧ l = []) ∨ (k = 3 ∧ nameB n = true ∧ v = 0 ∧ l.length ≤ 4 ∧ (mayTs l (d - 1) (left - 1)).1 = true)) := by
  rw [mayT] at h
  by_cases c : d = 0 ∨ left - 1 < 0
  · rw [if_pos c] at h; cases h
  rw [if_neg c] at h
  refine ⟨by omega, by omega, ?_⟩
  by_cases k1 : k = 1
  · rw [if_pos k1] at h
    simp at h
    exact .inl ⟨k1, h.1, h.2.1, h.2.2⟩
  rw [if_neg k1] at h
  by_cases k2 : k = 2
  · rw [if_pos k2] at h
    simp at h
    exact .inr (.inl ⟨k2, h.1, h.2.1, h.2.2⟩)
  rw [if_neg k2] at h
  by_cases k3 : k = 3
  · rw [if_pos k3] at h
    split at h
    · rename_i hh
      simp at hh
      exact .inr (.inr ⟨k3, hh.1, hh.2.1, hh.2.2, h⟩)
    · cases h
  · rw [if_neg k3] at h; cases h
theorem mays_cons {t : T} {l : List T} {d : Nat} {left : Int} (h : (mayTs (t :: l) d left).1 = true) : (mayT t d left).1 = true ∧ (mayTs l d (mayT t d left).2).1 = true := by
  rw [mayTs] at h
  split at h
  · rename_i hh; exact ⟨hh, h⟩
  · cases h
theorem word_len {f : Int → Bool} {n : List UInt8} (h : wordB f n = true) : n.length ≤ 16 := by
  unfold wordB at h; simp at h; omega
theorem may_good : ∀ t : T, ∀ (d : Nat) (left : Int), (mayT t d left).1 = true → good t = true ∧ (mayT t d left).2 + nodT t ≤ left ∧ 0 ≤ (mayT t d left).2 := by
  refine T.ind ?_
  intro k n v l ih d left h
  have hs : ∀ (m : List T), (∀ x ∈ m, ∀ (d : Nat) (left : Int), (mayT x d left).1 = true → good x = true ∧ (mayT x d left).2 + nodT x ≤ left ∧ 0 ≤ (mayT x d left).2) → ∀ (d : Nat) (left : Int), 0 ≤ left → (mayTs m d left).1 = true → goods m = true ∧ (mayTs m d left).2 + nodTs m ≤ left ∧ 0 ≤ (mayTs m d left).2 := by
    intro m
    induction m with
    | nil => intro _ d left h0 _; simp [goods, mayTs, nodTs, h0]
    | cons t m ihm =>
      intro ih d left h0 h
      obtain ⟨a1, a2⟩ := mays_cons h
      obtain ⟨b1, b2, b3⟩ := ih t (by simp) d left a1
      obtain ⟨c1, c2, c3⟩ := ihm (fun x hx => ih x (by simp [hx])) d _ b3 a2
      rw [goods, mayTs, if_pos a1, nodTs, b1, c1]
      refine ⟨rfl, by omega, c3⟩
  obtain ⟨h1, h2, hk⟩ := may_mk h
  have hc : ¬ (d = 0 ∨ left - 1 < 0) := by omega
  rcases hk with ⟨rfl, a1, rfl, rfl⟩ | ⟨rfl, a1, rfl, rfl⟩ | ⟨rfl, a1, rfl, a3, a4⟩
  · have := word_len a1
    refine ⟨by simp [good, goods, betw, this], ?_⟩
    rw [mayT, if_neg hc, if_pos rfl, nodT, nodTs]; simp only; omega
  · unfold okN at a1
    refine ⟨by simp [good, goods, a1], ?_⟩
    rw [mayT, if_neg hc, if_neg (by omega), if_pos rfl, nodT, nodTs]; simp only; omega
  · have := word_len a1
    obtain ⟨c1, c2, c3⟩ := hs l ih (d - 1) (left - 1) (by omega) a4
    refine ⟨by simp [good, c1, betw, this, a3], ?_⟩
    rw [mayT, if_neg hc, if_neg (by omega), if_neg (by omega), if_pos rfl, if_pos (by simp [a1, a3]), nodT]
    omega
theorem vb_le (x : Nat) (k : Nat) (h : x < 128 ^ k) (hk : 0 < k) : (vb x).length ≤ k := by
  induction k generalizing x with
  | zero => omega
  | succ k ih =>
    by_cases hx : 128 ≤ x
    · rw [vb_ge hx]
      have hk : 0 < k := by
        cases k with
        | zero => simp at h; omega
        | succ k => omega
      have := ih (x / 128) (by rw [Nat.pow_succ] at h; omega) hk
      simp; omega
    · rw [vb_lt (by omega)]; simp
theorem enc_len : ∀ t : T, good t = true → (enc t).length ≤ 19 * nodT t := by
  refine T.ind ?_
  intro k n v l ih hg
  have hs : ∀ (m : List T), (∀ x ∈ m, good x = true → (enc x).length ≤ 19 * nodT x) → (∀ x ∈ m, good x = true) → (encs m).length ≤ 19 * nodTs m := by
    intro m
    induction m with
    | nil => intro _ _; simp [encs, nodTs]
    | cons t m ihm =>
      intro ih hg
      have a := ih t (by simp) (hg t (by simp))
      have b := ihm (fun x hx => ih x (by simp [hx])) (fun x hx => hg x (by simp [hx]))
      rw [encs, nodTs, List.length_append]; omega
  obtain ⟨gk, gn, gl, gv, gs⟩ := good_mk hg
  have hh := hs l ih gs
  rw [enc, nodT]
  split
  · have h5 : (128 : Nat) ^ 5 = 34359738368 := by decide
    have h1 := zz_le (n := v) (by rw [okN_iff]; omega)
    have := vb_le (zz v) 5 (by omega) (by omega)
    simp only [List.length_cons]; omega
  · split <;> simp only [List.length_cons, List.length_append, toI_len, List.length_nil] <;> omega
theorem u8_app (a b : List Int) : u8s (a ++ b) = u8s a ++ u8s b := by simp [u8s]
theorem u8_cons (a : Int) (b : List Int) : u8s (a :: b) = UInt8.ofNat a.toNat :: u8s b := rfl
theorem u8_toI (n : List UInt8) : u8s (toI n) = n := by
  unfold u8s toI
  rw [List.map_map]
  conv => rhs; rw [← List.map_id n]
  exact List.map_congr_left fun c _ => by simp
theorem u8_vb (x : Nat) : u8s (vb x) = vbs x := rfl
theorem ofl {n : Nat} (h : n < 256) : (UInt8.ofNat ((n : Nat) : Int).toNat).toNat = n := by simp; omega
theorem name_enc (n rest : List UInt8) (h : n.length ≤ 16) : nameR (UInt8.ofNat ((n.length : Nat) : Int).toNat :: (n ++ rest), false) = (n, (rest, false)) := by
  unfold nameR
  simp only [oneR]
  rw [ofl (by omega)]
  unfold takeR
  rw [if_neg (by simp; omega)]
  simp
theorem decW_enc : ∀ t : T, ∀ (d : Nat) (left : Int) (rest : List UInt8), (mayT t d left).1 = true → decW d (u8s (enc t) ++ rest, false) = (t, (rest, false)) := by
  refine T.ind ?_
  intro k n v l ih d left rest h
  have hs : ∀ (m : List T), (∀ x ∈ m, ∀ (d : Nat) (left : Int) (rest : List UInt8), (mayT x d left).1 = true → decW d (u8s (enc x) ++ rest, false) = (x, (rest, false))) → ∀ (d : Nat) (left : Int) (rest : List UInt8), (mayTs m d left).1 = true →
      repR (decW d) m.length (u8s (encs m) ++ rest, false) = (m, (rest, false)) := by
    intro m
    induction m with
    | nil => intro _ d left rest _; simp [repR, encs, u8s]
    | cons t m ihm =>
      intro ih d left rest h
      obtain ⟨a1, a2⟩ := mays_cons h
      rw [List.length_cons, repR, if_neg (by simp), encs, u8_app, List.append_assoc, ih t (by simp) d left _ a1]
      simp only
      rw [ihm (fun x hx => ih x (by simp [hx])) d _ rest a2]
  obtain ⟨h1, h2, hk⟩ := may_mk h
  obtain ⟨d, rfl⟩ : ∃ e, d = e + 1 := ⟨d - 1, by omega⟩
  rcases hk with ⟨rfl, a1, rfl, rfl⟩ | ⟨rfl, a1, rfl, rfl⟩ | ⟨rfl, a1, rfl, a3, a4⟩
  · have hl := word_len a1
    rw [enc, if_neg (by omega), if_pos rfl, List.append_nil, u8_cons, u8_cons, u8_toI]
    have e : oneR (UInt8.ofNat (1 : Int).toNat :: UInt8.ofNat ((n.length : Nat) : Int).toNat :: n ++ rest, false) = (1, (UInt8.ofNat ((n.length : Nat) : Int).toNat :: (n ++ rest), false)) := rfl
    rw [decW, e]
    simp only
    rw [if_neg (by omega), if_neg (by omega), if_pos trivial, name_enc n rest hl]
  · rw [enc, if_pos rfl, u8_cons, u8_vb]
    have e : oneR (UInt8.ofNat (2 : Int).toNat :: vbs (zz v) ++ rest, false) = (2, (vbs (zz v) ++ rest, false)) := rfl
    rw [decW, e]
    simp only
    rw [if_neg (by omega), if_pos trivial, numP_vbs a1]
  · have hl := word_len a1
    rw [enc, if_neg (by omega), if_neg (by omega), u8_cons, u8_cons, u8_app, u8_toI, u8_cons]
    have e : oneR (UInt8.ofNat (3 : Int).toNat :: UInt8.ofNat ((n.length : Nat) : Int).toNat :: (n ++ UInt8.ofNat ((l.length : Nat) : Int).toNat :: u8s (encs l)) ++ rest, false) = (3, (UInt8.ofNat ((n.length : Nat) : Int).toNat :: (n ++ (UInt8.ofNat ((l.length : Nat) : Int).toNat :: (u8s (encs l) ++ rest))), false)) := by simp [oneR]
    rw [decW, e]
    simp only
    rw [if_neg (by omega), if_neg (by omega), if_neg (by omega), name_enc n _ hl]
    simp only [oneR]
    rw [ofl (by omega)]
    simp only [Nat.add_sub_cancel] at a4
    rw [hs l ih d _ rest a4]
end Go.Proofs.Ythaoooohomfkcaa.Ab

/- What is taken as a term was written so. No condition. -/
import Derived.Test.YthaoooohomfkcaaWp0
namespace Go.Proofs.Ythaoooohomfkcaa.Ab
set_option linter.unusedVariables false
set_option linter.unusedSimpArgs false
theorem zz_numV (x : Nat) : zz (numV x) = x := by unfold zz numV; split <;> split <;> omega
theorem of_toNat (c : UInt8) : UInt8.ofNat c.toNat = c := by simp
theorem oneR_ok {r : Rd} (h : (oneR r).2.2 = false) : ∃ c s, r = (c :: s, false) ∧ oneR r = (c.toNat, (s, false)) := by
  obtain ⟨s, b⟩ := r
  cases b with
  | true => simp [oneR] at h
  | false => cases s with
    | nil => simp [oneR] at h
    | cons c s => exact ⟨c, s, rfl, rfl⟩
theorem digs_inv : ∀ (k i x : Nat) (r : Rd) (X : Nat) (rest : List UInt8), digs k i x r = (X, true, (rest, false)) → ∃ m, X = x + m * 128 ^ i ∧ r = (vbs m ++ rest, false) ∧ (0 < i → m ≠ 0)
  | 0, i, x, r, X, rest, h => by simp [digs] at h
  | k + 1, i, x, r, X, rest, h => by
    rw [digs] at h
    by_cases hb : (oneR r).2.2 = true
    · obtain ⟨s, b⟩ := r
      have ho : (oneR (s, b)).1 = 0 := by
        cases b with
        | true => rfl
        | false => cases s with
          | nil => rfl
          | cons c s => simp [oneR] at hb
      rw [if_pos (by omega), hb] at h
      simp at h
    · obtain ⟨c, s, rfl, ho⟩ := oneR_ok (by simpa using hb)
      rw [ho] at h
      simp only at h
      by_cases hc : c.toNat < 128
      · rw [if_pos hc] at h
        simp only [Prod.mk.injEq, true_and, Bool.false_or] at h
        obtain ⟨h1, h2, h3⟩ := h
        refine ⟨c.toNat, by rw [← h1, Nat.mod_eq_of_lt hc], ?_, fun hi hz => by simp [hi, hz] at h3⟩
        rw [vbs_lt hc, of_toNat, h2]; rfl
      · rw [if_neg hc] at h
        obtain ⟨m, h1, h2, h3⟩ := digs_inv k (i + 1) _ _ X rest h
        have hm := h3 (by omega)
        have hcl := c.toNat_lt
        simp only [Prod.mk.injEq, and_true] at h2
        refine ⟨c.toNat % 128 + 128 * m, ?_, ?_, fun _ => by omega⟩
        · rw [h1, Nat.pow_succ, Nat.add_mul, Nat.add_assoc]; congr 2; ac_rfl
        · rw [vbs_ge (by omega), h2, show (c.toNat % 128 + 128 * m) / 128 = m by omega, show (c.toNat % 128 + 128 * m) % 128 + 128 = c.toNat by omega, of_toNat]; rfl
theorem numP_inv {r : Rd} {n : Int} {rest : List UInt8} (h : numP r = (n, (rest, false))) : okN n = true ∧ r = (vbs (zz n) ++ rest, false) := by
  unfold numP at h
  split at h
  · rename_i x q hd
    simp only [Prod.mk.injEq, Bool.or_eq_false_iff, Bool.not_eq_false'] at h
    obtain ⟨h1, h2, h3, h4⟩ := h
    have hq : q = (rest, false) := by rw [← h2, ← h3]
    rw [hq] at hd
    obtain ⟨m, e1, e2, _⟩ := digs_inv 5 0 0 r x rest hd
    have : x = m := by rw [e1]; simp
    rw [← h1, zz_numV, this]
    exact ⟨by rw [← this]; exact h4, e2⟩
  · simp at h
theorem numQ_eq {r : Rd} (h : (numQ r).2.2 = false) : numQ r = numP r := by
  unfold numQ numP at *
  split at h
  · rfl
  · simp at h
theorem numP_eq {r : Rd} (h : (numP r).2.2 = false) : numQ r = numP r := by
  unfold numQ numP at *
  split at h
  · rfl
  · simp at h
theorem takeR_ok {r : Rd} {n : Int} (h : (takeR r n).2.2 = false) : ∃ s, r = (s, false) ∧ 0 ≤ n ∧ n ≤ s.length ∧ takeR r n = (s.take n.toNat, (s.drop n.toNat, false)) := by
  obtain ⟨s, b⟩ := r
  unfold takeR at h ⊢
  by_cases c : (s, b).2 = true ∨ n < 0 ∨ ((s, b).1.length : Int) < n
  · rw [if_pos c] at h; cases h
  · rw [if_neg c]
    have hb : b = false := by cases b <;> simp at c ⊢
    subst hb
    simp at c
    exact ⟨s, rfl, by omega, by omega, rfl⟩
theorem nameR_inv {r : Rd} (h : (nameR r).2.2 = false) : r = (UInt8.ofNat (nameR r).1.length :: ((nameR r).1 ++ (nameR r).2.1), false) ∧ (nameR r).1.length < 256 := by
  unfold nameR at h ⊢
  obtain ⟨s, h1, h2, h3, h4⟩ := takeR_ok h
  obtain ⟨c, s', rfl, ho⟩ := oneR_ok (by rw [h1])
  rw [ho] at h1 h2 h3 h4 ⊢
  simp only [Prod.mk.injEq, and_true] at h1
  subst h1
  rw [h4]
  have hc := c.toNat_lt
  have hlen : (s'.take (c.toNat : Int).toNat).length = c.toNat := by rw [List.length_take]; simp only at h3; omega
  simp only
  rw [hlen, of_toNat, List.take_append_drop]
  exact ⟨rfl, hc⟩
theorem repR_bad (f : Rd → T × Rd) : ∀ (m : Nat) (r : Rd), r.2 = true → repR f m r = ([], r)
  | 0, r, h => rfl
  | m + 1, r, h => by rw [repR, if_pos h]
theorem enc_1 (n : List UInt8) : u8s (enc (.mk 1 n 0 [])) = 1 :: UInt8.ofNat n.length :: n := by
  rw [enc, if_neg (by omega), if_pos rfl, List.append_nil, u8_cons, u8_cons, u8_toI]; rfl
theorem enc_2 (v : Int) : u8s (enc (.mk 2 [] v [])) = 2 :: vbs (zz v) := by rw [enc, if_pos rfl, u8_cons, u8_vb]; rfl
theorem enc_3 (n : List UInt8) (l : List T) : u8s (enc (.mk 3 n 0 l)) = 3 :: UInt8.ofNat n.length :: (n ++ UInt8.ofNat l.length :: u8s (encs l)) := by
  rw [enc, if_neg (by omega), if_neg (by omega), u8_cons, u8_cons, u8_app, u8_toI, u8_cons]; rfl
/-- what one way of taking a term says of the bytes -/
def Back (f : Rd → T × Rd) : Prop := ∀ r, (f r).2.2 = false → r = (u8s (enc (f r).1) ++ (f r).2.1, false)
theorem repR_inv {f : Rd → T × Rd} (hf : Back f) : ∀ (m : Nat) (r : Rd), (repR f m r).2.2 = false → (repR f m r).1.length = m ∧ r = (u8s (encs (repR f m r).1) ++ (repR f m r).2.1, false)
  | 0, r, h => by simp only [repR] at h ⊢; refine ⟨rfl, ?_⟩; obtain ⟨s, b⟩ := r; simp only at h; subst h; rfl
  | m + 1, r, h => by
    rw [repR] at h ⊢
    by_cases hb : r.2 = true
    · rw [if_pos hb, hb] at h; cases h
    rw [if_neg hb] at h ⊢
    simp only at h ⊢
    by_cases hb2 : (f r).2.2 = true
    · rw [repR_bad f m _ hb2, hb2] at h; cases h
    have h1 := hf r (by simpa using hb2)
    obtain ⟨h2, h3⟩ := repR_inv hf m _ h
    refine ⟨by simp [h2], ?_⟩
    rw [encs, u8_app, List.append_assoc]
    conv => lhs; rw [h1, h3]
theorem decW_inv : ∀ d, Back (decW d) := by
  intro d
  induction d with
  | zero => intro r h; simp [decW] at h
  | succ d ih =>
    intro r h
    rw [decW] at h ⊢
    by_cases c1 : (oneR r).1 < 1 ∨ 3 < (oneR r).1
    · rw [if_pos c1] at h; cases h
    rw [if_neg c1] at h ⊢
    by_cases hb : (oneR r).2.2 = true
    · obtain ⟨s, b⟩ := r
      exfalso; apply c1
      cases b with
      | true => simp [oneR]
      | false => cases s with
        | nil => simp [oneR]
        | cons c s => simp [oneR] at hb
    obtain ⟨c, s, rfl, ho⟩ := oneR_ok (by simpa using hb)
    rw [ho] at h c1 ⊢
    simp only at h c1 ⊢
    by_cases c2 : c.toNat = 2
    · rw [if_pos c2] at h ⊢
      simp only at h
      have hp : numP (s, false) = ((numP (s, false)).1, ((numP (s, false)).2.1, false)) := by
        rcases hq : numP (s, false) with ⟨n, s', b⟩
        rw [hq] at h; simp only at h; rw [h]
      obtain ⟨e1, e2⟩ := numP_inv hp
      simp only [Prod.mk.injEq, and_true] at e2
      rw [enc_2, List.cons_append, ← e2, show c = 2 from by rw [← of_toNat c, c2]; rfl]
    rw [if_neg c2] at h ⊢
    by_cases c3 : c.toNat = 1
    · rw [if_pos c3] at h ⊢
      obtain ⟨e1, _⟩ := nameR_inv h
      simp only [Prod.mk.injEq, and_true] at e1
      rw [enc_1, List.cons_append, List.cons_append, ← e1, show c = 1 from by rw [← of_toNat c, c3]; rfl]
    · rw [if_neg c3] at h ⊢
      simp only at h ⊢
      have c4 : c.toNat = 3 := by omega
      by_cases hb2 : (oneR (nameR (s, false)).2).2.2 = true
      · rw [repR_bad _ _ _ hb2, hb2] at h; cases h
      obtain ⟨m, s2, e3, e4⟩ := oneR_ok (by simpa using hb2)
      rw [e4] at h ⊢
      simp only at h ⊢
      obtain ⟨e5, e6⟩ := repR_inv ih _ _ h
      obtain ⟨e1, _⟩ := nameR_inv (r := (s, false)) (by rw [e3])
      rw [e3] at e1
      simp only [Prod.mk.injEq, and_true] at e1 e6
      rw [enc_3, e5, of_toNat, List.cons_append, List.cons_append, List.append_assoc, List.cons_append, ← e6, ← e1, show c = 3 from by rw [← of_toNat c, c4]; rfl]
end Go.Proofs.Ythaoooohomfkcaa.Ab

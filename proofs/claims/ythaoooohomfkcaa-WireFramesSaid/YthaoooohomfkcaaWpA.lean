/- A term that may be: its bytes and what they are taken as. No condition but that it may be. What is taken as a term was written so. No condition. -/
import Derived.Test.YthaoooohomfkcaaWy1
import Derived.Test.YthaoooohomfkcaaNm1
namespace Go.Proofs.Ythaoooohomfkcaa.Ab
set_option linter.unusedVariables false
set_option linter.unusedSimpArgs false
theorem may_mk {k : Int} {n : List UInt8} {v : Int} {l : List T} {d : Nat} {left : Int} (h : (mayT (.mk k n v l) d left).1 = true) :
    d ≠ 0 ∧ 1 ≤ left ∧ ((k = 1 ∧ varB n = true ∧ v = 0 ∧ l = []) ∨ (k = 2 ∧ okN v = true ∧ n = [] ∧ l = []) ∨ (k = 3 ∧ nameB n = true ∧ v = 0 ∧ l.length ≤ 4 ∧ (mayTs l (d - 1) (left - 1)).1 = true)) := by
  rw [mayT] at h
  by_cases c : d = 0 ∨ left - 1 < 0
  · rw [if_pos c] at h; cases h
  rw [if_neg c] at h
  refine ⟨by omega, by omega, ?_⟩
  by_cases k1 : k = 1
  · rw [if_pos k1] at h
    simp at h
    exact .inl ⟨k1, h.1, h.2.1, h.2.2⟩
  rw [if_neg k1] at h
  by_cases k2 : k = 2
  · rw [if_pos k2] at h
    simp at h
    exact .inr (.inl ⟨k2, h.1, h.2.1, h.2.2⟩)
  rw [if_neg k2] at h
  by_cases k3 : k = 3
  · rw [if_pos k3] at h
    split at h
    · rename_i hh
      simp at hh
      exact .inr (.inr ⟨k3, hh.1, hh.2.1, hh.2.2, h⟩)
    · cases h
  · rw [if_neg k3] at h; cases h
theorem mays_cons {t : T} {l : List T} {d : Nat} {left : Int} (h : (mayTs (t :: l) d left).1 = true) : (mayT t d left).1 = true ∧ (mayTs l d (mayT t d left).2).1 = true := by
  rw [mayTs] at h
  split at h
  · rename_i hh; exact ⟨hh, h⟩
  · cases h
theorem word_len {f : Int → Bool} {n : List UInt8} (h : wordB f n = true) : n.length ≤ 16 := by
  unfold wordB at h; simp at h; omega
theorem may_good : ∀ t : T, ∀ (d : Nat) (left : Int), (mayT t d left).1 = true → good t = true ∧ (mayT t d left).2 + nodT t ≤ left ∧ 0 ≤ (mayT t d left).2 := by
  refine T.ind ?_
  intro k n v l ih d left h
  have hs : ∀ (m : List T), (∀ x ∈ m, ∀ (d : Nat) (left : Int), (mayT x d left).1 = true → good x = true ∧ (mayT x d left).2 + nodT x ≤ left ∧ 0 ≤ (mayT x d left).2) → ∀ (d : Nat) (left : Int), 0 ≤ left → (mayTs m d left).1 = true → goods m = true ∧ (mayTs m d left).2 + nodTs m ≤ left ∧ 0 ≤ (mayTs m d left).2 := by
    intro m
    induction m with
    | nil => intro _ d left h0 _; simp [goods, mayTs, nodTs, h0]
    | cons t m ihm =>
      intro ih d left h0 h
      obtain ⟨a1, a2⟩ := mays_cons h
      obtain ⟨b1, b2, b3⟩ := ih t (by simp) d left a1
      obtain ⟨c1, c2, c3⟩ := ihm (fun x hx => ih x (by simp [hx])) d _ b3 a2
      rw [goods, mayTs, if_pos a1, nodTs, b1, c1]
      refine ⟨rfl, by omega, c3⟩
  obtain ⟨h1, h2, hk⟩ := may_mk h
  have hc : ¬ (d = 0 ∨ left - 1 < 0) := by omega
  rcases hk with ⟨rfl, a1, rfl, rfl⟩ | ⟨rfl, a1, rfl, rfl⟩ | ⟨rfl, a1, rfl, a3, a4⟩
  · have := word_len a1
    refine ⟨by simp [good, goods, betw, this], ?_⟩
    rw [mayT, if_neg hc, if_pos rfl, nodT, nodTs]; simp only; omega
  · unfold okN at a1
    refine ⟨by simp [good, goods, a1], ?_⟩
    rw [mayT, if_neg hc, if_neg (by omega), if_pos rfl, nodT, nodTs]; simp only; omega
  · have := word_len a1
    obtain ⟨c1, c2, c3⟩ := hs l ih (d - 1) (left - 1) (by omega) a4
    refine ⟨by simp [good, c1, betw, this, a3], ?_⟩
    rw [mayT, if_neg hc, if_neg (by omega), if_neg (by omega), if_pos rfl, if_pos (by simp [a1, a3]), nodT]
    omega
theorem vb_le (x : Nat) (k : Nat) (h : x < 128 ^ k) (hk : 0 < k) : (vb x).length ≤ k := by
  induction k generalizing x with
  | zero => omega
  | succ k ih =>
    by_cases hx : 128 ≤ x
    · rw [vb_ge hx]
      have hk : 0 < k := by
        cases k with
        | zero => simp at h; omega
        | succ k => omega
      have := ih (x / 128) (by rw [Nat.pow_succ] at h; omega) hk
      simp; omega
    · rw [vb_lt (by omega)]; simp
theorem enc_len : ∀ t : T, good t = true → (enc t).length ≤ 19 * nodT t := by
  refine T.ind ?_
  intro k n v l ih hg
  have hs : ∀ (m : List T), (∀ x ∈ m, good x = true → (enc x).length ≤ 19 * nodT x) → (∀ x ∈ m, good x = true) → (encs m).length ≤ 19 * nodTs m := by
    intro m
    induction m with
    | nil => intro _ _; simp [encs, nodTs]
    | cons t m ihm =>
      intro ih hg
      have a := ih t (by simp) (hg t (by simp))
      have b := ihm (fun x hx => ih x (by simp [hx])) (fun x hx => hg x (by simp [hx]))
      rw [encs, nodTs, List.length_append]; omega
  obtain ⟨gk, gn, gl, gv, gs⟩ := good_mk hg
  have hh := hs l ih gs
  rw [enc, nodT]
  split
  · have h5 : (128 : Nat) ^ 5 = 34359738368 := by decide
    have h1 := zz_le (n := v) (by rw [okN_iff]; omega)
    have := vb_le (zz v) 5 (by omega) (by omega)
    simp only [List.length_cons]; omega
  · split <;> simp only [List.length_cons, List.length_append, toI_len, List.length_nil] <;> omega
theorem u8_app (a b : List Int) : u8s (a ++ b) = u8s a ++ u8s b := by simp [u8s]
theorem u8_cons (a : Int) (b : List Int) : u8s (a :: b) = UInt8.ofNat a.toNat :: u8s b := rfl
theorem u8_toI (n : List UInt8) : u8s (toI n) = n := by
  unfold u8s toI
  rw [List.map_map]
  conv => rhs; rw [← List.map_id n]
  exact List.map_congr_left fun c _ => by simp
theorem u8_vb (x : Nat) : u8s (vb x) = vbs x := rfl
theorem ofl {n : Nat} (h : n < 256) : (UInt8.ofNat ((n : Nat) : Int).toNat).toNat = n := by simp; omega
theorem name_enc (n rest : List UInt8) (h : n.length ≤ 16) : nameR (UInt8.ofNat ((n.length : Nat) : Int).toNat :: (n ++ rest), false) = (n, (rest, false)) := by
  unfold nameR
  simp only [oneR]
  rw [ofl (by omega)]
  unfold takeR
  rw [if_neg (by simp; omega)]
  simp
theorem decW_enc : ∀ t : T, ∀ (d : Nat) (left : Int) (rest : List UInt8), (mayT t d left).1 = true → decW d (u8s (enc t) ++ rest, false) = (t, (rest, false)) := by
  refine T.ind ?_
  intro k n v l ih d left rest h
  have hs : ∀ (m : List T), (∀ x ∈ m, ∀ (d : Nat) (left : Int) (rest : List UInt8), (mayT x d left).1 = true → decW d (u8s (enc x) ++ rest, false) = (x, (rest, false))) → ∀ (d : Nat) (left : Int) (rest : List UInt8), (mayTs m d left).1 = true →
      repR (decW d) m.length (u8s (encs m) ++ rest, false) = (m, (rest, false)) := by
    intro m
    induction m with
    | nil => intro _ d left rest _; simp [repR, encs, u8s]
    | cons t m ihm =>
      intro ih d left rest h
      obtain ⟨a1, a2⟩ := mays_cons h
      rw [List.length_cons, repR, if_neg (by simp), encs, u8_app, List.append_assoc, ih t (by simp) d left _ a1]
      simp only
      rw [ihm (fun x hx => ih x (by simp [hx])) d _ rest a2]
  obtain ⟨h1, h2, hk⟩ := may_mk h
  obtain ⟨d, rfl⟩ : ∃ e, d = e + 1 := ⟨d - 1, by omega⟩
  rcases hk with ⟨rfl, a1, rfl, rfl⟩ | ⟨rfl, a1, rfl, rfl⟩ | ⟨rfl, a1, rfl, a3, a4⟩
  · have hl := word_len a1
    rw [enc, if_neg (by omega), if_pos rfl, List.append_nil, u8_cons, u8_cons, u8_toI]
    have e : oneR (UInt8.ofNat (1 : Int).toNat :: UInt8.ofNat ((n.length : Nat) : Int).toNat :: n ++ rest, false) = (1, (UInt8.ofNat ((n.length : Nat) : Int).toNat :: (n ++ rest), false)) := rfl
    rw [decW, e]
    simp only
    rw [if_neg (by omega), if_neg (by omega), if_pos trivial, name_enc n rest hl]
  · rw [enc, if_pos rfl, u8_cons, u8_vb]
    have e : oneR (UInt8.ofNat (2 : Int).toNat :: vbs (zz v) ++ rest, false) = (2, (vbs (zz v) ++ rest, false)) := rfl
    rw [decW, e]
    simp only
    rw [if_neg (by omega), if_pos trivial, numP_vbs a1]
  · have hl := word_len a1
    rw [enc, if_neg (by omega), if_neg (by omega), u8_cons, u8_cons, u8_app, u8_toI, u8_cons]
    have e : oneR (UInt8.ofNat (3 : Int).toNat :: UInt8.ofNat ((n.length : Nat) : Int).toNat :: (n ++ UInt8.ofNat ((l.length : Nat) : Int).toNat :: u8s (encs l)) ++ rest, false) = (3, (UInt8.ofNat ((n.length : Nat) : Int).toNat :: (n ++ (UInt8.ofNat ((l.length : Nat) : Int).toNat :: (u8s (encs l) ++ rest))), false)) := by simp [oneR]
    rw [decW, e]
    simp only
    rw [if_neg (by omega), if_neg (by omega), if_neg (by omega), name_enc n _ hl]
    simp only [oneR]
    rw [ofl (by omega)]
    simp only [Nat.add_sub_cancel] at a4
    rw [hs l ih d _ rest a4]
end Go.Proofs.Ythaoooohomfkcaa.Ab

namespace Go.Proofs.Ythaoooohomfkcaa.Ab
set_option linter.unusedVariables false
set_option linter.unusedSimpArgs false
theorem zz_numV (x : Nat) : zz (numV x) = x := by unfold zz numV; split <;> split <;> omega
theorem of_toNat (c : UInt8) : UInt8.ofNat c.toNat = c := by simp
theorem oneR_ok {r : Rd} (h : (oneR r).2.2 = false) : ∃ c s, r = (c :: s, false) ∧ oneR r = (c.toNat, (s, false)) := by
  obtain ⟨s, b⟩ := r
  cases b with
  | true => simp [oneR] at h
  | false => cases s with
    | nil => simp [oneR] at h
    | cons c s => exact ⟨c, s, rfl, rfl⟩
theorem digs_inv : ∀ (k i x : Nat) (r : Rd) (X : Nat) (rest : List UInt8), digs k i x r = (X, true, (rest, false)) → ∃ m, X = x + m * 128 ^ i ∧ r = (vbs m ++ rest, false) ∧ (0 < i → m ≠ 0)
  | 0, i, x, r, X, rest, h => by simp [digs] at h
  | k + 1, i, x, r, X, rest, h => by
    rw [digs] at h
    by_cases hb : (oneR r).2.2 = true
    · obtain ⟨s, b⟩ := r
      have ho : (oneR (s, b)).1 = 0 := by
        cases b with
        | true => rfl
        | false => cases s with
          | nil => rfl
          | cons c s => simp [oneR] at hb
      rw [if_pos (by omega), hb] at h
      simp at h
    · obtain ⟨c, s, rfl, ho⟩ := oneR_ok (by simpa using hb)
      rw [ho] at h
      simp only at h
      by_cases hc : c.toNat < 128
      · rw [if_pos hc] at h
        simp only [Prod.mk.injEq, true_and, Bool.false_or] at h
        obtain ⟨h1, h2, h3⟩ := h
        refine ⟨c.toNat, by rw [← h1, Nat.mod_eq_of_lt hc], ?_, fun hi hz => by simp [hi, hz] at h3⟩
        rw [vbs_lt hc, of_toNat, h2]; rfl
      · rw [if_neg hc] at h
        obtain ⟨m, h1, h2, h3⟩ := digs_inv k (i + 1) _ _ X rest h
        have hm := h3 (by omega)
        have hcl := c.toNat_lt
        simp only [Prod.mk.injEq, and_true] at h2
        refine ⟨c.toNat % 128 + 128 * m, ?_, ?_, fun _ => by omega⟩
        · rw [h1, Nat.pow_succ, Nat.add_mul, Nat.add_assoc]; congr 2; ac_rfl
        · rw [vbs_ge (by omega), h2, show (c.toNat % 128 + 128 * m) / 128 = m by omega, show (c.toNat % 128 + 128 * m) % 128 + 128 = c.toNat by omega, of_toNat]; rfl
theorem numP_inv {r : Rd} {n : Int} {rest : List UInt8} (h : numP r = (n, (rest, false))) : okN n = true ∧ r = (vbs (zz n) ++ rest, false) := by
  unfold numP at h
  split at h
  · rename_i x q hd
    simp only [Prod.mk.injEq, Bool.or_eq_false_iff, Bool.not_eq_false'] at h
    obtain ⟨h1, h2, h3, h4⟩ := h
    have hq : q = (rest, false) := by rw [← h2, ← h3]
    rw [hq] at hd
    obtain ⟨m, e1, e2, _⟩ := digs_inv 5 0 0 r x rest hd
    have : x = m := by rw [e1]; simp
    rw [← h1, zz_numV, this]
    exact ⟨by rw [← this]; exact h4, e2⟩
  · simp at h
theorem numQ_eq {r : Rd} (h : (numQ r).2.2 = false) : numQ r = numP r := by
  unfold numQ numP at *
  split at h
  · rfl
  · simp at h
theorem numP_eq {r : Rd} (h : (numP r).2.2 = false) : numQ r = numP r := by
  unfold numQ numP at *
  split at h
  · rfl
  · simp at h
theorem takeR_ok {r : Rd} {n : Int} (h : (takeR r n).2.2 = false) : ∃ s, r = (s, false) ∧ 0 ≤ n ∧ n ≤ s.length ∧ takeR r n = (s.take n.toNat, (s.drop n.toNat, false)) := by
  obtain ⟨s, b⟩ := r
  unfold takeR at h ⊢
  by_cases c : (s, b).2 = true ∨ n < 0 ∨ ((s, b).1.length : Int) < n
  · rw [if_pos c] at h; cases h
  · rw [if_neg c]
    have hb : b = false := by cases b <;> simp at c ⊢
    subst hb
    simp at c
    exact ⟨s, rfl, by omega, by omega, rfl⟩
theorem nameR_inv {r : Rd} (h : (nameR r).2.2 = false) : r = (UInt8.ofNat (nameR r).1.length :: ((nameR r).1 ++ (nameR r).2.1), false) ∧ (nameR r).1.length < 256 := by
  unfold nameR at h ⊢
  obtain ⟨s, h1, h2, h3, h4⟩ := takeR_ok h
  obtain ⟨c, s', rfl, ho⟩ := oneR_ok (by rw [h1])
  rw [ho] at h1 h2 h3 h4 ⊢
  simp only [Prod.mk.injEq, and_true] at h1
  subst h1
  rw [h4]
  have hc := c.toNat_lt
  have hlen : (s'.take (c.toNat : Int).toNat).length = c.toNat := by rw [List.length_take]; simp only at h3; omega
  simp only
  rw [hlen, of_toNat, List.take_append_drop]
  exact ⟨rfl, hc⟩
theorem repR_bad (f : Rd → T × Rd) : ∀ (m : Nat) (r : Rd), r.2 = true → repR f m r = ([], r)
  | 0, r, h => rfl
  | m + 1, r, h => by rw [repR, if_pos h]
theorem enc_1 (n : List UInt8) : u8s (enc (.mk 1 n 0 [])) = 1 :: UInt8.ofNat n.length :: n := by
  rw [enc, if_neg (by omega), if_pos rfl, List.append_nil, u8_cons, u8_cons, u8_toI]; rfl
theorem enc_2 (v : Int) : u8s (enc (.mk 2 [] v [])) = 2 :: vbs (zz v) := by rw [enc, if_pos rfl, u8_cons, u8_vb]; rfl
theorem enc_3 (n : List UInt8) (l : List T) : u8s (enc (.mk 3 n 0 l)) = 3 :: UInt8.ofNat n.length :: (n ++ UInt8.ofNat l.length :: u8s (encs l)) := by
  rw [enc, if_neg (by omega), if_neg (by omega), u8_cons, u8_cons, u8_app, u8_toI, u8_cons]; rfl
/-- what one way of taking a term says of the bytes -/
def Back (f : Rd → T × Rd) : Prop := ∀ r, (f r).2.2 = false → r = (u8s (enc (f r).1) ++ (f r).2.1, false)
theorem repR_inv {f : Rd → T × Rd} (hf : Back f) : ∀ (m : Nat) (r : Rd), (repR f m r).2.2 = false → (repR f m r).1.length = m ∧ r = (u8s (encs (repR f m r).1) ++ (repR f m r).2.1, false)
  | 0, r, h => by simp only [repR] at h ⊢; refine ⟨rfl, ?_⟩; obtain ⟨s, b⟩ := r; simp only at h; subst h; rfl
  | m + 1, r, h => by
    rw [repR] at h ⊢
    by_cases hb : r.2 = true
    · rw [if_pos hb, hb] at h; cases h
    rw [if_neg hb] at h ⊢
    simp only at h ⊢
    by_cases hb2 : (f r).2.2 = true
    · rw [repR_bad f m _ hb2, hb2] at h; cases h
    have h1 := hf r (by simpa using hb2)
    obtain ⟨h2, h3⟩ := repR_inv hf m _ h
    refine ⟨by simp [h2], ?_⟩
    rw [encs, u8_app, List.append_assoc]
    conv => lhs; rw [h1, h3]
theorem decW_inv : ∀ d, Back (decW d) := by
  intro d
  induction d with
  | zero => intro r h; simp [decW] at h
  | succ d ih =>
    intro r h
    rw [decW] at h ⊢
    by_cases c1 : (oneR r).1 < 1 ∨ 3 < (oneR r).1
    · rw [if_pos c1] at h; cases h
    rw [if_neg c1] at h ⊢
    by_cases hb : (oneR r).2.2 = true
    · obtain ⟨s, b⟩ := r
      exfalso; apply c1
      cases b with
      | true => simp [oneR]
      | false => cases s with
        | nil => simp [oneR]
        | cons c s => simp [oneR] at hb
    obtain ⟨c, s, rfl, ho⟩ := oneR_ok (by simpa using hb)
    rw [ho] at h c1 ⊢
    simp only at h c1 ⊢
    by_cases c2 : c.toNat = 2
    · rw [if_pos c2] at h ⊢
      simp only at h
      have hp : numP (s, false) = ((numP (s, false)).1, ((numP (s, false)).2.1, false)) := by
        rcases hq : numP (s, false) with ⟨n, s', b⟩
        rw [hq] at h; simp only at h; rw [h]
      obtain ⟨e1, e2⟩ := numP_inv hp
      simp only [Prod.mk.injEq, and_true] at e2
      rw [enc_2, List.cons_append, ← e2, show c = 2 from by rw [← of_toNat c, c2]; rfl]
    rw [if_neg c2] at h ⊢
    by_cases c3 : c.toNat = 1
    · rw [if_pos c3] at h ⊢
      obtain ⟨e1, _⟩ := nameR_inv h
      simp only [Prod.mk.injEq, and_true] at e1
      rw [enc_1, List.cons_append, List.cons_append, ← e1, show c = 1 from by rw [← of_toNat c, c3]; rfl]
    · rw [if_neg c3] at h ⊢
      simp only at h ⊢
      have c4 : c.toNat = 3 := by omega
      by_cases hb2 : (oneR (nameR (s, false)).2).2.2 = true
      · rw [repR_bad _ _ _ hb2, hb2] at h; cases h
      obtain ⟨m, s2, e3, e4⟩ := oneR_ok (by simpa using hb2)
      rw [e4] at h ⊢
      simp only at h ⊢
      obtain ⟨e5, e6⟩ := repR_inv ih _ _ h
      obtain ⟨e1, _⟩ := nameR_inv (r := (s, false)) (by rw [e3])
      rw [e3] at e1
      simp only [Prod.mk.injEq, and_true] at e1 e6
      rw [enc_3, e5, of_toNat, List.cons_append, List.cons_append, List.append_assoc, List.cons_append, ← e6, ← e1, show c = 3 from by rw [← of_toNat c, c4]; rfl]
end Go.Proofs.Ythaoooohomfkcaa.Ab

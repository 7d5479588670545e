/- Both ways of taking a term agree on what may be. No condition. -/
import Derived.Test.YthaoooohomfkcaaWpA
import Derived.Test.YthaoooohomfkcaaWy2
namespace Go.Proofs.Ythaoooohomfkcaa.Ab
set_option linter.unusedVariables false
set_option linter.unusedSimpArgs false
theorem nameQ_inv {r : Rd} {s : List UInt8 × Rd} (h : nameQ r = some s) : s.2.2 = false ∧ r = (UInt8.ofNat s.1.length :: (s.1 ++ s.2.1), false) ∧ s.1.length < 256 := by
  unfold nameQ at h
  by_cases c : (oneR r).2.2 = true ∨ (oneR r).2.1.length < (oneR r).1
  · rw [if_pos c] at h; cases h
  rw [if_neg c] at h
  cases h
  have hb : (oneR r).2.2 = false := by cases hq : (oneR r).2.2 <;> simp_all
  obtain ⟨k, s, rfl, ho⟩ := oneR_ok hb
  rw [ho] at c ⊢
  simp only at c ⊢
  have hk := k.toNat_lt
  have hlen : (s.take k.toNat).length = k.toNat := by rw [List.length_take]; simp at c; omega
  rw [hlen, of_toNat, List.take_append_drop]
  exact ⟨trivial, rfl, hk⟩
theorem nameQ_enc (n rest : List UInt8) (h : n.length ≤ 16) : nameQ (UInt8.ofNat ((n.length : Nat) : Int).toNat :: (n ++ rest), false) = some (n, (rest, false)) := by
  have e : oneR (UInt8.ofNat ((n.length : Nat) : Int).toNat :: (n ++ rest), false) = (n.length, (n ++ rest, false)) := by simp only [oneR]; rw [ofl (by omega)]
  unfold nameQ
  rw [e, if_neg (by simp)]
  simp
theorem stepR_inv {f : Rd → T × Rd} {d : Nat} (hf : d ≠ 0 → Back f) : Back (stepR f d) := by
  intro r h
  unfold stepR at h ⊢
  by_cases hb : (oneR r).2.2 = true
  · exfalso
    have ho : (oneR r).1 = 0 := by
      obtain ⟨s, b⟩ := r
      cases b with
      | true => rfl
      | false => cases s with
        | nil => rfl
        | cons c s => simp [oneR] at hb
    rw [if_neg (by omega), if_neg (by omega)] at h
    cases h
  obtain ⟨c, s, rfl, ho⟩ := oneR_ok (by simpa using hb)
  rw [ho] at h ⊢
  simp only at h ⊢
  by_cases c2 : c.toNat = 2
  · rw [if_pos c2] at h ⊢
    simp only at h
    have hp : numP (s, false) = ((numQ (s, false)).1, ((numQ (s, false)).2.1, false)) := by
      rw [← numQ_eq h]
      rcases hq : numQ (s, false) with ⟨n, s', b⟩
      rw [hq] at h; simp only at h; rw [h]
    obtain ⟨e1, e2⟩ := numP_inv hp
    simp only [Prod.mk.injEq, and_true] at e2
    rw [enc_2, List.cons_append, ← e2, show c = 2 from by rw [← of_toNat c, c2]; rfl]
  rw [if_neg c2] at h ⊢
  by_cases c1 : c.toNat = 1 ∨ c.toNat = 3
  · rw [if_pos c1] at h ⊢
    cases hn : nameQ (s, false) with
    | none => rw [hn] at h; cases h
    | some q =>
      rw [hn] at h
      obtain ⟨hq, e1, _⟩ := nameQ_inv hn
      simp only [Prod.mk.injEq, and_true] at e1
      simp only at h ⊢
      by_cases c3 : c.toNat = 1
      · rw [if_pos c3] at h ⊢
        rw [enc_1, List.cons_append, List.cons_append]
        simp only
        rw [← e1, show c = 1 from by rw [← of_toNat c, c3]; rfl]
      · rw [if_neg c3] at h ⊢
        simp only at h ⊢
        by_cases hc : (cntR d q.2).2.2 = true
        · rw [repR_bad _ _ _ hc, hc] at h; cases h
        have hcc : cntR d q.2 = oneR q.2 ∧ d ≠ 0 := by
          unfold cntR at hc ⊢
          by_cases cc : 4 < (oneR q.2).1 ∨ d = 0
          · rw [if_pos cc] at hc; simp at hc
          · rw [if_neg cc]; exact ⟨rfl, fun e => cc (.inr e)⟩
        rw [hcc.1] at h hc ⊢
        obtain ⟨m, s2, e3, e4⟩ := oneR_ok (by simpa using hc)
        rw [e4] at h ⊢
        simp only at h ⊢
        obtain ⟨e5, e6⟩ := repR_inv (hf hcc.2) _ _ h
        rw [e3] at e1
        simp only [Prod.mk.injEq, and_true] at e1 e6
        rw [enc_3, e5, of_toNat, List.cons_append, List.cons_append, List.append_assoc, List.cons_append, ← e6, ← e1, show c = 3 from by rw [← of_toNat c, show c.toNat = 3 by omega]; rfl]
  · rw [if_neg c1] at h; cases h
theorem decR_inv : ∀ d, Back (decR d)
  | 0 => stepR_inv fun e => absurd rfl e
  | d + 1 => stepR_inv fun _ => decR_inv d
theorem decR_enc : ∀ t : T, ∀ (d : Nat) (left : Int) (rest : List UInt8), (mayT t d left).1 = true → decR d (u8s (enc t) ++ rest, false) = (t, (rest, false)) := by
  refine T.ind ?_
  intro k n v l ih d left rest h
  have hs : ∀ (m : List T), (∀ x ∈ m, ∀ (d : Nat) (left : Int) (rest : List UInt8), (mayT x d left).1 = true → decR d (u8s (enc x) ++ rest, false) = (x, (rest, false))) → ∀ (d : Nat) (left : Int) (rest : List UInt8), (mayTs m d left).1 = true →
      repR (decR d) m.length (u8s (encs m) ++ rest, false) = (m, (rest, false)) := by
    intro m
    induction m with
    | nil => intro _ d left rest _; simp [repR, encs, u8s]
    | cons t m ihm =>
      intro ih d left rest h
      obtain ⟨a1, a2⟩ := mays_cons h
      rw [List.length_cons, repR, if_neg (by simp), encs, u8_app, List.append_assoc, ih t (by simp) d left _ a1]
      simp only
      rw [ihm (fun x hx => ih x (by simp [hx])) d _ rest a2]
  obtain ⟨h1, h2, hk⟩ := may_mk h
  obtain ⟨d, rfl⟩ : ∃ e, d = e + 1 := ⟨d - 1, by omega⟩
  rcases hk with ⟨rfl, a1, rfl, rfl⟩ | ⟨rfl, a1, rfl, rfl⟩ | ⟨rfl, a1, rfl, a3, a4⟩
  · have hl := word_len a1
    rw [enc, if_neg (by omega), if_pos rfl, List.append_nil, u8_cons, u8_cons, u8_toI]
    have e : oneR (UInt8.ofNat (1 : Int).toNat :: UInt8.ofNat ((n.length : Nat) : Int).toNat :: n ++ rest, false) = (1, (UInt8.ofNat ((n.length : Nat) : Int).toNat :: (n ++ rest), false)) := rfl
    rw [decR, stepR, e]
    simp only
    rw [if_neg (by omega), if_pos (by simp), nameQ_enc n rest hl]
    simp
  · rw [enc, if_pos rfl, u8_cons, u8_vb]
    have e : oneR (UInt8.ofNat (2 : Int).toNat :: vbs (zz v) ++ rest, false) = (2, (vbs (zz v) ++ rest, false)) := rfl
    have hp := numP_vbs a1 rest
    have hq : numQ (vbs (zz v) ++ rest, false) = (v, (rest, false)) := by rw [numP_eq (by rw [hp]), hp]
    rw [decR, stepR, e]
    simp only
    rw [if_pos trivial, hq]
  · have hl := word_len a1
    rw [enc, if_neg (by omega), if_neg (by omega), u8_cons, u8_cons, u8_app, u8_toI, u8_cons]
    have e : oneR (UInt8.ofNat (3 : Int).toNat :: UInt8.ofNat ((n.length : Nat) : Int).toNat :: (n ++ UInt8.ofNat ((l.length : Nat) : Int).toNat :: u8s (encs l)) ++ rest, false) = (3, (UInt8.ofNat ((n.length : Nat) : Int).toNat :: (n ++ (UInt8.ofNat ((l.length : Nat) : Int).toNat :: (u8s (encs l) ++ rest))), false)) := by simp [oneR]
    rw [decR, stepR, e]
    simp only
    rw [if_neg (by omega), if_pos (by simp), nameQ_enc n _ hl]
    simp only
    rw [if_neg (by omega)]
    have ec : cntR (d + 1) (UInt8.ofNat ((l.length : Nat) : Int).toNat :: (u8s (encs l) ++ rest), false) = (l.length, (u8s (encs l) ++ rest, false)) := by
      have e : oneR (UInt8.ofNat ((l.length : Nat) : Int).toNat :: (u8s (encs l) ++ rest), false) = (l.length, (u8s (encs l) ++ rest, false)) := by simp only [oneR]; rw [ofl (by omega)]
      unfold cntR
      rw [e, if_neg (by simp; omega)]
    rw [ec]
    simp only [Nat.add_sub_cancel] at a4
    simp only
    rw [hs l ih d _ rest a4]
/-- what both take of bytes as a term that may be -/
theorem dec_agree (s : List UInt8) : ((decW 5 (s, false)).2.2 = false ∧ mayB (decW 5 (s, false)).1 = true) → decR 5 (s, false) = decW 5 (s, false) := by
  rintro ⟨h1, h2⟩
  have h3 := decW_inv 5 _ h1
  rcases hd : decW 5 (s, false) with ⟨t, rest, b⟩
  rw [hd] at h1 h2 h3
  simp only at h1 h2 h3
  rw [h3, decR_enc t 5 24 rest h2, h1]
theorem dec_agree' (s : List UInt8) : ((decR 5 (s, false)).2.2 = false ∧ mayB (decR 5 (s, false)).1 = true) → decW 5 (s, false) = decR 5 (s, false) := by
  rintro ⟨h1, h2⟩
  have h3 := decR_inv 5 _ h1
  rcases hd : decR 5 (s, false) with ⟨t, rest, b⟩
  rw [hd] at h1 h2 h3
  simp only at h1 h2 h3
  rw [h3, decW_enc t 5 24 rest h2, h1]
end Go.Proofs.Ythaoooohomfkcaa.Ab

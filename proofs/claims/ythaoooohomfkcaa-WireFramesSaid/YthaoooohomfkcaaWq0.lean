/- What is written as a frame is taken as it, what is taken was written so, cut off it is none. No condition. -/
import Derived.Test.YthaoooohomfkcaaWz1
namespace Go.Proofs.Ythaoooohomfkcaa.Ab
set_option linter.unusedVariables false
set_option linter.unusedSimpArgs false
theorem noneB_zero {t : T} {a b : Int} (h : noneB t a b = true) : t = .mk 0 [] 0 [] ∧ a = 0 ∧ b = 0 := by
  obtain ⟨tk, tn, tv, tl⟩ := t
  simp [noneB] at h
  obtain ⟨rfl, rfl, rfl, rfl, rfl, rfl⟩ := h
  exact ⟨rfl, rfl, rfl⟩
theorem u8_len (l : List Int) : (u8s l).length = l.length := by simp [u8s]
theorem kind_byte {k : Int} (h : k = 1 ∨ k = 2 ∨ k = 3) : ((UInt8.ofNat k.toNat).toNat : Int) = k := by rcases h with rfl | rfl | rfl <;> rfl
theorem decF_enc {t : T} {a b : Int} (hm : mayB t = true) (ha : okN a = true) (hb : okN b = true) (rest : List UInt8) : decF (u8s (enc t) ++ (vbs (zz a) ++ (vbs (zz b) ++ rest)), false) = (t, a, b, (rest, false)) := by
  unfold decF
  rw [decW_enc t 5 24 _ hm]
  simp only
  rw [numP_vbs ha]
  simp only
  rw [numP_vbs hb]
theorem decK_body {k : Int} {t : T} {a b n : Int} (h : okFr k t a b n = true) : decK (u8s (body k t a b n), false) = (k, t, a, b, n, ([], false)) := by
  unfold decK body
  rcases okFr_facts h with ⟨rfl, h1, h2⟩ | ⟨h1, rfl, h2, h3, h4⟩
  · obtain ⟨rfl, rfl, rfl⟩ := noneB_zero h1
    rw [if_pos rfl, u8_cons, u8_vb]
    have e : oneR (UInt8.ofNat (2 : Int).toNat :: vbs (zz n), false) = (2, (vbs (zz n), false)) := rfl
    rw [e]
    simp only
    have hp := numP_vbs h2 []
    rw [List.append_nil] at hp
    rw [if_neg (by omega), if_pos trivial, hp]
  · have hka : okN a = true := by rw [okN_iff]; omega
    have hkb : okN b = true := by rw [okN_iff]; omega
    have hf := decF_enc h3 hka hkb []
    rw [List.append_nil] at hf
    rw [if_neg (show ¬ k = 2 by omega), u8_cons, u8_app, u8_app, u8_vb, u8_vb]
    rcases h1 with rfl | rfl
    · have e : oneR (UInt8.ofNat (1 : Int).toNat :: (u8s (enc t) ++ (vbs (zz a) ++ vbs (zz b))), false) = (1, (u8s (enc t) ++ (vbs (zz a) ++ vbs (zz b)), false)) := rfl
      rw [e]
      simp only
      rw [if_pos (by simp), hf]
      rfl
    · have e : oneR (UInt8.ofNat (3 : Int).toNat :: (u8s (enc t) ++ (vbs (zz a) ++ vbs (zz b))), false) = (3, (u8s (enc t) ++ (vbs (zz a) ++ vbs (zz b)), false)) := rfl
      rw [e]
      simp only
      rw [if_pos (by simp), hf]
      rfl
theorem lenR_frS {k : Int} {t : T} {a b n : Int} (h : okFr k t a b n = true) (rest : List UInt8) : lenR (frS k t a b n ++ rest) = (u8s (body k t a b n), (rest, false)) := by
  obtain ⟨h1, h2⟩ := bodyL_le h
  have hk : okN (bodyL k t a b n) = true := by rw [okN_iff]; omega
  unfold lenR frS
  rw [List.append_assoc, numP_vbs hk]
  simp only
  rw [if_neg (by omega)]
  have hl : (u8s (body k t a b n)).length = (bodyL k t a b n).toNat := by rw [u8_len]; unfold bodyL; simp
  unfold takeR
  rw [if_neg (by simp only [List.length_append, Bool.false_eq_true, false_or]; omega)]
  simp only
  rw [← hl, List.take_left, List.drop_left]
theorem okTk_frS {k : Int} {t : T} {a b n : Int} (h : okFr k t a b n = true) (rest : List UInt8) : okTk (frS k t a b n ++ rest) = true ∧ frTk (frS k t a b n ++ rest) = frF k t a b n ∧ (lenR (frS k t a b n ++ rest)).2.1 = rest := by
  have h1 := lenR_frS h rest
  have h2 := decK_body h
  refine ⟨?_, ?_, by rw [h1]⟩
  · unfold okTk; rw [h1]; simp only; rw [h2]; simp [h]
  · unfold frTk; rw [h1]; simp only; rw [h2]
theorem decF_inv {r : Rd} (h : (decF r).2.2.2.2 = false) : r = (u8s (enc (decF r).1) ++ (vbs (zz (decF r).2.1) ++ (vbs (zz (decF r).2.2.1) ++ (decF r).2.2.2.1)), false) := by
  unfold decF at h ⊢
  simp only at h ⊢
  rcases hw : decW 5 r with ⟨t, r1⟩
  rw [hw] at h
  simp only at h
  rcases hp : numP r1 with ⟨a, r2⟩
  rw [hp] at h
  simp only at h
  rcases hq : numP r2 with ⟨b, rest, bad⟩
  rw [hq] at h
  simp only at h
  subst h
  obtain ⟨_, e2⟩ := numP_inv hq
  subst e2
  obtain ⟨_, e1⟩ := numP_inv hp
  subst e1
  have := decW_inv 5 r (by rw [hw])
  rw [hw] at this
  simp only at this
  simp only [hp, hq]
  exact this
theorem decK_inv {y rest : List UInt8} (h : (decK (y, false)).2.2.2.2.2 = (rest, false)) (ho : okFr (decK (y, false)).1 (decK (y, false)).2.1 (decK (y, false)).2.2.1 (decK (y, false)).2.2.2.1 (decK (y, false)).2.2.2.2.1 = true) :
    y = u8s (body (decK (y, false)).1 (decK (y, false)).2.1 (decK (y, false)).2.2.1 (decK (y, false)).2.2.2.1 (decK (y, false)).2.2.2.2.1) ++ rest := by
  have hF := okFr_facts ho
  unfold decK at h hF ⊢
  by_cases k13 : (oneR (y, false)).1 = 1 ∨ (oneR (y, false)).1 = 3
  · simp only [if_pos k13] at h hF ⊢
    have hb : (oneR (y, false)).2.2 = false := by
      cases y with
      | nil => simp [oneR] at k13
      | cons c s => rfl
    obtain ⟨c, s, e1, e2⟩ := oneR_ok hb
    rw [e2] at h k13 ⊢
    simp only [Prod.mk.injEq, and_true] at e1
    simp only at h k13 ⊢
    have hi := decF_inv (r := (s, false)) (by rw [h])
    rw [h] at hi
    simp only [Prod.mk.injEq, and_true] at hi
    unfold body
    rw [if_neg (by omega), u8_cons, u8_app, u8_app, u8_vb, u8_vb, Int.toNat_natCast, of_toNat, e1]
    simp only [List.cons_append, List.append_assoc]
    rw [← hi]
  · simp only [if_neg k13] at h hF ⊢
    by_cases k2 : (oneR (y, false)).1 = 2
    · simp only [if_pos k2] at h hF ⊢
      have hb : (oneR (y, false)).2.2 = false := by
        cases y with
        | nil => simp [oneR] at k2
        | cons c s => rfl
      obtain ⟨c, s, e1, e2⟩ := oneR_ok hb
      rw [e2] at h k2 ⊢
      simp only [Prod.mk.injEq, and_true] at e1
      simp only at h k2 ⊢
      have hp : numP (s, false) = ((numP (s, false)).1, (rest, false)) := by rw [← h]
      obtain ⟨_, e3⟩ := numP_inv hp
      simp only [Prod.mk.injEq, and_true] at e3
      unfold body
      rw [if_pos rfl, u8_cons, u8_vb, e1, List.cons_append, ← e3, show c = 2 from by rw [← of_toNat c, k2]; rfl]
      rfl
    · simp only [if_neg k2] at h hF ⊢
      rcases hF with ⟨h1, _⟩ | ⟨h1, _⟩ <;> omega
theorem okTk_inv {s : List UInt8} (h : okTk s = true) : ∃ (k : Int) (t : T) (a b n : Int), okFr k t a b n = true ∧ t.ok ∧ frTk s = frF k t a b n ∧ s = frS k t a b n ++ (lenR s).2.1 := by
  unfold okTk at h
  simp only [Bool.and_eq_true, Bool.not_eq_true', beq_iff_eq] at h
  obtain ⟨h1, h2, h3, h4⟩ := h
  have ht : (decK ((lenR s).1, false)).2.1.ok := by
    have z : (T.mk 0 [] 0 []).ok := by rw [ok_mk]; simp
    unfold decK
    split
    · exact decW_ok 5 _
    split
    · exact z
    · exact z
  refine ⟨_, _, _, _, _, h4, ht, rfl, ?_⟩
  have hk : (decK ((lenR s).1, false)).2.2.2.2.2 = ([], false) := Prod.ext h3 h2
  have hi := decK_inv hk h4
  rw [List.append_nil] at hi
  unfold frS bodyL
  generalize body _ _ _ _ _ = B at hi ⊢
  unfold lenR at h1 hi ⊢
  have h6 : ¬ (numP (s, false)).1 > 600 := by
    intro c; rw [if_pos c] at h1
    obtain ⟨_, e, _⟩ := takeR_ok h1
    cases e
  rw [if_neg h6] at h1 hi ⊢
  obtain ⟨q, e1, e2, e3, e4⟩ := takeR_ok h1
  have hp : numP (s, false) = ((numP (s, false)).1, (q, false)) := by rw [← e1]
  obtain ⟨_, e5⟩ := numP_inv hp
  simp only [Prod.mk.injEq, and_true] at e5
  rw [e4] at hi ⊢
  simp only at hi ⊢
  have hl : (B.length : Int) = (numP (s, false)).1 := by
    have := congrArg List.length hi
    rw [u8_len, List.length_take] at this
    omega
  rw [hl, ← hi, List.append_assoc, List.take_append_drop]
  exact e5
theorem okTk_cut {k : Int} {t : T} {a b n : Int} (h : okFr k t a b n = true) {j : Nat} (hj : j < (frS k t a b n).length) : okTk ((frS k t a b n).take j) = false := by
  cases hc : okTk ((frS k t a b n).take j) with
  | false => rfl
  | true =>
    exfalso
    obtain ⟨k', t', a', b', n', ho, _, _, he⟩ := okTk_inv hc
    have h1 := lenR_frS h []
    rw [List.append_nil] at h1
    have h2 := lenR_frS ho ((lenR ((frS k t a b n).take j)).2.1 ++ (frS k t a b n).drop j)
    rw [← List.append_assoc, ← he, List.take_append_drop, h1] at h2
    have h3 := congrArg (fun x => x.2.1.length) h2
    simp only [List.length_nil, List.length_append, List.length_drop] at h3
    omega
theorem eqT_refl : ∀ t : T, eqT t t = true := by
  refine T.ind fun k n v l ih => ?_
  have hs : ∀ m : List T, (∀ x ∈ m, eqT x x = true) → eqTs m m = true := by
    intro m
    induction m with
    | nil => intro _; rw [eqTs]
    | cons x m ihm => intro ih; rw [eqTs, ih x (by simp), ihm (fun y hy => ih y (by simp [hy]))]; rfl
  rw [eqT, hs l ih]; simp
end Go.Proofs.Ythaoooohomfkcaa.Ab

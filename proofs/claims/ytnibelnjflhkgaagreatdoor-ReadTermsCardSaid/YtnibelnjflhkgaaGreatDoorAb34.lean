/- Runs worked out: code and functions. No condition. -/
import Derived.Test.YtnibelnjflhkgaaGreatDoorAb33
namespace Go.Proofs.YtnibelnjflhkgaaGreatDoor.Ab
set_option linter.unusedVariables false
set_option linter.unusedSimpArgs false
open Go.RowKit

/-! Values that are the same. -/
def isU : Value → Bool
  | .tuple ⟨[]⟩ => true
  | _ => false
theorem isU_eq {v : Value} (h : isU v = true) : v = .tuple ⟨[]⟩ := by
  unfold isU at h; split at h
  · rfl
  · cases h
mutual
def eqAV : AV → AV → Bool
  | .junk, .junk => true
  | .bool a, .bool b => a == b
  | .int k a, .int k' b => k == k' && a == b
  | .str a, .str b => a == b
  | .sl fl sz xs, .sl fl' sz' ys => (fl == fl' && Nat.beq sz sz') && eqAL xs ys
  | .agg xs, .agg ys => eqAL xs ys
  | .tup xs, .tup ys => eqAL xs ys
  | .eptr xs, .eptr ys => eqAL xs ys
  | .val u, .val v => isU u && isU v
  | .pnil, .pnil => true
  | .fnil, .fnil => true
  | .mnil, .mnil => true
  | .ptr l o, .ptr l' o' => Nat.beq l l' && Nat.beq o o'
  | .func f xs ys, .func f' xs' ys' => (Nat.beq f f' && eqAL xs xs') && eqAL ys ys'
  | _, _ => false
def eqAL : List AV → List AV → Bool
  | [], [] => true
  | a :: as, b :: bs => eqAV a b && eqAL as bs
  | _, _ => false
end
mutual
theorem eqAV_sound : ∀ {a b : AV}, eqAV a b = true → a = b
  | .junk, b, h => by cases b <;> simp [eqAV] at h ⊢
  | .bool x, b, h => by cases b <;> simp [eqAV] at h ⊢; exact h
  | .int k x, b, h => by cases b <;> simp [eqAV] at h ⊢; exact h
  | .str x, b, h => by cases b <;> simp [eqAV] at h ⊢; exact h
  | .sl fl sz xs, b, h => by
    cases b <;> simp only [eqAV, Bool.false_eq_true, Bool.and_eq_true] at h
    obtain ⟨⟨h1, h2⟩, h3⟩ := h
    rw [eqAL_sound h3, Nat.eq_of_beq_eq_true h2, eq_of_beq h1]
  | .agg xs, b, h => by cases b <;> simp only [eqAV, Bool.false_eq_true] at h; rw [eqAL_sound h]
  | .tup xs, b, h => by cases b <;> simp only [eqAV, Bool.false_eq_true] at h; rw [eqAL_sound h]
  | .eptr xs, b, h => by cases b <;> simp only [eqAV, Bool.false_eq_true] at h; rw [eqAL_sound h]
  | .pnil, b, h => by cases b <;> simp [eqAV] at h ⊢
  | .fnil, b, h => by cases b <;> simp [eqAV] at h ⊢
  | .mnil, b, h => by cases b <;> simp [eqAV] at h ⊢
  | .ptr l o, b, h => by
    cases b <;> simp only [eqAV, Bool.false_eq_true, Bool.and_eq_true] at h
    rw [Nat.eq_of_beq_eq_true h.1, Nat.eq_of_beq_eq_true h.2]
  | .func f xs ys, b, h => by
    cases b <;> simp only [eqAV, Bool.false_eq_true, Bool.and_eq_true] at h
    obtain ⟨⟨h1, h2⟩, h3⟩ := h
    rw [Nat.eq_of_beq_eq_true h1, eqAL_sound h2, eqAL_sound h3]
  | .hs _ _ _ _, b, h => by cases b <;> simp [eqAV] at h
  | .mp _, b, h => by cases b <;> simp [eqAV] at h
  | .val v, b, h => by
    cases b <;> simp only [eqAV, Bool.false_eq_true, Bool.and_eq_true] at h
    rw [isU_eq h.1, isU_eq h.2]
theorem eqAL_sound : ∀ {a b : List AV}, eqAL a b = true → a = b
  | [], b, h => by cases b <;> simp [eqAL] at h ⊢
  | x :: xs, b, h => by
    cases b <;> simp only [eqAL, Bool.false_eq_true, Bool.and_eq_true] at h
    rw [eqAV_sound h.1, eqAL_sound h.2]
end
def eqTm : Tm → Tm → Bool
  | .e, .e => true
  | .leaf a, .leaf b => eqAV a b
  | .node l r, .node l' r' => eqTm l l' && eqTm r r'
  | _, _ => false
theorem eqTm_sound : ∀ {a b : Tm}, eqTm a b = true → a = b
  | .e, b, h => by cases b <;> simp [eqTm] at h ⊢
  | .leaf a, b, h => by cases b <;> simp only [eqTm, Bool.false_eq_true] at h; rw [eqAV_sound h]
  | .node l r, b, h => by
    cases b <;> simp only [eqTm, Bool.false_eq_true, Bool.and_eq_true] at h
    rw [eqTm_sound h.1, eqTm_sound h.2]
def eqHp : List Blk → List Blk → Bool
  | [], [] => true
  | .cells a :: as, .cells b :: bs => eqAL a b && eqHp as bs
  | _, _ => false
theorem eqHp_sound : ∀ {a b : List Blk}, eqHp a b = true → a = b
  | [], b, h => by cases b <;> simp [eqHp] at h ⊢
  | .cells a :: as, b, h => by
    cases b with
    | nil => simp [eqHp] at h
    | cons b bs =>
      cases b <;> simp only [eqHp, Bool.false_eq_true, Bool.and_eq_true] at h
      rw [eqAL_sound h.1, eqHp_sound h.2]
  | .map _ :: as, b, h => by
    cases b with
    | nil => simp [eqHp] at h
    | cons b bs => cases b <;> simp [eqHp] at h

def CT.isNil : CT → Bool | .nil => true | _ => false
def evT (call : CallT) : CT → ESt → Option ESt
  | .done, s => some s
  | .one g ci t, s => match execG call true g ci s with | some s1 => evT call t s1 | none => none
  | .nil, _ => none
  | .alt g ci t rest, s => match execG call true g ci s with
    | some s1 => match evT call t s1 with
      | some s2 => bif rest.isNil then some s2 else (match evT call rest s with
        | some s3 => bif eqTm s2.r s3.r && eqHp s2.h s3.h then some s2 else none
        | none => none)
      | none => none
    | none => none
theorem oneD_of {P : Program} {call : CallT} (hc : CallOK P call) {g : Option (Nat × Bool)} {ci : CI} {s s1 : ESt} (h : execG call true g ci s = some s1) : Goes s s1 ∧ ∀ K : ASt → Prop, K s1.abs → COneD P g ci K s.abs := by
  obtain ⟨k1, k2⟩ := execG_spec hc h
  refine ⟨k1, fun K hK => ?_⟩
  have := k2 K hK
  cases g with
  | none => rw [GK] at this; simp only [Bool.false_eq_true, if_false, if_true] at this; exact this
  | some p =>
    obtain ⟨d, want⟩ := p
    simp only [GK, if_true] at this
    obtain ⟨b, e1, e2, e3⟩ := this
    simp only [COneD, e1]
    exact ⟨e2, e3⟩
theorem evT_spec {P : Program} {call : CallT} (hc : CallOK P call) : ∀ {t : CT} {s s1 : ESt}, evT call t s = some s1 → Goes s s1 ∧ ∀ K : ASt → Prop, K s1.abs → COpsT P K t s.abs
  | .done, s, s1, h => by cases h; exact ⟨.refl _, fun _ h => h⟩
  | .nil, s, s1, h => by cases h
  | .one g ci t, s, s1, h => by
    simp only [evT] at h
    split at h
    · rename_i s2 h2
      obtain ⟨k1, k2⟩ := oneD_of hc h2
      obtain ⟨k3, k4⟩ := evT_spec hc h
      exact ⟨k1.trans k3, fun K hK => k2 _ (k4 K hK)⟩
    · cases h
  | .alt g ci t rest, s, s1, h => by
    simp only [evT] at h
    split at h
    · rename_i s2 h2
      obtain ⟨k1, k2⟩ := oneD_of hc h2
      split at h
      · rename_i s3 h3
        obtain ⟨k3, k4⟩ := evT_spec hc h3
        cases hn : rest.isNil with
        | true =>
          rw [hn] at h
          simp only [cond_true, Option.some.injEq] at h; subst h
          exact ⟨k1.trans k3, fun K hK => ⟨k2 _ (k4 K hK), by cases rest <;> first | trivial | cases hn⟩⟩
        | false =>
          rw [hn] at h
          simp only [cond_false] at h
          split at h
          · rename_i s4 h4
            obtain ⟨_, k6⟩ := evT_spec hc h4
            cases he : (eqTm s3.r s4.r && eqHp s3.h s4.h) with
            | false => rw [he] at h; cases h
            | true =>
              rw [he] at h
              simp only [cond_true, Option.some.injEq] at h; subst h
              simp only [Bool.and_eq_true] at he
              have e : s3.abs = s4.abs := by unfold ESt.abs; rw [eqTm_sound he.1, eqHp_sound he.2]
              exact ⟨k1.trans k3, fun K hK => ⟨k2 _ (k4 K hK), k6 K (e ▸ hK)⟩⟩
          · cases h
      · cases h
    · cases h
def loopN : Nat → (ESt → Option (AX × ESt)) → ESt → Option (AX × ESt)
  | 0, _, _ => none
  | n + 1, f, s => match f s with
    | some (.normal, s') => loopN n f s'
    | x => x
def evCC (call : CallT) (lf : Nat) : CC → ESt → Option (AX × ESt)
  | .skip, s => some (.normal, s)
  | .ops l, s => match evOps call false l s with | some s1 => some (.normal, s1) | none => none
  | .opsD l, s => match evOps call true l s with | some s1 => some (.normal, s1) | none => none
  | .opsT t, s => match evT call t s with | some s1 => some (.normal, s1) | none => none
  | .bad, _ => none
  | .seq a b, s => match evCC call lf a s with
    | some (.normal, s1) => evCC call lf b s1
    | x => x
  | .cond c a b, s => match evC s.abs c with
    | .bool true => evCC call lf a s
    | .bool false => evCC call lf b s
    | _ => none
  | .block id c, s => match evCC call lf c s with
    | some (.exit i, s1) => bif Nat.beq i id then some (.normal, s1) else some (.exit i, s1)
    | x => x
  | .loop c, s => loopN lf (evCC call lf c) s
  | .exit id, s => some (.exit id, s)
  | .ret, s => some (.ret, s)
theorem loopN_spec {P : Program} {c : CC} {f : ESt → Option (AX × ESt)} {Q : AX → ASt → Prop} {x : AX} {s1 : ESt} (hf : ∀ s y s2, f s = some (y, s2) → Goes s s2 ∧ ∀ Q' : AX → ASt → Prop, Q' y s2.abs → CRun P c Q' s.abs) (hQ : Q x s1.abs) :
    ∀ (n : Nat) (s : ESt), loopN n f s = some (x, s1) → Goes s s1 ∧ x ≠ .normal ∧ CRun P (.loop c) Q s.abs := by
  have key : ∀ (n : Nat) (s : ESt), loopN n f s = some (x, s1) → Goes s s1 ∧ x ≠ .normal := by
    intro n
    induction n with
    | zero => intro s h; cases h
    | succ n ih =>
      intro s h
      simp only [loopN] at h
      split at h
      · rename_i s' hs
        obtain ⟨k1, k2⟩ := ih s' h
        exact ⟨(hf _ _ _ hs).1.trans k1, k2⟩
      · rename_i hne
        refine ⟨(hf _ _ _ h).1, fun e => ?_⟩
        subst e; exact hne _ h
  intro n s h
  refine ⟨(key n s h).1, (key n s h).2, ?_⟩
  refine ⟨fun k t => ∃ s', t = s'.abs ∧ loopN k f s' = some (x, s1), ⟨n, s, rfl, h⟩, ?_⟩
  rintro k t ⟨s', rfl, hk⟩
  cases k with
  | zero => cases hk
  | succ k =>
    simp only [loopN] at hk
    split at hk
    · rename_i s2 hs
      exact (hf _ _ _ hs).2 _ ⟨k, Nat.lt_succ_self _, s2, rfl, hk⟩
    · rename_i hne
      refine (hf _ _ _ hk).2 _ ?_
      cases x with
      | normal => exact absurd hk (hne _)
      | ret => exact hQ
      | exit i => exact hQ
theorem evCC_spec {P : Program} {call : CallT} {lf : Nat} (hc : CallOK P call) : ∀ (c : CC) (s : ESt) (x : AX) (s1 : ESt), evCC call lf c s = some (x, s1) → Goes s s1 ∧ ∀ Q : AX → ASt → Prop, Q x s1.abs → CRun P c Q s.abs
  | .skip, s, x, s1, h => by cases h; exact ⟨.refl _, fun _ h => h⟩
  | .ops l, s, x, s1, h => by
    simp only [evCC] at h
    split at h
    · rename_i s2 h2
      cases h
      obtain ⟨k1, k2⟩ := (evOps_spec hc).1 h2
      exact ⟨k1, fun Q hQ => k2 _ hQ⟩
    · cases h
  | .opsD l, s, x, s1, h => by
    simp only [evCC] at h
    split at h
    · rename_i s2 h2
      cases h
      obtain ⟨k1, k2⟩ := (evOps_spec hc).2 h2
      exact ⟨k1, fun Q hQ => k2 _ hQ⟩
    · cases h
  | .opsT l, s, x, s1, h => by
    simp only [evCC] at h
    split at h
    · rename_i s2 h2
      cases h
      obtain ⟨k1, k2⟩ := evT_spec hc h2
      exact ⟨k1, fun Q hQ => k2 _ hQ⟩
    · cases h
  | .bad, s, x, s1, h => by cases h
  | .seq a b, s, x, s1, h => by
    simp only [evCC] at h
    split at h
    · rename_i s2 h2
      obtain ⟨k1, k2⟩ := evCC_spec hc a s _ _ h2
      obtain ⟨k3, k4⟩ := evCC_spec hc b s2 _ _ h
      exact ⟨k1.trans k3, fun Q hQ => k2 _ (k4 Q hQ)⟩
    · rename_i hne
      obtain ⟨k1, k2⟩ := evCC_spec hc a s _ _ h
      refine ⟨k1, fun Q hQ => k2 _ ?_⟩
      cases x with
      | normal => exact absurd h (hne _)
      | ret => exact hQ
      | exit i => exact hQ
  | .cond c a b, s, x, s1, h => by
    simp only [evCC] at h
    split at h
    · rename_i hb
      obtain ⟨k1, k2⟩ := evCC_spec hc a s _ _ h
      exact ⟨k1, fun Q hQ => by simp only [CRun, hb]; exact ⟨fun _ => k2 Q hQ, fun e => by cases e⟩⟩
    · rename_i hb
      obtain ⟨k1, k2⟩ := evCC_spec hc b s _ _ h
      exact ⟨k1, fun Q hQ => by simp only [CRun, hb]; exact ⟨fun e => (by cases e), fun _ => k2 Q hQ⟩⟩
    · cases h
  | .block id c, s, x, s1, h => by
    simp only [evCC] at h
    split at h
    · rename_i i s2 h2
      obtain ⟨k1, k2⟩ := evCC_spec hc c s _ _ h2
      cases hb : Nat.beq i id with
      | true =>
        rw [hb] at h; cases h
        have e := Nat.eq_of_beq_eq_true hb
        exact ⟨k1, fun Q hQ => k2 _ (by simp only [blockK]; rw [if_pos e]; exact hQ)⟩
      | false =>
        rw [hb] at h; cases h
        have e : i ≠ id := fun e => by subst e; simp at hb
        exact ⟨k1, fun Q hQ => k2 _ (by simp only [blockK]; rw [if_neg e]; exact hQ)⟩
    · rename_i hne
      obtain ⟨k1, k2⟩ := evCC_spec hc c s _ _ h
      refine ⟨k1, fun Q hQ => k2 _ ?_⟩
      cases x with
      | normal => exact hQ
      | ret => exact hQ
      | exit i => exact absurd h (hne _ _)
  | .loop c, s, x, s1, h => by
    simp only [evCC] at h
    have hf := fun s y s2 e => evCC_spec (lf := lf) hc c s y s2 e
    exact ⟨(loopN_spec (Q := fun _ _ => True) hf trivial lf s h).1, fun Q hQ => (loopN_spec hf hQ lf s h).2.2⟩
  | .exit id, s, x, s1, h => by cases h; exact ⟨.refl _, fun _ h => h⟩
  | .ret, s, x, s1, h => by cases h; exact ⟨.refl _, fun _ h => h⟩

/-! Functions. -/
abbrev TabT := FuncId → Option (Nat × List RC × CC)
def initK {β : Type} : List AV → Nat → Tm → (Tm → Option β) → Option β
  | [], _, t, k => k t
  | a :: as, i, t, k => bif Nat.blt i 256 then fA a fun a => Tm.setK 8 t i a fun t' => initK as (i + 1) t' k else none
theorem initK_spec {β : Type} : ∀ {as : List AV} {i : Nat} {t : Tm} {k : Tm → Option β} {y : β}, initK as i t k = some y → ∃ t', k t' = some y ∧ ∀ q, frOf t' q = if i ≤ q ∧ q < i + as.length then as.getD (q - i) .junk else frOf t q
  | [], i, t, k, y, h => ⟨t, h, fun q => by rw [if_neg (by simp only [List.length_nil]; omega)]⟩
  | a :: as, i, t, k, y, h => by
    simp only [initK] at h
    cases hb : Nat.blt i 256 with
    | false => rw [hb] at h; cases h
    | true =>
      rw [hb] at h
      simp only [cond_true, fA_eq, Tm.setK_eq] at h
      obtain ⟨t', h1, h2⟩ := initK_spec h
      refine ⟨t', h1, fun q => ?_⟩
      rw [h2, frOf_set _ _ _ (blt_len.1 hb)]
      simp only [List.length_cons]
      by_cases h3 : i + 1 ≤ q ∧ q < i + 1 + as.length
      · rw [if_pos h3, if_pos (by omega)]
        have : q - i = (q - (i + 1)) + 1 := by omega
        rw [this]; simp
      · rw [if_neg h3]
        by_cases h4 : q = i
        · subst h4; rw [if_pos (by omega)]; simp [upd]
        · rw [if_neg (by omega)]; simp [upd, h4]
def blkOK (n : Nat) (h : List Blk) (l : Nat) : Bool := match h.getD l (.cells []) with | .cells cs => labL n cs | .map es => labM n es
def finish (n0 : Nat) (a : AV) (s : ESt) : Option (AV × List Blk × List Nat) :=
  bif labOK n0 a && s.d.all (fun l => !Nat.blt l n0 || blkOK n0 s.h l) then fL (s.h.take n0) fun h' => fL (s.d.filter fun l => Nat.blt l n0) fun d' => some (a, h', d')
  else bif labOK s.h.length a && (List.range s.h.length).all (fun l => blkOK s.h.length s.h l) then some (a, s.h, s.d) else none
theorem finish_spec {h0 : List Blk} {n0 : Nat} {a r : AV} {s : ESt} {h' : List Blk} {d' : List Nat} (hk : Keeps h0 s.h s.d) (hn : n0 = h0.length) (h : finish n0 a s = some (r, h', d')) :
    r = a ∧ labOK (hpOf h').n r = true ∧ Shrink (hpOf h0) s.abs.hp (hpOf h') ∧ Keeps h0 h' d' := by
  subst hn
  unfold finish at h
  have getc : ∀ l, (hpOf s.h).bk l = s.h.getD l (.cells []) := fun _ => rfl
  cases hb : (labOK h0.length a && s.d.all (fun l => !Nat.blt l h0.length || blkOK h0.length s.h l)) with
  | true =>
    rw [hb] at h
    simp only [cond_true, fL_eq, Option.some.injEq, Prod.mk.injEq] at h
    obtain ⟨rfl, rfl, rfl⟩ := h
    simp only [Bool.and_eq_true, List.all_eq_true] at hb
    have hlen : (s.h.take h0.length).length = h0.length := by rw [List.length_take]; have := hk.len; omega
    have hg : ∀ l, l < h0.length → (s.h.take h0.length).getD l (.cells []) = s.h.getD l (.cells []) := fun l hl => by
      simp only [List.getD_eq_getElem?_getD, List.getElem?_take_of_lt hl]
    refine ⟨rfl, by simp only [hpOf, hlen]; exact hb.1, ⟨by simp [hpOf, hlen], by simp only [hpOf, hlen]; exact hk.len, fun l hl => ?_⟩, ⟨by omega, fun l hl hd => ?_⟩⟩
    · simp only [hpOf, hlen] at hl
      refine ⟨hg l hl, ?_⟩
      by_cases hd : l ∈ s.d
      · right
        have := hb.2 l hd
        rw [blt_len.2 hl] at this
        simp only [Bool.not_true, Bool.false_or, blkOK] at this
        simp only [ESt.abs, getc, hpOf, hlen]
        split at this
        · rename_i cs e; rw [e]; exact this
        · rename_i es e; rw [e]; exact this
      · left; exact ⟨hl, hk.same l hl hd⟩
    · rw [hg l hl]
      refine hk.same l hl fun hm => hd (List.mem_filter.2 ⟨hm, blt_len.2 hl⟩)
  | false =>
    rw [hb] at h
    simp only [cond_false] at h
    cases hc : (labOK s.h.length a && (List.range s.h.length).all (fun l => blkOK s.h.length s.h l)) with
    | false => rw [hc] at h; cases h
    | true =>
      rw [hc] at h
      simp only [cond_true, Option.some.injEq, Prod.mk.injEq] at h
      obtain ⟨rfl, rfl, rfl⟩ := h
      simp only [Bool.and_eq_true, List.all_eq_true] at hc
      refine ⟨rfl, hc.1, ⟨hk.len, Nat.le_refl _, fun l hl => ⟨rfl, .inr ?_⟩⟩, hk⟩
      have := hc.2 l (List.mem_range.2 hl)
      simp only [blkOK] at this
      simp only [ESt.abs, getc]
      split at this
      · rename_i cs e; rw [e]; exact this
      · rename_i es e; rw [e]; exact this
def evF (T : TabT) (orc : FuncId → List AV → Option AV) (lf : Nat) : Nat → CallT
  | 0, _, _, _ => none
  | n + 1, f, args, h => match orc f args with
    | some r => some (r, h, [])
    | none => match T f with
      | none => none
      | some (nt, rs, cc) => bif Nat.ble args.length nt then initK args 0 .e fun r0 => match evCC (evF T orc lf n) lf cc ⟨r0, h, []⟩ with
          | none => none
          | some (.exit _, _) => none
          | some (.normal, s) => match resC s.abs rs with | some a => fA a fun a => finish h.length a s | none => none
          | some (.ret, s) => match resC s.abs rs with | some a => fA a fun a => finish h.length a s | none => none
        else none
theorem evF_spec {P : Program} {ow : FuncId → Option Nat} {T : TabT} {orc : FuncId → List AV → Option AV} (hm : P.follows .mixedOrders = true)
    (hT : ∀ f nt rs cc, T f = some (nt, rs, cc) → ∃ fn, P.funcs[f]? = some fn ∧ compF P ow fn = some (nt, rs, cc)) (hO : ∀ f args r, orc f args = some r → PFn P f args r) (lf : Nat) : ∀ n, CallOK P (evF T orc lf n) := by
  intro n
  induction n with
  | zero => intro f args h r h' d' e; cases e
  | succ n ih =>
    intro f args h r h' d' e
    simp only [evF] at e
    split at e
    · rename_i r' ho
      simp only [Option.some.injEq, Prod.mk.injEq] at e
      obtain ⟨rfl, rfl, rfl⟩ := e
      exact ⟨hO _ _ _ ho _, ⟨Nat.le_refl _, fun _ _ _ => rfl⟩⟩
    · split at e
      · cases e
      · rename_i nt rs cc ht
        cases hb : Nat.ble args.length nt with
        | false => rw [hb] at e; cases e
        | true =>
          rw [hb] at e
          simp only [cond_true] at e
          obtain ⟨r0, e, hr0⟩ := initK_spec e
          obtain ⟨fn, hf, hcf⟩ := hT f nt rs cc ht
          have hfr : frOf r0 = argsF args := by
            funext q
            rw [hr0]
            unfold argsF
            have hj : frOf .e q = .junk := by unfold frOf; rw [Tm.get_e]; cases Nat.blt q 256 <;> rfl
            simp only [Nat.zero_le, true_and, Nat.zero_add, Nat.sub_zero]
            split
            · rfl
            · rename_i hq
              rw [hj, List.getD_eq_getElem?_getD, List.getElem?_eq_none (by omega)]; rfl
          have fin : ∀ x s, evCC (evF T orc lf n) lf cc ⟨r0, h, []⟩ = some (x, s) → (x = .normal ∨ x = .ret) → (match resC s.abs rs with | some a => fA a fun a => finish h.length a s | none => none) = some (r, h', d') → Fn P f args (hpOf h) r (hpOf h') ∧ Keeps h h' d' := by
            intro x s hx hxx e
            obtain ⟨k1, k2⟩ := evCC_spec ih cc _ _ _ hx
            split at e
            · rename_i a ha
              rw [fA_eq] at e
              obtain ⟨rfl, q1, q2, q3⟩ := finish_spec (h0 := h) k1.k rfl e
              refine ⟨fnC hm hf hcf (Nat.le_of_ble_eq_true hb) ?_, q3⟩
              have habs : (⟨argsF args, hpOf h⟩ : ASt) = ESt.abs ⟨r0, h, []⟩ := by unfold ESt.abs; rw [hfr]
              rw [habs]
              refine k2 _ ?_
              have : retC rs (hpOf h) r (hpOf h') s.abs := ⟨⟨r, ha, .inl rfl⟩, q1, q2⟩
              rcases hxx with rfl | rfl <;> exact this
            · cases e
          split at e
          · cases e
          · cases e
          · rename_i s hx; exact fin _ s hx (.inl rfl) e
          · rename_i s hx; exact fin _ s hx (.inr rfl) e
/-- A call worked out on nothing labelled. -/
def evR (T : TabT) (orc : FuncId → List AV → Option AV) (lf n : Nat) (f : FuncId) (args : List AV) : Option AV := match evF T orc lf n f args [] with | some (r, [], _) => some r | _ => none
theorem evR_spec {P : Program} {ow : FuncId → Option Nat} {T : TabT} {orc : FuncId → List AV → Option AV} (hm : P.follows .mixedOrders = true)
    (hT : ∀ f nt rs cc, T f = some (nt, rs, cc) → ∃ fn, P.funcs[f]? = some fn ∧ compF P ow fn = some (nt, rs, cc)) (hO : ∀ f args r, orc f args = some r → PFn P f args r) {lf n : Nat} {f : FuncId} {args : List AV} {r : AV}
    (hl : labL 0 args = true) (h : evR T orc lf n f args = some r) : PFn P f args r := by
  unfold evR at h
  split at h
  · rename_i r' d hq
    simp only [Option.some.injEq] at h; subst h
    exact pfn_of_empty hl (evF_spec hm hT hO lf n _ _ _ _ _ _ hq).1
  · cases h
end Go.Proofs.YtnibelnjflhkgaaGreatDoor.Ab

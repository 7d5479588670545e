/- Runs worked out: the evaluator, and that it is right. No condition. -/
import Derived.Test.YtnibelnjflhkgaaGreatDoorAb32
namespace Go.Proofs.YtnibelnjflhkgaaGreatDoor.Ab
set_option linter.unusedVariables false
set_option linter.unusedSimpArgs false
open Go.RowKit

def setsK {β : Type} (f : Nat → AV) : List Nat → Tm → (Tm → Option β) → Option β
  | [], t, k => k t
  | d :: ds, t, k => bif Nat.blt d 256 then fA (f d) fun v => Tm.setK 8 t d v fun t' => setsK f ds t' k else none
theorem setsK_spec {β : Type} {f : Nat → AV} : ∀ {ds : List Nat} {t : Tm} {k : Tm → Option β} {y : β}, setsK f ds t k = some y → ∃ t', k t' = some y ∧ (∀ i, frOf t' i = if i ∈ ds then f i else frOf t i)
  | [], t, k, y, h => ⟨t, h, fun i => by simp⟩
  | d :: ds, t, k, y, h => by
    simp only [setsK] at h
    cases hb : Nat.blt d 256 with
    | false => rw [hb] at h; cases h
    | true =>
      rw [hb] at h
      simp only [cond_true, fA_eq, Tm.setK_eq] at h
      obtain ⟨t', h1, h2⟩ := setsK_spec h
      refine ⟨t', h1, fun i => ?_⟩
      rw [h2, frOf_set _ _ _ (by simpa [Nat.blt_eq] using hb)]
      by_cases h3 : i ∈ ds
      · simp [h3]
      · by_cases h4 : i = d
        · subst h4; simp [h3]
        · simp [h3, h4, upd]
def fBlk {α : Type} (b : Blk) (k : Blk → α) : α := match b with | .cells cs => fLA cs fun cs => k (.cells cs) | b => k b
theorem fBlk_eq {α : Type} (b : Blk) (k : Blk → α) : fBlk b k = k b := by cases b <;> simp [fBlk, fLA_eq]
def heapK {β : Type} (hp' : Hp) (s : ESt) (tl : Option Nat) (k : List Blk → List Nat → Option β) : Option β :=
  bif Nat.blt s.h.length hp'.n then fBlk (hp'.bk s.h.length) fun b => fL (s.h ++ [b]) fun h => k h s.d
  else match tl with
    | none => k s.h s.d
    | some l => fN l fun l => bif Nat.blt l s.h.length then fBlk (hp'.bk l) fun b => fL (s.h.set l b) fun h' => k h' (l :: s.d) else none
/-- What a run leaves of old blocks. -/
structure Keeps (h : List Blk) (h' : List Blk) (d' : List Nat) : Prop where
  len : h.length ≤ h'.length
  same : ∀ l, l < h.length → l ∉ d' → h'.getD l (.cells []) = h.getD l (.cells [])
structure Goes (s s' : ESt) : Prop where
  k : Keeps s.h s'.h s'.d
  d : ∀ l ∈ s.d, l ∈ s'.d
theorem Goes.refl (s : ESt) : Goes s s := ⟨⟨Nat.le_refl _, fun _ _ _ => rfl⟩, fun _ h => h⟩
theorem Goes.trans {s s1 s2 : ESt} (a : Goes s s1) (b : Goes s1 s2) : Goes s s2 :=
  ⟨⟨Nat.le_trans a.k.len b.k.len, fun l h1 h2 => (b.k.same l (Nat.lt_of_lt_of_le h1 a.k.len) h2).trans (a.k.same l h1 (fun h => h2 (b.d l h)))⟩, fun l h => b.d l (a.d l h)⟩
theorem hpOf_push (h : List Blk) (b : Blk) : (hpOf h).push b = hpOf (h ++ [b]) := by
  unfold hpOf Hp.push
  simp only [List.length_append, List.length_cons, List.length_nil, Hp.mk.injEq, Nat.zero_add, true_and]
  funext l
  simp only [updB]
  split
  · rename_i e; subst e; simp
  · rename_i e
    by_cases hl : l < h.length
    · simp [List.getD_eq_getElem?_getD, List.getElem?_append_left hl]
    · have h1 : h.length ≤ l := by omega
      rw [List.getD_eq_getElem?_getD, List.getD_eq_getElem?_getD, List.getElem?_append_right h1, List.getElem?_eq_none h1, List.getElem?_eq_none (by simp; omega)]
theorem hpOf_set (h : List Blk) (l : Nat) (b : Blk) (hl : l < h.length) : (hpOf h).set l b = hpOf (h.set l b) := by
  unfold hpOf Hp.set
  simp only [List.length_set, Hp.mk.injEq, true_and]
  funext i
  simp only [updB, List.getD_eq_getElem?_getD]
  split
  · rename_i e; subst e; simp [hl]
  · rename_i e; rw [List.getElem?_set_ne (Ne.symm e)]
theorem blt_len {a b : Nat} : Nat.blt a b = true ↔ a < b := by simp [Nat.blt_eq]
theorem heapK_spec {β : Type} {hp' : Hp} {s : ESt} {tl : Option Nat} {k : List Blk → List Nat → Option β} {y : β}
    (hh : (hp' = hpOf s.h) ∨ (∃ b, hp' = (hpOf s.h).push b) ∨ (∃ l b, tl = some l ∧ hp' = (hpOf s.h).set l b)) (h : heapK hp' s tl k = some y) :
    ∃ h' d', k h' d' = some y ∧ hp' = hpOf h' ∧ ∀ r, Goes s ⟨r, h', d'⟩ := by
  unfold heapK at h
  have hset : ∀ l b, tl = some l → hp'.n = s.h.length → l < s.h.length → hp' = (hpOf s.h).set l b → (fBlk (hp'.bk l) fun b => fL (s.h.set l b) fun h' => k h' (l :: s.d)) = some y → ∃ h' d', k h' d' = some y ∧ hp' = hpOf h' ∧ ∀ r, Goes s ⟨r, h', d'⟩ := by
    intro l b e1 e2 e3 e4 e5
    rw [fBlk_eq, fL_eq] at e5
    have e6 : hp'.bk l = b := by rw [e4]; simp [Hp.set]
    rw [e6] at e5
    refine ⟨_, _, e5, e4.trans (hpOf_set _ _ _ e3), fun r => ⟨⟨by simp, fun i h1 h2 => ?_⟩, fun i hi => List.mem_cons_of_mem _ hi⟩⟩
    have h3 : l ≠ i := fun e => h2 (by simp [e])
    simp only [List.getD_eq_getElem?_getD, List.getElem?_set_ne h3]
  cases hb : Nat.blt s.h.length hp'.n with
  | true =>
    rw [hb] at h
    simp only [cond_true, fBlk_eq, fL_eq] at h
    have hlt := blt_len.1 hb
    rcases hh with e | ⟨b, e⟩ | ⟨l, b, _, e⟩
    · rw [e] at hlt; simp [hpOf] at hlt
    · have e1 : hp'.bk s.h.length = b := by rw [e]; simp [Hp.push, hpOf]
      rw [e1] at h
      refine ⟨_, _, h, e.trans (hpOf_push _ _), fun r => ⟨⟨by simp, fun i h1 h2 => ?_⟩, fun i hi => hi⟩⟩
      simp only [List.getD_eq_getElem?_getD, List.getElem?_append_left h1]
    · rw [e] at hlt; simp [hpOf, Hp.set] at hlt
  | false =>
    rw [hb] at h
    simp only [cond_false] at h
    have hnl : ¬ s.h.length < hp'.n := fun e => by rw [blt_len.2 e] at hb; cases hb
    rcases hh with e | ⟨b, e⟩ | ⟨l, b, e0, e⟩
    · cases tl with
      | none => exact ⟨_, _, h, e, fun r => ⟨⟨Nat.le_refl _, fun _ _ _ => rfl⟩, fun _ h => h⟩⟩
      | some l =>
        simp only [fN_eq] at h
        cases hc : Nat.blt l s.h.length with
        | false => rw [hc] at h; cases h
        | true =>
          rw [hc] at h
          simp only [cond_true] at h
          have hl := blt_len.1 hc
          refine hset l ((hpOf s.h).bk l) rfl (by rw [e]; rfl) hl ?_ h
          rw [e]
          unfold Hp.set
          have : updB (hpOf s.h).bk l ((hpOf s.h).bk l) = (hpOf s.h).bk := by
            funext j; by_cases hj : j = l
            · subst hj; simp [updB]
            · simp [updB, hj]
          rw [this]
    · exfalso; apply hnl; rw [e]; simp [Hp.push, hpOf]
    · subst e0
      simp only [fN_eq] at h
      cases hc : Nat.blt l s.h.length with
      | false => rw [hc] at h; cases h
      | true =>
        rw [hc] at h
        simp only [cond_true] at h
        exact hset l b rfl (by rw [e]; rfl) (blt_len.1 hc) e h

abbrev CallT := FuncId → List AV → List Blk → Option (AV × List Blk × List Nat)
def stepE (s : ESt) (ci : CI) : Option ESt :=
  match stepC s.abs ci with
  | none => none
  | some s' => setsK s'.fr (touchS ci) s.r fun r => heapK s'.hp s (touchL s.abs ci) fun h d => some ⟨r, h, d⟩
theorem stepE_spec {s s1 : ESt} {ci : CI} (h : stepE s ci = some s1) : stepC s.abs ci = some s1.abs ∧ Goes s s1 := by
  unfold stepE at h
  split at h
  · cases h
  · rename_i s' hs
    obtain ⟨r, h1, h2⟩ := setsK_spec h
    have hh : (s'.hp = hpOf s.h) ∨ (∃ b, s'.hp = (hpOf s.h).push b) ∨ (∃ l b, touchL s.abs ci = some l ∧ s'.hp = (hpOf s.h).set l b) := by
      rcases stepC_heap hs with ⟨e, _⟩ | e | e
      · exact .inl e
      · exact .inr (.inl e)
      · exact .inr (.inr e)
    obtain ⟨h', d', k1, k2, k3⟩ := heapK_spec hh h1
    simp only [Option.some.injEq] at k1
    subst k1
    refine ⟨?_, k3 r⟩
    rw [hs]
    congr 1
    cases s' with
    | mk fr hp =>
      unfold ESt.abs
      simp only at k2 h2 ⊢
      rw [k2]
      congr 1
      funext i
      rw [h2]
      split
      · rfl
      · rename_i hi; exact stepC_slots hs i hi
def callE (call : CallT) (pure : Bool) (s : ESt) (d : Option Nat) (fv : V) (xs : List V) (j : Option Nat) : Option ESt :=
  match callA s.abs fv xs j with
  | none => none
  | some (f, args) =>
    fLA args fun args =>
    match (bif pure then (bif labL 0 args then (match call f args [] with | some (r, [], _) => some (r, s.h, []) | _ => none) else none) else call f args s.h) with
    | none => none
    | some (r, h', d') => fL (d' ++ s.d) fun dd => setsK (ASt.put ⟨stripO s.abs.fr (ownArgC j xs), s.abs.hp⟩ d r).fr ((ownArgC j xs).toList ++ d.toList) s.r fun r' => some ⟨r', h', dd⟩
/-- What is said of calls. -/
def CallOK (P : Program) (call : CallT) : Prop := ∀ f args h r h' d', call f args h = some (r, h', d') → Fn P f args (hpOf h) r (hpOf h') ∧ Keeps h h' d'
theorem callE_spec {P : Program} {call : CallT} (hc : CallOK P call) {pure : Bool} {s s1 : ESt} {d : Option Nat} {fv : V} {xs : List V} {j : Option Nat} (h : callE call pure s d fv xs j = some s1) :
    Goes s s1 ∧ ∃ f first cap r h', evC s.abs fv = .func f first cap ∧ (Fn P f (first.map strip ++ argsC s.abs j 0 xs ++ cap.map strip) s.abs.hp r h') ∧ (pure = true → PFn P f (first.map strip ++ argsC s.abs j 0 xs ++ cap.map strip) r ∧ h' = s.abs.hp) ∧ s1.abs = ASt.put ⟨stripO s.abs.fr (ownArgC j xs), h'⟩ d r := by
  unfold callE at h
  split at h
  · cases h
  · rename_i f args ha
    rw [fLA_eq] at h
    split at h
    · cases h
    · rename_i r h' d' hq
      rw [fL_eq] at h
      obtain ⟨r', h1, h2⟩ := setsK_spec h
      simp only [Option.some.injEq] at h1
      subst h1
      unfold callA at ha
      split at ha
      · rename_i f' first cap hev
        simp only [Option.some.injEq, Prod.mk.injEq] at ha
        obtain ⟨rfl, rfl⟩ := ha
        have habs : ∀ (hp : Hp), ASt.put ⟨stripO s.abs.fr (ownArgC j xs), hp⟩ d r = ⟨frOf r', hp⟩ := by
          intro hp
          have e1 : (ASt.put ⟨stripO s.abs.fr (ownArgC j xs), hp⟩ d r).hp = hp := put_hp _ _ _
          have e2 : (ASt.put ⟨stripO s.abs.fr (ownArgC j xs), hp⟩ d r).fr = frOf r' := by
            funext i
            rw [h2, put_mk, put_mk]
            by_cases e : some i = d
            · rw [if_pos e, if_pos (List.mem_append.2 (.inr (by simp [← e])))]
            · rw [if_neg e]
              by_cases m : ownArgC j xs = some i
              · rw [if_pos (List.mem_append.2 (.inl (by simp [m])))]
              · rw [if_neg (fun h => by
                  rcases List.mem_append.1 h with h | h
                  · exact m (by simpa using h)
                  · exact e (by have := Option.mem_toList.1 h; exact this.symm)), stripO_fr, if_neg m]; rfl
          generalize ASt.put ⟨stripO s.abs.fr (ownArgC j xs), hp⟩ d r = q at e1 e2
          cases q; simp only at e1 e2; rw [e1, e2]
        cases pure with
        | false =>
          simp only [cond_false] at hq
          obtain ⟨k1, k2⟩ := hc _ _ _ _ _ _ hq
          refine ⟨⟨⟨k2.len, fun l a b => k2.same l a (fun hm => b (List.mem_append.2 (.inl hm)))⟩, fun l hl => List.mem_append.2 (.inr hl)⟩, f', first, cap, r, hpOf h', hev, by rw [List.append_assoc]; exact k1, fun e => (by cases e), ?_⟩
          exact (habs _).symm
        | true =>
          simp only [cond_true] at hq
          cases hl : labL 0 (first.map strip ++ (argsC s.abs j 0 xs ++ cap.map strip)) with
          | false => rw [hl] at hq; cases hq
          | true =>
            rw [hl] at hq
            simp only [cond_true] at hq
            split at hq
            · rename_i r0 d0 hq0
              simp only [Option.some.injEq, Prod.mk.injEq] at hq
              obtain ⟨rfl, rfl, rfl⟩ := hq
              obtain ⟨k1, k2⟩ := hc _ _ _ _ _ _ hq0
              have hp := pfn_of_empty hl k1
              refine ⟨⟨⟨Nat.le_refl _, fun _ _ _ => rfl⟩, fun l hl => List.mem_append.2 (.inr hl)⟩, f', first, cap, r0, s.abs.hp, hev, by rw [List.append_assoc]; exact hp _, fun _ => ⟨by rw [List.append_assoc]; exact hp, rfl⟩, ?_⟩
              exact (habs _).symm
            · cases hq
      · cases ha
def exec1 (call : CallT) (D : Bool) (ci : CI) (s : ESt) : Option ESt :=
  match ci with
  | .call d fv xs j => callE call (D && !effO j) s d fv xs j
  | ci => stepE s ci
theorem exec1_spec {P : Program} {call : CallT} (hc : CallOK P call) {D : Bool} {ci : CI} {s s1 : ESt} (h : exec1 call D ci s = some s1) : Goes s s1 ∧ ∀ K : ASt → Prop, K s1.abs → (if D then CI1D P ci K s.abs else CI1 P ci K s.abs) := by
  unfold exec1 at h
  split at h
  · rename_i d fv xs j
    obtain ⟨h1, f, first, cap, r, h', h2, h3, h4, h5⟩ := callE_spec hc h
    refine ⟨h1, fun K hK => ?_⟩
    rw [h5] at hK
    cases D with
    | false =>
      simp only [Bool.false_eq_true, if_false, CI1, h2]
      exact ⟨r, h', h3, hK⟩
    | true =>
      simp only [if_true, CI1D, h2]
      refine ⟨r, h', ?_, hK⟩
      unfold CallC
      cases he : effO j with
      | true => simp only [if_true]; exact h3
      | false => simp only [Bool.false_eq_true, if_false]; exact h4 (by simp [he])
  · rename_i hno
    obtain ⟨h1, h2⟩ := stepE_spec h
    refine ⟨h2, fun K hK => ?_⟩
    have hn : isCall ci = false := by
      cases ci <;> first | rfl | exact absurd rfl (hno _ _ _ _)
    cases D with
    | false => simp only [Bool.false_eq_true, if_false]; rw [run_op ci hn, h1]; exact hK
    | true => simp only [if_true]; rw [run_opD ci hn, h1]; exact hK
/-- One operation with its guard. -/
def execG (call : CallT) (D : Bool) (g : Option (Nat × Bool)) (ci : CI) (s : ESt) : Option ESt :=
  match g with
  | none => exec1 call D ci s
  | some (d, want) => match frOf s.r d with
    | .bool b => match b, want with
      | true, true => exec1 call D ci s
      | false, false => exec1 call D ci s
      | _, _ => setsK (fun _ => .val undef) (dstC ci).toList s.r fun r => some ⟨r, s.h, s.d⟩
    | .val (.tuple _) => setsK (fun _ => .val undef) (dstC ci).toList s.r fun r => some ⟨r, s.h, s.d⟩
    | _ => none
theorem junk_spec {s s1 : ESt} {ci : CI} (h : (setsK (fun _ => .val undef) (dstC ci).toList s.r fun r => some (⟨r, s.h, s.d⟩ : ESt)) = some s1) : Goes s s1 ∧ s1.abs = s.abs.put (dstC ci) (.val undef) := by
  obtain ⟨r, h1, h2⟩ := setsK_spec h
  simp only [Option.some.injEq] at h1
  subst h1
  refine ⟨⟨⟨Nat.le_refl _, fun _ _ _ => rfl⟩, fun _ h => h⟩, ?_⟩
  have e1 : (s.abs.put (dstC ci) (.val undef)).hp = hpOf s.h := put_hp _ _ _
  have e2 : (s.abs.put (dstC ci) (.val undef)).fr = frOf r := by
    funext i
    rw [h2, put_fr]
    by_cases hi : some i = dstC ci
    · rw [if_pos hi, if_pos (by simp [← hi])]
    · rw [if_neg hi, if_neg (by simp; exact fun e => hi e.symm)]; rfl
  generalize s.abs.put (dstC ci) (.val undef) = q at e1 e2
  cases q; simp only at e1 e2; rw [e1, e2]; rfl
def GK (P : Program) (D : Bool) (g : Option (Nat × Bool)) (ci : CI) (K : ASt → Prop) (s : ASt) : Prop :=
  match g with
  | none => if D then CI1D P ci K s else CI1 P ci K s
  | some (d, want) => ∃ q, gval (s.fr d) = some q ∧ (q = some want → if D then CI1D P ci K s else CI1 P ci K s) ∧ (q ≠ some want → K (s.put (dstC ci) (.val undef)))
theorem execG_spec {P : Program} {call : CallT} (hc : CallOK P call) {D : Bool} {g : Option (Nat × Bool)} {ci : CI} {s s1 : ESt} (h : execG call D g ci s = some s1) :
    Goes s s1 ∧ ∀ K : ASt → Prop, K s1.abs → GK P D g ci K s.abs := by
  cases g with
  | none => simp only [execG] at h; exact exec1_spec hc h
  | some p =>
    obtain ⟨d, want⟩ := p
    simp only [execG] at h
    split at h
    · rename_i b hb
      have hb' : gval (s.abs.fr d) = some (some b) := by have : s.abs.fr d = .bool b := hb; rw [this]; rfl
      split at h
      · obtain ⟨h1, h2⟩ := exec1_spec hc h
        exact ⟨h1, fun K hK => ⟨some true, hb', fun _ => h2 K hK, fun e => absurd rfl e⟩⟩
      · obtain ⟨h1, h2⟩ := exec1_spec hc h
        exact ⟨h1, fun K hK => ⟨some false, hb', fun _ => h2 K hK, fun e => absurd rfl e⟩⟩
      · rename_i n1 n2
        obtain ⟨h1, h2⟩ := junk_spec h
        refine ⟨h1, fun K hK => ⟨some b, hb', fun e => ?_, fun e => by rw [← h2]; exact hK⟩⟩
        exfalso
        simp only [Option.some.injEq] at e
        subst e; cases b
        · exact n2 rfl rfl
        · exact n1 rfl rfl
    · rename_i vs hb
      have hb' : gval (s.abs.fr d) = some none := by have : s.abs.fr d = .val (.tuple vs) := hb; rw [this]; rfl
      obtain ⟨h1, h2⟩ := junk_spec h
      exact ⟨h1, fun K hK => ⟨none, hb', fun e => (by cases e), fun e => by rw [← h2]; exact hK⟩⟩
    · cases h
def evOps (call : CallT) (D : Bool) : List (Option (Nat × Bool) × CI) → ESt → Option ESt
  | [], s => some s
  | (g, ci) :: l, s => match execG call D g ci s with | some s1 => evOps call D l s1 | none => none
theorem evOps_spec {P : Program} {call : CallT} (hc : CallOK P call) : ∀ {l : List (Option (Nat × Bool) × CI)} {s s1 : ESt}, (evOps call false l s = some s1 → Goes s s1 ∧ ∀ K : ASt → Prop, K s1.abs → COps P K l s.abs) ∧ (evOps call true l s = some s1 → Goes s s1 ∧ ∀ K : ASt → Prop, K s1.abs → COpsD P K l s.abs)
  | [], s, s1 => ⟨fun h => by cases h; exact ⟨.refl _, fun _ h => h⟩, fun h => by cases h; exact ⟨.refl _, fun _ h => h⟩⟩
  | (g, ci) :: l, s, s1 => by
    refine ⟨fun h => ?_, fun h => ?_⟩
    · simp only [evOps] at h
      split at h
      · rename_i s2 h2
        obtain ⟨k1, k2⟩ := execG_spec hc h2
        obtain ⟨k3, k4⟩ := (evOps_spec hc).1 h
        refine ⟨k1.trans k3, fun K hK => ?_⟩
        have := k2 _ (k4 K hK)
        cases g with
        | none => rw [GK] at this; simp only [Bool.false_eq_true, if_false, if_true] at this; exact this
        | some p =>
          obtain ⟨d, want⟩ := p
          simp only [GK, Bool.false_eq_true, if_false] at this
          obtain ⟨b, e1, e2, e3⟩ := this
          simp only [COps, e1]
          exact ⟨e2, e3⟩
      · cases h
    · simp only [evOps] at h
      split at h
      · rename_i s2 h2
        obtain ⟨k1, k2⟩ := execG_spec hc h2
        obtain ⟨k3, k4⟩ := (evOps_spec hc).2 h
        refine ⟨k1.trans k3, fun K hK => ?_⟩
        have := k2 _ (k4 K hK)
        cases g with
        | none => rw [GK] at this; simp only [Bool.false_eq_true, if_false, if_true] at this; exact this
        | some p =>
          obtain ⟨d, want⟩ := p
          simp only [GK, if_true] at this
          obtain ⟨b, e1, e2, e3⟩ := this
          simp only [COpsD, e1]
          exact ⟨e2, e3⟩
      · cases h
end Go.Proofs.YtnibelnjflhkgaaGreatDoor.Ab

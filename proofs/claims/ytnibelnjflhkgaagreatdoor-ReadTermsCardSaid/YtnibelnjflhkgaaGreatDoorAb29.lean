/- Rows of operations whose order is drawn, on: two that touch each other, in either order. No condition. -/
import Derived.Test.YtnibelnjflhkgaaGreatDoorAb18
namespace Go.Proofs.YtnibelnjflhkgaaGreatDoor.Ab
set_option linter.unusedVariables false
set_option linter.unusedSimpArgs false
open Go.RowKit
section
variable {P : Program} {ow : FuncId → Option Nat} {nt : Nat} {ops : Array Oper} {tk : Nat → Bool}
/-- In a row of what is left: each two are ordered, or may change places, but for one. -/
def Good (P : Program) (ow : FuncId → Option Nat) (ops : Array Oper) (tk : Nat → Bool) (bad : Nat → Nat → Prop) (rem : List Nat) : Prop :=
  ∀ pre i post, rem = pre ++ i :: post → ∀ k ∈ pre, ((ancs ops.toList []).getD i 0).testBit k = true ∨ (∀ ok oi, ops[k]? = some ok → ops[i]? = some oi → pairOK P ow ops tk ok oi = true) ∨ bad k i
theorem Good.drop {bad : Nat → Nat → Prop} {pre post : List Nat} {i : Nat} (h : Good P ow ops tk bad (pre ++ i :: post)) : Good P ow ops tk bad (pre ++ post) := by
  intro p m q he k hk
  rcases List.append_eq_append_iff.1 he with ⟨a', h1, h2⟩ | ⟨c', h1, h2⟩
  · -- p = pre ++ a'
    subst h1
    refine h (pre ++ i :: a') m q (by simp [h2]) k ?_
    rcases List.mem_append.1 hk with hk | hk
    · exact List.mem_append.2 (.inl hk)
    · exact List.mem_append.2 (.inr (List.mem_cons_of_mem _ hk))
  · cases c' with
    | nil =>
      simp at h1 h2
      subst h1
      refine h (pre ++ [i]) m q (by simp [← h2]) k (List.mem_append.2 (.inl hk))
    | cons c c' =>
      simp at h2
      obtain ⟨rfl, rfl⟩ := h2
      exact h p m (c' ++ i :: post) (by simp [h1]) k hk
theorem back_lt : ∀ (k : Nat) (os : List Oper), backOK k os = true → ∀ j o, os[j]? = some o → ∀ e ∈ o.after, Region.binds .any e = true → e.on < k + j
  | _, [], _, j, o, hj, _, _, _ => by simp at hj
  | k, o1 :: os, hb, j, o, hj, e, he, hbd => by
    simp only [backOK, Bool.and_eq_true] at hb
    cases j with
    | zero =>
      simp at hj; subst hj
      have := Array.all_eq_true_iff_forall_mem.1 hb.1 e he
      simp only [hbd, Bool.not_true, Bool.false_or, decide_eq_true_eq] at this
      omega
    | succ j => have := back_lt (k + 1) os hb.2 j o (by simpa using hj) e he hbd; omega
theorem none_left (hback : backOK 0 ops.toList = true) {listed : Array Bool} (hls : listed.size = ops.size) (hnone : Region.ready .any ops listed = []) : ∀ j, j < ops.size → listed.getD j false = true := by
  intro j
  induction j using Nat.strongRecOn with
  | _ j ih =>
    intro hj
    have hjl : j < listed.size := by omega
    by_cases hun : listed.getD j true = false
    · exfalso
      have ho : ops[j]? = some ops[j] := Array.getElem?_eq_getElem hj
      have : j ∈ Region.ready .any ops listed := mem_ready.2 ⟨hun, ops[j], ho, fun e he hb => by
        have hlt := back_lt 0 ops.toList hback j ops[j] (by simp) e he hb
        exact ih e.on (by omega) (by omega)⟩
      rw [hnone] at this; cases this
    · simp only [Array.getD_eq_getD_getElem?, Array.getElem?_eq_getElem hjl, Option.getD_some] at hun ⊢
      simpa using hun
theorem rem_nil {listed : Array Bool} {rem : List Nat} (hls : listed.size = ops.size) (hrem : ∀ i, i ∈ rem ↔ i < ops.size ∧ listed.getD i true = false) (hall : ∀ j, j < ops.size → listed.getD j false = true) : rem = [] := by
  apply List.eq_nil_iff_forall_not_mem.2
  intro j hj
  obtain ⟨h1, h2⟩ := (hrem j).1 hj
  have h3 := hall j h1
  have hjl : j < listed.size := by omega
  simp only [Array.getD_eq_getD_getElem?, Array.getElem?_eq_getElem hjl, Option.getD_some] at h2 h3
  rw [h2] at h3; cases h3
theorem closed_set {listed : Array Bool} {i : Nat} {oi : Oper} (hoi : ops[i]? = some oi) (hcl : Closed ops (lst listed)) (hall : ∀ e ∈ oi.after, Region.binds .any e = true → listed.getD e.on false = true) : Closed ops (lst (listed.setIfInBounds i true)) := by
  intro m o ho hm e he hb
  simp only [lst] at hm ⊢
  by_cases hmi : m = i
  · subst hmi
    rw [hoi] at ho; cases ho
    exact getD_set_true (hall e he hb)
  · rw [getD_set_ne false (Ne.symm hmi)] at hm
    exact getD_set_true (hcl m o ho hm e he hb)
theorem rem_set {listed : Array Bool} {pre post : List Nat} {i : Nat} (hls : listed.size = ops.size) (hlt : i < ops.size) (hrem : ∀ j, j ∈ pre ++ i :: post ↔ j < ops.size ∧ listed.getD j true = false) (hnd : (pre ++ i :: post).Nodup) :
    (∀ j, j ∈ pre ++ post ↔ j < ops.size ∧ (listed.setIfInBounds i true).getD j true = false) ∧ (pre ++ post).Nodup := by
  have hni : i ∉ pre ++ post := by
    intro h
    rw [List.nodup_append] at hnd
    obtain ⟨_, h2, h3⟩ := hnd
    rcases List.mem_append.1 h with h | h
    · exact h3 i h i (by simp) rfl
    · exact (List.nodup_cons.1 h2).1 h
  refine ⟨fun j => ?_, ?_⟩
  · by_cases hji : j = i
    · subst hji
      have hjl : j < listed.size := by omega
      constructor
      · intro h; exact absurd h hni
      · rintro ⟨_, h⟩
        simp [hjl] at h
    · rw [getD_set_ne true (Ne.symm hji), ← hrem j]
      simp [hji]
  · refine List.Nodup.sublist ?_ hnd
    exact List.Sublist.append (List.Sublist.refl _) (List.sublist_cons_self _ _)
theorem pick_wp {s0 vf0 w0 g0} {Q : Exit → Act → World → Prop} (hdst : ops.toList.all (dstOK nt) = true) {fuel : Nat} {listed : Array Bool} {i : Nat} {oi : Oper} {s s1 : ASt} {a : Act} {w : World} (hoi : ops[i]? = some oi) (h1 : OneR P ow ops tk oi s s1) (hi : Inv nt s0 vf0 w0 g0 s a w)
    (next : ∀ v w', Inv nt s0 vf0 w0 g0 s1 (a.put oi.dst v) w' → wpAny P .any ops Q fuel (listed.setIfInBounds i true) (a.put oi.dst v) w') :
    wpOp P ops Q i (wpAny P .any ops Q fuel (listed.setIfInBounds i true)) a w := by
  have hdo : dstOK nt oi = true := List.all_eq_true.1 hdst oi (by simpa using Array.mem_of_getElem? hoi)
  have hdl : ∀ d, oi.dst = some d → d < a.tmps.size := fun d e => by simp only [dstOK, e] at hdo; rw [hi.size]; simpa using hdo
  unfold wpOp
  simp only [hoi]
  unfold OneR at h1
  split at h1
  · rename_i hg
    rw [if_pos (by simp [Region.wanted, hg])]
    exact .inl (op1_sound hdo (step_op1 h1) hi fun s2 v w' e hi' => by subst e; exact next v w' hi')
  · rename_i j want hg
    split at h1
    · rename_i d hd
      obtain ⟨b, hb, h1⟩ := h1
      obtain ⟨g, tr⟩ := hi.tr
      rw [wanted_guard tr.sr hg hd hb]
      rcases h1 with ⟨hbw, h1⟩ | ⟨hbw, h1⟩
      · rw [if_pos (by simpa using hbw)]
        exact .inl (op1_sound hdo (step_op1 h1) hi fun s2 v w' e hi' => by subst e; exact next v w' hi')
      · rw [if_neg (by simpa using hbw)]
        subst h1
        exact next undef w (inv_junk hi oi.dst hdl)
    · exact h1.elim
/-- A ready one goes first, where nothing ahead of it in the row stands in its way. -/
theorem first_of {bad : Nat → Nat → Prop} (hback : backOK 0 ops.toList = true) {listed : Array Bool} {pre post : List Nat} {i : Nat} {oi : Oper} {s s' : ASt} (hls : listed.size = ops.size) (hrem : ∀ j, j ∈ pre ++ i :: post ↔ j < ops.size ∧ listed.getD j true = false)
    (hg : Good P ow ops tk bad (pre ++ i :: post)) (hcl : Closed ops (lst listed)) (hoi : ops[i]? = some oi) (hall : ∀ e ∈ oi.after, Region.binds .any e = true → listed.getD e.on false = true) (hnb : ∀ k ∈ pre, ¬ bad k i)
    (hrun : RunR P ow ops tk ((pre ++ i :: post).filterMap (ops[·]?)) s s') : ∃ s1, OneR P ow ops tk oi s s1 ∧ RunR P ow ops tk ((pre ++ post).filterMap (ops[·]?)) s1 s' := by
  have hfm : (pre ++ i :: post).filterMap (ops[·]?) = pre.filterMap (ops[·]?) ++ oi :: post.filterMap (ops[·]?) := by
    rw [List.filterMap_append, List.filterMap_cons_some hoi]
  rw [hfm] at hrun
  obtain ⟨s1, h1, h2⟩ := run_first _ s s' hrun (by
    intro ok hok
    obtain ⟨k, hkp, hko⟩ := List.mem_filterMap.1 hok
    rcases hg pre i post rfl k hkp with h4 | h4 | h4
    · exfalso
      have hlt := (Array.getElem?_eq_some_iff.1 hoi).1
      have := ancs_spec (L := lst listed) (k := k) hcl ops.toList [] (by simp) (by simpa using hback) (by simp) i oi hoi (by simpa using hlt) hall h4
      obtain ⟨h5, h6⟩ := (hrem k).1 (List.mem_append.2 (.inl hkp))
      have hkl : k < listed.size := by omega
      simp only [lst, Array.getD_eq_getD_getElem?, Array.getElem?_eq_getElem hkl, Option.getD_some] at this h6
      rw [this] at h6; cases h6
    · exact h4 ok oi hko hoi
    · exact absurd h4 (hnb k hkp))
  exact ⟨s1, h1, by rw [List.filterMap_append]; exact h2⟩
theorem any_soundG {s0 vf0 w0 g0} {K : ASt → Prop} {Q : Exit → Act → World → Prop} (hback : backOK 0 ops.toList = true) (hdst : ops.toList.all (dstOK nt) = true) (hQ : ∀ s a w, K s → Inv nt s0 vf0 w0 g0 s a w → Q .normal a w) :
    ∀ (fuel : Nat) (listed : Array Bool) (rem : List Nat) (s s' : ASt) (a : Act) (w : World), listed.size = ops.size → (∀ i, i ∈ rem ↔ i < ops.size ∧ listed.getD i true = false) → rem.Nodup → Good P ow ops tk (fun _ _ => False) rem → rem.length ≤ fuel → Closed ops (lst listed) →
      RunR P ow ops tk (rem.filterMap (ops[·]?)) s s' → K s' → Inv nt s0 vf0 w0 g0 s a w → wpAny P .any ops Q fuel listed a w := by
  intro fuel
  induction fuel with
  | zero =>
    intro listed rem s s' a w hls hrem hnd hg hlen hcl hrun hk hi
    have hnil : rem = [] := List.eq_nil_of_length_eq_zero (by omega)
    subst hnil
    simp only [List.filterMap_nil, RunR] at hrun
    subst hrun
    refine ⟨?_, hQ _ a w hk hi⟩
    apply List.eq_nil_iff_forall_not_mem.2
    intro j hj
    obtain ⟨h1, o, h2, _⟩ := mem_ready.1 hj
    have := (hrem j).2 ⟨(Array.getElem?_eq_some_iff.1 h2).1, h1⟩
    cases this
  | succ fuel ih =>
    intro listed rem s s' a w hls hrem hnd hg hlen hcl hrun hk hi
    refine ⟨fun hnone => ?_, fun i hir => ?_⟩
    · have hnil := rem_nil hls hrem (none_left hback hls hnone)
      subst hnil
      simp only [List.filterMap_nil, RunR] at hrun
      subst hrun
      exact hQ _ a w hk hi
    · obtain ⟨hun, oi, hoi, hall⟩ := mem_ready.1 hir
      have hlt := (Array.getElem?_eq_some_iff.1 hoi).1
      obtain ⟨pre, post, rfl⟩ := List.append_of_mem ((hrem i).2 ⟨hlt, hun⟩)
      obtain ⟨s1, h1, h2⟩ := first_of hback hls hrem hg hcl hoi hall (fun _ _ h => h) hrun
      obtain ⟨r1, r2⟩ := rem_set hls hlt hrem hnd
      exact pick_wp hdst hoi h1 hi fun v w' hi' => ih _ (pre ++ post) s1 s' _ w' (by simpa using hls) r1 r2 hg.drop (by simp at hlen ⊢; omega) (closed_set hoi hcl hall) h2 hk hi'
def noCall (o : Oper) : Bool := match o.op with | .call _ => false | _ => true
theorem one_det {o : Oper} {s s1 s2 : ASt} (hn : noCall o = true) (h1 : OneR P ow ops tk o s s1) (h2 : OneR P ow ops tk o s s2) : s1 = s2 := by
  have step : ∀ {u v : ASt}, StepR P ow tk o s u → StepR P ow tk o s v → u = v := by
    intro u v hu hv
    unfold StepR at hu hv
    split at hu
    · rename_i x args ts ho
      simp [noCall, ho] at hn
    · split at hv
      · rename_i x args ts ho
        simp [noCall, ho] at hn
      · rw [hu] at hv; exact Option.some.inj hv
  unfold OneR at h1 h2
  split at h1
  · rename_i hg
    rw [hg] at h2
    exact step h1 h2
  · rename_i j want hg
    rw [hg] at h2
    simp only at h2
    split at h1
    · rename_i d hd
      rw [hd] at h2
      simp only at h2
      obtain ⟨b, hb, h1⟩ := h1
      obtain ⟨b', hb', h2⟩ := h2
      rw [hb] at hb'; cases hb'
      rcases h1 with ⟨e1, h1⟩ | ⟨e1, h1⟩ <;> rcases h2 with ⟨e2, h2⟩ | ⟨e2, h2⟩
      · exact step h1 h2
      · exact absurd e1 e2
      · exact absurd e2 e1
      · rw [h1, h2]
    · exact h1.elim
/-- Two orders of one pair that touch each other: all orders. -/
theorem any_sound2 {s0 vf0 w0 g0} {K : ASt → Prop} {Q : Exit → Act → World → Prop} {x y : Nat} (hxy : x ≠ y) (hback : backOK 0 ops.toList = true) (hdst : ops.toList.all (dstOK nt) = true) (hno : ops.toList.all noCall = true) (hQ : ∀ s a w, K s → Inv nt s0 vf0 w0 g0 s a w → Q .normal a w) :
    ∀ (fuel : Nat) (listed : Array Bool) (r1 r2 : List Nat) (s s' s'' : ASt) (a : Act) (w : World), listed.size = ops.size → (∀ i, i ∈ r1 ↔ i < ops.size ∧ listed.getD i true = false) → r1.Nodup → (∀ i, i ∈ r2 ↔ i < ops.size ∧ listed.getD i true = false) → r2.Nodup →
      Good P ow ops tk (fun k i => k = x ∧ i = y) r1 → Good P ow ops tk (fun k i => k = y ∧ i = x) r2 → r1.length ≤ fuel → r2.length ≤ fuel → Closed ops (lst listed) →
      RunR P ow ops tk (r1.filterMap (ops[·]?)) s s' → K s' → RunR P ow ops tk (r2.filterMap (ops[·]?)) s s'' → K s'' → Inv nt s0 vf0 w0 g0 s a w → wpAny P .any ops Q fuel listed a w := by
  intro fuel
  induction fuel with
  | zero =>
    intro listed r1 r2 s s' s'' a w hls hr1 hn1 hr2 hn2 hg1 hg2 hl1 hl2 hcl hrun hk hrun2 hk2 hi
    have hnil : r1 = [] := List.eq_nil_of_length_eq_zero (by omega)
    subst hnil
    simp only [List.filterMap_nil, RunR] at hrun
    subst hrun
    refine ⟨?_, hQ _ a w hk hi⟩
    apply List.eq_nil_iff_forall_not_mem.2
    intro j hj
    obtain ⟨h1, o, h2, _⟩ := mem_ready.1 hj
    have := (hr1 j).2 ⟨(Array.getElem?_eq_some_iff.1 h2).1, h1⟩
    cases this
  | succ fuel ih =>
    intro listed r1 r2 s s' s'' a w hls hr1 hn1 hr2 hn2 hg1 hg2 hl1 hl2 hcl hrun hk hrun2 hk2 hi
    refine ⟨fun hnone => ?_, fun i hir => ?_⟩
    · have hnil := rem_nil hls hr1 (none_left hback hls hnone)
      subst hnil
      simp only [List.filterMap_nil, RunR] at hrun
      subst hrun
      exact hQ _ a w hk hi
    · obtain ⟨hun, oi, hoi, hall⟩ := mem_ready.1 hir
      have hlt := (Array.getElem?_eq_some_iff.1 hoi).1
      obtain ⟨p1, q1, rfl⟩ := List.append_of_mem ((hr1 i).2 ⟨hlt, hun⟩)
      obtain ⟨p2, q2, rfl⟩ := List.append_of_mem ((hr2 i).2 ⟨hlt, hun⟩)
      obtain ⟨a1, a2⟩ := rem_set hls hlt hr1 hn1
      obtain ⟨b1, b2⟩ := rem_set hls hlt hr2 hn2
      have hni : ∀ {p q : List Nat}, (p ++ i :: q).Nodup → i ∉ p ++ q := fun {p q} hnd h => by
        rw [List.nodup_append] at hnd
        obtain ⟨_, h2, h3⟩ := hnd
        rcases List.mem_append.1 h with h | h
        · exact h3 i h i (by simp) rfl
        · exact (List.nodup_cons.1 h2).1 h
      have free : ∀ {bad : Nat → Nat → Prop} {p q : List Nat}, (p ++ i :: q).Nodup → (∀ k j, bad k j → k = i ∨ j = i) → Good P ow ops tk bad (p ++ i :: q) → Good P ow ops tk (fun _ _ => False) (p ++ q) := fun {bad p q} hnd hb hg pre m post he k hk => by
        rcases hg.drop pre m post he k hk with h | h | h
        · exact .inl h
        · exact .inr (.inl h)
        · exfalso
          have hm : m ∈ p ++ q := by rw [he]; simp
          have hk' : k ∈ p ++ q := by rw [he]; exact List.mem_append.2 (.inl hk)
          rcases hb k m h with e | e
          · exact hni hnd (e ▸ hk')
          · exact hni hnd (e ▸ hm)
      have hnoi : noCall oi = true := List.all_eq_true.1 hno oi (by simpa using Array.mem_of_getElem? hoi)
      by_cases hiy : i = y
      · -- the second of the pair comes first: the other row alone
        subst hiy
        obtain ⟨s1, h1, h2⟩ := first_of hback hls hr2 hg2 hcl hoi hall (fun k hk h => hxy h.2.symm) hrun2
        exact pick_wp hdst hoi h1 hi fun v w' hi' => any_soundG hback hdst hQ _ _ (p2 ++ q2) s1 s'' _ w' (by simpa using hls) b1 b2 (free hn2 (fun k j h => .inl h.1) hg2) (by simp at hl2 ⊢; omega) (closed_set hoi hcl hall) h2 hk2 hi'
      · by_cases hix : i = x
        · subst hix
          obtain ⟨s1, h1, h2⟩ := first_of hback hls hr1 hg1 hcl hoi hall (fun k hk h => hxy h.2) hrun
          exact pick_wp hdst hoi h1 hi fun v w' hi' => any_soundG hback hdst hQ _ _ (p1 ++ q1) s1 s' _ w' (by simpa using hls) a1 a2 (free hn1 (fun k j h => .inl h.1) hg1) (by simp at hl1 ⊢; omega) (closed_set hoi hcl hall) h2 hk hi'
        · obtain ⟨s1, h1, h2⟩ := first_of hback hls hr1 hg1 hcl hoi hall (fun k hk h => hiy h.2) hrun
          obtain ⟨s2, h3, h4⟩ := first_of hback hls hr2 hg2 hcl hoi hall (fun k hk h => hix h.2) hrun2
          obtain rfl := one_det hnoi h1 h3
          exact pick_wp hdst hoi h1 hi fun v w' hi' => ih _ (p1 ++ q1) (p2 ++ q2) s1 s' s'' _ w' (by simpa using hls) a1 a2 b1 b2 hg1.drop hg2.drop (by simp at hl1 ⊢; omega) (by simp at hl2 ⊢; omega) (closed_set hoi hcl hall) h2 hk h4 hk2 hi'
def goodL (P : Program) (ow : FuncId → Option Nat) (ops : Array Oper) (tk : Nat → Bool) (x y : Nat) : List Nat → Bool
  | [] => true
  | k :: l => (l.all fun i => ((ancs ops.toList []).getD i 0).testBit k || (match ops[k]?, ops[i]? with | some ok, some oi => pairOK P ow ops tk ok oi | _, _ => true) || (k == x && i == y)) && goodL P ow ops tk x y l
theorem goodL_spec {x y : Nat} : ∀ {r : List Nat}, goodL P ow ops tk x y r = true → Good P ow ops tk (fun k i => k = x ∧ i = y) r
  | [], _, pre, i, post, he, k, hk => by cases pre <;> simp at he
  | k0 :: l, h, pre, i, post, he, k, hk => by
    simp only [goodL, Bool.and_eq_true] at h
    cases pre with
    | nil => cases hk
    | cons p pre =>
      simp only [List.cons_append, List.cons.injEq] at he
      obtain ⟨rfl, he⟩ := he
      rcases List.mem_cons.1 hk with e | hk
      · subst e
        have h1 := List.all_eq_true.1 h.1 i (by rw [he]; simp)
        simp only [Bool.or_eq_true, Bool.and_eq_true, beq_iff_eq] at h1
        rcases h1 with (h1 | h1) | h1
        · exact .inl h1
        · exact .inr (.inl fun ok oi e1 e2 => by simpa [e1, e2] using h1)
        · exact .inr (.inr h1)
      · exact goodL_spec h.2 pre i post he k hk
def twoOK (P : Program) (ow : FuncId → Option Nat) (nt : Nat) (ops : Array Oper) (tk : Nat → Bool) (x y : Nat) (r : List Nat) : Bool :=
  backOK 0 ops.toList && ops.toList.all (dstOK nt) && ops.toList.all noCall && x != y && goodL P ow ops tk x y (List.range ops.size) && goodL P ow ops tk y x r && decide r.Nodup && r.all (fun i => decide (i < ops.size)) && (List.range ops.size).all (fun i => r.contains i) && decide (r.length ≤ ops.size)
def twoL (P : Program) (ow : FuncId → Option Nat) (nt : Nat) (ops : Array Oper) (tk : Nat → Bool) : Option (List Oper) :=
  match ((List.range ops.size).flatMap fun i => ((List.range i).filter fun k => !(((ancs ops.toList []).getD i 0).testBit k || (match ops[k]?, ops[i]? with | some ok, some oi => pairOK P ow ops tk ok oi | _, _ => true))).map fun k => (k, i)) with
  | [(x, y)] =>
    let first := (List.range ops.size).filter fun j => j == y || ((ancs ops.toList []).getD y 0).testBit j
    let r := first ++ (List.range ops.size).filter fun j => !(j == y || ((ancs ops.toList []).getD y 0).testBit j)
    if twoOK P ow nt ops tk x y r then some (r.filterMap (ops[·]?)) else none
  | _ => none
theorem range_filterMap (ops : Array Oper) : (List.range ops.size).filterMap (ops[·]?) = ops.toList := by
  rw [← Array.length_toList]
  have : ∀ l : List Oper, (List.range l.length).filterMap (l[·]?) = l := by
    intro l
    induction l with
    | nil => rfl
    | cons x l ih =>
      rw [List.length_cons, List.range_succ_eq_map, List.filterMap_cons_some (b := x) (by simp), List.filterMap_map]
      congr 1
  simpa using this ops.toList
theorem region2_sound {s0 vf0 w0 g0} {id : Nat} {K : ASt → Prop} {Q : Exit → Act → World → Prop} (hm : P.follows .mixedOrders = true) {s : ASt} {a : Act} {w : World} {l2 : List Oper}
    (h : twoL P ow nt ops tk = some l2) (h1 : AOpsD P ow ops tk K ops.toList s) (h2 : AOpsD P ow ops tk K l2 s) (hi : Inv nt s0 vf0 w0 g0 s a w)
    (hQ : ∀ s a w, K s → Inv nt s0 vf0 w0 g0 s a w → Q .normal a w) : (Code.region id ops true).wp P Q a w := by
  unfold twoL at h
  split at h
  · rename_i x y hc
    simp only at h
    split at h
    · rename_i hok
      simp only [Option.some.injEq] at h
      simp only [twoOK, Bool.and_eq_true, decide_eq_true_eq, bne_iff_ne] at hok
      obtain ⟨⟨⟨⟨⟨⟨⟨⟨⟨hback, hdst⟩, hno⟩, hxy⟩, hg1⟩, hg2⟩, hnd⟩, hlt⟩, hcov⟩, hle⟩ := hok
      obtain ⟨s', q1, q2⟩ := opsD_run _ s h1
      obtain ⟨s'', q3, q4⟩ := opsD_run _ s h2
      have hun : ∀ i, i < ops.size → (Array.replicate ops.size false).getD i true = false := fun i hi => by simp [Array.getD_eq_getD_getElem?, hi]
      refine wp_region_any hm (any_sound2 hxy hback hdst hno hQ ops.size _ (List.range ops.size) _ s s' s'' a _ (by simp) (fun i => ⟨fun h => ⟨List.mem_range.1 h, hun i (List.mem_range.1 h)⟩, fun h => List.mem_range.2 h.1⟩) List.nodup_range
        (fun i => ⟨fun h => by have := List.all_eq_true.1 hlt i h; exact ⟨by simpa using this, hun i (by simpa using this)⟩, fun h => by have := List.all_eq_true.1 hcov i (List.mem_range.2 h.1); simpa using this⟩) hnd (goodL_spec hg1) (goodL_spec hg2) (by simp) ?_ (fun m o ho hl => by
        simp only [lst, Array.getD_eq_getD_getElem?] at hl
        have := (Array.getElem?_eq_some_iff.1 ho).1
        rw [Array.getElem?_eq_getElem (by simpa using this)] at hl
        simp at hl) (by rw [range_filterMap]; exact q1) q2 (by rw [h]; exact q3) q4 (inv_drew hi))
      exact hle
    · cases h
  · cases h
end
end Go.Proofs.YtnibelnjflhkgaaGreatDoor.Ab

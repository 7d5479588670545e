/- The append of a list behind another one, as a step of the state. No condition. -/
import Derived.Test.YtnibelnjflhkgaaDoorAb11
namespace Go.Proofs.YtnibelnjflhkgaaDoor.Ab
set_option linter.unusedVariables false
set_option linter.unusedSimpArgs false
open Go.RowKit

section
variable {P : Program} {g : Gh} {w : World}
/- What an append gives: the base's value in hand. 's0': the state before; 's': the base's slot has given up what it owned. -/
set_option maxHeartbeats 4000000 in
theorem append_core {s0 s : ASt} {vf : Nat → Value} (h0 : SR s0 vf w g) (h : SR s vf w g) (hback : ∀ p b, Own s vf w g p b → Own s0 vf w g p b) (hs1 : Tr s0 vf w g s vf w g)
    (d : Nat) {fl : Fl} {n : Nat} {xs ys : List AV} {bv yv : Value} {ya : AV} {t u ty e : TypeId} {i : TypeInfo} {z : Value}
    (ht : P.underlying t = some (.slice e)) (hi : P.info? e = some i) (hz : i.zero = some z) (hzs : z.cells.size = n) (hin : i.size = n) (hn : 0 < n)
    (hb : VR g w (.sl fl n xs) bv) (htip : Tip g w (.sl fl n xs) bv) (hfl : fl ≠ .sh) (hO : ∀ b, OwnV (.sl fl n xs) bv b → OwnB s0 vf w g b ∧ ∀ p, ¬ Own s vf w g p b)
    (hv : VR g w ya yv) (hsrc : srcA P n e u ya = some ys) (hbytes : (xs.length + ys.length) * i.bytes ≤ 140737488355328) (hlen : xs.length + ys.length ≤ 9223372036854775807) :
    ∃ rv w' g', (Builtin.append_ #[t, u] ty #[bv, yv]).run P w = .ok rv w' ∧ Tr s0 vf w g ⟨upd s.fr d (.sl (apFl fl ys) n (xs ++ ys)), s.hp⟩ (updv vf d rv) w' g' := by
  obtain ⟨news, hu, hy, hyc, hys⟩ := srcA_spec hv hsrc
  have hnl : news.length = ys.length * n := hy.long
  subst hin
  -- a new row
  have grow : ∀ (base : Option Addr) (sCap : Nat) (olds : List Value), (∀ w1 : World, w1.heap = w.heap → (Builtin.firstCells i.size xs.length (.slice base xs.length sCap)).run P w1 = .ok ⟨olds⟩ w1) → CL g w (flat xs) olds → (∀ x ∈ xs, x.cells.length = i.size) → sCap < xs.length + ys.length →
      ∃ rv w' g', (Builtin.append_ #[t, u] ty #[.slice base xs.length sCap, yv]).run P w = .ok rv w' ∧ Tr s0 vf w g ⟨upd s.fr d (.sl .own i.size (xs ++ ys)), s.hp⟩ (updv vf d rv) w' g' := by
    intro base sCap olds ho hoc hxs hlt
    have hr := ap_grow (P := P) (w := w) (ty := ty) ht hi hz hu ho hy hlt hlen hbytes
    have hge := grownCap_ge w (xs.length + ys.length) sCap e
    have hle := grownCap_le_maxLen w (xs.length + ys.length) sCap e (by unfold maxLen; omega)
    have hxl : (xs ++ ys).length = xs.length + ys.length := by simp
    have hol : olds.length = xs.length * i.size := by rw [← hoc.length, flat_length hxs]
    obtain ⟨g', htr⟩ := h.pushRow d i.size (grownCap w (xs.length + ys.length) sCap e) (xs ++ ys) (olds ++ news) (Builtin.zeroCells z.cells (grownCap w (xs.length + ys.length) sCap e - (xs.length + ys.length))).toList e w.drew rfl rfl rfl rfl
      (fun x hx => by rcases List.mem_append.1 hx with h | h; exact hxs x h; exact hys x h) (by rw [flat_append]; exact hoc.append hyc) (by omega) hle (by
        have hzc : (Builtin.zeroCells z.cells (grownCap w (xs.length + ys.length) sCap e - (xs.length + ys.length))).toList.length = (grownCap w (xs.length + ys.length) sCap e - (xs.length + ys.length)) * z.cells.size := by rw [Array.length_toList]; exact size_zeroCells _ _
        rw [List.length_append, List.length_append, hol, hnl, hzc, hzs, ← Nat.add_mul, ← Nat.add_mul]
        congr 1; omega)
    rw [hxl] at htr
    exact ⟨_, _, g', hr, Tr.trans h0 hs1 htr⟩
  have room0 : ∀ (base : Option Addr) (sCap : Nat), ys = [] → bv = .slice base xs.length sCap → xs.length ≤ sCap → (Builtin.append_ #[t, u] ty #[bv, yv]).run P w = .ok bv w := by
    intro base sCap e0 e1 hle
    subst e0 e1
    have : news = [] := List.eq_nil_of_length_eq_zero (by simpa using hnl)
    subst this
    exact ap_room0 (P := P) ht hi hu hy hle
  cases hb with
  | sl0 _ _ =>
    by_cases hm : ys = []
    · subst hm
      refine ⟨_, w, g, room0 none 0 rfl rfl (Nat.le_refl _), Tr.trans h0 hs1 (h.put d (.sl0 _ _) (fun b ⟨_, _, _, _, _, _, e2⟩ => by cases e2))⟩
    · have hpos : 0 < ys.length := List.length_pos_iff.2 hm
      obtain ⟨rv, w', g', h1, h2⟩ := grow none 0 [] (fun w1 _ => by simp [Builtin.firstCells]) .nil (by simp) (by simp; omega)
      refine ⟨rv, w', g', h1, ?_⟩
      have : ys.isEmpty = false := by cases ys <;> simp_all
      cases fl <;> simpa [this, apFl] using h2
  | sle _ _ a0 cap k1 k2 =>
    have hf : fl = .full ∧ cap = 0 := by
      rcases k2 with k2 | k2
      · exact absurd k2 hfl
      · exact k2
    obtain ⟨hf1, rfl⟩ := hf
    subst hf1
    by_cases hm : ys = []
    · subst hm
      refine ⟨_, w, g, room0 (some a0) 0 rfl rfl (Nat.le_refl _), Tr.trans h0 hs1 (h.put d (.sle _ _ _ _ (Nat.zero_le _) (.inr ⟨rfl, rfl⟩)) (fun b ⟨_, _, _, _, _, e1, e2⟩ => by cases e1))⟩
    · have hpos : 0 < ys.length := List.length_pos_iff.2 hm
      obtain ⟨rv, w', g', h1, h2⟩ := grow (some a0) 0 [] (fun w1 _ => by simp [Builtin.firstCells, loadCells, loadCellsFrom]) .nil (by simp) (by simp; omega)
      refine ⟨rv, w', g', h1, ?_⟩
      have : ys.isEmpty = false := by cases ys <;> simp_all
      simpa [this, apFl] using h2
  | sl _ _ _ b o cap k1 k2 k3 k4 k5 =>
    obtain ⟨vs, c1, c2⟩ := k5.toCL
    have hvl : vs.length = xs.length * i.size := by rw [← c1.length, flat_length k4]
    have ho : ∀ w1 : World, w1.heap = w.heap → (Builtin.firstCells i.size xs.length (.slice (some ⟨b, o, none⟩) xs.length cap)).run P w1 = .ok ⟨vs⟩ w1 := fun w1 hw =>
      run_firstCells_some w1 i.size xs.length ⟨b, o, none⟩ xs.length cap vs hvl (fun j v hj => by
        rw [add_mk]
        have := c2 j v hj
        rwa [World.cell?_of_block (w := w) (w' := w1) (a := ⟨b, o + j, none⟩) (by rw [hw])])
    by_cases hlt : cap < xs.length + ys.length
    · obtain ⟨rv, w', g', h1, h2⟩ := grow (some ⟨b, o, none⟩) cap vs ho c1 k4 hlt
      refine ⟨rv, w', g', h1, ?_⟩
      cases fl with
      | sh => exact absurd rfl hfl
      | own => exact h2
      | full =>
        have : ys.isEmpty = false := by
          have := k3 rfl
          cases ys with
          | nil => simp at hlt; omega
          | cons => rfl
        simpa [this, apFl] using h2
    · cases fl with
      | sh => exact absurd rfl hfl
      | full =>
        have hc := k3 rfl
        have hm : ys = [] := List.eq_nil_of_length_eq_zero (by omega)
        subst hm
        refine ⟨_, w, g, room0 (some ⟨b, o, none⟩) cap rfl rfl k1, ?_⟩
        have hput := h.put d (VR.sl .full i.size xs b o cap k1 k2 k3 k4 k5) (fun b' ⟨_, _, _, _, _, e1, _⟩ => by cases e1)
        simpa [apFl] using Tr.trans h0 hs1 hput
      | own =>
        obtain ⟨rfl, ⟨⟨cur⟩, e', t2, t3⟩, t4, t5⟩ := htip i.size xs b o xs.length cap rfl rfl
        simp only [List.size_toArray] at t3
        obtain ⟨q1, q2⟩ := hO b ⟨i.size, xs, 0, xs.length, cap, rfl, rfl⟩
        have hfit : xs.length * i.size + news.length ≤ cur.length := by rw [hnl, t3, ← Nat.add_mul]; exact Nat.mul_le_mul_right _ (by omega)
        have hr := ap_room (P := P) (w := w) (ty := ty) (b := b) (sLen := xs.length) (m := ys.length) (sCap := cap) ht hi hu t2 hy (by omega) (by simpa using hfit)
        obtain ⟨g', htr⟩ := h0.growRow h hback d (cur := cur) (news := news) (e := e') q1 q2 t2 t3 t4 t5 k5 k4 hys hyc (by omega) k2
        exact ⟨_, _, g', hr, htr⟩

theorem does_append {o : Oper} {s s' : ASt} {x y : Operand} {t u : TypeId} {d : Nat} (ho : o.op = .call ⟨.builtin .append, #[x, y], #[t, u]⟩) (hd : o.dst = some d) (h : apSt P s d x y t u = some s') : Does P o s s' := by
  intro a w g hs hlt
  unfold apSt at h
  split at h
  · rename_i e n by_ hr
    obtain ⟨i, z, r1, r2, r3, r4, r5, r6⟩ := rowT_spec hr
    split at h
    · rename_i fl sz xs ys hbase hsrc
      split at h
      · rename_i hc
        obtain ⟨c1, rfl, c3, c4, c5⟩ := hc
        have hyv : ∃ ya, VR g w ya (a.eval y) ∧ srcA P sz e u ya = some ys := by
          refine ⟨_, ?_, hsrc⟩
          cases y with
          | const v =>
            simp only [srcOp]
            split
            · rename_i hk; exact (constA_vr' sz hk).strip
            · exact .junk _
          | tmp t => simp only [srcOp]; exact evA_vr hs _
          | func f => simp only [srcOp]; exact evA_vr hs _
          | global _ => simp only [srcOp]; exact evA_vr hs _
        obtain ⟨ya, hyv, hsrc'⟩ := hyv
        have fin : ∀ rv w' , (Builtin.append_ #[t, u] o.type #[a.eval x, a.eval y]).run P w = .ok rv w' → (execOp a.eval o).run P w = .ok (.value rv) w' := by
          intro rv w' hrun
          simp only [execOp, ho, resolve, invoke, Go.builtin, Sem.run_bind, Sem.run_pure, Result.andThen_ok]
          simp [hrun]
        cases x with
        | tmp t0 =>
          simp only [baseA] at hbase
          simp only [Option.some.injEq] at h; subst h
          have hb : VR g w (.sl fl sz xs) (a.eval (.tmp t0)) := by rw [← hbase]; exact hs.fr t0
          have ht : Tip g w (.sl fl sz xs) (a.eval (.tmp t0)) := by rw [← hbase]; exact hs.tipS t0
          have hO : ∀ b, OwnV (.sl fl sz xs) (a.eval (.tmp t0)) b → OwnB s (vfa a) w g b ∧ ∀ p, ¬ Own ⟨upd s.fr t0 (strip (s.fr t0)), s.hp⟩ (vfa a) w g p b := by
            intro b hob
            have hown : Own s (vfa a) w g (.slot t0) b := by simp only [Own]; rw [hbase]; exact hob
            refine ⟨⟨.slot t0, hown⟩, fun p hp => ?_⟩
            obtain ⟨m1, m2⟩ := (hs.stripSlot t0).2 p b hp
            exact m2 (hs.one p (.slot t0) b m1 hown)
          obtain ⟨rv, w', g', k1, k2⟩ := append_core (ty := o.type) hs (hs.stripSlot t0).1 (fun p b hp => ((hs.stripSlot t0).2 p b hp).1) (hs.tr_strip t0) d r1 r2 r3 r4 r5 c3 hb ht c1 hO hyv hsrc' (by rw [r6]; exact c4) c5
          exact ⟨_, rv, w', g', fin rv w' k1, .inl rfl, by rw [hd, vfa_put (hlt d hd)]; exact k2⟩
        | const v =>
          simp only [baseA] at hbase
          simp only [Option.some.injEq] at h; subst h
          have hb : VR g w (.sl fl sz xs) (a.eval (.const v)) := by rw [← hbase]; exact constA1_vr sz v
          have hno : ∀ b, ¬ OwnV (.sl fl sz xs) (a.eval (.const v)) b := by rw [← hbase]; exact constA1_not sz v
          obtain ⟨rv, w', g', k1, k2⟩ := append_core (ty := o.type) hs hs (fun p b hp => hp) (Tr.refl hs) d r1 r2 r3 r4 r5 c3 hb (tip_of_not hno) c1 (fun b hob => absurd hob (hno b)) hyv hsrc' (by rw [r6]; exact c4) c5
          exact ⟨_, rv, w', g', fin rv w' k1, .inl rfl, by rw [hd, vfa_put (hlt d hd)]; exact k2⟩
        | func f => simp [baseA] at hbase
        | global _ => simp [baseA] at hbase
      · cases h
    · cases h
  · cases h
end
end Go.Proofs.YtnibelnjflhkgaaDoor.Ab

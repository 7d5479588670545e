/- A row that grows. No condition. -/
import Derived.Test.YtnibelnjflhkgaaDoorAb10
namespace Go.Proofs.YtnibelnjflhkgaaDoor.Ab
set_option linter.unusedVariables false
set_option linter.unusedSimpArgs false
open Go.RowKit

section
variable {P : Program}
/-- What is appended: its length and its cells. -/
structure Src (P : Program) (w : World) (size : Nat) (y : Value) (m : Nat) (news : List Value) : Prop where
  len : ∀ w1 : World, (Builtin.lenOf y).run P w1 = .ok m w1
  cells : ∀ w1 : World, w1.heap = w.heap → (Builtin.firstCells size m y).run P w1 = .ok ⟨news⟩ w1
  one : ∀ v ∈ news, v.oneCell' = true
  long : news.length = m * size

def notInt (P : Program) (u : TypeId) : Bool := match P.underlying u with | some (.slice _) => true | some .string => true | _ => false
theorem notInt_und {u : TypeId} (h : notInt P u = true) : (∃ x, P.underlying u = some (.slice x)) ∨ P.underlying u = some .string := by
  unfold notInt at h
  split at h <;> simp_all

variable {w : World} {t u ty e : TypeId} {i : TypeInfo} {z : Value}
set_option maxHeartbeats 1000000 in
theorem ap_room0 (ht : P.underlying t = some (.slice e)) (hi : P.info? e = some i) (hu : notInt P u = true) {base : Option Addr} {sLen sCap : Nat} {y : Value} (hy : Src P w i.size y 0 []) (hroom : sLen ≤ sCap) :
    (Builtin.append_ #[t, u] ty #[.slice base sLen sCap, y]).run P w = .ok (.slice base sLen sCap) w := by
  have h1 := hy.len w
  have h2 := hy.cells w rfl
  have hdu := notInt_und hu
  cases base with
  | none => rcases hdu with ⟨_, hdu⟩ | hdu <;> simp [Builtin.append_, run_underlying ht, run_underlying hdu, sizeOf, typeInfo, hi, h1, hroom, h2]
  | some b => rcases hdu with ⟨_, hdu⟩ | hdu <;> simp [Builtin.append_, run_underlying ht, run_underlying hdu, sizeOf, typeInfo, hi, h1, hroom, h2, storeCells]
set_option maxHeartbeats 1000000 in
theorem ap_room (ht : P.underlying t = some (.slice e)) (hi : P.info? e = some i) (hu : notInt P u = true) {b sLen sCap m : Nat} {cur : Array Value} {e' : TypeId} {y : Value} {news : List Value} (hg : w.heap[b]? = some (.cells cur e' (0, 0))) (hy : Src P w i.size y m news)
    (hroom : sLen + m ≤ sCap) (hfit : sLen * i.size + news.length ≤ cur.size) :
    (Builtin.append_ #[t, u] ty #[.slice (some ⟨b, 0, none⟩) sLen sCap, y]).run P w = .ok (.slice (some ⟨b, 0, none⟩) (sLen + m) sCap) (w.setRow b ⟨cur.toList.take (sLen * i.size) ++ (news ++ cur.toList.drop (sLen * i.size + news.length))⟩) := by
  have h1 := hy.len w
  have h2 := hy.cells w rfl
  have hdu := notInt_und hu
  have hst := run_storeCells_at P b (sLen * i.size) e' news 0 cur w hg (by simpa using hfit) hy.one
  simp only [Nat.add_zero] at hst
  rcases hdu with ⟨_, hdu⟩ | hdu <;> simp [Builtin.append_, run_underlying ht, run_underlying hdu, sizeOf, typeInfo, hi, h1, hroom, h2, add_mk, hst]
set_option maxHeartbeats 1000000 in
theorem ap_grow (ht : P.underlying t = some (.slice e)) (hi : P.info? e = some i) (hz : i.zero = some z) (hu : notInt P u = true) {base : Option Addr} {sLen sCap m : Nat} {y : Value} {olds news : List Value}
    (ho : ∀ w1 : World, w1.heap = w.heap → (Builtin.firstCells i.size sLen (.slice base sLen sCap)).run P w1 = .ok ⟨olds⟩ w1) (hy : Src P w i.size y m news)
    (hg : sCap < sLen + m) (h63 : sLen + m ≤ 9223372036854775807) (hfit : (sLen + m) * i.bytes ≤ 140737488355328) :
    (Builtin.append_ #[t, u] ty #[.slice base sLen sCap, y]).run P w =
      .ok (.slice (some ⟨w.heap.size, 0, none⟩) (sLen + m) (grownCap w (sLen + m) sCap e)) (w.drew.alloc (.cells ⟨(olds ++ news) ++ (Builtin.zeroCells z.cells (grownCap w (sLen + m) sCap e - (sLen + m))).toList⟩ e)) := by
  have h1 := hy.len w
  have h2 := hy.cells w.drew rfl
  have h4 := ho w.drew rfl
  have hdu := notInt_und hu
  have hn : ¬ (sLen + m ≤ sCap) := by omega
  have h63' : ¬ (9223372036854775807 < ((sLen : Int) + (m : Int))) := by omega
  have hfit' := growslice_fits hg hfit
  have h48' : ¬ (281474976710656 < Builtin.nextslicecap (sLen + m) sCap * i.bytes) := by omega
  rcases hdu with ⟨_, hdu⟩ | hdu <;> (simp [Builtin.append_, run_underlying ht, run_underlying hdu, sizeOf, typeInfo, zeroValue, hi, hz, h1, hn, h63', h48', Question.forced, h2, h4, newRow]; refine ⟨rfl, ?_⟩; congr 2; apply Array.ext'; simp [grownCap])
end

def bytesA (l : List UInt8) : List AV := l.map fun c => AV.int .u8 c.toNat
/-- What is appended, as elements. -/
def srcA (P : Program) (n : Nat) (e u : TypeId) (y : AV) : Option (List AV) :=
  match y with
  | .sl _ m ys => if notInt P u = true ∧ m = n then some ys else none
  | .str l => if notInt P u = true ∧ n = 1 then some (bytesA l) else none
  | _ => none
def baseA (s : ASt) (n : Nat) : Operand → AV
  | .tmp t => s.fr t
  | .const v => constA1 n v
  | _ => .junk
def apFl (fl : Fl) (ys : List AV) : Fl :=
  match fl with
  | .full => if ys.isEmpty then .full else .own
  | _ => .own
def apOut (s : ASt) (d : Nat) (r : AV) : Operand → ASt
  | .tmp t0 => ⟨upd (upd s.fr t0 (strip (s.fr t0))) d r, s.hp⟩
  | _ => ⟨upd s.fr d r, s.hp⟩
def srcOp (s : ASt) (n : Nat) : Operand → AV
  | .const v => if constOK v then strip (constA n v) else .junk
  | y => evA s y
def apSt (P : Program) (s : ASt) (d : Nat) (x y : Operand) (t u : TypeId) : Option ASt :=
  match rowT P t with
  | some (e, n, by_) =>
    match baseA s n x, srcA P n e u (srcOp s n y) with
    | .sl fl sz xs, some ys =>
      if fl ≠ .sh ∧ sz = n ∧ 0 < n ∧ (xs.length + ys.length) * by_ ≤ 140737488355328 ∧ xs.length + ys.length ≤ 9223372036854775807 then
        some (apOut s d (.sl (apFl fl ys) n (xs ++ ys)) x)
      else none
    | _, _ => none
  | none => none

section
variable {P : Program} {g : Gh} {w : World} {s : ASt} {a : Act}
theorem flat_bytes (l : List UInt8) : flat (bytesA l) = bytesA l := by
  unfold bytesA
  induction l with
  | nil => rfl
  | cons n ns ih => simp [flat_cons, AV.cells, ih]
theorem CL_bytes (l : List UInt8) : CL g w (bytesA l) (l.map fun c => Value.int .u8 c.toNat) := by
  induction l with
  | nil => exact .nil
  | cons c l ih => exact .cons _ _ _ _ rfl (.int _ _) ih
theorem srcA_spec {n : Nat} {e u : TypeId} {ya : AV} {yv : Value} {ys : List AV} (hv : VR g w ya yv) (h : srcA P n e u ya = some ys) :
    ∃ news, notInt P u = true ∧ Src P w n yv ys.length news ∧ CL g w (flat ys) news ∧ ∀ x ∈ ys, x.cells.length = n := by
  cases hv <;> simp only [srcA] at h <;> try (cases h; done)
  case str l =>
    split at h
    · rename_i hc
      obtain ⟨hu, rfl⟩ := hc
      simp at h; subst h
      refine ⟨l.map fun c => Value.int .u8 c.toNat, hu, ⟨fun w1 => ?_, fun w1 _ => ?_, ?_, ?_⟩, ?_, ?_⟩
      · simp [Builtin.lenOf, bytesA, ByteArray.size]
      · simp only [Builtin.firstCells, bytesA, List.length_map, Sem.run_pure]
        congr 1
        have : ((⟨⟨l⟩⟩ : ByteArray).extract 0 l.length) = ⟨⟨l⟩⟩ := by
          have := ByteArray.extract_mk l 0 l.length
          simpa using this
        rw [this]
        simp
      · simp [Value.oneCell']
      · simp [bytesA]
      · rw [flat_bytes]; exact CL_bytes l
      · intro x hx; obtain ⟨c, _, rfl⟩ := List.mem_map.1 hx; rfl
    · cases h
  case sl0 fl sz =>
    split at h
    · rename_i hc
      obtain ⟨hu, rfl⟩ := hc
      simp at h; subst h
      refine ⟨[], hu, ⟨fun w1 => by simp [Builtin.lenOf], fun w1 _ => by simp [Builtin.firstCells], by simp, by simp⟩, .nil, by simp⟩
    · cases h
  case sle fl sz a cap h1 h2 =>
    split at h
    · rename_i hc
      obtain ⟨hu, rfl⟩ := hc
      simp at h; subst h
      refine ⟨[], hu, ⟨fun w1 => by simp [Builtin.lenOf], fun w1 _ => by simp [Builtin.firstCells, loadCells, loadCellsFrom], by simp, by simp⟩, .nil, by simp⟩
    · cases h
  case sl fl sz xs b o cap h1 h2 h3 h4 h5 =>
    split at h
    · rename_i hc
      obtain ⟨hu, rfl⟩ := hc
      simp at h; subst h
      obtain ⟨vs, k1, k2⟩ := h5.toCL
      have hl : vs.length = xs.length * sz := by rw [← k1.length, flat_length h4]
      refine ⟨vs, hu, ⟨fun w1 => by simp [Builtin.lenOf], fun w1 hw => ?_, k1.one, hl⟩, k1, h4⟩
      exact run_firstCells_some w1 sz xs.length ⟨b, o, none⟩ xs.length cap vs hl (fun j v hj => by
        rw [add_mk]
        have := k2 j v hj
        rwa [World.cell?_of_block (w := w) (w' := w1) (a := ⟨b, o + j, none⟩) (by rw [hw])])
    · cases h

theorem SR.tr_strip (h : SR s (vfa a) w g) (t : Nat) : Tr s (vfa a) w g ⟨upd s.fr t (strip (s.fr t)), s.hp⟩ (vfa a) w g :=
  ⟨(h.stripSlot t).1, Stp.refl _ _ _, fun b ⟨p, hp⟩ => .inl ⟨p, ((h.stripSlot t).2 p b hp).1⟩⟩

/-- An owner's row grows where it lies. -/
theorem SR.growRow {s s0 : ASt} {vf : Nat → Value} (h0 : SR s0 vf w g) (h : SR s vf w g) (hback : ∀ p b, Own s vf w g p b → Own s0 vf w g p b) (d : Nat) {b n cap : Nat} {xs ys : List AV} {cur : List Value} {news : List Value} {e : TypeId}
    (hO : OwnB s0 vf w g b) (hno : ∀ p, ¬ Own s vf w g p b) (hg : w.heap[b]? = some (.cells ⟨cur⟩ e (0, 0))) (hsize : cur.length = cap * n) (hG : ∀ j, xs.length * n ≤ j → ¬ g.G b j) (hρ : ∀ l, l < g.n → g.ρ l ≠ b)
    (hx : CR g w b 0 (flat xs)) (hxs : ∀ x ∈ xs, x.cells.length = n) (hys : ∀ x ∈ ys, x.cells.length = n) (hc : CL g w (flat ys) news) (hcap : xs.length + ys.length ≤ cap) (hmax : cap ≤ maxLen) :
    ∃ g', Tr s0 vf w g ⟨upd s.fr d (.sl .own n (xs ++ ys)), s.hp⟩ (updv vf d (.slice (some ⟨b, 0, none⟩) (xs.length + ys.length) cap)) (w.setRow b ⟨cur.take (xs.length * n) ++ (news ++ cur.drop (xs.length * n + news.length))⟩) g' := by
  let w' := w.setRow b ⟨cur.take (xs.length * n) ++ (news ++ cur.drop (xs.length * n + news.length))⟩
  let g' : Gh := ⟨g.n, fun b' o => g.G b' o ∨ (b' = b ∧ xs.length * n ≤ o ∧ o < xs.length * n + news.length), g.ρ⟩
  have hnl : news.length = ys.length * n := by rw [← hc.length, flat_length hys]
  have hle : xs.length * n + news.length ≤ cur.length := by rw [hnl, hsize, ← Nat.add_mul]; exact Nat.mul_le_mul_right _ hcap
  have hnew : w'.heap[b]? = some (.cells ⟨cur.take (xs.length * n) ++ (news ++ cur.drop (xs.length * n + news.length))⟩ e (0, 0)) := setRow_heap w _ _ _ e (0, 0) hg
  have hold : ∀ k, k ≠ b → w'.heap[k]? = w.heap[k]? := fun k hk => setRow_other w _ k _ hk
  have hbl : b < w.heap.size := (Array.getElem?_eq_some_iff.1 hg).1
  have htl : (cur.take (xs.length * n)).length = xs.length * n := by simp; omega
  have hcell : ∀ b' o, g.G b' o → w'.cell? ⟨b', o, none⟩ = w.cell? ⟨b', o, none⟩ := fun b' o hG' => by
    by_cases e1 : b' = b
    · subst e1
      have ho : o < xs.length * n := Nat.lt_of_not_le fun hle => hG o hle hG'
      rw [cell_of_row w' _ o _ e (0, 0) hnew, cell_of_row w _ o _ e (0, 0) hg]
      simp only [List.getElem?_toArray]
      rw [List.getElem?_append_left (by omega), List.getElem?_take_of_lt ho]
    · exact World.cell?_of_block (a := ⟨b', o, none⟩) (hold b' e1)
  have ext : Ext g w g' w' := ⟨Nat.le_refl _, fun _ _ => rfl, fun _ _ h => .inl h, hcell⟩
  have hsr : SR s vf w' g' := h.frame rfl (fun _ _ => rfl) (fun b o hG => .inl hG) (fun b' o hG' => by
      rcases hG' with hG' | ⟨rfl, _⟩
      · exact .inl hG'
      · exact .inr ⟨by simpa [w'] using hbl, hρ, hno⟩) (by simp [w'])
    hcell (fun l hl => hold _ (hρ l hl)) (fun p b' hp => hold b' (fun e => hno p (e ▸ hp)))
  have hcr : CR g' w' b 0 (flat (xs ++ ys)) := by
    rw [flat_append]
    refine (hx.mono ext).join (CR.ofCL (hc.mono ext) (fun j v hj => ?_) (fun j hj => ?_))
    · rw [cell_of_row w' _ _ _ e (0, 0) hnew]
      simp only [List.getElem?_toArray]
      have hjl : j < news.length := (List.getElem?_eq_some_iff.1 hj).1
      rw [flat_length hxs, Nat.zero_add, List.getElem?_append_right (by omega), htl, Nat.add_sub_cancel_left, List.getElem?_append_left hjl]
      exact hj
    · right
      rw [flat_length hxs, Nat.zero_add]
      have := hc.length
      exact ⟨rfl, by omega, by omega⟩
  have hlen : (xs ++ ys).length = xs.length + ys.length := by simp
  have hvr : VR g' w' (.sl .own n (xs ++ ys)) (.slice (some ⟨b, 0, none⟩) (xs.length + ys.length) cap) := by
    rw [← hlen]
    exact .sl .own n _ b 0 cap (by omega) hmax (fun e => by cases e) (fun x hx' => by
      rcases List.mem_append.1 hx' with h | h
      · exact hxs x h
      · exact hys x h) hcr
  have htip : Tip g' w' (.sl .own n (xs ++ ys)) (.slice (some ⟨b, 0, none⟩) (xs.length + ys.length) cap) := by
    intro sz' xs' b' o len cap' e1 e2
    simp only [AV.sl.injEq, true_and] at e1
    obtain ⟨rfl, rfl⟩ := e1
    simp only [Value.slice.injEq, Option.some.injEq, Addr.mk.injEq, and_true] at e2
    obtain ⟨⟨rfl, rfl⟩, rfl, rfl⟩ := e2
    refine ⟨rfl, ⟨_, e, hnew, by simp; omega⟩, fun j hj hG' => ?_, hρ⟩
    rw [hlen, Nat.add_mul] at hj
    rcases hG' with hG' | ⟨_, _, hG'⟩
    · exact hG j (by omega) hG'
    · omega
  have hownback : ∀ p b', Own s vf w' g' p b' → Own s vf w g p b' := by
    intro p b' hp
    cases p with
    | slot i => exact hp
    | cell l j =>
      obtain ⟨hl, cs, av, v, h1, h2, h3, h4⟩ := hp
      have hl' : l < g.n := h.n ▸ hl
      rw [show g'.ρ l = g.ρ l from rfl, World.cell?_of_block (w := w) (w' := w') (a := ⟨g.ρ l, j, none⟩) (hold _ (hρ l hl'))] at h3
      exact ⟨hl, cs, av, v, h1, h2, h3, h4⟩
  obtain ⟨k1, k2⟩ := hsr.putOwn d hvr htip (fun b' ⟨_, _, _, _, _, _, e2⟩ p _ hp => by
    simp only [Value.slice.injEq, Option.some.injEq, Addr.mk.injEq, and_true] at e2
    obtain ⟨⟨rfl, _⟩, _⟩ := e2
    exact hno p (hownback p _ hp))
  refine ⟨g', k1, { ext with os := rfl, tape := rfl, output := rfl, size := by simp, blk := fun k hk _ hk2 => hold k (fun e => hk2 (e ▸ hO)), newG := fun b' o hG' => ?_, newρ := fun l h1 h2 => absurd h1 (Nat.not_le.2 h2) }, fun b' hb' => .inl ?_⟩
  · rcases hG' with hG' | ⟨rfl, _⟩
    · exact .inl hG'
    · exact .inr (.inr hO)
  · rcases k2 b' hb' with ⟨p, hp⟩ | ⟨_, _, _, _, _, _, e2⟩
    · exact ⟨p, hback p b' (hownback p b' hp)⟩
    · simp only [Value.slice.injEq, Option.some.injEq, Addr.mk.injEq, and_true] at e2
      obtain ⟨⟨rfl, _⟩, _⟩ := e2
      exact hO
end
end Go.Proofs.YtnibelnjflhkgaaDoor.Ab

/- The page's own joining of rising names: the walk. No condition beyond the reading's own. -/
import Derived.Test.YthaoooohomfkcaaTmRNames0
import Derived.Test.YthaoooohomfkcaaAA1
namespace Go.Proofs.Ythaoooohomfkcaa.A
open Go Go.RowKit
open Go.Proofs.YthaoooohomfkcaaW.PrintWords Go.Proofs.YthaoooohomfkcaaW.PrintLast Go.Proofs.YthaoooohomfkcaaW.PrintMore
open Go.Proofs.Ythaoooohomfkcaa.AA
set_option linter.unusedVariables false
set_option linter.unusedSimpArgs false
theorem copy_l0 (t : List ByteArray) : ∀ (p acc : List ByteArray) (k : Nat), (p ++ t).length ≤ 1000001 → acc.length = p.length → t.length < k → almagestref0_CopyStrings.l0 k (p ++ t) acc (p.length : Int) = some (acc ++ t) := by
 induction t with
 | nil =>
  intro p acc k h ha hk
  obtain ⟨k, rfl⟩ : ∃ m, k = m + 1 := ⟨k - 1, by omega⟩
  simp [almagestref0_CopyStrings.l0]
 | cons x t ih =>
  intro p acc k h ha hk
  obtain ⟨k, rfl⟩ : ∃ m, k = m + 1 := ⟨k - 1, by omega⟩
  simp only [List.length_append, List.length_cons] at h hk
  simp only [almagestref0_CopyStrings.l0]
  rw [if_pos (by simp only [List.length_append, List.length_cons]; omega), if_pos (by omega), if_pos (by omega)]
  have e : rdOf ByteArray.empty (p ++ x :: t) (p.length : Int) = x := by
   unfold rdOf
   rw [Int.toNat_natCast, List.getD_eq_getElem?_getD, List.getElem?_append_right (Nat.le_refl _)]
   simp
  have e2 : wrap64 ((p.length : Int) + 1) = ((p ++ [x]).length : Int) := by
   simp only [List.length_append, List.length_cons, List.length_nil]; unfold wrap64; omega
  rw [e, e2]
  have := ih (p ++ [x]) (acc ++ [x]) k (by simp; omega) (by simp; omega) (by omega)
  rw [List.append_assoc] at this
  simpa using this
theorem copy_ok (l : List ByteArray) (h : l.length ≤ 1000001) : almagestref0_CopyStrings.f 1000002 l = some l := by
 have := copy_l0 l [] [] 1000002 (by simpa using h) rfl (by omega)
 simpa [almagestref0_CopyStrings.f] using this

theorem get_str {l : List ByteArray} {i : Nat} (h : i < l.length) : l[i]? = some (rdOf ByteArray.empty l (i : Int)) := by
 unfold rdOf
 rw [List.getD_eq_getElem?_getD, Int.toNat_natCast, List.getElem?_eq_getElem h]
 rfl
theorem take_str {l : List ByteArray} {i : Nat} (h : i < l.length) : l.take (i + 1) = l.take i ++ [rdOf ByteArray.empty l (i : Int)] := by
 rw [List.take_add_one, get_str h]; rfl
theorem posB_le (s : ByteArray) : ∀ l : List ByteArray, posB s l ≤ l.length := by
 intro l
 induction l with
 | nil => simp [posB]
 | cons x l ih => simp only [posB]; split <;> simp <;> omega
theorem posB_next {s x : ByteArray} : ∀ {l : List ByteArray} {j : Nat}, j ≤ posB s l → l[j]? = some x → Op.bytesLess x.toList s.toList = true → j + 1 ≤ posB s l := by
 intro l
 induction l with
 | nil => intro j _ h; simp at h
 | cons y l ih =>
  intro j hj h hx
  cases j with
  | zero =>
   simp only [List.getElem?_cons_zero, Option.some.injEq] at h
   subst h
   simp only [posB]; rw [if_pos hx]; omega
  | succ j =>
   simp only [List.getElem?_cons_succ] at h
   simp only [posB] at hj ⊢
   split at hj
   ·
    rename_i hy
    rw [if_pos hy]
    have := ih (by omega) h hx
    omega
   ·
    omega
theorem posB_here {s x : ByteArray} : ∀ {l : List ByteArray} {j : Nat}, j ≤ posB s l → l[j]? = some x → ¬ Op.bytesLess x.toList s.toList = true → posB s l = j := by
 intro l
 induction l with
 | nil => intro j _ h; simp at h
 | cons y l ih =>
  intro j hj h hx
  cases j with
  | zero =>
   simp only [List.getElem?_cons_zero, Option.some.injEq] at h
   subst h
   simp only [posB]; rw [if_neg hx]
  | succ j =>
   simp only [List.getElem?_cons_succ] at h
   simp only [posB] at hj ⊢
   split at hj
   ·
    rename_i hy
    rw [if_pos hy, ih (by omega) h hx]
   ·
    omega
theorem drop_head {l : List ByteArray} {j : Nat} {x : ByteArray} (h : l[j]? = some x) : (l.drop j).head? = some x := by
 rw [List.head?_drop, h]
theorem insB_same {s x : ByteArray} {l : List ByteArray} {j : Nat} (hp : posB s l = j) (h : l[j]? = some x) (he : x.toList = s.toList) : insB l s = l := by
 unfold insB
 rw [hp, drop_head h]
 simp [he]
theorem insB_other {s x : ByteArray} {l : List ByteArray} {j : Nat} (hp : posB s l = j) (h : l[j]? = some x) (he : ¬ x.toList = s.toList) : insB l s = l.take j ++ s :: l.drop j := by
 unfold insB
 rw [hp, drop_head h]
 simp [he]
theorem insB_end {s : ByteArray} {l : List ByteArray} (hp : posB s l = l.length) : insB l s = l.take l.length ++ s :: l.drop l.length := by
 unfold insB
 rw [hp]
 simp
theorem insB_len (l : List ByteArray) (s : ByteArray) : (insB l s).length ≤ l.length + 1 := by
 unfold insB
 have := posB_le s l
 split
 ·
  omega
 ·
  simp only [List.length_append, List.length_take, List.length_cons, List.length_drop]; omega
theorem fold_len : ∀ (t l : List ByteArray), (t.foldl insB l).length ≤ l.length + t.length := by
 intro t
 induction t with
 | nil => intro l; simp
 | cons x t ih => intro l; have := ih (insB l x); have := insB_len l x; simp only [List.foldl_cons, List.length_cons]; omega
theorem C_take {α : Type} {d : Kd α} {w : World} {A : Option Addr} {n j : Nat} {xs : List α} (h : d.C w A n xs) (hj : j ≤ n) : d.C w A j (xs.take j) :=
 ⟨by rw [List.length_take, h.1]; omega, by have := h.2.1; omega, fun hn => by
  obtain ⟨ad, e, hc⟩ := h.2.2 (by omega)
  refine ⟨ad, e, fun i p hp => hc i p ?_⟩
  rw [List.getElem?_take] at hp
  split at hp
  ·
   exact hp
  ·
   cases hp⟩
theorem C_drop {α : Type} {d : Kd α} {w : World} {ad : Addr} {n j : Nat} {xs : List α} (h : d.C w (some ad) n xs) (hj : j ≤ n) : d.C w (some (ad.add (j * d.sz))) (n - j) (xs.drop j) :=
 ⟨by rw [List.length_drop, h.1], by have := h.2.1; omega, fun hn => by
  obtain ⟨ad', e, hc⟩ := h.2.2 (by omega)
  cases e
  refine ⟨_, rfl, fun i p hp => ?_⟩
  rw [List.getElem?_drop] at hp
  obtain ⟨c, h1, h2, h3⟩ := hc (j + i) p hp
  refine ⟨c, h1, h2, fun q u hu => ?_⟩
  have := h3 q u hu
  rw [Addr.add_add]
  rw [show j * d.sz + (i * d.sz + q) = (j + i) * d.sz + q by rw [Nat.add_mul]; omega]
  exact this⟩
theorem copy_cut (L : List ByteArray) (ad : Addr) (j c : Nat) (w : World) (hL : L.length ≤ 1000000) (hC : Kd.C Kd.string w (some ad) L.length L) (hj : j ≤ L.length) (hc : j ≤ c) :
  Calls Try.prog 54 #[.slice (some ad) j c] w fun e w' => ∃ v0_ : Value, e = .returned (v0_) ∧ Kd.R Kd.string 9 w' w.heap.size (fun _ => True) v0_ (L.take j) ∧ Below w.heap.size w w' := by
 have e : (L.take j).length = j := by rw [List.length_take]; omega
 have h := almagestref0_CopyStrings.calls 1000002 (some ad) c (L.take j) (L.take j) w (by rw [e]; exact C_take hC hj) (by omega) (copy_ok _ (by omega))
 rw [e] at h
 exact h
theorem infoS : (Try.prog.info? 9).map (fun i => (i.zero, i.size, i.bytes)) = some (some (.string ⟨#[]⟩), 1, 16) := by kernel_rfl
theorem lit_reads {W : World} {b : Nat} {s : ByteArray} {t : TypeId} (h : W.heap[b]? = some (.cells #[.string s] t (0, 0))) : ReadsRow (fun (x : ByteArray) cs => cs = [Value.string x]) 1 W (some ⟨b, 0, none⟩) 1 [s] :=
 ⟨rfl, by decide, fun _ => ⟨_, rfl, fun q p hp => by
  cases q with
  | zero =>
   simp only [List.getElem?_cons_zero, Option.some.injEq] at hp
   subst hp
   refine ⟨[.string s], rfl, rfl, fun i u hu => ?_⟩
   cases i with
   | zero =>
    simp only [List.getElem?_cons_zero, Option.some.injEq] at hu
    subst hu
    have e := blk_cell h 0
    simpa [Addr.add] using e
   | succ i => simp at hu
  | succ q => simp at hp⟩⟩
/-- One behind the first ones, and the others behind it: the two appends. -/
theorem below_wr {wr W w4 : World} {v : Value} {base : Nat} {xs : List ByteArray} {ok : Nat → Prop} (h : Below wr.heap.size wr W) (hR : Kd.R Kd.string 9 W base ok v xs) (hb : wr.heap.size ≤ base) (hg : W.grownBy w4 v.ownBlock) : Below wr.heap.size wr w4 :=
 h.grown hg h.size (fun k hk => Nat.le_trans hb (Kd.R_base hR k hk))
theorem R_none {d : Kd ByteArray} {e : Nat} {w : World} {base n c : Nat} {ok : Nat → Prop} {xs : List ByteArray} (h : d.R e w base ok (.slice none n c) xs) : n = 0 ∧ c = 0 := by
 obtain ⟨inner, ho⟩ := Kd.R_own h
 rcases ho.2 with ⟨h1, _⟩ | ⟨b, cap, cur, h1, _⟩
 ·
  injection h1 with _ h2 h3
  exact ⟨h2, h3⟩
 ·
  injection h1 with h2
  cases h2
theorem copy_nil (w : World) : Calls Try.prog 54 #[.slice none 0 0] w fun e w' => ∃ v0_ : Value, e = .returned (v0_) ∧ Kd.R Kd.string 9 w' w.heap.size (fun _ => True) v0_ ([] : List ByteArray) ∧ Below w.heap.size w w' :=
 almagestref0_CopyStrings.calls 1000002 none 0 [] [] w (Kd.C_nil _ _) (Nat.le_refl _) (copy_ok [] (by simp))
theorem reads0 {R : ByteArray → List Value → Prop} {sz : Nat} (W : World) (A : Option Addr) (L : List ByteArray) : ReadsRow R sz W A 0 (L.drop L.length) := by
 rw [List.drop_length]
 exact ⟨rfl, by omega, fun h => absurd h (by omega)⟩
set_option maxHeartbeats 2000000 in
set_option maxRecDepth 100000 in
theorem almagestref1_Names.calls (A0 : Option Addr) (c0 : Nat) (l0 : List ByteArray) (A1 : Option Addr) (c1 : Nat) (l1 : List ByteArray) (r : List ByteArray) (w : World) (hr0 : Kd.C Kd.string w A0 l0.length l0) (hc0 : l0.length ≤ c0) (hr1 : Kd.C Kd.string w A1 l1.length l1) (hc1 : l1.length ≤ c1) (h : almagestref1_Names.f l0 l1 = some r) :
  Calls Try.prog 72 #[.slice A0 l0.length c0, .slice A1 l1.length c1] w fun e w' => ∃ v0_ : Value, e = .returned (v0_) ∧ Kd.R Kd.string 9 w' w.heap.size (fun _ => True) v0_ r ∧ Below w.heap.size w w' := by
 unfold almagestref1_Names.f at h
 by_cases hl : l0.length + l1.length ≤ 1000000
 case neg => rw [if_neg hl] at h; cases h
 rw [if_pos hl] at h
 obtain rfl := Option.some.inj h
 clear h
 have HL := Aside0.mk hl
 have HC1 := Aside0.mk hr1
 have HN1 := Aside0.mk hc1
 have HCP := Aside0.mk (copy_ok l0 (by omega))
 have HR0 := Aside0.mk hr0
 have HN0 := Aside0.mk hc0
 have HB := Aside0.mk (Below.refl w.heap.size w)
 clear hl hr1 hc1 hr0 hc0
 go_enter Try.func72, Try.ntmps72
 go_wp2_with fail
 refine (almagestref0_CopyStrings.calls 1000002 A0 c0 l0 l0 _ HR0.out HN0.out HCP.out).mono ?_
 rintro e w1 ⟨v1, rfl, hR, hb⟩
 have H1 := Aside0.mk (below_step HB.out hb)
 have H2 := Aside0.mk hR
 clear HB HR0 HN0 HCP hR hb
 go_wp2
 go_loopg [5, 6] (l1.length + 1) (fun kq v5 v6 w' => ∃ i : Nat, v6 = .int .i64 (i : Int) ∧ Aside0 (kq + i = l1.length + 1) ∧ Aside0 (i ≤ l1.length) ∧ Aside0 (Below w.heap.size w w') ∧ Aside0 (Kd.R Kd.string 9 w' w.heap.size (fun _ => True) v5 ((l1.take i).foldl insB l0)))
 case atStart => exact ⟨0, rfl, ⟨rfl⟩, ⟨Nat.zero_le _⟩, H1, H2⟩
 case round =>
  clear H1 H2
  obtain ⟨i, rfl, HQ, HI, H1, H2⟩ := hrel
  obtain ⟨g3, rfl⟩ : ∃ g, gk = g + 1 := ⟨gk - 1, by have := HQ.out; have := HI.out; omega⟩
  obtain ⟨A5, c5, e5, hl5, HC5⟩ := Kd.R_reads H2.out
  by_cases hi : i < l1.length
  ·
   have p1 : (0 : Int) ≤ (i : Int) := by omega
   have q1 : (i : Int) < (l1.length : Int) := by omega
   have bd1 : (i : Int) ≤ 1000000 := by have := HL.out; omega
   obtain ⟨ad, ead, y0⟩ := Kd.at_string HC1.out (i : Int) p1 q1
   cases ead
   rw [Int.toNat_natCast] at y0
   have HT := Aside0.mk (take_str hi)
   have HLen := Aside0.mk (fold_len (l1.take i) l0)
   obtain ⟨s, hs⟩ : ∃ s, rdOf ByteArray.empty l1 (i : Int) = s := ⟨_, rfl⟩
   rw [hs] at y0 HT
   have HS := Aside0.mk hs
   clear hs
   obtain ⟨L, hLf⟩ : ∃ L, (l1.take i).foldl insB l0 = L := ⟨_, rfl⟩
   rw [hLf] at H2 HC5 e5 hl5 HLen
   have HFO := Aside0.mk hLf
   clear hLf
   have HLL := Aside0.mk (show L.length ≤ 1000000 by have h1 := HLen.out; have h2 := HL.out; rw [List.length_take] at h1; omega)
   have q1b : decide ((i : Int) < (l1.length : Int)) = true := decide_eq_true q1
   subst e5
   have HC5 := Aside0.mk HC5
   have HL5 := Aside0.mk hl5
   clear hl5
   go_wp2
   go_loopg [7] (L.length + 1) (fun kq v7 w' => ∃ j : Nat, v7 = .int .i64 (j : Int) ∧ Aside0 (kq + j = L.length + 1) ∧ Aside0 (j ≤ posB s L) ∧ Aside0 (Below w.heap.size w w') ∧ Aside0 (Kd.R Kd.string 9 w' w.heap.size (fun _ => True) (.slice A5 L.length c5) L))
   case atStart => exact ⟨0, rfl, ⟨rfl⟩, ⟨Nat.zero_le _⟩, H1, H2⟩
   case round =>
    clear H1 H2 HC5 y0
    obtain ⟨j, rfl, HQ2, HJ, H1, H2⟩ := hrel
    have HP := Aside0.mk (posB_le s L)
    obtain ⟨g4, rfl⟩ : ∃ g, gk = g + 1 := ⟨gk - 1, by have := HQ2.out; have := HJ.out; have := HP.out; omega⟩
    obtain ⟨A6, c6, e6, hl6, HC6⟩ := Kd.R_reads H2.out
    cases e6
    obtain ⟨ad1, ead1, y0⟩ := Kd.at_string HC1.out (i : Int) p1 q1
    cases ead1
    rw [Int.toNat_natCast] at y0
    replace y0 := pw_cell_below H1.out y0
    rw [HS.out] at y0
    have p1t := eq_true p1
    have q1t := eq_true q1
    by_cases hj : j < L.length
    ·
     have p2 : (0 : Int) ≤ (j : Int) := by omega
     have q2 : (j : Int) < (L.length : Int) := by omega
     have bd2 : (j : Int) ≤ 1000000 := by have := HLL.out; omega
     obtain ⟨ad6, ead6, y6⟩ := Kd.at_string HC6 (j : Int) p2 q2
     cases ead6
     rw [Int.toNat_natCast] at y6
     have HG := Aside0.mk (get_str hj)
     have HC6' := Aside0.mk HC6
     clear HC6
     generalize rdOf ByteArray.empty L (j : Int) = x at *
     have q2b : decide ((j : Int) < (L.length : Int)) = true := decide_eq_true q2
     have q2c : decide (j < L.length) = true := decide_eq_true hj
     have p2t := eq_true p2
     have q2t := eq_true q2
     by_cases hx : Op.bytesLess x.toList s.toList = true
     ·
      go_wp2_with fail
      go_quiet (fail)
      have HJ3 := Aside0.mk (posB_next HJ.out HG.out hx)
      go_wp2
      go_roundg g4
      case measure => omega
      case rel => exact ⟨j + 1, by go_num, ⟨by have := HQ2.out; omega⟩, HJ3, ⟨pw_below_drewN H1.out _⟩, ⟨Kd.R_drewN H2.out _⟩⟩
     ·
      have HE := Aside0.mk (posB_here HJ.out HG.out hx)
      have hxb : Op.bytesLess x.toList s.toList = false := by simpa using hx
      by_cases he : x.toList = s.toList
      ·
       have heb : (x.toList == s.toList) = true := beq_iff_eq.2 he
       have HIN := Aside0.mk (insB_same HE.out HG.out he)
       clear he hx
       go_wp2_with fail
       go_quiet (fail)
       go_wp2
       go_quiet (fail)
       go_wp2
       go_roundg g3
       case measure => omega
       case rel => exact ⟨i + 1, by go_num, ⟨by have := HQ.out; omega⟩, ⟨by omega⟩, ⟨pw_below_drewN H1.out _⟩, ⟨by rw [HT.out, List.foldl_append]; simp only [List.foldl_cons, List.foldl_nil]; rw [HFO.out, HIN.out]; exact Kd.R_drewN H2.out _⟩⟩
      ·
       have heb : (x.toList == s.toList) = false := beq_eq_false_iff_ne.2 he
       have HIN := Aside0.mk (insB_other HE.out HG.out he)
       clear he hx
       go_wp2_with fail
       go_quiet (fail)
       go_wp2
       go_quiet (fail)
       go_wp2
       clear y6
       have HBB := Aside0.mk (Below.refl wr.heap.size wr)
       have HDR := Aside0.mk (fun (W : World) (hW : Below wr.heap.size wr W) => (show ReadsRow (fun (x : ByteArray) cs => cs = [Value.string x]) 1 W (some (ad6.add j)) (L.length - j) (L.drop j) by have h := C_drop (Kd.C_below HC6'.out hW) (Nat.le_of_lt hj); rw [show j * Kd.string.sz = j from Nat.mul_one j] at h; exact h))
       have s1 := eq_true (show (j : Int) ≤ (c5 : Int) by omega)
       have s2 := eq_true (show j ≤ c5 by omega)
       have s3 := eq_true (show (j : Int) ≤ (L.length : Int) by omega)
       have s4 := eq_true (show j ≤ L.length by omega)
       have s5 := eq_true (show (L.length : Int) ≤ (c5 : Int) by omega)
       have s6 := eq_true (show L.length ≤ c5 by omega)
       have s7 := eq_false (show ¬ c5 = j by omega)
       have s8 := eq_false (show ¬ j = c5 by omega)
       have s9 := eq_true (show j < c5 by omega)
       go_region_held3 (fun W => W.cell? (ad.add i) = some (.string s)) (go_keep) (first
         | (go_at_call 54; refine (copy_cut L ad6 j c5 _ HLL.out (by exact Kd.C_below HC6'.out (by repeat (first | exact HBB.out | apply below_alloc | apply pw_below_drewN | apply below_drew1))) (Nat.le_of_lt hj) (by omega)).mono ?_; rintro e w3 ⟨v3, rfl, hR3, hb3⟩; (first | have n5 := Aside0.mk (blk_below (heap_alloc_new _ (Obj.cells #[.string s] 9)) hb3) | skip); have n1 := Aside0.mk (below_step (by repeat (first | exact HBB.out | apply below_alloc | apply pw_below_drewN | apply below_drew1)) hb3); have n2 := Aside0.mk (show Kd.R Kd.string 9 w3 wr.heap.size (fun _ => True) v3 (L.take j) from Kd.R_lower hR3 (by exact below_size (by repeat (first | exact HBB.out | apply below_alloc | apply pw_below_drewN | apply below_drew1)))); clear HBB hR3; have HBB := n1; have HR3 := n2; clear n1 n2; have y0n := pw_cell_below HBB.out y0)
         | (refine Kd.R_append_rows_step Kd.string (Rr := fun (x : ByteArray) cs => cs = [Value.string x]) (w0 := wr) wr.heap.size (by rfl) (.tmp 51) (.tmp 56) 23 9 (.string ⟨#[]⟩) 16 (by rfl) Try.underlying23 infoS (by rfl) (by decide) (by decide) v3 (L.take j) [s] _ 1 1 (fun _ => True) (fun _ => False) (by rfl) (by rfl) (Kd.R_alloc HR3.out _) (lit_reads (heap_alloc_new w3 _)) (fun _ _ h => h) (fun _ h => h.elim) (fun _ _ => trivial) (by repeat (first | exact HBB.out | apply below_alloc | apply pw_below_drewN | apply below_drew1)) (below_size (by repeat (first | exact HBB.out | apply below_alloc | apply pw_below_drewN | apply below_drew1))) (by have := HLL.out; have := HJ.out; rw [List.length_take]; omega) ?_; intro v4 w4 hR4 hB4 hg4 _; have n1 := Aside0.mk hB4; have n2 := Aside0.mk hR4; clear hB4 hR4 hg4; have HBB4 := n1; have HR4 := n2; clear n1 n2; have y0m := pw_cell_below HBB4.out y0)
         | (refine Kd.R_append_rows_step Kd.string (Rr := fun (x : ByteArray) cs => cs = [Value.string x]) (w0 := wr) wr.heap.size (by rfl) (.tmp 51) (.tmp 56) 23 9 (.string ⟨#[]⟩) 16 (by rfl) Try.underlying23 infoS (by rfl) (by decide) (by decide) v3 (L.take j) [s] _ 1 1 (fun _ => True) (fun _ => False) (by rfl) (by rfl) HR3.out (lit_reads n5.out) (fun _ _ h => h) (fun _ h => h.elim) (fun _ _ => trivial) (by repeat (first | exact HBB.out | apply below_alloc | apply pw_below_drewN | apply below_drew1)) (below_size (by repeat (first | exact HBB.out | apply below_alloc | apply pw_below_drewN | apply below_drew1))) (by have := HLL.out; have := HJ.out; rw [List.length_take]; omega) ?_; intro v4 w4 hR4 hB4 hg4 _; have n1 := Aside0.mk hB4; have n2 := Aside0.mk hR4; clear hB4 hR4 hg4; have HBB4 := n1; have HR4 := n2; clear n1 n2; have y0m := pw_cell_below HBB4.out y0)
         | (refine Kd.R_append_rows_step Kd.string (Rr := fun (x : ByteArray) cs => cs = [Value.string x]) (w0 := wr) wr.heap.size (by rfl) (.tmp 57) (.tmp 60) 23 9 (.string ⟨#[]⟩) 16 (by rfl) Try.underlying23 infoS (by rfl) (by decide) (by decide) v4 (L.take j ++ [s]) (L.drop j) _ (L.length - j) (c5 - j) (fun _ => True) (fun _ => False) (by rfl) (by rfl) HR4.out (by exact HDR.out _ HBB4.out) (fun _ _ h => h) (fun _ h => h.elim) (fun _ _ => trivial) HBB4.out HBB4.out.size (by have := HLL.out; simp only [List.length_append, List.length_take, List.length_singleton]; omega) ?_; intro v5 w5 hR5 hB5 hg5 _; have n1 := Aside0.mk hB5; have n2 := Aside0.mk hR5; clear hB5 hR5 hg5; have HBB5 := n1; have HR5 := n2; clear n1 n2; have y0p := pw_cell_below HBB5.out y0)
         | fail)
       all_goals
        go_wp2
        go_roundg g3
        case measure => omega
        case rel => exact ⟨i + 1, by go_num, ⟨by have := HQ.out; omega⟩, ⟨by omega⟩, ⟨below_step H1.out HBB5.out⟩, ⟨by rw [HT.out, List.foldl_append]; simp only [List.foldl_cons, List.foldl_nil]; rw [HFO.out, HIN.out]; have h := Kd.R_lower HR5.out (below_size H1.out); simpa [List.append_assoc] using h⟩⟩
    ·
     obtain rfl : j = L.length := by have := HJ.out; have := HP.out; omega
     have HE := Aside0.mk (show posB s L = L.length by have := HJ.out; have := HP.out; omega)
     have HIN := Aside0.mk (insB_end HE.out)
     have q2b : decide ((L.length : Int) < (L.length : Int)) = false := decide_eq_false (by omega)
     have q2c : decide (L.length < L.length) = false := decide_eq_false (by omega)
     have bd2 : (L.length : Int) ≤ 1000000 := by have := HLL.out; omega
     have HC6' := Aside0.mk HC6
     clear HC6
     go_wp2_with fail
     go_quiet (fail)
     go_wp2
     go_quiet (fail)
     go_wp2
     have HBB := Aside0.mk (Below.refl wr.heap.size wr)
     cases A5 with
     | none =>
      obtain ⟨e1, e2⟩ := R_none H2.out
      obtain rfl : L = [] := List.eq_nil_of_length_eq_zero e1
      subst e2
      clear HC6' hl6 e1
      go_region_held3 (fun W => W.cell? (ad.add i) = some (.string s)) (go_keep) (first
         | (go_at_call 54; refine (copy_nil _).mono ?_; rintro e w3 ⟨v3, rfl, hR3, hb3⟩; (first | have n5 := Aside0.mk (blk_below (heap_alloc_new _ (Obj.cells #[.string s] 9)) hb3) | skip); have n1 := Aside0.mk (below_step (by repeat (first | exact HBB.out | apply below_alloc | apply pw_below_drewN | apply below_drew1)) hb3); have n2 := Aside0.mk (show Kd.R Kd.string 9 w3 wr.heap.size (fun _ => True) v3 ([] : List ByteArray) from Kd.R_lower hR3 (by exact below_size (by repeat (first | exact HBB.out | apply below_alloc | apply pw_below_drewN | apply below_drew1)))); clear HBB hR3; have HBB := n1; have HR3 := n2; clear n1 n2; have y0n := pw_cell_below HBB.out y0)
         | (refine Kd.R_append_rows_step Kd.string (Rr := fun (x : ByteArray) cs => cs = [Value.string x]) (w0 := wr) wr.heap.size (by rfl) (.tmp 51) (.tmp 56) 23 9 (.string ⟨#[]⟩) 16 (by rfl) Try.underlying23 infoS (by rfl) (by decide) (by decide) v3 ([] : List ByteArray) [s] _ 1 1 (fun _ => True) (fun _ => False) (by rfl) (by rfl) (Kd.R_alloc HR3.out _) (lit_reads (heap_alloc_new w3 _)) (fun _ _ h => h) (fun _ h => h.elim) (fun _ _ => trivial) (by repeat (first | exact HBB.out | apply below_alloc | apply pw_below_drewN | apply below_drew1)) (below_size (by repeat (first | exact HBB.out | apply below_alloc | apply pw_below_drewN | apply below_drew1))) (by have := HLL.out; simp only [List.length_take, List.length_nil]; omega) ?_; intro v4 w4 hR4 hB4 hg4 _; have n1 := Aside0.mk hB4; have n2 := Aside0.mk hR4; clear hB4 hR4 hg4; have HBB4 := n1; have HR4 := n2; clear n1 n2; have y0m := pw_cell_below HBB4.out y0)
         | (refine Kd.R_append_rows_step Kd.string (Rr := fun (x : ByteArray) cs => cs = [Value.string x]) (w0 := wr) wr.heap.size (by rfl) (.tmp 51) (.tmp 56) 23 9 (.string ⟨#[]⟩) 16 (by rfl) Try.underlying23 infoS (by rfl) (by decide) (by decide) v3 ([] : List ByteArray) [s] _ 1 1 (fun _ => True) (fun _ => False) (by rfl) (by rfl) HR3.out (lit_reads n5.out) (fun _ _ h => h) (fun _ h => h.elim) (fun _ _ => trivial) (by repeat (first | exact HBB.out | apply below_alloc | apply pw_below_drewN | apply below_drew1)) (below_size (by repeat (first | exact HBB.out | apply below_alloc | apply pw_below_drewN | apply below_drew1))) (by have := HLL.out; simp only [List.length_take, List.length_nil]; omega) ?_; intro v4 w4 hR4 hB4 hg4 _; have n1 := Aside0.mk hB4; have n2 := Aside0.mk hR4; clear hB4 hR4 hg4; have HBB4 := n1; have HR4 := n2; clear n1 n2; have y0m := pw_cell_below HBB4.out y0)
         | (refine Kd.R_append_rows_step Kd.string (Rr := fun (x : ByteArray) cs => cs = [Value.string x]) (w0 := wr) wr.heap.size (by rfl) (.tmp 57) (.tmp 60) 23 9 (.string ⟨#[]⟩) 16 (by rfl) Try.underlying23 infoS (by rfl) (by decide) (by decide) v4 (([] : List ByteArray) ++ [s]) ([] : List ByteArray) _ 0 _ (fun _ => True) (fun _ => False) (by rfl) (by rfl) HR4.out (reads0 _ _ ([] : List ByteArray)) (fun _ _ h => h) (fun _ h => h.elim) (fun _ _ => trivial) HBB4.out HBB4.out.size (by have := HLL.out; simp only [List.length_append, List.length_take, List.length_singleton]; omega) ?_; intro v5 w5 hR5 hB5 hg5 _; have n1 := Aside0.mk hB5; have n2 := Aside0.mk hR5; clear hB5 hR5 hg5; have HBB5 := n1; have HR5 := n2; clear n1 n2; have y0p := pw_cell_below HBB5.out y0)
         | fail)
      all_goals
        go_wp2
        go_roundg g3
        case measure => omega
        case rel => exact ⟨i + 1, by go_num, ⟨by have := HQ.out; omega⟩, ⟨by omega⟩, ⟨below_step H1.out HBB5.out⟩, ⟨by rw [HT.out, List.foldl_append]; simp only [List.foldl_cons, List.foldl_nil]; rw [HFO.out, HIN.out]; have h := Kd.R_lower HR5.out (below_size H1.out); simpa [List.append_assoc] using h⟩⟩
     | some ad6 =>
      by_cases hcap : c5 = L.length
      ·
       subst hcap
       clear hl6
       have hl6 : L.length ≤ L.length := Nat.le_refl _
       go_region_held3 (fun W => W.cell? (ad.add i) = some (.string s)) (go_keep) (first
         | (go_at_call 54; refine (copy_cut L ad6 L.length L.length _ HLL.out (by exact Kd.C_below HC6'.out (by repeat (first | exact HBB.out | apply below_alloc | apply pw_below_drewN | apply below_drew1))) (Nat.le_refl _) hl6).mono ?_; rintro e w3 ⟨v3, rfl, hR3, hb3⟩; (first | have n5 := Aside0.mk (blk_below (heap_alloc_new _ (Obj.cells #[.string s] 9)) hb3) | skip); have n1 := Aside0.mk (below_step (by repeat (first | exact HBB.out | apply below_alloc | apply pw_below_drewN | apply below_drew1)) hb3); have n2 := Aside0.mk (show Kd.R Kd.string 9 w3 wr.heap.size (fun _ => True) v3 (L.take L.length) from Kd.R_lower hR3 (by exact below_size (by repeat (first | exact HBB.out | apply below_alloc | apply pw_below_drewN | apply below_drew1)))); clear HBB hR3; have HBB := n1; have HR3 := n2; clear n1 n2; have y0n := pw_cell_below HBB.out y0)
         | (refine Kd.R_append_rows_step Kd.string (Rr := fun (x : ByteArray) cs => cs = [Value.string x]) (w0 := wr) wr.heap.size (by rfl) (.tmp 51) (.tmp 56) 23 9 (.string ⟨#[]⟩) 16 (by rfl) Try.underlying23 infoS (by rfl) (by decide) (by decide) v3 (L.take L.length) [s] _ 1 1 (fun _ => True) (fun _ => False) (by rfl) (by rfl) (Kd.R_alloc HR3.out _) (lit_reads (heap_alloc_new w3 _)) (fun _ _ h => h) (fun _ h => h.elim) (fun _ _ => trivial) (by repeat (first | exact HBB.out | apply below_alloc | apply pw_below_drewN | apply below_drew1)) (below_size (by repeat (first | exact HBB.out | apply below_alloc | apply pw_below_drewN | apply below_drew1))) (by have := HLL.out; simp only [List.length_take, List.length_nil]; omega) ?_; intro v4 w4 hR4 hB4 hg4 _; have n1 := Aside0.mk hB4; have n2 := Aside0.mk hR4; clear hB4 hR4 hg4; have HBB4 := n1; have HR4 := n2; clear n1 n2; have y0m := pw_cell_below HBB4.out y0)
         | (refine Kd.R_append_rows_step Kd.string (Rr := fun (x : ByteArray) cs => cs = [Value.string x]) (w0 := wr) wr.heap.size (by rfl) (.tmp 51) (.tmp 56) 23 9 (.string ⟨#[]⟩) 16 (by rfl) Try.underlying23 infoS (by rfl) (by decide) (by decide) v3 (L.take L.length) [s] _ 1 1 (fun _ => True) (fun _ => False) (by rfl) (by rfl) HR3.out (lit_reads n5.out) (fun _ _ h => h) (fun _ h => h.elim) (fun _ _ => trivial) (by repeat (first | exact HBB.out | apply below_alloc | apply pw_below_drewN | apply below_drew1)) (below_size (by repeat (first | exact HBB.out | apply below_alloc | apply pw_below_drewN | apply below_drew1))) (by have := HLL.out; simp only [List.length_take, List.length_nil]; omega) ?_; intro v4 w4 hR4 hB4 hg4 _; have n1 := Aside0.mk hB4; have n2 := Aside0.mk hR4; clear hB4 hR4 hg4; have HBB4 := n1; have HR4 := n2; clear n1 n2; have y0m := pw_cell_below HBB4.out y0)
         | (refine Kd.R_append_rows_step Kd.string (Rr := fun (x : ByteArray) cs => cs = [Value.string x]) (w0 := wr) wr.heap.size (by rfl) (.tmp 57) (.tmp 60) 23 9 (.string ⟨#[]⟩) 16 (by rfl) Try.underlying23 infoS (by rfl) (by decide) (by decide) v4 ((L.take L.length) ++ [s]) (L.drop L.length) _ 0 _ (fun _ => True) (fun _ => False) (by rfl) (by rfl) HR4.out (reads0 _ _ L) (fun _ _ h => h) (fun _ h => h.elim) (fun _ _ => trivial) HBB4.out HBB4.out.size (by have := HLL.out; simp only [List.length_append, List.length_take, List.length_singleton]; omega) ?_; intro v5 w5 hR5 hB5 hg5 _; have n1 := Aside0.mk hB5; have n2 := Aside0.mk hR5; clear hB5 hR5 hg5; have HBB5 := n1; have HR5 := n2; clear n1 n2; have y0p := pw_cell_below HBB5.out y0)
         | fail)
       all_goals
        go_wp2
        go_roundg g3
        case measure => omega
        case rel => exact ⟨i + 1, by go_num, ⟨by have := HQ.out; omega⟩, ⟨by omega⟩, ⟨below_step H1.out HBB5.out⟩, ⟨by rw [HT.out, List.foldl_append]; simp only [List.foldl_cons, List.foldl_nil]; rw [HFO.out, HIN.out]; have h := Kd.R_lower HR5.out (below_size H1.out); simpa [List.append_assoc] using h⟩⟩
      ·
       have s2 := eq_true (show L.length ≤ c5 by omega)
       have s1 := eq_true (show (L.length : Int) ≤ (c5 : Int) by omega)
       have s7 := eq_false (show ¬ c5 = L.length by omega)
       have s8 := eq_false (show ¬ L.length = c5 by omega)
       have s9 := eq_true (show L.length < c5 by omega)
       go_region_held3 (fun W => W.cell? (ad.add i) = some (.string s)) (go_keep) (first
         | (go_at_call 54; refine (copy_cut L ad6 L.length c5 _ HLL.out (by exact Kd.C_below HC6'.out (by repeat (first | exact HBB.out | apply below_alloc | apply pw_below_drewN | apply below_drew1))) (Nat.le_refl _) hl6).mono ?_; rintro e w3 ⟨v3, rfl, hR3, hb3⟩; (first | have n5 := Aside0.mk (blk_below (heap_alloc_new _ (Obj.cells #[.string s] 9)) hb3) | skip); have n1 := Aside0.mk (below_step (by repeat (first | exact HBB.out | apply below_alloc | apply pw_below_drewN | apply below_drew1)) hb3); have n2 := Aside0.mk (show Kd.R Kd.string 9 w3 wr.heap.size (fun _ => True) v3 (L.take L.length) from Kd.R_lower hR3 (by exact below_size (by repeat (first | exact HBB.out | apply below_alloc | apply pw_below_drewN | apply below_drew1)))); clear HBB hR3; have HBB := n1; have HR3 := n2; clear n1 n2; have y0n := pw_cell_below HBB.out y0)
         | (refine Kd.R_append_rows_step Kd.string (Rr := fun (x : ByteArray) cs => cs = [Value.string x]) (w0 := wr) wr.heap.size (by rfl) (.tmp 51) (.tmp 56) 23 9 (.string ⟨#[]⟩) 16 (by rfl) Try.underlying23 infoS (by rfl) (by decide) (by decide) v3 (L.take L.length) [s] _ 1 1 (fun _ => True) (fun _ => False) (by rfl) (by rfl) (Kd.R_alloc HR3.out _) (lit_reads (heap_alloc_new w3 _)) (fun _ _ h => h) (fun _ h => h.elim) (fun _ _ => trivial) (by repeat (first | exact HBB.out | apply below_alloc | apply pw_below_drewN | apply below_drew1)) (below_size (by repeat (first | exact HBB.out | apply below_alloc | apply pw_below_drewN | apply below_drew1))) (by have := HLL.out; simp only [List.length_take, List.length_nil]; omega) ?_; intro v4 w4 hR4 hB4 hg4 _; have n1 := Aside0.mk hB4; have n2 := Aside0.mk hR4; clear hB4 hR4 hg4; have HBB4 := n1; have HR4 := n2; clear n1 n2; have y0m := pw_cell_below HBB4.out y0)
         | (refine Kd.R_append_rows_step Kd.string (Rr := fun (x : ByteArray) cs => cs = [Value.string x]) (w0 := wr) wr.heap.size (by rfl) (.tmp 51) (.tmp 56) 23 9 (.string ⟨#[]⟩) 16 (by rfl) Try.underlying23 infoS (by rfl) (by decide) (by decide) v3 (L.take L.length) [s] _ 1 1 (fun _ => True) (fun _ => False) (by rfl) (by rfl) HR3.out (lit_reads n5.out) (fun _ _ h => h) (fun _ h => h.elim) (fun _ _ => trivial) (by repeat (first | exact HBB.out | apply below_alloc | apply pw_below_drewN | apply below_drew1)) (below_size (by repeat (first | exact HBB.out | apply below_alloc | apply pw_below_drewN | apply below_drew1))) (by have := HLL.out; simp only [List.length_take, List.length_nil]; omega) ?_; intro v4 w4 hR4 hB4 hg4 _; have n1 := Aside0.mk hB4; have n2 := Aside0.mk hR4; clear hB4 hR4 hg4; have HBB4 := n1; have HR4 := n2; clear n1 n2; have y0m := pw_cell_below HBB4.out y0)
         | (refine Kd.R_append_rows_step Kd.string (Rr := fun (x : ByteArray) cs => cs = [Value.string x]) (w0 := wr) wr.heap.size (by rfl) (.tmp 57) (.tmp 60) 23 9 (.string ⟨#[]⟩) 16 (by rfl) Try.underlying23 infoS (by rfl) (by decide) (by decide) v4 ((L.take L.length) ++ [s]) (L.drop L.length) _ 0 _ (fun _ => True) (fun _ => False) (by rfl) (by rfl) HR4.out (reads0 _ _ L) (fun _ _ h => h) (fun _ h => h.elim) (fun _ _ => trivial) HBB4.out HBB4.out.size (by have := HLL.out; simp only [List.length_append, List.length_take, List.length_singleton]; omega) ?_; intro v5 w5 hR5 hB5 hg5 _; have n1 := Aside0.mk hB5; have n2 := Aside0.mk hR5; clear hB5 hR5 hg5; have HBB5 := n1; have HR5 := n2; clear n1 n2; have y0p := pw_cell_below HBB5.out y0)
         | fail)
       all_goals
        go_wp2
        go_roundg g3
        case measure => omega
        case rel => exact ⟨i + 1, by go_num, ⟨by have := HQ.out; omega⟩, ⟨by omega⟩, ⟨below_step H1.out HBB5.out⟩, ⟨by rw [HT.out, List.foldl_append]; simp only [List.foldl_cons, List.foldl_nil]; rw [HFO.out, HIN.out]; have h := Kd.R_lower HR5.out (below_size H1.out); simpa [List.append_assoc] using h⟩⟩
  ·
   have q1b : decide ((i : Int) < (l1.length : Int)) = false := decide_eq_false (by omega)
   rw [List.take_of_length_le (by omega)] at H2
   subst e5
   go_wp2
   go_ret
   exact ⟨_, rfl, H2.out, H1.out⟩
end Go.Proofs.Ythaoooohomfkcaa.A

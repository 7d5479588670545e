/- Whether a term may be: the calls that ask it, one of another. No condition beyond the reading's own. -/
import Derived.Test.YthaoooohomfkcaaTmMay0
namespace Go.Proofs.Ythaoooohomfkcaa.A
open Go Go.RowKit
open Go.Proofs.YthaoooohomfkcaaW.PrintWords Go.Proofs.YthaoooohomfkcaaW.PrintLast Go.Proofs.YthaoooohomfkcaaW.PrintMore
set_option linter.unusedVariables false
set_option linter.unusedSimpArgs false

def IntAt (w : World) (g : Nat) (n : Int) : Prop := w.heap[g]? = some (.cells #[.int .i64 n] 3 (0, 0))
def PtrAt (w : World) (b g : Nat) : Prop := w.heap[b]? = some (.cells #[.pointer (some ⟨g, 0, none⟩)] 127 (0, 0))
/-- What one call of 'may' comes to: the answer, how many are left; all else is as it was. -/
def MayPost (r : Bool × Int) (g : Nat) (w0 w : World) (e : Ending) (w' : World) : Prop := e = .returned (.bool r.1) ∧ IntAt w' g r.2 ∧ Below w0.heap.size w0 w' ∧ KeepBut w w' g none
def NotPost (r : Bool × Int) (g : Nat) (w0 w : World) (e : Ending) (w' : World) : Prop := e = .returned (.bool (!r.1)) ∧ IntAt w' g r.2 ∧ Below w0.heap.size w0 w' ∧ KeepBut w w' g none
def MayAt (d : Nat) : Prop := ∀ (x : S31) (A : Option Addr) (c g : Nat) (l : Int) (w0 w : World), Kd.C k31 w0 A x.f3.length x.f3 → x.f3.length ≤ c → Below w0.heap.size w0 w → w0.heap.size ≤ g → IntAt w g l → 0 ≤ l → l ≤ 24 →
  Calls Try.prog 101 #[.agg #[.int .i64 x.f0, .string x.f1, .int .i64 x.f2, .slice A x.f3.length c], .int .i64 (d : Int), .pointer (some ⟨g, 0, none⟩)] w (MayPost (mayF d l x) g w0 w)

theorem MayAt.use {d : Nat} (h : MayAt d) (x : S31) (A : Option Addr) (c g : Nat) (l : Int) (w0 w : World) (h1 : Kd.C k31 w0 A x.f3.length x.f3) (h2 : x.f3.length ≤ c) (h3 : Below w0.heap.size w0 w) (h4 : w0.heap.size ≤ g) (h5 : IntAt w g l) (h6 : 0 ≤ l) (h7 : l ≤ 24) :
    Calls Try.prog 101 #[.agg #[.int .i64 x.f0, .string x.f1, .int .i64 x.f2, .slice A x.f3.length c], .int .i64 (d : Int), .pointer (some ⟨g, 0, none⟩)] w (MayPost (mayF d l x) g w0 w) := h x A c g l w0 w h1 h2 h3 h4 h5 h6 h7
theorem keep_of_below {w w1 : World} {g : Nat} (h : Below w.heap.size w w1) : KeepBut w w1 g none := ⟨h.size, fun i hi _ _ => h.block i hi⟩
theorem IntAt.below {w w1 : World} {g : Nat} {n : Int} (h : IntAt w g n) (hb : Below w.heap.size w w1) : IntAt w1 g n := blk_below h hb
theorem PtrAt.below {w w1 : World} {b g : Nat} (h : PtrAt w b g) (hb : Below w.heap.size w w1) : PtrAt w1 b g := blk_below h hb
theorem IntAt.cell {w : World} {g : Nat} {n : Int} (h : IntAt w g n) : w.cell? ⟨g, 0, none⟩ = some (.int .i64 n) := (blk_cell h 0).trans rfl
theorem PtrAt.cell {w : World} {b g : Nat} (h : PtrAt w b g) : w.cell? ⟨b, 0, none⟩ = some (.pointer (some ⟨g, 0, none⟩)) := (blk_cell h 0).trans rfl

set_option maxHeartbeats 1000000 in
set_option maxRecDepth 100000 in
theorem closure_calls (d : Nat) (hd : d ≤ 4) (IH : MayAt d) (x : S31) (A : Option Addr) (c g bD bL : Nat) (l : Int) (w0 w : World) (hC : Kd.C k31 w0 A x.f3.length x.f3) (hc : x.f3.length ≤ c) (hB : Below w0.heap.size w0 w) (hg : w0.heap.size ≤ g) (hl : IntAt w g l) (h0 : 0 ≤ l) (h24 : l ≤ 24)
    (hD : IntAt w bD ((d + 1 : Nat) : Int)) (hL : PtrAt w bL g) :
    Calls Try.prog 116 #[.agg #[.int .i64 x.f0, .string x.f1, .int .i64 x.f2, .slice A x.f3.length c], .pointer (some ⟨bD, 0, none⟩), .pointer (some ⟨bL, 0, none⟩)] w (NotPost (mayF d l x) g w0 w) := by
  have hu := Try.underlying31
  have HB := Aside0.mk (Below.refl w.heap.size w)
  have HI := Aside0.mk IH
  have HC := Aside0.mk hC
  have HC2 := Aside0.mk hc
  have H1 := Aside0.mk hB
  have H2 := Aside0.mk hl
  clear IH hC hc hB hl
  have HD := Aside0.mk hD
  have HL := Aside0.mk hL
  clear hD hL
  go_enter Try.func116, Try.ntmps116
  go_wp2_with (first | ((with_reducible refine gate_dst (N := 3) rfl ?_); refine box_event ?hg (N := 3) ?hd (cs := #[.int .i64 x.f0, .string x.f1, .int .i64 x.f2, .slice A x.f3.length c]) (t := 31) ?hr ?_; (case hd => rfl); (case hg => rfl); (case hr => first | (go_simp; done) | (go_simp; rfl)); intro gb hgb w2 hbox hb; clear hgb; have n1 := Aside0.mk (below_then H1.out H1.out.size hb); have n2 := Aside0.mk (IntAt.below H2.out hb); have n3 := Aside0.mk (keep_of_below (g := g) hb); clear H1 H2; have H1 := n1; have H2 := n2; have HK := n3; clear n1 n2 n3; have e1 := (IntAt.below HD.out hb).cell; have e2 := (PtrAt.below HL.out hb).cell; clear HD HL; (try simp only [Int.natCast_add, Int.natCast_one] at e1); have hz0 : w2.cell? ⟨gb, 0, none⟩ = some (.int .i64 x.f0) := (blk_cell hbox 0).trans rfl; have hz1 : w2.cell? ⟨gb, 1, none⟩ = some (.string x.f1) := (blk_cell hbox 1).trans rfl; have hz2 : w2.cell? ⟨gb, 2, none⟩ = some (.int .i64 x.f2) := (blk_cell hbox 2).trans rfl; have hz3 : w2.cell? ⟨gb, 3, none⟩ = some (.slice A x.f3.length c) := (blk_cell hbox 3).trans rfl; clear hbox hb) | (go_at_call 101; (with_reducible refine (MayAt.use HI.out x A c g l w0 _ HC.out HC2.out H1.out hg H2.out h0 h24).mono ?_); rintro e w3 ⟨rfl, h1, h2, h3⟩))
  go_ret
  show _ ∧ _ ∧ _ ∧ _
  exact ⟨rfl, h1, h2, HK.out.trans h3 (.inl rfl)⟩

def idxF (f : Int → S31 → Bool × Int) : Int → List S31 → Int → Int × Int
  | l, [], _ => (-1, l)
  | l, x :: xs, i => if (f l x).1 = true then idxF f (f l x).2 xs (i + 1) else (i, (f l x).2)
theorem idx_all (f : Int → S31 → Bool × Int) : ∀ (xs : List S31) (l i : Int), 0 ≤ i → (idxF f l xs i).2 = (allF f l xs).2 ∧ decide ((idxF f l xs i).1 ≥ 0) = !(allF f l xs).1 := by
  intro xs
  induction xs with
  | nil => intro l i h; simp [idxF, allF]
  | cons x xs ih =>
    intro l i h
    simp only [idxF, allF]
    split
    · exact ih _ _ (by omega)
    · simp [h]
def IdxPost (r : Int × Int) (g : Nat) (w0 w : World) (e : Ending) (w' : World) : Prop := e = .returned (.int .i64 r.1) ∧ IntAt w' g r.2 ∧ Below w0.heap.size w0 w' ∧ KeepBut w w' g none
theorem drop_rd {xs : List S31} {i : Nat} (h : i < xs.length) : xs.drop i = rd_T31 xs (i : Int) :: xs.drop (i + 1) := by
  rw [List.drop_eq_getElem_cons h]
  unfold rd_T31
  rw [List.getD_eq_getElem?_getD, Int.toNat_natCast, List.getElem?_eq_getElem h]
  rfl

set_option maxHeartbeats 1000000 in
set_option maxRecDepth 100000 in
theorem index_calls (d : Nat) (hd : d ≤ 4) (IH : MayAt d) (A : Option Addr) (xs : List S31) (c g bD bL : Nat) (l : Int) (w0 w : World) (hC : Kd.C k31 w0 A xs.length xs) (hc : xs.length ≤ c) (hB : Below w0.heap.size w0 w) (hg : w0.heap.size ≤ g) (hl : IntAt w g l) (h0 : 0 ≤ l) (h24 : l ≤ 24)
    (hD : IntAt w bD ((d + 1 : Nat) : Int)) (hL : PtrAt w bL g) (hDg : bD ≠ g) (hLg : bL ≠ g) :
    Calls Try.prog 128 #[.slice A xs.length c, .func (.func 116) #[] #[.pointer (some ⟨bD, 0, none⟩), .pointer (some ⟨bL, 0, none⟩)]] w (IdxPost (idxF (mayF d) l xs 0) g w0 w) := by
  have hu := Try.underlying31
  have HI := Aside0.mk IH
  have HC := Aside0.mk hC
  have HN := Aside0.mk hC.2.1
  have HC2 := Aside0.mk hc
  have H1 := Aside0.mk hB
  have H2 := Aside0.mk hl
  have H3 := Aside0.mk (KeepBut.refl w g none)
  have HD := Aside0.mk hD
  have HL := Aside0.mk hL
  have HR := Aside0.mk (show idxF (mayF d) l xs 0 = idxF (mayF d) l (xs.drop 0) ((0 : Nat) : Int) from rfl)
  have HS := Aside0.mk (⟨h0, h24⟩ : 0 ≤ l ∧ l ≤ 24)
  clear IH hC hc hB hl hD hL h0 h24
  generalize idxF (mayF d) l xs 0 = r at *
  go_enter Try.func128, Try.ntmps128
  go_wp2
  go_loopg [8] (xs.length + 1) (fun kq v8 w' => ∃ (i : Nat) (li : Int), v8 = .int .i64 (i : Int) ∧ Aside0 (kq + i = xs.length + 1) ∧ Aside0 (i ≤ xs.length) ∧ Aside0 (r = idxF (mayF d) li (xs.drop i) (i : Int)) ∧ Aside0 (0 ≤ li ∧ li ≤ 24) ∧ Aside0 (Below w0.heap.size w0 w') ∧ Aside0 (IntAt w' g li) ∧ Aside0 (KeepBut w w' g none))
  case atStart => exact ⟨0, l, rfl, ⟨rfl⟩, ⟨Nat.zero_le _⟩, HR, HS, H1, H2, H3⟩
  case round =>
    clear HR HS H1 H2 H3
    obtain ⟨i, li, rfl, HK, HI2, HR, HS, H1, H2, H3⟩ := hrel
    obtain ⟨g3, rfl⟩ : ∃ g, gk = g + 1 := ⟨gk - 1, by have := HK.out; have := HI2.out; omega⟩
    by_cases hi : i < xs.length
    · have p1 : (0 : Int) ≤ (i : Int) := by omega
      have q1 : (i : Int) < (xs.length : Int) := by omega
      have bd : (i : Int) ≤ 9223372036854775806 := by have := HN.out; omega
      obtain ⟨ad, A3, c3, ead, y0, y1, y2, y3, yl, yC⟩ := at_T31 HC.out (i : Int) p1 q1
      cases ead
      rw [Int.toNat_natCast] at y0 y1 y2 y3
      have HCx := Aside0.mk yC
      have HCl := Aside0.mk yl
      clear yC yl
      have HE := Aside0.mk (drop_rd hi)
      replace y0 := (H1.out.cell (World.block_lt_of_cell? w0 _ y0)).trans y0
      replace y1 := (H1.out.cell (World.block_lt_of_cell? w0 _ y1)).trans y1
      replace y2 := (H1.out.cell (World.block_lt_of_cell? w0 _ y2)).trans y2
      replace y3 := (H1.out.cell (World.block_lt_of_cell? w0 _ y3)).trans y3
      generalize rd_T31 xs (i : Int) = x at *
      have q1b : decide ((i : Int) < (xs.length : Int)) = true := decide_eq_true q1
      replace p1 := eq_true p1
      replace q1 := eq_true q1
      have HDw := Aside0.mk (show IntAt wr bD ((d + 1 : Nat) : Int) from (H3.out.2 bD (by have := blk_lt HD.out; omega) hDg (by simp)).trans HD.out)
      have HLw := Aside0.mk (show PtrAt wr bL g from (H3.out.2 bL (by have := blk_lt HL.out; omega) hLg (by simp)).trans HL.out)
      go_wp2_with (go_at_call 116; (with_reducible refine (closure_calls d hd HI.out x A3 c3 g bD bL li w0 _ HCx.out HCl.out H1.out hg H2.out HS.out.1 HS.out.2 HDw.out HLw.out).mono ?_); rintro e w3 ⟨rfl, h1, h2, h3⟩)
      · rename_i hb
        have hb' : (mayF d li x).1 = false := by simpa using hb
        have e : r = ((i : Int), (mayF d li x).2) := by rw [HR.out, HE.out]; simp [idxF, hb']
        clear HR HE hb hb'
        subst e
        go_ret
        show _ ∧ _ ∧ _ ∧ _
        exact ⟨rfl, h1, h2, H3.out.trans h3 (.inl rfl)⟩
      · rename_i hb
        have hb' : (mayF d li x).1 = true := by simpa using hb
        have HR2 := Aside0.mk (show r = idxF (mayF d) (mayF d li x).2 (xs.drop (i + 1)) ((i + 1 : Nat) : Int) by rw [HR.out, HE.out]; simp [idxF, hb'])
        obtain ⟨z1, z2, z3⟩ := may_range d li x HS.out.1
        have HS2 := Aside0.mk (⟨z3 hb', by have := HS.out.2; omega⟩ : 0 ≤ (mayF d li x).2 ∧ (mayF d li x).2 ≤ 24)
        go_roundg g3
        case measure => omega
        case rel => exact ⟨i + 1, (mayF d li x).2, by go_num, ⟨by have := HK.out; omega⟩, ⟨by omega⟩, HR2, HS2, ⟨h2⟩, ⟨h1⟩, ⟨H3.out.trans h3 (.inl rfl)⟩⟩
    · have q1b : decide ((i : Int) < (xs.length : Int)) = false := decide_eq_false (by omega)
      have e : r = (-1, li) := by rw [HR.out, List.drop_of_length_le (by omega)]; rfl
      clear HR
      subst e
      go_wp2
      go_ret
      show _ ∧ _ ∧ _ ∧ _
      exact ⟨rfl, H2.out, H1.out, H3.out⟩

/-- What asks a list comes to: is one among it that may not be? -/
def AnyPost (r : Bool × Int) (g : Nat) (w0 w : World) (e : Ending) (w' : World) : Prop := e = .returned (.bool (!r.1)) ∧ IntAt w' g r.2 ∧ Below w0.heap.size w0 w' ∧ KeepBut w w' g none
set_option maxHeartbeats 1000000 in
set_option maxRecDepth 100000 in
theorem contains_calls (d : Nat) (hd : d ≤ 4) (IH : MayAt d) (A : Option Addr) (xs : List S31) (c g bD bL : Nat) (l : Int) (w0 w : World) (hC : Kd.C k31 w0 A xs.length xs) (hc : xs.length ≤ c) (hB : Below w0.heap.size w0 w) (hg : w0.heap.size ≤ g) (hl : IntAt w g l) (h0 : 0 ≤ l) (h24 : l ≤ 24)
    (hD : IntAt w bD ((d + 1 : Nat) : Int)) (hL : PtrAt w bL g) (hDg : bD ≠ g) (hLg : bL ≠ g) :
    Calls Try.prog 118 #[.slice A xs.length c, .func (.func 116) #[] #[.pointer (some ⟨bD, 0, none⟩), .pointer (some ⟨bL, 0, none⟩)]] w (AnyPost (allF (mayF d) l xs) g w0 w) := by
  have HX := Aside0.mk (index_calls d hd IH A xs c g bD bL l w0 w hC hc hB hg hl h0 h24 hD hL hDg hLg)
  have HE := Aside0.mk (idx_all (mayF d) xs l 0 (by omega))
  clear IH hC hc hB hg hl h0 h24 hD hL hDg hLg
  generalize idxF (mayF d) l xs 0 = r at *
  generalize allF (mayF d) l xs = q at *
  go_enter Try.func118, Try.ntmps118
  go_wp2_with fail
  refine HX.out.mono ?_
  rintro e w1 ⟨rfl, h1, h2, h3⟩
  go_wp2
  go_ret
  show _ ∧ _ ∧ _ ∧ _
  obtain ⟨e1, e2⟩ := HE.out
  refine ⟨?_, by rw [← e1]; exact h1, h2, h3⟩
  rw [← e2]
  rfl

theorem len0 (n : Nat) : ((n : Int) == 0) = decide (n = 0) := by
  by_cases h : n = 0
  · subst h; rfl
  · rw [decide_eq_false h]; exact beq_eq_false_iff_ne.2 (by omega)
theorem len0n (n : Nat) : (n == 0) = decide (n = 0) := by
  by_cases h : n = 0
  · subst h; rfl
  · rw [decide_eq_false h]; exact beq_eq_false_iff_ne.2 h
theorem nil_dec (l : List UInt8) : (l == ([] : List UInt8)) = decide (l = []) := by cases l <;> rfl
theorem nil_dec2 (l : List UInt8) : l.isEmpty = decide (l = []) := by cases l <;> rfl
theorem keep_set (w : World) (g : Nat) (o : Nat) (v : Value) : KeepBut w (w.setCell ⟨g, o, none⟩ v) g none := ⟨by simp, fun i _ h _ => Below.heap_setCell w _ v i h⟩
set_option maxHeartbeats 1000000 in
set_option maxRecDepth 100000 in
theorem may_succ (d : Nat) (hd : d ≤ 4) (IH : MayAt d) : MayAt (d + 1) := by
  intro x A c g l w0 w hC hc hB hg hl h0 h24
  have hu := Try.underlying31
  have HI := Aside0.mk IH
  have HC := Aside0.mk hC
  have HC2 := Aside0.mk hc
  have H1 := Aside0.mk hB
  have H2 := Aside0.mk hl
  have HK := Aside0.mk (KeepBut.refl w g none)
  clear IH hC hc hB hl
  obtain ⟨D, hD⟩ : ∃ D : Int, ((d + 1 : Nat) : Int) = D := ⟨_, rfl⟩
  rw [hD]
  have hD0 : (D == 0) = false := beq_eq_false_iff_ne.2 (by omega)
  have HD := Aside0.mk hD
  clear hD
  by_cases hL : l - 1 < 0
  · have e : mayF (d + 1) l x = (false, l - 1) := by simp only [mayF]; rw [if_pos hL]
    rw [e]
    clear e
    have l0 : decide (l - 1 < 0) = true := decide_eq_true hL
    go_enter Try.func101, Try.ntmps101
    go_wp2_with (first | ((with_reducible refine gate_dst (N := 3) rfl ?_); refine box_event ?hg (N := 3) ?hd (cs := #[.int .i64 x.f0, .string x.f1, .int .i64 x.f2, .slice A x.f3.length c]) (t := 31) ?hr ?_; (case hd => rfl); (case hg => rfl); (case hr => first | (go_simp; done) | (go_simp; rfl)); intro b3 hb3 w2 hbox hb; have n1 := Aside0.mk (below_then H1.out H1.out.size hb); have n2 := Aside0.mk (IntAt.below H2.out hb); have n3 := Aside0.mk (HK.out.trans (keep_of_below (g := g) hb) (.inl rfl)); have n4 := Aside0.mk (show b3 ≠ g by have := blk_lt H2.out; omega); have n5 := Aside0.mk hbox; clear H1 H2 HK hb3 hbox hb; have H1 := n1; have H2 := n2; have HK := n3; have N3 := n4; have B3 := n5; clear n1 n2 n3 n4 n5) | ((with_reducible refine gate_dst (N := 4) rfl ?_); refine box_event ?hg (N := 4) ?hd (cs := #[.int .i64 D]) (t := 3) ?hr ?_; (case hd => rfl); (case hg => rfl); (case hr => first | (go_simp; done) | (go_simp; rfl)); intro b4 hb4 w3 hbox hb; have n1 := Aside0.mk (below_then H1.out H1.out.size hb); have n2 := Aside0.mk (IntAt.below H2.out hb); have n3 := Aside0.mk (HK.out.trans (keep_of_below (g := g) hb) (.inl rfl)); have n4 := Aside0.mk (show b4 ≠ g by have := blk_lt H2.out; omega); have n5 := Aside0.mk (show IntAt w3 b4 D from hbox); have n6 := Aside0.mk (blk_below B3.out hb); clear H1 H2 HK hb4 hbox hb B3; have H1 := n1; have H2 := n2; have HK := n3; have N4 := n4; have B4 := n5; have B3 := n6; clear n1 n2 n3 n4 n5 n6) | ((with_reducible refine gate_dst (N := 5) rfl ?_); refine box_event ?hg (N := 5) ?hd (cs := #[.pointer (some ⟨g, 0, none⟩)]) (t := 127) ?hr ?_; (case hd => rfl); (case hg => rfl); (case hr => first | (go_simp; done) | (go_simp; rfl)); intro b5 hb5 w4 hbox hb; have n1 := Aside0.mk (below_then H1.out H1.out.size hb); have n2 := Aside0.mk (IntAt.below H2.out hb); have n3 := Aside0.mk (HK.out.trans (keep_of_below (g := g) hb) (.inl rfl)); have n4 := Aside0.mk (show b5 ≠ g by have := blk_lt H2.out; omega); have n5 := Aside0.mk (show PtrAt w4 b5 g from hbox); have n6 := Aside0.mk (blk_below B3.out hb); have n7 := Aside0.mk (IntAt.below B4.out hb); have y1 := H2.out; clear H1 H2 HK hb5 hbox hb B3 B4; have H1 := n1; have H2 := n2; have HK := n3; have N5 := n4; have B5 := n5; have B3 := n6; have B4 := n7; clear n1 n2 n3 n4 n5 n6 n7 y1; have c5 := B5.out.cell; have cg := H2.out.cell; have fg : w4.frozen? ⟨g, 0, none⟩ = false := blk_frozen H2.out 0) | ((with_reducible refine gate_store (t := 3) (p := 12) rfl ?_); refine store_event (t := 3) (p := 12) (v := ?vo_) (w1 := w4.setCell ⟨g, 0, none⟩ (.int .i64 (l - 1))) ?hg ?ho ?hn ?hr ?_; (case ho => rfl); (case hg => rfl); (case hn => rfl); (case hr => first | (go_simp; done) | (go_simp; rfl)); intro w5 hw; have n1 := Aside0.mk (show Below w0.heap.size w0 w5 by rw [hw]; exact below_set H1.out hg); have n2 := Aside0.mk (show IntAt w5 g (l - 1) by rw [hw]; simpa [IntAt] using blk_set H2.out 0 (.int .i64 (l - 1))); have n3 := Aside0.mk (show KeepBut w w5 g none by rw [hw]; exact HK.out.trans (keep_set _ _ _ _) (.inl rfl)); have n4 := Aside0.mk (show w5.heap[b3]? = some (.cells #[.int .i64 x.f0, .string x.f1, .int .i64 x.f2, .slice A x.f3.length c] 31 (0, 0)) by rw [hw]; exact (Below.heap_setCell w4 _ _ b3 N3.out).trans B3.out); have n5 := Aside0.mk (show IntAt w5 b4 D by rw [hw]; exact (Below.heap_setCell w4 _ _ b4 N4.out).trans B4.out); have n6 := Aside0.mk (show PtrAt w5 b5 g by rw [hw]; exact (Below.heap_setCell w4 _ _ b5 N5.out).trans B5.out); clear c5 cg fg hw H1 H2 HK B3 B4 B5; have H1 := n1; have H2 := n2; have HK := n3; have B3 := n4; have B4 := n5; have B5 := n6; clear n1 n2 n3 n4 n5 n6; have c4 := B4.out.cell; have c5 := B5.out.cell; have cg := H2.out.cell; have z0 : w5.cell? ⟨b3, 0, none⟩ = some (.int .i64 x.f0) := (blk_cell B3.out 0).trans rfl; have z1 : w5.cell? ⟨b3, 1, none⟩ = some (.string x.f1) := (blk_cell B3.out 1).trans rfl; have z2 : w5.cell? ⟨b3, 2, none⟩ = some (.int .i64 x.f2) := (blk_cell B3.out 2).trans rfl; have z3 : w5.cell? ⟨b3, 3, none⟩ = some (.slice A x.f3.length c) := (blk_cell B3.out 3).trans rfl))
    go_ret
    show _ ∧ _ ∧ _ ∧ _
    exact ⟨rfl, H2.out, H1.out, HK.out⟩
  have l0 : decide (l - 1 < 0) = false := decide_eq_false hL
  have l1 : (0 : Int) ≤ l - 1 := by omega
  have l2 : (1 : Int) ≤ l := by omega
  have HM := Aside0.mk (show mayF (d + 1) l x = if x.f0 = 1 then (varB x.f1 && (decide (x.f2 = 0) && decide (x.f3.length = 0)), l - 1) else if x.f0 = 2 then (numB x.f2 && (decide (x.f1.toList = []) && decide (x.f3.length = 0)), l - 1) else if x.f0 = 3 then (if (nameB x.f1 && (decide (x.f2 = 0) && decide (x.f3.length ≤ 4))) = true then allF (mayF d) (l - 1) x.f3 else (false, l - 1)) else (false, l - 1) by simp only [mayF]; rw [if_neg hL])
  clear hL
  generalize mayF (d + 1) l x = r at *
  by_cases k1 : x.f0 = 1
  · have t1 : (x.f0 == 1) = true := beq_iff_eq.2 k1
    have HM1 := Aside0.mk (HM.out.trans (if_pos k1))
    clear k1 HM
    have HV := Aside0.mk (var_ok x.f1)
    generalize varB x.f1 = vb at *
    by_cases h2 : x.f2 = 0
    all_goals by_cases h3 : x.f3.length = 0
    all_goals cases vb
    all_goals
      obtain ⟨q2, hq2⟩ : ∃ q, q = decide (x.f2 = 0) := ⟨_, rfl⟩
      obtain ⟨q3, hq3⟩ : ∃ q, q = decide (x.f3.length = 0) := ⟨_, rfl⟩
      rw [← hq2, ← hq3] at HM1
      have t2 : (x.f2 == 0) = q2 := by rw [hq2]; rfl
      have t3 : ((x.f3.length : Int) == 0) = q3 := by rw [hq3]; exact len0 _
      have t4 : (x.f3.length == 0) = q3 := by rw [hq3]; exact len0n _
      first | (simp only [h2, decide_true] at hq2) | (simp only [h2, decide_false] at hq2)
      first | (simp only [h3, decide_true] at hq3) | (simp only [h3, decide_false] at hq3)
      subst hq2
      subst hq3
      clear h2 h3
      go_enter Try.func101, Try.ntmps101
      go_wp2_with (first | ((with_reducible refine gate_dst (N := 3) rfl ?_); refine box_event ?hg (N := 3) ?hd (cs := #[.int .i64 x.f0, .string x.f1, .int .i64 x.f2, .slice A x.f3.length c]) (t := 31) ?hr ?_; (case hd => rfl); (case hg => rfl); (case hr => first | (go_simp; done) | (go_simp; rfl)); intro b3 hb3 w2 hbox hb; have n1 := Aside0.mk (below_then H1.out H1.out.size hb); have n2 := Aside0.mk (IntAt.below H2.out hb); have n3 := Aside0.mk (HK.out.trans (keep_of_below (g := g) hb) (.inl rfl)); have n4 := Aside0.mk (show b3 ≠ g by have := blk_lt H2.out; omega); have n5 := Aside0.mk hbox; clear H1 H2 HK hb3 hbox hb; have H1 := n1; have H2 := n2; have HK := n3; have N3 := n4; have B3 := n5; clear n1 n2 n3 n4 n5) | ((with_reducible refine gate_dst (N := 4) rfl ?_); refine box_event ?hg (N := 4) ?hd (cs := #[.int .i64 D]) (t := 3) ?hr ?_; (case hd => rfl); (case hg => rfl); (case hr => first | (go_simp; done) | (go_simp; rfl)); intro b4 hb4 w3 hbox hb; have n1 := Aside0.mk (below_then H1.out H1.out.size hb); have n2 := Aside0.mk (IntAt.below H2.out hb); have n3 := Aside0.mk (HK.out.trans (keep_of_below (g := g) hb) (.inl rfl)); have n4 := Aside0.mk (show b4 ≠ g by have := blk_lt H2.out; omega); have n5 := Aside0.mk (show IntAt w3 b4 D from hbox); have n6 := Aside0.mk (blk_below B3.out hb); clear H1 H2 HK hb4 hbox hb B3; have H1 := n1; have H2 := n2; have HK := n3; have N4 := n4; have B4 := n5; have B3 := n6; clear n1 n2 n3 n4 n5 n6) | ((with_reducible refine gate_dst (N := 5) rfl ?_); refine box_event ?hg (N := 5) ?hd (cs := #[.pointer (some ⟨g, 0, none⟩)]) (t := 127) ?hr ?_; (case hd => rfl); (case hg => rfl); (case hr => first | (go_simp; done) | (go_simp; rfl)); intro b5 hb5 w4 hbox hb; have n1 := Aside0.mk (below_then H1.out H1.out.size hb); have n2 := Aside0.mk (IntAt.below H2.out hb); have n3 := Aside0.mk (HK.out.trans (keep_of_below (g := g) hb) (.inl rfl)); have n4 := Aside0.mk (show b5 ≠ g by have := blk_lt H2.out; omega); have n5 := Aside0.mk (show PtrAt w4 b5 g from hbox); have n6 := Aside0.mk (blk_below B3.out hb); have n7 := Aside0.mk (IntAt.below B4.out hb); have y1 := H2.out; clear H1 H2 HK hb5 hbox hb B3 B4; have H1 := n1; have H2 := n2; have HK := n3; have N5 := n4; have B5 := n5; have B3 := n6; have B4 := n7; clear n1 n2 n3 n4 n5 n6 n7 y1; have c5 := B5.out.cell; have cg := H2.out.cell; have fg : w4.frozen? ⟨g, 0, none⟩ = false := blk_frozen H2.out 0) | ((with_reducible refine gate_store (t := 3) (p := 12) rfl ?_); refine store_event (t := 3) (p := 12) (v := ?vo_) (w1 := w4.setCell ⟨g, 0, none⟩ (.int .i64 (l - 1))) ?hg ?ho ?hn ?hr ?_; (case ho => rfl); (case hg => rfl); (case hn => rfl); (case hr => first | (go_simp; done) | (go_simp; rfl)); intro w5 hw; have n1 := Aside0.mk (show Below w0.heap.size w0 w5 by rw [hw]; exact below_set H1.out hg); have n2 := Aside0.mk (show IntAt w5 g (l - 1) by rw [hw]; simpa [IntAt] using blk_set H2.out 0 (.int .i64 (l - 1))); have n3 := Aside0.mk (show KeepBut w w5 g none by rw [hw]; exact HK.out.trans (keep_set _ _ _ _) (.inl rfl)); have n4 := Aside0.mk (show w5.heap[b3]? = some (.cells #[.int .i64 x.f0, .string x.f1, .int .i64 x.f2, .slice A x.f3.length c] 31 (0, 0)) by rw [hw]; exact (Below.heap_setCell w4 _ _ b3 N3.out).trans B3.out); have n5 := Aside0.mk (show IntAt w5 b4 D by rw [hw]; exact (Below.heap_setCell w4 _ _ b4 N4.out).trans B4.out); have n6 := Aside0.mk (show PtrAt w5 b5 g by rw [hw]; exact (Below.heap_setCell w4 _ _ b5 N5.out).trans B5.out); clear c5 cg fg hw H1 H2 HK B3 B4 B5; have H1 := n1; have H2 := n2; have HK := n3; have B3 := n4; have B4 := n5; have B5 := n6; clear n1 n2 n3 n4 n5 n6; have c4 := B4.out.cell; have c5 := B5.out.cell; have cg := H2.out.cell; have z0 : w5.cell? ⟨b3, 0, none⟩ = some (.int .i64 x.f0) := (blk_cell B3.out 0).trans rfl; have z1 : w5.cell? ⟨b3, 1, none⟩ = some (.string x.f1) := (blk_cell B3.out 1).trans rfl; have z2 : w5.cell? ⟨b3, 2, none⟩ = some (.int .i64 x.f2) := (blk_cell B3.out 2).trans rfl; have z3 : w5.cell? ⟨b3, 3, none⟩ = some (.slice A x.f3.length c) := (blk_cell B3.out 3).trans rfl))
      refine (term_Var.calls 40 x.f1 _ _ HV.out).mono ?_
      rintro e w6 ⟨rfl, ⟨nd, rfl⟩⟩
      go_wp2
      go_ret
      show _ ∧ _ ∧ _ ∧ _
      rw [HM1.out]
      exact ⟨rfl, H2.out, pw_below_drewN H1.out nd, HK.out.trans (keep_of_below (pw_below_drewN (Below.refl _ _) nd)) (.inl rfl)⟩
  by_cases k2 : x.f0 = 2
  · have t1 : (x.f0 == 1) = false := beq_eq_false_iff_ne.2 k1
    have t0 : (x.f0 == 2) = true := beq_iff_eq.2 k2
    have HM1 := Aside0.mk ((HM.out.trans (if_neg k1)).trans (if_pos k2))
    clear k1 k2 HM
    have HV := Aside0.mk (num_ok x.f2)
    generalize numB x.f2 = vb at *
    by_cases h2 : x.f1.toList = []
    all_goals by_cases h3 : x.f3.length = 0
    all_goals cases vb
    all_goals
      obtain ⟨q2, hq2⟩ : ∃ q, q = decide (x.f1.toList = []) := ⟨_, rfl⟩
      obtain ⟨q3, hq3⟩ : ∃ q, q = decide (x.f3.length = 0) := ⟨_, rfl⟩
      rw [← hq2, ← hq3] at HM1
      have t2 : (x.f1.toList == ([] : List UInt8)) = q2 := by rw [hq2]; exact nil_dec _
      have t5 : x.f1.toList.isEmpty = q2 := by rw [hq2]; exact nil_dec2 _
      have t3 : ((x.f3.length : Int) == 0) = q3 := by rw [hq3]; exact len0 _
      have t4 : (x.f3.length == 0) = q3 := by rw [hq3]; exact len0n _
      first | (simp only [h2, decide_true] at hq2) | (simp only [h2, decide_false] at hq2)
      first | (simp only [h3, decide_true] at hq3) | (simp only [h3, decide_false] at hq3)
      subst hq2
      subst hq3
      clear h2 h3
      go_enter Try.func101, Try.ntmps101
      go_wp2_with (first | ((with_reducible refine gate_dst (N := 3) rfl ?_); refine box_event ?hg (N := 3) ?hd (cs := #[.int .i64 x.f0, .string x.f1, .int .i64 x.f2, .slice A x.f3.length c]) (t := 31) ?hr ?_; (case hd => rfl); (case hg => rfl); (case hr => first | (go_simp; done) | (go_simp; rfl)); intro b3 hb3 w2 hbox hb; have n1 := Aside0.mk (below_then H1.out H1.out.size hb); have n2 := Aside0.mk (IntAt.below H2.out hb); have n3 := Aside0.mk (HK.out.trans (keep_of_below (g := g) hb) (.inl rfl)); have n4 := Aside0.mk (show b3 ≠ g by have := blk_lt H2.out; omega); have n5 := Aside0.mk hbox; clear H1 H2 HK hb3 hbox hb; have H1 := n1; have H2 := n2; have HK := n3; have N3 := n4; have B3 := n5; clear n1 n2 n3 n4 n5) | ((with_reducible refine gate_dst (N := 4) rfl ?_); refine box_event ?hg (N := 4) ?hd (cs := #[.int .i64 D]) (t := 3) ?hr ?_; (case hd => rfl); (case hg => rfl); (case hr => first | (go_simp; done) | (go_simp; rfl)); intro b4 hb4 w3 hbox hb; have n1 := Aside0.mk (below_then H1.out H1.out.size hb); have n2 := Aside0.mk (IntAt.below H2.out hb); have n3 := Aside0.mk (HK.out.trans (keep_of_below (g := g) hb) (.inl rfl)); have n4 := Aside0.mk (show b4 ≠ g by have := blk_lt H2.out; omega); have n5 := Aside0.mk (show IntAt w3 b4 D from hbox); have n6 := Aside0.mk (blk_below B3.out hb); clear H1 H2 HK hb4 hbox hb B3; have H1 := n1; have H2 := n2; have HK := n3; have N4 := n4; have B4 := n5; have B3 := n6; clear n1 n2 n3 n4 n5 n6) | ((with_reducible refine gate_dst (N := 5) rfl ?_); refine box_event ?hg (N := 5) ?hd (cs := #[.pointer (some ⟨g, 0, none⟩)]) (t := 127) ?hr ?_; (case hd => rfl); (case hg => rfl); (case hr => first | (go_simp; done) | (go_simp; rfl)); intro b5 hb5 w4 hbox hb; have n1 := Aside0.mk (below_then H1.out H1.out.size hb); have n2 := Aside0.mk (IntAt.below H2.out hb); have n3 := Aside0.mk (HK.out.trans (keep_of_below (g := g) hb) (.inl rfl)); have n4 := Aside0.mk (show b5 ≠ g by have := blk_lt H2.out; omega); have n5 := Aside0.mk (show PtrAt w4 b5 g from hbox); have n6 := Aside0.mk (blk_below B3.out hb); have n7 := Aside0.mk (IntAt.below B4.out hb); have y1 := H2.out; clear H1 H2 HK hb5 hbox hb B3 B4; have H1 := n1; have H2 := n2; have HK := n3; have N5 := n4; have B5 := n5; have B3 := n6; have B4 := n7; clear n1 n2 n3 n4 n5 n6 n7 y1; have c5 := B5.out.cell; have cg := H2.out.cell; have fg : w4.frozen? ⟨g, 0, none⟩ = false := blk_frozen H2.out 0) | ((with_reducible refine gate_store (t := 3) (p := 12) rfl ?_); refine store_event (t := 3) (p := 12) (v := ?vo_) (w1 := w4.setCell ⟨g, 0, none⟩ (.int .i64 (l - 1))) ?hg ?ho ?hn ?hr ?_; (case ho => rfl); (case hg => rfl); (case hn => rfl); (case hr => first | (go_simp; done) | (go_simp; rfl)); intro w5 hw; have n1 := Aside0.mk (show Below w0.heap.size w0 w5 by rw [hw]; exact below_set H1.out hg); have n2 := Aside0.mk (show IntAt w5 g (l - 1) by rw [hw]; simpa [IntAt] using blk_set H2.out 0 (.int .i64 (l - 1))); have n3 := Aside0.mk (show KeepBut w w5 g none by rw [hw]; exact HK.out.trans (keep_set _ _ _ _) (.inl rfl)); have n4 := Aside0.mk (show w5.heap[b3]? = some (.cells #[.int .i64 x.f0, .string x.f1, .int .i64 x.f2, .slice A x.f3.length c] 31 (0, 0)) by rw [hw]; exact (Below.heap_setCell w4 _ _ b3 N3.out).trans B3.out); have n5 := Aside0.mk (show IntAt w5 b4 D by rw [hw]; exact (Below.heap_setCell w4 _ _ b4 N4.out).trans B4.out); have n6 := Aside0.mk (show PtrAt w5 b5 g by rw [hw]; exact (Below.heap_setCell w4 _ _ b5 N5.out).trans B5.out); clear c5 cg fg hw H1 H2 HK B3 B4 B5; have H1 := n1; have H2 := n2; have HK := n3; have B3 := n4; have B4 := n5; have B5 := n6; clear n1 n2 n3 n4 n5 n6; have c4 := B4.out.cell; have c5 := B5.out.cell; have cg := H2.out.cell; have z0 : w5.cell? ⟨b3, 0, none⟩ = some (.int .i64 x.f0) := (blk_cell B3.out 0).trans rfl; have z1 : w5.cell? ⟨b3, 1, none⟩ = some (.string x.f1) := (blk_cell B3.out 1).trans rfl; have z2 : w5.cell? ⟨b3, 2, none⟩ = some (.int .i64 x.f2) := (blk_cell B3.out 2).trans rfl; have z3 : w5.cell? ⟨b3, 3, none⟩ = some (.slice A x.f3.length c) := (blk_cell B3.out 3).trans rfl))
      refine (term_Number.calls x.f2 _ _ HV.out).mono ?_
      rintro e w6 ⟨rfl, ⟨nd, rfl⟩⟩
      go_wp2
      go_ret
      show _ ∧ _ ∧ _ ∧ _
      rw [HM1.out]
      exact ⟨rfl, H2.out, pw_below_drewN H1.out nd, HK.out.trans (keep_of_below (pw_below_drewN (Below.refl _ _) nd)) (.inl rfl)⟩
  by_cases k3 : x.f0 = 3
  · have t1 : (x.f0 == 1) = false := beq_eq_false_iff_ne.2 k1
    have t0 : (x.f0 == 2) = false := beq_eq_false_iff_ne.2 k2
    have t9 : (x.f0 == 3) = true := beq_iff_eq.2 k3
    have HM1 := Aside0.mk (((HM.out.trans (if_neg k1)).trans (if_neg k2)).trans (if_pos k3))
    clear k1 k2 k3 HM
    have HV := Aside0.mk (name_ok x.f1)
    generalize nameB x.f1 = vb at *
    by_cases h2 : x.f2 = 0
    all_goals by_cases h3 : x.f3.length ≤ 4
    all_goals cases vb
    all_goals
      obtain ⟨q2, hq2⟩ : ∃ q, q = decide (x.f2 = 0) := ⟨_, rfl⟩
      obtain ⟨q3, hq3⟩ : ∃ q, q = decide (x.f3.length ≤ 4) := ⟨_, rfl⟩
      rw [← hq2, ← hq3] at HM1
      have t2 : (x.f2 == 0) = q2 := by rw [hq2]; rfl
      have t3 : decide ((x.f3.length : Int) ≤ 4) = q3 := by rw [hq3]; exact decide_eq_decide.2 (by omega)
      have t4 : decide (x.f3.length ≤ 4) = q3 := hq3.symm
      first | (simp only [h2, decide_true] at hq2) | (simp only [h2, decide_false] at hq2)
      first | (simp only [h3, decide_true] at hq3) | (simp only [h3, decide_false] at hq3)
      subst hq2
      subst hq3
      clear h2 h3
      go_enter Try.func101, Try.ntmps101
      go_wp2_with (first | ((with_reducible refine gate_dst (N := 3) rfl ?_); refine box_event ?hg (N := 3) ?hd (cs := #[.int .i64 x.f0, .string x.f1, .int .i64 x.f2, .slice A x.f3.length c]) (t := 31) ?hr ?_; (case hd => rfl); (case hg => rfl); (case hr => first | (go_simp; done) | (go_simp; rfl)); intro b3 hb3 w2 hbox hb; have n1 := Aside0.mk (below_then H1.out H1.out.size hb); have n2 := Aside0.mk (IntAt.below H2.out hb); have n3 := Aside0.mk (HK.out.trans (keep_of_below (g := g) hb) (.inl rfl)); have n4 := Aside0.mk (show b3 ≠ g by have := blk_lt H2.out; omega); have n5 := Aside0.mk hbox; clear H1 H2 HK hb3 hbox hb; have H1 := n1; have H2 := n2; have HK := n3; have N3 := n4; have B3 := n5; clear n1 n2 n3 n4 n5) | ((with_reducible refine gate_dst (N := 4) rfl ?_); refine box_event ?hg (N := 4) ?hd (cs := #[.int .i64 D]) (t := 3) ?hr ?_; (case hd => rfl); (case hg => rfl); (case hr => first | (go_simp; done) | (go_simp; rfl)); intro b4 hb4 w3 hbox hb; have n1 := Aside0.mk (below_then H1.out H1.out.size hb); have n2 := Aside0.mk (IntAt.below H2.out hb); have n3 := Aside0.mk (HK.out.trans (keep_of_below (g := g) hb) (.inl rfl)); have n4 := Aside0.mk (show b4 ≠ g by have := blk_lt H2.out; omega); have n5 := Aside0.mk (show IntAt w3 b4 D from hbox); have n6 := Aside0.mk (blk_below B3.out hb); clear H1 H2 HK hb4 hbox hb B3; have H1 := n1; have H2 := n2; have HK := n3; have N4 := n4; have B4 := n5; have B3 := n6; clear n1 n2 n3 n4 n5 n6) | ((with_reducible refine gate_dst (N := 5) rfl ?_); refine box_event ?hg (N := 5) ?hd (cs := #[.pointer (some ⟨g, 0, none⟩)]) (t := 127) ?hr ?_; (case hd => rfl); (case hg => rfl); (case hr => first | (go_simp; done) | (go_simp; rfl)); intro b5 hb5 w4 hbox hb; have n1 := Aside0.mk (below_then H1.out H1.out.size hb); have n2 := Aside0.mk (IntAt.below H2.out hb); have n3 := Aside0.mk (HK.out.trans (keep_of_below (g := g) hb) (.inl rfl)); have n4 := Aside0.mk (show b5 ≠ g by have := blk_lt H2.out; omega); have n5 := Aside0.mk (show PtrAt w4 b5 g from hbox); have n6 := Aside0.mk (blk_below B3.out hb); have n7 := Aside0.mk (IntAt.below B4.out hb); have y1 := H2.out; clear H1 H2 HK hb5 hbox hb B3 B4; have H1 := n1; have H2 := n2; have HK := n3; have N5 := n4; have B5 := n5; have B3 := n6; have B4 := n7; clear n1 n2 n3 n4 n5 n6 n7 y1; have c5 := B5.out.cell; have cg := H2.out.cell; have fg : w4.frozen? ⟨g, 0, none⟩ = false := blk_frozen H2.out 0) | ((with_reducible refine gate_store (t := 3) (p := 12) rfl ?_); refine store_event (t := 3) (p := 12) (v := ?vo_) (w1 := w4.setCell ⟨g, 0, none⟩ (.int .i64 (l - 1))) ?hg ?ho ?hn ?hr ?_; (case ho => rfl); (case hg => rfl); (case hn => rfl); (case hr => first | (go_simp; done) | (go_simp; rfl)); intro w5 hw; have n1 := Aside0.mk (show Below w0.heap.size w0 w5 by rw [hw]; exact below_set H1.out hg); have n2 := Aside0.mk (show IntAt w5 g (l - 1) by rw [hw]; simpa [IntAt] using blk_set H2.out 0 (.int .i64 (l - 1))); have n3 := Aside0.mk (show KeepBut w w5 g none by rw [hw]; exact HK.out.trans (keep_set _ _ _ _) (.inl rfl)); have n4 := Aside0.mk (show w5.heap[b3]? = some (.cells #[.int .i64 x.f0, .string x.f1, .int .i64 x.f2, .slice A x.f3.length c] 31 (0, 0)) by rw [hw]; exact (Below.heap_setCell w4 _ _ b3 N3.out).trans B3.out); have n5 := Aside0.mk (show IntAt w5 b4 D by rw [hw]; exact (Below.heap_setCell w4 _ _ b4 N4.out).trans B4.out); have n6 := Aside0.mk (show PtrAt w5 b5 g by rw [hw]; exact (Below.heap_setCell w4 _ _ b5 N5.out).trans B5.out); clear c5 cg fg hw H1 H2 HK B3 B4 B5; have H1 := n1; have H2 := n2; have HK := n3; have B3 := n4; have B4 := n5; have B5 := n6; clear n1 n2 n3 n4 n5 n6; have c4 := B4.out.cell; have c5 := B5.out.cell; have cg := H2.out.cell; have z0 : w5.cell? ⟨b3, 0, none⟩ = some (.int .i64 x.f0) := (blk_cell B3.out 0).trans rfl; have z1 : w5.cell? ⟨b3, 1, none⟩ = some (.string x.f1) := (blk_cell B3.out 1).trans rfl; have z2 : w5.cell? ⟨b3, 2, none⟩ = some (.int .i64 x.f2) := (blk_cell B3.out 2).trans rfl; have z3 : w5.cell? ⟨b3, 3, none⟩ = some (.slice A x.f3.length c) := (blk_cell B3.out 3).trans rfl))
      refine (term_Name.calls 40 x.f1 _ _ HV.out).mono ?_
      rintro e w6 ⟨rfl, ⟨nd, rfl⟩⟩
      have n1 := Aside0.mk (pw_below_drewN H1.out nd)
      have n2 := Aside0.mk (show IntAt (w5.drewN nd) g (l - 1) from H2.out)
      have n3 := Aside0.mk (HK.out.trans (keep_of_below (g := g) (pw_below_drewN (Below.refl _ _) nd)) (.inl rfl))
      clear H1 H2 HK
      have H1 := n1
      have H2 := n2
      have HK := n3
      clear n1 n2 n3
      go_wp2_with fail
      first
      | (refine (contains_calls d hd HI.out A x.f3 c g b4 b5 (l - 1) w0 _ HC.out HC2.out H1.out hg H2.out l1 (by omega) (by rw [HD.out]; exact B4.out) B5.out N4.out N5.out).mono ?_
         rintro e w7 ⟨rfl, h1, h2, h3⟩
         go_wp2
         go_ret
         show _ ∧ _ ∧ _ ∧ _
         rw [HM1.out]
         exact ⟨by first | rfl | simp, h1, h2, HK.out.trans h3 (.inl rfl)⟩)
      | (go_ret
         show _ ∧ _ ∧ _ ∧ _
         rw [HM1.out]
         exact ⟨rfl, H2.out, H1.out, HK.out⟩)
  · have t1 : (x.f0 == 1) = false := beq_eq_false_iff_ne.2 k1
    have t0 : (x.f0 == 2) = false := beq_eq_false_iff_ne.2 k2
    have t9 : (x.f0 == 3) = false := beq_eq_false_iff_ne.2 k3
    have HM1 := Aside0.mk (((HM.out.trans (if_neg k1)).trans (if_neg k2)).trans (if_neg k3))
    clear k1 k2 k3 HM
    go_enter Try.func101, Try.ntmps101
    go_wp2_with (first | ((with_reducible refine gate_dst (N := 3) rfl ?_); refine box_event ?hg (N := 3) ?hd (cs := #[.int .i64 x.f0, .string x.f1, .int .i64 x.f2, .slice A x.f3.length c]) (t := 31) ?hr ?_; (case hd => rfl); (case hg => rfl); (case hr => first | (go_simp; done) | (go_simp; rfl)); intro b3 hb3 w2 hbox hb; have n1 := Aside0.mk (below_then H1.out H1.out.size hb); have n2 := Aside0.mk (IntAt.below H2.out hb); have n3 := Aside0.mk (HK.out.trans (keep_of_below (g := g) hb) (.inl rfl)); have n4 := Aside0.mk (show b3 ≠ g by have := blk_lt H2.out; omega); have n5 := Aside0.mk hbox; clear H1 H2 HK hb3 hbox hb; have H1 := n1; have H2 := n2; have HK := n3; have N3 := n4; have B3 := n5; clear n1 n2 n3 n4 n5) | ((with_reducible refine gate_dst (N := 4) rfl ?_); refine box_event ?hg (N := 4) ?hd (cs := #[.int .i64 D]) (t := 3) ?hr ?_; (case hd => rfl); (case hg => rfl); (case hr => first | (go_simp; done) | (go_simp; rfl)); intro b4 hb4 w3 hbox hb; have n1 := Aside0.mk (below_then H1.out H1.out.size hb); have n2 := Aside0.mk (IntAt.below H2.out hb); have n3 := Aside0.mk (HK.out.trans (keep_of_below (g := g) hb) (.inl rfl)); have n4 := Aside0.mk (show b4 ≠ g by have := blk_lt H2.out; omega); have n5 := Aside0.mk (show IntAt w3 b4 D from hbox); have n6 := Aside0.mk (blk_below B3.out hb); clear H1 H2 HK hb4 hbox hb B3; have H1 := n1; have H2 := n2; have HK := n3; have N4 := n4; have B4 := n5; have B3 := n6; clear n1 n2 n3 n4 n5 n6) | ((with_reducible refine gate_dst (N := 5) rfl ?_); refine box_event ?hg (N := 5) ?hd (cs := #[.pointer (some ⟨g, 0, none⟩)]) (t := 127) ?hr ?_; (case hd => rfl); (case hg => rfl); (case hr => first | (go_simp; done) | (go_simp; rfl)); intro b5 hb5 w4 hbox hb; have n1 := Aside0.mk (below_then H1.out H1.out.size hb); have n2 := Aside0.mk (IntAt.below H2.out hb); have n3 := Aside0.mk (HK.out.trans (keep_of_below (g := g) hb) (.inl rfl)); have n4 := Aside0.mk (show b5 ≠ g by have := blk_lt H2.out; omega); have n5 := Aside0.mk (show PtrAt w4 b5 g from hbox); have n6 := Aside0.mk (blk_below B3.out hb); have n7 := Aside0.mk (IntAt.below B4.out hb); have y1 := H2.out; clear H1 H2 HK hb5 hbox hb B3 B4; have H1 := n1; have H2 := n2; have HK := n3; have N5 := n4; have B5 := n5; have B3 := n6; have B4 := n7; clear n1 n2 n3 n4 n5 n6 n7 y1; have c5 := B5.out.cell; have cg := H2.out.cell; have fg : w4.frozen? ⟨g, 0, none⟩ = false := blk_frozen H2.out 0) | ((with_reducible refine gate_store (t := 3) (p := 12) rfl ?_); refine store_event (t := 3) (p := 12) (v := ?vo_) (w1 := w4.setCell ⟨g, 0, none⟩ (.int .i64 (l - 1))) ?hg ?ho ?hn ?hr ?_; (case ho => rfl); (case hg => rfl); (case hn => rfl); (case hr => first | (go_simp; done) | (go_simp; rfl)); intro w5 hw; have n1 := Aside0.mk (show Below w0.heap.size w0 w5 by rw [hw]; exact below_set H1.out hg); have n2 := Aside0.mk (show IntAt w5 g (l - 1) by rw [hw]; simpa [IntAt] using blk_set H2.out 0 (.int .i64 (l - 1))); have n3 := Aside0.mk (show KeepBut w w5 g none by rw [hw]; exact HK.out.trans (keep_set _ _ _ _) (.inl rfl)); have n4 := Aside0.mk (show w5.heap[b3]? = some (.cells #[.int .i64 x.f0, .string x.f1, .int .i64 x.f2, .slice A x.f3.length c] 31 (0, 0)) by rw [hw]; exact (Below.heap_setCell w4 _ _ b3 N3.out).trans B3.out); have n5 := Aside0.mk (show IntAt w5 b4 D by rw [hw]; exact (Below.heap_setCell w4 _ _ b4 N4.out).trans B4.out); have n6 := Aside0.mk (show PtrAt w5 b5 g by rw [hw]; exact (Below.heap_setCell w4 _ _ b5 N5.out).trans B5.out); clear c5 cg fg hw H1 H2 HK B3 B4 B5; have H1 := n1; have H2 := n2; have HK := n3; have B3 := n4; have B4 := n5; have B5 := n6; clear n1 n2 n3 n4 n5 n6; have c4 := B4.out.cell; have c5 := B5.out.cell; have cg := H2.out.cell; have z0 : w5.cell? ⟨b3, 0, none⟩ = some (.int .i64 x.f0) := (blk_cell B3.out 0).trans rfl; have z1 : w5.cell? ⟨b3, 1, none⟩ = some (.string x.f1) := (blk_cell B3.out 1).trans rfl; have z2 : w5.cell? ⟨b3, 2, none⟩ = some (.int .i64 x.f2) := (blk_cell B3.out 2).trans rfl; have z3 : w5.cell? ⟨b3, 3, none⟩ = some (.slice A x.f3.length c) := (blk_cell B3.out 3).trans rfl))
    go_ret
    show _ ∧ _ ∧ _ ∧ _
    rw [HM1.out]
    exact ⟨rfl, H2.out, H1.out, HK.out⟩
end Go.Proofs.Ythaoooohomfkcaa.A

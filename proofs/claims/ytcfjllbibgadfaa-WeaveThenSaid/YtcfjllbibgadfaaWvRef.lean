/- The reference's table (an array of arrays): what it holds is what the program's map holds. No condition. -/
import Derived.Test.YtcfjllbibgadfaaWvThen
import Derived.Deep.MidRow
import Derived.RegionTactic
namespace Go.Proofs.Ytcfjllbibgadfaa.B
open Go Go.RowKit
open Go.Proofs.YtcfjllbibgadfaaW.PrintWords Go.Proofs.YtcfjllbibgadfaaW.PrintLast Go.Proofs.YtcfjllbibgadfaaW.PrintMore
set_option linter.unusedVariables false
set_option linter.unusedSimpArgs false

def arrL (m : Int → Int → Int) : List Value := (List.range 196).map fun j => .int .i64 (m ((j / 14 : Nat) : Int) ((j % 14 : Nat) : Int))
theorem zero28 (w : World) : (zeroValue 28).run Try.prog w = .ok (.agg (arrL fun _ _ => 0).toArray) w := by kernel_rfl
theorem new28 (w : World) : (newVar 28 (.agg (arrL fun _ _ => 0).toArray)).run Try.prog w = .ok ⟨w.heap.size, 0, none⟩ (w.alloc (.cells (arrL fun _ _ => 0).toArray 28)) := by kernel_rfl
theorem arr_get (m : Int → Int → Int) {r q : Nat} (hr : r < 14) (hq : q < 14) : (arrL m)[r * 14 + q]? = some (.int .i64 (m (r : Int) (q : Int))) := by
  unfold arrL
  rw [List.getElem?_map, List.getElem?_range (by omega)]
  simp only [Option.map_some]
  rw [show (r * 14 + q) / 14 = r by omega, show (r * 14 + q) % 14 = q by omega]
theorem arr_len (m : Int → Int → Int) : (arrL m).length = 196 := by unfold arrL; simp
theorem arr_one {m : Int → Int → Int} : ∀ v ∈ arrL m, v.oneCell' = true := by
  intro v hv
  unfold arrL at hv
  obtain ⟨j, _, rfl⟩ := List.mem_map.1 hv
  rfl
theorem arr_set (m : Int → Int → Int) {r q : Nat} (hr : r < 14) (hq : q < 14) (x : Int) : (arrL m).set (r * 14 + q) (.int .i64 x) = arrL (upd m r q x) := by
  apply List.ext_getElem?
  intro j
  by_cases hj : j < 196
  · obtain ⟨a, b, ha, hb, rfl⟩ : ∃ a b, a < 14 ∧ b < 14 ∧ j = a * 14 + b := ⟨j / 14, j % 14, by omega, by omega, by omega⟩
    rw [arr_get _ ha hb, List.getElem?_set]
    by_cases e : r * 14 + q = a * 14 + b
    · have e1 : a = r := by omega
      have e2 : b = q := by omega
      subst e1; subst e2
      rw [if_pos rfl, if_pos (by rw [arr_len]; omega)]
      simp [upd]
    · rw [if_neg e, arr_get _ ha hb]
      unfold upd
      rw [if_neg (by omega)]
  · rw [List.getElem?_eq_none (by rw [List.length_set, arr_len]; omega), List.getElem?_eq_none (by rw [arr_len]; omega)]
theorem onlyR_all : (sp.all fun a => sp.all fun b => decide (almagestref7_Only.f 40 a.f0 a.f1 b.f0 b.f1 = some (onlyF a b))) = true := by decide +kernel
theorem onlyR {a b : S53} (ha : a ∈ sp) (hb : b ∈ sp) : almagestref7_Only.f 40 a.f0 a.f1 b.f0 b.f1 = some (onlyF a b) :=
  of_decide_eq_true (List.all_eq_true.1 (List.all_eq_true.1 onlyR_all a ha) b hb)
theorem spansR : almagestref7_spans.f 60 5 = some sp := by kernel_rfl
theorem bit_shl {r : Int} (h : Rg r) : shl .i64 1 (r - 1) = bitF r := by
  obtain ⟨h1, h2⟩ := h
  have h : r = 1 ∨ r = 2 ∨ r = 3 ∨ r = 4 ∨ r = 5 ∨ r = 6 ∨ r = 7 ∨ r = 8 ∨ r = 9 ∨ r = 10 ∨ r = 11 ∨ r = 12 ∨ r = 13 := by omega
  rcases h with rfl | rfl | rfl | rfl | rfl | rfl | rfl | rfl | rfl | rfl | rfl | rfl | rfl <;> decide +kernel

theorem bit_pow {r : Int} (h : Rg r) : wrap64 (2 ^ (r.toNat - 1)) = bitF r := by
  obtain ⟨h1, h2⟩ := h
  have h : r = 1 ∨ r = 2 ∨ r = 3 ∨ r = 4 ∨ r = 5 ∨ r = 6 ∨ r = 7 ∨ r = 8 ∨ r = 9 ∨ r = 10 ∨ r = 11 ∨ r = 12 ∨ r = 13 := by omega
  rcases h with rfl | rfl | rfl | rfl | rfl | rfl | rfl | rfl | rfl | rfl | rfl | rfl | rfl <;> decide +kernel

theorem below_setCells {B b : Nat} {a : World} : ∀ (vs : List Value) (o : Nat) {w : World}, Below B a w → B ≤ b → Below B a (w.setCells b o vs)
  | [], _, _, h, _ => h
  | v :: r, o, w, h, hb => by
    rw [World.setCells]
    exact below_setCells r (o + 1) (h.setCell hb v) hb

/-- An element of the list, as a load at its address reads it. -/
theorem cells1 {W : World} {ad : Addr} {i : Nat} (h : Kd.C k53 W (some ad) sp.length sp) (hi : i < 15) :
    W.cell? (ad.add (i * 2)) = some (.int .i64 (rd_T53 sp (i : Int)).f0) ∧ W.cell? ⟨(ad.add (i * 2)).block, (ad.add (i * 2)).off + 1, none⟩ = some (.int .i64 (rd_T53 sp (i : Int)).f1) := by
  obtain ⟨ad1, ead, hx0, hx1⟩ := at_T53 h (i : Int) (by omega) (by show (i : Int) < ((15 : Nat) : Int); omega)
  cases ead
  rw [Int.toNat_natCast] at hx0 hx1
  exact ⟨hx0, hx1⟩

theorem C_of_R {α : Type} {d : Kd α} {e : Nat} {w : World} {base : Nat} {ok : Nat → Prop} {A : Option Addr} {n c : Nat} {xs : List α} (h : d.R e w base ok (.slice A n c) xs) : d.C w A n xs := by
  obtain ⟨A', c', e, _, hC⟩ := Kd.R_reads h
  cases e
  exact hC

set_option maxHeartbeats 8000000 in
set_option maxRecDepth 100000 in
theorem almagestref7_Table_calls (w : World) :
    Calls Try.prog 21 #[] w fun e w' => e = .returned (.agg (arrL tabF).toArray) ∧ Below w.heap.size w w' := by
  have hal := zero28
  have hnew := new28
  have HZ0 := Aside0.mk (show (arrL fun _ _ => 0).toArray = (arrL (rowA 0)).toArray from rfl)
  have hu53 := Try.underlying53
  generalize (arrL fun _ _ => 0).toArray = z at *
  have HB := Aside0.mk (Below.refl w.heap.size w)
  go_enter Try.func21, Try.ntmps21
  go_wp2_with fail
  refine (almagestref7_spans.calls 60 5 sp _ spansR).mono ?_
  rintro e w1 ⟨v1, rfl, hr, hb⟩
  have HB1 := Aside0.mk (below_step (below_alloc (below_alloc HB.out (Obj.cells z 28)) (Obj.cells z 28)) hb)
  have BR := Aside0.mk (blk_below (blk_alloc (heap_alloc_new w (Obj.cells z 28)) (Obj.cells z 28)) hb)
  have BT := Aside0.mk (blk_below (heap_alloc_new (w.alloc (Obj.cells z 28)) (Obj.cells z 28)) hb)
  obtain ⟨A1, c1, e1, hl1, _⟩ := Kd.R_reads hr
  subst e1
  have HR := Aside0.mk hr
  have ZB := Aside0.mk (show w.heap.size ≤ w.heap.size + 1 by omega)
  clear HB hb hr hl1
  go_wp2_with fail
  obtain ⟨gt, hgt⟩ : ∃ g, g = w.heap.size + 1 := ⟨_, rfl⟩
  rw [show (w.alloc (Obj.cells z 28)).heap.size = w.heap.size + 1 by simp] at BT
  rw [← hgt] at BT ZB ⊢
  rw [HZ0.out] at BT
  have NE := Aside0.mk (show w.heap.size ≠ gt by omega)
  have ZS := Aside0.mk (show z.size = 196 by rw [HZ0.out, List.size_toArray, arr_len])
  clear hgt HZ0 hal hnew
  generalize ((w.alloc (Obj.cells z 28)).alloc (Obj.cells z 28)).heap.size = b0 at *
  go_loopg [3] 16 (fun kq v3 w' => ∃ i : Nat, v3 = .int .i64 (i : Int) ∧ Aside0 (kq + i = 16) ∧ Aside0 (i ≤ 15) ∧ Aside0 (w'.heap[w.heap.size]? = some (.cells z 28 (0, 0))) ∧ Aside0 (w'.heap[gt]? = some (.cells (arrL (rowA i)).toArray 28 (0, 0))) ∧ Aside0 (Kd.R k53 53 w' b0 (fun _ => True) (.slice A1 sp.length c1) sp) ∧ Aside0 (Below w.heap.size w w'))
  case atStart => exact ⟨0, rfl, ⟨rfl⟩, ⟨by omega⟩, BR, BT, HR, HB1⟩
  case round =>
    clear BR BT HR HB1
    obtain ⟨i, rfl, HK3, HI, BR, BT, HR, HB⟩ := hrel
    obtain ⟨g3, rfl⟩ : ∃ g, gk = g + 1 := ⟨gk - 1, by have := HK3.out; have := HI.out; omega⟩
    by_cases hi : i < 15
    · have q1b : decide (i < sp.length) = true := decide_eq_true (by show i < 15; omega)
      go_wp2_with fail
      clear q1b
      go_loopg [4] 16 (fun kq v4 w' => ∃ j : Nat, v4 = .int .i64 (j : Int) ∧ Aside0 (kq + j = 16) ∧ Aside0 (j ≤ 15) ∧ Aside0 (w'.heap[w.heap.size]? = some (.cells z 28 (0, 0))) ∧ Aside0 (w'.heap[gt]? = some (.cells (arrL (rowB (rowA i) (rd_T53 sp (i : Int)) j)).toArray 28 (0, 0))) ∧ Aside0 (Kd.R k53 53 w' b0 (fun _ => True) (.slice A1 sp.length c1) sp) ∧ Aside0 (Below w.heap.size w w'))
      case atStart => exact ⟨0, rfl, ⟨rfl⟩, ⟨by omega⟩, BR, BT, HR, HB⟩
      case round =>
        clear BR BT HR HB
        obtain ⟨j, rfl, HK4, HJ, BR, BT, HR, HB⟩ := hrel
        obtain ⟨g4, rfl⟩ : ∃ g, gk = g + 1 := ⟨gk - 1, by have := HK4.out; have := HJ.out; omega⟩
        by_cases hj : j < 15
        · have q1b : decide (j < sp.length) = true := decide_eq_true (by show j < 15; omega)
          go_wp2_with fail
          clear q1b
          go_loopg [5] 16 (fun kq v5 w' => ∃ k : Nat, v5 = .int .i64 (k : Int) ∧ Aside0 (kq + k = 16) ∧ Aside0 (k ≤ 15) ∧ Aside0 (w'.heap[w.heap.size]? = some (.cells z 28 (0, 0))) ∧ Aside0 (w'.heap[gt]? = some (.cells (arrL (rowC (rowB (rowA i) (rd_T53 sp (i : Int)) j) (rd_T53 sp (i : Int)) (rd_T53 sp (j : Int)) k)).toArray 28 (0, 0))) ∧ Aside0 (Kd.R k53 53 w' b0 (fun _ => True) (.slice A1 sp.length c1) sp) ∧ Aside0 (Below w.heap.size w w'))
          case atStart => exact ⟨0, rfl, ⟨rfl⟩, ⟨by omega⟩, BR, BT, HR, HB⟩
          case round =>
            clear BR BT HR HB
            obtain ⟨k, rfl, HK5, HL, BR, BT, HR, HB⟩ := hrel
            obtain ⟨g5, rfl⟩ : ∃ g, gk = g + 1 := ⟨gk - 1, by have := HK5.out; have := HL.out; omega⟩
            by_cases hk : k < 15
            · have q1b : decide (k < sp.length) = true := decide_eq_true (by show k < 15; omega)
              go_wp2_with fail
              clear q1b
              have hp1 : (0 : Int) ≤ (i : Int) := by omega
              have hp2 : (0 : Int) ≤ (j : Int) := by omega
              have hp3 : (0 : Int) ≤ (k : Int) := by omega
              have hq1 : (i : Int) < (sp.length : Int) := by show (i : Int) < ((15 : Nat) : Int); omega
              have hq2 : (j : Int) < (sp.length : Int) := by show (j : Int) < ((15 : Nat) : Int); omega
              have hq3 : (k : Int) < (sp.length : Int) := by show (k : Int) < ((15 : Nat) : Int); omega
              obtain ⟨ad, ead, _, _⟩ := at_T53 (C_of_R HR.out) (i : Int) hp1 hq1
              cases ead
              obtain ⟨y1, y2⟩ := cells1 (C_of_R HR.out) hi
              obtain ⟨y3, y4⟩ := cells1 (C_of_R HR.out) hj
              obtain ⟨y5, y6⟩ := cells1 (C_of_R HR.out) hk
              have CS := Aside0.mk (fun (W : World) (h : Kd.R k53 53 W b0 (fun _ => True) (.slice (some ad) sp.length c1) sp) => (⟨(cells1 (C_of_R h) hi).1, (cells1 (C_of_R h) hi).2, (cells1 (C_of_R h) hj).1, (cells1 (C_of_R h) hj).2, (cells1 (C_of_R h) hk).1, (cells1 (C_of_R h) hk).2⟩ : W.cell? (ad.add (i * 2)) = some (.int .i64 (rd_T53 sp (i : Int)).f0) ∧ W.cell? ⟨(ad.add (i * 2)).block, (ad.add (i * 2)).off + 1, none⟩ = some (.int .i64 (rd_T53 sp (i : Int)).f1) ∧ W.cell? (ad.add (j * 2)) = some (.int .i64 (rd_T53 sp (j : Int)).f0) ∧ W.cell? ⟨(ad.add (j * 2)).block, (ad.add (j * 2)).off + 1, none⟩ = some (.int .i64 (rd_T53 sp (j : Int)).f1) ∧ W.cell? (ad.add (k * 2)) = some (.int .i64 (rd_T53 sp (k : Int)).f0) ∧ W.cell? ⟨(ad.add (k * 2)).block, (ad.add (k * 2)).off + 1, none⟩ = some (.int .i64 (rd_T53 sp (k : Int)).f1)))
              clear y1 y2 y3 y4 y5 y6
              have K1 := Aside0.mk (onlyR (sp_mem hi) (sp_mem hj))
              have K2 := Aside0.mk (onlyR (sp_mem hj) (sp_mem hk))
              have K3 := Aside0.mk (onlyR (sp_mem hi) (sp_mem hk))
              have R1 := Aside0.mk (only_ok (sp_mem hi) (sp_mem hj)).2
              have R2 := Aside0.mk (only_ok (sp_mem hj) (sp_mem hk)).2
              have R3 := Aside0.mk (only_ok (sp_mem hi) (sp_mem hk)).2
              have HNE := Aside0.mk (stepT_eq (rowC (rowB (rowA i) (rd_T53 sp (i : Int)) j) (rd_T53 sp (i : Int)) (rd_T53 sp (j : Int)) k) (rd_T53 sp (i : Int)) (rd_T53 sp (j : Int)) (rd_T53 sp (k : Int)))
              have HNX := Aside0.mk (rowC_next (rowB (rowA i) (rd_T53 sp (i : Int)) j) (rd_T53 sp (i : Int)) (rd_T53 sp (j : Int)) hk)
              rw [HNE.out] at HNX
              clear HNE
              generalize rowC (rowB (rowA i) (rd_T53 sp (i : Int)) j) (rd_T53 sp (i : Int)) (rd_T53 sp (j : Int)) k = m at *
              generalize rd_T53 sp (i : Int) = sa at *
              generalize rd_T53 sp (j : Int) = sb at *
              generalize rd_T53 sp (k : Int) = sc at *
              generalize onlyF sa sb = o1 at *
              generalize onlyF sb sc = o2 at *
              generalize onlyF sa sc = o3 at *
              have HB1 := Aside0.mk (HB.out.drew)
              have HR1 := Aside0.mk (Kd.R_drew HR.out)
              have BR1 := Aside0.mk (blk_drew BR.out)
              have BT1 := Aside0.mk (blk_drew BT.out)
              clear HB HR BR BT
              have HB := HB1
              have HR := HR1
              have BR := BR1
              have BT := BT1
              clear HB1 HR1 BR1 BT1
              replace hp1 := eq_true hp1
              replace hp2 := eq_true hp2
              replace hp3 := eq_true hp3
              replace hq1 := eq_true hq1
              replace hq2 := eq_true hq2
              replace hq3 := eq_true hq3
              go_region_held3 (fun W => W.cell? (ad.add (i * 2)) = some (.int .i64 sa.f0) ∧ W.cell? ⟨(ad.add (i * 2)).block, (ad.add (i * 2)).off + 1, none⟩ = some (.int .i64 sa.f1) ∧ W.cell? (ad.add (j * 2)) = some (.int .i64 sb.f0) ∧ W.cell? ⟨(ad.add (j * 2)).block, (ad.add (j * 2)).off + 1, none⟩ = some (.int .i64 sb.f1) ∧ W.cell? (ad.add (k * 2)) = some (.int .i64 sc.f0) ∧ W.cell? ⟨(ad.add (k * 2)).block, (ad.add (k * 2)).off + 1, none⟩ = some (.int .i64 sc.f1))
                (first
                  | exact CS.out _ HR.out)
                (first
                  | (go_at_call 40; (with_reducible refine (almagestref7_Only.calls 40 sa.f0 sa.f1 sb.f0 sb.f1 o1 _ K1.out).mono ?_); rintro e w1 ⟨rfl, hb⟩; have n1 := Aside0.mk (below_step HB.out hb); have n2 := Aside0.mk (Kd.R_below HR.out hb); have n4 := Aside0.mk (blk_below BR.out hb); have n5 := Aside0.mk (blk_below BT.out hb); clear HB HR BR BT hb; have HB := n1; have HR := n2; have BR := n4; have BT := n5; clear n1 n2 n4 n5)
                  | (go_at_call 40; (with_reducible refine (almagestref7_Only.calls 40 sb.f0 sb.f1 sc.f0 sc.f1 o2 _ K2.out).mono ?_); rintro e w2 ⟨rfl, hb⟩; have n1 := Aside0.mk (below_step HB.out hb); have n2 := Aside0.mk (Kd.R_below HR.out hb); have n4 := Aside0.mk (blk_below BR.out hb); have n5 := Aside0.mk (blk_below BT.out hb); clear HB HR BR BT hb; have HB := n1; have HR := n2; have BR := n4; have BT := n5; clear n1 n2 n4 n5)
                  | (go_at_call 40; (with_reducible refine (almagestref7_Only.calls 40 sa.f0 sa.f1 sc.f0 sc.f1 o3 _ K3.out).mono ?_); rintro e w3 ⟨rfl, hb⟩; have n1 := Aside0.mk (below_step HB.out hb); have n2 := Aside0.mk (Kd.R_below HR.out hb); have n4 := Aside0.mk (blk_below BR.out hb); have n5 := Aside0.mk (blk_below BT.out hb); clear HB HR BR BT hb; have HB := n1; have HR := n2; have BR := n4; have BT := n5; clear n1 n2 n4 n5))
              all_goals
                clear K1 K2 K3 CS hp1 hp2 hp3 hq1 hq2 hq3
                obtain ⟨a, rfl⟩ : ∃ a : Nat, o1 = (a : Int) := ⟨o1.toNat, by have := R1.out.1; omega⟩
                obtain ⟨b, rfl⟩ : ∃ b : Nat, o2 = (b : Int) := ⟨o2.toNat, by have := R2.out.1; omega⟩
                have ha : a < 14 := by have := R1.out.2; omega
                have hb : b < 14 := by have := R2.out.2; omega
                have hcell : w3.cell? ⟨gt, a * 14 + b, none⟩ = some (.int .i64 (m (a : Int) (b : Int))) := (blk_cell BT.out (a * 14 + b)).trans (by simpa using arr_get m ha hb)
                have hfrz : w3.frozen? ⟨gt, a * 14 + b, none⟩ = false := blk_frozen BT.out (a * 14 + b)
                have hb1 : (0 : Int) ≤ (a : Int) := by omega
                have hb2 : (a : Int) < 14 := by omega
                have hb3 : (0 : Int) ≤ (b : Int) := by omega
                have hb4 : (b : Int) < 14 := by omega
                have hb5 : (0 : Int) ≤ o3 - 1 := by have := R3.out.1; omega
                have hb6 : o3 ≤ 13 := R3.out.2
                have hb7 : (1 : Int) ≤ o3 := R3.out.1
                go_wp2_with fail
                go_region
                go_wp2_with fail
                go_roundg g5
                case measure => omega
                case rel =>
                  refine ⟨k + 1, by go_num, ⟨by have := HK5.out; omega⟩, ⟨by omega⟩, ⟨?_⟩, ⟨?_⟩, ⟨?_⟩, ⟨?_⟩⟩
                  · exact blk_drew (blk_far BR.out NE.out _)
                  · rw [HNX.out, ← arr_set m ha hb, ← bit_pow R3.out]
                    refine (blk_drew (heap_setCell_same w3 gt (a * 14 + b) _ 28 _ BT.out)).trans ?_
                    rw [List.setIfInBounds_toArray]
                  · exact Kd.R_drew (Kd.R_set HR.out BT.out (by decide) _ _)
                  · exact (Below.setCell HB.out (by exact ZB.out) _).drew
            · have q1 : decide (k < sp.length) = false := decide_eq_false (by show ¬ k < 15; omega)
              have bd1 : (j : Int) ≤ 100 := by omega
              go_wp2
              go_roundg g4
              case measure => omega
              case rel =>
                have e15 : k = 15 := by have := HL.out; omega
                subst e15
                refine ⟨j + 1, by go_num, ⟨by have := HK4.out; omega⟩, ⟨by omega⟩, BR, ⟨?_⟩, HR, HB⟩
                rw [rowB_next _ _ hj]; exact BT.out
        · have q1 : decide (j < sp.length) = false := decide_eq_false (by show ¬ j < 15; omega)
          have bd1 : (i : Int) ≤ 100 := by omega
          go_wp2
          go_roundg g3
          case measure => omega
          case rel =>
            have e15 : j = 15 := by have := HJ.out; omega
            subst e15
            refine ⟨i + 1, by go_num, ⟨by have := HK3.out; omega⟩, ⟨by omega⟩, BR, ⟨?_⟩, HR, HB⟩
            rw [rowA_next hi]; exact BT.out
    · have q1 : decide (i < sp.length) = false := decide_eq_false (by show ¬ i < 15; omega)
      have e15 : i = 15 := by have := HI.out; omega
      subst e15
      have hrange : wr.rangeAt gt 0 (arrL (rowA 15)) := fun j v hv => by
        rw [Nat.zero_add, blk_cell BT.out j]
        simpa using hv
      have hthere : wr.there w.heap.size 0 (arrL (rowA 15)).toArray.size := fun j hj => by
        rw [List.size_toArray, arr_len] at hj
        rw [Nat.zero_add]
        refine ⟨?_, blk_frozen BR.out j⟩
        rw [blk_cell BR.out j, Array.getElem?_eq_getElem (by have := ZS.out; omega)]
        rfl
      have hinfo : (Try.prog.info? 28).map (·.size) = some (arrL (rowA 15)).length := by rw [arr_len]; kernel_rfl
      have hinfo2 : (Try.prog.info? 28).map (·.size) = some (arrL (rowA 15)).toArray.size := by rw [List.size_toArray, arr_len]; kernel_rfl
      have hone : (arrL (rowA 15)).toArray.all (·.oneCell') = true := all_oneCell_toArray arr_one
      have HT := Aside0.mk (show rowA 15 = tabF from rfl)
      generalize rowA 15 = m at *
      have HRG := Aside0.mk hrange
      have HTH := Aside0.mk hthere
      have HI1 := Aside0.mk hinfo
      have HI2 := Aside0.mk hinfo2
      have HON := Aside0.mk hone
      clear hrange hthere hinfo hinfo2 hone
      go_wp2_with (first | (refine wpList_load_mid rfl 28 (.tmp 1) rfl gt 0 rfl (arrL m) _ HRG.out Try.underlying28 rfl HI1.out ?_) | (refine wpList_store_mid rfl 28 (.tmp 0) (.tmp 68) rfl w.heap.size 0 (arrL m).toArray rfl rfl HTH.out HI2.out HON.out ?_))
      have hlv := run_loadVar_mid (P := Try.prog) (wr.setCells w.heap.size 0 (arrL m)) w.heap.size 0 28 (arrL m) _ (World.rangeAt_setCells_same wr w.heap.size 0 (arrL m) (by have h := HTH.out; rw [List.size_toArray] at h; exact h)) Try.underlying28 rfl HI1.out
      refine bodyPost_ret (v := .agg (arrL m).toArray) ?_ rfl ⟨by rw [HT.out], below_setCells (arrL m) 0 HB.out (Nat.le_refl _)⟩
      simp [results, Try.results21, asAddr, Act.put, hlv]
end Go.Proofs.Ytcfjllbibgadfaa.B

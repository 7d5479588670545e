/- The table of the program's own text (a map that the call makes): what it holds. No condition. -/
import Derived.Test.YtcfjllbibgadfaaB2
import Derived.Test.YtcfjllbibgadfaaB3
import Derived.Test.YtcfjllbibgadfaaWvMap
import Derived.Test.YtcfjllbibgadfaaEvLib
import Derived.OpenShut
namespace Go.Proofs.Ytcfjllbibgadfaa.B
open Go Go.RowKit Go.ChangeMaps Go.MapKept
open Go.Proofs.YtcfjllbibgadfaaW.PrintWords Go.Proofs.YtcfjllbibgadfaaW.PrintLast Go.Proofs.YtcfjllbibgadfaaW.PrintMore
set_option linter.unusedVariables false
set_option linter.unusedSimpArgs false

def sp : List S53 := [⟨0, 1⟩, ⟨0, 2⟩, ⟨0, 3⟩, ⟨0, 4⟩, ⟨0, 5⟩, ⟨1, 2⟩, ⟨1, 3⟩, ⟨1, 4⟩, ⟨1, 5⟩, ⟨2, 3⟩, ⟨2, 4⟩, ⟨2, 5⟩, ⟨3, 4⟩, ⟨3, 5⟩, ⟨4, 5⟩]
def onlyF (a b : S53) : Int := (weave_lies.f 40 a.f0 a.f1 b.f0 b.f1).getD 0
theorem only_all : (sp.all fun a => sp.all fun b => (weave_lies.f 40 a.f0 a.f1 b.f0 b.f1).isSome && (decide (1 ≤ onlyF a b) && decide (onlyF a b ≤ 13))) = true := by decide +kernel
theorem only_ok {a b : S53} (ha : a ∈ sp) (hb : b ∈ sp) : weave_lies.f 40 a.f0 a.f1 b.f0 b.f1 = some (onlyF a b) ∧ Rg (onlyF a b) := by
  have h := List.all_eq_true.1 (List.all_eq_true.1 only_all a ha) b hb
  simp only [Bool.and_eq_true, decide_eq_true_eq] at h
  obtain ⟨h1, h2, h3⟩ := h
  obtain ⟨x, hx⟩ := Option.isSome_iff_exists.1 h1
  exact ⟨by unfold onlyF; rw [hx]; rfl, h2, h3⟩
def bitF (r : Int) : Int := (weave_bit.f r).getD 0
theorem bit_ok {r : Int} (h : Rg r) : weave_bit.f r = some (bitF r) ∧ (Lit.int .i64 (bitF r)).wf = true ∧ 0 ≤ bitF r ∧ bitF r < 8192 := by
  obtain ⟨h1, h2⟩ := h
  have h : r = 1 ∨ r = 2 ∨ r = 3 ∨ r = 4 ∨ r = 5 ∨ r = 6 ∨ r = 7 ∨ r = 8 ∨ r = 9 ∨ r = 10 ∨ r = 11 ∨ r = 12 ∨ r = 13 := by omega
  rcases h with rfl | rfl | rfl | rfl | rfl | rfl | rfl | rfl | rfl | rfl | rfl | rfl | rfl <;> decide +kernel

def stepT (m : Int → Int → Int) (a b c : S53) : Int → Int → Int := upd m (onlyF a b) (onlyF b c) (Go.bits .or .i64 (m (onlyF a b) (onlyF b c)) (bitF (onlyF a c)))
def rowC (m : Int → Int → Int) (a b : S53) (k : Nat) : Int → Int → Int := (sp.take k).foldl (fun m c => stepT m a b c) m
def rowB (m : Int → Int → Int) (a : S53) (j : Nat) : Int → Int → Int := (sp.take j).foldl (fun m b => rowC m a b 15) m
def rowA (i : Nat) : Int → Int → Int := (sp.take i).foldl (fun m a => rowB m a 15) (fun _ _ => 0)
def tabF : Int → Int → Int := rowA 15
theorem sp_get {i : Nat} (h : i < 15) : sp[i]? = some (rd_T53 sp (i : Int)) := by
  unfold rd_T53
  rw [List.getD_eq_getElem?_getD, Int.toNat_natCast, List.getElem?_eq_getElem (by exact h)]
  rfl
theorem sp_mem {i : Nat} (h : i < 15) : rd_T53 sp (i : Int) ∈ sp := List.mem_of_getElem? (sp_get h)
theorem take_next {i : Nat} (h : i < 15) : sp.take (i + 1) = sp.take i ++ [rd_T53 sp (i : Int)] := by
  rw [List.take_add_one, sp_get h]; rfl
theorem rowC_next (m : Int → Int → Int) (a b : S53) {k : Nat} (h : k < 15) : rowC m a b (k + 1) = stepT (rowC m a b k) a b (rd_T53 sp (k : Int)) := by
  unfold rowC; rw [take_next h]; simp only [List.foldl_append, List.foldl_cons, List.foldl_nil]
theorem rowB_next (m : Int → Int → Int) (a : S53) {k : Nat} (h : k < 15) : rowB m a (k + 1) = rowC (rowB m a k) a (rd_T53 sp (k : Int)) 15 := by
  unfold rowB; rw [take_next h]; simp only [List.foldl_append, List.foldl_cons, List.foldl_nil]
theorem rowA_next {k : Nat} (h : k < 15) : rowA (k + 1) = rowB (rowA k) (rd_T53 sp (k : Int)) 15 := by
  unfold rowA; rw [take_next h]; simp only [List.foldl_append, List.foldl_cons, List.foldl_nil]

mutual
def tb_l0 : Nat → List S53 → Int → Option (List S53)
  | 0, _, _ => none
  | k + 1, x3, x4 => if x4 < 6 then (tb_l1 k x3 x4 (wrap64 (x4 + 1))) else (some x3)
def tb_l1 : Nat → List S53 → Int → Int → Option (List S53)
  | 0, _, _, _ => none
  | k + 1, x3, x4, x5 => if x5 < 6 then (if x3.length < 8796093022208 then (tb_l1 k (x3 ++ [(⟨x4, x5⟩ : S53)]) x4 (wrap64 (x5 + 1))) else (none)) else (tb_l0 k x3 (wrap64 (x4 + 1)))
end
theorem tb_sp : tb_l0 40 [] 0 = some sp := by kernel_rfl

theorem keyed_eq {r q : Int} : (Value.agg #[.int .i64 r, .int .i64 q]) = key r q := rfl

theorem stepT_eq (m : Int → Int → Int) (a b c : S53) : stepT m a b c = upd m (onlyF a b) (onlyF b c) (Go.bits .or .i64 (m (onlyF a b) (onlyF b c)) (bitF (onlyF a c))) := rfl
theorem boxes {W : World} {ba bb bc : Nat} {sa sb sc : S53} (ha : W.heap[ba]? = some (.cells #[.int .i64 sa.f0, .int .i64 sa.f1] 53 (0, 0))) (hb : W.heap[bb]? = some (.cells #[.int .i64 sb.f0, .int .i64 sb.f1] 53 (0, 0))) (hc : W.heap[bc]? = some (.cells #[.int .i64 sc.f0, .int .i64 sc.f1] 53 (0, 0))) :
    W.cell? ⟨ba, 0, none⟩ = some (.int .i64 sa.f0) ∧ W.cell? ⟨ba, 1, none⟩ = some (.int .i64 sa.f1) ∧ W.cell? ⟨bb, 0, none⟩ = some (.int .i64 sb.f0) ∧ W.cell? ⟨bb, 1, none⟩ = some (.int .i64 sb.f1) ∧ W.cell? ⟨bc, 0, none⟩ = some (.int .i64 sc.f0) ∧ W.cell? ⟨bc, 1, none⟩ = some (.int .i64 sc.f1) :=
  ⟨(blk_cell ha 0).trans rfl, (blk_cell ha 1).trans rfl, (blk_cell hb 0).trans rfl, (blk_cell hb 1).trans rfl, (blk_cell hc 0).trans rfl, (blk_cell hc 1).trans rfl⟩

set_option maxHeartbeats 8000000 in
set_option maxRecDepth 100000 in
theorem weave_table_calls (w : World) :
    Calls Try.prog 44 #[] w fun e w' => ∃ b n : Nat, e = .returned (.map (some b)) ∧ n ≤ 4000 ∧ w.heap.size ≤ b ∧ OwnT w' b n tabF ∧ Below w.heap.size w w' := by
  have hu53 := Try.underlying53
  have hmm := @run_makeMap Try.prog
  have HB := Aside0.mk (Below.refl w.heap.size w)
  have H' := Aside0.mk tb_sp
  go_enter Try.func44, Try.ntmps44
  go_wp2
  go_loopg [1, 11] 40 (fun kq v3 v4 w' => ∃ (x3_1 : List (S53)) (x4_1 : Int), v4 = .int .i64 x4_1 ∧ Aside0 (tb_l0 kq x3_1 x4_1 = some sp) ∧ Aside0 (kq ≤ 40) ∧ Aside0 (Kd.R k53 53 w' w.heap.size (fun _ => True) v3 x3_1) ∧ Aside0 (Below w.heap.size w w'))
  case atStart => exact ⟨(([] : List (S53))), (0), (by first | rfl | (simp; done) | (simp [*]; done)), H', ⟨Nat.le_refl _⟩, ⟨by first | exact Kd.R_nil _ _ _ _ _⟩, ⟨by repeat (first | (with_reducible first | exact HB.out | apply below_alloc | apply pw_below_drewN | apply below_drew1) | exact HB.out)⟩⟩
  case round =>
    clear H'
    obtain ⟨x3_1, x4_1, rfl, HA, HK1, HO_3, HB⟩ := hrel
    cases gk with
    | zero => exact absurd HA.out (by simp [tb_l0])
    | succ k1 =>
      have H := HA.out
      clear HA
      simp only [tb_l0] at H
      by_cases c2 : x4_1 < 6
      · rw [if_pos c2] at H
        have c2b0 : decide (x4_1 < 6) = true := decide_eq_true c2
        clear c2
        have H' := Aside0.mk H
        clear H
        go_wp2
        go_loopg [1, 3] k1 (fun kq v3 v5 w' => ∃ (x3_2 : List (S53)) (x5_2 : Int), v5 = .int .i64 x5_2 ∧ Aside0 (tb_l1 kq x3_2 x4_1 x5_2 = some sp) ∧ Aside0 (kq ≤ k1) ∧ Aside0 (Kd.R k53 53 w' w.heap.size (fun _ => True) v3 x3_2) ∧ Aside0 (Below w.heap.size w w'))
        case atStart => exact ⟨(x3_1), (wrap64 (x4_1 + 1)), (by first | rfl | (simp; done) | (simp [*]; done)), H', ⟨Nat.le_refl _⟩, ⟨by (with_reducible repeat (first | apply Kd.R_alloc | apply Kd.R_drewN | apply Kd.R_drew)); exact HO_3.out⟩, ⟨by repeat (first | (with_reducible first | exact HB.out | apply below_alloc | apply pw_below_drewN | apply below_drew1) | exact HB.out)⟩⟩
        case round =>
          clear H'
          try clear c2
          try clear c2b0
          obtain ⟨x3_2, x5_2, rfl, HA, HK2, HO_3, HB⟩ := hrel
          cases gk with
          | zero => exact absurd HA.out (by simp [tb_l1])
          | succ k2 =>
            have H := HA.out
            clear HA
            simp only [tb_l1] at H
            by_cases c3 : x5_2 < 6
            · rw [if_pos c3] at H
              have c3b0 : decide (x5_2 < 6) = true := decide_eq_true c3
              clear c3
              by_cases c4 : x3_2.length < 8796093022208
              · rw [if_pos c4] at H
                have LMc4 := Aside0.mk c4
                clear c4
                obtain ⟨y119, hy119⟩ : ∃ y_ : List (S53), y_ = (x3_2 ++ [(⟨x4_1, x5_2⟩ : S53)]) := ⟨_, rfl⟩
                rw [← hy119] at H
                have Ny119 := Aside0.mk hy119
                clear hy119
                have H' := Aside0.mk H
                clear H
                go_wp2_with (first | ((with_reducible refine gate_builtin (b := .append) (xs := #[.tmp 20, .tmp 24]) rfl ?_); at_builtin; refine Kd.R_append k53 (w0 := w) w.heap.size rfl (.tmp 20) (.tmp 24) 51 53 (.agg #[(.int .i64 0), (.int .i64 0)]) 16 rfl Try.underlying51 info53 rfl (by decide) (by omega) u1 x3_2 (⟨x4_1, x5_2⟩ : S53) [.int .i64 x4_1, .int .i64 x5_2] (fun _ => True) (fun _ => False) rfl rfl ?aP (fun _ hk => hk.elim) ?aF ?aO ?aB ?aS ?aL ?_; (case aP => exact k53_mkM _ _ _ (⟨x4_1, x5_2⟩ : S53)); (case aB => exact (by repeat (first | (with_reducible first | exact HB.out | apply below_alloc | apply pw_below_drewN | apply below_drew1) | exact HB.out))); (case aF => exact (fun _ _ => trivial)); (case aO => exact (by (with_reducible repeat (first | apply Kd.R_alloc | apply Kd.R_drewN | apply Kd.R_drew)); exact HO_3.out)); (case aS => exact (below_size (by repeat (first | (with_reducible first | exact HB.out | apply below_alloc | apply pw_below_drewN | apply below_drew1) | exact HB.out)))); (case aL => have := LMc4.out; omega); intro v120 w5 ho hb hg hat; rw [← Ny119.out] at ho; have n0_ := Aside0.mk (hb); have n1_ := Aside0.mk (ho); clear HB; clear HO_3; have HB := n0_; have HO121 := n1_; clear n0_ n1_; clear ho hb hg hat))
                go_roundg k2
                case measure => have := HK1.out; have := HK2.out; omega
                case rel => exact ⟨(y119), (wrap64 (x5_2 + 1)), (by first | rfl | (simp; done) | (simp [*]; done)), H', ⟨by have := HK1.out; have := HK2.out; omega⟩, ⟨by (with_reducible repeat (first | apply Kd.R_alloc | apply Kd.R_drewN | apply Kd.R_drew)); exact HO121.out⟩, ⟨by repeat (first | (with_reducible first | exact HB.out | apply below_alloc | apply pw_below_drewN | apply below_drew1) | exact HB.out)⟩⟩
              · rw [if_neg c4] at H
                exact absurd H (by simp)
            · rw [if_neg c3] at H
              have c3b0 : decide (x5_2 < 6) = false := decide_eq_false c3
              clear c3
              have H' := Aside0.mk H
              clear H
              go_wp2
              go_roundg k2
              case measure => have := HK1.out; have := HK2.out; omega
              case rel => exact ⟨(x3_2), (wrap64 (x4_1 + 1)), (by first | rfl | (simp; done) | (simp [*]; done)), H', ⟨by have := HK1.out; have := HK2.out; omega⟩, ⟨by (with_reducible repeat (first | apply Kd.R_alloc | apply Kd.R_drewN | apply Kd.R_drew)); exact HO_3.out⟩, ⟨by repeat (first | (with_reducible first | exact HB.out | apply below_alloc | apply pw_below_drewN | apply below_drew1) | exact HB.out)⟩⟩
      · rw [if_neg c2] at H
        have c2b0 : decide (x4_1 < 6) = false := decide_eq_false c2
        clear c2
        obtain rfl := Option.some.inj H
        clear H
        obtain ⟨A1, c1, e1, hl1, HR⟩ := Kd.R_reads HO_3.out
        subst e1
        clear HO_3
        have HRC := Aside0.mk HR
        clear HR hl1
        go_wp2
        have hown0 := OwnT.made wr
        have hsz0 : w.heap.size ≤ wr.heap.size := below_size HB.out
        have HB0 := Aside0.mk (below_alloc HB.out (Obj.map #[] 0))
        have HRC0 := Aside0.mk (Kd.C_alloc HRC.out (Obj.map #[] 0))
        clear HB HRC
        have HO := Aside0.mk hown0
        have HZ := Aside0.mk hsz0
        clear hown0 hsz0
        generalize wr.heap.size = B at *
        go_loopg [30] 16 (fun kq v30 w' => ∃ i n : Nat, v30 = .int .i64 (i : Int) ∧ Aside0 (kq + i = 16) ∧ Aside0 (i ≤ 15) ∧ Aside0 (n ≤ i * 225) ∧ Aside0 (OwnT w' B n (rowA i)) ∧ Aside0 (Kd.C k53 w' A1 sp.length sp) ∧ Aside0 (Below w.heap.size w w'))
        case atStart => exact ⟨0, 0, rfl, ⟨rfl⟩, ⟨by omega⟩, ⟨by omega⟩, HO, HRC0, HB0⟩
        case round =>
          clear HO HRC0 HB0
          obtain ⟨i, n, rfl, HK3, HI, HN, HO, HRC, HB⟩ := hrel
          obtain ⟨g3, rfl⟩ : ∃ g, gk = g + 1 := ⟨gk - 1, by have := HK3.out; have := HI.out; omega⟩
          by_cases hi : i < 15
          · have p1 : (0 : Int) ≤ (i : Int) := by omega
            have q1 : (i : Int) < (sp.length : Int) := by show (i : Int) < ((15 : Nat) : Int); omega
            obtain ⟨ad, ead, hx0, hx1⟩ := at_T53 HRC.out (i : Int) p1 q1
            cases ead
            rw [Int.toNat_natCast] at hx0 hx1
            obtain ⟨sa, esa⟩ : ∃ a, a = rd_T53 sp (i : Int) := ⟨_, rfl⟩
            rw [← esa] at hx0 hx1
            have hma := Aside0.mk (sp_mem hi)
            rw [← esa] at hma
            have ESA := Aside0.mk esa
            clear esa
            replace p1 := eq_true p1
            have q1b : decide ((i : Int) < (sp.length : Int)) = true := decide_eq_true q1
            replace q1 := eq_true q1
            go_wp2
            have HB1 := Aside0.mk (below_alloc HB.out (Obj.cells #[.int .i64 sa.f0, .int .i64 sa.f1] 53))
            have HRC1 := Aside0.mk (Kd.C_alloc HRC.out (Obj.cells #[.int .i64 sa.f0, .int .i64 sa.f1] 53))
            have HO1 := Aside0.mk (HO.out.below (Below.alloc (Below.refl _ _) (Nat.le_refl _) (Obj.cells #[.int .i64 sa.f0, .int .i64 sa.f1] 53)))
            have BA1 := Aside0.mk (heap_alloc_new wr (Obj.cells #[.int .i64 sa.f0, .int .i64 sa.f1] 53))
            have ZA := Aside0.mk (below_size HB.out)
            clear HB HRC HO hx0 hx1 p1 q1 q1b
            generalize wr.heap.size = ba at *
            go_loopg [36] 16 (fun kq v36 w' => ∃ j n : Nat, v36 = .int .i64 (j : Int) ∧ Aside0 (kq + j = 16) ∧ Aside0 (j ≤ 15) ∧ Aside0 (n ≤ i * 225 + j * 15) ∧ Aside0 (OwnT w' B n (rowB (rowA i) sa j)) ∧ Aside0 (Kd.C k53 w' (some ad) sp.length sp) ∧ Aside0 (Below w.heap.size w w') ∧ Aside0 (w'.heap[ba]? = some (.cells #[.int .i64 sa.f0, .int .i64 sa.f1] 53 (0, 0))))
            case atStart => exact ⟨0, n, rfl, ⟨rfl⟩, ⟨by omega⟩, ⟨by have := HN.out; omega⟩, HO1, HRC1, HB1, BA1⟩
            case round =>
              clear HO1 HRC1 HB1 BA1 HN
              obtain ⟨j, n, rfl, HK4, HJ, HN, HO, HRC, HB, BA⟩ := hrel
              obtain ⟨g4, rfl⟩ : ∃ g, gk = g + 1 := ⟨gk - 1, by have := HK4.out; have := HJ.out; omega⟩
              by_cases hj : j < 15
              · have p1 : (0 : Int) ≤ (j : Int) := by omega
                have q1 : (j : Int) < (sp.length : Int) := by show (j : Int) < ((15 : Nat) : Int); omega
                obtain ⟨ad1, ead, hx0, hx1⟩ := at_T53 HRC.out (j : Int) p1 q1
                cases ead
                rw [Int.toNat_natCast] at hx0 hx1
                obtain ⟨sb, esb⟩ : ∃ a, a = rd_T53 sp (j : Int) := ⟨_, rfl⟩
                rw [← esb] at hx0 hx1
                have hmb := Aside0.mk (sp_mem hj)
                rw [← esb] at hmb
                have ESB := Aside0.mk esb
                clear esb
                replace p1 := eq_true p1
                have q1b : decide ((j : Int) < (sp.length : Int)) = true := decide_eq_true q1
                replace q1 := eq_true q1
                go_wp2
                have HB1 := Aside0.mk (below_alloc HB.out (Obj.cells #[.int .i64 sb.f0, .int .i64 sb.f1] 53))
                have HRC1 := Aside0.mk (Kd.C_alloc HRC.out (Obj.cells #[.int .i64 sb.f0, .int .i64 sb.f1] 53))
                have HO1 := Aside0.mk (HO.out.below (Below.alloc (Below.refl _ _) (Nat.le_refl _) (Obj.cells #[.int .i64 sb.f0, .int .i64 sb.f1] 53)))
                have BA1 := Aside0.mk (blk_alloc BA.out (Obj.cells #[.int .i64 sb.f0, .int .i64 sb.f1] 53))
                have BB1 := Aside0.mk (heap_alloc_new wr (Obj.cells #[.int .i64 sb.f0, .int .i64 sb.f1] 53))
                clear HB HRC HO BA hx0 hx1 p1 q1 q1b
                generalize wr.heap.size = bb at *
                go_loopg [42] 16 (fun kq v42 w' => ∃ k n : Nat, v42 = .int .i64 (k : Int) ∧ Aside0 (kq + k = 16) ∧ Aside0 (k ≤ 15) ∧ Aside0 (n ≤ i * 225 + j * 15 + k) ∧ Aside0 (OwnT w' B n (rowC (rowB (rowA i) sa j) sa sb k)) ∧ Aside0 (Kd.C k53 w' (some ad) sp.length sp) ∧ Aside0 (Below w.heap.size w w') ∧ Aside0 (w'.heap[ba]? = some (.cells #[.int .i64 sa.f0, .int .i64 sa.f1] 53 (0, 0))) ∧ Aside0 (w'.heap[bb]? = some (.cells #[.int .i64 sb.f0, .int .i64 sb.f1] 53 (0, 0))))
                case atStart => exact ⟨0, n, rfl, ⟨rfl⟩, ⟨by omega⟩, ⟨by have := HN.out; omega⟩, HO1, HRC1, HB1, BA1, BB1⟩
                case round =>
                  clear HO1 HRC1 HB1 BA1 BB1 HN
                  obtain ⟨k, n, rfl, HK5, HL, HN, HO, HRC, HB, BA, BB⟩ := hrel
                  obtain ⟨g5, rfl⟩ : ∃ g, gk = g + 1 := ⟨gk - 1, by have := HK5.out; have := HL.out; omega⟩
                  by_cases hk : k < 15
                  · have p1 : (0 : Int) ≤ (k : Int) := by omega
                    have q1 : (k : Int) < (sp.length : Int) := by show (k : Int) < ((15 : Nat) : Int); omega
                    obtain ⟨ad1, ead, hx0, hx1⟩ := at_T53 HRC.out (k : Int) p1 q1
                    cases ead
                    rw [Int.toNat_natCast] at hx0 hx1
                    obtain ⟨sc, esc⟩ : ∃ a, a = rd_T53 sp (k : Int) := ⟨_, rfl⟩
                    rw [← esc] at hx0 hx1
                    have hmc := Aside0.mk (sp_mem hk)
                    rw [← esc] at hmc
                    have ESC := Aside0.mk esc
                    clear esc
                    replace p1 := eq_true p1
                    have q1b : decide ((k : Int) < (sp.length : Int)) = true := decide_eq_true q1
                    replace q1 := eq_true q1
                    go_wp2_with fail
                    have HB1 := Aside0.mk (below_alloc HB.out (Obj.cells #[.int .i64 sc.f0, .int .i64 sc.f1] 53))
                    have HRC1 := Aside0.mk (Kd.C_alloc HRC.out (Obj.cells #[.int .i64 sc.f0, .int .i64 sc.f1] 53))
                    have HO1 := Aside0.mk (HO.out.below (Below.alloc (Below.refl _ _) (Nat.le_refl _) (Obj.cells #[.int .i64 sc.f0, .int .i64 sc.f1] 53)))
                    have BA1 := Aside0.mk (blk_alloc BA.out (Obj.cells #[.int .i64 sc.f0, .int .i64 sc.f1] 53))
                    have BB1 := Aside0.mk (blk_alloc BB.out (Obj.cells #[.int .i64 sc.f0, .int .i64 sc.f1] 53))
                    have BC1 := Aside0.mk (heap_alloc_new wr (Obj.cells #[.int .i64 sc.f0, .int .i64 sc.f1] 53))
                    clear HB HRC HO BA BB hx0 hx1 p1 q1 q1b
                    generalize wr.heap.size = bc at *
                    generalize wr.alloc (Obj.cells #[.int .i64 sc.f0, .int .i64 sc.f1] 53) = W at *
                    obtain ⟨k1, r1⟩ := only_ok hma.out hmb.out
                    obtain ⟨k2, r2⟩ := only_ok hmb.out hmc.out
                    obtain ⟨k3, r3⟩ := only_ok hma.out hmc.out
                    obtain ⟨b1, b2, _, _⟩ := bit_ok r3
                    have K1 := Aside0.mk k1
                    have K2 := Aside0.mk k2
                    have K3 := Aside0.mk k3
                    have B3 := Aside0.mk b1
                    have B4 := Aside0.mk b2
                    have R1 := Aside0.mk r1
                    have R2 := Aside0.mk r2
                    clear k1 k2 k3 b1 b2 r1 r2 r3
                    have hne := stepT_eq (rowC (rowB (rowA i) sa j) sa sb k) sa sb sc
                    have HNE := Aside0.mk hne
                    clear hne
                    generalize onlyF sa sb = o1 at *
                    generalize onlyF sb sc = o2 at *
                    generalize onlyF sa sc = o3 at *
                    obtain ⟨m, hm⟩ : ∃ m, rowC (rowB (rowA i) sa j) sa sb k = m := ⟨_, rfl⟩
                    rw [hm] at HNE HO1
                    have HM := Aside0.mk hm
                    clear hm
                    have HB := Aside0.mk (HB1.out.drew)
                    have HRC := Aside0.mk (Kd.C_drew HRC1.out)
                    have HO := Aside0.mk HO1.out.drew
                    have BA := Aside0.mk (blk_drew BA1.out)
                    have BB := Aside0.mk (blk_drew BB1.out)
                    have BC := Aside0.mk (blk_drew BC1.out)
                    clear HB1 HRC1 HO1 BA1 BB1 BC1
                    go_region_held3 (fun w' => w'.cell? ⟨ba, 0, none⟩ = some (.int .i64 sa.f0) ∧ w'.cell? ⟨ba, 1, none⟩ = some (.int .i64 sa.f1) ∧ w'.cell? ⟨bb, 0, none⟩ = some (.int .i64 sb.f0) ∧ w'.cell? ⟨bb, 1, none⟩ = some (.int .i64 sb.f1) ∧ w'.cell? ⟨bc, 0, none⟩ = some (.int .i64 sc.f0) ∧ w'.cell? ⟨bc, 1, none⟩ = some (.int .i64 sc.f1))
                      (first
                        | exact boxes BA.out BB.out BC.out
                        | exact boxes (blk_setBlock BA.out (HO.out.ne BA.out)) (blk_setBlock BB.out (HO.out.ne BB.out)) (blk_setBlock BC.out (HO.out.ne BC.out)))
                      (first
                        | (go_at_call 58; (with_reducible refine (weave_lies.calls 40 sa.f0 sa.f1 sb.f0 sb.f1 o1 _ K1.out).mono ?_); rintro e w1 ⟨rfl, hb⟩; have n1 := Aside0.mk (below_step HB.out hb); have n2 := Aside0.mk (Kd.C_below HRC.out hb); have n3 := Aside0.mk (HO.out.below hb); have n4 := Aside0.mk (blk_below BA.out hb); have n5 := Aside0.mk (blk_below BB.out hb); have n6 := Aside0.mk (blk_below BC.out hb); clear HB HRC HO BA BB BC hb; have HB := n1; have HRC := n2; have HO := n3; have BA := n4; have BB := n5; have BC := n6; clear n1 n2 n3 n4 n5 n6)
                        | (go_at_call 58; (with_reducible refine (weave_lies.calls 40 sb.f0 sb.f1 sc.f0 sc.f1 o2 _ K2.out).mono ?_); rintro e w2 ⟨rfl, hb⟩; have n1 := Aside0.mk (below_step HB.out hb); have n2 := Aside0.mk (Kd.C_below HRC.out hb); have n3 := Aside0.mk (HO.out.below hb); have n4 := Aside0.mk (blk_below BA.out hb); have n5 := Aside0.mk (blk_below BB.out hb); have n6 := Aside0.mk (blk_below BC.out hb); clear HB HRC HO BA BB BC hb; have HB := n1; have HRC := n2; have HO := n3; have BA := n4; have BB := n5; have BC := n6; clear n1 n2 n3 n4 n5 n6; have hlk : (Instr.lookup 57 (.map (some B)) (.agg #[.int .i64 o1, .int .i64 o2]) false).run Try.prog w2 = .ok (.int .i64 (m o1 o2)) w2 := HO.out.look R1.out R2.out)
                        | (go_at_call 58; (with_reducible refine (weave_lies.calls 40 sa.f0 sa.f1 sc.f0 sc.f1 o3 _ K3.out).mono ?_); rintro e w3 ⟨rfl, hb⟩; (try clear hlk); have n1 := Aside0.mk (below_step HB.out hb); have n2 := Aside0.mk (Kd.C_below HRC.out hb); have n3 := Aside0.mk (HO.out.below hb); have n4 := Aside0.mk (blk_below BA.out hb); have n5 := Aside0.mk (blk_below BB.out hb); have n6 := Aside0.mk (blk_below BC.out hb); clear HB HRC HO BA BB BC hb; have HB := n1; have HRC := n2; have HO := n3; have BA := n4; have BB := n5; have BC := n6; clear n1 n2 n3 n4 n5 n6; have hlk : (Instr.lookup 57 (.map (some B)) (.agg #[.int .i64 o1, .int .i64 o2]) false).run Try.prog w3 = .ok (.int .i64 (m o1 o2)) w3 := HO.out.look R1.out R2.out)
                        | (go_at_call 47; (with_reducible refine (weave_bit.calls o3 (bitF o3) _ B3.out).mono ?_); rintro e w4 ⟨rfl, ⟨nd, hw4⟩⟩; (try clear hlk); have hb : Below w3.heap.size w3 w4 := (by rw [hw4]; exact pw_below_drewN (Below.refl _ _) nd); clear hw4; have n1 := Aside0.mk (below_step HB.out hb); have n2 := Aside0.mk (Kd.C_below HRC.out hb); have n3 := Aside0.mk (HO.out.below hb); have n4 := Aside0.mk (blk_below BA.out hb); have n5 := Aside0.mk (blk_below BB.out hb); have n6 := Aside0.mk (blk_below BC.out hb); clear HB HRC HO BA BB BC hb; have HB := n1; have HRC := n2; have HO := n3; have BA := n4; have BB := n5; have BC := n6; clear n1 n2 n3 n4 n5 n6; have hlk : (Instr.lookup 57 (.map (some B)) (.agg #[.int .i64 o1, .int .i64 o2]) false).run Try.prog w4 = .ok (.int .i64 (m o1 o2)) w4 := HO.out.look R1.out R2.out; obtain ⟨v0, st, ob1, ob2, hme0, hes, hown2, hgrow, hlk0⟩ := HO.out.turn (by have := HN.out; have := HI.out; have := HJ.out; have := HL.out; omega) R1.out R2.out (wf_bits .or .i64 (m o1 o2) (bitF o3)); have hme : (Instr.mapEntry 57 (.map (some B)) (.agg #[.int .i64 o1, .int .i64 o2])).run Try.prog w4 = .ok (.tuple #[v0, goInt st]) (setBlock w4 B ob1) := hme0; have hes1 : (Instr.entryStore 57 (.map (some B)) (.int .i64 (st : Int)) (.int .i64 (Go.bits .or .i64 (m o1 o2) (bitF o3)))).run Try.prog (setBlock w4 B ob1) = .ok () (setBlock w4 B ob2) := hes; have hlk1 : (Instr.lookup 57 (.map (some B)) (.agg #[.int .i64 o1, .int .i64 o2]) false).run Try.prog (setBlock w4 B ob1) = .ok (.int .i64 (m o1 o2)) (setBlock w4 B ob1) := hlk0; clear hme0 hes hlk0; have HOW := Aside0.mk hown2; have HGR := Aside0.mk hgrow; clear hown2 hgrow))
                    all_goals
                      go_wp2
                      go_roundg g5
                      case measure => omega
                      case rel =>
                        refine ⟨k + 1, n + 1, by go_num, ⟨by have := HK5.out; omega⟩, ⟨by omega⟩, ⟨by have := HN.out; omega⟩, ⟨?_⟩, ⟨HO.out.row HGR.out HRC.out (fun _ _ h => h)⟩, ⟨HB.out.grown HGR.out (below_size HB.out) (fun q hq => by injection hq with hq; rw [← hq]; exact HZ.out)⟩, ⟨blk_setBlock BA.out (HO.out.ne BA.out)⟩, ⟨blk_setBlock BB.out (HO.out.ne BB.out)⟩⟩
                        rw [rowC_next _ _ _ hk, ← ESC.out, HM.out, HNE.out]
                        exact HOW.out
                  · have q1 : decide ((k : Int) < (sp.length : Int)) = false := decide_eq_false (by show ¬ (k : Int) < ((15 : Nat) : Int); omega)
                    go_wp2
                    go_roundg g4
                    case measure => omega
                    case rel =>
                      have e15 : k = 15 := by have := HL.out; omega
                      subst e15
                      refine ⟨j + 1, n, by go_num, ⟨by have := HK4.out; omega⟩, ⟨by omega⟩, ⟨by have := HN.out; omega⟩, ⟨?_⟩, HRC, HB, BA⟩
                      rw [rowB_next _ _ hj, ← ESB.out]; exact HO.out
              · have q1 : decide ((j : Int) < (sp.length : Int)) = false := decide_eq_false (by show ¬ (j : Int) < ((15 : Nat) : Int); omega)
                go_wp2
                go_roundg g3
                case measure => omega
                case rel =>
                  have e15 : j = 15 := by have := HJ.out; omega
                  subst e15
                  refine ⟨i + 1, n, by go_num, ⟨by have := HK3.out; omega⟩, ⟨by omega⟩, ⟨by have := HN.out; omega⟩, ⟨?_⟩, HRC, HB⟩
                  rw [rowA_next hi, ← ESA.out]; exact HO.out
          · have q1 : decide ((i : Int) < (sp.length : Int)) = false := decide_eq_false (by show ¬ (i : Int) < ((15 : Nat) : Int); omega)
            go_wp2
            go_ret
            have e15 : i = 15 := by have := HI.out; omega
            subst e15
            exact ⟨B, n, rfl, by have := HN.out; omega, HZ.out, HO.out, HB.out⟩
end Go.Proofs.Ytcfjllbibgadfaa.B

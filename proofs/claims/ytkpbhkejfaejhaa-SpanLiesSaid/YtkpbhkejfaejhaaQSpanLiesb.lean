/- A printed function's walk, made shorter by a program: it comes to what the Lean function says. -/
import Derived.Test.YtkpbhkejfaejhaaQSpanLiesa
import Derived.Test.YtkpbhkejfaejhaaPSpanLiesx0
import Derived.Test.YtkpbhkejfaejhaaPSpanLiesx1
import Derived.Test.YtkpbhkejfaejhaaPSpanLiesx2
import Derived.Test.YtkpbhkejfaejhaaPSpanLiesx3
import Derived.Test.YtkpbhkejfaejhaaPSpanLiesx4
namespace Go.Proofs.Ytkpbhkejfaejhaa.PSpanLies
open Go.RowKit Go.Proofs.YtkpbhkejfaejhaaW.PrintWords Go.Proofs.YtkpbhkejfaejhaaW.PrintLast Go.Proofs.YtkpbhkejfaejhaaW.PrintMore
attribute [local go_sem] max2_int min2_int max_two min_two max_three min_three max_four min_four   -- for this text's walks alone
set_option linter.unusedVariables false
set_option linter.unusedSimpArgs false

attribute [local go_sem high] eqA30
open Go.Proofs.YtkpbhkejfaejhaaW.PrintWords renaming blk_drewN → bN, blk_drew → bD, blk_alloc → bA, pw_below_drewN → pN, below_drew1 → pD, below_alloc → pA, gate_callee → gc, cell_far → cf, blk_frozen → bf, blk_cell → bc
open Go.World renaming block_lt_of_cell? → bl
set_option maxHeartbeats 8000000 in
set_option maxRecDepth 100000 in
theorem almagestlaw7_SpanLies.calls (k : Nat) (A0_0 : Option Addr) (c0_0 : Nat) (l0_0 : List (S30)) (A0_1 : Option Addr) (c0_1 : Nat) (l0_1 : List Int) (A0_2 : Option Addr) (c0_2 : Nat) (l0_2 : List ByteArray) (r : Bool) (w : World) (hr0_0 : Kd.C k30 w A0_0 l0_0.length l0_0) (hc0_0 : l0_0.length ≤ c0_0) (hr0_1 : Kd.C (Kd.int .i64) w A0_1 l0_1.length l0_1) (hc0_1 : l0_1.length ≤ c0_1) (hr0_2 : Kd.C Kd.string w A0_2 l0_2.length l0_2) (hc0_2 : l0_2.length ≤ c0_2) (h : almagestlaw7_SpanLies.f k l0_0 l0_1 l0_2 = some r) :
  Calls Try.prog 17 #[.agg #[.slice A0_0 l0_0.length c0_0, .slice A0_1 l0_1.length c0_1, .slice A0_2 l0_2.length c0_2]] w fun e w' => e = .returned (.bool r) ∧ Below w.heap.size w w' := by
 have hu26 := Try.underlying26
 have hu30 := Try.underlying30
 have HR0_0 := Aside0.mk hr0_0
 have HC0_0 := Aside0.mk hc0_0
 clear hr0_0 hc0_0
 have HR0_1 := Aside0.mk hr0_1
 have HC0_1 := Aside0.mk hc0_1
 clear hr0_1 hc0_1
 have HR0_2 := Aside0.mk hr0_2
 have HC0_2 := Aside0.mk hc0_2
 clear hr0_2 hc0_2
 have HB := Aside0.mk (Below.refl w.heap.size w)
 have H : ((almagestlaw7_Heavy.f k l0_0 l0_1 l0_2).bind fun t162 => (if t162 = true then (some true) else (almagestlaw7_SpanLies.l0 k 0 l0_0 l0_1 l0_2))) = some r := h
 clear h
 replace H := Option.bind_eq_some_iff.mp H
 obtain ⟨t162, A20, H⟩ := H
 replace H : (if t162 = true then (some true) else (almagestlaw7_SpanLies.l0 k 0 l0_0 l0_1 l0_2)) = some r := H
 have A2 := Aside0.mk A20
 clear A20
 by_cases c3 : t162 = true
 ·
  subst c3
  have H1 : (some true) = some r := by rw [if_pos rfl] at H; exact H
  clear H
  have H := H1
  clear H1
  obtain rfl := Option.some.inj H
  go_enter Try.func17, Try.ntmps17
  go_wp2_with (first | ((with_reducible refine gate_dst (N := 1) rfl ?_); refine box_event ?hg (N := 1) ?hd (cs := #[.slice A0_0 l0_0.length c0_0, .slice A0_1 l0_1.length c0_1, .slice A0_2 l0_2.length c0_2]) (t := 26) ?hr ?_; (case hd => rfl); (case hg => rfl); (case hr => first | (go_simp; done) | (go_simp; rfl)); intro gb161 hg w4 hbox hb; have n0_ := Aside0.mk (below_step (by repeat (first | (with_reducible first | exact HB.out | apply pA | apply pN | apply pD) | exact HB.out)) hb); have n1_ := Aside0.mk (hbox); have n2_ := Aside0.mk ((by rw [hg]; exact (below_size (by repeat (first | (with_reducible first | exact HB.out | apply pA | apply pN | apply pD) | exact HB.out))) : w.heap.size ≤ gb161)); have n3_ := Aside0.mk ((by rw [hg]; exact (below_size (by repeat (first | (with_reducible first | exact HB.out | apply pA | apply pN | apply pD) | exact HB.out))) : w.heap.size ≤ gb161)); clear HB; have HB := n0_; have BK161 := n1_; have GW161 := n2_; have GE161 := n3_; clear n0_ n1_ n2_ n3_; clear hb hbox hg; have hcz5_0 : w4.cell? ⟨gb161, 0, none⟩ = some (.slice A0_0 l0_0.length c0_0) := (bc BK161.out 0).trans rfl; have hcz5_1 : w4.cell? ⟨gb161, 1, none⟩ = some (.slice A0_1 l0_1.length c0_1) := (bc BK161.out 1).trans rfl; have hcz5_2 : w4.cell? ⟨gb161, 2, none⟩ = some (.slice A0_2 l0_2.length c0_2) := (bc BK161.out 2).trans rfl; have hfz5_0 := bf BK161.out 0; have hfz5_1 := bf BK161.out 1; have hfz5_2 := bf BK161.out 2) | ((with_reducible refine gc (f := 19) rfl ?_); refine goesL_ (some 21) rfl rfl Try.func19 (by kernel_rfl) rfl #[.agg #[.slice A0_0 l0_0.length c0_0, .slice A0_1 l0_1.length c0_1, .slice A0_2 l0_2.length c0_2]] rfl (by (try simp only [List.map_toArray, List.map_cons, List.map_nil]); first | done | rfl | (simp only [List.length_drop, List.length_take]; rfl)) ?_; (with_reducible refine (almagestlaw7_Heavy.calls k _ _ l0_0 _ _ l0_1 _ _ l0_2 true _ ?side1 ?side2 ?side3 ?side4 ?side5 ?side6 A2.out).mono ?_); (case side1 => repeat (first | exact (Kd.C_below HR0_0.out HB.out) | (with_reducible refine Kd.C_alloc ?_ _) | (with_reducible refine Kd.C_drewN ?_ _) | (with_reducible refine Kd.C_drew ?_))); (case side2 => exact HC0_0.out); (case side3 => repeat (first | exact (Kd.C_below HR0_1.out HB.out) | (with_reducible refine Kd.C_alloc ?_ _) | (with_reducible refine Kd.C_drewN ?_ _) | (with_reducible refine Kd.C_drew ?_))); (case side4 => exact HC0_1.out); (case side5 => repeat (first | exact (Kd.C_below HR0_2.out HB.out) | (with_reducible refine Kd.C_alloc ?_ _) | (with_reducible refine Kd.C_drewN ?_ _) | (with_reducible refine Kd.C_drew ?_))); (case side6 => exact HC0_2.out); rintro e w6 ⟨rfl, hb⟩; refine ⟨_, rfl, ?_⟩; have n0_ := Aside0.mk (blk_below (g := gb161) (o := .cells #[.slice A0_0 l0_0.length c0_0, .slice A0_1 l0_1.length c0_1, .slice A0_2 l0_2.length c0_2] 26 (0, 0)) (by (with_reducible repeat (first | refine bN ?_ _ | refine bD ?_ | refine bA ?_ _)); exact BK161.out) hb); have n1_ := Aside0.mk (below_step (by repeat (first | (with_reducible first | exact HB.out | apply pA | apply pN | apply pD | refine below_set ?_ GE161.out) | exact HB.out)) hb); clear BK161; clear HB; have BK161 := n0_; have HB := n1_; clear n0_ n1_; (try clear hb); (try clear hb2); (try clear hk); (try clear hi)))
  go_ret
  exact ⟨by first | rfl | (simp [errW_none, errW_some] <;> rfl) | (simp [*, errW_none, errW_some] <;> rfl), by repeat (first | (with_reducible first | exact HB.out | apply pA | apply pN | apply pD | refine below_set ?_ GE161.out) | exact HB.out)⟩
 ·
  replace c3 := Bool.eq_false_iff.mpr c3
  subst c3
  have H1 : (almagestlaw7_SpanLies.l0 k 0 l0_0 l0_1 l0_2) = some r := by rw [if_neg (show ¬ (false = true) by decide)] at H; exact H
  clear H
  have H := H1
  clear H1
  have H' := Aside0.mk H
  clear H
  go_enter Try.func17, Try.ntmps17
  go_wp2_with (first | ((with_reducible refine gate_dst (N := 1) rfl ?_); refine box_event ?hg (N := 1) ?hd (cs := #[.slice A0_0 l0_0.length c0_0, .slice A0_1 l0_1.length c0_1, .slice A0_2 l0_2.length c0_2]) (t := 26) ?hr ?_; (case hd => rfl); (case hg => rfl); (case hr => first | (go_simp; done) | (go_simp; rfl)); intro gb161 hg w7 hbox hb; have n0_ := Aside0.mk (below_step (by repeat (first | (with_reducible first | exact HB.out | apply pA | apply pN | apply pD) | exact HB.out)) hb); have n1_ := Aside0.mk (hbox); have n2_ := Aside0.mk ((by rw [hg]; exact (below_size (by repeat (first | (with_reducible first | exact HB.out | apply pA | apply pN | apply pD) | exact HB.out))) : w.heap.size ≤ gb161)); have n3_ := Aside0.mk ((by rw [hg]; exact (below_size (by repeat (first | (with_reducible first | exact HB.out | apply pA | apply pN | apply pD) | exact HB.out))) : w.heap.size ≤ gb161)); clear HB; have HB := n0_; have BK161 := n1_; have GW161 := n2_; have GE161 := n3_; clear n0_ n1_ n2_ n3_; clear hb hbox hg; have hcz8_0 : w7.cell? ⟨gb161, 0, none⟩ = some (.slice A0_0 l0_0.length c0_0) := (bc BK161.out 0).trans rfl; have hcz8_1 : w7.cell? ⟨gb161, 1, none⟩ = some (.slice A0_1 l0_1.length c0_1) := (bc BK161.out 1).trans rfl; have hcz8_2 : w7.cell? ⟨gb161, 2, none⟩ = some (.slice A0_2 l0_2.length c0_2) := (bc BK161.out 2).trans rfl; have hfz8_0 := bf BK161.out 0; have hfz8_1 := bf BK161.out 1; have hfz8_2 := bf BK161.out 2) | ((with_reducible refine gc (f := 19) rfl ?_); refine goesL_ (some 21) rfl rfl Try.func19 (by kernel_rfl) rfl #[.agg #[.slice A0_0 l0_0.length c0_0, .slice A0_1 l0_1.length c0_1, .slice A0_2 l0_2.length c0_2]] rfl (by (try simp only [List.map_toArray, List.map_cons, List.map_nil]); first | done | rfl | (simp only [List.length_drop, List.length_take]; rfl)) ?_; (with_reducible refine (almagestlaw7_Heavy.calls k _ _ l0_0 _ _ l0_1 _ _ l0_2 false _ ?side1 ?side2 ?side3 ?side4 ?side5 ?side6 A2.out).mono ?_); (case side1 => repeat (first | exact (Kd.C_below HR0_0.out HB.out) | (with_reducible refine Kd.C_alloc ?_ _) | (with_reducible refine Kd.C_drewN ?_ _) | (with_reducible refine Kd.C_drew ?_))); (case side2 => exact HC0_0.out); (case side3 => repeat (first | exact (Kd.C_below HR0_1.out HB.out) | (with_reducible refine Kd.C_alloc ?_ _) | (with_reducible refine Kd.C_drewN ?_ _) | (with_reducible refine Kd.C_drew ?_))); (case side4 => exact HC0_1.out); (case side5 => repeat (first | exact (Kd.C_below HR0_2.out HB.out) | (with_reducible refine Kd.C_alloc ?_ _) | (with_reducible refine Kd.C_drewN ?_ _) | (with_reducible refine Kd.C_drew ?_))); (case side6 => exact HC0_2.out); rintro e w9 ⟨rfl, hb⟩; refine ⟨_, rfl, ?_⟩; have n0_ := Aside0.mk (blk_below (g := gb161) (o := .cells #[.slice A0_0 l0_0.length c0_0, .slice A0_1 l0_1.length c0_1, .slice A0_2 l0_2.length c0_2] 26 (0, 0)) (by (with_reducible repeat (first | refine bN ?_ _ | refine bD ?_ | refine bA ?_ _)); exact BK161.out) hb); have n1_ := Aside0.mk (below_step (by repeat (first | (with_reducible first | exact HB.out | apply pA | apply pN | apply pD | refine below_set ?_ GE161.out) | exact HB.out)) hb); clear BK161; clear HB; have BK161 := n0_; have HB := n1_; clear n0_ n1_; (try clear hb); (try clear hb2); (try clear hk); (try clear hi)))
  go_loopg [3] k (fun kq v3 w' => ∃ (x3_1 : Int), v3 = .int .i64 x3_1 ∧ Aside0 (almagestlaw7_SpanLies.l0 kq x3_1 l0_0 l0_1 l0_2 = some r) ∧ Aside0 (kq ≤ k) ∧ Aside0 (w'.heap[gb161]? = some (.cells #[(.slice A0_0 l0_0.length c0_0), (.slice A0_1 l0_1.length c0_1), (.slice A0_2 l0_2.length c0_2)] 26 (0, 0))) ∧ Aside0 (Below w.heap.size w w'))
  case atStart => exact ⟨(0), (by first | rfl | (simp; done) | (simp [*]; done)), H', ⟨Nat.le_refl _⟩, ⟨by (with_reducible repeat (first | refine bN ?_ _ | refine bD ?_ | refine bA ?_ _)); exact BK161.out⟩, ⟨by repeat (first | (with_reducible first | exact HB.out | apply pA | apply pN | apply pD | refine below_set ?_ GE161.out) | exact HB.out)⟩⟩
  case round =>
   clear H'
   try clear c1
   try clear p2
   try clear c3
   try clear hcz5_0
   try clear hcz5_1
   try clear hcz5_2
   try clear hcz8_0
   try clear hcz8_1
   try clear hcz8_2
   try clear hfz5_0
   try clear hfz5_1
   try clear hfz5_2
   try clear hfz8_0
   try clear hfz8_1
   try clear hfz8_2
   obtain ⟨x3_1, rfl, HA, HK1, BK161, HB⟩ := hrel
   cases gk with
   | zero => exact absurd HA.out (by simp [almagestlaw7_SpanLies.l0])
   | succ k1 =>
    have H := HA.out
    clear HA
    simp only [almagestlaw7_SpanLies.l0] at H
    have HC10 := Aside0.mk H
    clear H
    go_upto_region 4 with (fail)
    go_cut [30] (fun v30 wc => ∃ (kq : Nat) (x30_9 : Bool), v30 = .bool x30_9 ∧ Aside0 (almagestlaw7_SpanLies.j1 kq x3_1 x30_9 l0_0 l0_1 l0_2 = some r) ∧ Aside0 (kq ≤ k1) ∧ Aside0 (wc.heap[gb161]? = some (.cells #[(.slice A0_0 l0_0.length c0_0), (.slice A0_1 l0_1.length c0_1), (.slice A0_2 l0_2.length c0_2)] 26 (0, 0))) ∧ Aside0 (Below w.heap.size w wc))
    case first =>
     have H := HC10.out
     clear HC10
     by_cases c11 : x3_1 < (l0_0.length : Int)
     ·
      rw [if_pos c11] at H
      have c11b0 : decide (x3_1 < (l0_0.length : Int)) = true := decide_eq_true c11
      clear c11
      (first | rw [c11b0] | (simp only [i64_w, i32_w]; rw [c11b0]) | skip)
      have H' := Aside0.mk H
      clear H
      have hcz12_0 : wr.cell? ⟨gb161, 0, none⟩ = some (.slice A0_0 l0_0.length c0_0) := (bc BK161.out 0).trans rfl
      have hcz12_1 : wr.cell? ⟨gb161, 1, none⟩ = some (.slice A0_1 l0_1.length c0_1) := (bc BK161.out 1).trans rfl
      have hcz12_2 : wr.cell? ⟨gb161, 2, none⟩ = some (.slice A0_2 l0_2.length c0_2) := (bc BK161.out 2).trans rfl
      have hfz12_0 := bf BK161.out 0
      have hfz12_1 := bf BK161.out 1
      have hfz12_2 := bf BK161.out 2
      go_wp2
      go_meet
      case rel => exact ⟨_, (decide (x3_1 < 6)), (by first | rfl | (simp; done) | (simp [*]; done)), H', ⟨by have := HK1.out; first | omega | exact Nat.le_refl _⟩, ⟨by (with_reducible repeat (first | refine bN ?_ _ | refine bD ?_ | refine bA ?_ _)); exact BK161.out⟩, ⟨by repeat (first | (with_reducible first | exact HB.out | apply pA | apply pN | apply pD | refine below_set ?_ GE161.out) | exact HB.out)⟩⟩
     ·
      rw [if_neg c11] at H
      have c11b0 : decide (x3_1 < (l0_0.length : Int)) = false := decide_eq_false c11
      clear c11
      (first | rw [c11b0] | (simp only [i64_w, i32_w]; rw [c11b0]) | skip)
      have H' := Aside0.mk H
      clear H
      have hcz13_0 : wr.cell? ⟨gb161, 0, none⟩ = some (.slice A0_0 l0_0.length c0_0) := (bc BK161.out 0).trans rfl
      have hcz13_1 : wr.cell? ⟨gb161, 1, none⟩ = some (.slice A0_1 l0_1.length c0_1) := (bc BK161.out 1).trans rfl
      have hcz13_2 : wr.cell? ⟨gb161, 2, none⟩ = some (.slice A0_2 l0_2.length c0_2) := (bc BK161.out 2).trans rfl
      have hfz13_0 := bf BK161.out 0
      have hfz13_1 := bf BK161.out 1
      have hfz13_2 := bf BK161.out 2
      go_wp2
      go_meet
      case rel => exact ⟨_, (false), (by first | rfl | (simp; done) | (simp [*]; done)), H', ⟨by have := HK1.out; first | omega | exact Nat.le_refl _⟩, ⟨by (with_reducible repeat (first | refine bN ?_ _ | refine bD ?_ | refine bA ?_ _)); exact BK161.out⟩, ⟨by repeat (first | (with_reducible first | exact HB.out | apply pA | apply pN | apply pD | refine below_set ?_ GE161.out) | exact HB.out)⟩⟩
    case rest =>
     clear HC10
     try clear c1
     try clear p2
     try clear c3
     try clear c11
     try clear c11b0
     try clear hcz12_0
     try clear hcz12_1
     try clear hcz12_2
     try clear hcz13_0
     try clear hcz13_1
     try clear hcz13_2
     try clear hcz5_0
     try clear hcz5_1
     try clear hcz5_2
     try clear hcz8_0
     try clear hcz8_1
     try clear hcz8_2
     try clear hfz12_0
     try clear hfz12_1
     try clear hfz12_2
     try clear hfz13_0
     try clear hfz13_1
     try clear hfz13_2
     try clear hfz5_0
     try clear hfz5_1
     try clear hfz5_2
     try clear hfz8_0
     try clear hfz8_1
     try clear hfz8_2
     try clear p2
     obtain ⟨kq, x30_9, rfl, HA, HJ9, BK161, HB⟩ := hcut
     cases kq with
     | zero => exact absurd HA.out (by simp [almagestlaw7_SpanLies.j1])
     | succ kj9 =>
      have H := HA.out
      clear HA
      simp only [almagestlaw7_SpanLies.j1] at H
      by_cases c14 : x30_9 = true
      ·
       subst c14
       have H1 : (if 0 ≤ x3_1 then (if x3_1 < (l0_0.length : Int) then ((span_Check.f ((rd_T30 l0_0 x3_1).f0) ((rd_T30 l0_0 x3_1).f1)).bind fun t165 => ((almagestlaw7_num.f t165).bind fun t166 => ((almagestref7_Span.f ((rd_T30 l0_0 x3_1).f0) ((rd_T30 l0_0 x3_1).f1)).bind fun t168 => (if ((t166 == 0) != t168) = true then (some false) else (almagestlaw7_SpanLies.l1 kj9 x3_1 0 l0_0 l0_1 l0_2))))) else (none)) else (none)) = some r := by rw [if_pos rfl] at H; exact H
       clear H
       have H := H1
       clear H1
       by_cases c15 : 0 ≤ x3_1
       ·
        rw [if_pos c15] at H
        have c15b0 : decide (0 ≤ x3_1) = true := decide_eq_true c15
        clear c15
        by_cases c16 : x3_1 < (l0_0.length : Int)
        ·
         rw [if_pos c16] at H
         have c16b0 : decide (x3_1 < (l0_0.length : Int)) = true := decide_eq_true c16
         clear c16
         replace H := Option.bind_eq_some_iff.mp H
         obtain ⟨t165, A170, H⟩ := H
         replace H : ((almagestlaw7_num.f t165).bind fun t166 => ((almagestref7_Span.f ((rd_T30 l0_0 x3_1).f0) ((rd_T30 l0_0 x3_1).f1)).bind fun t168 => (if ((t166 == 0) != t168) = true then (some false) else (almagestlaw7_SpanLies.l1 kj9 x3_1 0 l0_0 l0_1 l0_2)))) = some r := H
         have A17 := Aside0.mk A170
         clear A170
         replace H := Option.bind_eq_some_iff.mp H
         obtain ⟨t166, A180, H⟩ := H
         replace H : ((almagestref7_Span.f ((rd_T30 l0_0 x3_1).f0) ((rd_T30 l0_0 x3_1).f1)).bind fun t168 => (if ((t166 == 0) != t168) = true then (some false) else (almagestlaw7_SpanLies.l1 kj9 x3_1 0 l0_0 l0_1 l0_2))) = some r := H
         have A18 := Aside0.mk A180
         clear A180
         replace H := Option.bind_eq_some_iff.mp H
         obtain ⟨t168, A190, H⟩ := H
         replace H : (if ((t166 == 0) != t168) = true then (some false) else (almagestlaw7_SpanLies.l1 kj9 x3_1 0 l0_0 l0_1 l0_2)) = some r := H
         have A19 := Aside0.mk A190
         clear A190
         by_cases c20 : ((t166 == 0) != t168) = true
         ·
          rw [if_pos c20] at H
          have c20b0 : ((t166 == 0) != t168) = true := c20
          (try (have c20b1 : decide ((t166 == 0) = t168) = false := by simpa using c20))
          (try (have c20b2 : ((t166 == 0) == t168) = false := by simpa using c20))
          (try (have c20b3 : ¬ ((t166 == 0) = t168) := by simpa using c20))
          clear c20
          obtain rfl := Option.some.inj H
          try go_wp2
          have n0_ := Aside0.mk (bD BK161.out)
          have n1_ := Aside0.mk (pD HB.out)
          clear BK161
          clear HB
          have BK161 := n0_
          have HB := n1_
          clear n0_ n1_
          have p164 : 0 ≤ (x3_1 : Int) := of_decide_eq_true (by first | (with_reducible assumption) | assumption)
          have q164 : x3_1 < (l0_0.length : Int) := of_decide_eq_true (by first | (with_reducible assumption) | assumption)
          obtain ⟨ad164, e164, hx164_0, hx164_1⟩ := at_T30 HR0_0.out x3_1 p164 q164
          have hw164_1 := hx164_1
          have hw164_0 := hx164_0
          cases e164
          replace hx164_0 := (HB.out.cell (bl w _ hx164_0)).trans hx164_0
          replace hx164_1 := (HB.out.cell (bl w _ hx164_1)).trans hx164_1
          replace p164 := eq_true p164
          replace q164 := eq_true q164
          have p167 : 0 ≤ (x3_1 : Int) := of_decide_eq_true (by first | (with_reducible assumption) | assumption)
          have q167 : x3_1 < (l0_0.length : Int) := of_decide_eq_true (by first | (with_reducible assumption) | assumption)
          obtain ⟨ad167, e167, hx167_0, hx167_1⟩ := at_T30 HR0_0.out x3_1 p167 q167
          have hw167_1 := hx167_1
          have hw167_0 := hx167_0
          obtain rfl : ad164 = ad167 := (by injection e167)
          replace hx167_0 := (HB.out.cell (bl w _ hx167_0)).trans hx167_0
          replace hx167_1 := (HB.out.cell (bl w _ hx167_1)).trans hx167_1
          replace p167 := eq_true p167
          replace q167 := eq_true q167
          refine start_ (n := 15) (S := fun w' => w'.cell? ⟨gb161, 0, none⟩ = some (.slice (some ad164) l0_0.length c0_0) ∧ w'.cell? ⟨gb161, 1, none⟩ = some (.slice A0_1 l0_1.length c0_1) ∧ w'.cell? ⟨gb161, 2, none⟩ = some (.slice A0_2 l0_2.length c0_2) ∧ w'.cell? (ad164.add ((x3_1).toNat * 2)) = some (.int .i64 ((rd_T30 l0_0 x3_1).f0)) ∧ w'.cell? ⟨(ad164.add ((x3_1).toNat * 2)).block, (ad164.add ((x3_1).toNat * 2)).off + 1, none⟩ = some (.int .i64 ((rd_T30 l0_0 x3_1).f1)) ∧ w'.cell? (ad164.add ((x3_1).toNat * 2)) = some (.int .i64 ((rd_T30 l0_0 x3_1).f0)) ∧ w'.cell? ⟨(ad164.add ((x3_1).toNat * 2)).block, (ad164.add ((x3_1).toNat * 2)).off + 1, none⟩ = some (.int .i64 ((rd_T30 l0_0 x3_1).f1))) (ds := []) #[false, false, false, false, false, false, false, false, false, false, false, false, false, false, false] (by kernel_rfl) rfl rfl ⟨(bc BK161.out 0).trans rfl, (bc BK161.out 1).trans rfl, (bc BK161.out 2).trans rfl, ((HB.out.cell (bl w _ hw164_0)).trans hw164_0), ((HB.out.cell (bl w _ hw164_1)).trans hw164_1), ((HB.out.cell (bl w _ hw167_0)).trans hw167_0), ((HB.out.cell (bl w _ hw167_1)).trans hw167_1)⟩ (fun hHeld => ?_); refine with_tabW almagestlaw7_SpanLies.tab6 almagestlaw7_SpanLies.bits6 (fun HT_ HW_ => ?_)
          generalize wc.drew = w21 at BK161 HB hx164_0 hx164_1 hx167_0 hx167_1 hHeld ⊢
          refine pure_ (i := 0) (N := some 33) (v := ?_) (a' := ?_) #[true, false, false, false, false, false, false, false, false, false, false, false, false, false, false] rfl rfl (any_of HT_.out (by kernel_rfl)) (fun _ _ _ h => h) (Or.inl ⟨by rfl, ?_⟩) ?_ ?_
          rotate_left
          ·
           intro w'
           go_simp
           with_reducible rfl
          rotate_left
          ·
           simp only [Act.put, List.setIfInBounds_toArray, List.set_cons_zero, List.set_cons_succ, i64_w, i32_w]
           rfl
          refine pure_ (i := 2) (N := some 35) (v := ?_) (a' := ?_) #[true, false, true, false, false, false, false, false, false, false, false, false, false, false, false] rfl rfl (any_of HT_.out (by kernel_rfl)) (fun _ _ _ h => h) (Or.inl ⟨by rfl, ?_⟩) ?_ ?_
          rotate_left
          ·
           intro w'
           go_simp
           with_reducible rfl
          rotate_left
          ·
           simp only [Act.put, List.setIfInBounds_toArray, List.set_cons_zero, List.set_cons_succ, i64_w, i32_w]
           rfl
          refine pure_ (i := 8) (N := some 41) (v := ?_) (a' := ?_) #[true, false, true, false, false, false, false, false, true, false, false, false, false, false, false] rfl rfl (any_of HT_.out (by kernel_rfl)) (fun _ _ _ h => h) (Or.inl ⟨by rfl, ?_⟩) ?_ ?_
          rotate_left
          ·
           intro w'
           go_simp
           with_reducible rfl
          rotate_left
          ·
           simp only [Act.put, List.setIfInBounds_toArray, List.set_cons_zero, List.set_cons_succ, i64_w, i32_w]
           rfl
          refine pure_ (i := 10) (N := some 43) (v := ?_) (a' := ?_) #[true, false, true, false, false, false, false, false, true, false, true, false, false, false, false] rfl rfl (any_of HT_.out (by kernel_rfl)) (fun _ _ _ h => h) (Or.inl ⟨by rfl, ?_⟩) ?_ ?_
          rotate_left
          ·
           intro w'
           go_simp
           with_reducible rfl
          rotate_left
          ·
           simp only [Act.put, List.setIfInBounds_toArray, List.set_cons_zero, List.set_cons_succ, i64_w, i32_w]
           rfl
          refine take_ (i := 1) (N := some 34) (v := ?_) (a' := ?_) #[true, true, true, false, false, false, false, false, true, false, true, false, false, false, false] rfl rfl (take_ofW HT_.out HW_.out (by kernel_rfl)) (fun _ _ _ h => h) (Or.inl ⟨by rfl, ?_⟩) hHeld ?_ ?_
          rotate_left
          ·
           rintro w' ⟨s0, s1, s2, s3, s4, s5, s6⟩
           go_simp
           with_reducible rfl
          rotate_left
          ·
           simp only [Act.put, List.setIfInBounds_toArray, List.set_cons_zero, List.set_cons_succ, i64_w, i32_w]
           rfl
          refine pure_ (i := 3) (N := some 36) (v := ?_) (a' := ?_) #[true, true, true, true, false, false, false, false, true, false, true, false, false, false, false] rfl rfl (any_of HT_.out (by kernel_rfl)) (fun _ _ _ h => h) (Or.inl ⟨by rfl, ?_⟩) ?_ ?_
          rotate_left
          ·
           intro w'
           go_simp
           with_reducible rfl
          rotate_left
          ·
           simp only [Act.put, List.setIfInBounds_toArray, List.set_cons_zero, List.set_cons_succ, i64_w, i32_w]
           rfl
          refine take_ (i := 4) (N := some 37) (v := ?_) (a' := ?_) #[true, true, true, true, true, false, false, false, true, false, true, false, false, false, false] rfl rfl (take_ofW HT_.out HW_.out (by kernel_rfl)) (fun _ _ _ h => h) (Or.inl ⟨by rfl, ?_⟩) hHeld ?_ ?_
          rotate_left
          ·
           rintro w' ⟨s0, s1, s2, s3, s4, s5, s6⟩
           go_simp
           with_reducible rfl
          rotate_left
          ·
           simp only [Act.put, List.setIfInBounds_toArray, List.set_cons_zero, List.set_cons_succ, i64_w, i32_w]
           rfl
          refine take_ (i := 9) (N := some 42) (v := ?_) (a' := ?_) #[true, true, true, true, true, false, false, false, true, true, true, false, false, false, false] rfl rfl (take_ofW HT_.out HW_.out (by kernel_rfl)) (fun _ _ _ h => h) (Or.inl ⟨by rfl, ?_⟩) hHeld ?_ ?_
          rotate_left
          ·
           rintro w' ⟨s0, s1, s2, s3, s4, s5, s6⟩
           go_simp
           with_reducible rfl
          rotate_left
          ·
           simp only [Act.put, List.setIfInBounds_toArray, List.set_cons_zero, List.set_cons_succ, i64_w, i32_w]
           rfl
          refine pure_ (i := 11) (N := some 44) (v := ?_) (a' := ?_) #[true, true, true, true, true, false, false, false, true, true, true, true, false, false, false] rfl rfl (any_of HT_.out (by kernel_rfl)) (fun _ _ _ h => h) (Or.inl ⟨by rfl, ?_⟩) ?_ ?_
          rotate_left
          ·
           intro w'
           go_simp
           with_reducible rfl
          rotate_left
          ·
           simp only [Act.put, List.setIfInBounds_toArray, List.set_cons_zero, List.set_cons_succ, i64_w, i32_w]
           rfl
          refine take_ (i := 12) (N := some 45) (v := ?_) (a' := ?_) #[true, true, true, true, true, false, false, false, true, true, true, true, true, false, false] rfl rfl (take_ofW HT_.out HW_.out (by kernel_rfl)) (fun _ _ _ h => h) (Or.inl ⟨by rfl, ?_⟩) hHeld ?_ ?_
          rotate_left
          ·
           rintro w' ⟨s0, s1, s2, s3, s4, s5, s6⟩
           go_simp
           with_reducible rfl
          rotate_left
          ·
           simp only [Act.put, List.setIfInBounds_toArray, List.set_cons_zero, List.set_cons_succ, i64_w, i32_w]
           rfl
          refine one_ (i := 5) (N := some 38) #[true, true, true, true, true, true, false, false, true, true, true, true, true, false, false] rfl rfl (one_of HT_.out (by kernel_rfl)) (by decide) (fun K hK => ?_)
          refine goes_ Try.func26 (by kernel_rfl) rfl #[.agg #[.int .i64 ((rd_T30 l0_0 x3_1).f0), .int .i64 ((rd_T30 l0_0 x3_1).f1)]] (by rfl) rfl rfl (by (try simp only [List.map_toArray, List.map_cons, List.map_nil]); first | done | rfl | (simp only [List.length_drop, List.length_take]; rfl)) ?_
          with_reducible refine (span_Check.calls ((rd_T30 l0_0 x3_1).f0) ((rd_T30 l0_0 x3_1).f1) t165 _ A17.out).mono ?_
          rintro e w22 ⟨rfl, hb⟩
          refine ⟨_, rfl, ?_⟩
          have n0_ := Aside0.mk (blk_below (g := gb161) (o := .cells #[.slice (some ad164) l0_0.length c0_0, .slice A0_1 l0_1.length c0_1, .slice A0_2 l0_2.length c0_2] 26 (0, 0)) (by (with_reducible repeat (first | refine bN ?_ _ | refine bD ?_ | refine bA ?_ _)); exact BK161.out) hb)
          have n1_ := Aside0.mk (below_step (by repeat (first | (with_reducible first | exact HB.out | apply pA | apply pN | apply pD | refine below_set ?_ GE161.out) | exact HB.out)) hb)
          clear BK161
          clear HB
          have BK161 := n0_
          have HB := n1_
          clear n0_ n1_
          (try clear hb)
          (try clear hb2)
          (try clear hk)
          (try clear hi)
          refine hK.out _ _ ⟨(bc BK161.out 0).trans rfl, (bc BK161.out 1).trans rfl, (bc BK161.out 2).trans rfl, ((HB.out.cell (bl w _ hw164_0)).trans hw164_0), ((HB.out.cell (bl w _ hw164_1)).trans hw164_1), ((HB.out.cell (bl w _ hw167_0)).trans hw167_0), ((HB.out.cell (bl w _ hw167_1)).trans hw167_1)⟩ (fun hHeld => ?_)
          clear hK K
          refine norm_ (a' := ?_) ?_ ?_
          rotate_left
          ·
           show Act.put _ (some 38) _ = _
           simp only [Act.put, List.setIfInBounds_toArray, List.set_cons_zero, List.set_cons_succ, i64_w, i32_w]
           rfl
          refine one_ (i := 6) (N := some 39) #[true, true, true, true, true, true, true, false, true, true, true, true, true, false, false] rfl rfl (one_of HT_.out (by kernel_rfl)) (by decide) (fun K hK => ?_)
          refine goes_ Try.func22 (by kernel_rfl) rfl #[.int .i64 t165] (by rfl) rfl rfl (by (try simp only [List.map_toArray, List.map_cons, List.map_nil]); first | done | rfl | (simp only [List.length_drop, List.length_take]; rfl)) ?_
          with_reducible refine (almagestlaw7_num.calls t165 t166 _ A18.out).mono ?_
          rintro e w' ⟨rfl, ⟨nd, rfl⟩⟩
          refine ⟨_, rfl, ?_⟩
          refine hK.out _ _ ⟨(bc BK161.out 0).trans rfl, (bc BK161.out 1).trans rfl, (bc BK161.out 2).trans rfl, ((HB.out.cell (bl w _ hw164_0)).trans hw164_0), ((HB.out.cell (bl w _ hw164_1)).trans hw164_1), ((HB.out.cell (bl w _ hw167_0)).trans hw167_0), ((HB.out.cell (bl w _ hw167_1)).trans hw167_1)⟩ (fun hHeld => ?_)
          clear hK K
          refine norm_ (a' := ?_) ?_ ?_
          rotate_left
          ·
           show Act.put _ (some 39) _ = _
           simp only [Act.put, List.setIfInBounds_toArray, List.set_cons_zero, List.set_cons_succ, i64_w, i32_w]
           rfl
          refine pure_ (i := 7) (N := some 40) (v := ?_) (a' := ?_) #[true, true, true, true, true, true, true, true, true, true, true, true, true, false, false] rfl rfl (any_of HT_.out (by kernel_rfl)) (fun _ _ _ h => h) (Or.inl ⟨by rfl, ?_⟩) ?_ ?_
          rotate_left
          ·
           intro w'
           go_simp
           with_reducible rfl
          rotate_left
          ·
           simp only [Act.put, List.setIfInBounds_toArray, List.set_cons_zero, List.set_cons_succ, i64_w, i32_w]
           rfl
          refine one_ (i := 13) (N := some 46) #[true, true, true, true, true, true, true, true, true, true, true, true, true, true, false] rfl rfl (one_of HT_.out (by kernel_rfl)) (by decide) (fun K hK => ?_)
          refine goes_ Try.func27 (by kernel_rfl) rfl #[.agg #[.int .i64 ((rd_T30 l0_0 x3_1).f0), .int .i64 ((rd_T30 l0_0 x3_1).f1)]] (by rfl) rfl rfl (by (try simp only [List.map_toArray, List.map_cons, List.map_nil]); first | done | rfl | (simp only [List.length_drop, List.length_take]; rfl)) ?_
          with_reducible refine (almagestref7_Span.calls ((rd_T30 l0_0 x3_1).f0) ((rd_T30 l0_0 x3_1).f1) t168 _ A19.out).mono ?_
          rintro e w23 ⟨rfl, hb⟩
          refine ⟨_, rfl, ?_⟩
          have n0_ := Aside0.mk (blk_below (g := gb161) (o := .cells #[.slice (some ad164) l0_0.length c0_0, .slice A0_1 l0_1.length c0_1, .slice A0_2 l0_2.length c0_2] 26 (0, 0)) (by (with_reducible repeat (first | refine bN ?_ _ | refine bD ?_ | refine bA ?_ _)); exact BK161.out) hb)
          have n1_ := Aside0.mk (below_step (by repeat (first | (with_reducible first | exact HB.out | apply pA | apply pN | apply pD | refine below_set ?_ GE161.out) | exact HB.out)) hb)
          clear BK161
          clear HB
          have BK161 := n0_
          have HB := n1_
          clear n0_ n1_
          (try clear hb)
          (try clear hb2)
          (try clear hk)
          (try clear hi)
          refine hK.out _ _ ⟨(bc BK161.out 0).trans rfl, (bc BK161.out 1).trans rfl, (bc BK161.out 2).trans rfl, ((HB.out.cell (bl w _ hw164_0)).trans hw164_0), ((HB.out.cell (bl w _ hw164_1)).trans hw164_1), ((HB.out.cell (bl w _ hw167_0)).trans hw167_0), ((HB.out.cell (bl w _ hw167_1)).trans hw167_1)⟩ (fun hHeld => ?_)
          clear hK K
          refine norm_ (a' := ?_) ?_ ?_
          rotate_left
          ·
           show Act.put _ (some 46) _ = _
           simp only [Act.put, List.setIfInBounds_toArray, List.set_cons_zero, List.set_cons_succ, i64_w, i32_w]
           rfl
          refine pure_ (i := 14) (N := some 47) (v := ?_) (a' := ?_) #[true, true, true, true, true, true, true, true, true, true, true, true, true, true, true] rfl rfl (any_of HT_.out (by kernel_rfl)) (fun _ _ _ h => h) (Or.inl ⟨by rfl, ?_⟩) ?_ ?_
          rotate_left
          ·
           intro w'
           go_simp
           with_reducible rfl
          rotate_left
          ·
           simp only [Act.put, List.setIfInBounds_toArray, List.set_cons_zero, List.set_cons_succ, i64_w, i32_w]
           rfl
          refine done_ (done_of HT_.out (by kernel_rfl)) ?_
          try go_wp2
          go_ret
          exact ⟨by first | rfl | (simp [errW_none, errW_some] <;> rfl) | (simp [*, errW_none, errW_some] <;> rfl), by repeat (first | (with_reducible first | exact HB.out | apply pA | apply pN | apply pD | refine below_set ?_ GE161.out) | exact HB.out)⟩
         ·
          rw [if_neg c20] at H
          have c20b0 : ((t166 == 0) != t168) = false := by simpa using c20
          (try (have c20b1 : decide ((t166 == 0) = t168) = true := by simpa using c20))
          (try (have c20b2 : ((t166 == 0) == t168) = true := by simpa using c20))
          clear c20
          have H' := Aside0.mk H
          clear H
          try go_wp2
          have n0_ := Aside0.mk (bD BK161.out)
          have n1_ := Aside0.mk (pD HB.out)
          clear BK161
          clear HB
          have BK161 := n0_
          have HB := n1_
          clear n0_ n1_
          have p164 : 0 ≤ (x3_1 : Int) := of_decide_eq_true (by first | (with_reducible assumption) | assumption)
          have q164 : x3_1 < (l0_0.length : Int) := of_decide_eq_true (by first | (with_reducible assumption) | assumption)
          obtain ⟨ad164, e164, hx164_0, hx164_1⟩ := at_T30 HR0_0.out x3_1 p164 q164
          have hw164_1 := hx164_1
          have hw164_0 := hx164_0
          cases e164
          replace hx164_0 := (HB.out.cell (bl w _ hx164_0)).trans hx164_0
          replace hx164_1 := (HB.out.cell (bl w _ hx164_1)).trans hx164_1
          replace p164 := eq_true p164
          replace q164 := eq_true q164
          have p167 : 0 ≤ (x3_1 : Int) := of_decide_eq_true (by first | (with_reducible assumption) | assumption)
          have q167 : x3_1 < (l0_0.length : Int) := of_decide_eq_true (by first | (with_reducible assumption) | assumption)
          obtain ⟨ad167, e167, hx167_0, hx167_1⟩ := at_T30 HR0_0.out x3_1 p167 q167
          have hw167_1 := hx167_1
          have hw167_0 := hx167_0
          obtain rfl : ad164 = ad167 := (by injection e167)
          replace hx167_0 := (HB.out.cell (bl w _ hx167_0)).trans hx167_0
          replace hx167_1 := (HB.out.cell (bl w _ hx167_1)).trans hx167_1
          replace p167 := eq_true p167
          replace q167 := eq_true q167
          refine start_ (n := 15) (S := fun w' => w'.cell? ⟨gb161, 0, none⟩ = some (.slice (some ad164) l0_0.length c0_0) ∧ w'.cell? ⟨gb161, 1, none⟩ = some (.slice A0_1 l0_1.length c0_1) ∧ w'.cell? ⟨gb161, 2, none⟩ = some (.slice A0_2 l0_2.length c0_2) ∧ w'.cell? (ad164.add ((x3_1).toNat * 2)) = some (.int .i64 ((rd_T30 l0_0 x3_1).f0)) ∧ w'.cell? ⟨(ad164.add ((x3_1).toNat * 2)).block, (ad164.add ((x3_1).toNat * 2)).off + 1, none⟩ = some (.int .i64 ((rd_T30 l0_0 x3_1).f1)) ∧ w'.cell? (ad164.add ((x3_1).toNat * 2)) = some (.int .i64 ((rd_T30 l0_0 x3_1).f0)) ∧ w'.cell? ⟨(ad164.add ((x3_1).toNat * 2)).block, (ad164.add ((x3_1).toNat * 2)).off + 1, none⟩ = some (.int .i64 ((rd_T30 l0_0 x3_1).f1))) (ds := []) #[false, false, false, false, false, false, false, false, false, false, false, false, false, false, false] (by kernel_rfl) rfl rfl ⟨(bc BK161.out 0).trans rfl, (bc BK161.out 1).trans rfl, (bc BK161.out 2).trans rfl, ((HB.out.cell (bl w _ hw164_0)).trans hw164_0), ((HB.out.cell (bl w _ hw164_1)).trans hw164_1), ((HB.out.cell (bl w _ hw167_0)).trans hw167_0), ((HB.out.cell (bl w _ hw167_1)).trans hw167_1)⟩ (fun hHeld => ?_); refine with_tabW almagestlaw7_SpanLies.tab6 almagestlaw7_SpanLies.bits6 (fun HT_ HW_ => ?_)
          generalize wc.drew = w24 at BK161 HB hx164_0 hx164_1 hx167_0 hx167_1 hHeld ⊢
          refine pure_ (i := 0) (N := some 33) (v := ?_) (a' := ?_) #[true, false, false, false, false, false, false, false, false, false, false, false, false, false, false] rfl rfl (any_of HT_.out (by kernel_rfl)) (fun _ _ _ h => h) (Or.inl ⟨by rfl, ?_⟩) ?_ ?_
          rotate_left
          ·
           intro w'
           go_simp
           with_reducible rfl
          rotate_left
          ·
           simp only [Act.put, List.setIfInBounds_toArray, List.set_cons_zero, List.set_cons_succ, i64_w, i32_w]
           rfl
          refine pure_ (i := 2) (N := some 35) (v := ?_) (a' := ?_) #[true, false, true, false, false, false, false, false, false, false, false, false, false, false, false] rfl rfl (any_of HT_.out (by kernel_rfl)) (fun _ _ _ h => h) (Or.inl ⟨by rfl, ?_⟩) ?_ ?_
          rotate_left
          ·
           intro w'
           go_simp
           with_reducible rfl
          rotate_left
          ·
           simp only [Act.put, List.setIfInBounds_toArray, List.set_cons_zero, List.set_cons_succ, i64_w, i32_w]
           rfl
          refine pure_ (i := 8) (N := some 41) (v := ?_) (a' := ?_) #[true, false, true, false, false, false, false, false, true, false, false, false, false, false, false] rfl rfl (any_of HT_.out (by kernel_rfl)) (fun _ _ _ h => h) (Or.inl ⟨by rfl, ?_⟩) ?_ ?_
          rotate_left
          ·
           intro w'
           go_simp
           with_reducible rfl
          rotate_left
          ·
           simp only [Act.put, List.setIfInBounds_toArray, List.set_cons_zero, List.set_cons_succ, i64_w, i32_w]
           rfl
          refine pure_ (i := 10) (N := some 43) (v := ?_) (a' := ?_) #[true, false, true, false, false, false, false, false, true, false, true, false, false, false, false] rfl rfl (any_of HT_.out (by kernel_rfl)) (fun _ _ _ h => h) (Or.inl ⟨by rfl, ?_⟩) ?_ ?_
          rotate_left
          ·
           intro w'
           go_simp
           with_reducible rfl
          rotate_left
          ·
           simp only [Act.put, List.setIfInBounds_toArray, List.set_cons_zero, List.set_cons_succ, i64_w, i32_w]
           rfl
          refine take_ (i := 1) (N := some 34) (v := ?_) (a' := ?_) #[true, true, true, false, false, false, false, false, true, false, true, false, false, false, false] rfl rfl (take_ofW HT_.out HW_.out (by kernel_rfl)) (fun _ _ _ h => h) (Or.inl ⟨by rfl, ?_⟩) hHeld ?_ ?_
          rotate_left
          ·
           rintro w' ⟨s0, s1, s2, s3, s4, s5, s6⟩
           go_simp
           with_reducible rfl
          rotate_left
          ·
           simp only [Act.put, List.setIfInBounds_toArray, List.set_cons_zero, List.set_cons_succ, i64_w, i32_w]
           rfl
          refine pure_ (i := 3) (N := some 36) (v := ?_) (a' := ?_) #[true, true, true, true, false, false, false, false, true, false, true, false, false, false, false] rfl rfl (any_of HT_.out (by kernel_rfl)) (fun _ _ _ h => h) (Or.inl ⟨by rfl, ?_⟩) ?_ ?_
          rotate_left
          ·
           intro w'
           go_simp
           with_reducible rfl
          rotate_left
          ·
           simp only [Act.put, List.setIfInBounds_toArray, List.set_cons_zero, List.set_cons_succ, i64_w, i32_w]
           rfl
          refine take_ (i := 4) (N := some 37) (v := ?_) (a' := ?_) #[true, true, true, true, true, false, false, false, true, false, true, false, false, false, false] rfl rfl (take_ofW HT_.out HW_.out (by kernel_rfl)) (fun _ _ _ h => h) (Or.inl ⟨by rfl, ?_⟩) hHeld ?_ ?_
          rotate_left
          ·
           rintro w' ⟨s0, s1, s2, s3, s4, s5, s6⟩
           go_simp
           with_reducible rfl
          rotate_left
          ·
           simp only [Act.put, List.setIfInBounds_toArray, List.set_cons_zero, List.set_cons_succ, i64_w, i32_w]
           rfl
          refine take_ (i := 9) (N := some 42) (v := ?_) (a' := ?_) #[true, true, true, true, true, false, false, false, true, true, true, false, false, false, false] rfl rfl (take_ofW HT_.out HW_.out (by kernel_rfl)) (fun _ _ _ h => h) (Or.inl ⟨by rfl, ?_⟩) hHeld ?_ ?_
          rotate_left
          ·
           rintro w' ⟨s0, s1, s2, s3, s4, s5, s6⟩
           go_simp
           with_reducible rfl
          rotate_left
          ·
           simp only [Act.put, List.setIfInBounds_toArray, List.set_cons_zero, List.set_cons_succ, i64_w, i32_w]
           rfl
          refine pure_ (i := 11) (N := some 44) (v := ?_) (a' := ?_) #[true, true, true, true, true, false, false, false, true, true, true, true, false, false, false] rfl rfl (any_of HT_.out (by kernel_rfl)) (fun _ _ _ h => h) (Or.inl ⟨by rfl, ?_⟩) ?_ ?_
          rotate_left
          ·
           intro w'
           go_simp
           with_reducible rfl
          rotate_left
          ·
           simp only [Act.put, List.setIfInBounds_toArray, List.set_cons_zero, List.set_cons_succ, i64_w, i32_w]
           rfl
          refine take_ (i := 12) (N := some 45) (v := ?_) (a' := ?_) #[true, true, true, true, true, false, false, false, true, true, true, true, true, false, false] rfl rfl (take_ofW HT_.out HW_.out (by kernel_rfl)) (fun _ _ _ h => h) (Or.inl ⟨by rfl, ?_⟩) hHeld ?_ ?_
          rotate_left
          ·
           rintro w' ⟨s0, s1, s2, s3, s4, s5, s6⟩
           go_simp
           with_reducible rfl
          rotate_left
          ·
           simp only [Act.put, List.setIfInBounds_toArray, List.set_cons_zero, List.set_cons_succ, i64_w, i32_w]
           rfl
          refine one_ (i := 5) (N := some 38) #[true, true, true, true, true, true, false, false, true, true, true, true, true, false, false] rfl rfl (one_of HT_.out (by kernel_rfl)) (by decide) (fun K hK => ?_)
          refine goes_ Try.func26 (by kernel_rfl) rfl #[.agg #[.int .i64 ((rd_T30 l0_0 x3_1).f0), .int .i64 ((rd_T30 l0_0 x3_1).f1)]] (by rfl) rfl rfl (by (try simp only [List.map_toArray, List.map_cons, List.map_nil]); first | done | rfl | (simp only [List.length_drop, List.length_take]; rfl)) ?_
          with_reducible refine (span_Check.calls ((rd_T30 l0_0 x3_1).f0) ((rd_T30 l0_0 x3_1).f1) t165 _ A17.out).mono ?_
          rintro e w25 ⟨rfl, hb⟩
          refine ⟨_, rfl, ?_⟩
          have n0_ := Aside0.mk (blk_below (g := gb161) (o := .cells #[.slice (some ad164) l0_0.length c0_0, .slice A0_1 l0_1.length c0_1, .slice A0_2 l0_2.length c0_2] 26 (0, 0)) (by (with_reducible repeat (first | refine bN ?_ _ | refine bD ?_ | refine bA ?_ _)); exact BK161.out) hb)
          have n1_ := Aside0.mk (below_step (by repeat (first | (with_reducible first | exact HB.out | apply pA | apply pN | apply pD | refine below_set ?_ GE161.out) | exact HB.out)) hb)
          clear BK161
          clear HB
          have BK161 := n0_
          have HB := n1_
          clear n0_ n1_
          (try clear hb)
          (try clear hb2)
          (try clear hk)
          (try clear hi)
          refine hK.out _ _ ⟨(bc BK161.out 0).trans rfl, (bc BK161.out 1).trans rfl, (bc BK161.out 2).trans rfl, ((HB.out.cell (bl w _ hw164_0)).trans hw164_0), ((HB.out.cell (bl w _ hw164_1)).trans hw164_1), ((HB.out.cell (bl w _ hw167_0)).trans hw167_0), ((HB.out.cell (bl w _ hw167_1)).trans hw167_1)⟩ (fun hHeld => ?_)
          clear hK K
          refine norm_ (a' := ?_) ?_ ?_
          rotate_left
          ·
           show Act.put _ (some 38) _ = _
           simp only [Act.put, List.setIfInBounds_toArray, List.set_cons_zero, List.set_cons_succ, i64_w, i32_w]
           rfl
          refine one_ (i := 6) (N := some 39) #[true, true, true, true, true, true, true, false, true, true, true, true, true, false, false] rfl rfl (one_of HT_.out (by kernel_rfl)) (by decide) (fun K hK => ?_)
          refine goes_ Try.func22 (by kernel_rfl) rfl #[.int .i64 t165] (by rfl) rfl rfl (by (try simp only [List.map_toArray, List.map_cons, List.map_nil]); first | done | rfl | (simp only [List.length_drop, List.length_take]; rfl)) ?_
          with_reducible refine (almagestlaw7_num.calls t165 t166 _ A18.out).mono ?_
          rintro e w' ⟨rfl, ⟨nd, rfl⟩⟩
          refine ⟨_, rfl, ?_⟩
          refine hK.out _ _ ⟨(bc BK161.out 0).trans rfl, (bc BK161.out 1).trans rfl, (bc BK161.out 2).trans rfl, ((HB.out.cell (bl w _ hw164_0)).trans hw164_0), ((HB.out.cell (bl w _ hw164_1)).trans hw164_1), ((HB.out.cell (bl w _ hw167_0)).trans hw167_0), ((HB.out.cell (bl w _ hw167_1)).trans hw167_1)⟩ (fun hHeld => ?_)
          clear hK K
          refine norm_ (a' := ?_) ?_ ?_
          rotate_left
          ·
           show Act.put _ (some 39) _ = _
           simp only [Act.put, List.setIfInBounds_toArray, List.set_cons_zero, List.set_cons_succ, i64_w, i32_w]
           rfl
          refine pure_ (i := 7) (N := some 40) (v := ?_) (a' := ?_) #[true, true, true, true, true, true, true, true, true, true, true, true, true, false, false] rfl rfl (any_of HT_.out (by kernel_rfl)) (fun _ _ _ h => h) (Or.inl ⟨by rfl, ?_⟩) ?_ ?_
          rotate_left
          ·
           intro w'
           go_simp
           with_reducible rfl
          rotate_left
          ·
           simp only [Act.put, List.setIfInBounds_toArray, List.set_cons_zero, List.set_cons_succ, i64_w, i32_w]
           rfl
          refine one_ (i := 13) (N := some 46) #[true, true, true, true, true, true, true, true, true, true, true, true, true, true, false] rfl rfl (one_of HT_.out (by kernel_rfl)) (by decide) (fun K hK => ?_)
          refine goes_ Try.func27 (by kernel_rfl) rfl #[.agg #[.int .i64 ((rd_T30 l0_0 x3_1).f0), .int .i64 ((rd_T30 l0_0 x3_1).f1)]] (by rfl) rfl rfl (by (try simp only [List.map_toArray, List.map_cons, List.map_nil]); first | done | rfl | (simp only [List.length_drop, List.length_take]; rfl)) ?_
          with_reducible refine (almagestref7_Span.calls ((rd_T30 l0_0 x3_1).f0) ((rd_T30 l0_0 x3_1).f1) t168 _ A19.out).mono ?_
          rintro e w26 ⟨rfl, hb⟩
          refine ⟨_, rfl, ?_⟩
          have n0_ := Aside0.mk (blk_below (g := gb161) (o := .cells #[.slice (some ad164) l0_0.length c0_0, .slice A0_1 l0_1.length c0_1, .slice A0_2 l0_2.length c0_2] 26 (0, 0)) (by (with_reducible repeat (first | refine bN ?_ _ | refine bD ?_ | refine bA ?_ _)); exact BK161.out) hb)
          have n1_ := Aside0.mk (below_step (by repeat (first | (with_reducible first | exact HB.out | apply pA | apply pN | apply pD | refine below_set ?_ GE161.out) | exact HB.out)) hb)
          clear BK161
          clear HB
          have BK161 := n0_
          have HB := n1_
          clear n0_ n1_
          (try clear hb)
          (try clear hb2)
          (try clear hk)
          (try clear hi)
          refine hK.out _ _ ⟨(bc BK161.out 0).trans rfl, (bc BK161.out 1).trans rfl, (bc BK161.out 2).trans rfl, ((HB.out.cell (bl w _ hw164_0)).trans hw164_0), ((HB.out.cell (bl w _ hw164_1)).trans hw164_1), ((HB.out.cell (bl w _ hw167_0)).trans hw167_0), ((HB.out.cell (bl w _ hw167_1)).trans hw167_1)⟩ (fun hHeld => ?_)
          clear hK K
          refine norm_ (a' := ?_) ?_ ?_
          rotate_left
          ·
           show Act.put _ (some 46) _ = _
           simp only [Act.put, List.setIfInBounds_toArray, List.set_cons_zero, List.set_cons_succ, i64_w, i32_w]
           rfl
          refine pure_ (i := 14) (N := some 47) (v := ?_) (a' := ?_) #[true, true, true, true, true, true, true, true, true, true, true, true, true, true, true] rfl rfl (any_of HT_.out (by kernel_rfl)) (fun _ _ _ h => h) (Or.inl ⟨by rfl, ?_⟩) ?_ ?_
          rotate_left
          ·
           intro w'
           go_simp
           with_reducible rfl
          rotate_left
          ·
           simp only [Act.put, List.setIfInBounds_toArray, List.set_cons_zero, List.set_cons_succ, i64_w, i32_w]
           rfl
          refine done_ (done_of HT_.out (by kernel_rfl)) ?_
          try go_wp2
          go_loopg [4] kj9 (fun kq v4 w' => ∃ (x4_3 : Int), v4 = .int .i64 x4_3 ∧ Aside0 (almagestlaw7_SpanLies.l1 kq x3_1 x4_3 l0_0 l0_1 l0_2 = some r) ∧ Aside0 (kq ≤ kj9) ∧ Aside0 (w'.heap[gb161]? = some (.cells #[(.slice (some ad164) l0_0.length c0_0), (.slice A0_1 l0_1.length c0_1), (.slice A0_2 l0_2.length c0_2)] 26 (0, 0))) ∧ Aside0 (Below w.heap.size w w'))
          case atStart => exact ⟨(0), (by first | rfl | (simp; done) | (simp [*]; done)), H', ⟨Nat.le_refl _⟩, ⟨by (with_reducible repeat (first | refine bN ?_ _ | refine bD ?_ | refine bA ?_ _)); exact BK161.out⟩, ⟨by repeat (first | (with_reducible first | exact HB.out | apply pA | apply pN | apply pD | refine below_set ?_ GE161.out) | exact HB.out)⟩⟩
          case round =>
           clear H'
           try clear c1
           try clear p1
           try clear q1
           try clear hx1
           try clear c2
           try clear p2
           try clear c3
           try clear c11
           try clear c11b0
           try clear c14
           try clear c15
           try clear c15b0
           try clear c16
           try clear c16b0
           try clear p16
           try clear q16
           try clear hx16
           try clear c17
           try clear c19
           try clear c20
           try clear c20b0
           try clear c20b1
           try clear c20b2
           try clear c22
           try clear c26
           try clear hcz12_0
           try clear hcz12_1
           try clear hcz12_2
           try clear hcz13_0
           try clear hcz13_1
           try clear hcz13_2
           try clear hcz5_0
           try clear hcz5_1
           try clear hcz5_2
           try clear hcz8_0
           try clear hcz8_1
           try clear hcz8_2
           try clear hfz12_0
           try clear hfz12_1
           try clear hfz12_2
           try clear hfz13_0
           try clear hfz13_1
           try clear hfz13_2
           try clear hfz5_0
           try clear hfz5_1
           try clear hfz5_2
           try clear hfz8_0
           try clear hfz8_1
           try clear hfz8_2
           try clear hx164_0
           try clear hx164_1
           try clear hx167_0
           try clear hx167_1
           try clear p164
           try clear p167
           try clear p2
           try clear q164
           try clear q167
           obtain ⟨x4_3, rfl, HA, HK3, BK161, HB⟩ := hrel
           cases gk with
           | zero => exact absurd HA.out (by simp [almagestlaw7_SpanLies.l1])
           | succ k3 =>
            have H := HA.out
            clear HA
            simp only [almagestlaw7_SpanLies.l1] at H
            have HC27 := Aside0.mk H
            clear H
            go_upto_region 9 with (fail)
            go_cut [56] (fun v56 wc => ∃ (kq : Nat) (x56_26 : Bool), v56 = .bool x56_26 ∧ Aside0 (almagestlaw7_SpanLies.j3 kq x3_1 x4_3 x56_26 l0_0 l0_1 l0_2 = some r) ∧ Aside0 (kq ≤ k3) ∧ Aside0 (wc.heap[gb161]? = some (.cells #[(.slice (some ad164) l0_0.length c0_0), (.slice A0_1 l0_1.length c0_1), (.slice A0_2 l0_2.length c0_2)] 26 (0, 0))) ∧ Aside0 (Below w.heap.size w wc))
            case first =>
             have H := HC27.out
             clear HC27
             by_cases c28 : x4_3 < (l0_0.length : Int)
             ·
              rw [if_pos c28] at H
              have c28b0 : decide (x4_3 < (l0_0.length : Int)) = true := decide_eq_true c28
              clear c28
              (first | rw [c28b0] | (simp only [i64_w, i32_w]; rw [c28b0]) | skip)
              have H' := Aside0.mk H
              clear H
              have hcz29_0 : wr.cell? ⟨gb161, 0, none⟩ = some (.slice (some ad164) l0_0.length c0_0) := (bc BK161.out 0).trans rfl
              have hcz29_1 : wr.cell? ⟨gb161, 1, none⟩ = some (.slice A0_1 l0_1.length c0_1) := (bc BK161.out 1).trans rfl
              have hcz29_2 : wr.cell? ⟨gb161, 2, none⟩ = some (.slice A0_2 l0_2.length c0_2) := (bc BK161.out 2).trans rfl
              have hfz29_0 := bf BK161.out 0
              have hfz29_1 := bf BK161.out 1
              have hfz29_2 := bf BK161.out 2
              go_wp2
              go_meet
              case rel => exact ⟨_, (decide (x4_3 < 6)), (by first | rfl | (simp; done) | (simp [*]; done)), H', ⟨by have := HK1.out; have := HJ9.out; have := HK3.out; first | omega | exact Nat.le_refl _⟩, ⟨by (with_reducible repeat (first | refine bN ?_ _ | refine bD ?_ | refine bA ?_ _)); exact BK161.out⟩, ⟨by repeat (first | (with_reducible first | exact HB.out | apply pA | apply pN | apply pD | refine below_set ?_ GE161.out) | exact HB.out)⟩⟩
             ·
              rw [if_neg c28] at H
              have c28b0 : decide (x4_3 < (l0_0.length : Int)) = false := decide_eq_false c28
              clear c28
              (first | rw [c28b0] | (simp only [i64_w, i32_w]; rw [c28b0]) | skip)
              have H' := Aside0.mk H
              clear H
              have hcz30_0 : wr.cell? ⟨gb161, 0, none⟩ = some (.slice (some ad164) l0_0.length c0_0) := (bc BK161.out 0).trans rfl
              have hcz30_1 : wr.cell? ⟨gb161, 1, none⟩ = some (.slice A0_1 l0_1.length c0_1) := (bc BK161.out 1).trans rfl
              have hcz30_2 : wr.cell? ⟨gb161, 2, none⟩ = some (.slice A0_2 l0_2.length c0_2) := (bc BK161.out 2).trans rfl
              have hfz30_0 := bf BK161.out 0
              have hfz30_1 := bf BK161.out 1
              have hfz30_2 := bf BK161.out 2
              go_wp2
              go_meet
              case rel => exact ⟨_, (false), (by first | rfl | (simp; done) | (simp [*]; done)), H', ⟨by have := HK1.out; have := HJ9.out; have := HK3.out; first | omega | exact Nat.le_refl _⟩, ⟨by (with_reducible repeat (first | refine bN ?_ _ | refine bD ?_ | refine bA ?_ _)); exact BK161.out⟩, ⟨by repeat (first | (with_reducible first | exact HB.out | apply pA | apply pN | apply pD | refine below_set ?_ GE161.out) | exact HB.out)⟩⟩
            case rest =>
             clear HC27
             try clear c1
             try clear p1
             try clear q1
             try clear hx1
             try clear c2
             try clear p2
             try clear c3
             try clear c11
             try clear c11b0
             try clear c14
             try clear c15
             try clear c15b0
             try clear c16
             try clear c16b0
             try clear p16
             try clear q16
             try clear hx16
             try clear c17
             try clear c19
             try clear c20
             try clear c20b0
             try clear c20b1
             try clear c20b2
             try clear c22
             try clear c26
             try clear c27
             try clear c28
             try clear c28b0
             try clear hcz12_0
             try clear hcz12_1
             try clear hcz12_2
             try clear hcz13_0
             try clear hcz13_1
             try clear hcz13_2
             try clear hcz29_0
             try clear hcz29_1
             try clear hcz29_2
             try clear hcz30_0
             try clear hcz30_1
             try clear hcz30_2
             try clear hcz5_0
             try clear hcz5_1
             try clear hcz5_2
             try clear hcz8_0
             try clear hcz8_1
             try clear hcz8_2
             try clear hfz12_0
             try clear hfz12_1
             try clear hfz12_2
             try clear hfz13_0
             try clear hfz13_1
             try clear hfz13_2
             try clear hfz29_0
             try clear hfz29_1
             try clear hfz29_2
             try clear hfz30_0
             try clear hfz30_1
             try clear hfz30_2
             try clear hfz5_0
             try clear hfz5_1
             try clear hfz5_2
             try clear hfz8_0
             try clear hfz8_1
             try clear hfz8_2
             try clear hx164_0
             try clear hx164_1
             try clear hx167_0
             try clear hx167_1
             try clear p1
             try clear p16
             try clear p164
             try clear p167
             try clear p2
             try clear q1
             try clear q16
             try clear q164
             try clear q167
             obtain ⟨kq, x56_26, rfl, HA, HJ26, BK161, HB⟩ := hcut
             cases kq with
             | zero => exact absurd HA.out (by simp [almagestlaw7_SpanLies.j3])
             | succ kj26 =>
              have H := HA.out
              clear HA
              simp only [almagestlaw7_SpanLies.j3] at H
              by_cases c31 : x56_26 = true
              ·
               subst c31
               have H1 : (if 0 ≤ x3_1 then (if x3_1 < (l0_0.length : Int) then (if 0 ≤ x4_3 then (if x4_3 < (l0_0.length : Int) then ((almagestref7_Span.f ((rd_T30 l0_0 x3_1).f0) ((rd_T30 l0_0 x3_1).f1)).bind fun t173 => (if t173 = true then ((almagestref7_Span.f ((rd_T30 l0_0 x4_3).f0) ((rd_T30 l0_0 x4_3).f1)).bind fun t174 => (almagestlaw7_SpanLies.j4 kj26 x3_1 x4_3 t174 l0_0 l0_1 l0_2 ((rd_T30 l0_0 x3_1).f0) ((rd_T30 l0_0 x3_1).f1) ((rd_T30 l0_0 x4_3).f0) ((rd_T30 l0_0 x4_3).f1))) else (almagestlaw7_SpanLies.j4 kj26 x3_1 x4_3 false l0_0 l0_1 l0_2 ((rd_T30 l0_0 x3_1).f0) ((rd_T30 l0_0 x3_1).f1) ((rd_T30 l0_0 x4_3).f0) ((rd_T30 l0_0 x4_3).f1)))) else (none)) else (none)) else (none)) else (none)) = some r := by rw [if_pos rfl] at H; exact H
               clear H
               have H := H1
               clear H1
               by_cases c32 : 0 ≤ x3_1
               ·
                rw [if_pos c32] at H
                have c32b0 : decide (0 ≤ x3_1) = true := decide_eq_true c32
                clear c32
                by_cases c33 : x3_1 < (l0_0.length : Int)
                ·
                 rw [if_pos c33] at H
                 have c33b0 : decide (x3_1 < (l0_0.length : Int)) = true := decide_eq_true c33
                 clear c33
                 by_cases c34 : 0 ≤ x4_3
                 ·
                  rw [if_pos c34] at H
                  have c34b0 : decide (0 ≤ x4_3) = true := decide_eq_true c34
                  clear c34
                  by_cases c35 : x4_3 < (l0_0.length : Int)
                  ·
                   rw [if_pos c35] at H
                   have c35b0 : decide (x4_3 < (l0_0.length : Int)) = true := decide_eq_true c35
                   clear c35
                   have HC36 := Aside0.mk H
                   clear H
                   try go_wp2
                   have n0_ := Aside0.mk (bD BK161.out)
                   have n1_ := Aside0.mk (pD HB.out)
                   clear BK161
                   clear HB
                   have BK161 := n0_
                   have HB := n1_
                   clear n0_ n1_
                   have p169 : 0 ≤ (x3_1 : Int) := of_decide_eq_true (by first | (with_reducible assumption) | assumption)
                   have q169 : x3_1 < (l0_0.length : Int) := of_decide_eq_true (by first | (with_reducible assumption) | assumption)
                   obtain ⟨ad169, e169, hx169_0, hx169_1⟩ := at_T30 HR0_0.out x3_1 p169 q169
                   have hw169_1 := hx169_1
                   have hw169_0 := hx169_0
                   obtain rfl : ad164 = ad169 := (by injection e169)
                   replace hx169_0 := (HB.out.cell (bl w _ hx169_0)).trans hx169_0
                   replace hx169_1 := (HB.out.cell (bl w _ hx169_1)).trans hx169_1
                   replace p169 := eq_true p169
                   replace q169 := eq_true q169
                   have p170 : 0 ≤ (x4_3 : Int) := of_decide_eq_true (by first | (with_reducible assumption) | assumption)
                   have q170 : x4_3 < (l0_0.length : Int) := of_decide_eq_true (by first | (with_reducible assumption) | assumption)
                   obtain ⟨ad170, e170, hx170_0, hx170_1⟩ := at_T30 HR0_0.out x4_3 p170 q170
                   have hw170_1 := hx170_1
                   have hw170_0 := hx170_0
                   obtain rfl : ad164 = ad170 := (by injection e170)
                   replace hx170_0 := (HB.out.cell (bl w _ hx170_0)).trans hx170_0
                   replace hx170_1 := (HB.out.cell (bl w _ hx170_1)).trans hx170_1
                   replace p170 := eq_true p170
                   replace q170 := eq_true q170
                   refine start_ (n := 14) (S := fun w' => w'.cell? ⟨gb161, 0, none⟩ = some (.slice (some ad164) l0_0.length c0_0) ∧ w'.cell? ⟨gb161, 1, none⟩ = some (.slice A0_1 l0_1.length c0_1) ∧ w'.cell? ⟨gb161, 2, none⟩ = some (.slice A0_2 l0_2.length c0_2) ∧ w'.cell? (ad164.add ((x3_1).toNat * 2)) = some (.int .i64 ((rd_T30 l0_0 x3_1).f0)) ∧ w'.cell? ⟨(ad164.add ((x3_1).toNat * 2)).block, (ad164.add ((x3_1).toNat * 2)).off + 1, none⟩ = some (.int .i64 ((rd_T30 l0_0 x3_1).f1)) ∧ w'.cell? (ad164.add ((x4_3).toNat * 2)) = some (.int .i64 ((rd_T30 l0_0 x4_3).f0)) ∧ w'.cell? ⟨(ad164.add ((x4_3).toNat * 2)).block, (ad164.add ((x4_3).toNat * 2)).off + 1, none⟩ = some (.int .i64 ((rd_T30 l0_0 x4_3).f1))) (ds := []) #[false, false, false, false, false, false, false, false, false, false, false, false, false, false] (by kernel_rfl) rfl rfl ⟨(bc BK161.out 0).trans rfl, (bc BK161.out 1).trans rfl, (bc BK161.out 2).trans rfl, ((HB.out.cell (bl w _ hw169_0)).trans hw169_0), ((HB.out.cell (bl w _ hw169_1)).trans hw169_1), ((HB.out.cell (bl w _ hw170_0)).trans hw170_0), ((HB.out.cell (bl w _ hw170_1)).trans hw170_1)⟩ (fun hHeld => ?_); refine with_tabW almagestlaw7_SpanLies.tab11 almagestlaw7_SpanLies.bits11 (fun HT_ HW_ => ?_)
                   generalize wc.drew = w37 at BK161 HB hx169_0 hx169_1 hx170_0 hx170_1 hHeld ⊢
                   refine pure_ (i := 0) (N := some 59) (v := ?_) (a' := ?_) #[true, false, false, false, false, false, false, false, false, false, false, false, false, false] rfl rfl (any_of HT_.out (by kernel_rfl)) (fun _ _ _ h => h) (Or.inl ⟨by rfl, ?_⟩) ?_ ?_
                   rotate_left
                   ·
                    intro w'
                    go_simp
                    with_reducible rfl
                   rotate_left
                   ·
                    simp only [Act.put, List.setIfInBounds_toArray, List.set_cons_zero, List.set_cons_succ, i64_w, i32_w]
                    rfl
                   refine pure_ (i := 2) (N := some 61) (v := ?_) (a' := ?_) #[true, false, true, false, false, false, false, false, false, false, false, false, false, false] rfl rfl (any_of HT_.out (by kernel_rfl)) (fun _ _ _ h => h) (Or.inl ⟨by rfl, ?_⟩) ?_ ?_
                   rotate_left
                   ·
                    intro w'
                    go_simp
                    with_reducible rfl
                   rotate_left
                   ·
                    simp only [Act.put, List.setIfInBounds_toArray, List.set_cons_zero, List.set_cons_succ, i64_w, i32_w]
                    rfl
                   refine pure_ (i := 5) (N := some 64) (v := ?_) (a' := ?_) #[true, false, true, false, false, true, false, false, false, false, false, false, false, false] rfl rfl (any_of HT_.out (by kernel_rfl)) (fun _ _ _ h => h) (Or.inl ⟨by rfl, ?_⟩) ?_ ?_
                   rotate_left
                   ·
                    intro w'
                    go_simp
                    with_reducible rfl
                   rotate_left
                   ·
                    simp only [Act.put, List.setIfInBounds_toArray, List.set_cons_zero, List.set_cons_succ, i64_w, i32_w]
                    rfl
                   refine pure_ (i := 7) (N := some 66) (v := ?_) (a' := ?_) #[true, false, true, false, false, true, false, true, false, false, false, false, false, false] rfl rfl (any_of HT_.out (by kernel_rfl)) (fun _ _ _ h => h) (Or.inl ⟨by rfl, ?_⟩) ?_ ?_
                   rotate_left
                   ·
                    intro w'
                    go_simp
                    with_reducible rfl
                   rotate_left
                   ·
                    simp only [Act.put, List.setIfInBounds_toArray, List.set_cons_zero, List.set_cons_succ, i64_w, i32_w]
                    rfl
                   refine take_ (i := 1) (N := some 60) (v := ?_) (a' := ?_) #[true, true, true, false, false, true, false, true, false, false, false, false, false, false] rfl rfl (take_ofW HT_.out HW_.out (by kernel_rfl)) (fun _ _ _ h => h) (Or.inl ⟨by rfl, ?_⟩) hHeld ?_ ?_
                   rotate_left
                   ·
                    rintro w' ⟨s0, s1, s2, s3, s4, s5, s6⟩
                    go_simp
                    with_reducible rfl
                   rotate_left
                   ·
                    simp only [Act.put, List.setIfInBounds_toArray, List.set_cons_zero, List.set_cons_succ, i64_w, i32_w]
                    rfl
                   refine pure_ (i := 3) (N := some 62) (v := ?_) (a' := ?_) #[true, true, true, true, false, true, false, true, false, false, false, false, false, false] rfl rfl (any_of HT_.out (by kernel_rfl)) (fun _ _ _ h => h) (Or.inl ⟨by rfl, ?_⟩) ?_ ?_
                   rotate_left
                   ·
                    intro w'
                    go_simp
                    with_reducible rfl
                   rotate_left
                   ·
                    simp only [Act.put, List.setIfInBounds_toArray, List.set_cons_zero, List.set_cons_succ, i64_w, i32_w]
                    rfl
                   refine take_ (i := 4) (N := some 63) (v := ?_) (a' := ?_) #[true, true, true, true, true, true, false, true, false, false, false, false, false, false] rfl rfl (take_ofW HT_.out HW_.out (by kernel_rfl)) (fun _ _ _ h => h) (Or.inl ⟨by rfl, ?_⟩) hHeld ?_ ?_
                   rotate_left
                   ·
                    rintro w' ⟨s0, s1, s2, s3, s4, s5, s6⟩
                    go_simp
                    with_reducible rfl
                   rotate_left
                   ·
                    simp only [Act.put, List.setIfInBounds_toArray, List.set_cons_zero, List.set_cons_succ, i64_w, i32_w]
                    rfl
                   refine take_ (i := 6) (N := some 65) (v := ?_) (a' := ?_) #[true, true, true, true, true, true, true, true, false, false, false, false, false, false] rfl rfl (take_ofW HT_.out HW_.out (by kernel_rfl)) (fun _ _ _ h => h) (Or.inl ⟨by rfl, ?_⟩) hHeld ?_ ?_
                   rotate_left
                   ·
                    rintro w' ⟨s0, s1, s2, s3, s4, s5, s6⟩
                    go_simp
                    with_reducible rfl
                   rotate_left
                   ·
                    simp only [Act.put, List.setIfInBounds_toArray, List.set_cons_zero, List.set_cons_succ, i64_w, i32_w]
                    rfl
                   refine pure_ (i := 8) (N := some 67) (v := ?_) (a' := ?_) #[true, true, true, true, true, true, true, true, true, false, false, false, false, false] rfl rfl (any_of HT_.out (by kernel_rfl)) (fun _ _ _ h => h) (Or.inl ⟨by rfl, ?_⟩) ?_ ?_
                   rotate_left
                   ·
                    intro w'
                    go_simp
                    with_reducible rfl
                   rotate_left
                   ·
                    simp only [Act.put, List.setIfInBounds_toArray, List.set_cons_zero, List.set_cons_succ, i64_w, i32_w]
                    rfl
                   refine take_ (i := 9) (N := some 68) (v := ?_) (a' := ?_) #[true, true, true, true, true, true, true, true, true, true, false, false, false, false] rfl rfl (take_ofW HT_.out HW_.out (by kernel_rfl)) (fun _ _ _ h => h) (Or.inl ⟨by rfl, ?_⟩) hHeld ?_ ?_
                   rotate_left
                   ·
                    rintro w' ⟨s0, s1, s2, s3, s4, s5, s6⟩
                    go_simp
                    with_reducible rfl
                   rotate_left
                   ·
                    simp only [Act.put, List.setIfInBounds_toArray, List.set_cons_zero, List.set_cons_succ, i64_w, i32_w]
                    rfl
                   refine join_ (σ := Nat × Nat) 2 #[true, true, true, true, true, true, true, true, true, true, true, true, false, false] (fun s_ => [(5, .pointer (some ⟨s_.1, 0, none⟩)), (6, .pointer (some ⟨s_.2, 0, none⟩))]) (fun s_ w' => (w'.cell? ⟨gb161, 0, none⟩ = some (.slice (some ad164) l0_0.length c0_0) ∧ w'.cell? ⟨gb161, 1, none⟩ = some (.slice A0_1 l0_1.length c0_1) ∧ w'.cell? ⟨gb161, 2, none⟩ = some (.slice A0_2 l0_2.length c0_2) ∧ w'.cell? (ad164.add ((x3_1).toNat * 2)) = some (.int .i64 ((rd_T30 l0_0 x3_1).f0)) ∧ w'.cell? ⟨(ad164.add ((x3_1).toNat * 2)).block, (ad164.add ((x3_1).toNat * 2)).off + 1, none⟩ = some (.int .i64 ((rd_T30 l0_0 x3_1).f1)) ∧ w'.cell? (ad164.add ((x4_3).toNat * 2)) = some (.int .i64 ((rd_T30 l0_0 x4_3).f0)) ∧ w'.cell? ⟨(ad164.add ((x4_3).toNat * 2)).block, (ad164.add ((x4_3).toNat * 2)).off + 1, none⟩ = some (.int .i64 ((rd_T30 l0_0 x4_3).f1))) ∧ (w'.heap[gb161]? = some (.cells #[.slice (some ad164) l0_0.length c0_0, .slice A0_1 l0_1.length c0_1, .slice A0_2 l0_2.length c0_2] 26 (0, 0))) ∧ (w'.heap[s_.1]? = some (.cells #[.int .i64 0, .int .i64 0] 30 (0, 0))) ∧ (w'.heap[s_.2]? = some (.cells #[.int .i64 0, .int .i64 0] 30 (0, 0))) ∧ (w.heap.size ≤ s_.1) ∧ (w.heap.size ≤ s_.1) ∧ (gb161 ≠ s_.1) ∧ (s_.1 ≠ gb161) ∧ (s_.2 ≠ s_.1) ∧ (s_.1 ≠ s_.2) ∧ (w.heap.size ≤ s_.2) ∧ (w.heap.size ≤ s_.2) ∧ (gb161 ≠ s_.2) ∧ (s_.2 ≠ gb161) ∧ (Below w.heap.size w w')) ?_ ?_
                   rotate_left
                   ·
                    intro hCont
                    refine two_ (i := 10) (j := 11) (Ni := some 5) (Nj := some 6) #[true, true, true, true, true, true, true, true, true, true, true, false, false, false] #[true, true, true, true, true, true, true, true, true, true, false, true, false, false] rfl rfl rfl rfl (two_of HT_.out (by kernel_rfl)) (by decide) (by decide) (fun K hK => ?_) (fun K hK => ?_)
                    ·
                     skip
                     refine box_step ?hg (N := 5) ?hd (cs := #[.int .i64 0, .int .i64 0]) (t := 30) ?hr ?_; (case hd => rfl); (case hg => rfl); (case hr => first | (go_simp; done) | (go_simp; rfl))
                     intro gb171 hg w38 hbox hb
                     have n0_ := Aside0.mk (blk_below (g := gb161) (o := .cells #[.slice (some ad164) l0_0.length c0_0, .slice A0_1 l0_1.length c0_1, .slice A0_2 l0_2.length c0_2] 26 (0, 0)) (by (with_reducible repeat (first | refine bN ?_ _ | refine bD ?_ | refine bA ?_ _)); exact BK161.out) hb)
                     have n1_ := Aside0.mk (below_step (by repeat (first | (with_reducible first | exact HB.out | apply pA | apply pN | apply pD | refine below_set ?_ GE161.out) | exact HB.out)) hb)
                     have n2_ := Aside0.mk (hbox)
                     have n3_ := Aside0.mk ((by rw [hg]; exact (below_size (by repeat (first | (with_reducible first | exact HB.out | apply pA | apply pN | apply pD | refine below_set ?_ GE161.out) | exact HB.out))) : w.heap.size ≤ gb171))
                     have n4_ := Aside0.mk ((by rw [hg]; exact (below_size (by repeat (first | (with_reducible first | exact HB.out | apply pA | apply pN | apply pD | refine below_set ?_ GE161.out) | exact HB.out))) : w.heap.size ≤ gb171))
                     have n5_ := Aside0.mk ((by rw [hg]; exact Nat.ne_of_lt (blk_lt (g := gb161) (o := .cells #[.slice (some ad164) l0_0.length c0_0, .slice A0_1 l0_1.length c0_1, .slice A0_2 l0_2.length c0_2] 26 (0, 0)) (by (with_reducible repeat (first | refine bN ?_ _ | refine bD ?_ | refine bA ?_ _)); exact BK161.out)) : gb161 ≠ gb171))
                     have n6_ := Aside0.mk ((by rw [hg]; exact Nat.ne_of_gt (blk_lt (g := gb161) (o := .cells #[.slice (some ad164) l0_0.length c0_0, .slice A0_1 l0_1.length c0_1, .slice A0_2 l0_2.length c0_2] 26 (0, 0)) (by (with_reducible repeat (first | refine bN ?_ _ | refine bD ?_ | refine bA ?_ _)); exact BK161.out)) : gb171 ≠ gb161))
                     clear BK161
                     clear HB
                     have BK161 := n0_
                     have HB := n1_
                     have BK171 := n2_
                     have GW171 := n3_
                     have GE171 := n4_
                     have NB161_171 := n5_
                     have NB171_161 := n6_
                     clear n0_ n1_ n2_ n3_ n4_ n5_ n6_
                     clear hb hbox hg
                     refine hK.out _ _ ⟨(bc BK161.out 0).trans rfl, (bc BK161.out 1).trans rfl, (bc BK161.out 2).trans rfl, ((HB.out.cell (bl w _ hw169_0)).trans hw169_0), ((HB.out.cell (bl w _ hw169_1)).trans hw169_1), ((HB.out.cell (bl w _ hw170_0)).trans hw170_0), ((HB.out.cell (bl w _ hw170_1)).trans hw170_1)⟩ (fun hHeld => ?_)
                     clear hK K
                     refine norm_ (a' := ?_) ?_ ?_
                     rotate_left
                     ·
                      show Act.put _ (some 5) _ = _
                      simp only [Act.put, List.setIfInBounds_toArray, List.set_cons_zero, List.set_cons_succ, i64_w, i32_w]
                      rfl
                     refine one_ (i := 11) (N := some 6) #[true, true, true, true, true, true, true, true, true, true, true, true, false, false] rfl rfl (one_of HT_.out (by kernel_rfl)) (by decide) (fun K hK => ?_)
                     refine box_step ?hg (N := 6) ?hd (cs := #[.int .i64 0, .int .i64 0]) (t := 30) ?hr ?_; (case hd => rfl); (case hg => rfl); (case hr => first | (go_simp; done) | (go_simp; rfl))
                     intro gb172 hg w39 hbox hb
                     have n0_ := Aside0.mk (blk_below (g := gb161) (o := .cells #[.slice (some ad164) l0_0.length c0_0, .slice A0_1 l0_1.length c0_1, .slice A0_2 l0_2.length c0_2] 26 (0, 0)) (by (with_reducible repeat (first | refine bN ?_ _ | refine bD ?_ | refine bA ?_ _)); exact BK161.out) hb)
                     have n1_ := Aside0.mk (blk_below (g := gb171) (o := .cells #[.int .i64 0, .int .i64 0] 30 (0, 0)) (by (with_reducible repeat (first | refine bN ?_ _ | refine bD ?_ | refine bA ?_ _)); exact BK171.out) hb)
                     have n2_ := Aside0.mk (below_step (by repeat (first | (with_reducible first | exact HB.out | apply pA | apply pN | apply pD | refine below_set ?_ GE161.out | refine below_set ?_ GE171.out) | exact HB.out)) hb)
                     have n3_ := Aside0.mk (hbox)
                     have n4_ := Aside0.mk ((by rw [hg]; exact (below_size (by repeat (first | (with_reducible first | exact HB.out | apply pA | apply pN | apply pD | refine below_set ?_ GE161.out | refine below_set ?_ GE171.out) | exact HB.out))) : w.heap.size ≤ gb172))
                     have n5_ := Aside0.mk ((by rw [hg]; exact (below_size (by repeat (first | (with_reducible first | exact HB.out | apply pA | apply pN | apply pD | refine below_set ?_ GE161.out | refine below_set ?_ GE171.out) | exact HB.out))) : w.heap.size ≤ gb172))
                     have n6_ := Aside0.mk ((by rw [hg]; exact Nat.ne_of_lt (blk_lt (g := gb161) (o := .cells #[.slice (some ad164) l0_0.length c0_0, .slice A0_1 l0_1.length c0_1, .slice A0_2 l0_2.length c0_2] 26 (0, 0)) (by (with_reducible repeat (first | refine bN ?_ _ | refine bD ?_ | refine bA ?_ _)); exact BK161.out)) : gb161 ≠ gb172))
                     have n7_ := Aside0.mk ((by rw [hg]; exact Nat.ne_of_gt (blk_lt (g := gb161) (o := .cells #[.slice (some ad164) l0_0.length c0_0, .slice A0_1 l0_1.length c0_1, .slice A0_2 l0_2.length c0_2] 26 (0, 0)) (by (with_reducible repeat (first | refine bN ?_ _ | refine bD ?_ | refine bA ?_ _)); exact BK161.out)) : gb172 ≠ gb161))
                     have n8_ := Aside0.mk ((by rw [hg]; exact Nat.ne_of_lt (blk_lt (g := gb171) (o := .cells #[.int .i64 0, .int .i64 0] 30 (0, 0)) (by (with_reducible repeat (first | refine bN ?_ _ | refine bD ?_ | refine bA ?_ _)); exact BK171.out)) : gb171 ≠ gb172))
                     have n9_ := Aside0.mk ((by rw [hg]; exact Nat.ne_of_gt (blk_lt (g := gb171) (o := .cells #[.int .i64 0, .int .i64 0] 30 (0, 0)) (by (with_reducible repeat (first | refine bN ?_ _ | refine bD ?_ | refine bA ?_ _)); exact BK171.out)) : gb172 ≠ gb171))
                     clear BK161
                     clear BK171
                     clear HB
                     have BK161 := n0_
                     have BK171 := n1_
                     have HB := n2_
                     have BK172 := n3_
                     have GW172 := n4_
                     have GE172 := n5_
                     have NB161_172 := n6_
                     have NB172_161 := n7_
                     have NB171_172 := n8_
                     have NB172_171 := n9_
                     clear n0_ n1_ n2_ n3_ n4_ n5_ n6_ n7_ n8_ n9_
                     clear hb hbox hg
                     refine hK.out _ _ ⟨(bc BK161.out 0).trans rfl, (bc BK161.out 1).trans rfl, (bc BK161.out 2).trans rfl, ((HB.out.cell (bl w _ hw169_0)).trans hw169_0), ((HB.out.cell (bl w _ hw169_1)).trans hw169_1), ((HB.out.cell (bl w _ hw170_0)).trans hw170_0), ((HB.out.cell (bl w _ hw170_1)).trans hw170_1)⟩ (fun hHeld => ?_)
                     clear hK K
                     refine norm_ (a' := ?_) ?_ ?_
                     rotate_left
                     ·
                      show Act.put _ (some 6) _ = _
                      simp only [Act.put, List.setIfInBounds_toArray, List.set_cons_zero, List.set_cons_succ, i64_w, i32_w]
                      rfl
                     exact norm_ (by simp only [putAll, Act.put, List.setIfInBounds_toArray, List.set_cons_zero, List.set_cons_succ]) (hCont (gb171, gb172) _ ⟨hHeld, (by (with_reducible repeat (first | refine bN ?_ _ | refine bD ?_ | refine bA ?_ _)); exact BK161.out), (by (with_reducible repeat (first | refine bN ?_ _ | refine bD ?_ | refine bA ?_ _)); exact BK171.out), (by (with_reducible repeat (first | refine bN ?_ _ | refine bD ?_ | refine bA ?_ _)); exact BK172.out), GW171.out, GE171.out, NB161_171.out, NB171_161.out, NB172_171.out, NB171_172.out, GW172.out, GE172.out, NB161_172.out, NB172_161.out, (by repeat (first | (with_reducible first | exact HB.out | apply pA | apply pN | apply pD | refine below_set ?_ GE161.out | refine below_set ?_ GE171.out | refine below_set ?_ GE172.out) | exact HB.out))⟩)
                    ·
                     skip
                     refine box_step ?hg (N := 6) ?hd (cs := #[.int .i64 0, .int .i64 0]) (t := 30) ?hr ?_; (case hd => rfl); (case hg => rfl); (case hr => first | (go_simp; done) | (go_simp; rfl))
                     intro gb172 hg w38 hbox hb
                     have n0_ := Aside0.mk (blk_below (g := gb161) (o := .cells #[.slice (some ad164) l0_0.length c0_0, .slice A0_1 l0_1.length c0_1, .slice A0_2 l0_2.length c0_2] 26 (0, 0)) (by (with_reducible repeat (first | refine bN ?_ _ | refine bD ?_ | refine bA ?_ _)); exact BK161.out) hb)
                     have n1_ := Aside0.mk (below_step (by repeat (first | (with_reducible first | exact HB.out | apply pA | apply pN | apply pD | refine below_set ?_ GE161.out) | exact HB.out)) hb)
                     have n2_ := Aside0.mk (hbox)
                     have n3_ := Aside0.mk ((by rw [hg]; exact (below_size (by repeat (first | (with_reducible first | exact HB.out | apply pA | apply pN | apply pD | refine below_set ?_ GE161.out) | exact HB.out))) : w.heap.size ≤ gb172))
                     have n4_ := Aside0.mk ((by rw [hg]; exact (below_size (by repeat (first | (with_reducible first | exact HB.out | apply pA | apply pN | apply pD | refine below_set ?_ GE161.out) | exact HB.out))) : w.heap.size ≤ gb172))
                     have n5_ := Aside0.mk ((by rw [hg]; exact Nat.ne_of_lt (blk_lt (g := gb161) (o := .cells #[.slice (some ad164) l0_0.length c0_0, .slice A0_1 l0_1.length c0_1, .slice A0_2 l0_2.length c0_2] 26 (0, 0)) (by (with_reducible repeat (first | refine bN ?_ _ | refine bD ?_ | refine bA ?_ _)); exact BK161.out)) : gb161 ≠ gb172))
                     have n6_ := Aside0.mk ((by rw [hg]; exact Nat.ne_of_gt (blk_lt (g := gb161) (o := .cells #[.slice (some ad164) l0_0.length c0_0, .slice A0_1 l0_1.length c0_1, .slice A0_2 l0_2.length c0_2] 26 (0, 0)) (by (with_reducible repeat (first | refine bN ?_ _ | refine bD ?_ | refine bA ?_ _)); exact BK161.out)) : gb172 ≠ gb161))
                     clear BK161
                     clear HB
                     have BK161 := n0_
                     have HB := n1_
                     have BK172 := n2_
                     have GW172 := n3_
                     have GE172 := n4_
                     have NB161_172 := n5_
                     have NB172_161 := n6_
                     clear n0_ n1_ n2_ n3_ n4_ n5_ n6_
                     clear hb hbox hg
                     refine hK.out _ _ ⟨(bc BK161.out 0).trans rfl, (bc BK161.out 1).trans rfl, (bc BK161.out 2).trans rfl, ((HB.out.cell (bl w _ hw169_0)).trans hw169_0), ((HB.out.cell (bl w _ hw169_1)).trans hw169_1), ((HB.out.cell (bl w _ hw170_0)).trans hw170_0), ((HB.out.cell (bl w _ hw170_1)).trans hw170_1)⟩ (fun hHeld => ?_)
                     clear hK K
                     refine norm_ (a' := ?_) ?_ ?_
                     rotate_left
                     ·
                      show Act.put _ (some 6) _ = _
                      simp only [Act.put, List.setIfInBounds_toArray, List.set_cons_zero, List.set_cons_succ, i64_w, i32_w]
                      rfl
                     refine one_ (i := 10) (N := some 5) #[true, true, true, true, true, true, true, true, true, true, true, true, false, false] rfl rfl (one_of HT_.out (by kernel_rfl)) (by decide) (fun K hK => ?_)
                     refine box_step ?hg (N := 5) ?hd (cs := #[.int .i64 0, .int .i64 0]) (t := 30) ?hr ?_; (case hd => rfl); (case hg => rfl); (case hr => first | (go_simp; done) | (go_simp; rfl))
                     intro gb171 hg w39 hbox hb
                     have n0_ := Aside0.mk (blk_below (g := gb161) (o := .cells #[.slice (some ad164) l0_0.length c0_0, .slice A0_1 l0_1.length c0_1, .slice A0_2 l0_2.length c0_2] 26 (0, 0)) (by (with_reducible repeat (first | refine bN ?_ _ | refine bD ?_ | refine bA ?_ _)); exact BK161.out) hb)
                     have n1_ := Aside0.mk (blk_below (g := gb172) (o := .cells #[.int .i64 0, .int .i64 0] 30 (0, 0)) (by (with_reducible repeat (first | refine bN ?_ _ | refine bD ?_ | refine bA ?_ _)); exact BK172.out) hb)
                     have n2_ := Aside0.mk (below_step (by repeat (first | (with_reducible first | exact HB.out | apply pA | apply pN | apply pD | refine below_set ?_ GE161.out | refine below_set ?_ GE172.out) | exact HB.out)) hb)
                     have n3_ := Aside0.mk (hbox)
                     have n4_ := Aside0.mk ((by rw [hg]; exact (below_size (by repeat (first | (with_reducible first | exact HB.out | apply pA | apply pN | apply pD | refine below_set ?_ GE161.out | refine below_set ?_ GE172.out) | exact HB.out))) : w.heap.size ≤ gb171))
                     have n5_ := Aside0.mk ((by rw [hg]; exact (below_size (by repeat (first | (with_reducible first | exact HB.out | apply pA | apply pN | apply pD | refine below_set ?_ GE161.out | refine below_set ?_ GE172.out) | exact HB.out))) : w.heap.size ≤ gb171))
                     have n6_ := Aside0.mk ((by rw [hg]; exact Nat.ne_of_lt (blk_lt (g := gb161) (o := .cells #[.slice (some ad164) l0_0.length c0_0, .slice A0_1 l0_1.length c0_1, .slice A0_2 l0_2.length c0_2] 26 (0, 0)) (by (with_reducible repeat (first | refine bN ?_ _ | refine bD ?_ | refine bA ?_ _)); exact BK161.out)) : gb161 ≠ gb171))
                     have n7_ := Aside0.mk ((by rw [hg]; exact Nat.ne_of_gt (blk_lt (g := gb161) (o := .cells #[.slice (some ad164) l0_0.length c0_0, .slice A0_1 l0_1.length c0_1, .slice A0_2 l0_2.length c0_2] 26 (0, 0)) (by (with_reducible repeat (first | refine bN ?_ _ | refine bD ?_ | refine bA ?_ _)); exact BK161.out)) : gb171 ≠ gb161))
                     have n8_ := Aside0.mk ((by rw [hg]; exact Nat.ne_of_lt (blk_lt (g := gb172) (o := .cells #[.int .i64 0, .int .i64 0] 30 (0, 0)) (by (with_reducible repeat (first | refine bN ?_ _ | refine bD ?_ | refine bA ?_ _)); exact BK172.out)) : gb172 ≠ gb171))
                     have n9_ := Aside0.mk ((by rw [hg]; exact Nat.ne_of_gt (blk_lt (g := gb172) (o := .cells #[.int .i64 0, .int .i64 0] 30 (0, 0)) (by (with_reducible repeat (first | refine bN ?_ _ | refine bD ?_ | refine bA ?_ _)); exact BK172.out)) : gb171 ≠ gb172))
                     clear BK161
                     clear BK172
                     clear HB
                     have BK161 := n0_
                     have BK172 := n1_
                     have HB := n2_
                     have BK171 := n3_
                     have GW171 := n4_
                     have GE171 := n5_
                     have NB161_171 := n6_
                     have NB171_161 := n7_
                     have NB172_171 := n8_
                     have NB171_172 := n9_
                     clear n0_ n1_ n2_ n3_ n4_ n5_ n6_ n7_ n8_ n9_
                     clear hb hbox hg
                     refine hK.out _ _ ⟨(bc BK161.out 0).trans rfl, (bc BK161.out 1).trans rfl, (bc BK161.out 2).trans rfl, ((HB.out.cell (bl w _ hw169_0)).trans hw169_0), ((HB.out.cell (bl w _ hw169_1)).trans hw169_1), ((HB.out.cell (bl w _ hw170_0)).trans hw170_0), ((HB.out.cell (bl w _ hw170_1)).trans hw170_1)⟩ (fun hHeld => ?_)
                     clear hK K
                     refine norm_ (a' := ?_) ?_ ?_
                     rotate_left
                     ·
                      show Act.put _ (some 5) _ = _
                      simp only [Act.put, List.setIfInBounds_toArray, List.set_cons_zero, List.set_cons_succ, i64_w, i32_w]
                      rfl
                     exact norm_ (by simp only [putAll, Act.put, List.setIfInBounds_toArray, List.set_cons_zero, List.set_cons_succ]) (hCont (gb171, gb172) _ ⟨hHeld, (by (with_reducible repeat (first | refine bN ?_ _ | refine bD ?_ | refine bA ?_ _)); exact BK161.out), (by (with_reducible repeat (first | refine bN ?_ _ | refine bD ?_ | refine bA ?_ _)); exact BK171.out), (by (with_reducible repeat (first | refine bN ?_ _ | refine bD ?_ | refine bA ?_ _)); exact BK172.out), GW171.out, GE171.out, NB161_171.out, NB171_161.out, NB172_171.out, NB171_172.out, GW172.out, GE172.out, NB161_172.out, NB172_161.out, (by repeat (first | (with_reducible first | exact HB.out | apply pA | apply pN | apply pD | refine below_set ?_ GE161.out | refine below_set ?_ GE172.out | refine below_set ?_ GE171.out) | exact HB.out))⟩)
                   rintro ⟨gb171, gb172⟩ w40 ⟨hS_, h0_, h1_, h2_, h3_, h4_, h5_, h6_, h7_, h8_, h9_, h10_, h11_, h12_, h13_⟩
                   have n0_ : Aside0 (w40.heap[gb161]? = some (.cells #[.slice (some ad164) l0_0.length c0_0, .slice A0_1 l0_1.length c0_1, .slice A0_2 l0_2.length c0_2] 26 (0, 0))) := ⟨h0_⟩
                   have n1_ : Aside0 (w40.heap[gb171]? = some (.cells #[.int .i64 0, .int .i64 0] 30 (0, 0))) := ⟨h1_⟩
                   have n2_ : Aside0 (w40.heap[gb172]? = some (.cells #[.int .i64 0, .int .i64 0] 30 (0, 0))) := ⟨h2_⟩
                   have n3_ : Aside0 (w.heap.size ≤ gb171) := ⟨h3_⟩
                   have n4_ : Aside0 (w.heap.size ≤ gb171) := ⟨h4_⟩
                   have n5_ : Aside0 (gb161 ≠ gb171) := ⟨h5_⟩
                   have n6_ : Aside0 (gb171 ≠ gb161) := ⟨h6_⟩
                   have n7_ : Aside0 (gb172 ≠ gb171) := ⟨h7_⟩
                   have n8_ : Aside0 (gb171 ≠ gb172) := ⟨h8_⟩
                   have n9_ : Aside0 (w.heap.size ≤ gb172) := ⟨h9_⟩
                   have n10_ : Aside0 (w.heap.size ≤ gb172) := ⟨h10_⟩
                   have n11_ : Aside0 (gb161 ≠ gb172) := ⟨h11_⟩
                   have n12_ : Aside0 (gb172 ≠ gb161) := ⟨h12_⟩
                   have n13_ : Aside0 (Below w.heap.size w w40) := ⟨h13_⟩
                   clear BK161
                   clear HB
                   clear h0_ h1_ h2_ h3_ h4_ h5_ h6_ h7_ h8_ h9_ h10_ h11_ h12_ h13_
                   have BK161 := n0_
                   have BK171 := n1_
                   have BK172 := n2_
                   have GW171 := n3_
                   have GE171 := n4_
                   have NB161_171 := n5_
                   have NB171_161 := n6_
                   have NB172_171 := n7_
                   have NB171_172 := n8_
                   have GW172 := n9_
                   have GE172 := n10_
                   have NB161_172 := n11_
                   have NB172_161 := n12_
                   have HB := n13_
                   clear n0_ n1_ n2_ n3_ n4_ n5_ n6_ n7_ n8_ n9_ n10_ n11_ n12_ n13_
                   have hHeld : w40.cell? ⟨gb161, 0, none⟩ = some (.slice (some ad164) l0_0.length c0_0) ∧ w40.cell? ⟨gb161, 1, none⟩ = some (.slice A0_1 l0_1.length c0_1) ∧ w40.cell? ⟨gb161, 2, none⟩ = some (.slice A0_2 l0_2.length c0_2) ∧ w40.cell? (ad164.add ((x3_1).toNat * 2)) = some (.int .i64 ((rd_T30 l0_0 x3_1).f0)) ∧ w40.cell? ⟨(ad164.add ((x3_1).toNat * 2)).block, (ad164.add ((x3_1).toNat * 2)).off + 1, none⟩ = some (.int .i64 ((rd_T30 l0_0 x3_1).f1)) ∧ w40.cell? (ad164.add ((x4_3).toNat * 2)) = some (.int .i64 ((rd_T30 l0_0 x4_3).f0)) ∧ w40.cell? ⟨(ad164.add ((x4_3).toNat * 2)).block, (ad164.add ((x4_3).toNat * 2)).off + 1, none⟩ = some (.int .i64 ((rd_T30 l0_0 x4_3).f1)) := hS_
                   refine norm_ (a' := ?_) ?_ ?_
                   rotate_left
                   ·
                    simp only [putAll, Act.put, List.setIfInBounds_toArray, List.set_cons_zero, List.set_cons_succ]
                    rfl
                   refine one_ (i := 12) (N := none) #[true, true, true, true, true, true, true, true, true, true, true, true, true, false] rfl rfl (one_of HT_.out (by kernel_rfl)) (by decide) (fun K hK => ?_)
                   have hs41 : w40.cell? ⟨gb171, 0, none⟩ = some (.int .i64 0) := (bc BK171.out 0).trans rfl
                   have hfs41 := bf BK171.out 0
                   have hns41_0 := NB161_171.out
                   have hns41_2 := NB172_171.out
                   have hms41_0 := NB171_161.out
                   have hms41_2 := NB171_172.out
                   have hs42 : w40.cell? ⟨gb171, 1, none⟩ = some (.int .i64 0) := (bc BK171.out 1).trans rfl
                   have hfs42 := bf BK171.out 1
                   have hns42_0 := NB161_171.out
                   have hns42_2 := NB172_171.out
                   have hms42_0 := NB171_161.out
                   have hms42_2 := NB171_172.out
                   refine skip_ (w1 := ?_) (by rfl) rfl ?_ ?_
                   rotate_left
                   ·
                    go_simp
                    rfl
                   refine hK.out _ _ ⟨((cf (p := ⟨gb171, _, none⟩) NB161_171.out _).trans (((cf (p := ⟨gb171, _, none⟩) NB161_171.out _).trans (hHeld.1)))), ((cf (p := ⟨gb171, _, none⟩) NB161_171.out _).trans (((cf (p := ⟨gb171, _, none⟩) NB161_171.out _).trans (hHeld.2.1)))), ((cf (p := ⟨gb171, _, none⟩) NB161_171.out _).trans (((cf (p := ⟨gb171, _, none⟩) NB161_171.out _).trans (hHeld.2.2.1)))), ((cf (p := ⟨gb171, _, none⟩) (by first | exact Nat.ne_of_lt (Nat.lt_of_lt_of_le (by have := bl _ _ hw169_0; first | rwa [add_block] at this | exact this) GW171.out) | (rw [add_block]; exact Nat.ne_of_lt (Nat.lt_of_lt_of_le (by have := bl _ _ hw169_0; first | rwa [add_block] at this | exact this) GW171.out)) | (show (Addr.add _ _).block ≠ _; rw [add_block]; exact Nat.ne_of_lt (Nat.lt_of_lt_of_le (by have := bl _ _ hw169_0; first | rwa [add_block] at this | exact this) GW171.out)) | (dsimp only; exact Nat.ne_of_lt (Nat.lt_of_lt_of_le (by have := bl _ _ hw169_0; first | rwa [add_block] at this | exact this) GW171.out))) _).trans (((cf (p := ⟨gb171, _, none⟩) (by first | exact Nat.ne_of_lt (Nat.lt_of_lt_of_le (by have := bl _ _ hw169_0; first | rwa [add_block] at this | exact this) GW171.out) | (rw [add_block]; exact Nat.ne_of_lt (Nat.lt_of_lt_of_le (by have := bl _ _ hw169_0; first | rwa [add_block] at this | exact this) GW171.out)) | (show (Addr.add _ _).block ≠ _; rw [add_block]; exact Nat.ne_of_lt (Nat.lt_of_lt_of_le (by have := bl _ _ hw169_0; first | rwa [add_block] at this | exact this) GW171.out)) | (dsimp only; exact Nat.ne_of_lt (Nat.lt_of_lt_of_le (by have := bl _ _ hw169_0; first | rwa [add_block] at this | exact this) GW171.out))) _).trans (hHeld.2.2.2.1)))), ((cf (p := ⟨gb171, _, none⟩) (by first | exact Nat.ne_of_lt (Nat.lt_of_lt_of_le (by have := bl _ _ hw169_1; first | rwa [add_block] at this | exact this) GW171.out) | (rw [add_block]; exact Nat.ne_of_lt (Nat.lt_of_lt_of_le (by have := bl _ _ hw169_1; first | rwa [add_block] at this | exact this) GW171.out)) | (show (Addr.add _ _).block ≠ _; rw [add_block]; exact Nat.ne_of_lt (Nat.lt_of_lt_of_le (by have := bl _ _ hw169_1; first | rwa [add_block] at this | exact this) GW171.out)) | (dsimp only; exact Nat.ne_of_lt (Nat.lt_of_lt_of_le (by have := bl _ _ hw169_1; first | rwa [add_block] at this | exact this) GW171.out))) _).trans (((cf (p := ⟨gb171, _, none⟩) (by first | exact Nat.ne_of_lt (Nat.lt_of_lt_of_le (by have := bl _ _ hw169_1; first | rwa [add_block] at this | exact this) GW171.out) | (rw [add_block]; exact Nat.ne_of_lt (Nat.lt_of_lt_of_le (by have := bl _ _ hw169_1; first | rwa [add_block] at this | exact this) GW171.out)) | (show (Addr.add _ _).block ≠ _; rw [add_block]; exact Nat.ne_of_lt (Nat.lt_of_lt_of_le (by have := bl _ _ hw169_1; first | rwa [add_block] at this | exact this) GW171.out)) | (dsimp only; exact Nat.ne_of_lt (Nat.lt_of_lt_of_le (by have := bl _ _ hw169_1; first | rwa [add_block] at this | exact this) GW171.out))) _).trans (hHeld.2.2.2.2.1)))), ((cf (p := ⟨gb171, _, none⟩) (by first | exact Nat.ne_of_lt (Nat.lt_of_lt_of_le (by have := bl _ _ hw170_0; first | rwa [add_block] at this | exact this) GW171.out) | (rw [add_block]; exact Nat.ne_of_lt (Nat.lt_of_lt_of_le (by have := bl _ _ hw170_0; first | rwa [add_block] at this | exact this) GW171.out)) | (show (Addr.add _ _).block ≠ _; rw [add_block]; exact Nat.ne_of_lt (Nat.lt_of_lt_of_le (by have := bl _ _ hw170_0; first | rwa [add_block] at this | exact this) GW171.out)) | (dsimp only; exact Nat.ne_of_lt (Nat.lt_of_lt_of_le (by have := bl _ _ hw170_0; first | rwa [add_block] at this | exact this) GW171.out))) _).trans (((cf (p := ⟨gb171, _, none⟩) (by first | exact Nat.ne_of_lt (Nat.lt_of_lt_of_le (by have := bl _ _ hw170_0; first | rwa [add_block] at this | exact this) GW171.out) | (rw [add_block]; exact Nat.ne_of_lt (Nat.lt_of_lt_of_le (by have := bl _ _ hw170_0; first | rwa [add_block] at this | exact this) GW171.out)) | (show (Addr.add _ _).block ≠ _; rw [add_block]; exact Nat.ne_of_lt (Nat.lt_of_lt_of_le (by have := bl _ _ hw170_0; first | rwa [add_block] at this | exact this) GW171.out)) | (dsimp only; exact Nat.ne_of_lt (Nat.lt_of_lt_of_le (by have := bl _ _ hw170_0; first | rwa [add_block] at this | exact this) GW171.out))) _).trans (hHeld.2.2.2.2.2.1)))), ((cf (p := ⟨gb171, _, none⟩) (by first | exact Nat.ne_of_lt (Nat.lt_of_lt_of_le (by have := bl _ _ hw170_1; first | rwa [add_block] at this | exact this) GW171.out) | (rw [add_block]; exact Nat.ne_of_lt (Nat.lt_of_lt_of_le (by have := bl _ _ hw170_1; first | rwa [add_block] at this | exact this) GW171.out)) | (show (Addr.add _ _).block ≠ _; rw [add_block]; exact Nat.ne_of_lt (Nat.lt_of_lt_of_le (by have := bl _ _ hw170_1; first | rwa [add_block] at this | exact this) GW171.out)) | (dsimp only; exact Nat.ne_of_lt (Nat.lt_of_lt_of_le (by have := bl _ _ hw170_1; first | rwa [add_block] at this | exact this) GW171.out))) _).trans (((cf (p := ⟨gb171, _, none⟩) (by first | exact Nat.ne_of_lt (Nat.lt_of_lt_of_le (by have := bl _ _ hw170_1; first | rwa [add_block] at this | exact this) GW171.out) | (rw [add_block]; exact Nat.ne_of_lt (Nat.lt_of_lt_of_le (by have := bl _ _ hw170_1; first | rwa [add_block] at this | exact this) GW171.out)) | (show (Addr.add _ _).block ≠ _; rw [add_block]; exact Nat.ne_of_lt (Nat.lt_of_lt_of_le (by have := bl _ _ hw170_1; first | rwa [add_block] at this | exact this) GW171.out)) | (dsimp only; exact Nat.ne_of_lt (Nat.lt_of_lt_of_le (by have := bl _ _ hw170_1; first | rwa [add_block] at this | exact this) GW171.out))) _).trans (hHeld.2.2.2.2.2.2))))⟩ (fun hHeld => ?_)
                   clear hK K
                   refine one_ (i := 13) (N := none) #[true, true, true, true, true, true, true, true, true, true, true, true, true, true] rfl rfl (one_of HT_.out (by kernel_rfl)) (by decide) (fun K hK => ?_)
                   have hs43 : w40.cell? ⟨gb172, 0, none⟩ = some (.int .i64 0) := (bc BK172.out 0).trans rfl
                   have hfs43 := bf BK172.out 0
                   have hns43_0 := NB161_172.out
                   have hns43_1 := NB171_172.out
                   have hms43_0 := NB172_161.out
                   have hms43_1 := NB172_171.out
                   have hs44 : w40.cell? ⟨gb172, 1, none⟩ = some (.int .i64 0) := (bc BK172.out 1).trans rfl
                   have hfs44 := bf BK172.out 1
                   have hns44_0 := NB161_172.out
                   have hns44_1 := NB171_172.out
                   have hms44_0 := NB172_161.out
                   have hms44_1 := NB172_171.out
                   refine skip_ (w1 := ?_) (by rfl) rfl ?_ ?_
                   rotate_left
                   ·
                    go_simp
                    rfl
                   refine hK.out _ _ ⟨((cf (p := ⟨gb172, _, none⟩) NB161_172.out _).trans (((cf (p := ⟨gb172, _, none⟩) NB161_172.out _).trans (hHeld.1)))), ((cf (p := ⟨gb172, _, none⟩) NB161_172.out _).trans (((cf (p := ⟨gb172, _, none⟩) NB161_172.out _).trans (hHeld.2.1)))), ((cf (p := ⟨gb172, _, none⟩) NB161_172.out _).trans (((cf (p := ⟨gb172, _, none⟩) NB161_172.out _).trans (hHeld.2.2.1)))), ((cf (p := ⟨gb172, _, none⟩) (by first | exact Nat.ne_of_lt (Nat.lt_of_lt_of_le (by have := bl _ _ hw169_0; first | rwa [add_block] at this | exact this) GW172.out) | (rw [add_block]; exact Nat.ne_of_lt (Nat.lt_of_lt_of_le (by have := bl _ _ hw169_0; first | rwa [add_block] at this | exact this) GW172.out)) | (show (Addr.add _ _).block ≠ _; rw [add_block]; exact Nat.ne_of_lt (Nat.lt_of_lt_of_le (by have := bl _ _ hw169_0; first | rwa [add_block] at this | exact this) GW172.out)) | (dsimp only; exact Nat.ne_of_lt (Nat.lt_of_lt_of_le (by have := bl _ _ hw169_0; first | rwa [add_block] at this | exact this) GW172.out))) _).trans (((cf (p := ⟨gb172, _, none⟩) (by first | exact Nat.ne_of_lt (Nat.lt_of_lt_of_le (by have := bl _ _ hw169_0; first | rwa [add_block] at this | exact this) GW172.out) | (rw [add_block]; exact Nat.ne_of_lt (Nat.lt_of_lt_of_le (by have := bl _ _ hw169_0; first | rwa [add_block] at this | exact this) GW172.out)) | (show (Addr.add _ _).block ≠ _; rw [add_block]; exact Nat.ne_of_lt (Nat.lt_of_lt_of_le (by have := bl _ _ hw169_0; first | rwa [add_block] at this | exact this) GW172.out)) | (dsimp only; exact Nat.ne_of_lt (Nat.lt_of_lt_of_le (by have := bl _ _ hw169_0; first | rwa [add_block] at this | exact this) GW172.out))) _).trans (hHeld.2.2.2.1)))), ((cf (p := ⟨gb172, _, none⟩) (by first | exact Nat.ne_of_lt (Nat.lt_of_lt_of_le (by have := bl _ _ hw169_1; first | rwa [add_block] at this | exact this) GW172.out) | (rw [add_block]; exact Nat.ne_of_lt (Nat.lt_of_lt_of_le (by have := bl _ _ hw169_1; first | rwa [add_block] at this | exact this) GW172.out)) | (show (Addr.add _ _).block ≠ _; rw [add_block]; exact Nat.ne_of_lt (Nat.lt_of_lt_of_le (by have := bl _ _ hw169_1; first | rwa [add_block] at this | exact this) GW172.out)) | (dsimp only; exact Nat.ne_of_lt (Nat.lt_of_lt_of_le (by have := bl _ _ hw169_1; first | rwa [add_block] at this | exact this) GW172.out))) _).trans (((cf (p := ⟨gb172, _, none⟩) (by first | exact Nat.ne_of_lt (Nat.lt_of_lt_of_le (by have := bl _ _ hw169_1; first | rwa [add_block] at this | exact this) GW172.out) | (rw [add_block]; exact Nat.ne_of_lt (Nat.lt_of_lt_of_le (by have := bl _ _ hw169_1; first | rwa [add_block] at this | exact this) GW172.out)) | (show (Addr.add _ _).block ≠ _; rw [add_block]; exact Nat.ne_of_lt (Nat.lt_of_lt_of_le (by have := bl _ _ hw169_1; first | rwa [add_block] at this | exact this) GW172.out)) | (dsimp only; exact Nat.ne_of_lt (Nat.lt_of_lt_of_le (by have := bl _ _ hw169_1; first | rwa [add_block] at this | exact this) GW172.out))) _).trans (hHeld.2.2.2.2.1)))), ((cf (p := ⟨gb172, _, none⟩) (by first | exact Nat.ne_of_lt (Nat.lt_of_lt_of_le (by have := bl _ _ hw170_0; first | rwa [add_block] at this | exact this) GW172.out) | (rw [add_block]; exact Nat.ne_of_lt (Nat.lt_of_lt_of_le (by have := bl _ _ hw170_0; first | rwa [add_block] at this | exact this) GW172.out)) | (show (Addr.add _ _).block ≠ _; rw [add_block]; exact Nat.ne_of_lt (Nat.lt_of_lt_of_le (by have := bl _ _ hw170_0; first | rwa [add_block] at this | exact this) GW172.out)) | (dsimp only; exact Nat.ne_of_lt (Nat.lt_of_lt_of_le (by have := bl _ _ hw170_0; first | rwa [add_block] at this | exact this) GW172.out))) _).trans (((cf (p := ⟨gb172, _, none⟩) (by first | exact Nat.ne_of_lt (Nat.lt_of_lt_of_le (by have := bl _ _ hw170_0; first | rwa [add_block] at this | exact this) GW172.out) | (rw [add_block]; exact Nat.ne_of_lt (Nat.lt_of_lt_of_le (by have := bl _ _ hw170_0; first | rwa [add_block] at this | exact this) GW172.out)) | (show (Addr.add _ _).block ≠ _; rw [add_block]; exact Nat.ne_of_lt (Nat.lt_of_lt_of_le (by have := bl _ _ hw170_0; first | rwa [add_block] at this | exact this) GW172.out)) | (dsimp only; exact Nat.ne_of_lt (Nat.lt_of_lt_of_le (by have := bl _ _ hw170_0; first | rwa [add_block] at this | exact this) GW172.out))) _).trans (hHeld.2.2.2.2.2.1)))), ((cf (p := ⟨gb172, _, none⟩) (by first | exact Nat.ne_of_lt (Nat.lt_of_lt_of_le (by have := bl _ _ hw170_1; first | rwa [add_block] at this | exact this) GW172.out) | (rw [add_block]; exact Nat.ne_of_lt (Nat.lt_of_lt_of_le (by have := bl _ _ hw170_1; first | rwa [add_block] at this | exact this) GW172.out)) | (show (Addr.add _ _).block ≠ _; rw [add_block]; exact Nat.ne_of_lt (Nat.lt_of_lt_of_le (by have := bl _ _ hw170_1; first | rwa [add_block] at this | exact this) GW172.out)) | (dsimp only; exact Nat.ne_of_lt (Nat.lt_of_lt_of_le (by have := bl _ _ hw170_1; first | rwa [add_block] at this | exact this) GW172.out))) _).trans (((cf (p := ⟨gb172, _, none⟩) (by first | exact Nat.ne_of_lt (Nat.lt_of_lt_of_le (by have := bl _ _ hw170_1; first | rwa [add_block] at this | exact this) GW172.out) | (rw [add_block]; exact Nat.ne_of_lt (Nat.lt_of_lt_of_le (by have := bl _ _ hw170_1; first | rwa [add_block] at this | exact this) GW172.out)) | (show (Addr.add _ _).block ≠ _; rw [add_block]; exact Nat.ne_of_lt (Nat.lt_of_lt_of_le (by have := bl _ _ hw170_1; first | rwa [add_block] at this | exact this) GW172.out)) | (dsimp only; exact Nat.ne_of_lt (Nat.lt_of_lt_of_le (by have := bl _ _ hw170_1; first | rwa [add_block] at this | exact this) GW172.out))) _).trans (hHeld.2.2.2.2.2.2))))⟩ (fun hHeld => ?_)
                   clear hK K
                   refine done_ (done_of HT_.out (by kernel_rfl)) ?_
                   go_upto_region 12 with (fail)
                   go_cut [7] (fun v7 wc => ∃ (kq : Nat) (x7_35 : Bool), v7 = .bool x7_35 ∧ Aside0 (almagestlaw7_SpanLies.j4 kq x3_1 x4_3 x7_35 l0_0 l0_1 l0_2 ((rd_T30 l0_0 x3_1).f0) ((rd_T30 l0_0 x3_1).f1) ((rd_T30 l0_0 x4_3).f0) ((rd_T30 l0_0 x4_3).f1) = some r) ∧ Aside0 (kq ≤ kj26) ∧ Aside0 (wc.heap[gb161]? = some (.cells #[(.slice (some ad164) l0_0.length c0_0), (.slice A0_1 l0_1.length c0_1), (.slice A0_2 l0_2.length c0_2)] 26 (0, 0))) ∧ Aside0 (wc.heap[gb171]? = some (.cells #[.int .i64 ((rd_T30 l0_0 x3_1).f0), .int .i64 ((rd_T30 l0_0 x3_1).f1)] 30 (0, 0))) ∧ Aside0 (wc.heap[gb172]? = some (.cells #[.int .i64 ((rd_T30 l0_0 x4_3).f0), .int .i64 ((rd_T30 l0_0 x4_3).f1)] 30 (0, 0))) ∧ Aside0 (Below w.heap.size w wc))
                   case first =>
                    have H := HC36.out
                    clear HC36
                    replace H := Option.bind_eq_some_iff.mp H
                    obtain ⟨t173, A450, H⟩ := H
                    replace H : (if t173 = true then ((almagestref7_Span.f ((rd_T30 l0_0 x4_3).f0) ((rd_T30 l0_0 x4_3).f1)).bind fun t174 => (almagestlaw7_SpanLies.j4 kj26 x3_1 x4_3 t174 l0_0 l0_1 l0_2 ((rd_T30 l0_0 x3_1).f0) ((rd_T30 l0_0 x3_1).f1) ((rd_T30 l0_0 x4_3).f0) ((rd_T30 l0_0 x4_3).f1))) else (almagestlaw7_SpanLies.j4 kj26 x3_1 x4_3 false l0_0 l0_1 l0_2 ((rd_T30 l0_0 x3_1).f0) ((rd_T30 l0_0 x3_1).f1) ((rd_T30 l0_0 x4_3).f0) ((rd_T30 l0_0 x4_3).f1))) = some r := H
                    have A45 := Aside0.mk A450
                    clear A450
                    by_cases c46 : t173 = true
                    ·
                     subst c46
                     have H1 : ((almagestref7_Span.f ((rd_T30 l0_0 x4_3).f0) ((rd_T30 l0_0 x4_3).f1)).bind fun t174 => (almagestlaw7_SpanLies.j4 kj26 x3_1 x4_3 t174 l0_0 l0_1 l0_2 ((rd_T30 l0_0 x3_1).f0) ((rd_T30 l0_0 x3_1).f1) ((rd_T30 l0_0 x4_3).f0) ((rd_T30 l0_0 x4_3).f1))) = some r := by rw [if_pos rfl] at H; exact H
                     clear H
                     have H := H1
                     clear H1
                     replace H := Option.bind_eq_some_iff.mp H
                     obtain ⟨t174, A470, H⟩ := H
                     replace H : (almagestlaw7_SpanLies.j4 kj26 x3_1 x4_3 t174 l0_0 l0_1 l0_2 ((rd_T30 l0_0 x3_1).f0) ((rd_T30 l0_0 x3_1).f1) ((rd_T30 l0_0 x4_3).f0) ((rd_T30 l0_0 x4_3).f1)) = some r := H
                     have A47 := Aside0.mk A470
                     clear A470
                     have H' := Aside0.mk H
                     clear H
                     have hnb48 := NB171_161.out
                     have hnc48 := NB161_171.out
                     have hnb49 := NB171_172.out
                     have hnc49 := NB172_171.out
                     have hcz50_0 : w40.cell? ⟨gb171, 0, none⟩ = some (.int .i64 0) := (bc BK171.out 0).trans rfl
                     have hcz50_1 : w40.cell? ⟨gb171, 1, none⟩ = some (.int .i64 0) := (bc BK171.out 1).trans rfl
                     have hfz50_0 := bf BK171.out 0
                     have hfz50_1 := bf BK171.out 1
                     go_wp2_with (first | ((with_reducible refine gc (f := 27) rfl ?_); refine goesL_ (some 70) rfl rfl Try.func27 (by kernel_rfl) rfl #[.agg #[.int .i64 ((rd_T30 l0_0 x3_1).f0), .int .i64 ((rd_T30 l0_0 x3_1).f1)]] rfl (by (try simp only [List.map_toArray, List.map_cons, List.map_nil]); first | done | rfl | (simp only [List.length_drop, List.length_take]; rfl)) ?_; (with_reducible refine (almagestref7_Span.calls ((rd_T30 l0_0 x3_1).f0) ((rd_T30 l0_0 x3_1).f1) true _ A45.out).mono ?_); rintro e w51 ⟨rfl, hb⟩; refine ⟨_, rfl, ?_⟩; have n0_ := Aside0.mk (blk_below (g := gb161) (o := .cells #[.slice (some ad164) l0_0.length c0_0, .slice A0_1 l0_1.length c0_1, .slice A0_2 l0_2.length c0_2] 26 (0, 0)) (by (with_reducible repeat (first | refine bN ?_ _ | refine bD ?_ | refine bA ?_ _)); refine blk_far ?_ NB161_172.out _; (with_reducible repeat (first | refine bN ?_ _ | refine bD ?_ | refine bA ?_ _)); refine blk_far ?_ NB161_172.out _; (with_reducible repeat (first | refine bN ?_ _ | refine bD ?_ | refine bA ?_ _)); refine blk_far ?_ NB161_171.out _; (with_reducible repeat (first | refine bN ?_ _ | refine bD ?_ | refine bA ?_ _)); refine blk_far ?_ NB161_171.out _; (with_reducible repeat (first | refine bN ?_ _ | refine bD ?_ | refine bA ?_ _)); exact BK161.out) hb); have n1_ := Aside0.mk (blk_below (g := gb171) (o := .cells #[.int .i64 ((rd_T30 l0_0 x3_1).f0), .int .i64 ((rd_T30 l0_0 x3_1).f1)] 30 (0, 0)) (by (with_reducible repeat (first | refine bN ?_ _ | refine bD ?_ | refine bA ?_ _)); refine blk_far ?_ NB171_172.out _; (with_reducible repeat (first | refine bN ?_ _ | refine bD ?_ | refine bA ?_ _)); refine blk_far ?_ NB171_172.out _; (with_reducible repeat (first | refine bN ?_ _ | refine bD ?_ | refine bA ?_ _)); refine blk_put (cs := #[.int .i64 ((rd_T30 l0_0 x3_1).f0), .int .i64 0]) ?_ 1 _ rfl; (with_reducible repeat (first | refine bN ?_ _ | refine bD ?_ | refine bA ?_ _)); refine blk_put (cs := #[.int .i64 0, .int .i64 0]) ?_ 0 _ rfl; (with_reducible repeat (first | refine bN ?_ _ | refine bD ?_ | refine bA ?_ _)); exact BK171.out) hb); have n2_ := Aside0.mk (blk_below (g := gb172) (o := .cells #[.int .i64 ((rd_T30 l0_0 x4_3).f0), .int .i64 ((rd_T30 l0_0 x4_3).f1)] 30 (0, 0)) (by (with_reducible repeat (first | refine bN ?_ _ | refine bD ?_ | refine bA ?_ _)); refine blk_put (cs := #[.int .i64 ((rd_T30 l0_0 x4_3).f0), .int .i64 0]) ?_ 1 _ rfl; (with_reducible repeat (first | refine bN ?_ _ | refine bD ?_ | refine bA ?_ _)); refine blk_put (cs := #[.int .i64 0, .int .i64 0]) ?_ 0 _ rfl; (with_reducible repeat (first | refine bN ?_ _ | refine bD ?_ | refine bA ?_ _)); refine blk_far ?_ NB172_171.out _; (with_reducible repeat (first | refine bN ?_ _ | refine bD ?_ | refine bA ?_ _)); refine blk_far ?_ NB172_171.out _; (with_reducible repeat (first | refine bN ?_ _ | refine bD ?_ | refine bA ?_ _)); exact BK172.out) hb); have n3_ := Aside0.mk (below_step (by repeat (first | (with_reducible first | exact HB.out | apply pA | apply pN | apply pD | refine below_set ?_ GE161.out | refine below_set ?_ GE171.out | refine below_set ?_ GE172.out) | exact HB.out)) hb); clear BK161; clear BK171; clear BK172; clear HB; have BK161 := n0_; have BK171 := n1_; have BK172 := n2_; have HB := n3_; clear n0_ n1_ n2_ n3_; (try clear hb); (try clear hb2); (try clear hk); (try clear hi); have hnb52 := NB172_161.out; have hnc52 := NB161_172.out; have hcz53_0 : w51.cell? ⟨gb172, 0, none⟩ = some (.int .i64 ((rd_T30 l0_0 x4_3).f0)) := (bc BK172.out 0).trans rfl; have hcz53_1 : w51.cell? ⟨gb172, 1, none⟩ = some (.int .i64 ((rd_T30 l0_0 x4_3).f1)) := (bc BK172.out 1).trans rfl; have hfz53_0 := bf BK172.out 0; have hfz53_1 := bf BK172.out 1) | (go_at_call 27; (with_reducible refine (almagestref7_Span.calls ((rd_T30 l0_0 x4_3).f0) ((rd_T30 l0_0 x4_3).f1) t174 _ A47.out).mono ?_); rintro e w54 ⟨rfl, hb⟩; have n0_ := Aside0.mk (blk_below (g := gb161) (o := .cells #[.slice (some ad164) l0_0.length c0_0, .slice A0_1 l0_1.length c0_1, .slice A0_2 l0_2.length c0_2] 26 (0, 0)) (by (with_reducible repeat (first | refine bN ?_ _ | refine bD ?_ | refine bA ?_ _)); exact BK161.out) hb); have n1_ := Aside0.mk (blk_below (g := gb171) (o := .cells #[.int .i64 ((rd_T30 l0_0 x3_1).f0), .int .i64 ((rd_T30 l0_0 x3_1).f1)] 30 (0, 0)) (by (with_reducible repeat (first | refine bN ?_ _ | refine bD ?_ | refine bA ?_ _)); exact BK171.out) hb); have n2_ := Aside0.mk (blk_below (g := gb172) (o := .cells #[.int .i64 ((rd_T30 l0_0 x4_3).f0), .int .i64 ((rd_T30 l0_0 x4_3).f1)] 30 (0, 0)) (by (with_reducible repeat (first | refine bN ?_ _ | refine bD ?_ | refine bA ?_ _)); exact BK172.out) hb); have n3_ := Aside0.mk (below_step (by repeat (first | (with_reducible first | exact HB.out | apply pA | apply pN | apply pD | refine below_set ?_ GE161.out | refine below_set ?_ GE171.out | refine below_set ?_ GE172.out) | exact HB.out)) hb); clear BK161; clear BK171; clear BK172; clear HB; have BK161 := n0_; have BK171 := n1_; have BK172 := n2_; have HB := n3_; clear n0_ n1_ n2_ n3_; (try clear hb); (try clear hb2); (try clear hk); (try clear hi)))
                     go_meet
                     case rel => exact ⟨_, (t174), (by first | rfl | (simp; done) | (simp [*]; done)), H', ⟨by have := HK1.out; have := HJ9.out; have := HK3.out; have := HJ26.out; first | omega | exact Nat.le_refl _⟩, ⟨by (with_reducible repeat (first | refine bN ?_ _ | refine bD ?_ | refine bA ?_ _)); exact BK161.out⟩, ⟨by (with_reducible repeat (first | refine bN ?_ _ | refine bD ?_ | refine bA ?_ _)); exact BK171.out⟩, ⟨by (with_reducible repeat (first | refine bN ?_ _ | refine bD ?_ | refine bA ?_ _)); exact BK172.out⟩, ⟨by repeat (first | (with_reducible first | exact HB.out | apply pA | apply pN | apply pD | refine below_set ?_ GE161.out | refine below_set ?_ GE171.out | refine below_set ?_ GE172.out) | exact HB.out)⟩⟩
                    ·
                     replace c46 := Bool.eq_false_iff.mpr c46
                     subst c46
                     have H1 : (almagestlaw7_SpanLies.j4 kj26 x3_1 x4_3 false l0_0 l0_1 l0_2 ((rd_T30 l0_0 x3_1).f0) ((rd_T30 l0_0 x3_1).f1) ((rd_T30 l0_0 x4_3).f0) ((rd_T30 l0_0 x4_3).f1)) = some r := by rw [if_neg (show ¬ (false = true) by decide)] at H; exact H
                     clear H
                     have H := H1
                     clear H1
                     have H' := Aside0.mk H
                     clear H
                     have hnb55 := NB171_161.out
                     have hnc55 := NB161_171.out
                     have hnb56 := NB171_172.out
                     have hnc56 := NB172_171.out
                     have hcz57_0 : w40.cell? ⟨gb171, 0, none⟩ = some (.int .i64 0) := (bc BK171.out 0).trans rfl
                     have hcz57_1 : w40.cell? ⟨gb171, 1, none⟩ = some (.int .i64 0) := (bc BK171.out 1).trans rfl
                     have hfz57_0 := bf BK171.out 0
                     have hfz57_1 := bf BK171.out 1
                     go_wp2_with (first | ((with_reducible refine gc (f := 27) rfl ?_); refine goesL_ (some 70) rfl rfl Try.func27 (by kernel_rfl) rfl #[.agg #[.int .i64 ((rd_T30 l0_0 x3_1).f0), .int .i64 ((rd_T30 l0_0 x3_1).f1)]] rfl (by (try simp only [List.map_toArray, List.map_cons, List.map_nil]); first | done | rfl | (simp only [List.length_drop, List.length_take]; rfl)) ?_; (with_reducible refine (almagestref7_Span.calls ((rd_T30 l0_0 x3_1).f0) ((rd_T30 l0_0 x3_1).f1) false _ A45.out).mono ?_); rintro e w58 ⟨rfl, hb⟩; refine ⟨_, rfl, ?_⟩; have n0_ := Aside0.mk (blk_below (g := gb161) (o := .cells #[.slice (some ad164) l0_0.length c0_0, .slice A0_1 l0_1.length c0_1, .slice A0_2 l0_2.length c0_2] 26 (0, 0)) (by (with_reducible repeat (first | refine bN ?_ _ | refine bD ?_ | refine bA ?_ _)); refine blk_far ?_ NB161_172.out _; (with_reducible repeat (first | refine bN ?_ _ | refine bD ?_ | refine bA ?_ _)); refine blk_far ?_ NB161_172.out _; (with_reducible repeat (first | refine bN ?_ _ | refine bD ?_ | refine bA ?_ _)); refine blk_far ?_ NB161_171.out _; (with_reducible repeat (first | refine bN ?_ _ | refine bD ?_ | refine bA ?_ _)); refine blk_far ?_ NB161_171.out _; (with_reducible repeat (first | refine bN ?_ _ | refine bD ?_ | refine bA ?_ _)); exact BK161.out) hb); have n1_ := Aside0.mk (blk_below (g := gb171) (o := .cells #[.int .i64 ((rd_T30 l0_0 x3_1).f0), .int .i64 ((rd_T30 l0_0 x3_1).f1)] 30 (0, 0)) (by (with_reducible repeat (first | refine bN ?_ _ | refine bD ?_ | refine bA ?_ _)); refine blk_far ?_ NB171_172.out _; (with_reducible repeat (first | refine bN ?_ _ | refine bD ?_ | refine bA ?_ _)); refine blk_far ?_ NB171_172.out _; (with_reducible repeat (first | refine bN ?_ _ | refine bD ?_ | refine bA ?_ _)); refine blk_put (cs := #[.int .i64 ((rd_T30 l0_0 x3_1).f0), .int .i64 0]) ?_ 1 _ rfl; (with_reducible repeat (first | refine bN ?_ _ | refine bD ?_ | refine bA ?_ _)); refine blk_put (cs := #[.int .i64 0, .int .i64 0]) ?_ 0 _ rfl; (with_reducible repeat (first | refine bN ?_ _ | refine bD ?_ | refine bA ?_ _)); exact BK171.out) hb); have n2_ := Aside0.mk (blk_below (g := gb172) (o := .cells #[.int .i64 ((rd_T30 l0_0 x4_3).f0), .int .i64 ((rd_T30 l0_0 x4_3).f1)] 30 (0, 0)) (by (with_reducible repeat (first | refine bN ?_ _ | refine bD ?_ | refine bA ?_ _)); refine blk_put (cs := #[.int .i64 ((rd_T30 l0_0 x4_3).f0), .int .i64 0]) ?_ 1 _ rfl; (with_reducible repeat (first | refine bN ?_ _ | refine bD ?_ | refine bA ?_ _)); refine blk_put (cs := #[.int .i64 0, .int .i64 0]) ?_ 0 _ rfl; (with_reducible repeat (first | refine bN ?_ _ | refine bD ?_ | refine bA ?_ _)); refine blk_far ?_ NB172_171.out _; (with_reducible repeat (first | refine bN ?_ _ | refine bD ?_ | refine bA ?_ _)); refine blk_far ?_ NB172_171.out _; (with_reducible repeat (first | refine bN ?_ _ | refine bD ?_ | refine bA ?_ _)); exact BK172.out) hb); have n3_ := Aside0.mk (below_step (by repeat (first | (with_reducible first | exact HB.out | apply pA | apply pN | apply pD | refine below_set ?_ GE161.out | refine below_set ?_ GE171.out | refine below_set ?_ GE172.out) | exact HB.out)) hb); clear BK161; clear BK171; clear BK172; clear HB; have BK161 := n0_; have BK171 := n1_; have BK172 := n2_; have HB := n3_; clear n0_ n1_ n2_ n3_; (try clear hb); (try clear hb2); (try clear hk); (try clear hi)))
                     go_meet
                     case rel => exact ⟨_, (false), (by first | rfl | (simp; done) | (simp [*]; done)), H', ⟨by have := HK1.out; have := HJ9.out; have := HK3.out; have := HJ26.out; first | omega | exact Nat.le_refl _⟩, ⟨by (with_reducible repeat (first | refine bN ?_ _ | refine bD ?_ | refine bA ?_ _)); exact BK161.out⟩, ⟨by (with_reducible repeat (first | refine bN ?_ _ | refine bD ?_ | refine bA ?_ _)); exact BK171.out⟩, ⟨by (with_reducible repeat (first | refine bN ?_ _ | refine bD ?_ | refine bA ?_ _)); exact BK172.out⟩, ⟨by repeat (first | (with_reducible first | exact HB.out | apply pA | apply pN | apply pD | refine below_set ?_ GE161.out | refine below_set ?_ GE171.out | refine below_set ?_ GE172.out) | exact HB.out)⟩⟩
                   case rest =>
                    clear HC36
                    try clear c1
                    try clear p1
                    try clear q1
                    try clear hx1
                    try clear c2
                    try clear p2
                    try clear c3
                    try clear c4
                    try clear c5
                    try clear c11
                    try clear c11b0
                    try clear c14
                    try clear c15
                    try clear c15b0
                    try clear c16
                    try clear c16b0
                    try clear p16
                    try clear q16
                    try clear hx16
                    try clear c17
                    try clear p17
                    try clear q17
                    try clear hx17
                    try clear c19
                    try clear c20
                    try clear c20b0
                    try clear c20b1
                    try clear c20b2
                    try clear c22
                    try clear c26
                    try clear c27
                    try clear c28
                    try clear c28b0
                    try clear c31
                    try clear c32
                    try clear c32b0
                    try clear c33
                    try clear c33b0
                    try clear c34
                    try clear c34b0
                    try clear c35
                    try clear c35b0
                    try clear c46
                    try clear c48
                    try clear c49
                    try clear c52
                    try clear c55
                    try clear c56
                    try clear hcz12_0
                    try clear hcz12_1
                    try clear hcz12_2
                    try clear hcz13_0
                    try clear hcz13_1
                    try clear hcz13_2
                    try clear hcz29_0
                    try clear hcz29_1
                    try clear hcz29_2
                    try clear hcz30_0
                    try clear hcz30_1
                    try clear hcz30_2
                    try clear hcz50_0
                    try clear hcz50_1
                    try clear hcz53_0
                    try clear hcz53_1
                    try clear hcz57_0
                    try clear hcz57_1
                    try clear hcz5_0
                    try clear hcz5_1
                    try clear hcz5_2
                    try clear hcz8_0
                    try clear hcz8_1
                    try clear hcz8_2
                    try clear hfz12_0
                    try clear hfz12_1
                    try clear hfz12_2
                    try clear hfz13_0
                    try clear hfz13_1
                    try clear hfz13_2
                    try clear hfz29_0
                    try clear hfz29_1
                    try clear hfz29_2
                    try clear hfz30_0
                    try clear hfz30_1
                    try clear hfz30_2
                    try clear hfz50_0
                    try clear hfz50_1
                    try clear hfz53_0
                    try clear hfz53_1
                    try clear hfz57_0
                    try clear hfz57_1
                    try clear hfz5_0
                    try clear hfz5_1
                    try clear hfz5_2
                    try clear hfz8_0
                    try clear hfz8_1
                    try clear hfz8_2
                    try clear hx164_0
                    try clear hx164_1
                    try clear hx167_0
                    try clear hx167_1
                    try clear hx169_0
                    try clear hx169_1
                    try clear hx170_0
                    try clear hx170_1
                    try clear p1
                    try clear p16
                    try clear p164
                    try clear p167
                    try clear p169
                    try clear p170
                    try clear p2
                    try clear q1
                    try clear q16
                    try clear q164
                    try clear q167
                    try clear q169
                    try clear q170
                    obtain ⟨kq, x7_35, rfl, HA, HJ35, BK161, BK171, BK172, HB⟩ := hcut
                    cases kq with
                    | zero => exact absurd HA.out (by simp [almagestlaw7_SpanLies.j4])
                    | succ kj35 =>
                     have H := HA.out
                     clear HA
                     simp only [almagestlaw7_SpanLies.j4] at H
                     have H' := Aside0.mk H
                     clear H
                     go_wp2
                     go_loopg [8] kj35 (fun kq v8 w' => ∃ (x8_6 : Int), v8 = .int .i64 x8_6 ∧ Aside0 (almagestlaw7_SpanLies.l2 kq x3_1 x4_3 x7_35 x8_6 l0_0 l0_1 l0_2 ((rd_T30 l0_0 x3_1).f0) ((rd_T30 l0_0 x3_1).f1) ((rd_T30 l0_0 x4_3).f0) ((rd_T30 l0_0 x4_3).f1) = some r) ∧ Aside0 (kq ≤ kj35) ∧ Aside0 (w'.heap[gb161]? = some (.cells #[(.slice (some ad164) l0_0.length c0_0), (.slice A0_1 l0_1.length c0_1), (.slice A0_2 l0_2.length c0_2)] 26 (0, 0))) ∧ Aside0 (w'.heap[gb171]? = some (.cells #[.int .i64 ((rd_T30 l0_0 x3_1).f0), .int .i64 ((rd_T30 l0_0 x3_1).f1)] 30 (0, 0))) ∧ Aside0 (w'.heap[gb172]? = some (.cells #[.int .i64 ((rd_T30 l0_0 x4_3).f0), .int .i64 ((rd_T30 l0_0 x4_3).f1)] 30 (0, 0))) ∧ Aside0 (Below w.heap.size w w'))
                     case atStart => exact ⟨((-1)), (by first | rfl | (simp; done) | (simp [*]; done)), H', ⟨Nat.le_refl _⟩, ⟨by (with_reducible repeat (first | refine bN ?_ _ | refine bD ?_ | refine bA ?_ _)); exact BK161.out⟩, ⟨by (with_reducible repeat (first | refine bN ?_ _ | refine bD ?_ | refine bA ?_ _)); exact BK171.out⟩, ⟨by (with_reducible repeat (first | refine bN ?_ _ | refine bD ?_ | refine bA ?_ _)); exact BK172.out⟩, ⟨by repeat (first | (with_reducible first | exact HB.out | apply pA | apply pN | apply pD | refine below_set ?_ GE161.out | refine below_set ?_ GE171.out | refine below_set ?_ GE172.out) | exact HB.out)⟩⟩
                     case round =>
                      clear H'
                      try clear c1
                      try clear p1
                      try clear q1
                      try clear hx1
                      try clear c2
                      try clear p2
                      try clear c3
                      try clear c4
                      try clear c5
                      try clear c11
                      try clear c11b0
                      try clear c14
                      try clear c15
                      try clear c15b0
                      try clear c16
                      try clear c16b0
                      try clear p16
                      try clear q16
                      try clear hx16
                      try clear c17
                      try clear p17
                      try clear q17
                      try clear hx17
                      try clear c19
                      try clear c20
                      try clear c20b0
                      try clear c20b1
                      try clear c20b2
                      try clear c22
                      try clear c26
                      try clear c27
                      try clear c28
                      try clear c28b0
                      try clear c31
                      try clear c32
                      try clear c32b0
                      try clear c33
                      try clear c33b0
                      try clear c34
                      try clear c34b0
                      try clear c35
                      try clear c35b0
                      try clear c46
                      try clear c48
                      try clear c49
                      try clear c52
                      try clear c55
                      try clear c56
                      try clear hcz12_0
                      try clear hcz12_1
                      try clear hcz12_2
                      try clear hcz13_0
                      try clear hcz13_1
                      try clear hcz13_2
                      try clear hcz29_0
                      try clear hcz29_1
                      try clear hcz29_2
                      try clear hcz30_0
                      try clear hcz30_1
                      try clear hcz30_2
                      try clear hcz50_0
                      try clear hcz50_1
                      try clear hcz53_0
                      try clear hcz53_1
                      try clear hcz57_0
                      try clear hcz57_1
                      try clear hcz5_0
                      try clear hcz5_1
                      try clear hcz5_2
                      try clear hcz8_0
                      try clear hcz8_1
                      try clear hcz8_2
                      try clear hfz12_0
                      try clear hfz12_1
                      try clear hfz12_2
                      try clear hfz13_0
                      try clear hfz13_1
                      try clear hfz13_2
                      try clear hfz29_0
                      try clear hfz29_1
                      try clear hfz29_2
                      try clear hfz30_0
                      try clear hfz30_1
                      try clear hfz30_2
                      try clear hfz50_0
                      try clear hfz50_1
                      try clear hfz53_0
                      try clear hfz53_1
                      try clear hfz57_0
                      try clear hfz57_1
                      try clear hfz5_0
                      try clear hfz5_1
                      try clear hfz5_2
                      try clear hfz8_0
                      try clear hfz8_1
                      try clear hfz8_2
                      try clear hx164_0
                      try clear hx164_1
                      try clear hx167_0
                      try clear hx167_1
                      try clear hx169_0
                      try clear hx169_1
                      try clear hx170_0
                      try clear hx170_1
                      try clear p1
                      try clear p16
                      try clear p164
                      try clear p167
                      try clear p169
                      try clear p17
                      try clear p170
                      try clear p2
                      try clear q1
                      try clear q16
                      try clear q164
                      try clear q167
                      try clear q169
                      try clear q17
                      try clear q170
                      obtain ⟨x8_6, rfl, HA, HK6, BK161, BK171, BK172, HB⟩ := hrel
                      cases gk with
                      | zero => exact absurd HA.out (by simp [almagestlaw7_SpanLies.l2])
                      | succ k6 =>
                       have H := HA.out
                       clear HA
                       simp only [almagestlaw7_SpanLies.l2] at H
                       by_cases c59 : x8_6 ≤ 15
                       ·
                        rw [if_pos c59] at H
                        have c59b0 : decide (x8_6 ≤ 15) = true := decide_eq_true c59
                        clear c59
                        replace H := Option.bind_eq_some_iff.mp H
                        obtain ⟨⟨t175, t176⟩, A600, H⟩ := H
                        replace H : (if x7_35 = true then ((almagestref7_Rel.f x8_6).bind fun t177 => (almagestlaw7_SpanLies.j6 k6 x3_1 x4_3 x7_35 x8_6 t175 t176 1 false t177 l0_0 l0_1 l0_2 ((rd_T30 l0_0 x3_1).f0) ((rd_T30 l0_0 x3_1).f1) ((rd_T30 l0_0 x4_3).f0) ((rd_T30 l0_0 x4_3).f1))) else (almagestlaw7_SpanLies.j6 k6 x3_1 x4_3 x7_35 x8_6 t175 t176 1 false false l0_0 l0_1 l0_2 ((rd_T30 l0_0 x3_1).f0) ((rd_T30 l0_0 x3_1).f1) ((rd_T30 l0_0 x4_3).f0) ((rd_T30 l0_0 x4_3).f1))) = some r := H
                        have A60 := Aside0.mk A600
                        clear A600
                        have HC61 := Aside0.mk H
                        clear H
                        have hnb62 := NB171_161.out
                        have hnc62 := NB161_171.out
                        have hnb63 := NB171_172.out
                        have hnc63 := NB172_171.out
                        have hcz64_0 : wr.cell? ⟨gb171, 0, none⟩ = some (.int .i64 ((rd_T30 l0_0 x3_1).f0)) := (bc BK171.out 0).trans rfl
                        have hcz64_1 : wr.cell? ⟨gb171, 1, none⟩ = some (.int .i64 ((rd_T30 l0_0 x3_1).f1)) := (bc BK171.out 1).trans rfl
                        have hfz64_0 := bf BK171.out 0
                        have hfz64_1 := bf BK171.out 1
                        have hnb65 := NB172_161.out
                        have hnc65 := NB161_172.out
                        have hcz66_0 : wr.cell? ⟨gb172, 0, none⟩ = some (.int .i64 ((rd_T30 l0_0 x4_3).f0)) := (bc BK172.out 0).trans rfl
                        have hcz66_1 : wr.cell? ⟨gb172, 1, none⟩ = some (.int .i64 ((rd_T30 l0_0 x4_3).f1)) := (bc BK172.out 1).trans rfl
                        have hfz66_0 := bf BK172.out 0
                        have hfz66_1 := bf BK172.out 1
                        go_upto_region 18 with (first | ((with_reducible refine gc (f := 28) rfl ?_); refine goesL_ (some 83) rfl rfl Try.func28 (by kernel_rfl) rfl #[.int .i64 x8_6, .agg #[.int .i64 ((rd_T30 l0_0 x3_1).f0), .int .i64 ((rd_T30 l0_0 x3_1).f1)], .agg #[.int .i64 ((rd_T30 l0_0 x4_3).f0), .int .i64 ((rd_T30 l0_0 x4_3).f1)]] rfl (by (try simp only [List.map_toArray, List.map_cons, List.map_nil]); first | done | rfl | (simp only [List.length_drop, List.length_take]; rfl)) ?_; (with_reducible refine (span_Is.calls k6 x8_6 ((rd_T30 l0_0 x3_1).f0) ((rd_T30 l0_0 x3_1).f1) ((rd_T30 l0_0 x4_3).f0) ((rd_T30 l0_0 x4_3).f1) t175 t176 _ A60.out).mono ?_); rintro e w67 ⟨rfl, hb⟩; refine ⟨_, rfl, ?_⟩; have n0_ := Aside0.mk (blk_below (g := gb161) (o := .cells #[.slice (some ad164) l0_0.length c0_0, .slice A0_1 l0_1.length c0_1, .slice A0_2 l0_2.length c0_2] 26 (0, 0)) (by (with_reducible repeat (first | refine bN ?_ _ | refine bD ?_ | refine bA ?_ _)); exact BK161.out) hb); have n1_ := Aside0.mk (blk_below (g := gb171) (o := .cells #[.int .i64 ((rd_T30 l0_0 x3_1).f0), .int .i64 ((rd_T30 l0_0 x3_1).f1)] 30 (0, 0)) (by (with_reducible repeat (first | refine bN ?_ _ | refine bD ?_ | refine bA ?_ _)); exact BK171.out) hb); have n2_ := Aside0.mk (blk_below (g := gb172) (o := .cells #[.int .i64 ((rd_T30 l0_0 x4_3).f0), .int .i64 ((rd_T30 l0_0 x4_3).f1)] 30 (0, 0)) (by (with_reducible repeat (first | refine bN ?_ _ | refine bD ?_ | refine bA ?_ _)); exact BK172.out) hb); have n3_ := Aside0.mk (below_step (by repeat (first | (with_reducible first | exact HB.out | apply pA | apply pN | apply pD | refine below_set ?_ GE161.out | refine below_set ?_ GE171.out | refine below_set ?_ GE172.out) | exact HB.out)) hb); clear BK161; clear BK171; clear BK172; clear HB; have BK161 := n0_; have BK171 := n1_; have BK172 := n2_; have HB := n3_; clear n0_ n1_ n2_ n3_; (try clear hb); (try clear hb2); (try clear hk); (try clear hi)))
                        (try simp only [Act.put, List.setIfInBounds_toArray, List.set_cons_zero, List.set_cons_succ])
                        go_cut [90] (fun v90 wc => ∃ (kq : Nat) (x90_60 : Bool), v90 = .bool x90_60 ∧ Aside0 (almagestlaw7_SpanLies.j6 kq x3_1 x4_3 x7_35 x8_6 t175 t176 1 false x90_60 l0_0 l0_1 l0_2 ((rd_T30 l0_0 x3_1).f0) ((rd_T30 l0_0 x3_1).f1) ((rd_T30 l0_0 x4_3).f0) ((rd_T30 l0_0 x4_3).f1) = some r) ∧ Aside0 (kq ≤ k6) ∧ Aside0 (wc.heap[gb161]? = some (.cells #[(.slice (some ad164) l0_0.length c0_0), (.slice A0_1 l0_1.length c0_1), (.slice A0_2 l0_2.length c0_2)] 26 (0, 0))) ∧ Aside0 (wc.heap[gb171]? = some (.cells #[.int .i64 ((rd_T30 l0_0 x3_1).f0), .int .i64 ((rd_T30 l0_0 x3_1).f1)] 30 (0, 0))) ∧ Aside0 (wc.heap[gb172]? = some (.cells #[.int .i64 ((rd_T30 l0_0 x4_3).f0), .int .i64 ((rd_T30 l0_0 x4_3).f1)] 30 (0, 0))) ∧ Aside0 (Below w.heap.size w wc))
                        case first =>
                         have H := HC61.out
                         clear HC61
                         by_cases c68 : x7_35 = true
                         ·
                          subst c68
                          have H1 : ((almagestref7_Rel.f x8_6).bind fun t177 => (almagestlaw7_SpanLies.j6 k6 x3_1 x4_3 true x8_6 t175 t176 1 false t177 l0_0 l0_1 l0_2 ((rd_T30 l0_0 x3_1).f0) ((rd_T30 l0_0 x3_1).f1) ((rd_T30 l0_0 x4_3).f0) ((rd_T30 l0_0 x4_3).f1))) = some r := by rw [if_pos rfl] at H; exact H
                          clear H
                          have H := H1
                          clear H1
                          replace H := Option.bind_eq_some_iff.mp H
                          obtain ⟨t177, A690, H⟩ := H
                          replace H : (almagestlaw7_SpanLies.j6 k6 x3_1 x4_3 true x8_6 t175 t176 1 false t177 l0_0 l0_1 l0_2 ((rd_T30 l0_0 x3_1).f0) ((rd_T30 l0_0 x3_1).f1) ((rd_T30 l0_0 x4_3).f0) ((rd_T30 l0_0 x4_3).f1)) = some r := H
                          have A69 := Aside0.mk A690
                          clear A690
                          have H' := Aside0.mk H
                          clear H
                          go_wp2_with (first | (go_at_call 29; (with_reducible refine (almagestref7_Rel.calls x8_6 t177 _ A69.out).mono ?_); rintro e w' ⟨rfl, ⟨nd, rfl⟩⟩))
                          go_meet
                          case rel => exact ⟨_, (t177), (by first | rfl | (simp; done) | (simp [*]; done)), H', ⟨by have := HK1.out; have := HJ9.out; have := HK3.out; have := HJ26.out; have := HJ35.out; have := HK6.out; first | omega | exact Nat.le_refl _⟩, ⟨by (with_reducible repeat (first | refine bN ?_ _ | refine bD ?_ | refine bA ?_ _)); exact BK161.out⟩, ⟨by (with_reducible repeat (first | refine bN ?_ _ | refine bD ?_ | refine bA ?_ _)); exact BK171.out⟩, ⟨by (with_reducible repeat (first | refine bN ?_ _ | refine bD ?_ | refine bA ?_ _)); exact BK172.out⟩, ⟨by repeat (first | (with_reducible first | exact HB.out | apply pA | apply pN | apply pD | refine below_set ?_ GE161.out | refine below_set ?_ GE171.out | refine below_set ?_ GE172.out) | exact HB.out)⟩⟩
                         ·
                          replace c68 := Bool.eq_false_iff.mpr c68
                          subst c68
                          have H1 : (almagestlaw7_SpanLies.j6 k6 x3_1 x4_3 false x8_6 t175 t176 1 false false l0_0 l0_1 l0_2 ((rd_T30 l0_0 x3_1).f0) ((rd_T30 l0_0 x3_1).f1) ((rd_T30 l0_0 x4_3).f0) ((rd_T30 l0_0 x4_3).f1)) = some r := by rw [if_neg (show ¬ (false = true) by decide)] at H; exact H
                          clear H
                          have H := H1
                          clear H1
                          have H' := Aside0.mk H
                          clear H
                          go_wp2
                          go_meet
                          case rel => exact ⟨_, (false), (by first | rfl | (simp; done) | (simp [*]; done)), H', ⟨by have := HK1.out; have := HJ9.out; have := HK3.out; have := HJ26.out; have := HJ35.out; have := HK6.out; first | omega | exact Nat.le_refl _⟩, ⟨by (with_reducible repeat (first | refine bN ?_ _ | refine bD ?_ | refine bA ?_ _)); exact BK161.out⟩, ⟨by (with_reducible repeat (first | refine bN ?_ _ | refine bD ?_ | refine bA ?_ _)); exact BK171.out⟩, ⟨by (with_reducible repeat (first | refine bN ?_ _ | refine bD ?_ | refine bA ?_ _)); exact BK172.out⟩, ⟨by repeat (first | (with_reducible first | exact HB.out | apply pA | apply pN | apply pD | refine below_set ?_ GE161.out | refine below_set ?_ GE171.out | refine below_set ?_ GE172.out) | exact HB.out)⟩⟩
                        case rest =>
                         clear HC61
                         try clear c1
                         try clear p1
                         try clear q1
                         try clear hx1
                         try clear c2
                         try clear p2
                         try clear c3
                         try clear c4
                         try clear c5
                         try clear c6
                         try clear c11
                         try clear c11b0
                         try clear c14
                         try clear c15
                         try clear c15b0
                         try clear c16
                         try clear c16b0
                         try clear p16
                         try clear q16
                         try clear hx16
                         try clear c17
                         try clear p17
                         try clear q17
                         try clear hx17
                         try clear c19
                         try clear c20
                         try clear c20b0
                         try clear c20b1
                         try clear c20b2
                         try clear c22
                         try clear c26
                         try clear c27
                         try clear c28
                         try clear c28b0
                         try clear c31
                         try clear c32
                         try clear c32b0
                         try clear c33
                         try clear c33b0
                         try clear c34
                         try clear c34b0
                         try clear c35
                         try clear c35b0
                         try clear c46
                         try clear c48
                         try clear c49
                         try clear c52
                         try clear c55
                         try clear c56
                         try clear c59
                         try clear c59b0
                         try clear c62
                         try clear c63
                         try clear c65
                         try clear c68
                         try clear hcz12_0
                         try clear hcz12_1
                         try clear hcz12_2
                         try clear hcz13_0
                         try clear hcz13_1
                         try clear hcz13_2
                         try clear hcz29_0
                         try clear hcz29_1
                         try clear hcz29_2
                         try clear hcz30_0
                         try clear hcz30_1
                         try clear hcz30_2
                         try clear hcz50_0
                         try clear hcz50_1
                         try clear hcz53_0
                         try clear hcz53_1
                         try clear hcz57_0
                         try clear hcz57_1
                         try clear hcz5_0
                         try clear hcz5_1
                         try clear hcz5_2
                         try clear hcz64_0
                         try clear hcz64_1
                         try clear hcz66_0
                         try clear hcz66_1
                         try clear hcz8_0
                         try clear hcz8_1
                         try clear hcz8_2
                         try clear hfz12_0
                         try clear hfz12_1
                         try clear hfz12_2
                         try clear hfz13_0
                         try clear hfz13_1
                         try clear hfz13_2
                         try clear hfz29_0
                         try clear hfz29_1
                         try clear hfz29_2
                         try clear hfz30_0
                         try clear hfz30_1
                         try clear hfz30_2
                         try clear hfz50_0
                         try clear hfz50_1
                         try clear hfz53_0
                         try clear hfz53_1
                         try clear hfz57_0
                         try clear hfz57_1
                         try clear hfz5_0
                         try clear hfz5_1
                         try clear hfz5_2
                         try clear hfz64_0
                         try clear hfz64_1
                         try clear hfz66_0
                         try clear hfz66_1
                         try clear hfz8_0
                         try clear hfz8_1
                         try clear hfz8_2
                         try clear hx164_0
                         try clear hx164_1
                         try clear hx167_0
                         try clear hx167_1
                         try clear hx169_0
                         try clear hx169_1
                         try clear hx170_0
                         try clear hx170_1
                         try clear p1
                         try clear p16
                         try clear p164
                         try clear p167
                         try clear p169
                         try clear p17
                         try clear p170
                         try clear p2
                         try clear q1
                         try clear q16
                         try clear q164
                         try clear q167
                         try clear q169
                         try clear q17
                         try clear q170
                         obtain ⟨kq, x90_60, rfl, HA, HJ60, BK161, BK171, BK172, HB⟩ := hcut
                         cases kq with
                         | zero => exact absurd HA.out (by simp [almagestlaw7_SpanLies.j6])
                         | succ kj60 =>
                          have H := HA.out
                          clear HA
                          simp only [almagestlaw7_SpanLies.j6] at H
                          by_cases c70 : x90_60 = true
                          ·
                           subst c70
                           have H1 : ((almagestref7_Is.f kj60 x8_6 ((rd_T30 l0_0 x3_1).f0) ((rd_T30 l0_0 x3_1).f1) ((rd_T30 l0_0 x4_3).f0) ((rd_T30 l0_0 x4_3).f1)).bind fun t178 => ((almagestlaw7_num.f t176).bind fun t179 => (if t179 = 0 then (if (t175 != t178) = true then (some false) else (almagestlaw7_SpanLies.l2 kj60 x3_1 x4_3 x7_35 (wrap64 (x8_6 + 1)) l0_0 l0_1 l0_2 ((rd_T30 l0_0 x3_1).f0) ((rd_T30 l0_0 x3_1).f1) ((rd_T30 l0_0 x4_3).f0) ((rd_T30 l0_0 x4_3).f1))) else (some false)))) = some r := by rw [if_pos rfl] at H; exact H
                           clear H
                           have H := H1
                           clear H1
                           replace H := Option.bind_eq_some_iff.mp H
                           obtain ⟨t178, A710, H⟩ := H
                           replace H : ((almagestlaw7_num.f t176).bind fun t179 => (if t179 = 0 then (if (t175 != t178) = true then (some false) else (almagestlaw7_SpanLies.l2 kj60 x3_1 x4_3 x7_35 (wrap64 (x8_6 + 1)) l0_0 l0_1 l0_2 ((rd_T30 l0_0 x3_1).f0) ((rd_T30 l0_0 x3_1).f1) ((rd_T30 l0_0 x4_3).f0) ((rd_T30 l0_0 x4_3).f1))) else (some false))) = some r := H
                           have A71 := Aside0.mk A710
                           clear A710
                           replace H := Option.bind_eq_some_iff.mp H
                           obtain ⟨t179, A720, H⟩ := H
                           replace H : (if t179 = 0 then (if (t175 != t178) = true then (some false) else (almagestlaw7_SpanLies.l2 kj60 x3_1 x4_3 x7_35 (wrap64 (x8_6 + 1)) l0_0 l0_1 l0_2 ((rd_T30 l0_0 x3_1).f0) ((rd_T30 l0_0 x3_1).f1) ((rd_T30 l0_0 x4_3).f0) ((rd_T30 l0_0 x4_3).f1))) else (some false)) = some r := H
                           have A72 := Aside0.mk A720
                           clear A720
                           by_cases c73 : t179 = 0
                           ·
                            rw [if_pos c73] at H
                            have c73b0 : (t179 == 0) = true := beq_iff_eq.mpr c73
                            have c73b1 : (t179 != 0) = false := bne_eq_false_iff_eq.mpr c73
                            clear c73
                            by_cases c74 : (t175 != t178) = true
                            ·
                             rw [if_pos c74] at H
                             have c74b0 : (t175 != t178) = true := c74
                             (try (have c74b1 : decide (t175 = t178) = false := by simpa using c74))
                             (try (have c74b2 : (t175 == t178) = false := by simpa using c74))
                             (try (have c74b3 : ¬ (t175 = t178) := by simpa using c74))
                             clear c74
                             obtain rfl := Option.some.inj H
                             have hnb75 := NB171_161.out
                             have hnc75 := NB161_171.out
                             have hnb76 := NB171_172.out
                             have hnc76 := NB172_171.out
                             have hcz77_0 : wc.cell? ⟨gb171, 0, none⟩ = some (.int .i64 ((rd_T30 l0_0 x3_1).f0)) := (bc BK171.out 0).trans rfl
                             have hcz77_1 : wc.cell? ⟨gb171, 1, none⟩ = some (.int .i64 ((rd_T30 l0_0 x3_1).f1)) := (bc BK171.out 1).trans rfl
                             have hfz77_0 := bf BK171.out 0
                             have hfz77_1 := bf BK171.out 1
                             have hnb78 := NB172_161.out
                             have hnc78 := NB161_172.out
                             have hcz79_0 : wc.cell? ⟨gb172, 0, none⟩ = some (.int .i64 ((rd_T30 l0_0 x4_3).f0)) := (bc BK172.out 0).trans rfl
                             have hcz79_1 : wc.cell? ⟨gb172, 1, none⟩ = some (.int .i64 ((rd_T30 l0_0 x4_3).f1)) := (bc BK172.out 1).trans rfl
                             have hfz79_0 := bf BK172.out 0
                             have hfz79_1 := bf BK172.out 1
                             go_wp2_with (first | ((with_reducible refine gc (f := 30) rfl ?_); refine goesL_ (some 94) rfl rfl Try.func30 (by kernel_rfl) rfl #[.int .i64 x8_6, .agg #[.int .i64 ((rd_T30 l0_0 x3_1).f0), .int .i64 ((rd_T30 l0_0 x3_1).f1)], .agg #[.int .i64 ((rd_T30 l0_0 x4_3).f0), .int .i64 ((rd_T30 l0_0 x4_3).f1)]] rfl (by (try simp only [List.map_toArray, List.map_cons, List.map_nil]); first | done | rfl | (simp only [List.length_drop, List.length_take]; rfl)) ?_; (with_reducible refine (almagestref7_Is.calls kj60 x8_6 ((rd_T30 l0_0 x3_1).f0) ((rd_T30 l0_0 x3_1).f1) ((rd_T30 l0_0 x4_3).f0) ((rd_T30 l0_0 x4_3).f1) t178 _ A71.out).mono ?_); rintro e w80 ⟨rfl, hb⟩; refine ⟨_, rfl, ?_⟩; have n0_ := Aside0.mk (blk_below (g := gb161) (o := .cells #[.slice (some ad164) l0_0.length c0_0, .slice A0_1 l0_1.length c0_1, .slice A0_2 l0_2.length c0_2] 26 (0, 0)) (by (with_reducible repeat (first | refine bN ?_ _ | refine bD ?_ | refine bA ?_ _)); exact BK161.out) hb); have n1_ := Aside0.mk (blk_below (g := gb171) (o := .cells #[.int .i64 ((rd_T30 l0_0 x3_1).f0), .int .i64 ((rd_T30 l0_0 x3_1).f1)] 30 (0, 0)) (by (with_reducible repeat (first | refine bN ?_ _ | refine bD ?_ | refine bA ?_ _)); exact BK171.out) hb); have n2_ := Aside0.mk (blk_below (g := gb172) (o := .cells #[.int .i64 ((rd_T30 l0_0 x4_3).f0), .int .i64 ((rd_T30 l0_0 x4_3).f1)] 30 (0, 0)) (by (with_reducible repeat (first | refine bN ?_ _ | refine bD ?_ | refine bA ?_ _)); exact BK172.out) hb); have n3_ := Aside0.mk (below_step (by repeat (first | (with_reducible first | exact HB.out | apply pA | apply pN | apply pD | refine below_set ?_ GE161.out | refine below_set ?_ GE171.out | refine below_set ?_ GE172.out) | exact HB.out)) hb); clear BK161; clear BK171; clear BK172; clear HB; have BK161 := n0_; have BK171 := n1_; have BK172 := n2_; have HB := n3_; clear n0_ n1_ n2_ n3_; (try clear hb); (try clear hb2); (try clear hk); (try clear hi)) | ((with_reducible refine gc (f := 22) rfl ?_); refine goesL_ (some 96) rfl rfl Try.func22 (by kernel_rfl) rfl #[.int .i64 t176] rfl (by (try simp only [List.map_toArray, List.map_cons, List.map_nil]); first | done | rfl | (simp only [List.length_drop, List.length_take]; rfl)) ?_; (with_reducible refine (almagestlaw7_num.calls t176 t179 _ A72.out).mono ?_); rintro e w' ⟨rfl, ⟨nd, rfl⟩⟩; refine ⟨_, rfl, ?_⟩))
                             go_ret
                             exact ⟨by first | rfl | (simp [errW_none, errW_some] <;> rfl) | (simp [*, errW_none, errW_some] <;> rfl), by repeat (first | (with_reducible first | exact HB.out | apply pA | apply pN | apply pD | refine below_set ?_ GE161.out | refine below_set ?_ GE171.out | refine below_set ?_ GE172.out) | exact HB.out)⟩
                            ·
                             rw [if_neg c74] at H
                             have c74b0 : (t175 != t178) = false := by simpa using c74
                             (try (have c74b1 : decide (t175 = t178) = true := by simpa using c74))
                             (try (have c74b2 : (t175 == t178) = true := by simpa using c74))
                             clear c74
                             have H' := Aside0.mk H
                             clear H
                             have hnb81 := NB171_161.out
                             have hnc81 := NB161_171.out
                             have hnb82 := NB171_172.out
                             have hnc82 := NB172_171.out
                             have hcz83_0 : wc.cell? ⟨gb171, 0, none⟩ = some (.int .i64 ((rd_T30 l0_0 x3_1).f0)) := (bc BK171.out 0).trans rfl
                             have hcz83_1 : wc.cell? ⟨gb171, 1, none⟩ = some (.int .i64 ((rd_T30 l0_0 x3_1).f1)) := (bc BK171.out 1).trans rfl
                             have hfz83_0 := bf BK171.out 0
                             have hfz83_1 := bf BK171.out 1
                             have hnb84 := NB172_161.out
                             have hnc84 := NB161_172.out
                             have hcz85_0 : wc.cell? ⟨gb172, 0, none⟩ = some (.int .i64 ((rd_T30 l0_0 x4_3).f0)) := (bc BK172.out 0).trans rfl
                             have hcz85_1 : wc.cell? ⟨gb172, 1, none⟩ = some (.int .i64 ((rd_T30 l0_0 x4_3).f1)) := (bc BK172.out 1).trans rfl
                             have hfz85_0 := bf BK172.out 0
                             have hfz85_1 := bf BK172.out 1
                             go_wp2_with (first | ((with_reducible refine gc (f := 30) rfl ?_); refine goesL_ (some 94) rfl rfl Try.func30 (by kernel_rfl) rfl #[.int .i64 x8_6, .agg #[.int .i64 ((rd_T30 l0_0 x3_1).f0), .int .i64 ((rd_T30 l0_0 x3_1).f1)], .agg #[.int .i64 ((rd_T30 l0_0 x4_3).f0), .int .i64 ((rd_T30 l0_0 x4_3).f1)]] rfl (by (try simp only [List.map_toArray, List.map_cons, List.map_nil]); first | done | rfl | (simp only [List.length_drop, List.length_take]; rfl)) ?_; (with_reducible refine (almagestref7_Is.calls kj60 x8_6 ((rd_T30 l0_0 x3_1).f0) ((rd_T30 l0_0 x3_1).f1) ((rd_T30 l0_0 x4_3).f0) ((rd_T30 l0_0 x4_3).f1) t178 _ A71.out).mono ?_); rintro e w86 ⟨rfl, hb⟩; refine ⟨_, rfl, ?_⟩; have n0_ := Aside0.mk (blk_below (g := gb161) (o := .cells #[.slice (some ad164) l0_0.length c0_0, .slice A0_1 l0_1.length c0_1, .slice A0_2 l0_2.length c0_2] 26 (0, 0)) (by (with_reducible repeat (first | refine bN ?_ _ | refine bD ?_ | refine bA ?_ _)); exact BK161.out) hb); have n1_ := Aside0.mk (blk_below (g := gb171) (o := .cells #[.int .i64 ((rd_T30 l0_0 x3_1).f0), .int .i64 ((rd_T30 l0_0 x3_1).f1)] 30 (0, 0)) (by (with_reducible repeat (first | refine bN ?_ _ | refine bD ?_ | refine bA ?_ _)); exact BK171.out) hb); have n2_ := Aside0.mk (blk_below (g := gb172) (o := .cells #[.int .i64 ((rd_T30 l0_0 x4_3).f0), .int .i64 ((rd_T30 l0_0 x4_3).f1)] 30 (0, 0)) (by (with_reducible repeat (first | refine bN ?_ _ | refine bD ?_ | refine bA ?_ _)); exact BK172.out) hb); have n3_ := Aside0.mk (below_step (by repeat (first | (with_reducible first | exact HB.out | apply pA | apply pN | apply pD | refine below_set ?_ GE161.out | refine below_set ?_ GE171.out | refine below_set ?_ GE172.out) | exact HB.out)) hb); clear BK161; clear BK171; clear BK172; clear HB; have BK161 := n0_; have BK171 := n1_; have BK172 := n2_; have HB := n3_; clear n0_ n1_ n2_ n3_; (try clear hb); (try clear hb2); (try clear hk); (try clear hi)) | ((with_reducible refine gc (f := 22) rfl ?_); refine goesL_ (some 96) rfl rfl Try.func22 (by kernel_rfl) rfl #[.int .i64 t176] rfl (by (try simp only [List.map_toArray, List.map_cons, List.map_nil]); first | done | rfl | (simp only [List.length_drop, List.length_take]; rfl)) ?_; (with_reducible refine (almagestlaw7_num.calls t176 t179 _ A72.out).mono ?_); rintro e w' ⟨rfl, ⟨nd, rfl⟩⟩; refine ⟨_, rfl, ?_⟩))
                             go_roundg kj60
                             case measure => have := HK1.out; have := HJ9.out; have := HK3.out; have := HJ26.out; have := HJ35.out; have := HK6.out; have := HJ60.out; omega
                             case rel => exact ⟨(wrap64 (x8_6 + 1)), (by first | rfl | (simp; done) | (simp [*]; done)), H', ⟨by have := HK1.out; have := HJ9.out; have := HK3.out; have := HJ26.out; have := HJ35.out; have := HK6.out; have := HJ60.out; omega⟩, ⟨by (with_reducible repeat (first | refine bN ?_ _ | refine bD ?_ | refine bA ?_ _)); exact BK161.out⟩, ⟨by (with_reducible repeat (first | refine bN ?_ _ | refine bD ?_ | refine bA ?_ _)); exact BK171.out⟩, ⟨by (with_reducible repeat (first | refine bN ?_ _ | refine bD ?_ | refine bA ?_ _)); exact BK172.out⟩, ⟨by repeat (first | (with_reducible first | exact HB.out | apply pA | apply pN | apply pD | refine below_set ?_ GE161.out | refine below_set ?_ GE171.out | refine below_set ?_ GE172.out) | exact HB.out)⟩⟩
                           ·
                            rw [if_neg c73] at H
                            have c73b0 : (t179 == 0) = false := beq_eq_false_iff_ne.mpr c73
                            have c73b1 : (t179 != 0) = true := bne_iff_ne.mpr c73
                            obtain rfl := Option.some.inj H
                            have hnb87 := NB171_161.out
                            have hnc87 := NB161_171.out
                            have hnb88 := NB171_172.out
                            have hnc88 := NB172_171.out
                            have hcz89_0 : wc.cell? ⟨gb171, 0, none⟩ = some (.int .i64 ((rd_T30 l0_0 x3_1).f0)) := (bc BK171.out 0).trans rfl
                            have hcz89_1 : wc.cell? ⟨gb171, 1, none⟩ = some (.int .i64 ((rd_T30 l0_0 x3_1).f1)) := (bc BK171.out 1).trans rfl
                            have hfz89_0 := bf BK171.out 0
                            have hfz89_1 := bf BK171.out 1
                            have hnb90 := NB172_161.out
                            have hnc90 := NB161_172.out
                            have hcz91_0 : wc.cell? ⟨gb172, 0, none⟩ = some (.int .i64 ((rd_T30 l0_0 x4_3).f0)) := (bc BK172.out 0).trans rfl
                            have hcz91_1 : wc.cell? ⟨gb172, 1, none⟩ = some (.int .i64 ((rd_T30 l0_0 x4_3).f1)) := (bc BK172.out 1).trans rfl
                            have hfz91_0 := bf BK172.out 0
                            have hfz91_1 := bf BK172.out 1
                            go_wp2_with (first | ((with_reducible refine gc (f := 30) rfl ?_); refine goesL_ (some 94) rfl rfl Try.func30 (by kernel_rfl) rfl #[.int .i64 x8_6, .agg #[.int .i64 ((rd_T30 l0_0 x3_1).f0), .int .i64 ((rd_T30 l0_0 x3_1).f1)], .agg #[.int .i64 ((rd_T30 l0_0 x4_3).f0), .int .i64 ((rd_T30 l0_0 x4_3).f1)]] rfl (by (try simp only [List.map_toArray, List.map_cons, List.map_nil]); first | done | rfl | (simp only [List.length_drop, List.length_take]; rfl)) ?_; (with_reducible refine (almagestref7_Is.calls kj60 x8_6 ((rd_T30 l0_0 x3_1).f0) ((rd_T30 l0_0 x3_1).f1) ((rd_T30 l0_0 x4_3).f0) ((rd_T30 l0_0 x4_3).f1) t178 _ A71.out).mono ?_); rintro e w92 ⟨rfl, hb⟩; refine ⟨_, rfl, ?_⟩; have n0_ := Aside0.mk (blk_below (g := gb161) (o := .cells #[.slice (some ad164) l0_0.length c0_0, .slice A0_1 l0_1.length c0_1, .slice A0_2 l0_2.length c0_2] 26 (0, 0)) (by (with_reducible repeat (first | refine bN ?_ _ | refine bD ?_ | refine bA ?_ _)); exact BK161.out) hb); have n1_ := Aside0.mk (blk_below (g := gb171) (o := .cells #[.int .i64 ((rd_T30 l0_0 x3_1).f0), .int .i64 ((rd_T30 l0_0 x3_1).f1)] 30 (0, 0)) (by (with_reducible repeat (first | refine bN ?_ _ | refine bD ?_ | refine bA ?_ _)); exact BK171.out) hb); have n2_ := Aside0.mk (blk_below (g := gb172) (o := .cells #[.int .i64 ((rd_T30 l0_0 x4_3).f0), .int .i64 ((rd_T30 l0_0 x4_3).f1)] 30 (0, 0)) (by (with_reducible repeat (first | refine bN ?_ _ | refine bD ?_ | refine bA ?_ _)); exact BK172.out) hb); have n3_ := Aside0.mk (below_step (by repeat (first | (with_reducible first | exact HB.out | apply pA | apply pN | apply pD | refine below_set ?_ GE161.out | refine below_set ?_ GE171.out | refine below_set ?_ GE172.out) | exact HB.out)) hb); clear BK161; clear BK171; clear BK172; clear HB; have BK161 := n0_; have BK171 := n1_; have BK172 := n2_; have HB := n3_; clear n0_ n1_ n2_ n3_; (try clear hb); (try clear hb2); (try clear hk); (try clear hi)) | ((with_reducible refine gc (f := 22) rfl ?_); refine goesL_ (some 96) rfl rfl Try.func22 (by kernel_rfl) rfl #[.int .i64 t176] rfl (by (try simp only [List.map_toArray, List.map_cons, List.map_nil]); first | done | rfl | (simp only [List.length_drop, List.length_take]; rfl)) ?_; (with_reducible refine (almagestlaw7_num.calls t176 t179 _ A72.out).mono ?_); rintro e w' ⟨rfl, ⟨nd, rfl⟩⟩; refine ⟨_, rfl, ?_⟩))
                            go_ret
                            exact ⟨by first | rfl | (simp [errW_none, errW_some] <;> rfl) | (simp [*, errW_none, errW_some] <;> rfl), by repeat (first | (with_reducible first | exact HB.out | apply pA | apply pN | apply pD | refine below_set ?_ GE161.out | refine below_set ?_ GE171.out | refine below_set ?_ GE172.out) | exact HB.out)⟩
                          ·
                           replace c70 := Bool.eq_false_iff.mpr c70
                           subst c70
                           have H1 : ((almagestlaw7_num.f t176).bind fun t180 => (if t180 = 1 then (if (t175 != false) = true then (some false) else (almagestlaw7_SpanLies.l2 kj60 x3_1 x4_3 x7_35 (wrap64 (x8_6 + 1)) l0_0 l0_1 l0_2 ((rd_T30 l0_0 x3_1).f0) ((rd_T30 l0_0 x3_1).f1) ((rd_T30 l0_0 x4_3).f0) ((rd_T30 l0_0 x4_3).f1))) else (some false))) = some r := by rw [if_neg (show ¬ (false = true) by decide)] at H; exact H
                           clear H
                           have H := H1
                           clear H1
                           replace H := Option.bind_eq_some_iff.mp H
                           obtain ⟨t180, A930, H⟩ := H
                           replace H : (if t180 = 1 then (if (t175 != false) = true then (some false) else (almagestlaw7_SpanLies.l2 kj60 x3_1 x4_3 x7_35 (wrap64 (x8_6 + 1)) l0_0 l0_1 l0_2 ((rd_T30 l0_0 x3_1).f0) ((rd_T30 l0_0 x3_1).f1) ((rd_T30 l0_0 x4_3).f0) ((rd_T30 l0_0 x4_3).f1))) else (some false)) = some r := H
                           have A93 := Aside0.mk A930
                           clear A930
                           by_cases c94 : t180 = 1
                           ·
                            rw [if_pos c94] at H
                            have c94b0 : (t180 == 1) = true := beq_iff_eq.mpr c94
                            have c94b1 : (t180 != 1) = false := bne_eq_false_iff_eq.mpr c94
                            clear c94
                            by_cases c95 : (t175 != false) = true
                            ·
                             rw [if_pos c95] at H
                             have c95b0 : (t175 != false) = true := c95
                             (try (have c95b1 : decide (t175 = false) = false := by simpa using c95))
                             (try (have c95b2 : (t175 == false) = false := by simpa using c95))
                             (try (have c95b3 : ¬ (t175 = false) := by simpa using c95))
                             clear c95
                             obtain rfl := Option.some.inj H
                             go_wp2_with (first | ((with_reducible refine gc (f := 22) rfl ?_); refine goesL_ (some 96) rfl rfl Try.func22 (by kernel_rfl) rfl #[.int .i64 t176] rfl (by (try simp only [List.map_toArray, List.map_cons, List.map_nil]); first | done | rfl | (simp only [List.length_drop, List.length_take]; rfl)) ?_; (with_reducible refine (almagestlaw7_num.calls t176 t180 _ A93.out).mono ?_); rintro e w' ⟨rfl, ⟨nd, rfl⟩⟩; refine ⟨_, rfl, ?_⟩))
                             go_ret
                             exact ⟨by first | rfl | (simp [errW_none, errW_some] <;> rfl) | (simp [*, errW_none, errW_some] <;> rfl), by repeat (first | (with_reducible first | exact HB.out | apply pA | apply pN | apply pD | refine below_set ?_ GE161.out | refine below_set ?_ GE171.out | refine below_set ?_ GE172.out) | exact HB.out)⟩
                            ·
                             rw [if_neg c95] at H
                             have c95b0 : (t175 != false) = false := by simpa using c95
                             (try (have c95b1 : decide (t175 = false) = true := by simpa using c95))
                             (try (have c95b2 : (t175 == false) = true := by simpa using c95))
                             clear c95
                             have H' := Aside0.mk H
                             clear H
                             go_wp2_with (first | ((with_reducible refine gc (f := 22) rfl ?_); refine goesL_ (some 96) rfl rfl Try.func22 (by kernel_rfl) rfl #[.int .i64 t176] rfl (by (try simp only [List.map_toArray, List.map_cons, List.map_nil]); first | done | rfl | (simp only [List.length_drop, List.length_take]; rfl)) ?_; (with_reducible refine (almagestlaw7_num.calls t176 t180 _ A93.out).mono ?_); rintro e w' ⟨rfl, ⟨nd, rfl⟩⟩; refine ⟨_, rfl, ?_⟩))
                             go_roundg kj60
                             case measure => have := HK1.out; have := HJ9.out; have := HK3.out; have := HJ26.out; have := HJ35.out; have := HK6.out; have := HJ60.out; omega
                             case rel => exact ⟨(wrap64 (x8_6 + 1)), (by first | rfl | (simp; done) | (simp [*]; done)), H', ⟨by have := HK1.out; have := HJ9.out; have := HK3.out; have := HJ26.out; have := HJ35.out; have := HK6.out; have := HJ60.out; omega⟩, ⟨by (with_reducible repeat (first | refine bN ?_ _ | refine bD ?_ | refine bA ?_ _)); exact BK161.out⟩, ⟨by (with_reducible repeat (first | refine bN ?_ _ | refine bD ?_ | refine bA ?_ _)); exact BK171.out⟩, ⟨by (with_reducible repeat (first | refine bN ?_ _ | refine bD ?_ | refine bA ?_ _)); exact BK172.out⟩, ⟨by repeat (first | (with_reducible first | exact HB.out | apply pA | apply pN | apply pD | refine below_set ?_ GE161.out | refine below_set ?_ GE171.out | refine below_set ?_ GE172.out) | exact HB.out)⟩⟩
                           ·
                            rw [if_neg c94] at H
                            have c94b0 : (t180 == 1) = false := beq_eq_false_iff_ne.mpr c94
                            have c94b1 : (t180 != 1) = true := bne_iff_ne.mpr c94
                            obtain rfl := Option.some.inj H
                            go_wp2_with (first | ((with_reducible refine gc (f := 22) rfl ?_); refine goesL_ (some 96) rfl rfl Try.func22 (by kernel_rfl) rfl #[.int .i64 t176] rfl (by (try simp only [List.map_toArray, List.map_cons, List.map_nil]); first | done | rfl | (simp only [List.length_drop, List.length_take]; rfl)) ?_; (with_reducible refine (almagestlaw7_num.calls t176 t180 _ A93.out).mono ?_); rintro e w' ⟨rfl, ⟨nd, rfl⟩⟩; refine ⟨_, rfl, ?_⟩))
                            go_ret
                            exact ⟨by first | rfl | (simp [errW_none, errW_some] <;> rfl) | (simp [*, errW_none, errW_some] <;> rfl), by repeat (first | (with_reducible first | exact HB.out | apply pA | apply pN | apply pD | refine below_set ?_ GE161.out | refine below_set ?_ GE171.out | refine below_set ?_ GE172.out) | exact HB.out)⟩
                       ·
                        rw [if_neg c59] at H
                        have c59b0 : decide (x8_6 ≤ 15) = false := decide_eq_false c59
                        clear c59
                        replace H := Option.bind_eq_some_iff.mp H
                        obtain ⟨⟨t181, t184⟩, A960, H⟩ := H
                        replace H : ((span_Hull.f ((rd_T30 l0_0 x3_1).f0) ((rd_T30 l0_0 x3_1).f1) ((rd_T30 l0_0 x4_3).f0) ((rd_T30 l0_0 x4_3).f1)).bind fun bt185 => (if x7_35 = true then ((almagestref7_All.f k6 ((rd_T30 l0_0 x3_1).f0) ((rd_T30 l0_0 x3_1).f1) ((rd_T30 l0_0 x4_3).f0) ((rd_T30 l0_0 x4_3).f1)).bind fun t190 => ((almagestref7_Hull.f ((rd_T30 l0_0 x3_1).f0) ((rd_T30 l0_0 x3_1).f1) ((rd_T30 l0_0 x4_3).f0) ((rd_T30 l0_0 x4_3).f1)).bind fun bt193 => (almagestlaw7_SpanLies.j7 k6 x3_1 x4_3 t181 t184 bt185.2.2 0 t190 l0_0 l0_1 l0_2 bt185.1 bt185.2.1 bt193.1 bt193.2))) else (almagestlaw7_SpanLies.j7 k6 x3_1 x4_3 t181 t184 bt185.2.2 1 ([] : List Int) l0_0 l0_1 l0_2 bt185.1 bt185.2.1 0 0))) = some r := H
                        have A96 := Aside0.mk A960
                        clear A960
                        replace H := Option.bind_eq_some_iff.mp H
                        obtain ⟨⟨t185, t186, t187⟩, A970, H⟩ := H
                        replace H : (if x7_35 = true then ((almagestref7_All.f k6 ((rd_T30 l0_0 x3_1).f0) ((rd_T30 l0_0 x3_1).f1) ((rd_T30 l0_0 x4_3).f0) ((rd_T30 l0_0 x4_3).f1)).bind fun t190 => ((almagestref7_Hull.f ((rd_T30 l0_0 x3_1).f0) ((rd_T30 l0_0 x3_1).f1) ((rd_T30 l0_0 x4_3).f0) ((rd_T30 l0_0 x4_3).f1)).bind fun bt193 => (almagestlaw7_SpanLies.j7 k6 x3_1 x4_3 t181 t184 t187 0 t190 l0_0 l0_1 l0_2 t185 t186 bt193.1 bt193.2))) else (almagestlaw7_SpanLies.j7 k6 x3_1 x4_3 t181 t184 t187 1 ([] : List Int) l0_0 l0_1 l0_2 t185 t186 0 0)) = some r := H
                        have A97 := Aside0.mk A970
                        clear A970
                        have HC98 := Aside0.mk H
                        clear H
                        have hnb99 := NB171_161.out
                        have hnc99 := NB161_171.out
                        have hnb100 := NB171_172.out
                        have hnc100 := NB172_171.out
                        have hcz101_0 : wr.cell? ⟨gb171, 0, none⟩ = some (.int .i64 ((rd_T30 l0_0 x3_1).f0)) := (bc BK171.out 0).trans rfl
                        have hcz101_1 : wr.cell? ⟨gb171, 1, none⟩ = some (.int .i64 ((rd_T30 l0_0 x3_1).f1)) := (bc BK171.out 1).trans rfl
                        have hfz101_0 := bf BK171.out 0
                        have hfz101_1 := bf BK171.out 1
                        have hnb102 := NB172_161.out
                        have hnc102 := NB161_172.out
                        have hcz103_0 : wr.cell? ⟨gb172, 0, none⟩ = some (.int .i64 ((rd_T30 l0_0 x4_3).f0)) := (bc BK172.out 0).trans rfl
                        have hcz103_1 : wr.cell? ⟨gb172, 1, none⟩ = some (.int .i64 ((rd_T30 l0_0 x4_3).f1)) := (bc BK172.out 1).trans rfl
                        have hfz103_0 := bf BK172.out 0
                        have hfz103_1 := bf BK172.out 1
                        go_upto_if 117 with (first | ((with_reducible refine gc (f := 20) rfl ?_); refine goesL_ (some 107) rfl rfl Try.func20 (by kernel_rfl) rfl #[.agg #[.int .i64 ((rd_T30 l0_0 x3_1).f0), .int .i64 ((rd_T30 l0_0 x3_1).f1)], .agg #[.int .i64 ((rd_T30 l0_0 x4_3).f0), .int .i64 ((rd_T30 l0_0 x4_3).f1)]] rfl (by (try simp only [List.map_toArray, List.map_cons, List.map_nil]); first | done | rfl | (simp only [List.length_drop, List.length_take]; rfl)) ?_; (with_reducible refine (span_All.calls k6 ((rd_T30 l0_0 x3_1).f0) ((rd_T30 l0_0 x3_1).f1) ((rd_T30 l0_0 x4_3).f0) ((rd_T30 l0_0 x4_3).f1) t181 t184 _ A96.out).mono ?_); rintro e w104 ⟨v182, rfl, ho0, hb⟩; refine ⟨_, rfl, ?_⟩; have n0_ := Aside0.mk (Kd.R_lower ho0 (below_size (by repeat (first | (with_reducible first | exact HB.out | apply pA | apply pN | apply pD | refine below_set ?_ GE161.out | refine below_set ?_ GE171.out | refine below_set ?_ GE172.out) | exact HB.out)))); have n1_ := Aside0.mk (blk_below (g := gb161) (o := .cells #[.slice (some ad164) l0_0.length c0_0, .slice A0_1 l0_1.length c0_1, .slice A0_2 l0_2.length c0_2] 26 (0, 0)) (by (with_reducible repeat (first | refine bN ?_ _ | refine bD ?_ | refine bA ?_ _)); exact BK161.out) hb); have n2_ := Aside0.mk (blk_below (g := gb171) (o := .cells #[.int .i64 ((rd_T30 l0_0 x3_1).f0), .int .i64 ((rd_T30 l0_0 x3_1).f1)] 30 (0, 0)) (by (with_reducible repeat (first | refine bN ?_ _ | refine bD ?_ | refine bA ?_ _)); exact BK171.out) hb); have n3_ := Aside0.mk (blk_below (g := gb172) (o := .cells #[.int .i64 ((rd_T30 l0_0 x4_3).f0), .int .i64 ((rd_T30 l0_0 x4_3).f1)] 30 (0, 0)) (by (with_reducible repeat (first | refine bN ?_ _ | refine bD ?_ | refine bA ?_ _)); exact BK172.out) hb); have n4_ := Aside0.mk (below_step (by repeat (first | (with_reducible first | exact HB.out | apply pA | apply pN | apply pD | refine below_set ?_ GE161.out | refine below_set ?_ GE171.out | refine below_set ?_ GE172.out) | exact HB.out)) hb); clear BK161; clear BK171; clear BK172; clear HB; have HO183 := n0_; have BK161 := n1_; have BK171 := n2_; have BK172 := n3_; have HB := n4_; clear n0_ n1_ n2_ n3_ n4_; (try clear hb); (try clear hb2); (try clear hk); (try clear hi); (try clear ho0); have hcz105_0 : w104.cell? ⟨gb171, 0, none⟩ = some (.int .i64 ((rd_T30 l0_0 x3_1).f0)) := (bc BK171.out 0).trans rfl; have hcz105_1 : w104.cell? ⟨gb171, 1, none⟩ = some (.int .i64 ((rd_T30 l0_0 x3_1).f1)) := (bc BK171.out 1).trans rfl; have hfz105_0 := bf BK171.out 0; have hfz105_1 := bf BK171.out 1; have hcz106_0 : w104.cell? ⟨gb172, 0, none⟩ = some (.int .i64 ((rd_T30 l0_0 x4_3).f0)) := (bc BK172.out 0).trans rfl; have hcz106_1 : w104.cell? ⟨gb172, 1, none⟩ = some (.int .i64 ((rd_T30 l0_0 x4_3).f1)) := (bc BK172.out 1).trans rfl; have hfz106_0 := bf BK172.out 0; have hfz106_1 := bf BK172.out 1) | ((with_reducible refine gc (f := 21) rfl ?_); refine goesL_ (some 113) rfl rfl Try.func21 (by kernel_rfl) rfl #[.agg #[.int .i64 ((rd_T30 l0_0 x3_1).f0), .int .i64 ((rd_T30 l0_0 x3_1).f1)], .agg #[.int .i64 ((rd_T30 l0_0 x4_3).f0), .int .i64 ((rd_T30 l0_0 x4_3).f1)]] rfl (by (try simp only [List.map_toArray, List.map_cons, List.map_nil]); first | done | rfl | (simp only [List.length_drop, List.length_take]; rfl)) ?_; (with_reducible refine (span_Hull.calls ((rd_T30 l0_0 x3_1).f0) ((rd_T30 l0_0 x3_1).f1) ((rd_T30 l0_0 x4_3).f0) ((rd_T30 l0_0 x4_3).f1) t185 t186 t187 _ A97.out).mono ?_); rintro e w107 ⟨rfl, hb⟩; refine ⟨_, rfl, ?_⟩; have n0_ := Aside0.mk (Kd.R_below (by (with_reducible repeat (first | apply Kd.R_alloc | apply Kd.R_drewN | apply Kd.R_drew)); exact HO183.out) hb); have n1_ := Aside0.mk (blk_below (g := gb161) (o := .cells #[.slice (some ad164) l0_0.length c0_0, .slice A0_1 l0_1.length c0_1, .slice A0_2 l0_2.length c0_2] 26 (0, 0)) (by (with_reducible repeat (first | refine bN ?_ _ | refine bD ?_ | refine bA ?_ _)); exact BK161.out) hb); have n2_ := Aside0.mk (blk_below (g := gb171) (o := .cells #[.int .i64 ((rd_T30 l0_0 x3_1).f0), .int .i64 ((rd_T30 l0_0 x3_1).f1)] 30 (0, 0)) (by (with_reducible repeat (first | refine bN ?_ _ | refine bD ?_ | refine bA ?_ _)); exact BK171.out) hb); have n3_ := Aside0.mk (blk_below (g := gb172) (o := .cells #[.int .i64 ((rd_T30 l0_0 x4_3).f0), .int .i64 ((rd_T30 l0_0 x4_3).f1)] 30 (0, 0)) (by (with_reducible repeat (first | refine bN ?_ _ | refine bD ?_ | refine bA ?_ _)); exact BK172.out) hb); have n4_ := Aside0.mk (below_step (by repeat (first | (with_reducible first | exact HB.out | apply pA | apply pN | apply pD | refine below_set ?_ GE161.out | refine below_set ?_ GE171.out | refine below_set ?_ GE172.out) | exact HB.out)) hb); clear HO183; clear BK161; clear BK171; clear BK172; clear HB; have HO183 := n0_; have BK161 := n1_; have BK171 := n2_; have BK172 := n3_; have HB := n4_; clear n0_ n1_ n2_ n3_ n4_; (try clear hb); (try clear hb2); (try clear hk); (try clear hi)) | ((with_reducible refine gate_dst (N := 15) rfl ?_); refine box_event ?hg (N := 15) ?hd (cs := #[.int .i64 0, .int .i64 0]) (t := 30) ?hr ?_; (case hd => rfl); (case hg => rfl); (case hr => first | (go_simp; done) | (go_simp; rfl)); intro gb188 hg w108 hbox hb; have n0_ := Aside0.mk (Kd.R_below (by (with_reducible repeat (first | apply Kd.R_alloc | apply Kd.R_drewN | apply Kd.R_drew)); exact HO183.out) hb); have n1_ := Aside0.mk (blk_below (g := gb161) (o := .cells #[.slice (some ad164) l0_0.length c0_0, .slice A0_1 l0_1.length c0_1, .slice A0_2 l0_2.length c0_2] 26 (0, 0)) (by (with_reducible repeat (first | refine bN ?_ _ | refine bD ?_ | refine bA ?_ _)); exact BK161.out) hb); have n2_ := Aside0.mk (blk_below (g := gb171) (o := .cells #[.int .i64 ((rd_T30 l0_0 x3_1).f0), .int .i64 ((rd_T30 l0_0 x3_1).f1)] 30 (0, 0)) (by (with_reducible repeat (first | refine bN ?_ _ | refine bD ?_ | refine bA ?_ _)); exact BK171.out) hb); have n3_ := Aside0.mk (blk_below (g := gb172) (o := .cells #[.int .i64 ((rd_T30 l0_0 x4_3).f0), .int .i64 ((rd_T30 l0_0 x4_3).f1)] 30 (0, 0)) (by (with_reducible repeat (first | refine bN ?_ _ | refine bD ?_ | refine bA ?_ _)); exact BK172.out) hb); have n4_ := Aside0.mk (below_step (by repeat (first | (with_reducible first | exact HB.out | apply pA | apply pN | apply pD | refine below_set ?_ GE161.out | refine below_set ?_ GE171.out | refine below_set ?_ GE172.out) | exact HB.out)) hb); have n5_ := Aside0.mk (hbox); have n6_ := Aside0.mk ((by rw [hg]; exact (below_size (by repeat (first | (with_reducible first | exact HB.out | apply pA | apply pN | apply pD | refine below_set ?_ GE161.out | refine below_set ?_ GE171.out | refine below_set ?_ GE172.out) | exact HB.out))) : w.heap.size ≤ gb188)); have n7_ := Aside0.mk ((by rw [hg]; exact (below_size (by repeat (first | (with_reducible first | exact HB.out | apply pA | apply pN | apply pD | refine below_set ?_ GE161.out | refine below_set ?_ GE171.out | refine below_set ?_ GE172.out) | exact HB.out))) : w.heap.size ≤ gb188)); have n8_ := Aside0.mk ((by rw [hg]; exact Nat.ne_of_lt (blk_lt (g := gb161) (o := .cells #[.slice (some ad164) l0_0.length c0_0, .slice A0_1 l0_1.length c0_1, .slice A0_2 l0_2.length c0_2] 26 (0, 0)) (by (with_reducible repeat (first | refine bN ?_ _ | refine bD ?_ | refine bA ?_ _)); exact BK161.out)) : gb161 ≠ gb188)); have n9_ := Aside0.mk ((by rw [hg]; exact Nat.ne_of_gt (blk_lt (g := gb161) (o := .cells #[.slice (some ad164) l0_0.length c0_0, .slice A0_1 l0_1.length c0_1, .slice A0_2 l0_2.length c0_2] 26 (0, 0)) (by (with_reducible repeat (first | refine bN ?_ _ | refine bD ?_ | refine bA ?_ _)); exact BK161.out)) : gb188 ≠ gb161)); have n10_ := Aside0.mk ((by rw [hg]; exact Nat.ne_of_lt (blk_lt (g := gb171) (o := .cells #[.int .i64 ((rd_T30 l0_0 x3_1).f0), .int .i64 ((rd_T30 l0_0 x3_1).f1)] 30 (0, 0)) (by (with_reducible repeat (first | refine bN ?_ _ | refine bD ?_ | refine bA ?_ _)); exact BK171.out)) : gb171 ≠ gb188)); have n11_ := Aside0.mk ((by rw [hg]; exact Nat.ne_of_gt (blk_lt (g := gb171) (o := .cells #[.int .i64 ((rd_T30 l0_0 x3_1).f0), .int .i64 ((rd_T30 l0_0 x3_1).f1)] 30 (0, 0)) (by (with_reducible repeat (first | refine bN ?_ _ | refine bD ?_ | refine bA ?_ _)); exact BK171.out)) : gb188 ≠ gb171)); have n12_ := Aside0.mk ((by rw [hg]; exact Nat.ne_of_lt (blk_lt (g := gb172) (o := .cells #[.int .i64 ((rd_T30 l0_0 x4_3).f0), .int .i64 ((rd_T30 l0_0 x4_3).f1)] 30 (0, 0)) (by (with_reducible repeat (first | refine bN ?_ _ | refine bD ?_ | refine bA ?_ _)); exact BK172.out)) : gb172 ≠ gb188)); have n13_ := Aside0.mk ((by rw [hg]; exact Nat.ne_of_gt (blk_lt (g := gb172) (o := .cells #[.int .i64 ((rd_T30 l0_0 x4_3).f0), .int .i64 ((rd_T30 l0_0 x4_3).f1)] 30 (0, 0)) (by (with_reducible repeat (first | refine bN ?_ _ | refine bD ?_ | refine bA ?_ _)); exact BK172.out)) : gb188 ≠ gb172)); clear HO183; clear BK161; clear BK171; clear BK172; clear HB; have HO183 := n0_; have BK161 := n1_; have BK171 := n2_; have BK172 := n3_; have HB := n4_; have BK188 := n5_; have GW188 := n6_; have GE188 := n7_; have NB161_188 := n8_; have NB188_161 := n9_; have NB171_188 := n10_; have NB188_171 := n11_; have NB172_188 := n12_; have NB188_172 := n13_; clear n0_ n1_ n2_ n3_ n4_ n5_ n6_ n7_ n8_ n9_ n10_ n11_ n12_ n13_; clear hb hbox hg; have hnb109 := NB188_161.out; have hnc109 := NB161_188.out; have hnb110 := NB188_171.out; have hnc110 := NB171_188.out; have hnb111 := NB188_172.out; have hnc111 := NB172_188.out; have hcz112_0 : w108.cell? ⟨gb188, 0, none⟩ = some (.int .i64 0) := (bc BK188.out 0).trans rfl; have hcz112_1 : w108.cell? ⟨gb188, 1, none⟩ = some (.int .i64 0) := (bc BK188.out 1).trans rfl; have hfz112_0 := bf BK188.out 0; have hfz112_1 := bf BK188.out 1) | ((with_reducible refine gate_dst (N := 18) rfl ?_); refine box_event ?hg (N := 18) ?hd (cs := #[.int .i64 0, .int .i64 0]) (t := 30) ?hr ?_; (case hd => rfl); (case hg => rfl); (case hr => first | (go_simp; done) | (go_simp; rfl)); intro gb189 hg w113 hbox hb; have n0_ := Aside0.mk (Kd.R_below (by (with_reducible repeat (first | apply Kd.R_alloc | apply Kd.R_drewN | apply Kd.R_drew)); exact (Kd.R_mono (Kd.R_far (p := ⟨gb188, 1, none⟩) (Kd.R_far (p := ⟨gb188, 0, none⟩) (Kd.R_types HO183.out BK188.out (by decide)) (fun _ hk => hk.2) (.int .i64 t185)) (fun _ hk => hk.2) (.int .i64 t186)) (fun _ h_ => h_.1))) hb); have n1_ := Aside0.mk (blk_below (g := gb161) (o := .cells #[.slice (some ad164) l0_0.length c0_0, .slice A0_1 l0_1.length c0_1, .slice A0_2 l0_2.length c0_2] 26 (0, 0)) (by (with_reducible repeat (first | refine bN ?_ _ | refine bD ?_ | refine bA ?_ _)); refine blk_far ?_ NB161_188.out _; (with_reducible repeat (first | refine bN ?_ _ | refine bD ?_ | refine bA ?_ _)); refine blk_far ?_ NB161_188.out _; (with_reducible repeat (first | refine bN ?_ _ | refine bD ?_ | refine bA ?_ _)); exact BK161.out) hb); have n2_ := Aside0.mk (blk_below (g := gb171) (o := .cells #[.int .i64 ((rd_T30 l0_0 x3_1).f0), .int .i64 ((rd_T30 l0_0 x3_1).f1)] 30 (0, 0)) (by (with_reducible repeat (first | refine bN ?_ _ | refine bD ?_ | refine bA ?_ _)); refine blk_far ?_ NB171_188.out _; (with_reducible repeat (first | refine bN ?_ _ | refine bD ?_ | refine bA ?_ _)); refine blk_far ?_ NB171_188.out _; (with_reducible repeat (first | refine bN ?_ _ | refine bD ?_ | refine bA ?_ _)); exact BK171.out) hb); have n3_ := Aside0.mk (blk_below (g := gb172) (o := .cells #[.int .i64 ((rd_T30 l0_0 x4_3).f0), .int .i64 ((rd_T30 l0_0 x4_3).f1)] 30 (0, 0)) (by (with_reducible repeat (first | refine bN ?_ _ | refine bD ?_ | refine bA ?_ _)); refine blk_far ?_ NB172_188.out _; (with_reducible repeat (first | refine bN ?_ _ | refine bD ?_ | refine bA ?_ _)); refine blk_far ?_ NB172_188.out _; (with_reducible repeat (first | refine bN ?_ _ | refine bD ?_ | refine bA ?_ _)); exact BK172.out) hb); have n4_ := Aside0.mk (blk_below (g := gb188) (o := .cells #[.int .i64 t185, .int .i64 t186] 30 (0, 0)) (by (with_reducible repeat (first | refine bN ?_ _ | refine bD ?_ | refine bA ?_ _)); refine blk_put (cs := #[.int .i64 t185, .int .i64 0]) ?_ 1 _ rfl; (with_reducible repeat (first | refine bN ?_ _ | refine bD ?_ | refine bA ?_ _)); refine blk_put (cs := #[.int .i64 0, .int .i64 0]) ?_ 0 _ rfl; (with_reducible repeat (first | refine bN ?_ _ | refine bD ?_ | refine bA ?_ _)); exact BK188.out) hb); have n5_ := Aside0.mk (below_step (by repeat (first | (with_reducible first | exact HB.out | apply pA | apply pN | apply pD | refine below_set ?_ GE161.out | refine below_set ?_ GE171.out | refine below_set ?_ GE172.out | refine below_set ?_ GE188.out) | exact HB.out)) hb); have n6_ := Aside0.mk (hbox); have n7_ := Aside0.mk ((by rw [hg]; exact (below_size (by repeat (first | (with_reducible first | exact HB.out | apply pA | apply pN | apply pD | refine below_set ?_ GE161.out | refine below_set ?_ GE171.out | refine below_set ?_ GE172.out | refine below_set ?_ GE188.out) | exact HB.out))) : w.heap.size ≤ gb189)); have n8_ := Aside0.mk ((by rw [hg]; exact (below_size (by repeat (first | (with_reducible first | exact HB.out | apply pA | apply pN | apply pD | refine below_set ?_ GE161.out | refine below_set ?_ GE171.out | refine below_set ?_ GE172.out | refine below_set ?_ GE188.out) | exact HB.out))) : w.heap.size ≤ gb189)); have n9_ := Aside0.mk ((by rw [hg]; exact Nat.ne_of_lt (blk_lt (g := gb161) (o := .cells #[.slice (some ad164) l0_0.length c0_0, .slice A0_1 l0_1.length c0_1, .slice A0_2 l0_2.length c0_2] 26 (0, 0)) (by (with_reducible repeat (first | refine bN ?_ _ | refine bD ?_ | refine bA ?_ _)); refine blk_far ?_ NB161_188.out _; (with_reducible repeat (first | refine bN ?_ _ | refine bD ?_ | refine bA ?_ _)); refine blk_far ?_ NB161_188.out _; (with_reducible repeat (first | refine bN ?_ _ | refine bD ?_ | refine bA ?_ _)); exact BK161.out)) : gb161 ≠ gb189)); have n10_ := Aside0.mk ((by rw [hg]; exact Nat.ne_of_gt (blk_lt (g := gb161) (o := .cells #[.slice (some ad164) l0_0.length c0_0, .slice A0_1 l0_1.length c0_1, .slice A0_2 l0_2.length c0_2] 26 (0, 0)) (by (with_reducible repeat (first | refine bN ?_ _ | refine bD ?_ | refine bA ?_ _)); refine blk_far ?_ NB161_188.out _; (with_reducible repeat (first | refine bN ?_ _ | refine bD ?_ | refine bA ?_ _)); refine blk_far ?_ NB161_188.out _; (with_reducible repeat (first | refine bN ?_ _ | refine bD ?_ | refine bA ?_ _)); exact BK161.out)) : gb189 ≠ gb161)); have n11_ := Aside0.mk ((by rw [hg]; exact Nat.ne_of_lt (blk_lt (g := gb171) (o := .cells #[.int .i64 ((rd_T30 l0_0 x3_1).f0), .int .i64 ((rd_T30 l0_0 x3_1).f1)] 30 (0, 0)) (by (with_reducible repeat (first | refine bN ?_ _ | refine bD ?_ | refine bA ?_ _)); refine blk_far ?_ NB171_188.out _; (with_reducible repeat (first | refine bN ?_ _ | refine bD ?_ | refine bA ?_ _)); refine blk_far ?_ NB171_188.out _; (with_reducible repeat (first | refine bN ?_ _ | refine bD ?_ | refine bA ?_ _)); exact BK171.out)) : gb171 ≠ gb189)); have n12_ := Aside0.mk ((by rw [hg]; exact Nat.ne_of_gt (blk_lt (g := gb171) (o := .cells #[.int .i64 ((rd_T30 l0_0 x3_1).f0), .int .i64 ((rd_T30 l0_0 x3_1).f1)] 30 (0, 0)) (by (with_reducible repeat (first | refine bN ?_ _ | refine bD ?_ | refine bA ?_ _)); refine blk_far ?_ NB171_188.out _; (with_reducible repeat (first | refine bN ?_ _ | refine bD ?_ | refine bA ?_ _)); refine blk_far ?_ NB171_188.out _; (with_reducible repeat (first | refine bN ?_ _ | refine bD ?_ | refine bA ?_ _)); exact BK171.out)) : gb189 ≠ gb171)); have n13_ := Aside0.mk ((by rw [hg]; exact Nat.ne_of_lt (blk_lt (g := gb172) (o := .cells #[.int .i64 ((rd_T30 l0_0 x4_3).f0), .int .i64 ((rd_T30 l0_0 x4_3).f1)] 30 (0, 0)) (by (with_reducible repeat (first | refine bN ?_ _ | refine bD ?_ | refine bA ?_ _)); refine blk_far ?_ NB172_188.out _; (with_reducible repeat (first | refine bN ?_ _ | refine bD ?_ | refine bA ?_ _)); refine blk_far ?_ NB172_188.out _; (with_reducible repeat (first | refine bN ?_ _ | refine bD ?_ | refine bA ?_ _)); exact BK172.out)) : gb172 ≠ gb189)); have n14_ := Aside0.mk ((by rw [hg]; exact Nat.ne_of_gt (blk_lt (g := gb172) (o := .cells #[.int .i64 ((rd_T30 l0_0 x4_3).f0), .int .i64 ((rd_T30 l0_0 x4_3).f1)] 30 (0, 0)) (by (with_reducible repeat (first | refine bN ?_ _ | refine bD ?_ | refine bA ?_ _)); refine blk_far ?_ NB172_188.out _; (with_reducible repeat (first | refine bN ?_ _ | refine bD ?_ | refine bA ?_ _)); refine blk_far ?_ NB172_188.out _; (with_reducible repeat (first | refine bN ?_ _ | refine bD ?_ | refine bA ?_ _)); exact BK172.out)) : gb189 ≠ gb172)); have n15_ := Aside0.mk ((by rw [hg]; exact Nat.ne_of_lt (blk_lt (g := gb188) (o := .cells #[.int .i64 t185, .int .i64 t186] 30 (0, 0)) (by (with_reducible repeat (first | refine bN ?_ _ | refine bD ?_ | refine bA ?_ _)); refine blk_put (cs := #[.int .i64 t185, .int .i64 0]) ?_ 1 _ rfl; (with_reducible repeat (first | refine bN ?_ _ | refine bD ?_ | refine bA ?_ _)); refine blk_put (cs := #[.int .i64 0, .int .i64 0]) ?_ 0 _ rfl; (with_reducible repeat (first | refine bN ?_ _ | refine bD ?_ | refine bA ?_ _)); exact BK188.out)) : gb188 ≠ gb189)); have n16_ := Aside0.mk ((by rw [hg]; exact Nat.ne_of_gt (blk_lt (g := gb188) (o := .cells #[.int .i64 t185, .int .i64 t186] 30 (0, 0)) (by (with_reducible repeat (first | refine bN ?_ _ | refine bD ?_ | refine bA ?_ _)); refine blk_put (cs := #[.int .i64 t185, .int .i64 0]) ?_ 1 _ rfl; (with_reducible repeat (first | refine bN ?_ _ | refine bD ?_ | refine bA ?_ _)); refine blk_put (cs := #[.int .i64 0, .int .i64 0]) ?_ 0 _ rfl; (with_reducible repeat (first | refine bN ?_ _ | refine bD ?_ | refine bA ?_ _)); exact BK188.out)) : gb189 ≠ gb188)); clear HO183; clear BK161; clear BK171; clear BK172; clear BK188; clear HB; have HO183 := n0_; have BK161 := n1_; have BK171 := n2_; have BK172 := n3_; have BK188 := n4_; have HB := n5_; have BK189 := n6_; have GW189 := n7_; have GE189 := n8_; have NB161_189 := n9_; have NB189_161 := n10_; have NB171_189 := n11_; have NB189_171 := n12_; have NB172_189 := n13_; have NB189_172 := n14_; have NB188_189 := n15_; have NB189_188 := n16_; clear n0_ n1_ n2_ n3_ n4_ n5_ n6_ n7_ n8_ n9_ n10_ n11_ n12_ n13_ n14_ n15_ n16_; clear hb hbox hg; have hnb114 := NB189_161.out; have hnc114 := NB161_189.out; have hnb115 := NB189_171.out; have hnc115 := NB171_189.out; have hnb116 := NB189_172.out; have hnc116 := NB172_189.out; have hnb117 := NB189_188.out; have hnc117 := NB188_189.out; have hcz118_0 : w113.cell? ⟨gb189, 0, none⟩ = some (.int .i64 0) := (bc BK189.out 0).trans rfl; have hcz118_1 : w113.cell? ⟨gb189, 1, none⟩ = some (.int .i64 0) := (bc BK189.out 1).trans rfl; have hfz118_0 := bf BK189.out 0; have hfz118_1 := bf BK189.out 1))
                        (try simp only [Act.put, List.setIfInBounds_toArray, List.set_cons_zero, List.set_cons_succ])
                        go_cut [17, 19] (fun v17 v19 wc => ∃ (kq : Nat) (x17_97 : Int) (x19_97 : List Int) (x190000_97 : Int) (x190001_97 : Int), v17 = .int .i64 x17_97 ∧ Aside0 (almagestlaw7_SpanLies.j7 kq x3_1 x4_3 t181 t184 t187 x17_97 x19_97 l0_0 l0_1 l0_2 t185 t186 x190000_97 x190001_97 = some r) ∧ Aside0 (kq ≤ k6) ∧ Aside0 (Kd.R (Kd.int .i64) 3 wc w.heap.size (fun k_ => some k_ ≠ (v19 : Value).ownBlock) v182 t181) ∧ Aside0 (Kd.R (Kd.int .i64) 3 wc w.heap.size (fun k_ => some k_ ≠ (v182 : Value).ownBlock) v19 x19_97) ∧ Aside0 (wc.heap[gb161]? = some (.cells #[(.slice (some ad164) l0_0.length c0_0), (.slice A0_1 l0_1.length c0_1), (.slice A0_2 l0_2.length c0_2)] 26 (0, 0))) ∧ Aside0 (wc.heap[gb171]? = some (.cells #[.int .i64 ((rd_T30 l0_0 x3_1).f0), .int .i64 ((rd_T30 l0_0 x3_1).f1)] 30 (0, 0))) ∧ Aside0 (wc.heap[gb172]? = some (.cells #[.int .i64 ((rd_T30 l0_0 x4_3).f0), .int .i64 ((rd_T30 l0_0 x4_3).f1)] 30 (0, 0))) ∧ Aside0 (wc.heap[gb188]? = some (.cells #[.int .i64 t185, .int .i64 t186] 30 (0, 0))) ∧ Aside0 (wc.heap[gb189]? = some (.cells #[.int .i64 x190000_97, .int .i64 x190001_97] 30 (0, 0))) ∧ Aside0 (Below w.heap.size w wc))
                        case first =>
                         have H := HC98.out
                         clear HC98
                         by_cases c119 : x7_35 = true
                         ·
                          subst c119
                          have H1 : ((almagestref7_All.f k6 ((rd_T30 l0_0 x3_1).f0) ((rd_T30 l0_0 x3_1).f1) ((rd_T30 l0_0 x4_3).f0) ((rd_T30 l0_0 x4_3).f1)).bind fun t190 => ((almagestref7_Hull.f ((rd_T30 l0_0 x3_1).f0) ((rd_T30 l0_0 x3_1).f1) ((rd_T30 l0_0 x4_3).f0) ((rd_T30 l0_0 x4_3).f1)).bind fun bt193 => (almagestlaw7_SpanLies.j7 k6 x3_1 x4_3 t181 t184 t187 0 t190 l0_0 l0_1 l0_2 t185 t186 bt193.1 bt193.2))) = some r := by rw [if_pos rfl] at H; exact H
                          clear H
                          have H := H1
                          clear H1
                          replace H := Option.bind_eq_some_iff.mp H
                          obtain ⟨t190, A1200, H⟩ := H
                          replace H : ((almagestref7_Hull.f ((rd_T30 l0_0 x3_1).f0) ((rd_T30 l0_0 x3_1).f1) ((rd_T30 l0_0 x4_3).f0) ((rd_T30 l0_0 x4_3).f1)).bind fun bt193 => (almagestlaw7_SpanLies.j7 k6 x3_1 x4_3 t181 t184 t187 0 t190 l0_0 l0_1 l0_2 t185 t186 bt193.1 bt193.2)) = some r := H
                          have A120 := Aside0.mk A1200
                          clear A1200
                          replace H := Option.bind_eq_some_iff.mp H
                          obtain ⟨⟨t193, t194⟩, A1210, H⟩ := H
                          replace H : (almagestlaw7_SpanLies.j7 k6 x3_1 x4_3 t181 t184 t187 0 t190 l0_0 l0_1 l0_2 t185 t186 t193 t194) = some r := H
                          have A121 := Aside0.mk A1210
                          clear A1210
                          have H' := Aside0.mk H
                          clear H
                          try go_wp2
                          have n0_ : Aside0 (Kd.R (Kd.int .i64) 3 ((w113.setCell ⟨gb189, 0, none⟩ (.int .i64 0)).setCell ⟨gb189, 1, none⟩ (.int .i64 0)) w.heap.size (fun _ => True) v182 t181) := ⟨by (with_reducible repeat (first | apply Kd.R_alloc | apply Kd.R_drewN | apply Kd.R_drew)); exact Kd.R_mono (Kd.R_far (p := ⟨gb189, 1, none⟩) (Kd.R_far (p := ⟨gb189, 0, none⟩) (Kd.R_types HO183.out BK189.out (by decide)) (fun _ hk => hk.2) (.int .i64 0)) (fun _ hk => hk.2) (.int .i64 0)) (fun _ hk => trivial)⟩
                          have n1_ : Aside0 (((w113.setCell ⟨gb189, 0, none⟩ (.int .i64 0)).setCell ⟨gb189, 1, none⟩ (.int .i64 0)).heap[gb161]? = some (.cells #[.slice (some ad164) l0_0.length c0_0, .slice A0_1 l0_1.length c0_1, .slice A0_2 l0_2.length c0_2] 26 (0, 0))) := ⟨by (with_reducible repeat (first | refine bN ?_ _ | refine bD ?_ | refine bA ?_ _)); refine blk_far ?_ NB161_189.out _; (with_reducible repeat (first | refine bN ?_ _ | refine bD ?_ | refine bA ?_ _)); refine blk_far ?_ NB161_189.out _; (with_reducible repeat (first | refine bN ?_ _ | refine bD ?_ | refine bA ?_ _)); exact BK161.out⟩
                          have n2_ : Aside0 (((w113.setCell ⟨gb189, 0, none⟩ (.int .i64 0)).setCell ⟨gb189, 1, none⟩ (.int .i64 0)).heap[gb171]? = some (.cells #[.int .i64 ((rd_T30 l0_0 x3_1).f0), .int .i64 ((rd_T30 l0_0 x3_1).f1)] 30 (0, 0))) := ⟨by (with_reducible repeat (first | refine bN ?_ _ | refine bD ?_ | refine bA ?_ _)); refine blk_far ?_ NB171_189.out _; (with_reducible repeat (first | refine bN ?_ _ | refine bD ?_ | refine bA ?_ _)); refine blk_far ?_ NB171_189.out _; (with_reducible repeat (first | refine bN ?_ _ | refine bD ?_ | refine bA ?_ _)); exact BK171.out⟩
                          have n3_ : Aside0 (((w113.setCell ⟨gb189, 0, none⟩ (.int .i64 0)).setCell ⟨gb189, 1, none⟩ (.int .i64 0)).heap[gb172]? = some (.cells #[.int .i64 ((rd_T30 l0_0 x4_3).f0), .int .i64 ((rd_T30 l0_0 x4_3).f1)] 30 (0, 0))) := ⟨by (with_reducible repeat (first | refine bN ?_ _ | refine bD ?_ | refine bA ?_ _)); refine blk_far ?_ NB172_189.out _; (with_reducible repeat (first | refine bN ?_ _ | refine bD ?_ | refine bA ?_ _)); refine blk_far ?_ NB172_189.out _; (with_reducible repeat (first | refine bN ?_ _ | refine bD ?_ | refine bA ?_ _)); exact BK172.out⟩
                          have n4_ : Aside0 (((w113.setCell ⟨gb189, 0, none⟩ (.int .i64 0)).setCell ⟨gb189, 1, none⟩ (.int .i64 0)).heap[gb188]? = some (.cells #[.int .i64 t185, .int .i64 t186] 30 (0, 0))) := ⟨by (with_reducible repeat (first | refine bN ?_ _ | refine bD ?_ | refine bA ?_ _)); refine blk_far ?_ NB188_189.out _; (with_reducible repeat (first | refine bN ?_ _ | refine bD ?_ | refine bA ?_ _)); refine blk_far ?_ NB188_189.out _; (with_reducible repeat (first | refine bN ?_ _ | refine bD ?_ | refine bA ?_ _)); exact BK188.out⟩
                          have n5_ : Aside0 (((w113.setCell ⟨gb189, 0, none⟩ (.int .i64 0)).setCell ⟨gb189, 1, none⟩ (.int .i64 0)).heap[gb189]? = some (.cells #[.int .i64 0, .int .i64 0] 30 (0, 0))) := ⟨by (with_reducible repeat (first | refine bN ?_ _ | refine bD ?_ | refine bA ?_ _)); refine blk_put (cs := #[.int .i64 0, .int .i64 0]) ?_ 1 _ rfl; (with_reducible repeat (first | refine bN ?_ _ | refine bD ?_ | refine bA ?_ _)); refine blk_put (cs := #[.int .i64 0, .int .i64 0]) ?_ 0 _ rfl; (with_reducible repeat (first | refine bN ?_ _ | refine bD ?_ | refine bA ?_ _)); exact BK189.out⟩
                          have n6_ : Aside0 (Below w.heap.size w ((w113.setCell ⟨gb189, 0, none⟩ (.int .i64 0)).setCell ⟨gb189, 1, none⟩ (.int .i64 0))) := ⟨by repeat (first | (with_reducible first | exact HB.out | apply pA | apply pN | apply pD | refine below_set ?_ GE161.out | refine below_set ?_ GE171.out | refine below_set ?_ GE172.out | refine below_set ?_ GE188.out | refine below_set ?_ GE189.out) | exact HB.out)⟩
                          (try clear HO183)
                          (try clear BK161)
                          (try clear BK171)
                          (try clear BK172)
                          (try clear BK188)
                          (try clear BK189)
                          (try clear HB)
                          generalize ((w113.setCell ⟨gb189, 0, none⟩ (.int .i64 0)).setCell ⟨gb189, 1, none⟩ (.int .i64 0)) = w122 at n0_ n1_ n2_ n3_ n4_ n5_ n6_ ⊢
                          have HO183 := n0_
                          have BK161 := n1_
                          have BK171 := n2_
                          have BK172 := n3_
                          have BK188 := n4_
                          have BK189 := n5_
                          have HB := n6_
                          clear n0_ n1_ n2_ n3_ n4_ n5_ n6_
                          have n0_ := Aside0.mk (Kd.R_drew HO183.out)
                          have n1_ := Aside0.mk (bD BK161.out)
                          have n2_ := Aside0.mk (bD BK171.out)
                          have n3_ := Aside0.mk (bD BK172.out)
                          have n4_ := Aside0.mk (bD BK188.out)
                          have n5_ := Aside0.mk (bD BK189.out)
                          have n6_ := Aside0.mk (pD HB.out)
                          clear HO183
                          clear BK161
                          clear BK171
                          clear BK172
                          clear BK188
                          clear BK189
                          clear HB
                          have HO183 := n0_
                          have BK161 := n1_
                          have BK171 := n2_
                          have BK172 := n3_
                          have BK188 := n4_
                          have BK189 := n5_
                          have HB := n6_
                          clear n0_ n1_ n2_ n3_ n4_ n5_ n6_
                          refine start_ (n := 9) (S := fun w' => w'.cell? ⟨gb171, 0, none⟩ = some (.int .i64 ((rd_T30 l0_0 x3_1).f0)) ∧ w'.cell? ⟨gb171, 1, none⟩ = some (.int .i64 ((rd_T30 l0_0 x3_1).f1)) ∧ w'.cell? ⟨gb172, 0, none⟩ = some (.int .i64 ((rd_T30 l0_0 x4_3).f0)) ∧ w'.cell? ⟨gb172, 1, none⟩ = some (.int .i64 ((rd_T30 l0_0 x4_3).f1))) (ds := []) #[false, false, false, false, false, false, false, false, false] (by kernel_rfl) rfl rfl ⟨(bc BK171.out 0).trans rfl, (bc BK171.out 1).trans rfl, (bc BK172.out 0).trans rfl, (bc BK172.out 1).trans rfl⟩ (fun hHeld => ?_); refine with_tabW almagestlaw7_SpanLies.tab27 almagestlaw7_SpanLies.bits27 (fun HT_ HW_ => ?_)
                          generalize w122.drew = w123 at HO183 BK161 BK171 BK172 BK188 BK189 HB hHeld ⊢
                          refine take_ (i := 0) (N := some 118) (v := ?_) (a' := ?_) #[true, false, false, false, false, false, false, false, false] rfl rfl (take_ofW HT_.out HW_.out (by kernel_rfl)) (fun _ _ _ h => h) (Or.inl ⟨by rfl, ?_⟩) hHeld ?_ ?_
                          rotate_left
                          ·
                           rintro w' ⟨s0, s1, s2, s3⟩
                           go_simp
                           with_reducible rfl
                          rotate_left
                          ·
                           simp only [Act.put, List.setIfInBounds_toArray, List.set_cons_zero, List.set_cons_succ, i64_w, i32_w]
                           rfl
                          refine take_ (i := 1) (N := some 119) (v := ?_) (a' := ?_) #[true, true, false, false, false, false, false, false, false] rfl rfl (take_ofW HT_.out HW_.out (by kernel_rfl)) (fun _ _ _ h => h) (Or.inl ⟨by rfl, ?_⟩) hHeld ?_ ?_
                          rotate_left
                          ·
                           rintro w' ⟨s0, s1, s2, s3⟩
                           go_simp
                           with_reducible rfl
                          rotate_left
                          ·
                           simp only [Act.put, List.setIfInBounds_toArray, List.set_cons_zero, List.set_cons_succ, i64_w, i32_w]
                           rfl
                          refine take_ (i := 3) (N := some 121) (v := ?_) (a' := ?_) #[true, true, false, true, false, false, false, false, false] rfl rfl (take_ofW HT_.out HW_.out (by kernel_rfl)) (fun _ _ _ h => h) (Or.inl ⟨by rfl, ?_⟩) hHeld ?_ ?_
                          rotate_left
                          ·
                           rintro w' ⟨s0, s1, s2, s3⟩
                           go_simp
                           with_reducible rfl
                          rotate_left
                          ·
                           simp only [Act.put, List.setIfInBounds_toArray, List.set_cons_zero, List.set_cons_succ, i64_w, i32_w]
                           rfl
                          refine take_ (i := 4) (N := some 122) (v := ?_) (a' := ?_) #[true, true, false, true, true, false, false, false, false] rfl rfl (take_ofW HT_.out HW_.out (by kernel_rfl)) (fun _ _ _ h => h) (Or.inl ⟨by rfl, ?_⟩) hHeld ?_ ?_
                          rotate_left
                          ·
                           rintro w' ⟨s0, s1, s2, s3⟩
                           go_simp
                           with_reducible rfl
                          rotate_left
                          ·
                           simp only [Act.put, List.setIfInBounds_toArray, List.set_cons_zero, List.set_cons_succ, i64_w, i32_w]
                           rfl
                          refine one_ (i := 2) (N := some 120) #[true, true, true, true, true, false, false, false, false] rfl rfl (one_of HT_.out (by kernel_rfl)) (by decide) (fun K hK => ?_)
                          refine goes_ Try.func31 (by kernel_rfl) rfl #[.agg #[.int .i64 ((rd_T30 l0_0 x3_1).f0), .int .i64 ((rd_T30 l0_0 x3_1).f1)], .agg #[.int .i64 ((rd_T30 l0_0 x4_3).f0), .int .i64 ((rd_T30 l0_0 x4_3).f1)]] (by rfl) rfl rfl (by (try simp only [List.map_toArray, List.map_cons, List.map_nil]); first | done | rfl | (simp only [List.length_drop, List.length_take]; rfl)) ?_
                          with_reducible refine (almagestref7_All.calls k6 ((rd_T30 l0_0 x3_1).f0) ((rd_T30 l0_0 x3_1).f1) ((rd_T30 l0_0 x4_3).f0) ((rd_T30 l0_0 x4_3).f1) t190 _ A120.out).mono ?_
                          rintro e w124 ⟨v191, rfl, ho0, hb⟩
                          refine ⟨_, rfl, ?_⟩
                          have n0_ := Aside0.mk (Kd.R_elder' (by (with_reducible repeat (first | apply Kd.R_alloc | apply Kd.R_drewN | apply Kd.R_drew)); exact HO183.out) (Kd.R_base ho0) hb)
                          have n1_ := Aside0.mk (Kd.R_lower (Kd.R_new' ho0 (Kd.R_lt (by (with_reducible repeat (first | apply Kd.R_alloc | apply Kd.R_drewN | apply Kd.R_drew)); exact HO183.out))) (below_size (by repeat (first | (with_reducible first | exact HB.out | apply pA | apply pN | apply pD | refine below_set ?_ GE161.out | refine below_set ?_ GE171.out | refine below_set ?_ GE172.out | refine below_set ?_ GE188.out | refine below_set ?_ GE189.out) | exact HB.out))))
                          have n2_ := Aside0.mk (blk_below (g := gb161) (o := .cells #[.slice (some ad164) l0_0.length c0_0, .slice A0_1 l0_1.length c0_1, .slice A0_2 l0_2.length c0_2] 26 (0, 0)) (by (with_reducible repeat (first | refine bN ?_ _ | refine bD ?_ | refine bA ?_ _)); exact BK161.out) hb)
                          have n3_ := Aside0.mk (blk_below (g := gb171) (o := .cells #[.int .i64 ((rd_T30 l0_0 x3_1).f0), .int .i64 ((rd_T30 l0_0 x3_1).f1)] 30 (0, 0)) (by (with_reducible repeat (first | refine bN ?_ _ | refine bD ?_ | refine bA ?_ _)); exact BK171.out) hb)
                          have n4_ := Aside0.mk (blk_below (g := gb172) (o := .cells #[.int .i64 ((rd_T30 l0_0 x4_3).f0), .int .i64 ((rd_T30 l0_0 x4_3).f1)] 30 (0, 0)) (by (with_reducible repeat (first | refine bN ?_ _ | refine bD ?_ | refine bA ?_ _)); exact BK172.out) hb)
                          have n5_ := Aside0.mk (blk_below (g := gb188) (o := .cells #[.int .i64 t185, .int .i64 t186] 30 (0, 0)) (by (with_reducible repeat (first | refine bN ?_ _ | refine bD ?_ | refine bA ?_ _)); exact BK188.out) hb)
                          have n6_ := Aside0.mk (blk_below (g := gb189) (o := .cells #[.int .i64 0, .int .i64 0] 30 (0, 0)) (by (with_reducible repeat (first | refine bN ?_ _ | refine bD ?_ | refine bA ?_ _)); exact BK189.out) hb)
                          have n7_ := Aside0.mk (below_step (by repeat (first | (with_reducible first | exact HB.out | apply pA | apply pN | apply pD | refine below_set ?_ GE161.out | refine below_set ?_ GE171.out | refine below_set ?_ GE172.out | refine below_set ?_ GE188.out | refine below_set ?_ GE189.out) | exact HB.out)) hb)
                          clear HO183
                          clear BK161
                          clear BK171
                          clear BK172
                          clear BK188
                          clear BK189
                          clear HB
                          have HO183 := n0_
                          have HO192 := n1_
                          have BK161 := n2_
                          have BK171 := n3_
                          have BK172 := n4_
                          have BK188 := n5_
                          have BK189 := n6_
                          have HB := n7_
                          clear n0_ n1_ n2_ n3_ n4_ n5_ n6_ n7_
                          (try clear hb)
                          (try clear hb2)
                          (try clear hk)
                          (try clear hi)
                          (try clear ho0)
                          refine hK.out _ _ ⟨(bc BK171.out 0).trans rfl, (bc BK171.out 1).trans rfl, (bc BK172.out 0).trans rfl, (bc BK172.out 1).trans rfl⟩ (fun hHeld => ?_)
                          clear hK K
                          refine norm_ (a' := ?_) ?_ ?_
                          rotate_left
                          ·
                           show Act.put _ (some 120) _ = _
                           simp only [Act.put, List.setIfInBounds_toArray, List.set_cons_zero, List.set_cons_succ, i64_w, i32_w]
                           rfl
                          refine one_ (i := 5) (N := some 123) #[true, true, true, true, true, true, false, false, false] rfl rfl (one_of HT_.out (by kernel_rfl)) (by decide) (fun K hK => ?_)
                          refine goes_ Try.func32 (by kernel_rfl) rfl #[.agg #[.int .i64 ((rd_T30 l0_0 x3_1).f0), .int .i64 ((rd_T30 l0_0 x3_1).f1)], .agg #[.int .i64 ((rd_T30 l0_0 x4_3).f0), .int .i64 ((rd_T30 l0_0 x4_3).f1)]] (by rfl) rfl rfl (by (try simp only [List.map_toArray, List.map_cons, List.map_nil]); first | done | rfl | (simp only [List.length_drop, List.length_take]; rfl)) ?_
                          with_reducible refine (almagestref7_Hull.calls ((rd_T30 l0_0 x3_1).f0) ((rd_T30 l0_0 x3_1).f1) ((rd_T30 l0_0 x4_3).f0) ((rd_T30 l0_0 x4_3).f1) t193 t194 _ A121.out).mono ?_
                          rintro e w125 ⟨rfl, hb⟩
                          refine ⟨_, rfl, ?_⟩
                          have n0_ := Aside0.mk (Kd.R_below (by (with_reducible repeat (first | apply Kd.R_alloc | apply Kd.R_drewN | apply Kd.R_drew)); exact HO183.out) hb)
                          have n1_ := Aside0.mk (Kd.R_below (by (with_reducible repeat (first | apply Kd.R_alloc | apply Kd.R_drewN | apply Kd.R_drew)); exact HO192.out) hb)
                          have n2_ := Aside0.mk (blk_below (g := gb161) (o := .cells #[.slice (some ad164) l0_0.length c0_0, .slice A0_1 l0_1.length c0_1, .slice A0_2 l0_2.length c0_2] 26 (0, 0)) (by (with_reducible repeat (first | refine bN ?_ _ | refine bD ?_ | refine bA ?_ _)); exact BK161.out) hb)
                          have n3_ := Aside0.mk (blk_below (g := gb171) (o := .cells #[.int .i64 ((rd_T30 l0_0 x3_1).f0), .int .i64 ((rd_T30 l0_0 x3_1).f1)] 30 (0, 0)) (by (with_reducible repeat (first | refine bN ?_ _ | refine bD ?_ | refine bA ?_ _)); exact BK171.out) hb)
                          have n4_ := Aside0.mk (blk_below (g := gb172) (o := .cells #[.int .i64 ((rd_T30 l0_0 x4_3).f0), .int .i64 ((rd_T30 l0_0 x4_3).f1)] 30 (0, 0)) (by (with_reducible repeat (first | refine bN ?_ _ | refine bD ?_ | refine bA ?_ _)); exact BK172.out) hb)
                          have n5_ := Aside0.mk (blk_below (g := gb188) (o := .cells #[.int .i64 t185, .int .i64 t186] 30 (0, 0)) (by (with_reducible repeat (first | refine bN ?_ _ | refine bD ?_ | refine bA ?_ _)); exact BK188.out) hb)
                          have n6_ := Aside0.mk (blk_below (g := gb189) (o := .cells #[.int .i64 0, .int .i64 0] 30 (0, 0)) (by (with_reducible repeat (first | refine bN ?_ _ | refine bD ?_ | refine bA ?_ _)); exact BK189.out) hb)
                          have n7_ := Aside0.mk (below_step (by repeat (first | (with_reducible first | exact HB.out | apply pA | apply pN | apply pD | refine below_set ?_ GE161.out | refine below_set ?_ GE171.out | refine below_set ?_ GE172.out | refine below_set ?_ GE188.out | refine below_set ?_ GE189.out) | exact HB.out)) hb)
                          clear HO183
                          clear HO192
                          clear BK161
                          clear BK171
                          clear BK172
                          clear BK188
                          clear BK189
                          clear HB
                          have HO183 := n0_
                          have HO192 := n1_
                          have BK161 := n2_
                          have BK171 := n3_
                          have BK172 := n4_
                          have BK188 := n5_
                          have BK189 := n6_
                          have HB := n7_
                          clear n0_ n1_ n2_ n3_ n4_ n5_ n6_ n7_
                          (try clear hb)
                          (try clear hb2)
                          (try clear hk)
                          (try clear hi)
                          refine hK.out _ _ ⟨(bc BK171.out 0).trans rfl, (bc BK171.out 1).trans rfl, (bc BK172.out 0).trans rfl, (bc BK172.out 1).trans rfl⟩ (fun hHeld => ?_)
                          clear hK K
                          refine norm_ (a' := ?_) ?_ ?_
                          rotate_left
                          ·
                           show Act.put _ (some 123) _ = _
                           simp only [Act.put, List.setIfInBounds_toArray, List.set_cons_zero, List.set_cons_succ, i64_w, i32_w]
                           rfl
                          refine pure_ (i := 6) (N := some 17) (v := ?_) (a' := ?_) #[true, true, true, true, true, true, true, false, false] rfl rfl (any_of HT_.out (by kernel_rfl)) (fun _ _ _ h => h) (Or.inl ⟨by rfl, ?_⟩) ?_ ?_
                          rotate_left
                          ·
                           intro w'
                           go_simp
                           with_reducible rfl
                          rotate_left
                          ·
                           simp only [Act.put, List.setIfInBounds_toArray, List.set_cons_zero, List.set_cons_succ, i64_w, i32_w]
                           rfl
                          refine pure_ (i := 7) (N := some 19) (v := ?_) (a' := ?_) #[true, true, true, true, true, true, true, true, false] rfl rfl (any_of HT_.out (by kernel_rfl)) (fun _ _ _ h => h) (Or.inl ⟨by rfl, ?_⟩) ?_ ?_
                          rotate_left
                          ·
                           intro w'
                           go_simp
                           with_reducible rfl
                          rotate_left
                          ·
                           simp only [Act.put, List.setIfInBounds_toArray, List.set_cons_zero, List.set_cons_succ, i64_w, i32_w]
                           rfl
                          refine one_ (i := 8) (N := none) #[true, true, true, true, true, true, true, true, true] rfl rfl (one_of HT_.out (by kernel_rfl)) (by decide) (fun K hK => ?_)
                          have hs126 : w125.cell? ⟨gb189, 0, none⟩ = some (.int .i64 0) := (bc BK189.out 0).trans rfl
                          have hfs126 := bf BK189.out 0
                          have hns126_0 := NB161_189.out
                          have hns126_1 := NB171_189.out
                          have hns126_2 := NB172_189.out
                          have hns126_3 := NB188_189.out
                          have hms126_0 := NB189_161.out
                          have hms126_1 := NB189_171.out
                          have hms126_2 := NB189_172.out
                          have hms126_3 := NB189_188.out
                          have hs127 : w125.cell? ⟨gb189, 1, none⟩ = some (.int .i64 0) := (bc BK189.out 1).trans rfl
                          have hfs127 := bf BK189.out 1
                          have hns127_0 := NB161_189.out
                          have hns127_1 := NB171_189.out
                          have hns127_2 := NB172_189.out
                          have hns127_3 := NB188_189.out
                          have hms127_0 := NB189_161.out
                          have hms127_1 := NB189_171.out
                          have hms127_2 := NB189_172.out
                          have hms127_3 := NB189_188.out
                          refine skip_ (w1 := ?_) (by rfl) rfl ?_ ?_
                          rotate_left
                          ·
                           go_simp
                           rfl
                          refine hK.out _ _ ⟨((cf (p := ⟨gb189, _, none⟩) NB171_189.out _).trans (((cf (p := ⟨gb189, _, none⟩) NB171_189.out _).trans (hHeld.1)))), ((cf (p := ⟨gb189, _, none⟩) NB171_189.out _).trans (((cf (p := ⟨gb189, _, none⟩) NB171_189.out _).trans (hHeld.2.1)))), ((cf (p := ⟨gb189, _, none⟩) NB172_189.out _).trans (((cf (p := ⟨gb189, _, none⟩) NB172_189.out _).trans (hHeld.2.2.1)))), ((cf (p := ⟨gb189, _, none⟩) NB172_189.out _).trans (((cf (p := ⟨gb189, _, none⟩) NB172_189.out _).trans (hHeld.2.2.2))))⟩ (fun hHeld => ?_)
                          clear hK K
                          refine done_ (done_of HT_.out (by kernel_rfl)) ?_
                          try go_wp2
                          go_meet
                          case rel => exact ⟨_, (0), (t190), (t193), (t194), (by first | rfl | (simp; done) | (simp [*]; done)), H', ⟨by have := HK1.out; have := HJ9.out; have := HK3.out; have := HJ26.out; have := HJ35.out; have := HK6.out; first | omega | exact Nat.le_refl _⟩, ⟨by (with_reducible repeat (first | apply Kd.R_alloc | apply Kd.R_drewN | apply Kd.R_drew)); exact Kd.R_mono (Kd.R_far (p := ⟨gb189, 1, none⟩) (Kd.R_far (p := ⟨gb189, 0, none⟩) (Kd.R_types HO183.out BK189.out (by decide)) (fun _ hk => hk.2) (.int .i64 t193)) (fun _ hk => hk.2) (.int .i64 t194)) (fun _ hk => hk.1.2)⟩, ⟨by (with_reducible repeat (first | apply Kd.R_alloc | apply Kd.R_drewN | apply Kd.R_drew)); exact Kd.R_mono (Kd.R_far (p := ⟨gb189, 1, none⟩) (Kd.R_far (p := ⟨gb189, 0, none⟩) (Kd.R_types HO192.out BK189.out (by decide)) (fun _ hk => hk.2) (.int .i64 t193)) (fun _ hk => hk.2) (.int .i64 t194)) (fun _ hk => hk.1.2)⟩, ⟨by (with_reducible repeat (first | refine bN ?_ _ | refine bD ?_ | refine bA ?_ _)); refine blk_far ?_ NB161_189.out _; (with_reducible repeat (first | refine bN ?_ _ | refine bD ?_ | refine bA ?_ _)); refine blk_far ?_ NB161_189.out _; (with_reducible repeat (first | refine bN ?_ _ | refine bD ?_ | refine bA ?_ _)); exact BK161.out⟩, ⟨by (with_reducible repeat (first | refine bN ?_ _ | refine bD ?_ | refine bA ?_ _)); refine blk_far ?_ NB171_189.out _; (with_reducible repeat (first | refine bN ?_ _ | refine bD ?_ | refine bA ?_ _)); refine blk_far ?_ NB171_189.out _; (with_reducible repeat (first | refine bN ?_ _ | refine bD ?_ | refine bA ?_ _)); exact BK171.out⟩, ⟨by (with_reducible repeat (first | refine bN ?_ _ | refine bD ?_ | refine bA ?_ _)); refine blk_far ?_ NB172_189.out _; (with_reducible repeat (first | refine bN ?_ _ | refine bD ?_ | refine bA ?_ _)); refine blk_far ?_ NB172_189.out _; (with_reducible repeat (first | refine bN ?_ _ | refine bD ?_ | refine bA ?_ _)); exact BK172.out⟩, ⟨by (with_reducible repeat (first | refine bN ?_ _ | refine bD ?_ | refine bA ?_ _)); refine blk_far ?_ NB188_189.out _; (with_reducible repeat (first | refine bN ?_ _ | refine bD ?_ | refine bA ?_ _)); refine blk_far ?_ NB188_189.out _; (with_reducible repeat (first | refine bN ?_ _ | refine bD ?_ | refine bA ?_ _)); exact BK188.out⟩, ⟨by (with_reducible repeat (first | refine bN ?_ _ | refine bD ?_ | refine bA ?_ _)); refine blk_put (cs := #[.int .i64 t193, .int .i64 0]) ?_ 1 _ rfl; (with_reducible repeat (first | refine bN ?_ _ | refine bD ?_ | refine bA ?_ _)); refine blk_put (cs := #[.int .i64 0, .int .i64 0]) ?_ 0 _ rfl; (with_reducible repeat (first | refine bN ?_ _ | refine bD ?_ | refine bA ?_ _)); exact BK189.out⟩, ⟨by repeat (first | (with_reducible first | exact HB.out | apply pA | apply pN | apply pD | refine below_set ?_ GE161.out | refine below_set ?_ GE171.out | refine below_set ?_ GE172.out | refine below_set ?_ GE188.out | refine below_set ?_ GE189.out) | exact HB.out)⟩⟩
                         ·
                          replace c119 := Bool.eq_false_iff.mpr c119
                          subst c119
                          have H1 : (almagestlaw7_SpanLies.j7 k6 x3_1 x4_3 t181 t184 t187 1 ([] : List Int) l0_0 l0_1 l0_2 t185 t186 0 0) = some r := by rw [if_neg (show ¬ (false = true) by decide)] at H; exact H
                          clear H
                          have H := H1
                          clear H1
                          have H' := Aside0.mk H
                          clear H
                          go_wp2
                          go_meet
                          case rel => exact ⟨_, (1), (([] : List Int)), (0), (0), (by first | rfl | (simp; done) | (simp [*]; done)), H', ⟨by have := HK1.out; have := HJ9.out; have := HK3.out; have := HJ26.out; have := HJ35.out; have := HK6.out; first | omega | exact Nat.le_refl _⟩, ⟨by (with_reducible repeat (first | apply Kd.R_alloc | apply Kd.R_drewN | apply Kd.R_drew)); exact Kd.R_mono (Kd.R_far (p := ⟨gb189, 1, none⟩) (Kd.R_far (p := ⟨gb189, 0, none⟩) (Kd.R_types HO183.out BK189.out (by decide)) (fun _ hk => hk.2) (.int .i64 0)) (fun _ hk => hk.2) (.int .i64 0)) (fun _ hk => (by simp [Value.ownBlock]))⟩, ⟨by first | exact Kd.R_nil _ _ _ _ _ | exact Kd.N_nil _ _ _ _ _ | exact Kd.V_nil _ _ _ _ _ | exact Kd.Q_nil _ _ _ _ _ | exact Kd.S_nil _ _ _ _ _⟩, ⟨by (with_reducible repeat (first | refine bN ?_ _ | refine bD ?_ | refine bA ?_ _)); refine blk_far ?_ NB161_189.out _; (with_reducible repeat (first | refine bN ?_ _ | refine bD ?_ | refine bA ?_ _)); refine blk_far ?_ NB161_189.out _; (with_reducible repeat (first | refine bN ?_ _ | refine bD ?_ | refine bA ?_ _)); exact BK161.out⟩, ⟨by (with_reducible repeat (first | refine bN ?_ _ | refine bD ?_ | refine bA ?_ _)); refine blk_far ?_ NB171_189.out _; (with_reducible repeat (first | refine bN ?_ _ | refine bD ?_ | refine bA ?_ _)); refine blk_far ?_ NB171_189.out _; (with_reducible repeat (first | refine bN ?_ _ | refine bD ?_ | refine bA ?_ _)); exact BK171.out⟩, ⟨by (with_reducible repeat (first | refine bN ?_ _ | refine bD ?_ | refine bA ?_ _)); refine blk_far ?_ NB172_189.out _; (with_reducible repeat (first | refine bN ?_ _ | refine bD ?_ | refine bA ?_ _)); refine blk_far ?_ NB172_189.out _; (with_reducible repeat (first | refine bN ?_ _ | refine bD ?_ | refine bA ?_ _)); exact BK172.out⟩, ⟨by (with_reducible repeat (first | refine bN ?_ _ | refine bD ?_ | refine bA ?_ _)); refine blk_far ?_ NB188_189.out _; (with_reducible repeat (first | refine bN ?_ _ | refine bD ?_ | refine bA ?_ _)); refine blk_far ?_ NB188_189.out _; (with_reducible repeat (first | refine bN ?_ _ | refine bD ?_ | refine bA ?_ _)); exact BK188.out⟩, ⟨by (with_reducible repeat (first | refine bN ?_ _ | refine bD ?_ | refine bA ?_ _)); refine blk_put (cs := #[.int .i64 0, .int .i64 0]) ?_ 1 _ rfl; (with_reducible repeat (first | refine bN ?_ _ | refine bD ?_ | refine bA ?_ _)); refine blk_put (cs := #[.int .i64 0, .int .i64 0]) ?_ 0 _ rfl; (with_reducible repeat (first | refine bN ?_ _ | refine bD ?_ | refine bA ?_ _)); exact BK189.out⟩, ⟨by repeat (first | (with_reducible first | exact HB.out | apply pA | apply pN | apply pD | refine below_set ?_ GE161.out | refine below_set ?_ GE171.out | refine below_set ?_ GE172.out | refine below_set ?_ GE188.out | refine below_set ?_ GE189.out) | exact HB.out)⟩⟩
                        case rest =>
                         clear HC98
                         try clear c1
                         try clear p1
                         try clear q1
                         try clear hx1
                         try clear c2
                         try clear p2
                         try clear c3
                         try clear c4
                         try clear c5
                         try clear c6
                         try clear p6
                         try clear c7
                         try clear c8
                         try clear c9
                         try clear c10
                         try clear c11
                         try clear c11b0
                         try clear c14
                         try clear c15
                         try clear c15b0
                         try clear c16
                         try clear c16b0
                         try clear p16
                         try clear q16
                         try clear hx16
                         try clear c17
                         try clear p17
                         try clear q17
                         try clear hx17
                         try clear c19
                         try clear c20
                         try clear c20b0
                         try clear c20b1
                         try clear c20b2
                         try clear c21
                         try clear c22
                         try clear c26
                         try clear c27
                         try clear c28
                         try clear c28b0
                         try clear c30
                         try clear c31
                         try clear c32
                         try clear c32b0
                         try clear c33
                         try clear c33b0
                         try clear c34
                         try clear c34b0
                         try clear c35
                         try clear c35b0
                         try clear c46
                         try clear c48
                         try clear c49
                         try clear c52
                         try clear c55
                         try clear c56
                         try clear c59
                         try clear c59b0
                         try clear c62
                         try clear c63
                         try clear p64
                         try clear c65
                         try clear c68
                         try clear c70
                         try clear c73
                         try clear c73b0
                         try clear c73b1
                         try clear c74
                         try clear c74b0
                         try clear c74b1
                         try clear c74b2
                         try clear c75
                         try clear c76
                         try clear c78
                         try clear c81
                         try clear c82
                         try clear c84
                         try clear c87
                         try clear c88
                         try clear c90
                         try clear c94
                         try clear c94b0
                         try clear c94b1
                         try clear c95
                         try clear c95b0
                         try clear c95b1
                         try clear c95b2
                         try clear c99
                         try clear c100
                         try clear c102
                         try clear c109
                         try clear c110
                         try clear c111
                         try clear c114
                         try clear c115
                         try clear c116
                         try clear c117
                         try clear c119
                         try clear hcz101_0
                         try clear hcz101_1
                         try clear hcz103_0
                         try clear hcz103_1
                         try clear hcz105_0
                         try clear hcz105_1
                         try clear hcz106_0
                         try clear hcz106_1
                         try clear hcz112_0
                         try clear hcz112_1
                         try clear hcz118_0
                         try clear hcz118_1
                         try clear hcz12_0
                         try clear hcz12_1
                         try clear hcz12_2
                         try clear hcz13_0
                         try clear hcz13_1
                         try clear hcz13_2
                         try clear hcz29_0
                         try clear hcz29_1
                         try clear hcz29_2
                         try clear hcz30_0
                         try clear hcz30_1
                         try clear hcz30_2
                         try clear hcz50_0
                         try clear hcz50_1
                         try clear hcz53_0
                         try clear hcz53_1
                         try clear hcz57_0
                         try clear hcz57_1
                         try clear hcz5_0
                         try clear hcz5_1
                         try clear hcz5_2
                         try clear hcz64_0
                         try clear hcz64_1
                         try clear hcz66_0
                         try clear hcz66_1
                         try clear hcz77_0
                         try clear hcz77_1
                         try clear hcz79_0
                         try clear hcz79_1
                         try clear hcz83_0
                         try clear hcz83_1
                         try clear hcz85_0
                         try clear hcz85_1
                         try clear hcz89_0
                         try clear hcz89_1
                         try clear hcz8_0
                         try clear hcz8_1
                         try clear hcz8_2
                         try clear hcz91_0
                         try clear hcz91_1
                         try clear hfz101_0
                         try clear hfz101_1
                         try clear hfz103_0
                         try clear hfz103_1
                         try clear hfz105_0
                         try clear hfz105_1
                         try clear hfz106_0
                         try clear hfz106_1
                         try clear hfz112_0
                         try clear hfz112_1
                         try clear hfz118_0
                         try clear hfz118_1
                         try clear hfz12_0
                         try clear hfz12_1
                         try clear hfz12_2
                         try clear hfz13_0
                         try clear hfz13_1
                         try clear hfz13_2
                         try clear hfz29_0
                         try clear hfz29_1
                         try clear hfz29_2
                         try clear hfz30_0
                         try clear hfz30_1
                         try clear hfz30_2
                         try clear hfz50_0
                         try clear hfz50_1
                         try clear hfz53_0
                         try clear hfz53_1
                         try clear hfz57_0
                         try clear hfz57_1
                         try clear hfz5_0
                         try clear hfz5_1
                         try clear hfz5_2
                         try clear hfz64_0
                         try clear hfz64_1
                         try clear hfz66_0
                         try clear hfz66_1
                         try clear hfz77_0
                         try clear hfz77_1
                         try clear hfz79_0
                         try clear hfz79_1
                         try clear hfz83_0
                         try clear hfz83_1
                         try clear hfz85_0
                         try clear hfz85_1
                         try clear hfz89_0
                         try clear hfz89_1
                         try clear hfz8_0
                         try clear hfz8_1
                         try clear hfz8_2
                         try clear hfz91_0
                         try clear hfz91_1
                         try clear hx164_0
                         try clear hx164_1
                         try clear hx167_0
                         try clear hx167_1
                         try clear hx169_0
                         try clear hx169_1
                         try clear hx170_0
                         try clear hx170_1
                         try clear p1
                         try clear p16
                         try clear p164
                         try clear p167
                         try clear p169
                         try clear p17
                         try clear p170
                         try clear p2
                         try clear q1
                         try clear q16
                         try clear q164
                         try clear q167
                         try clear q169
                         try clear q17
                         try clear q170
                         obtain ⟨kq, x17_97, x19_97, x190000_97, x190001_97, rfl, HA, HJ97, HO_13, HO_19, BK161, BK171, BK172, BK188, BK189, HB⟩ := hcut
                         cases kq with
                         | zero => exact absurd HA.out (by simp [almagestlaw7_SpanLies.j7])
                         | succ kj97 =>
                          have H := HA.out
                          clear HA
                          simp only [almagestlaw7_SpanLies.j7] at H
                          replace H := Option.bind_eq_some_iff.mp H
                          obtain ⟨t195, A1280, H⟩ := H
                          replace H : (if t195 = x17_97 then ((almagestlaw7_num.f t187).bind fun t196 => (if t196 = x17_97 then ((almagestref0_EqNumbers.f kj97 t181 x19_97).bind fun t197 => (if t197 = true then (if (!(t185 == x190000_97) || (!(t186 == x190001_97))) = true then (some false) else (almagestlaw7_SpanLies.l1 kj97 x3_1 (wrap64 (x4_3 + 1)) l0_0 l0_1 l0_2)) else (some false))) else (some false))) else (some false)) = some r := H
                          have A128 := Aside0.mk A1280
                          clear A1280
                          by_cases c129 : t195 = x17_97
                          ·
                           rw [if_pos c129] at H
                           have c129b0 : (t195 == x17_97) = true := beq_iff_eq.mpr c129
                           have c129b1 : (t195 != x17_97) = false := bne_eq_false_iff_eq.mpr c129
                           clear c129
                           replace H := Option.bind_eq_some_iff.mp H
                           obtain ⟨t196, A1300, H⟩ := H
                           replace H : (if t196 = x17_97 then ((almagestref0_EqNumbers.f kj97 t181 x19_97).bind fun t197 => (if t197 = true then (if (!(t185 == x190000_97) || (!(t186 == x190001_97))) = true then (some false) else (almagestlaw7_SpanLies.l1 kj97 x3_1 (wrap64 (x4_3 + 1)) l0_0 l0_1 l0_2)) else (some false))) else (some false)) = some r := H
                           have A130 := Aside0.mk A1300
                           clear A1300
                           by_cases c131 : t196 = x17_97
                           ·
                            rw [if_pos c131] at H
                            have c131b0 : (t196 == x17_97) = true := beq_iff_eq.mpr c131
                            have c131b1 : (t196 != x17_97) = false := bne_eq_false_iff_eq.mpr c131
                            clear c131
                            replace H := Option.bind_eq_some_iff.mp H
                            obtain ⟨t197, A1320, H⟩ := H
                            replace H : (if t197 = true then (if (!(t185 == x190000_97) || (!(t186 == x190001_97))) = true then (some false) else (almagestlaw7_SpanLies.l1 kj97 x3_1 (wrap64 (x4_3 + 1)) l0_0 l0_1 l0_2)) else (some false)) = some r := H
                            have A132 := Aside0.mk A1320
                            clear A1320
                            by_cases c133 : t197 = true
                            ·
                             subst c133
                             have H1 : (if (!(t185 == x190000_97) || (!(t186 == x190001_97))) = true then (some false) else (almagestlaw7_SpanLies.l1 kj97 x3_1 (wrap64 (x4_3 + 1)) l0_0 l0_1 l0_2)) = some r := by rw [if_pos rfl] at H; exact H
                             clear H
                             have H := H1
                             clear H1
                             by_cases c134 : (!(t185 == x190000_97) || (!(t186 == x190001_97))) = true
                             ·
                              rw [if_pos c134] at H
                              have c134b0 : (!(t185 == x190000_97) || (!(t186 == x190001_97))) = true := c134
                              clear c134
                              obtain rfl := Option.some.inj H
                              go_wp2_with (first | ((with_reducible refine gc (f := 22) rfl ?_); refine goesL_ (some 125) rfl rfl Try.func22 (by kernel_rfl) rfl #[.int .i64 t184] rfl (by (try simp only [List.map_toArray, List.map_cons, List.map_nil]); first | done | rfl | (simp only [List.length_drop, List.length_take]; rfl)) ?_; (with_reducible refine (almagestlaw7_num.calls t184 t195 _ A128.out).mono ?_); rintro e w' ⟨rfl, ⟨nd, rfl⟩⟩; refine ⟨_, rfl, ?_⟩) | (go_at_call 22; (with_reducible refine (almagestlaw7_num.calls t187 t196 _ A130.out).mono ?_); rintro e w' ⟨rfl, ⟨nd, rfl⟩⟩; obtain ⟨Ao135, co135, eo135⟩ := Kd.R_slice HO_13.out; subst eo135; obtain ⟨Ao136, co136, eo136⟩ := Kd.R_slice HO_19.out; subst eo136) | (go_at_call 33; (with_reducible refine (almagestref0_EqNumbers.calls kj97 _ _ t181 _ _ x19_97 true _ ?side1 ?side2 ?side3 ?side4 A132.out).mono ?_); (case side1 => repeat (first | exact (Kd.R_reads' HO_13.out).2.2 | (with_reducible refine Kd.C_alloc ?_ _) | (with_reducible refine Kd.C_drewN ?_ _) | (with_reducible refine Kd.C_drew ?_))); (case side2 => exact (Kd.R_reads' HO_13.out).2.1); (case side3 => repeat (first | exact (Kd.R_reads' HO_19.out).2.2 | (with_reducible refine Kd.C_alloc ?_ _) | (with_reducible refine Kd.C_drewN ?_ _) | (with_reducible refine Kd.C_drew ?_))); (case side4 => exact (Kd.R_reads' HO_19.out).2.1); rintro e w' ⟨rfl, ⟨nd, rfl⟩⟩; have hnb137 := NB188_161.out; have hnc137 := NB161_188.out; have hnb138 := NB188_171.out; have hnc138 := NB171_188.out; have hnb139 := NB188_172.out; have hnc139 := NB172_188.out; have hnb140 := NB188_189.out; have hnc140 := NB189_188.out; have hcz141_0 : wc.cell? ⟨gb188, 0, none⟩ = some (.int .i64 t185) := (bc BK188.out 0).trans rfl; have hcz141_1 : wc.cell? ⟨gb188, 1, none⟩ = some (.int .i64 t186) := (bc BK188.out 1).trans rfl; have hfz141_0 := bf BK188.out 0; have hfz141_1 := bf BK188.out 1; have hnb142 := NB189_161.out; have hnc142 := NB161_189.out; have hnb143 := NB189_171.out; have hnc143 := NB171_189.out; have hnb144 := NB189_172.out; have hnc144 := NB172_189.out; have hcz145_0 : wc.cell? ⟨gb189, 0, none⟩ = some (.int .i64 x190000_97) := (bc BK189.out 0).trans rfl; have hcz145_1 : wc.cell? ⟨gb189, 1, none⟩ = some (.int .i64 x190001_97) := (bc BK189.out 1).trans rfl; have hfz145_0 := bf BK189.out 0; have hfz145_1 := bf BK189.out 1))
                              go_ret
                              exact ⟨by first | rfl | (simp [errW_none, errW_some] <;> rfl) | (simp [*, errW_none, errW_some] <;> rfl), by repeat (first | (with_reducible first | exact HB.out | apply pA | apply pN | apply pD | refine below_set ?_ GE161.out | refine below_set ?_ GE171.out | refine below_set ?_ GE172.out | refine below_set ?_ GE188.out | refine below_set ?_ GE189.out) | exact HB.out)⟩
                             ·
                              rw [if_neg c134] at H
                              have c134b0 : (!(t185 == x190000_97) || (!(t186 == x190001_97))) = false := by simpa using c134
                              clear c134
                              have H' := Aside0.mk H
                              clear H
                              go_wp2_with (first | ((with_reducible refine gc (f := 22) rfl ?_); refine goesL_ (some 125) rfl rfl Try.func22 (by kernel_rfl) rfl #[.int .i64 t184] rfl (by (try simp only [List.map_toArray, List.map_cons, List.map_nil]); first | done | rfl | (simp only [List.length_drop, List.length_take]; rfl)) ?_; (with_reducible refine (almagestlaw7_num.calls t184 t195 _ A128.out).mono ?_); rintro e w' ⟨rfl, ⟨nd, rfl⟩⟩; refine ⟨_, rfl, ?_⟩) | (go_at_call 22; (with_reducible refine (almagestlaw7_num.calls t187 t196 _ A130.out).mono ?_); rintro e w' ⟨rfl, ⟨nd, rfl⟩⟩; obtain ⟨Ao146, co146, eo146⟩ := Kd.R_slice HO_13.out; subst eo146; obtain ⟨Ao147, co147, eo147⟩ := Kd.R_slice HO_19.out; subst eo147) | (go_at_call 33; (with_reducible refine (almagestref0_EqNumbers.calls kj97 _ _ t181 _ _ x19_97 true _ ?side1 ?side2 ?side3 ?side4 A132.out).mono ?_); (case side1 => repeat (first | exact (Kd.R_reads' HO_13.out).2.2 | (with_reducible refine Kd.C_alloc ?_ _) | (with_reducible refine Kd.C_drewN ?_ _) | (with_reducible refine Kd.C_drew ?_))); (case side2 => exact (Kd.R_reads' HO_13.out).2.1); (case side3 => repeat (first | exact (Kd.R_reads' HO_19.out).2.2 | (with_reducible refine Kd.C_alloc ?_ _) | (with_reducible refine Kd.C_drewN ?_ _) | (with_reducible refine Kd.C_drew ?_))); (case side4 => exact (Kd.R_reads' HO_19.out).2.1); rintro e w' ⟨rfl, ⟨nd, rfl⟩⟩; have hnb148 := NB188_161.out; have hnc148 := NB161_188.out; have hnb149 := NB188_171.out; have hnc149 := NB171_188.out; have hnb150 := NB188_172.out; have hnc150 := NB172_188.out; have hnb151 := NB188_189.out; have hnc151 := NB189_188.out; have hcz152_0 : wc.cell? ⟨gb188, 0, none⟩ = some (.int .i64 t185) := (bc BK188.out 0).trans rfl; have hcz152_1 : wc.cell? ⟨gb188, 1, none⟩ = some (.int .i64 t186) := (bc BK188.out 1).trans rfl; have hfz152_0 := bf BK188.out 0; have hfz152_1 := bf BK188.out 1; have hnb153 := NB189_161.out; have hnc153 := NB161_189.out; have hnb154 := NB189_171.out; have hnc154 := NB171_189.out; have hnb155 := NB189_172.out; have hnc155 := NB172_189.out; have hcz156_0 : wc.cell? ⟨gb189, 0, none⟩ = some (.int .i64 x190000_97) := (bc BK189.out 0).trans rfl; have hcz156_1 : wc.cell? ⟨gb189, 1, none⟩ = some (.int .i64 x190001_97) := (bc BK189.out 1).trans rfl; have hfz156_0 := bf BK189.out 0; have hfz156_1 := bf BK189.out 1))
                              go_roundg kj97
                              case measure => have := HK1.out; have := HJ9.out; have := HK3.out; have := HJ26.out; have := HJ35.out; have := HK6.out; have := HJ97.out; omega
                              case rel => exact ⟨(wrap64 (x4_3 + 1)), (by first | rfl | (simp; done) | (simp [*]; done)), H', ⟨by have := HK1.out; have := HJ9.out; have := HK3.out; have := HJ26.out; have := HJ35.out; have := HK6.out; have := HJ97.out; omega⟩, ⟨by (with_reducible repeat (first | refine bN ?_ _ | refine bD ?_ | refine bA ?_ _)); exact BK161.out⟩, ⟨by repeat (first | (with_reducible first | exact HB.out | apply pA | apply pN | apply pD | refine below_set ?_ GE161.out | refine below_set ?_ GE171.out | refine below_set ?_ GE172.out | refine below_set ?_ GE188.out | refine below_set ?_ GE189.out) | exact HB.out)⟩⟩
                            ·
                             replace c133 := Bool.eq_false_iff.mpr c133
                             subst c133
                             have H1 : (some false) = some r := by rw [if_neg (show ¬ (false = true) by decide)] at H; exact H
                             clear H
                             have H := H1
                             clear H1
                             obtain rfl := Option.some.inj H
                             go_wp2_with (first | ((with_reducible refine gc (f := 22) rfl ?_); refine goesL_ (some 125) rfl rfl Try.func22 (by kernel_rfl) rfl #[.int .i64 t184] rfl (by (try simp only [List.map_toArray, List.map_cons, List.map_nil]); first | done | rfl | (simp only [List.length_drop, List.length_take]; rfl)) ?_; (with_reducible refine (almagestlaw7_num.calls t184 t195 _ A128.out).mono ?_); rintro e w' ⟨rfl, ⟨nd, rfl⟩⟩; refine ⟨_, rfl, ?_⟩) | (go_at_call 22; (with_reducible refine (almagestlaw7_num.calls t187 t196 _ A130.out).mono ?_); rintro e w' ⟨rfl, ⟨nd, rfl⟩⟩; obtain ⟨Ao157, co157, eo157⟩ := Kd.R_slice HO_13.out; subst eo157; obtain ⟨Ao158, co158, eo158⟩ := Kd.R_slice HO_19.out; subst eo158) | (go_at_call 33; (with_reducible refine (almagestref0_EqNumbers.calls kj97 _ _ t181 _ _ x19_97 false _ ?side1 ?side2 ?side3 ?side4 A132.out).mono ?_); (case side1 => repeat (first | exact (Kd.R_reads' HO_13.out).2.2 | (with_reducible refine Kd.C_alloc ?_ _) | (with_reducible refine Kd.C_drewN ?_ _) | (with_reducible refine Kd.C_drew ?_))); (case side2 => exact (Kd.R_reads' HO_13.out).2.1); (case side3 => repeat (first | exact (Kd.R_reads' HO_19.out).2.2 | (with_reducible refine Kd.C_alloc ?_ _) | (with_reducible refine Kd.C_drewN ?_ _) | (with_reducible refine Kd.C_drew ?_))); (case side4 => exact (Kd.R_reads' HO_19.out).2.1); rintro e w' ⟨rfl, ⟨nd, rfl⟩⟩))
                             go_ret
                             exact ⟨by first | rfl | (simp [errW_none, errW_some] <;> rfl) | (simp [*, errW_none, errW_some] <;> rfl), by repeat (first | (with_reducible first | exact HB.out | apply pA | apply pN | apply pD | refine below_set ?_ GE161.out | refine below_set ?_ GE171.out | refine below_set ?_ GE172.out | refine below_set ?_ GE188.out | refine below_set ?_ GE189.out) | exact HB.out)⟩
                           ·
                            rw [if_neg c131] at H
                            have c131b0 : (t196 == x17_97) = false := beq_eq_false_iff_ne.mpr c131
                            have c131b1 : (t196 != x17_97) = true := bne_iff_ne.mpr c131
                            obtain rfl := Option.some.inj H
                            go_wp2_with (first | ((with_reducible refine gc (f := 22) rfl ?_); refine goesL_ (some 125) rfl rfl Try.func22 (by kernel_rfl) rfl #[.int .i64 t184] rfl (by (try simp only [List.map_toArray, List.map_cons, List.map_nil]); first | done | rfl | (simp only [List.length_drop, List.length_take]; rfl)) ?_; (with_reducible refine (almagestlaw7_num.calls t184 t195 _ A128.out).mono ?_); rintro e w' ⟨rfl, ⟨nd, rfl⟩⟩; refine ⟨_, rfl, ?_⟩) | (go_at_call 22; (with_reducible refine (almagestlaw7_num.calls t187 t196 _ A130.out).mono ?_); rintro e w' ⟨rfl, ⟨nd, rfl⟩⟩))
                            go_ret
                            exact ⟨by first | rfl | (simp [errW_none, errW_some] <;> rfl) | (simp [*, errW_none, errW_some] <;> rfl), by repeat (first | (with_reducible first | exact HB.out | apply pA | apply pN | apply pD | refine below_set ?_ GE161.out | refine below_set ?_ GE171.out | refine below_set ?_ GE172.out | refine below_set ?_ GE188.out | refine below_set ?_ GE189.out) | exact HB.out)⟩
                          ·
                           rw [if_neg c129] at H
                           have c129b0 : (t195 == x17_97) = false := beq_eq_false_iff_ne.mpr c129
                           have c129b1 : (t195 != x17_97) = true := bne_iff_ne.mpr c129
                           obtain rfl := Option.some.inj H
                           go_wp2_with (first | ((with_reducible refine gc (f := 22) rfl ?_); refine goesL_ (some 125) rfl rfl Try.func22 (by kernel_rfl) rfl #[.int .i64 t184] rfl (by (try simp only [List.map_toArray, List.map_cons, List.map_nil]); first | done | rfl | (simp only [List.length_drop, List.length_take]; rfl)) ?_; (with_reducible refine (almagestlaw7_num.calls t184 t195 _ A128.out).mono ?_); rintro e w' ⟨rfl, ⟨nd, rfl⟩⟩; refine ⟨_, rfl, ?_⟩))
                           go_ret
                           exact ⟨by first | rfl | (simp [errW_none, errW_some] <;> rfl) | (simp [*, errW_none, errW_some] <;> rfl), by repeat (first | (with_reducible first | exact HB.out | apply pA | apply pN | apply pD | refine below_set ?_ GE161.out | refine below_set ?_ GE171.out | refine below_set ?_ GE172.out | refine below_set ?_ GE188.out | refine below_set ?_ GE189.out) | exact HB.out)⟩
                  ·
                   rw [if_neg c35] at H
                   exact absurd H (by simp)
                 ·
                  rw [if_neg c34] at H
                  exact absurd H (by simp)
                ·
                 rw [if_neg c33] at H
                 exact absurd H (by simp)
               ·
                rw [if_neg c32] at H
                exact absurd H (by simp)
              ·
               replace c31 := Bool.eq_false_iff.mpr c31
               subst c31
               have H1 : (almagestlaw7_SpanLies.l0 kj26 (wrap64 (x3_1 + 1)) l0_0 l0_1 l0_2) = some r := by rw [if_neg (show ¬ (false = true) by decide)] at H; exact H
               clear H
               have H := H1
               clear H1
               have H' := Aside0.mk H
               clear H
               go_wp2
               go_roundg kj26
               case measure => have := HK1.out; have := HJ9.out; have := HK3.out; have := HJ26.out; omega
               case rel => exact ⟨(wrap64 (x3_1 + 1)), (by first | rfl | (simp; done) | (simp [*]; done)), H', ⟨by have := HK1.out; have := HJ9.out; have := HK3.out; have := HJ26.out; omega⟩, ⟨by (with_reducible repeat (first | refine bN ?_ _ | refine bD ?_ | refine bA ?_ _)); exact BK161.out⟩, ⟨by repeat (first | (with_reducible first | exact HB.out | apply pA | apply pN | apply pD | refine below_set ?_ GE161.out) | exact HB.out)⟩⟩
        ·
         rw [if_neg c16] at H
         exact absurd H (by simp)
       ·
        rw [if_neg c15] at H
        exact absurd H (by simp)
      ·
       replace c14 := Bool.eq_false_iff.mpr c14
       subst c14
       have H1 : ((almagestlaw7_wakes.f kj9).bind fun t163 => (some t163)) = some r := by rw [if_neg (show ¬ (false = true) by decide)] at H; exact H
       clear H
       have H := H1
       clear H1
       replace H := Option.bind_eq_some_iff.mp H
       obtain ⟨t163, A1590, H⟩ := H
       replace H : (some t163) = some r := H
       have A159 := Aside0.mk A1590
       clear A1590
       obtain rfl := Option.some.inj H
       go_wp2_with (first | ((with_reducible refine gc (f := 25) rfl ?_); refine goesL_ (some 145) rfl rfl Try.func25 (by kernel_rfl) rfl #[] rfl (by (try simp only [List.map_toArray, List.map_cons, List.map_nil]); first | done | rfl | (simp only [List.length_drop, List.length_take]; rfl)) ?_; (with_reducible refine (almagestlaw7_wakes.calls kj9  t163 _ A159.out).mono ?_); rintro e w160 ⟨rfl, hb⟩; refine ⟨_, rfl, ?_⟩; have n0_ := Aside0.mk (blk_below (g := gb161) (o := .cells #[.slice A0_0 l0_0.length c0_0, .slice A0_1 l0_1.length c0_1, .slice A0_2 l0_2.length c0_2] 26 (0, 0)) (by (with_reducible repeat (first | refine bN ?_ _ | refine bD ?_ | refine bA ?_ _)); exact BK161.out) hb); have n1_ := Aside0.mk (below_step (by repeat (first | (with_reducible first | exact HB.out | apply pA | apply pN | apply pD | refine below_set ?_ GE161.out) | exact HB.out)) hb); clear BK161; clear HB; have BK161 := n0_; have HB := n1_; clear n0_ n1_; (try clear hb); (try clear hb2); (try clear hk); (try clear hi)))
       go_ret
       exact ⟨by first | rfl | (simp [errW_none, errW_some] <;> rfl) | (simp [*, errW_none, errW_some] <;> rfl), by repeat (first | (with_reducible first | exact HB.out | apply pA | apply pN | apply pD | refine below_set ?_ GE161.out) | exact HB.out)⟩

end Go.Proofs.Ytkpbhkejfaejhaa.PSpanLies

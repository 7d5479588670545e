/- slices.Grow and slices.Concat at patterns. No condition but that the parts are not great. -/
import Derived.Test.YtnibelnjflhkgaaGreatDoorBs0
import Derived.Test.YtnibelnjflhkgaaGreatDoorGrowA
namespace Go.Proofs.YtnibelnjflhkgaaGreatDoor.Ab
set_option linter.unusedVariables false
set_option linter.unusedSimpArgs false
set_option maxRecDepth 10000
attribute [local go_sem] decide_true decide_false Nat.zero_le Bool.not_true Bool.not_false Bool.false_eq_true if_false if_true forall_const true_and and_true List.map Option.map Bool.and_self Bool.and_true Bool.true_and Bool.false_and Bool.and_false List.getElem?_cons_zero List.getElem?_nil List.getElem?_cons_succ Int.natCast_nonneg Int.toNat_natCast List.length_map List.length_cons List.length_nil Nat.zero_add Nat.le_refl List.drop_zero List.drop_succ_cons List.take_succ_cons List.take_zero List.take_nil ne_eq not_true_eq_false not_false_eq_true upd_same Nat.add_assoc Nat.left_eq_add Nat.add_eq_left Nat.add_left_cancel_iff Nat.succ_ne_self Nat.one_ne_zero Nat.add_zero Nat.le_add_right ite_self List.set_cons_zero List.set_cons_succ List.all_cons List.all_nil bne_self_eq_false List.isEmpty_cons Int.cast_ofNat_Int Nat.mul_one List.nil_append or_self or_true true_or List.cons_append List.append_nil Option.none_beq_some Option.some_beq_some beq_self_eq_true
open Go.RowKit Go.Shelf
/-- A contract whose callee leaves all old memory as it is and answers with an empty slice that has room of its own. -/
theorem fn_room {P : Program} {f : FuncId} {args : List AV} {h : Hp} {sz : Nat} (he : enterOK P f = true)
    (H : ∀ (vs : List Value) (w : World) (g : Gh), vs.length = args.length → SR ⟨argsF args, h⟩ (argsV vs) w g → Amb g w → Calls P f ⟨vs⟩ w (fun e w' => ∃ (b cap : Nat) (cur : Array Value) (t : TypeId), e = .returned (.slice (some ⟨b, 0, none⟩) 0 cap) ∧ Below w.heap.size w w' ∧ w.heap.size ≤ b ∧ w'.heap[b]? = some (.cells cur t (0, 0)) ∧ cur.size = cap * sz ∧ cap ≤ maxLen)) :
    Fn P f args h (.sl .own sz []) h := by
  refine ⟨he, fun vs w g hl hs hab => ?_⟩
  refine (H vs w g hl hs hab).mono ?_
  rintro e w' ⟨b, cap, cur, t, rfl, bel, hb, hheap, hcur, hcap⟩
  have hcell : ∀ b o, g.G b o → w'.cell? ⟨b, o, none⟩ = w.cell? ⟨b, o, none⟩ := fun b o hb => World.cell?_of_block (a := ⟨b, o, none⟩) (bel.block b (hs.G b o hb).1)
  have ext : Ext g w g w' := ⟨Nat.le_refl _, fun _ _ => rfl, fun _ _ h => h, hcell⟩
  have hblk : ∀ l, l < g.n → w'.heap[g.ρ l]? = w.heap[g.ρ l]? := fun l hl => bel.block _ (hs.size_ρ hl)
  have back : ∀ p q, Own ⟨argsF [.sl .own sz []], h⟩ (argsV [.slice (some ⟨b, 0, none⟩) 0 cap]) w' g p q → (p = .slot 0 ∧ q = b) ∨ (∃ l j, p = .cell l j ∧ Own ⟨argsF args, h⟩ (argsV vs) w g p q) := by
    intro p q ho
    cases p with
    | slot i =>
      cases i with
      | zero =>
        obtain ⟨sz', xs, o, len, cap', e1, e2⟩ := ho
        left
        have e2' : Value.slice (some ⟨b, 0, none⟩) 0 cap = .slice (some ⟨q, o, none⟩) len cap' := e2
        simp only [Value.slice.injEq, Option.some.injEq, Addr.mk.injEq] at e2'
        exact ⟨rfl, e2'.1.1.symm⟩
      | succ i => obtain ⟨sz', xs, o, len, cap', e1, e2⟩ := ho; cases e1
    | cell l j =>
      obtain ⟨hl, cs, av, u, h1, h2, h3, h4⟩ := ho
      refine .inr ⟨l, j, rfl, hl, cs, av, u, h1, h2, ?_, h4⟩
      rwa [World.cell?_of_block (a := ⟨g.ρ l, j, none⟩) (hblk l (by rw [hs.n]; exact hl))] at h3
  refine ⟨_, g, rfl, ⟨hs.n, fun i => ?_, fun l hl => BR.mono ext (hblk l hl) (hs.bk l hl), hs.inj, fun b o hG => ⟨Nat.lt_of_lt_of_le (hs.G b o hG).1 bel.size, (hs.G b o hG).2⟩, fun i => ?_, fun l j cs av u hl h1 h2 h3 => ?_, fun p q c hp hq => ?_⟩,
    { ext with os := bel.os, tape := bel.tape, output := bel.output, size := bel.size, blk := fun k hk _ _ => bel.block k hk, newG := fun b o hG => .inl hG, newρ := fun l h1 h2 => absurd h1 (Nat.not_le.2 h2) }, fun c ⟨p, hp⟩ => ?_⟩
  · cases i with
    | zero => exact VR.sl .own sz [] b 0 cap (Nat.zero_le _) hcap (fun e => by cases e) (fun x hx => by cases hx) (.nil _ _)
    | succ i => exact VR.junk _
  · cases i with
    | zero =>
      intro sz' xs q o len cap' e1 e2
      have e1' : AV.sl .own sz [] = .sl .own sz' xs := e1
      have e2' : Value.slice (some ⟨b, 0, none⟩) 0 cap = .slice (some ⟨q, o, none⟩) len cap' := e2
      simp only [AV.sl.injEq, true_and] at e1'
      obtain ⟨rfl, rfl⟩ := e1'
      simp only [Value.slice.injEq, Option.some.injEq, Addr.mk.injEq] at e2'
      obtain ⟨⟨rfl, rfl, _⟩, rfl, rfl⟩ := e2'
      exact ⟨rfl, ⟨cur, t, hheap, hcur⟩, fun j _ hG => by have := (hs.G _ _ hG).1; omega, fun l hl e => by have := hs.size_ρ hl; omega⟩
    | succ i => exact fun sz xs b o len cap e1 e2 => by cases e1
  · have h3' : w.cell? ⟨g.ρ l, j, none⟩ = some u := by rwa [World.cell?_of_block (a := ⟨g.ρ l, j, none⟩) (hblk l hl)] at h3
    intro sz' xs q o len cap' e1 e2
    obtain ⟨t1, ⟨cur', et, t2, t3⟩, t4, t5⟩ := hs.tipC l j cs av u hl h1 h2 h3' sz' xs q o len cap' e1 e2
    have hb : q < w.heap.size := (Array.getElem?_eq_some_iff.1 t2).1
    exact ⟨t1, ⟨cur', et, (bel.block q hb).trans t2, t3⟩, t4, t5⟩
  · rcases back p c hp with ⟨rfl, rfl⟩ | ⟨l, j, rfl, k1⟩
    · rcases back q _ hq with ⟨rfl, _⟩ | ⟨l, j, rfl, k2⟩
      · rfl
      · have := (hs.own_lt k2).1; omega
    · rcases back q _ hq with ⟨rfl, rfl⟩ | ⟨l', j', rfl, k2⟩
      · have := (hs.own_lt k1).1; omega
      · exact hs.one _ _ c k1 k2
  · rcases back p c hp with ⟨rfl, rfl⟩ | ⟨l, j, rfl, k1⟩
    · exact .inr hb
    · exact .inl ⟨_, k1⟩
theorem info_pat : ∃ i z, Tryz.prog.info? (Tryz.growP_ren.t 25) = some i ∧ i.zero = some z ∧ z.cells.size = 9 ∧ i.size = 9 ∧ i.bytes = 144 := by
  have h : ((Tryz.prog.info? (Tryz.growP_ren.t 25)).map fun i => ((i.zero.map fun z => z.cells.size), i.size, i.bytes)) = some (some 9, 9, 144) := by kernel_rfl
  cases hi : Tryz.prog.info? (Tryz.growP_ren.t 25) with
  | none => rw [hi] at h; cases h
  | some i =>
    rw [hi] at h
    simp only [Option.map_some, Option.some.injEq, Prod.mk.injEq] at h
    cases hz : i.zero with
    | none => rw [hz] at h; cases h.1
    | some z =>
      rw [hz] at h
      simp only [Option.map_some, Option.some.injEq] at h
      exact ⟨i, z, rfl, hz, h⟩
theorem fn_grow (n : Nat) (h0 : 0 < n) (hn : n < 1000000) (h : Hp) : Fn Tryz.prog 215 [.sl .full 9 [], .int .i64 (n : Nat)] h (.sl .own 9 []) h := by
  refine fn_room (by kernel_rfl) fun vs w g hvl hsr hab => ?_
  obtain ⟨v0, v1, rfl⟩ : ∃ v0 v1, vs = [v0, v1] := by match vs, hvl with | [a, b], _ => exact ⟨a, b, rfl⟩
  have h0' : VR g w (.sl .full 9 []) v0 := hsr.fr 0
  have h1' : VR g w (.int .i64 (n : Nat)) v1 := hsr.fr 1
  obtain ⟨base, rfl⟩ : ∃ base, v0 = .slice base 0 0 := by
    cases h0' with
    | sl0 => exact ⟨_, rfl⟩
    | sle _ _ a cap h1 h2 =>
      rcases h2 with h2 | ⟨_, rfl⟩
      · cases h2
      · exact ⟨_, rfl⟩
    | sl _ _ _ b o cap k1 k2 k3 k4 k5 => have := k3 rfl; simp at this; subst this; exact ⟨_, rfl⟩
  obtain rfl : v1 = .int .i64 (n : Nat) := by cases h1'; rfl
  obtain ⟨i, z, hi, hz, hzs, his, hib⟩ := info_pat
  have hcall := Any8.slices_Grow_grow Tryz.growP i z hi hz (by omega) base 0 0 n [] w (Nat.le_refl _) (by omega) (by rw [hib]; omega) (by omega) (by simp) (fun _ => rfl) (fun a _ j v hj => by simp at hj)
  refine hcall.mono ?_
  rintro e w' ⟨rfl, rfl⟩
  have hge : 0 + n ≤ grownCap w (0 + n) 0 (Tryz.growP_ren.t 25) := grownCap_ge w _ _ _
  have hle := grownCap_le_maxLen w (0 + n) 0 (Tryz.growP_ren.t 25) (by unfold maxLen; omega)
  generalize grownCap w (0 + n) 0 (Tryz.growP_ren.t 25) = C at *
  refine ⟨w.heap.size, C, ([] : List Value).toArray ++ Builtin.zeroCells z.cells (0 + n - 0) ++ Builtin.zeroCells z.cells (C - (0 + n)), Tryz.growP_ren.t 25, rfl, ?_, Nat.le_refl _, ?_, ?_, hle⟩
  · exact ((Below.refl _ _).drew).alloc (Nat.le_refl _) _
  · exact Array.getElem?_push_size
  · simp only [Array.size_append, size_zeroCells, hzs]
    simp
    omega
theorem c179 : compF Tryz.prog ow Tryz.f179 = (some (36, ([(.t 2)], (.seq (.ops [(none, (.set 2 (.sl .full 9 [])))]) (.seq (.ops [(none, (.set 3 (.int .i64 0)))]) (.seq (.seq (.ops [(none, (.cp 9 0)), (none, (.len (some 10) (.t 9) false true)), (none, (.set 11 (.int .i64 0)))]) (.block 0 (.loop (.seq (.ops [(none, (.bin (some 12) .lss (.t 11) (.t 10) false false))]) (.seq (.cond (.t 12) .skip (.exit 0)) (.seq (.block 1 (.seq (.ops [(none, (.ia (some 13) (.t 9) (.t 11) (some 1) none)), (none, (.ld (some 14) (.t 13) (.one (some 9)))), (none, (.mv 5 14))]) (.seq (.ops [(none, (.cp 15 3)), (none, (.cp 16 5)), (none, (.len (some 17) (.t 16) false true)), (none, (.bin (some 18) .add (.t 15) (.t 17) false false)), (none, (.mv 3 18))]) (.seq (.ops [(none, (.cp 19 3)), (none, (.bin (some 20) .lss (.t 19) (.k (.int .i64 0)) false false))]) (.cond (.t 20) .bad .skip))))) (.ops [(none, (.bin (some 22) .add (.t 11) (.k (.int .i64 1)) false false)), (none, (.cp 11 22))]))))))) (.seq (.ops [(none, (.cp 23 3)), (none, (.call (some 24) (.k (.func 215 [] [])) [(.k (.sl .full 9 [])), (.t 23)] none)), (none, (.mv 6 24))]) (.seq (.seq (.ops [(none, (.cp 25 0)), (none, (.len (some 26) (.t 25) false true)), (none, (.set 27 (.int .i64 0)))]) (.block 2 (.loop (.seq (.ops [(none, (.bin (some 28) .lss (.t 27) (.t 26) false false))]) (.seq (.cond (.t 28) .skip (.exit 2)) (.seq (.block 3 (.seq (.ops [(none, (.ia (some 29) (.t 25) (.t 27) (some 1) none)), (none, (.ld (some 30) (.t 29) (.one (some 9)))), (none, (.mv 8 30))]) (.ops [(none, (.mv 31 6)), (none, (.cp 32 8)), (none, (.app 33 (.t 31) (.t 32) 9 144 true true)), (none, (.mv 6 33))]))) (.ops [(none, (.bin (some 34) .add (.t 27) (.k (.int .i64 1)) false false)), (none, (.cp 27 34))]))))))) (.seq (.ops [(none, (.mv 35 6)), (none, (.mv 2 35))]) .ret))))))))) := by kernel_rfl
def lenS (ps : List (List AV)) : Nat := (ps.map List.length).sum
theorem fn_concat (ps : List (List AV)) (hp : ps.length < 1000) (h0 : 0 < ps.flatten.length) (hn : ps.flatten.length < 1000000) (hL : ∀ n, labL n ps.flatten = true) : PFn Tryz.prog 179 [.sl .sh 1 (ps.map fun l => .sl .sh 9 l)] (.sl .sh 9 ps.flatten) := by
  intro h
  refine fnC mixed Tryz.func179 c179 (by simp) ?_
  simp only [go_sem, Nat.reduceEqDiff, Nat.reduceAdd, Nat.reduceLeDiff, Nat.reduceLT, ↓reduceIte, reduceCtorEq, Int.reduceLT, Int.reduceToNat, Int.reduceEq, Int.reduceBEq, Int.reduceBNe, Nat.reduceBEq]
  refine cloop (fun k t => ∃ i : Nat, i + k = ps.length ∧ t.fr 0 = .sl .sh 1 (ps.map fun l => .sl .sh 9 l) ∧ t.fr 2 = .sl .full 9 [] ∧ t.fr 9 = .sl .sh 1 (ps.map fun l => .sl .sh 9 l) ∧ t.fr 10 = .int .i64 (ps.length : Nat) ∧ t.fr 11 = .int .i64 (i : Nat) ∧ t.fr 3 = .int .i64 ((ps.take i).flatten.length : Nat) ∧ t.hp = h) ps.length ⟨0, by simp [fr_apply, argsF]⟩ ?_
  rintro k ⟨F, hp'⟩ ⟨i, hk, f0, f2, f9, f10, f11, f3, rfl⟩
  simp only at f0 f2 f9 f10 f11 f3
  by_cases hi : i < ps.length
  · have hi' : decide ((i : Int) < (ps.length : Int)) = true := decide_eq_true (by omega)
    have hx : (ps.map fun l => AV.sl .sh 9 l)[i]? = some (.sl .sh 9 ps[i]) := by simp [List.getElem?_eq_getElem hi]
    have hw : IntKind.i64.wrap ((i : Int) + 1) = ((i + 1 : Nat) : Int) := by rw [wrap64] <;> omega
    have htk : ps.take (i + 1) = ps.take i ++ [ps[i]] := by rw [List.take_add_one, List.getElem?_eq_getElem hi]; rfl
    have ht : (ps.take (i + 1)).flatten.length = (ps.take i).flatten.length + ps[i].length := by rw [htk, List.flatten_append, List.length_append]; simp
    have hle : (ps.take (i + 1)).flatten.length ≤ ps.flatten.length := by
      conv => rhs; rw [← List.take_append_drop (i + 1) ps]
      rw [List.flatten_append, List.length_append]; omega
    have hw2 : IntKind.i64.wrap (((ps.take i).flatten.length : Int) + (ps[i].length : Int)) = (((ps.take i).flatten.length + ps[i].length : Nat) : Int) := by rw [wrap64] <;> omega
    have hng : decide ((((ps.take i).flatten.length + ps[i].length : Nat) : Int) < 0) = false := decide_eq_false (by omega)
    rw [← ht] at hw2 hng
    simp only [go_sem, Nat.reduceEqDiff, Nat.reduceAdd, Nat.reduceLeDiff, Nat.reduceLT, ↓reduceIte, reduceCtorEq, Int.reduceLT, Int.reduceToNat, Int.reduceEq, Int.reduceBEq, Int.reduceBNe, Nat.reduceBEq, f0, f2, f9, f10, f11, f3, hi', hx, hw, hw2, hng]
    exact ⟨k - 1, by omega, i + 1, by omega, rfl, rfl⟩
  · have hi' : decide ((i : Int) < (ps.length : Int)) = false := decide_eq_false (by omega)
    have ht : (ps.take i).flatten.length = ps.flatten.length := by rw [List.take_of_length_le (by omega)]
    rw [ht] at f3
    simp only [go_sem, Nat.reduceEqDiff, Nat.reduceAdd, Nat.reduceLeDiff, Nat.reduceLT, ↓reduceIte, reduceCtorEq, Int.reduceLT, Int.reduceToNat, Int.reduceEq, Int.reduceBEq, Int.reduceBNe, Nat.reduceBEq, f0, f2, f9, f10, f11, f3, hi']
    refine ccall (fn_grow ps.flatten.length h0 hn _) (by simp only [go_sem, Nat.reduceEqDiff, Nat.reduceAdd, Nat.reduceLeDiff, Nat.reduceLT, ↓reduceIte, reduceCtorEq, Int.reduceLT, Int.reduceToNat, Int.reduceEq, Int.reduceBEq, Int.reduceBNe, Nat.reduceBEq, f3]) ?_
    simp only [go_sem, Nat.reduceEqDiff, Nat.reduceAdd, Nat.reduceLeDiff, Nat.reduceLT, ↓reduceIte, reduceCtorEq, Int.reduceLT, Int.reduceToNat, Int.reduceEq, Int.reduceBEq, Int.reduceBNe, Nat.reduceBEq, f0, f2]
    refine cloop (fun k t => ∃ i : Nat, i + k = ps.length ∧ t.fr 2 = .sl .full 9 [] ∧ t.fr 25 = .sl .sh 1 (ps.map fun l => .sl .sh 9 l) ∧ t.fr 26 = .int .i64 (ps.length : Nat) ∧ t.fr 27 = .int .i64 (i : Nat) ∧ t.fr 6 = .sl .own 9 (ps.take i).flatten ∧ t.hp = hp') ps.length ⟨0, by simp [fr_apply, argsF, f2, f0]⟩ ?_
    clear f0 f2 f9 f10 f11 f3 hi hi' ht hk
    rintro k ⟨F, hp''⟩ ⟨i, hk, f2, f25, f26, f27, f6, rfl⟩
    simp only at f2 f25 f26 f27 f6
    by_cases hi : i < ps.length
    · have hi' : decide ((i : Int) < (ps.length : Int)) = true := decide_eq_true (by omega)
      have hx : (ps.map fun l => AV.sl .sh 9 l)[i]? = some (.sl .sh 9 ps[i]) := by simp [List.getElem?_eq_getElem hi]
      have hw : IntKind.i64.wrap ((i : Int) + 1) = ((i + 1 : Nat) : Int) := by rw [wrap64] <;> omega
      have htk : ps.take (i + 1) = ps.take i ++ [ps[i]] := by rw [List.take_add_one, List.getElem?_eq_getElem hi]; rfl
      have ht : (ps.take (i + 1)).flatten = (ps.take i).flatten ++ ps[i] := by rw [htk, List.flatten_append]; simp
      have hle : (ps.take (i + 1)).flatten.length ≤ ps.flatten.length := by
        conv => rhs; rw [← List.take_append_drop (i + 1) ps]
        rw [List.flatten_append, List.length_append]; omega
      have hl2 : (ps.take i).flatten.length + ps[i].length < 1000000 := by rw [ht, List.length_append] at hle; omega
      have a1 : ((ps.take i).flatten.length + ps[i].length) * 144 ≤ 140737488355328 := by omega
      have a2 : (ps.take i).flatten.length + ps[i].length ≤ 9223372036854775807 := by omega
      simp only [go_sem, Nat.reduceEqDiff, Nat.reduceAdd, Nat.reduceLeDiff, Nat.reduceLT, ↓reduceIte, reduceCtorEq, Int.reduceLT, Int.reduceToNat, Int.reduceEq, Int.reduceBEq, Int.reduceBNe, Nat.reduceBEq, f2, f25, f26, f27, f6, hi', hx, hw, a1, a2]
      exact ⟨k - 1, by omega, i + 1, by omega, rfl, by rw [ht]⟩
    · have hi' : decide ((i : Int) < (ps.length : Int)) = false := decide_eq_false (by omega)
      rw [List.take_of_length_le (by omega)] at f6
      simp only [go_sem, Nat.reduceEqDiff, Nat.reduceAdd, Nat.reduceLeDiff, Nat.reduceLT, ↓reduceIte, reduceCtorEq, Int.reduceLT, Int.reduceToNat, Int.reduceEq, Int.reduceBEq, Int.reduceBNe, Nat.reduceBEq, f2, f25, f26, f27, f6, hi']
      exact hL _
end Go.Proofs.YtnibelnjflhkgaaGreatDoor.Ab

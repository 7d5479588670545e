/- Words of a text: blanks, numbers, the row of marks. No condition. -/
import Derived.Test.YtnibelnjflhkgaaDoorNx1
import Derived.Test.YtnibelnjflhkgaaDoorShelf
import Derived.Shelf.Strings.Fields
namespace Go.Proofs.YtnibelnjflhkgaaDoor.Ab
set_option linter.unusedVariables false
set_option linter.unusedSimpArgs false
set_option maxRecDepth 10000
theorem c41 : compF Tryd.prog ow Tryd.f41 = (some (42, ([(.c 2 (.agg 4)), (.t 3), (.t 4)], (.seq (.ops [(none, (.alloc 2 [(.int .i64 0), (.str []), (.int .i64 0), (.int .i64 0)])), (none, (.set 3 (.int .i64 0))), (none, (.set 4 (.int .i64 0)))]) (.seq (.ops [(none, (.cp 9 0)), (none, (.sl (some 10) (.t 9) none (some (.k (.int .i64 1))) none true none)), (none, (.call (some 11) (.k (.func 35 [] [])) [(.t 10), (.k (.func 47 [] []))] none)), (none, (.mv 5 11))]) (.seq (.ops [(none, (.cp 12 5)), (none, (.cp 13 0)), (none, (.cp 14 5)), (none, (.sl (some 15) (.t 13) (some (.t 14)) none none true none)), (none, (.call (some 16) (.k (.func 35 [] [])) [(.t 15), (.k (.func 40 [] []))] none)), (none, (.bin (some 17) .add (.t 12) (.t 16) false false)), (none, (.mv 6 17))]) (.seq (.ops [(none, (.set 7 (.int .i64 0)))]) (.seq (.seq (.ops [(none, (.mv 18 5)), (none, (.mv 8 18))]) (.block 0 (.loop (.seq (.seq (.ops [(none, (.cp 19 8)), (none, (.cp 20 6)), (none, (.bin (some 21) .lss (.t 19) (.t 20) false false))]) (.cond (.t 21) .skip (.exit 0))) (.seq (.block 1 (.seq (.ops [(none, (.cp 24 7)), (none, (.bin (some 25) .mul (.k (.int .i64 10)) (.t 24) false false)), (none, (.cp 26 0)), (none, (.cp 27 8)), (none, (.idx (some 28) (.t 26) (.t 27) true none)), (none, (.bin (some 29) .sub (.t 28) (.k (.int .u8 48)) false false)), (none, (.cvt (some 30) (.t 29) (some .i64) false false)), (none, (.bin (some 31) .add (.t 25) (.t 30) false false)), (none, (.mv 7 31))]) (.seq (.ops [(none, (.cp 32 7)), (none, (.bin (some 33) .gtr (.t 32) (.k (.int .i64 1073741824)) false false))]) (.cond (.t 33) (.seq (.ops [(none, (.bld (some 34) [(.int .i64 0), (.str []), (.int .i64 0), (.int .i64 0)] [(0, 1), (1, 1), (2, 1), (3, 1)] [])), (none, (.st (.t 2) (.t 34) 4)), (none, (.set 3 (.int .i64 0))), (none, (.set 4 (.int .i64 2)))]) .ret) .skip)))) (.ops [(none, (.cp 22 8)), (none, (.bin (some 23) .add (.t 22) (.k (.int .i64 1)) false false)), (none, (.mv 8 23))])))))) (.seq (.seq (.ops [(none, (.cp 35 5)), (none, (.bin (some 36) .eql (.t 35) (.k (.int .i64 1)) false false))]) (.cond (.t 36) (.ops [(none, (.cp 37 7)), (none, (.un (some 38) .neg (.t 37))), (none, (.mv 7 38))]) .skip)) (.seq (.ops [(none, (.cp 39 7)), (none, (.bld (some 40) [(.int .i64 0), (.str []), (.int .i64 0), (.int .i64 0)] [(0, 1), (1, 1), (2, 1), (3, 1)] [(0, (.k (.int .i64 3))), (2, (.t 39))])), (none, (.mv 41 6)), (none, (.st (.t 2) (.t 40) 4)), (none, (.mv 3 41)), (none, (.set 4 (.int .i64 0)))]) .ret)))))))))) := by kernel_rfl
theorem isSp_iff (c : Nat) (h : c < 256) : Lib.isSp (UInt8.ofNat c) = decide (c = 9 ∨ c = 10 ∨ c = 11 ∨ c = 12 ∨ c = 13 ∨ c = 32) := by
  have key : ∀ b : Fin 256, Lib.isSp (UInt8.ofNat b.val) = decide (b.val = 9 ∨ b.val = 10 ∨ b.val = 11 ∨ b.val = 12 ∨ b.val = 13 ∨ b.val = 32) := by decide +kernel
  exact key ⟨c, h⟩
theorem cntF_le : ∀ (b : Bool) (l : List UInt8), Lib.cntF b l ≤ l.length
  | _, [] => Nat.le_refl _
  | b, c :: l => by rw [Lib.cntF]; have := cntF_le (Lib.isSp c) l; simp only [List.length_cons]; split <;> omega
/-- strings.Fields of a text without bytes beyond ASCII. -/
theorem fnl_fields (s : List UInt8) (hs : s.length < 1000000) (ha : ∀ b ∈ s, b.toNat < 128) : PFn Tryd.prog 32 [.str s] (.sl .sh 1 ((Lib.fields s).map AV.str)) := by
  intro h
  refine fn_fresh (by kernel_rfl) (fun sz xs e => by cases e) fun vs w g hvl hsr hab => ?_
  have h0 := hsr.fr 0
  obtain ⟨v0, rfl⟩ : ∃ v0, vs = [v0] := by match vs, hvl with | [a], _ => exact ⟨a, rfl⟩
  have hv0 : v0 = .string ⟨⟨s⟩⟩ := by
    have h0' : VR g w (.str s) v0 := h0
    cases h0'; rfl
  subst hv0
  have hT : ∀ c : Nat, c < 256 → w.cell? ⟨0, c, none⟩ = some (.int .u8 (if Lib.isSp (UInt8.ofNat c) then 1 else 0)) := fun c hc => by
    have := (hab 0 c (.int .u8 (if c = 9 ∨ c = 10 ∨ c = 11 ∨ c = 12 ∨ c = 13 ∨ c = 32 then 1 else 0)) (by unfold kn; rw [if_pos ⟨rfl, hc⟩])).2
    rw [this, isSp_iff c hc]
    by_cases q : c = 9 ∨ c = 10 ∨ c = 11 ∨ c = 12 ∨ c = 13 ∨ c = 32
    · rw [if_pos q, if_pos (by simpa using q)]
    · rw [if_neg q, if_neg (by simpa using q)]
  have hz : (⟨⟨s⟩⟩ : ByteArray).size = s.length := rfl
  have hd : (⟨⟨s⟩⟩ : ByteArray).data.toList = s := rfl
  have hcall := Any.strings_Fields_core Tryd.lays157 (by kernel_rfl) ⟨⟨s⟩⟩ w (by rw [hz]; omega) (fun j b hj => ha b (List.mem_of_getElem? hj)) hT
  refine hcall.mono ?_
  rintro e w' ⟨rfl, rfl⟩
  rw [hd]
  have hflat : flat ((Lib.fields s).map AV.str) = (Lib.fields s).map AV.str := by
    unfold flat; induction Lib.fields s with
    | nil => rfl
    | cons a l ih => simp only [List.map_cons, List.flatMap_cons, ih]; rfl
  have hl : ((Lib.fields s).map AV.str).length = (Lib.fields s).length := by simp
  have hfl : (Lib.fields s).length ≤ s.length + 1 := by rw [Lib.fields_length]; have := cntF_le true s; omega
  refine ⟨_, fun b o => g.G b o ∨ (b = w.heap.size ∧ o < (Lib.fields s).length), rfl, (Go.RowKit.Below.refl _ _).alloc (Nat.le_refl _) _, ?_, fun _ _ h => .inl h, fun b o hG => ?_⟩
  · have hcl : ∀ (G : Gh) (w' : World) (xs : List (List UInt8)), CL G w' (xs.map AV.str) (xs.map fun l => Value.string ⟨l.toArray⟩) := fun G w' xs => by
      induction xs with
      | nil => exact .nil
      | cons a l ih => exact .cons _ _ _ _ rfl (.str a) ih
    have := VR.sl (g := ⟨g.n, fun b o => g.G b o ∨ (b = w.heap.size ∧ o < (Lib.fields s).length), g.ρ⟩) (w := w.alloc (.cells ((Lib.fields s).map fun l => Value.string ⟨l.toArray⟩).toArray 9)) .sh 1 ((Lib.fields s).map AV.str) w.heap.size 0 (Lib.fields s).length (by rw [hl]; exact Nat.le_refl _) (by simp only [maxLen]; omega) (fun e => by cases e) (fun x hx => by obtain ⟨k, _, rfl⟩ := List.mem_map.1 hx; rfl) (by
      rw [hflat]
      refine CR.ofCL (hcl _ _ _) (fun j u hj => ?_) (fun j hj => .inr ⟨rfl, by simpa using hj⟩)
      rw [Nat.zero_add, World.cell?_alloc_new]
      simpa using hj)
    rw [hl] at this
    exact this
  · rcases hG with k | ⟨rfl, k⟩
    · exact .inl k
    · exact .inr ⟨Nat.le_refl _, by simp⟩
end Go.Proofs.YtnibelnjflhkgaaDoor.Ab

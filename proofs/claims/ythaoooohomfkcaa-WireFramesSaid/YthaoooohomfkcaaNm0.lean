/- The sorted keys of a map. -/
import Derived.Test.YthaoooohomfkcaaAb38
import Derived.Test.YthaoooohomfkcaaAb27
import Derived.Test.YthaoooohomfkcaaIter
import Derived.Test.YthaoooohomfkcaaTt1
namespace Go.Proofs.Ythaoooohomfkcaa.Ab
set_option linter.unusedVariables false
set_option linter.unusedSimpArgs false
set_option maxRecDepth 10000
open Go.RowKit Go.MapKept Go.Shelf Go.Maps Go.WideElems Go.WideShapes Go.WideMaps
def leQ : List UInt8 → List UInt8 → Bool := fun x y => decide (x ≤ y)
def setM (ks : List (List UInt8)) : List (AV × AV) := ks.map fun k => (.str k, .bool true)
theorem ML_set {g : Gh} {w : World} : ∀ {ks : List (List UInt8)} {l : List MapEntry}, ML g w (setM ks) l → l.map (·.key) = ks.map (fun k => Value.string ⟨⟨k⟩⟩) ∧ ∀ e ∈ l, e.val = .bool true
  | [], l, h => by cases h; exact ⟨rfl, fun e he => by cases he⟩
  | k :: ks, _, h => by
    unfold setM at h
    simp only [List.map_cons] at h
    generalize hq : (AV.str k, AV.bool true) = q at h
    cases h with
    | cons a b es e l hk hv t =>
      simp only [Prod.mk.injEq] at hq
      obtain ⟨rfl, rfl⟩ := hq
      obtain ⟨h1, h2⟩ := ML_set (ks := ks) t
      have e1 : e.key = .string ⟨⟨k⟩⟩ := by generalize e.key = u at hk; cases hk; rfl
      have e2 : e.val = .bool true := by generalize e.val = u at hv; cases hv; rfl
      refine ⟨by simp [h1, e1], fun x hx => ?_⟩
      rcases List.mem_cons.1 hx with rfl | hx
      · exact e2
      · exact h2 x hx
theorem fn_keys (ks : List (List UInt8)) (lb l : Nat) (h : Hp) (hlb : lb < h.n) (hb : h.bk lb = .cells [.mp l]) (hl : l < h.n) (hm : h.bk l = .map (setM ks)) (hnd : ks.Nodup) (hlen : ks.length ≤ 1000000) (hsz : ∀ k ∈ ks, k.length ≤ 1000000000000000) :
    Fn Try.prog 107 [.func 123 [] [.ptr lb 0]] h (.sl .sh 1 ((ks.mergeSort leQ).map AV.str)) h := by
  refine fn_fresh (by kernel_rfl) (fun sz xs e => by cases e) fun vs w g hvl hs => ?_
  have h0 := hs.fr 0
  simp only [args0] at h0
  obtain ⟨v0, rfl⟩ : ∃ v0, vs = [v0] := by match vs, hvl with | [a], _ => exact ⟨a, rfl⟩
  have hv0 : v0 = .func (.func 123) #[] #[.pointer (some ⟨g.ρ lb, 0, none⟩)] := by
    have h0' : VR g w (.func 123 [] [.ptr lb 0]) v0 := h0
    cases h0' with
    | func _ _ _ us us' k1 k2 =>
      cases k1
      cases k2 with
      | cons _ _ v _ k3 k4 => cases k4; cases k3; rfl
  subst hv0
  have hbl : lb < g.n := by rw [hs.n]; exact hlb
  have hll : l < g.n := by rw [hs.n]; exact hl
  have b1 := hs.bk lb hbl
  simp only [hb] at b1
  obtain ⟨vs1, us1, e1, fr1, q1, q2, _⟩ := b1
  have hvs1 : vs1 = [.map (some (g.ρ l))] := by
    cases q2 with
    | cons _ _ v _ _ k3 k4 => cases k4; cases k3; rfl
  subst hvs1
  have hcell : w.cell? ⟨g.ρ lb, 0, none⟩ = some (.map (some (g.ρ l))) := by
    rw [cell_of_row _ _ 0 _ e1 fr1 q1]; rfl
  have b2 := hs.bk l hll
  simp only [hm] at b2
  obtain ⟨ml, ck, m1, m2, m3, m4⟩ := b2
  obtain ⟨mk, mv⟩ := ML_set m2
  have hml : ml.length = ks.length := by have := congrArg List.length mk; simpa using this
  have hu9 : Try.prog.underlying 9 = some .string := Try.underlying9
  let R : Value → Option (DataW Unit × List MemPlace) := fun v => match v with | .bool x => some (.lit (.bool x), []) | _ => none
  have hkey : ∀ e ∈ ml, ∃ k ∈ ks, e.key = .string ⟨⟨k⟩⟩ := fun e he => by
    have : e.key ∈ ml.map (·.key) := List.mem_map_of_mem he
    rw [mk] at this
    obtain ⟨k, hk, e2⟩ := List.mem_map.1 this
    exact ⟨k, hk, e2.symm⟩
  have hkof : ∀ k ∈ ks, keyOf Try.prog 9 (.string ⟨⟨k⟩⟩) = some (.string k) := fun k hk => by
    rw [keyOf_string_mk hu9 (by have := hsz k hk; show k.length ≤ maxLen; simp only [maxLen]; omega)]
  have hrd : ∀ e ∈ ml, ∀ k ∈ ks, e.key = .string ⟨⟨k⟩⟩ → WideElems.rd Try.prog 9 R e = some (.string k, .lit (.bool true)) := fun e he k hk hek => by
    unfold WideElems.rd
    rw [hek, hkof k hk, mv e he]
    rfl
  have hfit : Fit Try.prog 9 R ⟨ml⟩ ck := by
    refine ⟨?_, ?_, fun e he => ?_⟩
    · show ml.length ≤ maxLen; simp only [maxLen]; omega
    · rw [stamped_iff]
      refine ⟨m3, m4, ?_⟩
      have : (ml.map (·.key)).Pairwise (· ≠ ·) := by
        rw [mk]
        rw [List.pairwise_map]
        refine hnd.imp fun hne e => hne ?_
        simpa using e
      exact List.pairwise_map.1 this
    · obtain ⟨k, hk, hek⟩ := hkey e he
      exact ⟨_, hrd e he k hk hek⟩
  have hown : w.ownsMap Try.prog 9 R (g.ρ l) ks.length (.map ((ml.map (WideElems.rg Try.prog 9 R)).foldr DataW.insert [])) := ⟨⟨ml⟩, ck, m1, hfit, by show ml.length ≤ _; omega, rfl⟩
  have hsize : Go.Maps.size (.map ((ml.map (WideElems.rg Try.prog 9 R)).foldr DataW.insert []) : DataW Unit) = ks.length := by
    show ((ml.map (WideElems.rg Try.prog 9 R)).foldr DataW.insert []).length = _
    rw [(sorted_perm _).length_eq, List.length_map, hml]
  have hkeys : (strKeys (.map ((ml.map (WideElems.rg Try.prog 9 R)).foldr DataW.insert []) : DataW Unit)).Perm ks := by
    show (((ml.map (WideElems.rg Try.prog 9 R)).foldr DataW.insert []).map fun p => strOf p.1).Perm ks
    refine ((sorted_perm _).map _).trans ?_
    rw [List.map_map]
    have : ml.map ((fun p : Lit × DataW Unit => strOf p.1) ∘ WideElems.rg Try.prog 9 R) = ks := by
      have e1 : ml.map ((fun p : Lit × DataW Unit => strOf p.1) ∘ WideElems.rg Try.prog 9 R) = (ml.map (·.key)).map (fun v => match v with | .string s => s.data.toList | _ => []) := by
        rw [List.map_map]
        refine List.map_congr_left fun e he => ?_
        obtain ⟨k, hk, hek⟩ := hkey e he
        simp only [Function.comp_apply]
        rw [WideElems.rg_of (hrd e he k hk hek), hek]
        rfl
      rw [e1, mk, List.map_map]
      simp [Function.comp_def]
    rw [this]
  have hseq := AnyZ.keys_gives (ρ := Try.keys108_ren) { Try.keys108 with } Fence.wide 2 trivial rfl (by omega) (g.ρ lb) (g.ρ l) ks.length _ w (hs.size_ρ hbl) hcell hown
  have hcall := callsIn_wide.1 (AnyZ.sorted_in Try.sorted107 Fence.wide 5 trivial trivial trivial trivial rfl (by omega) (Try.sorts107 _) (enters_of Try.func122 (by kernel_rfl) rfl) 123 #[.pointer (some ⟨g.ρ lb, 0, none⟩)] trivial (enters_of Try.func123 (by kernel_rfl) rfl) _ _ (by rw [hsize]; simp only [maxLen]; omega) (by rw [hsize]; omega) _ hseq)
  refine hcall.mono ?_
  rintro e w' ⟨v, ss, he, hp, hrow, hnil, bel⟩
  have hsort : ss.mergeSort leQ = ks.mergeSort leQ := mergeSort_of_perm (hp.trans hkeys)
  have hsslen : ss.length = ks.length := (hp.trans hkeys).length_eq
  obtain ⟨hr1, hr2⟩ := hrow
  have hms : (ss.mergeSort (fun x y => decide (x ≤ y))) = ks.mergeSort leQ := hsort
  rw [hms] at hr1 hr2
  rcases hr2 with ⟨rfl, hn⟩ | ⟨gb, cap, cur, rfl, hbase, hheap, hnc, hcm, hcur, htake⟩
  · refine ⟨.slice none 0 0, g.G, he, bel, ?_, fun _ _ h => h, fun _ _ h => .inl h⟩
    have : ks.mergeSort leQ = [] := by
      apply List.eq_nil_of_length_eq_zero
      rw [List.length_mergeSort, ← hsslen]; exact hn
    rw [this]
    exact .sl0 _ _
  · refine ⟨_, fun b o => g.G b o ∨ (b = gb ∧ o < ss.length), he, bel, ?_, fun _ _ h => .inl h, fun b o hG => ?_⟩
    · have hl2 : ((ks.mergeSort leQ).map AV.str).length = ss.length := by simp [hsslen]
      rw [← hl2]
      refine .sl .sh 1 _ gb 0 cap (by rw [hl2]; exact hnc) hcm (fun e => by cases e) (fun x hx => by obtain ⟨k, _, rfl⟩ := List.mem_map.1 hx; rfl) ?_
      have hflat : flat ((ks.mergeSort leQ).map AV.str) = (ks.mergeSort leQ).map AV.str := by
        unfold flat; induction ks.mergeSort leQ with
        | nil => rfl
        | cons a l ih => simp only [List.map_cons, List.flatMap_cons, ih]; rfl
      rw [hflat]
      have hcl : ∀ (G : Gh) (xs : List (List UInt8)), CL G w' (xs.map AV.str) (xs.map encStr) := fun G xs => by
        induction xs with
        | nil => exact .nil
        | cons a l ih => exact .cons _ _ _ _ rfl (.str a) ih
      refine CR.ofCL (hcl _ _) (fun j u hj => ?_) (fun j hj => .inr ⟨rfl, by simpa [hl2] using hj⟩)
      have hjl : j < ss.length := by have := (List.getElem?_eq_some_iff.1 hj).1; simpa [hsslen] using this
      rw [← htake] at hj
      have hj' : cur.toList[j]? = some u := by
        rw [List.getElem?_take_of_lt (by omega)] at hj; exact hj
      rw [Nat.zero_add, cell_of_row _ _ j _ 9 (0, 0) hheap]
      simpa using hj'
    · rcases hG with k | ⟨rfl, k⟩
      · exact .inl k
      · exact .inr ⟨hbase, (Array.getElem?_eq_some_iff.1 hheap).1⟩
end Go.Proofs.Ythaoooohomfkcaa.Ab

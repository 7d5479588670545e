/- The statement ReadLimits, for every input: the law's walk, the arguments read as plain data. Conditions: none beyond the given row's own. -/
import Derived.Test.YtnibelnjflhkgaaGreatDoorLrLaw
import Derived.Test.YtnibelnjflhkgaaGreatDoorLr4
import Derived.Test.YtnibelnjflhkgaaGreatDoorCards
import Derived.Test.YtnibelnjflhkgaaGreatDoorTie
import Derived.SevenTiedAt
namespace Go.Proofs.YtnibelnjflhkgaaGreatDoor.readLimits
open Go.ChangeShapes Go.WideShapes Go.ChangeAt Go.RowKit Go.Proofs.YtnibelnjflhkgaaGreatDoor.Ab Go.Proofs.YtnibelnjflhkgaaGreatDoor.readLaw
set_option linter.unusedVariables false
set_option maxRecDepth 100000 in
theorem lifted (os:Os) (started:os.Started) (H:Type) (enc:TypeId×Value→H):
  ReturnsInHanded {} Tryz.checked os 4 .any (fun w args=>(Rows.readLimitsSpec.pre enc Tryz.prog Tryz.f4 [] false w args∧laidMetH Tryz.prog laidL w)∧sizedMet enc Tryz.prog Tryz.f4 (OpenSpec.ofChange Rows.readLimitsSpec) false w args) (Rows.readLimitsSpec.post enc Tryz.prog Tryz.f4 false true false false):=by
 refine returnsInHanded_of_change_and (C:=Tryz.checked) (X:=fun w _=>laidMetH Tryz.prog laidL w) (fun _ _ _ hh h=>h.of_heap hh) own started (by kernel_rfl) Tryz.func4
  (ChangeSpec.witness_shaped (enc:=enc) (C:=Tryz.checked) (os:=os) (X:=fun w _=>laidMetH Tryz.prog laidL w) false (World.doorLaid Tryz.prog 48 os) #[.agg #[.slice none 0 0]] 8 rfl (World.shaped_of_RefB (by kernel_rfl) (by kernel_rfl)) (by kernel_rfl) (by kernel_rfl) (by kernel_rfl) (door_met os _)) ?_
 intro W base args ds gs before hval0 hW hcnd hsz0 hL _
 have hsz:(DataW.weightsEach Tryz.prog (Tryz.f4.params.toList++Rows.readLimitsSpec.plain.varTypes Tryz.prog) (ds++gs)).all (· ≤reachBytes)=true:=hsz0
 have hval: ∀(j:Nat) t v,Tryz.f4.params[j]? =some t→args[j]? =some v→Value.okWide Tryz.prog W .any base t v:=hval0
 have hW' :=hW
 obtain ⟨p,q,hA0,hV,rfl,hfz,hnd⟩:=hW
 have hA:DataW.TrodAll enc Tryz.prog W 0 (fun _=>true) true Tryz.f4.params.toList args.toList ds p:=hA0
 rw [Tryz.params4] at hA hval hsz
 obtain ⟨v0,vs0,d0,ds0,p0,q0,hargs,rfl,rfl,h0,r0⟩:=trodAll_cons hA
 obtain ⟨rfl,rfl,rfl⟩:=trodAll_nil r0
 obtain rfl:args= #[v0]:=by cases args;simp_all
 obtain ⟨rfl,rfl⟩:=trodVars_none hV
 have k0:=h0
 have lt0: ∀x∈p0,x.block<W.heap.size:=by obtain ⟨m,hm⟩:=k0;exact DataW.trod_lt m _ _ _ hm
 obtain ⟨ys,hv,y1,_,rfl,⟨zs,rfl,b4,b5,b6⟩,rfl⟩:=AtA.arg at24 Tryz.underlying24 (hval 0 24 v0 rfl rfl) h0 (Ab.sized_at hsz (j:=0) (t:=24) rfl rfl)
 obtain ⟨ss,rfl,hss⟩:=list_of (f:=AV.str) (p:=fun s=>s.length≤140737488351232) b6
 have hab:=amb_of hL
 clear hA0 hval0 hsz0 hsz
 simp only [List.length_map] at b4
 have hpf:=fn5_ReadLimits ss (by omega) hss
 refine (call_true (v:=v0) (W:=W) hpf (fun sz xs e=>by cases e) (by simpa [flat,AV.cells] using hv) hab).mono fun e W' ⟨he,bel⟩=> ?_
 subst he
 exact ⟨_,rfl,_,_,_, [],_, [],hW',trodAll_mk1 (shut_bool Tryz.underlying4 _),(trodAll_cons_mk (Below.trod laidOut (by kernel_rfl) (of_decide_eq_true (by kernel_rfl)) k0 bel lt0) trodAll_mk0),rfl,bel.frame _,fun h=>by cases h⟩
theorem over:Rows.ReadLimitsSaid:=
 OpenClaim.holds_of_wide 4 Tryz.f4 rfl rfl rfl rfl rfl rfl rfl ⟨rfl,rfl,rfl,rfl,rfl⟩ rfl rfl rfl rfl rfl (by kernel_rfl) Tryz.func4 (by kernel_rfl)
  (of_decide_eq_true (by kernel_rfl)) (by unfold Func.isWrapper;first|(rw [if_pos (by decide+kernel)];kernel_rfl)|(rw [if_neg (by decide+kernel)];exact ⟨rfl,rfl⟩))
  (fun os started H enc _=>lifted os started H enc)
theorem proved:Rows.ReadLimitsCardSaid:=
 Claim7.holds_tied_plain_at .later [] [.listed, .data] true (true, "075ed6f88898b771ba08012c4452ac53256f4267c83350405a6820ec3fa35f50") false
  over (fun _ h=>by cases h) (by kernel_rfl) (fun _ h=>by cases h) readLimits_row_tie rfl ⟨rfl,rfl⟩ (by kernel_rfl) rfl
  (fun f fn hf hfn=>by
   obtain rfl : f = 4 := Option.some.inj ((show Tryz.prog.funcNamed "almagest/almagestlaw5.ReadLimits" = some 4 by kernel_rfl).symm.trans hf) |>.symm
   obtain rfl:fn=Tryz.f4:=(Option.some.inj (Tryz.func4.symm.trans hfn)).symm
   exact ⟨by kernel_rfl,fun j t ht=>by
    rw [Tryz.params4] at ht
    have hm:t∈ [24]:=by simpa using Array.mem_of_getElem? ht
    have hall:([24].all fun u=> !Tryz.prog.wantsStandIn u)=true:=by kernel_rfl
    exact (show Tryz.prog.wantsStandIn t=false by simpa using List.all_eq_true.1 hall t hm)⟩)
  (by kernel_rfl)
#print axioms proved
end Go.Proofs.YtnibelnjflhkgaaGreatDoor.readLimits
namespace Go.Proofs.YtnibelnjflhkgaaGreatDoor
theorem readLimits_holds:Rows.ReadLimitsCardSaid:=readLimits.proved
end Go.Proofs.YtnibelnjflhkgaaGreatDoor

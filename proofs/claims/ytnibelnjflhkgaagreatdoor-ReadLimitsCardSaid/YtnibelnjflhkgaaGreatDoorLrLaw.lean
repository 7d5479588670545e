/- The tied statements of the layer of words: the library's table, the arguments read as plain data. Conditions: none beyond the given row's own. -/
import Derived.Test.YtnibelnjflhkgaaGreatDoorRows
import Derived.Test.YtnibelnjflhkgaaGreatDoorLr0
import Derived.Test.YtnibelnjflhkgaaGreatDoorAbD
import Derived.WalkKit
import Derived.ProofKit
import Derived.LaidMore
import Derived.OpenShut
import Derived.ShutString
import Derived.ChangeOld
import Derived.Stop.Joined
namespace Go.Proofs.YtnibelnjflhkgaaGreatDoor.readLaw
open Go.ChangeShapes Go.WideShapes Go.ChangeAt Go.RowKit Go.Proofs.YtnibelnjflhkgaaGreatDoor.Ab
set_option linter.unusedVariables false
theorem own:ownKnob Tryz.prog.godebug=none:=by kernel_rfl
theorem laidOut:laidOutB Tryz.prog=true:=by kernel_rfl
abbrev laidL : List (String × DataW Unit) := [("unicode.White_Space", Rows.laid_unicode_White_Space), ("strings.asciiSpace", Rows.laid_strings_asciiSpace)]
theorem gTab : Tryz.prog.globalNamed "strings.asciiSpace" = some 0 := by kernel_rfl
theorem tTab:(Tryz.prog.globals[0]?).map (·.type)=some 219:=by kernel_rfl
theorem laid_eq:(Rows.laid_strings_asciiSpace:DataW Unit)= .agg ((List.range 256).map fun o=> .lit (.int .u8 (if o=9∨o=10∨o=11∨o=12∨o=13∨o=32 then 1 else 0))):=by kernel_rfl
theorem amb_of {W:World} (h:laidMetH Tryz.prog laidL W):Amb (g0 W) W:=by
 rw [MakeChecks.laidMetH_plain _ _ _ (by kernel_rfl)] at h
 obtain ⟨ps,⟨g1,t1,cs1,f1,p1,q1,hg1,ht1,hv1,hd1,⟨g0',t0,cs0,f0,p0,q0,hg0,ht0,hv0,hd0,_,_⟩,_⟩,_,_⟩:=h
 obtain rfl:=Option.some.inj (gTab.symm.trans hg0)
 obtain rfl:=Option.some.inj (tTab.symm.trans ht0)
 obtain ⟨xs,m,rfl,hx,hlen,hn,hel⟩:=DataW.trod_array Tryz.underlying219 hd0
 have hL:xs.map (·.1)=(List.range 256).map fun o=>(.lit (.int .u8 (if o=9∨o=10∨o=11∨o=12∨o=13∨o=32 then 1 else 0)):DataW Unit):=by
  have:=congrArg Prod.fst hx
  simp only [laid_eq,DataW.agg.injEq] at this
  exact this.symm
 clear hd0 hx
 intro b o v hk
 unfold kn at hk
 split at hk
 ·rename_i hc
  obtain ⟨rfl,ho⟩:=hc
  cases hk
  have c5:Tryz.prog.cellsOf 5=1:=by kernel_rfl
  have h0:=hel o ho
  rw [c5,Nat.mul_one,List.getElem?_eq_getElem (by omega)] at h0
  obtain ⟨k,e1,e2,_⟩:=DataW.trod_int Tryz.underlying5 h0
  have hLo:=congrArg (fun l=>l[o]?) hL
  simp only [List.getElem?_map,List.getElem?_range ho,List.getElem?_eq_getElem (show o<xs.length by omega),Option.map_some,e2,Option.some.injEq,DataW.lit.injEq,Lit.int.injEq,true_and] at hLo
  subst hLo
  have hcell:=World.var?_cell hg0 hv0 o
  have hc1:cs0[o]? =some (.int .u8 (if o=9∨o=10∨o=11∨o=12∨o=13∨o=32 then 1 else 0)):=by
   have:=congrArg (fun l=>l[0]?) e1
   simpa using this
  rw [hc1] at hcell
  refine ⟨?_,hcell⟩
  show 0<W.heap.size
  by_cases hz:0<W.heap.size
  ·exact hz
  ·have:W.heap[0]? =none:=Array.getElem?_eq_none (by omega)
   simp [World.cell?,this] at hcell
 ·cases hk
theorem door_met (os:Os) (args:Array Value):laidMetH Tryz.prog laidL ((World.doorLaid Tryz.prog 48 os).forCall (fun _ _=>0) ⟨#[],args, []⟩).memory:=
 laidMetH_of_parts3 (fuel:=8) (laidMet_of_run' 8 (by kernel_rfl) (by kernel_rfl)) (by kernel_rfl) (by kernel_rfl)
theorem at24: ∀n,AtA Tryz.prog n 24 (fun y=> ∃ys,y= .agg (flat ys)∧ ∃y1 zs,ys=y1::zs∧GSl 1 16 GStr y1∧zs= []):=fun n=>
 AtA.struct Tryz.underlying24 (by kernel_rfl) (fun m hm=>FsA.cons (sz:=1) rfl rfl (by kernel_rfl) rfl (AtA.slice (B:=16) (sz:=1) Tryz.underlying22 (by kernel_rfl) (by kernel_rfl) (by kernel_rfl) (by omega) (fun k hk=>AtA.string Tryz.underlying9 (by kernel_rfl))) FsA.nil)
end Go.Proofs.YtnibelnjflhkgaaGreatDoor.readLaw

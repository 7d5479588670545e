/- Runs worked out: an evaluator of short forms, for what is closed. No condition. Runs worked out: a call on nothing labelled only computes; the evaluator. No condition. -/
import Derived.Test.YtnibelnjflhkgaaGreatDoorAb25
namespace Go.Proofs.YtnibelnjflhkgaaGreatDoor.Ab
set_option linter.unusedVariables false
set_option linter.unusedSimpArgs false
open Go.RowKit
inductive Tm|e|leaf (v:AV)|node (l r:Tm)
def Tm.get:Nat→Tm→Nat→AV
 |0, .leaf v,_=>v
 |d+1, .node l r,n=>bif Nat.beq (n % 2) 0 then Tm.get d l (n / 2) else Tm.get d r (n / 2)
 |_,_,_=> .junk
def Tm.setK {α:Type} :Nat→Tm→Nat→AV→(Tm→α)→α
 |0,_,_,v,k=>k (.leaf v)
 |d+1, .node l r,n,v,k=>bif Nat.beq (n % 2) 0 then Tm.setK d l (n / 2) v (fun l' =>k (.node l' r)) else Tm.setK d r (n / 2) v (fun r' =>k (.node l r'))
 |d+1,_,n,v,k=>bif Nat.beq (n % 2) 0 then Tm.setK d .e (n / 2) v (fun l' =>k (.node l' .e)) else Tm.setK d .e (n / 2) v (fun r' =>k (.node .e r'))
def Tm.set (d:Nat) (t:Tm) (n:Nat) (v:AV):Tm:=Tm.setK d t n v id
def Tm.lt:Tm→Tm| .node l _=>l|_=> .e
def Tm.rt:Tm→Tm| .node _ r=>r|_=> .e
def fN {α:Type} (n:Nat) (k:Nat→α):α:=match n with|0=>k 0|m+1=>k (m+1)
def fI {α:Type} (n:Int) (k:Int→α):α:=match n with| .ofNat m=>fN m fun m=>k (.ofNat m)| .negSucc m=>fN m fun m=>k (.negSucc m)
def fL {α β:Type} :List β→(List β→α)→α
 | [],k=>k []
 |x::xs,k=>fL xs fun xs' =>k (x::xs')
def fFl {α:Type} (fl:Fl) (k:Fl→α):α:=match fl with| .sh=>k .sh| .full=>k .full| .own=>k .own
def fH {α:Type} (a:AV) (k:AV→α):α:=
 match a with
 | .int t n=>fI n fun n=>k (.int t n)
 | .bool b=>match b with|true=>k (.bool true)|false=>k (.bool false)
 | .ptr l o=>fN l fun l=>fN o fun o=>k (.ptr l o)
 |a=>k a
def fLA {α:Type} :List AV→(List AV→α)→α
 | [],k=>k []
 |x::xs,k=>fH x fun x=>fLA xs fun xs' =>k (x::xs')
def fA {α:Type} (a:AV) (k:AV→α):α:=
 match a with
 | .int t n=>fI n fun n=>k (.int t n)
 | .bool b=>match b with|true=>k (.bool true)|false=>k (.bool false)
 | .str l=>fL l fun l=>k (.str l)
 | .sl fl sz xs=>fFl fl fun fl=>fLA xs fun xs=>k (.sl fl sz xs)
 | .agg cs=>fLA cs fun cs=>k (.agg cs)
 | .tup cs=>fLA cs fun cs=>k (.tup cs)
 | .eptr cs=>fLA cs fun cs=>k (.eptr cs)
 | .ptr l o=>fN l fun l=>fN o fun o=>k (.ptr l o)
 |a=>k a
end Go.Proofs.YtnibelnjflhkgaaGreatDoor.Ab
namespace Go.Proofs.YtnibelnjflhkgaaGreatDoor.Ab
set_option linter.unusedVariables false
set_option linter.unusedSimpArgs false
open Go.RowKit
theorem ML.mono {g:Gh} {w:World} {g' :Gh} {w' :World} (x:Ext g w g' w'): ∀ {es l},ML g w es l→ML g' w' es l
 |_,_, .nil=> .nil
 |_,_, .cons _ _ _ _ _ hk hv t=> .cons _ _ _ _ _ (hk.mono x) (hv.mono x) (ML.mono x t)
theorem BR.mono {g:Gh} {w:World} {g' :Gh} {w' :World} (x:Ext g w g' w') {b:Blk} {c:Nat} (hh:w'.heap[c]? =w.heap[c]?) (h:BR g w b c):BR g' w' b c:=by
 cases b with
 |cells cs=>obtain ⟨vs,us,e,fr,h1,h2,h3⟩:=h;exact ⟨vs,us,e,fr,hh.trans h1,h2.mono x,h3⟩
 |map es=>obtain ⟨l,k,h1,h2,h3⟩:=h;exact ⟨l,k,hh.trans h1,ML.mono x h2,h3⟩
end Go.Proofs.YtnibelnjflhkgaaGreatDoor.Ab

/- Values without memory: what a value of the program stands for, and that it goes on to stand for it. No condition. -/
import Derived.WalkKit
import Derived.Below
import Derived.Orders
import Derived.Laws.AppendOwn
namespace Go.Proofs.YtnibelnjflhkgaaDoor.Ab
set_option linter.unusedVariables false

inductive Fl | sh | full | own
  deriving DecidableEq

inductive AV where
  | junk
  | bool (b : Bool)
  | int (k : IntKind) (n : Int)
  | str (l : List UInt8)
  | sl (fl : Fl) (sz : Nat) (xs : List AV)
  | agg (cs : List AV)
  | tup (vs : List AV)
  | pnil
  | ptr (l o : Nat)
  | eptr (cs : List AV)
  | hs (l o len sz : Nat)
  | mp (l : Nat)
  | mnil
  | func (f : FuncId) (first cap : List AV)
  | fnil
  | val (v : Value)

def AV.cells : AV → List AV
  | .agg cs => cs
  | v => [v]

def flat (xs : List AV) : List AV := xs.flatMap AV.cells

/-- What is known of memory beside the abstract state: the cells that stay as they are, and where the labelled blocks lie. -/
structure Gh where
  n : Nat
  G : Nat → Nat → Prop
  ρ : Nat → Nat

mutual
inductive VR (g : Gh) (w : World) : AV → Value → Prop
  | junk (v : Value) : VR g w .junk v
  | bool (b : Bool) : VR g w (.bool b) (.bool b)
  | int (k : IntKind) (n : Int) : VR g w (.int k n) (.int k n)
  | str (l : List UInt8) : VR g w (.str l) (.string ⟨⟨l⟩⟩)
  | sl0 (fl : Fl) (sz : Nat) : VR g w (.sl fl sz []) (.slice none 0 0)
  | sle (fl : Fl) (sz : Nat) (a : Addr) (cap : Nat) (hmax : cap ≤ maxLen) (hfl : fl = .sh ∨ (fl = .full ∧ cap = 0)) : VR g w (.sl fl sz []) (.slice (some a) 0 cap)
  | sl (fl : Fl) (sz : Nat) (xs : List AV) (b o cap : Nat) (hlen : xs.length ≤ cap) (hmax : cap ≤ maxLen) (hfull : fl = .full → cap = xs.length) (hsz : ∀ x ∈ xs, x.cells.length = sz) (h : CR g w b o (flat xs)) : VR g w (.sl fl sz xs) (.slice (some ⟨b, o, none⟩) xs.length cap)
  | agg (cs : List AV) (vs : List Value) (h : CL g w cs vs) : VR g w (.agg cs) (.agg ⟨vs⟩)
  | tup (cs : List AV) (vs : List Value) (h : VL g w cs vs) : VR g w (.tup cs) (.tuple ⟨vs⟩)
  | pnil : VR g w .pnil (.pointer none)
  | ptr (l o : Nat) (h : l < g.n) : VR g w (.ptr l o) (.pointer (some ⟨g.ρ l, o, none⟩))
  | eptr (cs : List AV) (b o : Nat) (h : CR g w b o cs) : VR g w (.eptr cs) (.pointer (some ⟨b, o, none⟩))
  | hs (l o len sz cap : Nat) (h : l < g.n) (hlen : len ≤ cap) (hmax : cap ≤ maxLen) : VR g w (.hs l o len sz) (.slice (some ⟨g.ρ l, o, none⟩) len cap)
  | mp (l : Nat) (h : l < g.n) : VR g w (.mp l) (.map (some (g.ρ l)))
  | mnil : VR g w .mnil (.map none)
  | func (f : FuncId) (xs ys : List AV) (us vs : List Value) (h : VL g w xs us) (h' : VL g w ys vs) : VR g w (.func f xs ys) (.func (.func f) ⟨us⟩ ⟨vs⟩)
  | fnil : VR g w .fnil .nilFunc
  | val (v : Value) : VR g w (.val v) v
inductive CR (g : Gh) (w : World) : Nat → Nat → List AV → Prop
  | nil (b o : Nat) : CR g w b o []
  | cons (b o : Nat) (av : AV) (cs : List AV) (v : Value) (hG : g.G b o) (hc : w.cell? ⟨b, o, none⟩ = some v) (h1 : v.oneCell' = true) (h : VR g w av v) (t : CR g w b (o + 1) cs) : CR g w b o (av :: cs)
inductive CL (g : Gh) (w : World) : List AV → List Value → Prop
  | nil : CL g w [] []
  | cons (av : AV) (cs : List AV) (v : Value) (vs : List Value) (h1 : v.oneCell' = true) (h : VR g w av v) (t : CL g w cs vs) : CL g w (av :: cs) (v :: vs)
inductive VL (g : Gh) (w : World) : List AV → List Value → Prop
  | nil : VL g w [] []
  | cons (av : AV) (cs : List AV) (v : Value) (vs : List Value) (h : VR g w av v) (t : VL g w cs vs) : VL g w (av :: cs) (v :: vs)
end

/-- Cells of a variable of Go's library that are known from the first, and stay. -/
def kn : Nat → Nat → Option Value := fun b o => if b = 0 ∧ o < 256 then some (.int .u8 (if o = 9 ∨ o = 10 ∨ o = 11 ∨ o = 12 ∨ o = 13 ∨ o = 32 then 1 else 0)) else none
def Amb (g : Gh) (w : World) : Prop := ∀ b o v, kn b o = some v → g.G b o ∧ w.cell? ⟨b, o, none⟩ = some v
/-- Memory goes on: what was fixed stays fixed. -/
structure Ext (g : Gh) (w : World) (g' : Gh) (w' : World) : Prop where
  n : g.n ≤ g'.n
  ρ : ∀ l, l < g.n → g'.ρ l = g.ρ l
  G : ∀ b o, g.G b o → g'.G b o
  cell : ∀ b o, g.G b o → w'.cell? ⟨b, o, none⟩ = w.cell? ⟨b, o, none⟩

theorem Amb.ext {g g' : Gh} {w w' : World} (h : Amb g w) (x : Ext g w g' w') : Amb g' w' := fun b o v hk => ⟨x.G b o (h b o v hk).1, (x.cell b o (h b o v hk).1).trans (h b o v hk).2⟩
theorem Ext.refl (g : Gh) (w : World) : Ext g w g w := ⟨Nat.le_refl _, fun _ _ => rfl, fun _ _ h => h, fun _ _ _ => rfl⟩
theorem Ext.trans {g g1 g2 : Gh} {w w1 w2 : World} (h : Ext g w g1 w1) (k : Ext g1 w1 g2 w2) : Ext g w g2 w2 :=
  ⟨Nat.le_trans h.n k.n, fun l hl => (k.ρ l (Nat.lt_of_lt_of_le hl h.n)).trans (h.ρ l hl), fun b o hg => k.G b o (h.G b o hg), fun b o hg => (k.cell b o (h.G b o hg)).trans (h.cell b o hg)⟩

section
variable {g : Gh} {w : World} {g' : Gh} {w' : World}
theorem mono_all (x : Ext g w g' w') : (∀ {a v}, VR g w a v → VR g' w' a v) ∧ (∀ {b o cs}, CR g w b o cs → CR g' w' b o cs) ∧ (∀ {cs vs}, CL g w cs vs → CL g' w' cs vs) ∧ (∀ {cs vs}, VL g w cs vs → VL g' w' cs vs) := by
  refine ⟨fun h => ?_, fun h => ?_, fun h => ?_, fun h => ?_⟩
  all_goals first
    | refine VR.rec (motive_1 := fun a v _ => VR g' w' a v) (motive_2 := fun b o cs _ => CR g' w' b o cs) (motive_3 := fun cs vs _ => CL g' w' cs vs) (motive_4 := fun cs vs _ => VL g' w' cs vs) ?_ ?_ ?_ ?_ ?_ ?_ ?_ ?_ ?_ ?_ ?_ ?_ ?_ ?_ ?_ ?_ ?_ ?_ ?_ ?_ ?_ ?_ ?_ ?_ h
    | refine CR.rec (motive_1 := fun a v _ => VR g' w' a v) (motive_2 := fun b o cs _ => CR g' w' b o cs) (motive_3 := fun cs vs _ => CL g' w' cs vs) (motive_4 := fun cs vs _ => VL g' w' cs vs) ?_ ?_ ?_ ?_ ?_ ?_ ?_ ?_ ?_ ?_ ?_ ?_ ?_ ?_ ?_ ?_ ?_ ?_ ?_ ?_ ?_ ?_ ?_ ?_ h
    | refine CL.rec (motive_1 := fun a v _ => VR g' w' a v) (motive_2 := fun b o cs _ => CR g' w' b o cs) (motive_3 := fun cs vs _ => CL g' w' cs vs) (motive_4 := fun cs vs _ => VL g' w' cs vs) ?_ ?_ ?_ ?_ ?_ ?_ ?_ ?_ ?_ ?_ ?_ ?_ ?_ ?_ ?_ ?_ ?_ ?_ ?_ ?_ ?_ ?_ ?_ ?_ h
    | refine VL.rec (motive_1 := fun a v _ => VR g' w' a v) (motive_2 := fun b o cs _ => CR g' w' b o cs) (motive_3 := fun cs vs _ => CL g' w' cs vs) (motive_4 := fun cs vs _ => VL g' w' cs vs) ?_ ?_ ?_ ?_ ?_ ?_ ?_ ?_ ?_ ?_ ?_ ?_ ?_ ?_ ?_ ?_ ?_ ?_ ?_ ?_ ?_ ?_ ?_ ?_ h
  all_goals first
    | exact fun v => .junk v
    | exact fun b => .bool b
    | exact fun k n => .int k n
    | exact fun l => .str l
    | exact fun fl sz => .sl0 fl sz
    | exact fun fl sz a cap h1 h2 => .sle fl sz a cap h1 h2
    | exact fun fl sz xs b o cap h1 h2 h3 h4 _ h => .sl fl sz xs b o cap h1 h2 h3 h4 h
    | exact fun cs vs _ h => .agg cs vs h
    | exact fun cs vs _ h => .tup cs vs h
    | exact .pnil
    | exact fun l o h => by have := VR.ptr (g := g') (w := w') l o (Nat.lt_of_lt_of_le h x.n); rwa [x.ρ l h] at this
    | exact fun cs b o _ h => .eptr cs b o h
    | exact fun l o len sz cap h h1 h2 => by have := VR.hs (g := g') (w := w') l o len sz cap (Nat.lt_of_lt_of_le h x.n) h1 h2; rwa [x.ρ l h] at this
    | exact fun l h => by have := VR.mp (g := g') (w := w') l (Nat.lt_of_lt_of_le h x.n); rwa [x.ρ l h] at this
    | exact .mnil
    | exact fun f xs ys us vs _ _ h h' => .func f xs ys us vs h h'
    | exact .fnil
    | exact fun v => .val v
    | exact fun b o => .nil b o
    | exact fun b o av cs v hG hc h1 _ _ h t => .cons b o av cs v (x.G b o hG) ((x.cell b o hG).trans hc) h1 h t
    | exact .nil
    | exact fun av cs v vs h1 _ _ h t => .cons av cs v vs h1 h t
    | exact fun av cs v vs _ _ h t => .cons av cs v vs h t
theorem VR.mono (x : Ext g w g' w') {a v} (h : VR g w a v) : VR g' w' a v := (mono_all x).1 h
theorem CR.mono (x : Ext g w g' w') {b o cs} (h : CR g w b o cs) : CR g' w' b o cs := (mono_all x).2.1 h
theorem CL.mono (x : Ext g w g' w') {cs vs} (h : CL g w cs vs) : CL g' w' cs vs := (mono_all x).2.2.1 h
theorem VL.mono (x : Ext g w g' w') {cs vs} (h : VL g w cs vs) : VL g' w' cs vs := (mono_all x).2.2.2 h
end
end Go.Proofs.YtnibelnjflhkgaaDoor.Ab

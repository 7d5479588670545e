/- Values without memory: what a value of the program stands for, and that it goes on to stand for it. No condition. The abstract state and how it stands to memory: steps that keep to it, one behind the other. No condition. Operations that only compute: what they give, and that the machine gives a value that stands for it. No condition. Numbers, truths, texts: what operations on them give. No condition. Parts, places, lengths, pieces: what operations on them give. No condition. Values made of parts, and those that a type begins with. No condition. What an operation that only computes or reads gives in a state. No condition. Steps that make memory or write it: the state behind them. No condition. What each operation that writes or makes memory does to a state. No condition. Stores, new variables, new rows, rows that grow: each as a step of the state. No condition. Rows made of parts, and rows that grow. No condition. A row that grows. No condition. The append of a list behind another one, as a step of the state. No condition. -/
import Derived.WalkKit
import Derived.Below
import Derived.Orders
import Derived.Laws.AppendOwn
import Derived.Laws.StructEq
import Derived.Laws.Slices
import Derived.Laws.Strings
import Derived.Laws.BytesString
import Derived.Laws.Strings2
import Derived.Laws.Concat
import Derived.Laws.Tables
namespace Go.Proofs.YtnibelnjflhkgaaGreatDoor.Ab
set_option linter.unusedVariables false
inductive Fl|sh|full|own
 deriving DecidableEq
inductive AV where
 |junk
 |bool (b:Bool)
 |int (k:IntKind) (n:Int)
 |str (l:List UInt8)
 |sl (fl:Fl) (sz:Nat) (xs:List AV)
 |agg (cs:List AV)
 |tup (vs:List AV)
 |pnil
 |ptr (l o:Nat)
 |eptr (cs:List AV)
 |hs (l o len sz:Nat)
 |mp (l:Nat)
 |mnil
 |func (f:FuncId) (first cap:List AV)
 |fnil
 |val (v:Value)
def AV.cells:AV→List AV
 | .agg cs=>cs
 |v=> [v]
def flat (xs:List AV):List AV:=xs.flatMap AV.cells
structure Gh where
 n:Nat
 G:Nat→Nat→Prop
 ρ:Nat→Nat
mutual
inductive VR (g:Gh) (w:World):AV→Value→Prop
 |junk (v:Value):VR g w .junk v
 |bool (b:Bool):VR g w (.bool b) (.bool b)
 |int (k:IntKind) (n:Int):VR g w (.int k n) (.int k n)
 |str (l:List UInt8):VR g w (.str l) (.string ⟨⟨l⟩⟩)
 |sl0 (fl:Fl) (sz:Nat):VR g w (.sl fl sz []) (.slice none 0 0)
 |sle (fl:Fl) (sz:Nat) (a:Addr) (cap:Nat) (hmax:cap≤maxLen) (hfl:fl= .sh∨(fl= .full∧cap=0)):VR g w (.sl fl sz []) (.slice (some a) 0 cap)
 |sl (fl:Fl) (sz:Nat) (xs:List AV) (b o cap:Nat) (hlen:xs.length≤cap) (hmax:cap≤maxLen) (hfull:fl= .full→cap=xs.length) (hsz: ∀x∈xs,x.cells.length=sz) (h:CR g w b o (flat xs)):VR g w (.sl fl sz xs) (.slice (some ⟨b,o,none⟩) xs.length cap)
 |agg (cs:List AV) (vs:List Value) (h:CL g w cs vs):VR g w (.agg cs) (.agg ⟨vs⟩)
 |tup (cs:List AV) (vs:List Value) (h:VL g w cs vs):VR g w (.tup cs) (.tuple ⟨vs⟩)
 |pnil:VR g w .pnil (.pointer none)
 |ptr (l o:Nat) (h:l<g.n):VR g w (.ptr l o) (.pointer (some ⟨g.ρ l,o,none⟩))
 |eptr (cs:List AV) (b o:Nat) (h:CR g w b o cs):VR g w (.eptr cs) (.pointer (some ⟨b,o,none⟩))
 |hs (l o len sz cap:Nat) (h:l<g.n) (hlen:len≤cap) (hmax:cap≤maxLen):VR g w (.hs l o len sz) (.slice (some ⟨g.ρ l,o,none⟩) len cap)
 |mp (l:Nat) (h:l<g.n):VR g w (.mp l) (.map (some (g.ρ l)))
 |mnil:VR g w .mnil (.map none)
 |func (f:FuncId) (xs ys:List AV) (us vs:List Value) (h:VL g w xs us) (h' :VL g w ys vs):VR g w (.func f xs ys) (.func (.func f) ⟨us⟩ ⟨vs⟩)
 |fnil:VR g w .fnil .nilFunc
 |val (v:Value):VR g w (.val v) v
inductive CR (g:Gh) (w:World):Nat→Nat→List AV→Prop
 |nil (b o:Nat):CR g w b o []
 |cons (b o:Nat) (av:AV) (cs:List AV) (v:Value) (hG:g.G b o) (hc:w.cell? ⟨b,o,none⟩=some v) (h1:v.oneCell' =true) (h:VR g w av v) (t:CR g w b (o+1) cs):CR g w b o (av::cs)
inductive CL (g:Gh) (w:World):List AV→List Value→Prop
 |nil:CL g w [] []
 |cons (av:AV) (cs:List AV) (v:Value) (vs:List Value) (h1:v.oneCell' =true) (h:VR g w av v) (t:CL g w cs vs):CL g w (av::cs) (v::vs)
inductive VL (g:Gh) (w:World):List AV→List Value→Prop
 |nil:VL g w [] []
 |cons (av:AV) (cs:List AV) (v:Value) (vs:List Value) (h:VR g w av v) (t:VL g w cs vs):VL g w (av::cs) (v::vs)
end
def kn:Nat→Nat→Option Value:=fun b o=>if b=0∧o<256 then some (.int .u8 (if o=9∨o=10∨o=11∨o=12∨o=13∨o=32 then 1 else 0)) else none
def Amb (g:Gh) (w:World):Prop:= ∀b o v,kn b o=some v→g.G b o∧w.cell? ⟨b,o,none⟩=some v
structure Ext (g:Gh) (w:World) (g' :Gh) (w' :World):Prop where
 n:g.n≤g'.n
 ρ: ∀l,l<g.n→g'.ρ l=g.ρ l
 G: ∀b o,g.G b o→g'.G b o
 cell: ∀b o,g.G b o→w'.cell? ⟨b,o,none⟩=w.cell? ⟨b,o,none⟩
theorem Amb.ext {g g' :Gh} {w w' :World} (h:Amb g w) (x:Ext g w g' w'):Amb g' w' :=fun b o v hk=>⟨x.G b o (h b o v hk).1,(x.cell b o (h b o v hk).1).trans (h b o v hk).2⟩
theorem Ext.refl (g:Gh) (w:World):Ext g w g w:=⟨Nat.le_refl _,fun _ _=>rfl,fun _ _ h=>h,fun _ _ _=>rfl⟩
theorem Ext.trans {g g1 g2:Gh} {w w1 w2:World} (h:Ext g w g1 w1) (k:Ext g1 w1 g2 w2):Ext g w g2 w2:=
 ⟨Nat.le_trans h.n k.n,fun l hl=>(k.ρ l (Nat.lt_of_lt_of_le hl h.n)).trans (h.ρ l hl),fun b o hg=>k.G b o (h.G b o hg),fun b o hg=>(k.cell b o (h.G b o hg)).trans (h.cell b o hg)⟩
section
variable {g:Gh} {w:World} {g' :Gh} {w' :World}
theorem mono_all (x:Ext g w g' w'):(∀ {a v},VR g w a v→VR g' w' a v)∧(∀ {b o cs},CR g w b o cs→CR g' w' b o cs)∧(∀ {cs vs},CL g w cs vs→CL g' w' cs vs)∧(∀ {cs vs},VL g w cs vs→VL g' w' cs vs):=by
 refine ⟨fun h=> ?_,fun h=> ?_,fun h=> ?_,fun h=> ?_⟩
 all_goals first
  |refine VR.rec (motive_1:=fun a v _=>VR g' w' a v) (motive_2:=fun b o cs _=>CR g' w' b o cs) (motive_3:=fun cs vs _=>CL g' w' cs vs) (motive_4:=fun cs vs _=>VL g' w' cs vs) ?_ ?_ ?_ ?_ ?_ ?_ ?_ ?_ ?_ ?_ ?_ ?_ ?_ ?_ ?_ ?_ ?_ ?_ ?_ ?_ ?_ ?_ ?_ ?_ h
  |refine CR.rec (motive_1:=fun a v _=>VR g' w' a v) (motive_2:=fun b o cs _=>CR g' w' b o cs) (motive_3:=fun cs vs _=>CL g' w' cs vs) (motive_4:=fun cs vs _=>VL g' w' cs vs) ?_ ?_ ?_ ?_ ?_ ?_ ?_ ?_ ?_ ?_ ?_ ?_ ?_ ?_ ?_ ?_ ?_ ?_ ?_ ?_ ?_ ?_ ?_ ?_ h
  |refine CL.rec (motive_1:=fun a v _=>VR g' w' a v) (motive_2:=fun b o cs _=>CR g' w' b o cs) (motive_3:=fun cs vs _=>CL g' w' cs vs) (motive_4:=fun cs vs _=>VL g' w' cs vs) ?_ ?_ ?_ ?_ ?_ ?_ ?_ ?_ ?_ ?_ ?_ ?_ ?_ ?_ ?_ ?_ ?_ ?_ ?_ ?_ ?_ ?_ ?_ ?_ h
  |refine VL.rec (motive_1:=fun a v _=>VR g' w' a v) (motive_2:=fun b o cs _=>CR g' w' b o cs) (motive_3:=fun cs vs _=>CL g' w' cs vs) (motive_4:=fun cs vs _=>VL g' w' cs vs) ?_ ?_ ?_ ?_ ?_ ?_ ?_ ?_ ?_ ?_ ?_ ?_ ?_ ?_ ?_ ?_ ?_ ?_ ?_ ?_ ?_ ?_ ?_ ?_ h
 all_goals first
  |exact fun v=> .junk v
  |exact fun b=> .bool b
  |exact fun k n=> .int k n
  |exact fun l=> .str l
  |exact fun fl sz=> .sl0 fl sz
  |exact fun fl sz a cap h1 h2=> .sle fl sz a cap h1 h2
  |exact fun fl sz xs b o cap h1 h2 h3 h4 _ h=> .sl fl sz xs b o cap h1 h2 h3 h4 h
  |exact fun cs vs _ h=> .agg cs vs h
  |exact fun cs vs _ h=> .tup cs vs h
  |exact .pnil
  |exact fun l o h=>by have:=VR.ptr (g:=g') (w:=w') l o (Nat.lt_of_lt_of_le h x.n);rwa [x.ρ l h] at this
  |exact fun cs b o _ h=> .eptr cs b o h
  |exact fun l o len sz cap h h1 h2=>by have:=VR.hs (g:=g') (w:=w') l o len sz cap (Nat.lt_of_lt_of_le h x.n) h1 h2;rwa [x.ρ l h] at this
  |exact fun l h=>by have:=VR.mp (g:=g') (w:=w') l (Nat.lt_of_lt_of_le h x.n);rwa [x.ρ l h] at this
  |exact .mnil
  |exact fun f xs ys us vs _ _ h h' => .func f xs ys us vs h h'
  |exact .fnil
  |exact fun v=> .val v
  |exact fun b o=> .nil b o
  |exact fun b o av cs v hG hc h1 _ _ h t=> .cons b o av cs v (x.G b o hG) ((x.cell b o hG).trans hc) h1 h t
  |exact .nil
  |exact fun av cs v vs h1 _ _ h t=> .cons av cs v vs h1 h t
  |exact fun av cs v vs _ _ h t=> .cons av cs v vs h t
theorem VR.mono (x:Ext g w g' w') {a v} (h:VR g w a v):VR g' w' a v:=(mono_all x).1 h
theorem CR.mono (x:Ext g w g' w') {b o cs} (h:CR g w b o cs):CR g' w' b o cs:=(mono_all x).2.1 h
theorem CL.mono (x:Ext g w g' w') {cs vs} (h:CL g w cs vs):CL g' w' cs vs:=(mono_all x).2.2.1 h
theorem VL.mono (x:Ext g w g' w') {cs vs} (h:VL g w cs vs):VL g' w' cs vs:=(mono_all x).2.2.2 h
end
end Go.Proofs.YtnibelnjflhkgaaGreatDoor.Ab
namespace Go.Proofs.YtnibelnjflhkgaaGreatDoor.Ab
set_option linter.unusedVariables false
open Go.RowKit
inductive Blk where
 |cells (cs:List AV)
 |map (es:List (AV×AV))
structure Hp where
 n:Nat
 bk:Nat→Blk
structure ASt where
 fr:Nat→AV
 hp:Hp
inductive ML (g:Gh) (w:World):List (AV×AV)→List MapEntry→Prop
 |nil:ML g w [] []
 |cons (k v:AV) (es:List (AV×AV)) (e:MapEntry) (l:List MapEntry) (hk:VR g w k e.key) (hv:VR g w v e.val) (t:ML g w es l):ML g w ((k,v)::es) (e::l)
def BR (g:Gh) (w:World):Blk→Nat→Prop
 | .cells cs,c=> ∃vs us e fr,w.heap[c]? =some (.cells ⟨vs++us⟩ e fr)∧CL g w cs vs∧(fr=(0,0)∨vs.length≤fr.1)
 | .map es,c=> ∃l clock,w.heap[c]? =some (.map ⟨l⟩ clock)∧ML g w es l∧(∀e∈l,e.born<clock)∧(l.map MapEntry.born).Nodup
def OwnV (av:AV) (v:Value) (b:Nat):Prop:= ∃sz xs o len cap,av= .sl .own sz xs∧v= .slice (some ⟨b,o,none⟩) len cap
inductive Pl|slot (i:Nat)|cell (l j:Nat)
def Own (s:ASt) (vf:Nat→Value) (w:World) (g:Gh):Pl→Nat→Prop
 | .slot i,b=>OwnV (s.fr i) (vf i) b
 | .cell l j,b=>l<s.hp.n∧ ∃cs av v,s.hp.bk l= .cells cs∧cs[j]? =some av∧w.cell? ⟨g.ρ l,j,none⟩=some v∧OwnV av v b
def OwnB (s:ASt) (vf:Nat→Value) (w:World) (g:Gh) (b:Nat):Prop:= ∃p,Own s vf w g p b
def Tip (g:Gh) (w:World) (av:AV) (v:Value):Prop:=
 ∀sz xs b o len cap,av= .sl .own sz xs→v= .slice (some ⟨b,o,none⟩) len cap→
  o=0∧(∃cur e,w.heap[b]? =some (.cells cur e (0,0))∧cur.size=cap * sz)∧(∀j,xs.length * sz≤j→ ¬g.G b j)∧ ∀l,l<g.n→g.ρ l≠b
structure SR (s:ASt) (vf:Nat→Value) (w:World) (g:Gh):Prop where
 n:g.n=s.hp.n
 fr: ∀i,VR g w (s.fr i) (vf i)
 bk: ∀l,l<g.n→BR g w (s.hp.bk l) (g.ρ l)
 inj: ∀l l',l<g.n→l' <g.n→g.ρ l=g.ρ l' →l=l'
 G: ∀b o,g.G b o→b<w.heap.size∧ ∀l,l<g.n→g.ρ l≠b
 tipS: ∀i,Tip g w (s.fr i) (vf i)
 tipC: ∀l j cs av v,l<g.n→s.hp.bk l= .cells cs→cs[j]? =some av→w.cell? ⟨g.ρ l,j,none⟩=some v→Tip g w av v
 one: ∀p q b,Own s vf w g p b→Own s vf w g q b→p=q
structure Stp (O:Nat→Prop) (g:Gh) (w:World) (g' :Gh) (w' :World):Prop extends Ext g w g' w' where
 os:w'.os=w.os
 tape:w'.tape=w.tape
 output:w'.output=w.output
 size:w.heap.size≤w'.heap.size
 blk: ∀k,k<w.heap.size→(∀l,l<g.n→g.ρ l≠k)→ ¬O k→w'.heap[k]? =w.heap[k]?
 newG: ∀b o,g'.G b o→g.G b o∨w.heap.size≤b∨O b
 newρ: ∀l,g.n≤l→l<g'.n→w.heap.size≤g'.ρ l
structure Tr (s:ASt) (vf:Nat→Value) (w:World) (g:Gh) (s' :ASt) (vf' :Nat→Value) (w' :World) (g' :Gh):Prop where
 sr:SR s' vf' w' g'
 st:Stp (OwnB s vf w g) g w g' w'
 ow: ∀b,OwnB s' vf' w' g' b→OwnB s vf w g b∨w.heap.size≤b
theorem Stp.refl (O:Nat→Prop) (g:Gh) (w:World):Stp O g w g w:=
 {Ext.refl g w with os:=rfl,tape:=rfl,output:=rfl,size:=Nat.le_refl _,blk:=fun _ _ _ _=>rfl,newG:=fun _ _ h=> .inl h,newρ:=fun l h1 h2=>absurd h1 (Nat.not_le.2 h2) }
theorem SR.size_ρ {s vf w g} (h:SR s vf w g) {l:Nat} (hl:l<g.n):g.ρ l<w.heap.size:=by
 have:=h.bk l hl
 cases hb:s.hp.bk l with
 |cells cs=>rw [hb] at this;obtain ⟨vs,us,e,fr,h1,_⟩:=this;exact (Array.getElem?_eq_some_iff.1 h1).1
 |map es=>rw [hb] at this;obtain ⟨vs,e,h1,_⟩:=this;exact (Array.getElem?_eq_some_iff.1 h1).1
theorem SR.own_lt {s vf w g} (h:SR s vf w g) {p:Pl} {b:Nat} (ho:Own s vf w g p b):b<w.heap.size∧ ∀l,l<g.n→g.ρ l≠b:=by
 cases p with
 |slot i=>
  obtain ⟨sz,xs,o,len,cap,h1,h2⟩:=ho
  obtain ⟨_,⟨cur,e,hc,_⟩,_,h3⟩:=h.tipS i sz xs b o len cap h1 h2
  exact ⟨(Array.getElem?_eq_some_iff.1 hc).1,h3⟩
 |cell l j=>
  obtain ⟨hl,cs,av,v,hb,hj,hv,sz,xs,o,len,cap,h1,h2⟩:=ho
  obtain ⟨_,⟨cur,e,hc,_⟩,_,h3⟩:=h.tipC l j cs av v (h.n▸hl) hb hj hv sz xs b o len cap h1 h2
  exact ⟨(Array.getElem?_eq_some_iff.1 hc).1,h3⟩
theorem Tr.refl {s vf w g} (h:SR s vf w g):Tr s vf w g s vf w g:=⟨h,Stp.refl _ _ _,fun _ h=> .inl h⟩
theorem Tr.trans {s vf w g s1 vf1 w1 g1 s2 vf2 w2 g2} (h0:SR s vf w g) (h:Tr s vf w g s1 vf1 w1 g1) (k:Tr s1 vf1 w1 g1 s2 vf2 w2 g2):Tr s vf w g s2 vf2 w2 g2 where
 sr:=k.sr
 st:= { h.st.toExt.trans k.st.toExt with
  os:=k.st.os.trans h.st.os,tape:=k.st.tape.trans h.st.tape,output:=k.st.output.trans h.st.output,size:=Nat.le_trans h.st.size k.st.size
  blk:=fun b hb hρ hO=>by
   rw [k.st.blk b (Nat.lt_of_lt_of_le hb h.st.size) (fun l hl=> ?_) (fun hO1=> ?_)]
   ·exact h.st.blk b hb hρ hO
   ·by_cases hlt:l<g.n
    ·rw [h.st.ρ l hlt];exact hρ l hlt
    ·have:=h.st.newρ l (by omega) hl;omega
   ·rcases h.ow b hO1 with h1|h1
    ·exact hO h1
    ·omega
  newG:=fun b o hG=>by
   rcases k.st.newG b o hG with h1|h1|h1
   ·exact h.st.newG b o h1
   ·exact .inr (.inl (Nat.le_trans h.st.size h1))
   ·rcases h.ow b h1 with h2|h2
    ·exact .inr (.inr h2)
    ·exact .inr (.inl h2)
  newρ:=fun l h1 h2=>by
   by_cases hlt:l<g1.n
   ·have:=h.st.newρ l h1 hlt
    rwa [k.st.ρ l hlt]
   ·exact Nat.le_trans h.st.size (k.st.newρ l (by omega) h2) }
 ow:=fun b hb=>by
  rcases k.ow b hb with h1|h1
  ·exact h.ow b h1
  ·exact .inr (Nat.le_trans h.st.size h1)
def upd (f:Nat→AV) (i:Nat) (v:AV):Nat→AV:=fun j=>if j=i then v else f j
def updv (f:Nat→Value) (i:Nat) (v:Value):Nat→Value:=fun j=>if j=i then v else f j
@[simp] theorem upd_same (f i v):upd f i v i=v:=by simp [upd]
theorem upd_ne {i j:Nat} (f v) (h:j≠i):upd f i v j=f j:=by simp [upd,h]
@[simp] theorem updv_same (f i v):updv f i v i=v:=by simp [updv]
theorem updv_ne {i j:Nat} (f v) (h:j≠i):updv f i v j=f j:=by simp [updv,h]
def NotOwn (av:AV):Prop:= ∀sz xs,av≠ .sl .own sz xs
def strip:AV→AV
 | .sl .own sz xs=> .sl .sh sz xs
 |a=>a
theorem strip_notOwn (a:AV):NotOwn (strip a):=by
 intro sz xs h;unfold strip at h;split at h
 ·cases h
 ·rename_i h1;exact h1 sz xs h
theorem VR.strip {g w a v} (h:VR g w a v):VR g w (strip a) v:=by
 cases h with
 |sl0 fl sz=>cases fl<;>exact .sl0 _ _
 |sle fl sz a cap h1 h2=>cases fl<;>first|exact .sle _ _ _ _ h1 h2|(rcases h2 with h2|⟨h2,_⟩<;>cases h2;done)
 |sl fl sz xs b o cap h1 h2 h3 h4 h5=>
  cases fl with
  |own=>exact .sl .sh sz xs b o cap h1 h2 (fun h=>by cases h) h4 h5
  |sh=>exact .sl .sh sz xs b o cap h1 h2 h3 h4 h5
  |full=>exact .sl .full sz xs b o cap h1 h2 h3 h4 h5
 |junk v=>exact .junk v
 |bool b=>exact .bool b
 |int k n=>exact .int k n
 |str l=>exact .str l
 |agg cs vs h=>exact .agg cs vs h
 |tup cs vs h=>exact .tup cs vs h
 |pnil=>exact .pnil
 |ptr l o h=>exact .ptr l o h
 |eptr cs b o h=>exact .eptr cs b o h
 |hs l o len sz cap h1 h2 h3=>exact .hs l o len sz cap h1 h2 h3
 |mp l h=>exact .mp l h
 |mnil=>exact .mnil
 |func f xs ys us vs h h' =>exact .func f xs ys us vs h h'
 |fnil=>exact .fnil
 |val v=>exact .val v
theorem not_ownV {av v b} (h:NotOwn av): ¬OwnV av v b:=fun ⟨sz,xs,_,_,_,h1,_⟩=>h sz xs h1
theorem tip_notOwn {g w av v} (h:NotOwn av):Tip g w av v:=fun sz xs _ _ _ _ h1=>absurd h1 (h sz xs)
theorem tip_of_not {g w av v} (h: ∀b, ¬OwnV av v b):Tip g w av v:=fun sz xs b o len cap h1 h2=>absurd ⟨sz,xs,o,len,cap,h1,h2⟩ (h b)
theorem SR.put {s vf w g} (h:SR s vf w g) (d:Nat) {av:AV} {v:Value} (hv:VR g w av v) (hn: ∀b, ¬OwnV av v b):
  Tr s vf w g ⟨upd s.fr d av,s.hp⟩ (updv vf d v) w g:=by
 have back: ∀p b,Own ⟨upd s.fr d av,s.hp⟩ (updv vf d v) w g p b→Own s vf w g p b:=by
  intro p b ho
  cases p with
  |slot i=>
   simp only [Own,upd,updv] at ho ⊢
   by_cases hi:i=d
   ·simp only [hi,if_true] at ho;exact absurd ho (hn _)
   ·simpa only [hi,if_false] using ho
  |cell l j=>exact ho
 refine ⟨⟨h.n,fun i=> ?_,h.bk,h.inj,h.G,fun i=> ?_,h.tipC,fun p q b hp hq=>h.one p q b (back p b hp) (back q b hq)⟩,Stp.refl _ _ _,fun b ⟨p,hp⟩=> .inl ⟨p,back p b hp⟩⟩
 ·by_cases hi:i=d
  ·subst hi;simpa using hv
  ·simpa [upd,updv,hi] using h.fr i
 ·by_cases hi:i=d
  ·subst hi;simpa using tip_of_not hn
  ·simpa [upd,updv,hi] using h.tipS i
theorem SR.moveSlot {s vf w g} (h:SR s vf w g) (d t:Nat) (hdt:d≠t):
  Tr s vf w g ⟨upd (upd s.fr t (strip (s.fr t))) d (s.fr t),s.hp⟩ (updv vf d (vf t)) w g:=by
 have back: ∀p b,Own ⟨upd (upd s.fr t (strip (s.fr t))) d (s.fr t),s.hp⟩ (updv vf d (vf t)) w g p b→ ∃q,Own s vf w g q b∧(q=p∨(q= .slot t∧p= .slot d))∧p≠ .slot t∧(p= .slot d→q= .slot t):=by
  intro p b ho
  cases p with
  |slot i=>
   simp only [Own,upd,updv] at ho
   by_cases hi:i=d
   ·subst hi;simp only [if_true] at ho
    exact ⟨.slot t,ho, .inr ⟨rfl,rfl⟩,(fun e=>hdt (Pl.slot.inj e)),fun _=>rfl⟩
   ·simp only [hi,if_false] at ho
    by_cases ht:i=t
    ·subst ht;simp only [if_true] at ho;exact absurd ho (not_ownV (strip_notOwn _))
    ·simp only [ht,if_false] at ho
     exact ⟨.slot i,ho, .inl rfl,(fun e=>ht (Pl.slot.inj e)),fun e=>absurd (Pl.slot.inj e) hi⟩
  |cell l j=>exact ⟨.cell l j,ho, .inl rfl,(fun e=>by cases e),fun e=>by cases e⟩
 refine ⟨⟨h.n,fun i=> ?_,h.bk,h.inj,h.G,fun i=> ?_,h.tipC,fun p q b hp hq=> ?_⟩,Stp.refl _ _ _,fun b ⟨p,hp⟩=>let ⟨q,hq,_⟩:=back p b hp; .inl ⟨q,hq⟩⟩
 ·by_cases hi:i=d
  ·subst hi;simpa using h.fr t
  ·by_cases ht:i=t
   ·subst ht;simpa [upd,updv,hi] using (h.fr i).strip
   ·simpa [upd,updv,hi,ht] using h.fr i
 ·by_cases hi:i=d
  ·subst hi;simpa using h.tipS t
  ·by_cases ht:i=t
   ·subst ht;simpa [upd,updv,hi] using tip_notOwn (strip_notOwn _)
   ·simpa [upd,updv,hi,ht] using h.tipS i
 ·obtain ⟨p',hp',e1,n1,d1⟩:=back p b hp
  obtain ⟨q',hq',e2,n2,d2⟩:=back q b hq
  have e:=h.one p' q' b hp' hq'
  rcases e1 with e1|⟨e1,f1⟩<;>rcases e2 with e2|⟨e2,f2⟩
  ·rw [←e1, ←e2,e]
  ·exact absurd (e1▸e.trans e2) n1
  ·exact absurd (e2▸e.symm.trans e1) n2
  ·rw [f1,f2]
end Go.Proofs.YtnibelnjflhkgaaGreatDoor.Ab
namespace Go.Proofs.YtnibelnjflhkgaaGreatDoor.Ab
set_option linter.unusedVariables false
set_option linter.unusedSimpArgs false
open Go.RowKit
def szT (P:Program) (t:TypeId):Option Nat:=(P.info? t).map (·.size)
def aggT (P:Program) (t:TypeId):Option Bool:=match P.underlying t with|some (.struct _)=>some true|some (.array _ _)=>some true|some _=>some false|none=>none
def sliceT (P:Program) (t:TypeId):Option TypeId:=match P.underlying t with|some (.slice e)=>some e|_=>none
def arrT (P:Program) (t:TypeId):Option (Nat×TypeId):=match P.underlying t with|some (.array n e)=>some (n,e)|_=>none
def fldT (P:Program) (t:TypeId) (i:Nat):Option (Nat×TypeId):=match P.underlying t with|some (.struct fs)=>(fs[i]?).map fun f=>(f.offset,f.type)|_=>none
def intT (P:Program) (t:TypeId):Option IntKind:=match P.underlying t with|some (.int k)=>some k|_=>none
def strT (P:Program) (t:TypeId):Bool:=match P.underlying t with|some .string=>true|_=>false
def elT (P:Program) (t:TypeId):Option Nat:=(sliceT P t).bind (szT P)
section
variable {P:Program} {t:TypeId} {w:World}
theorem run_sizeOf' {n:Nat} (h:szT P t=some n):(sizeOf t).run P w= .ok n w:=by
 unfold szT at h
 cases hi:P.info? t with
 |none=>simp [hi] at h
 |some i=>simp [hi] at h;simp [sizeOf,typeInfo,hi,h]
theorem run_isAgg' {b:Bool} (h:aggT P t=some b):(isAgg t).run P w= .ok b w:=by
 unfold aggT at h
 cases hu:P.underlying t with
 |none=>simp [hu] at h
 |some d=>cases d<;>simp [hu] at h<;>subst h<;>simp [isAgg,run_underlying hu]
theorem sliceT_und {e:TypeId} (h:sliceT P t=some e):P.underlying t=some (.slice e):=by
 unfold sliceT at h;split at h<;>simp_all
theorem arrT_und {n:Nat} {e:TypeId} (h:arrT P t=some (n,e)):P.underlying t=some (.array n e):=by
 unfold arrT at h;split at h<;>simp_all
theorem fldT_und {i o:Nat} {ft:TypeId} (h:fldT P t i=some (o,ft)): ∃fs f,P.underlying t=some (.struct fs)∧fs[i]? =some f∧f.offset=o∧f.type=ft:=by
 unfold fldT at h
 split at h
 ·rename_i fs hu
  cases hf:fs[i]? with
  |none=>simp [hf] at h
  |some f=>simp [hf] at h;exact ⟨fs,f,hu,hf,h.1,h.2⟩
 ·cases h
theorem intT_und {k:IntKind} (h:intT P t=some k):P.underlying t=some (.int k):=by
 unfold intT at h;split at h<;>simp_all
theorem strT_und (h:strT P t=true):P.underlying t=some .string:=by
 unfold strT at h;split at h<;>simp_all
end
theorem add_mk (b o j:Nat):(⟨b,o,none⟩:Addr).add j=⟨b,o+j,none⟩:=by unfold Addr.add;split<;>simp_all
section
variable {g:Gh} {w:World}
theorem CL.length {cs vs} (h:CL g w cs vs):cs.length=vs.length:=by
 induction cs generalizing vs with
 |nil=>cases h;rfl
 |cons a cs ih=>cases h with|cons _ _ v vs h1 h2 t=>simp [ih t]
theorem VL.length {cs vs} (h:VL g w cs vs):cs.length=vs.length:=by
 induction cs generalizing vs with
 |nil=>cases h;rfl
 |cons a cs ih=>cases h with|cons _ _ v vs h2 t=>simp [ih t]
theorem CL.get {cs vs} (h:CL g w cs vs) {i:Nat} {a:AV} (hi:cs[i]? =some a): ∃v,vs[i]? =some v∧VR g w a v∧v.oneCell' =true:=by
 induction cs generalizing vs i with
 |nil=>simp at hi
 |cons c cs ih=>
  cases h with
  |cons _ _ v vs h1 h2 t=>
   cases i with
   |zero=>simp at hi;subst hi;exact ⟨v,by simp,h2,h1⟩
   |succ i=>simp at hi;simpa using ih t hi
theorem VL.get {cs vs} (h:VL g w cs vs) {i:Nat} {a:AV} (hi:cs[i]? =some a): ∃v,vs[i]? =some v∧VR g w a v:=by
 induction cs generalizing vs i with
 |nil=>simp at hi
 |cons c cs ih=>
  cases h with
  |cons _ _ v vs h2 t=>
   cases i with
   |zero=>simp at hi;subst hi;exact ⟨v,by simp,h2⟩
   |succ i=>simp at hi;simpa using ih t hi
theorem CL.drop {cs vs} (h:CL g w cs vs) (k:Nat):CL g w (cs.drop k) (vs.drop k):=by
 induction k generalizing cs vs with
 |zero=>simpa using h
 |succ k ih=>cases h with
  |nil=>simpa using CL.nil
  |cons _ _ v vs h1 h2 t=>simpa using ih t
theorem CL.take {cs vs} (h:CL g w cs vs) (k:Nat):CL g w (cs.take k) (vs.take k):=by
 induction k generalizing cs vs with
 |zero=>simpa using CL.nil
 |succ k ih=>cases h with
  |nil=>simpa using CL.nil
  |cons _ _ v vs h1 h2 t=>simpa using CL.cons _ _ _ _ h1 h2 (ih t)
theorem CL.append {cs vs ds us} (h:CL g w cs vs) (k:CL g w ds us):CL g w (cs++ds) (vs++us):=by
 induction cs generalizing vs with
 |nil=>cases h;simpa using k
 |cons c cs ih=>cases h with|cons _ _ v vs h1 h2 t=>simpa using CL.cons _ _ _ _ h1 h2 (ih t)
theorem CL.one {cs vs} (h:CL g w cs vs): ∀v∈vs,v.oneCell' =true:=by
 induction cs generalizing vs with
 |nil=>cases h;simp
 |cons c cs ih=>cases h with|cons _ _ v vs h1 h2 t=>simpa [h1] using ih t
theorem CR.append {b o cs ds} (h:CR g w b o (cs++ds)):CR g w b o cs∧CR g w b (o+cs.length) ds:=by
 induction cs generalizing o with
 |nil=>exact ⟨.nil _ _,by simpa using h⟩
 |cons c cs ih=>
  cases h with
  |cons _ _ _ _ v hG hc h1 h2 t=>
   obtain ⟨k1,k2⟩:=ih t
   exact ⟨.cons _ _ _ _ v hG hc h1 h2 k1,by simpa [Nat.add_assoc,Nat.add_comm 1] using k2⟩
theorem CR.join {b o cs ds} (h:CR g w b o cs) (k:CR g w b (o+cs.length) ds):CR g w b o (cs++ds):=by
 induction cs generalizing o with
 |nil=>simpa using k
 |cons c cs ih=>
  cases h with
  |cons _ _ _ _ v hG hc h1 h2 t=>exact .cons _ _ _ _ v hG hc h1 h2 (ih t (by simpa [Nat.add_assoc,Nat.add_comm 1] using k))
theorem CR.toCL {b o cs} (h:CR g w b o cs): ∃vs,CL g w cs vs∧(∀j v,vs[j]? =some v→w.cell? ⟨b,o+j,none⟩=some v):=by
 induction cs generalizing o with
 |nil=>exact ⟨[], .nil,by simp⟩
 |cons c cs ih=>
  cases h with
  |cons _ _ _ _ v hG hc h1 h2 t=>
   obtain ⟨vs,k1,k2⟩:=ih t
   refine ⟨v::vs, .cons _ _ _ _ h1 h2 k1,fun j u hj=> ?_⟩
   cases j with
   |zero=>simp at hj;subst hj;simpa using hc
   |succ j=>simp at hj;have:=k2 j u hj;rwa [show o+1+j=o+(j+1) by omega] at this
theorem CR.ofCL {b o cs vs} (h:CL g w cs vs) (hc: ∀j v,vs[j]? =some v→w.cell? ⟨b,o+j,none⟩=some v) (hG: ∀j,j<cs.length→g.G b (o+j)):CR g w b o cs:=by
 induction cs generalizing o vs with
 |nil=>exact .nil _ _
 |cons c cs ih=>
  cases h with
  |cons _ _ v vs h1 h2 t=>
   refine .cons _ _ _ _ v (by simpa using hG 0 (by simp)) (by simpa using hc 0 v (by simp)) h1 h2 (ih t (fun j u hj=> ?_) (fun j hj=> ?_))
   ·have:=hc (j+1) u (by simpa using hj);rwa [show o+(j+1)=o+1+j by omega] at this
   ·have:=hG (j+1) (by simpa using hj);rwa [show o+(j+1)=o+1+j by omega] at this
theorem CR.drop {b o cs} (h:CR g w b o cs) (k:Nat) (hk:k≤cs.length):CR g w b (o+k) (cs.drop k):=by
 have:cs=cs.take k++cs.drop k:=(List.take_append_drop k cs).symm
 rw [this] at h
 have:=h.append.2
 rwa [List.length_take,Nat.min_eq_left hk] at this
theorem CR.take {b o cs} (h:CR g w b o cs) (k:Nat):CR g w b o (cs.take k):=by
 have:cs=cs.take k++cs.drop k:=(List.take_append_drop k cs).symm
 rw [this] at h
 exact h.append.1
end
theorem flat_append (xs ys:List AV):flat (xs++ys)=flat xs++flat ys:=by simp [flat]
theorem flat_cons (x:AV) (ys:List AV):flat (x::ys)=x.cells++flat ys:=by simp [flat]
theorem flat_length {xs:List AV} {sz:Nat} (h: ∀x∈xs,x.cells.length=sz):(flat xs).length=xs.length * sz:=by
 induction xs with
 |nil=>simp [flat]
 |cons x xs ih=>
  rw [flat_cons,List.length_append,ih (fun y hy=>h y (by simp [hy])),h x (by simp)]
  simp [Nat.add_mul,Nat.add_comm]
def typA (n:Option Nat):AV→AV
 | .sl fl sz xs=>match n with|some n=> .sl fl (if xs.isEmpty then n else sz) xs|none=> .sl fl sz xs
 |a=>a
theorem typA_vr {g w n a v} (h:VR g w a v):VR g w (typA n a) v:=by
 cases n with
 |none=>cases a<;>exact h
 |some n=>
  cases h<;>try (constructor<;>assumption)
  case sl fl sz xs b o cap h1 h2 h3 h4 h5=>
   refine .sl fl _ xs b o cap h1 h2 h3 (fun x hx=> ?_) h5
   cases xs with
   |nil=>simp at hx
   |cons y ys=>simpa using h4 x hx
theorem typA_notOwn {n a} (h:NotOwn a):NotOwn (typA n a):=by
 intro sz xs e
 cases a<;>simp [typA] at e
 case sl fl sz' xs' =>cases n<;>simp at e<;>exact h sz' xs' (by rw [e.1])
def partA (P:Program) (t:TypeId) (cs:List AV) (off:Nat):Option AV:=
 match aggT P t with
 |some true=>match szT P t with
  |some n=>if off+n≤cs.length then some (.agg ((cs.drop off).take n)) else none
  |none=>none
 |some false=>match cs[off]? with
  |some a=>some (typA (elT P t) (strip a))
  |none=>none
 |none=>none
section
variable {P:Program} {g:Gh} {w:World}
theorem run_part {t:TypeId} {cs:List AV} {vs:List Value} {off:Nat} {a:AV} (h:CL g w cs vs) (hp:partA P t cs off=some a):
  ∃v,(part t ⟨vs⟩ off).run P w= .ok v w∧VR g w a v∧NotOwn a:=by
 unfold partA at hp
 split at hp
 ·rename_i ht
  split at hp
  ·rename_i n hn
   split at hp
   ·rename_i hlt
    simp at hp;subst hp
    refine ⟨.agg ⟨(vs.drop off).take n⟩, ?_, .agg _ _ ((h.drop off).take n),fun _ _ h=>by cases h⟩
    simp [part,run_isAgg' ht,run_sizeOf' hn]
   ·cases hp
  ·cases hp
 ·rename_i ht
  split at hp
  ·rename_i c hc
   simp at hp;subst hp
   obtain ⟨v,hv,hr,_⟩:=h.get hc
   exact ⟨v,by simp [part,run_isAgg' ht,hv],typA_vr hr.strip,typA_notOwn (strip_notOwn _)⟩
  ·cases hp
 ·cases hp
theorem run_loadVar' {t:TypeId} {cs:List AV} {vs:List Value} {b o k:Nat} {a:AV} (h:CL g w cs vs) (hc: ∀j v,vs[j]? =some v→w.cell? ⟨b,o+j,none⟩=some v)
  (hp:partA P t cs k=some a): ∃v,(loadVar t ⟨b,o+k,none⟩).run P w= .ok v w∧VR g w a v∧NotOwn a:=by
 unfold partA at hp
 split at hp
 ·rename_i ht
  split at hp
  ·rename_i n hn
   split at hp
   ·rename_i hlt
    simp at hp;subst hp
    refine ⟨.agg ⟨(vs.drop k).take n⟩, ?_, .agg _ _ ((h.drop k).take n),fun _ _ h=>by cases h⟩
    have hl:=h.length
    have hlen:((vs.drop k).take n).length=n:=by simp;omega
    have hr:=run_loadCells_list (P:=P) w ⟨b,o+k,none⟩ ((vs.drop k).take n) (fun j v hj=>by
     rw [add_mk]
     have:vs[k+j]? =some v:=by
      rw [List.getElem?_take] at hj
      split at hj
      ·simpa using hj
      ·cases hj
     have:=hc (k+j) v this
     rwa [←Nat.add_assoc] at this)
    rw [hlen] at hr
    simp [loadVar,run_isAgg' ht,run_sizeOf' hn,hr]
   ·cases hp
  ·cases hp
 ·rename_i ht
  split at hp
  ·rename_i c hc'
   simp at hp;subst hp
   obtain ⟨v,hv,hr,_⟩:=h.get hc'
   exact ⟨v,by simp [loadVar,run_isAgg' ht,hc k v hv],typA_vr hr.strip,typA_notOwn (strip_notOwn _)⟩
  ·cases hp
 ·cases hp
end
end Go.Proofs.YtnibelnjflhkgaaGreatDoor.Ab
namespace Go.Proofs.YtnibelnjflhkgaaGreatDoor.Ab
set_option linter.unusedVariables false
set_option linter.unusedSimpArgs false
open Go.RowKit
def intA (op:BinOp) (k:IntKind) (a b:Int):Option AV:=
 match op with
 | .add=>some (.int k (k.wrap (a+b)))
 | .sub=>some (.int k (k.wrap (a-b)))
 | .mul=>some (.int k (k.wrap (a * b)))
 | .quo=>if b=0 then none else some (.int k (k.wrap (a.tdiv b)))
 | .rem=>if b=0 then none else some (.int k (a.tmod b))
 | .and=>some (.int k (k.wrap (BitVec.ofInt k.bits a&&&BitVec.ofInt k.bits b).toNat))
 | .or=>some (.int k (k.wrap (BitVec.ofInt k.bits a|||BitVec.ofInt k.bits b).toNat))
 | .xor=>some (.int k (k.wrap (BitVec.ofInt k.bits a ^^^ BitVec.ofInt k.bits b).toNat))
 | .andNot=>some (.int k (k.wrap (BitVec.ofInt k.bits a&&& ~~~ BitVec.ofInt k.bits b).toNat))
 | .eql=>some (.bool (a==b))
 | .neq=>some (.bool (a !=b))
 | .lss=>some (.bool (decide (a<b)))
 | .leq=>some (.bool (decide (a≤b)))
 | .gtr=>some (.bool (decide (a>b)))
 | .geq=>some (.bool (decide (a≥b)))
 |_=>none
def shiftA (op:BinOp) (k:IntKind) (a b:Int):Option AV:=
 if b<0 then none else
 match op with
 | .shl=>some (.int k (k.wrap (a * 2 ^ (min b.toNat k.bits))))
 | .shr=>some (.int k (a.fdiv (2 ^ (min b.toNat k.bits))))
 |_=>none
def strA (op:BinOp) (a b:List UInt8):Option AV:=
 match op with
 | .add=>if a.length+b.length≤9223372036854775807 then some (.str (a++b)) else none
 | .eql=>some (.bool (a==b))
 | .neq=>some (.bool (!(a==b)))
 | .lss=>some (.bool (Op.bytesLess a b))
 | .leq=>some (.bool (Op.bytesLess a b||a==b))
 | .gtr=>some (.bool (!(Op.bytesLess a b||a==b)))
 | .geq=>some (.bool (!Op.bytesLess a b))
 |_=>none
def isShift:BinOp→Bool| .shl=>true| .shr=>true|_=>false
def boolT (P:Program) (t:TypeId):Bool:=match P.underlying t with|some .bool=>true|_=>false
def ptrT (P:Program) (t:TypeId):Bool:=match P.underlying t with|some (.pointer _)=>true|_=>false
def binA (P:Program) (op:BinOp) (t:TypeId) (x y:AV):Option AV:=
 match x,y with
 | .int k a, .int k' b=>if isShift op then shiftA op k a b else if k=k' then intA op k a b else none
 | .str a, .str b=>strA op a b
 | .bool a, .bool b=>if boolT P t then (match op with| .eql=>some (.bool (a==b))| .neq=>some (.bool (!(a==b)))|_=>none) else none
 | .ptr _ _, .pnil=>if ptrT P t then (match op with| .eql=>some (.bool false)| .neq=>some (.bool true)|_=>none) else none
 | .pnil, .pnil=>if ptrT P t then (match op with| .eql=>some (.bool true)| .neq=>some (.bool false)|_=>none) else none
 |_,_=>none
theorem boolT_und {P:Program} {t:TypeId} (h:boolT P t=true):P.underlying t=some .bool:=by
 unfold boolT at h;split at h<;>simp_all
theorem ptrT_und {P:Program} {t:TypeId} (h:ptrT P t=true):P.underlying t=some (.pointer (P.pointee t)):=by
 unfold ptrT at h;split at h<;>simp_all [Program.pointee]
section
variable {P:Program} {g:Gh} {w:World}
theorem run_binA {op:BinOp} {t:TypeId} {x y:Operand} {a b r:AV} {u v:Value} (hx:VR g w a u) (hy:VR g w b v) (h:binA P op t a b=some r):
  ∃z,(do eqGuard op t x y u v;binOp op t u v:Sem Value).run P w= .ok z w∧VR g w r z∧NotOwn r:=by
 cases hx<;>cases hy<;>simp only [binA] at h<;>try (cases h;done)
 case int.int k n k' n' =>
  have hg:(eqGuard op t x y (.int k n) (.int k' n')).run P w= .ok () w:=by cases op<;>simp [eqGuard]
  by_cases hs:isShift op=true
  ·simp only [hs,if_true] at h
   unfold shiftA at h
   split at h
   ·cases h
   ·rename_i hn
    cases op<;>simp [isShift] at hs<;>simp at h<;>subst h
    iterate 2
     ·exact ⟨_,by simp [hg,binOp,Op.shift,hn], .int _ _,fun _ _ e=>by cases e⟩
  ·simp only [hs] at h
   simp only [Bool.false_eq_true,if_false] at h
   split at h
   ·rename_i hk;subst hk
    unfold intA at h
    cases op<;>simp [isShift] at hs<;>simp only [Option.some.injEq,reduceCtorEq,Option.ite_none_left_eq_some] at h
    case quo=>obtain ⟨h0,h⟩:=h;subst h;exact ⟨_,by simp [hg,binOp,Op.intDiv,h0], .int _ _,fun _ _ e=>by cases e⟩
    case rem=>obtain ⟨h0,h⟩:=h;subst h;exact ⟨_,by simp [hg,binOp,Op.intDiv,h0], .int _ _,fun _ _ e=>by cases e⟩
    case and=>subst h;exact ⟨_,by simp only [Sem.run_bind,hg,Result.andThen_ok,binOp,ne_eq,not_true_eq_false,if_false];rfl, .int _ _,fun _ _ e=>by cases e⟩
    case or=>subst h;exact ⟨_,by simp only [Sem.run_bind,hg,Result.andThen_ok,binOp,ne_eq,not_true_eq_false,if_false];rfl, .int _ _,fun _ _ e=>by cases e⟩
    case xor=>subst h;exact ⟨_,by simp only [Sem.run_bind,hg,Result.andThen_ok,binOp,ne_eq,not_true_eq_false,if_false];rfl, .int _ _,fun _ _ e=>by cases e⟩
    case andNot=>subst h;exact ⟨_,by simp only [Sem.run_bind,hg,Result.andThen_ok,binOp,ne_eq,not_true_eq_false,if_false];rfl, .int _ _,fun _ _ e=>by cases e⟩
    case add=>subst h;exact ⟨_,by simp only [Sem.run_bind,hg,Result.andThen_ok,binOp,ne_eq,not_true_eq_false,if_false];rfl, .int _ _,fun _ _ e=>by cases e⟩
    case sub=>subst h;exact ⟨_,by simp only [Sem.run_bind,hg,Result.andThen_ok,binOp,ne_eq,not_true_eq_false,if_false];rfl, .int _ _,fun _ _ e=>by cases e⟩
    case mul=>subst h;exact ⟨_,by simp only [Sem.run_bind,hg,Result.andThen_ok,binOp,ne_eq,not_true_eq_false,if_false];rfl, .int _ _,fun _ _ e=>by cases e⟩
    all_goals (subst h;exact ⟨_,by simp only [Sem.run_bind,hg,Result.andThen_ok,binOp,ne_eq,not_true_eq_false,if_false];rfl, .bool _,fun _ _ e=>by cases e⟩)
   ·cases h
 case str.str l l' =>
  have hg:(eqGuard op t x y (.string ⟨⟨l⟩⟩) (.string ⟨⟨l'⟩⟩)).run P w= .ok () w:=by cases op<;>simp [eqGuard]
  unfold strA at h
  cases op<;>simp at h
  case add=>
   obtain ⟨h0,h⟩:=h;subst h
   refine ⟨_, ?_, .str _,fun _ _ e=>by cases e⟩
   simp only [Sem.run_bind,hg,Result.andThen_ok,binOp_string_add]
   rw [run_string_add_sum _ _ _ (by simpa [ByteArray.size] using h0),ByteArray.mk_append_mk]
  all_goals (subst h;refine ⟨_,by simp [hg,binOp,Op.stringOp];rfl, ?_,fun _ _ e=>by cases e⟩;simpa [ByteArray.toList_eq] using VR.bool _)
 case bool.bool a b=>
  have hg:(eqGuard op t x y (.bool a) (.bool b)).run P w= .ok () w:=by cases op<;>simp [eqGuard]
  split at h
  ·rename_i hb
   cases op<;>simp at h<;>subst h
   ·exact ⟨_,by simp [hg,run_eql_bool (P:=P) w t a b (boolT_und hb)], .bool _,fun _ _ e=>by cases e⟩
   ·exact ⟨_,by simp [hg,run_neq_bool (P:=P) w t a b (boolT_und hb)], .bool _,fun _ _ e=>by cases e⟩
  ·cases h
 case ptr.pnil l o hl=>
  have hg:(eqGuard op t x y (.pointer (some ⟨g.ρ l,o,none⟩)) (.pointer none)).run P w= .ok () w:=by cases op<;>simp [eqGuard]
  split at h
  ·rename_i hp
   have hpt:=ptrT_und hp
   cases op<;>simp at h<;>subst h
   ·exact ⟨.bool false,by simp [hg,run_neq_pointer_nil (P:=P) w t _ hpt,run_eql_pointer_nil (P:=P) w t _ hpt], .bool _,fun _ _ e=>by cases e⟩
   ·exact ⟨.bool true,by simp [hg,run_neq_pointer_nil (P:=P) w t _ hpt,run_eql_pointer_nil (P:=P) w t _ hpt], .bool _,fun _ _ e=>by cases e⟩
  ·cases h
 case pnil.pnil=>
  have hg:(eqGuard op t x y (.pointer none) (.pointer none)).run P w= .ok () w:=by cases op<;>simp [eqGuard]
  split at h
  ·rename_i hp
   have hpt:=ptrT_und hp
   cases op<;>simp at h<;>subst h
   ·exact ⟨.bool true,by simp [hg,run_neq_pointer_nil (P:=P) w t _ hpt,run_eql_pointer_nil (P:=P) w t _ hpt], .bool _,fun _ _ e=>by cases e⟩
   ·exact ⟨.bool false,by simp [hg,run_neq_pointer_nil (P:=P) w t _ hpt,run_eql_pointer_nil (P:=P) w t _ hpt], .bool _,fun _ _ e=>by cases e⟩
  ·cases h
def unA (op:UnOp) (x:AV):Option AV:=
 match op,x with
 | .neg, .int k n=>some (.int k (k.wrap (0-n)))
 | .not, .bool b=>some (.bool (!b))
 | .xor, .int k n=>intA .xor k (if k.signed then-1 else k.max) n
 |_,_=>none
theorem run_unA {op:UnOp} {a r:AV} {u:Value} (hx:VR g w a u) (h:unA op a=some r): ∃z,(Op.unary op u).run P w= .ok z w∧VR g w r z∧NotOwn r:=by
 cases hx<;>cases op<;>simp only [unA] at h<;>try (cases h;done)
 ·simp at h;subst h;exact ⟨_,by simp [Op.unary], .bool _,fun _ _ e=>by cases e⟩
 ·simp at h;subst h;exact ⟨_,by simp [Op.unary,Op.intArith], .int _ _,fun _ _ e=>by cases e⟩
 ·simp [intA] at h;subst h;exact ⟨_,by simp [Op.unary,Op.intBits], .int _ _,fun _ _ e=>by cases e⟩
def bytesOf:List AV→Option (List UInt8)
 | []=>some []
 | .int .u8 n::xs=>match bytesOf xs with|some l=>some (UInt8.ofNat n.toNat::l)|none=>none
 |_=>none
def cvtA (P:Program) (src dst:TypeId) (x:AV):Option AV:=
 match x with
 | .int _ n=>match intT P src,intT P dst with|some _,some k=>some (.int k (k.wrap n))|_,_=>none
 | .str l=>if strT P src&&strT P dst then some (.str l) else none
 |_=>none
theorem bytesOf_spec {xs:List AV} {l:List UInt8} (h:bytesOf xs=some l): ∃ns:List Int,xs=ns.map (AV.int .u8)∧l=ns.map fun n=>UInt8.ofNat n.toNat:=by
 induction xs generalizing l with
 |nil=>simp [bytesOf] at h;subst h;exact ⟨[],rfl,rfl⟩
 |cons x xs ih=>
  unfold bytesOf at h
  split at h
  ·cases ‹_::_= []›
  ·rename_i n xs' e;cases e
   split at h
   ·rename_i l' hl
    simp at h;subst h
    obtain ⟨ns,h1,h2⟩:=ih hl
    exact ⟨n::ns,by simp [h1],by simp [h2]⟩
   ·cases h
  ·cases h
theorem flat_ints (ns:List Int):flat (ns.map (AV.int .u8))=ns.map (AV.int .u8):=by
 induction ns with
 |nil=>rfl
 |cons n ns ih=>simp [flat_cons,AV.cells,ih]
theorem CL_ints {ns:List Int} {vs:List Value} (h:CL g w (ns.map (AV.int .u8)) vs):vs=ns.map (Value.int .u8):=by
 induction ns generalizing vs with
 |nil=>cases h;rfl
 |cons n ns ih=>cases h with|cons _ _ v vs h1 h2 t=>cases h2;simp [ih t]
theorem foldl_push (ns:List Int): ∀s:ByteArray,ns.foldl (fun r n=>r.push (UInt8.ofNat n.toNat)) s=⟨⟨s.data.toList++ns.map fun n=>UInt8.ofNat n.toNat⟩⟩:=by
 induction ns with
 |nil=>intro s;simp
 |cons n ns ih=>
  intro s
  rw [List.foldl_cons,ih]
  simp [ByteArray.push]
theorem run_cvtA {src dst:TypeId} {a r:AV} {u:Value} (hx:VR g w a u) (h:cvtA P src dst a=some r): ∃z,(convert src dst u).run P w= .ok z w∧VR g w r z∧NotOwn r:=by
 cases hx<;>simp only [cvtA] at h<;>try (cases h;done)
 case int k n=>
  split at h
  ·rename_i k1 k2 h1 h2
   simp at h;subst h
   exact ⟨_,by simp [convert,run_underlying (intT_und h1),run_underlying (intT_und h2),Conv.intToInt], .int _ _,fun _ _ e=>by cases e⟩
  ·cases h
 case str l=>
  split at h
  ·rename_i h1
   simp at h1 h;subst h
   exact ⟨_,by simp [convert,run_underlying (strT_und h1.1),run_underlying (strT_und h1.2)], .str _,fun _ _ e=>by cases e⟩
  ·cases h
def bytT (P:Program) (t:TypeId):Bool:=match sliceT P t with|some e=>intT P e==some .u8|none=>false
theorem bytT_und {t:TypeId} (h:bytT P t=true): ∃e,sliceT P t=some e∧intT P e=some .u8:=by
 unfold bytT at h
 split at h
 ·rename_i e he;exact ⟨e,he,by simpa using h⟩
 ·cases h
theorem run_bytes_text {src dst:TypeId} {fl:Fl} {sz:Nat} {xs:List AV} {l:List UInt8} {u:Value} (hs:bytT P src=true) (hd:strT P dst=true) (hx:VR g w (.sl fl sz xs) u) (hl:bytesOf xs=some l):(convert src dst u).run P w= .ok (.string ⟨⟨l⟩⟩) w:=by
 obtain ⟨e,he,hi⟩:=bytT_und hs
 cases hx
 case sl0=>
  simp [bytesOf] at hl;subst hl
  rw [run_convert_bytes_string w src dst e none 0 0 (sliceT_und he) (intT_und hi) (strT_und hd)];simp [Conv.bytesToString];rfl
 case sle a cap h1 h2=>
  simp [bytesOf] at hl;subst hl
  rw [run_convert_bytes_string w src dst e (some a) 0 cap (sliceT_und he) (intT_und hi) (strT_und hd)];simp [Conv.bytesToString,loadCells,loadCellsFrom];rfl
 case sl b o cap h1 h2 h5 h4 h3=>
  obtain ⟨ns,rfl,rfl⟩:=bytesOf_spec hl
  rw [flat_ints] at h5
  obtain ⟨vs,k1,k2⟩:=h5.toCL
  rw [CL_ints k1] at k2
  have hr:=run_loadCells_list (P:=P) w ⟨b,o,none⟩ (ns.map (Value.int .u8)) (fun j v hj=>by rw [add_mk];exact k2 j v hj)
  rw [run_convert_bytes_string w src dst e _ _ _ (sliceT_und he) (intT_und hi) (strT_und hd),run_bytesToString w _ _ cap ns (by simpa using hr)]
  rw [foldl_push]
  rfl
end
end Go.Proofs.YtnibelnjflhkgaaGreatDoor.Ab
namespace Go.Proofs.YtnibelnjflhkgaaGreatDoor.Ab
set_option linter.unusedVariables false
set_option linter.unusedSimpArgs false
open Go.RowKit
def fieldA (P:Program) (t:TypeId) (x:AV) (f:Nat):Option AV:=
 match x with
 | .agg cs=>match fldT P t f with|some (o,ft)=>partA P ft cs o|none=>none
 |_=>none
def indexA (P:Program) (t:TypeId) (x i:AV):Option AV:=
 match x,i with
 | .str l, .int _ n=>if strT P t&&decide (0≤n) then (match l[n.toNat]? with|some c=>some (.int .u8 c.toNat)|none=>none) else none
 | .agg cs, .int _ n=>match arrT P t with
  |some (len,e)=>match szT P e with|some sz=>if 0≤n∧n<len then partA P e cs (n.toNat * sz) else none|none=>none
  |none=>none
 |_,_=>none
def indexAddrA (P:Program) (t:TypeId) (x i:AV):Option AV:=
 match x,i with
 | .sl _ sz xs, .int _ n=>match elT P t with|some m=>if m=sz∧0≤n then (match xs[n.toNat]? with|some a=>some (.eptr a.cells)|none=>none) else none|none=>none
 | .ptr l o, .int _ n=>match arrT P t with|some (len,e)=>(match szT P e with|some sz=>if 0≤n∧n<len then some (.ptr l (o+n.toNat * sz)) else none|none=>none)|none=>none
 | .hs l o len sz, .int _ n=>match elT P t with|some m=>if m=sz∧0≤n∧n<len then some (.ptr l (o+n.toNat * sz)) else none|none=>none
 |_,_=>none
def fieldAddrA (P:Program) (t:TypeId) (x:AV) (f:Nat):Option AV:=
 match fldT P t f with
 |some (off,ft)=>match szT P ft with
  |some (_+1)=>(match x with
   | .ptr l o=>some (.ptr l (o+off))
   | .eptr cs=>if off≤cs.length then some (.eptr (cs.drop off)) else none
   |_=>none)
  |_=>none
 |none=>none
def extractA (x:AV) (i:Nat):Option AV:=
 match x with
 | .tup vs=>match vs[i]? with|some a=>some (strip a)|none=>none
 |_=>none
def lenA (P:Program) (t:TypeId) (x:AV):Option AV:=
 match x with
 | .str l=>if strT P t then some (.int .i64 l.length) else none
 | .sl _ _ xs=>match sliceT P t with|some _=>some (.int .i64 xs.length)|none=>none
 | .hs _ _ len _=>match sliceT P t with|some _=>some (.int .i64 len)|none=>none
 |_=>none
section
variable {P:Program} {g:Gh} {w:World}
theorem elT_und {t:TypeId} {n:Nat} (h:elT P t=some n): ∃e,P.underlying t=some (.slice e)∧szT P e=some n:=by
 unfold elT at h
 cases hs:sliceT P t with
 |none=>simp [hs] at h
 |some e=>simp [hs] at h;exact ⟨e,sliceT_und hs,h⟩
theorem run_fieldA {t:TypeId} {a r:AV} {u:Value} {f:Nat} (hx:VR g w a u) (h:fieldA P t a f=some r): ∃z,(Instr.field t u f).run P w= .ok z w∧VR g w r z∧NotOwn r:=by
 cases hx<;>simp only [fieldA] at h<;>try (cases h;done)
 case agg cs vs hc=>
  split at h
  ·rename_i o ft hf
   obtain ⟨fs,fd,hu,hfd,rfl,rfl⟩:=fldT_und hf
   obtain ⟨z,h1,h2,h3⟩:=run_part (P:=P) hc h
   exact ⟨z,by simp [Instr.field,run_underlying hu,hfd,asAgg,h1],h2,h3⟩
  ·cases h
theorem getElem?_mk (l:List UInt8) (n:Nat):(⟨⟨l⟩⟩:ByteArray)[n]? =l[n]? :=by
 by_cases h:n<l.length
 ·rw [ByteArray.getElem?_lt' _ _ (by simpa [ByteArray.size] using h),List.getElem?_eq_getElem h];rfl
 ·rw [ByteArray.getElem?_ge' _ _ (by simpa [ByteArray.size] using h),List.getElem?_eq_none (by omega)]
theorem run_indexA {t:TypeId} {a i r:AV} {u v:Value} (hx:VR g w a u) (hi:VR g w i v) (h:indexA P t a i=some r): ∃z,(Instr.index t u v).run P w= .ok z w∧VR g w r z∧NotOwn r:=by
 cases hx<;>cases hi<;>simp only [indexA] at h<;>try (cases h;done)
 case str.int l k n=>
  split at h
  ·rename_i hc
   simp at hc
   split at h
   ·rename_i c hl
    simp at h;subst h
    exact ⟨.int .u8 c.toNat,by simp [Instr.index,asIntOf,run_underlying (strT_und hc.1),hc.2,getElem?_mk,hl], .int _ _,fun _ _ e=>by cases e⟩
   ·cases h
  ·cases h
 case agg.int cs vs hc k n=>
  split at h
  ·rename_i len e ha
   split at h
   ·rename_i sz hs
    split at h
    ·rename_i hb
     obtain ⟨z,h1,h2,h3⟩:=run_part (P:=P) hc h
     exact ⟨z,by simp [Instr.index,asIntOf,run_underlying (arrT_und ha),hb,run_sizeOf' hs,h1],h2,h3⟩
    ·cases h
   ·cases h
  ·cases h
theorem flat_get {xs:List AV} {sz i:Nat} {a:AV} (hsz: ∀x∈xs,x.cells.length=sz) (hi:xs[i]? =some a) {b o:Nat} (h:CR g w b o (flat xs)):CR g w b (o+i * sz) a.cells:=by
 have hlt:i<xs.length:=(List.getElem?_eq_some_iff.1 hi).1
 have he:xs=xs.take i++a::xs.drop (i+1):=by
  have:=List.take_append_drop i xs
  rw [List.drop_eq_getElem_cons hlt,(List.getElem?_eq_some_iff.1 hi).2] at this
  exact this.symm
 rw [he,flat_append,flat_cons] at h
 have h2:=h.append.2.append.1
 rwa [flat_length (sz:=sz) (fun x hx=>hsz x (List.mem_of_mem_take hx)),List.length_take,Nat.min_eq_left (Nat.le_of_lt hlt)] at h2
theorem run_indexAddrA {t:TypeId} {a i r:AV} {u v:Value} (hx:VR g w a u) (hi:VR g w i v) (h:indexAddrA P t a i=some r): ∃z,(Instr.indexAt t u v).run P w= .ok z w∧VR g w r z∧NotOwn r:=by
 cases hx<;>cases hi<;>simp only [indexAddrA] at h<;>try (cases h;done)
 case sl0.int fl sz k n=>
  split at h
  ·split at h
   ·simp at h
   ·cases h
  ·cases h
 case sle.int fl sz a cap h1 h2 k n=>
  split at h
  ·split at h
   ·simp at h
   ·cases h
  ·cases h
 case sl.int fl sz xs b o cap h1 h2 h3 h4 h5 k n=>
  split at h
  ·rename_i m hm
   split at h
   ·rename_i hc
    obtain ⟨rfl,hn⟩:=hc
    split at h
    ·rename_i c hc
     simp at h;subst h
     obtain ⟨e,hu,hs⟩:=elT_und hm
     have hlt:n.toNat<xs.length:=(List.getElem?_eq_some_iff.1 hc).1
     have hlt' :n<(xs.length:Int):=by omega
     exact ⟨.pointer (some ⟨b,o+n.toNat * m,none⟩),by simp [Instr.indexAt,asIntOf,run_underlying hu,hn,hlt',run_sizeOf' hs,add_mk], .eptr _ _ _ (flat_get h4 hc h5),fun _ _ e=>by cases e⟩
    ·cases h
   ·cases h
  ·cases h
 case ptr.int l o hl k n=>
  split at h
  ·rename_i len e ha
   split at h
   ·rename_i sz hs
    split at h
    ·rename_i hb
     simp at h;subst h
     exact ⟨.pointer (some ⟨g.ρ l,o+n.toNat * sz,none⟩),by simp [Instr.indexAt,asIntOf,Instr.sureAddr,run_underlying (arrT_und ha),hb,run_sizeOf' hs,add_mk], .ptr _ _ hl,fun _ _ e=>by cases e⟩
    ·cases h
   ·cases h
  ·cases h
 case hs.int l o len sz cap hl h1 h2 k n=>
  split at h
  ·rename_i m hm
   split at h
   ·rename_i hc
    obtain ⟨rfl,hn⟩:=hc
    simp at h;subst h
    obtain ⟨e,hu,hs⟩:=elT_und hm
    exact ⟨.pointer (some ⟨g.ρ l,o+n.toNat * m,none⟩),by simp [Instr.indexAt,asIntOf,run_underlying hu,hn,run_sizeOf' hs,add_mk], .ptr _ _ hl,fun _ _ e=>by cases e⟩
   ·cases h
  ·cases h
theorem run_fieldAddrA {t:TypeId} {a r:AV} {u:Value} {f:Nat} (hx:VR g w a u) (h:fieldAddrA P t a f=some r): ∃z,(Instr.fieldAt t u f).run P w= .ok z w∧VR g w r z∧NotOwn r:=by
 unfold fieldAddrA at h
 split at h
 ·rename_i off ft hf
  obtain ⟨fs,fd,hu,hfd,rfl,rfl⟩:=fldT_und hf
  split at h
  ·rename_i m hs
   have hp: ∀b o:Nat,(fieldPlace ⟨b,o,none⟩ fd).run P w= .ok ⟨b,o+fd.offset,none⟩ w:=fun b o=>by simp [fieldPlace,run_sizeOf' hs,add_mk]
   cases hx<;>simp only at h<;>try (cases h;done)
   case ptr l o hl=>
    simp at h;subst h
    exact ⟨.pointer (some ⟨g.ρ l,o+fd.offset,none⟩),by simp [Instr.fieldAt,Instr.sureAddr,run_underlying hu,hfd,hp], .ptr _ _ hl,fun _ _ e=>by cases e⟩
   case eptr cs b o hc=>
    split at h
    ·rename_i hle
     simp at h;subst h
     exact ⟨.pointer (some ⟨b,o+fd.offset,none⟩),by simp [Instr.fieldAt,Instr.sureAddr,run_underlying hu,hfd,hp], .eptr _ _ _ (hc.drop _ hle),fun _ _ e=>by cases e⟩
    ·cases h
  ·cases h
 ·cases h
theorem run_extractA {a r:AV} {u:Value} {i:Nat} (hx:VR g w a u) (h:extractA a i=some r): ∃z,(Instr.extract u i).run P w= .ok z w∧VR g w r z∧NotOwn r:=by
 cases hx<;>simp only [extractA] at h<;>try (cases h;done)
 case tup cs vs hc=>
  split at h
  ·rename_i c hi
   simp at h;subst h
   obtain ⟨v,h1,h2⟩:=hc.get hi
   exact ⟨v,by simp [Instr.extract,h1],h2.strip,strip_notOwn _⟩
  ·cases h
theorem sliced_e {fl:Fl} (a:Addr) (cap sz:Nat) (h:cap≤maxLen) (hf:fl= .sh∨(fl= .full∧cap=0)):VR g w (.sl fl sz []) (sliced (some a) 0 0 cap sz):=by
 unfold sliced
 have e:a.add 0=a:=rfl
 simp [e]
 exact .sle _ _ _ _ h hf
theorem run_lenA {t ty:TypeId} {a r:AV} {u:Value} (hx:VR g w a u) (h:lenA P t a=some r): ∃z,(Builtin.len_ #[t] ty #[u]).run P w= .ok z w∧VR g w r z∧NotOwn r:=by
 cases hx<;>simp only [lenA] at h<;>try (cases h;done)
 case str l=>
  split at h
  ·rename_i ht;simp at h;subst h
   have hz:(⟨⟨l⟩⟩:ByteArray).size=l.length:=rfl
   exact ⟨.int .i64 l.length,by simp [Builtin.len_,run_underlying (strT_und ht),goInt,hz], .int _ _,fun _ _ e=>by cases e⟩
  ·cases h
 case sl0 fl sz=>
  split at h
  ·rename_i ht;simp at h;subst h
   exact ⟨.int .i64 0,by simp [Builtin.len_,run_underlying (sliceT_und ht),goInt], .int _ _,fun _ _ e=>by cases e⟩
  ·cases h
 case sle fl sz a cap h1 h2=>
  split at h
  ·rename_i ht;simp at h;subst h
   exact ⟨.int .i64 0,by simp [Builtin.len_,run_underlying (sliceT_und ht),goInt], .int _ _,fun _ _ e=>by cases e⟩
  ·cases h
 case sl fl sz xs b o cap h1 h2 h3 h4 h5=>
  split at h
  ·rename_i ht;simp at h;subst h
   exact ⟨.int .i64 xs.length,by simp [Builtin.len_,run_underlying (sliceT_und ht),goInt], .int _ _,fun _ _ e=>by cases e⟩
  ·cases h
 case hs l o len sz cap hl h1 h2=>
  split at h
  ·rename_i ht;simp at h;subst h
   exact ⟨.int .i64 len,by simp [Builtin.len_,run_underlying (sliceT_und ht),goInt], .int _ _,fun _ _ e=>by cases e⟩
  ·cases h
def natOf:AV→Option Nat
 | .int _ n=>if 0≤n then some n.toNat else none
 |_=>none
def bndA (d:Nat):Option AV→Option Nat
 |none=>some d
 |some a=>natOf a
def pieceA (P:Program) (t:TypeId) (x:AV) (lo hi mx:Option AV):Option AV:=
 match bndA 0 lo with
 |none=>none
 |some l=>
 match x with
 | .str s=>match mx with
  |some _=>none
  |none=>match bndA s.length hi with
   |some h=>if strT P t=true∧l≤h∧h≤s.length then some (.str ((s.drop l).take (h-l))) else none
   |none=>none
 | .sl fl sz xs=>match bndA xs.length hi with
  |some h=>match mx with
   |none=>if elT P t=some sz∧l≤h∧h≤xs.length then some (.sl .sh sz ((xs.drop l).take (h-l))) else none
   |some a=>match natOf a,hi with
    |some m,some _=>if elT P t=some sz∧l≤h∧h≤m∧m≤xs.length then some (.sl (if m=h then .full else .sh) sz ((xs.drop l).take (h-l))) else none
    |_,_=>none
  |none=>none
 |_=>none
theorem natOf_spec {a:AV} {v:Value} {n:Nat} (h:VR g w a v) (hn:natOf a=some n): ∃k m,v= .int k m∧0≤m∧m.toNat=n:=by
 cases h<;>simp only [natOf] at hn<;>try (cases hn;done)
 case int k m=>
  split at hn
  ·rename_i h0;simp at hn;exact ⟨k,m,rfl,h0,hn⟩
  ·cases hn
theorem run_bound {a:AV} {v:Value} {n y:Nat} {code:BoundsCode} (h:VR g w a v) (hn:natOf a=some n) (hy:n≤y):(Instr.sliceBound v y code).run P w= .ok n w:=by
 obtain ⟨k,m,rfl,h0,rfl⟩:=natOf_spec h hn
 exact run_sliceBound (P:=P) w k m y code h0 (by omega)
inductive OR (g:Gh) (w:World):Option AV→Option Value→Prop
 |none:OR g w none none
 |some (a v) (h:VR g w a v):OR g w (some a) (some v)
theorem run_bounds {s:Bool} {len cap l h:Nat} {lo hi:Option AV} {vlo vhi:Option Value} (hlo:OR g w lo vlo) (hhi:OR g w hi vhi)
  (h1:bndA 0 lo=some l) (h2:bndA len hi=some h) (hl:l≤h) (hc:h≤len) (hcap:len≤cap):
  (Instr.sliceBounds s len cap vlo vhi none).run P w= .ok (l,h,cap) w:=by
 cases hlo<;>cases hhi<;>simp [bndA] at h1 h2
 ·subst h1;subst h2;simp [Instr.sliceBounds]
 ·subst h1;rename_i a v hv
  have:=fun c=>run_bound (P:=P) (code:=c) hv h2 (Nat.le_trans hc hcap)
  simp [Instr.sliceBounds,this]
 ·subst h2;rename_i a v hv
  have:=fun c=>run_bound (P:=P) (code:=c) hv h1 hl
  simp [Instr.sliceBounds,this]
 ·rename_i a v hv a' v' hv'
  have k1:=fun c=>run_bound (P:=P) (code:=c) hv' h2 (Nat.le_trans hc hcap)
  have k2:=fun c=>run_bound (P:=P) (code:=c) hv h1 hl
  simp [Instr.sliceBounds,k1,k2]
theorem run_bounds3 {len cap l h m:Nat} {lo:Option AV} {hi mx:AV} {vlo:Option Value} {vhi vmx:Value} (hlo:OR g w lo vlo) (hhi:VR g w hi vhi) (hmx:VR g w mx vmx)
  (h1:bndA 0 lo=some l) (h2:natOf hi=some h) (h3:natOf mx=some m) (hl:l≤h) (hc:h≤m) (hcap:m≤cap):
  (Instr.sliceBounds true len cap vlo (some vhi) (some vmx)).run P w= .ok (l,h,m) w:=by
 have k3:=fun c=>run_bound (P:=P) (code:=c) hmx h3 hcap
 have k1:=fun c=>run_bound (P:=P) (code:=c) hhi h2 hc
 cases hlo<;>simp [bndA] at h1
 ·subst h1;simp [Instr.sliceBounds,k3,k1]
 ·rename_i a v hv
  have k2:=fun c=>run_bound (P:=P) (code:=c) hv h1 hl
  simp [Instr.sliceBounds,k3,k1,k2]
theorem CR_piece {xs:List AV} {sz l h b o:Nat} (hsz: ∀x∈xs,x.cells.length=sz) (hc:CR g w b o (flat xs)) (hl:l≤h) (hh:h≤xs.length):CR g w b (o+l * sz) (flat ((xs.drop l).take (h-l))):=by
 have e1:xs=xs.take l++((xs.drop l).take (h-l)++(xs.drop l).drop (h-l)):=by rw [List.take_append_drop,List.take_append_drop]
 rw [e1,flat_append,flat_append] at hc
 have h2:=hc.append.2.append.1
 rwa [flat_length (sz:=sz) (fun x hx=>hsz x (List.mem_of_mem_take hx)),List.length_take,Nat.min_eq_left (by omega)] at h2
theorem VR_piece {fl fl' :Fl} {sz l h m b o:Nat} {xs:List AV} (hsz: ∀x∈xs,x.cells.length=sz) (hc:CR g w b o (flat xs)) (hl:l≤h) (hh:h≤xs.length) (hm:h≤m) (hmax:m≤maxLen) (hf:fl' = .full→m=h):
  VR g w (.sl fl' sz ((xs.drop l).take (h-l))) (sliced (some ⟨b,o,none⟩) l h m sz):=by
 have hlen:((xs.drop l).take (h-l)).length=h-l:=by simp;omega
 have hsz' : ∀x∈(xs.drop l).take (h-l),x.cells.length=sz:=fun x hx=>hsz x (List.mem_of_mem_drop (List.mem_of_mem_take hx))
 by_cases e:m=l
 ·subst e
  have hz:h-m=0:=by omega
  have hnil:(xs.drop m).take (h-m)= []:=by rw [hz];simp
  have hv:sliced (some ⟨b,o,none⟩) m h m sz= .slice (some ⟨b,o,none⟩) ([]:List AV).length 0:=by simp [sliced,hz]
  rw [hnil,hv]
  exact .sl _ _ _ _ _ _ (by simp) (by simp) (by simp) (by simp) (.nil _ _)
 ·have hv:sliced (some ⟨b,o,none⟩) l h m sz= .slice (some ⟨b,o+l * sz,none⟩) ((xs.drop l).take (h-l)).length (m-l):=by
   rw [hlen];simp [sliced,e,add_mk]
  rw [hv]
  exact .sl _ _ _ _ _ _ (by rw [hlen];omega) (by omega) (fun hfl=>by rw [hlen];have:=hf hfl;omega) hsz' (CR_piece hsz hc hl hh)
theorem run_pieceA {t:TypeId} {a r:AV} {u:Value} {lo hi mx:Option AV} {vlo vhi vmx:Option Value} (hx:VR g w a u) (hlo:OR g w lo vlo) (hhi:OR g w hi vhi) (hmx:OR g w mx vmx)
  (h:pieceA P t a lo hi mx=some r): ∃z,(Instr.sliceAt t u vlo vhi vmx).run P w= .ok z w∧VR g w r z∧NotOwn r:=by
 unfold pieceA at h
 split at h
 ·cases h
 rename_i l h1
 cases hx<;>simp only at h<;>try (cases h;done)
 case str s=>
  split at h
  ·cases h
  ·rename_i e
   cases hmx
   split at h
   ·rename_i hh h2
    split at h
    ·rename_i hc
     obtain ⟨ht,hl,hle⟩:=hc
     simp at h;subst h
     have hb:=run_bounds (P:=P) (s:=false) (cap:=s.length) hlo hhi h1 h2 hl hle (Nat.le_refl _)
     have hz:(⟨⟨s⟩⟩:ByteArray).size=s.length:=rfl
     refine ⟨.string ⟨⟨(s.drop l).take (hh-l)⟩⟩, ?_, .str _,fun _ _ e=>by cases e⟩
     rw [run_sliceAt_string w t _ _ _ _ (strT_und ht)]
     simp [Instr.slice,run_underlying (strT_und ht),hz,hb,ByteArray.extract_mk]
    ·cases h
   ·cases h
 case sl0 fl sz=>
  split at h
  ·rename_i hh h2
   split at h
   ·rename_i e
    cases hmx
    split at h
    ·rename_i hc
     obtain ⟨ht,hl,hle⟩:=hc
     simp at h hle;subst h;subst hle
     obtain rfl:l=0:=by omega
     obtain ⟨e,hu,hs⟩:=elT_und ht
     have hp:P.elem t=e:=by simp [Program.elem,hu]
     have hb:=run_bounds (P:=P) (s:=true) (len:=0) (cap:=0) hlo hhi h1 h2 (Nat.le_refl _) (Nat.le_refl _) (Nat.le_refl _)
     refine ⟨.slice none 0 0, ?_, .sl0 _ _,fun _ _ e=>by cases e⟩
     rw [run_sliceAt_slice w t _ _ _ _ (by rw [hp];exact hu),run_slice_any w t none 0 0 (by rw [hp];exact hu)]
     simp [hb,hp,run_sizeOf' hs,sliced]
    ·cases h
   ·rename_i a e
    cases hmx;rename_i vm hvm
    split at h
    ·rename_i m a' h3
     cases hhi;rename_i vh hvh
     split at h
     ·rename_i hc
      obtain ⟨ht,hl,hle,hm⟩:=hc
      simp at h hm;subst hm
      obtain rfl:hh=0:=by omega
      obtain rfl:l=0:=by omega
      simp at h;subst h
      obtain ⟨e,hu,hs⟩:=elT_und ht
      have hp:P.elem t=e:=by simp [Program.elem,hu]
      have hb:=run_bounds3 (P:=P) (len:=0) (cap:=0) hlo hvh hvm h1 h2 h3 (Nat.le_refl _) (Nat.le_refl _) (Nat.le_refl _)
      refine ⟨.slice none 0 0, ?_, .sl0 _ _,fun _ _ e=>by cases e⟩
      rw [run_sliceAt_slice w t _ _ _ _ (by rw [hp];exact hu),run_slice_any w t none 0 0 (by rw [hp];exact hu)]
      simp [hb,hp,run_sizeOf' hs,sliced]
     ·cases h
    ·cases h
  ·cases h
 case sle fl sz a0 cap k1 k2=>
  split at h
  ·rename_i hh h2
   split at h
   ·rename_i e
    cases hmx
    split at h
    ·rename_i hc
     obtain ⟨ht,hl,hle⟩:=hc
     simp at h hle;subst h;subst hle
     obtain rfl:l=0:=by omega
     obtain ⟨e,hu,hs⟩:=elT_und ht
     have hp:P.elem t=e:=by simp [Program.elem,hu]
     have hb:=run_bounds (P:=P) (s:=true) (len:=0) (cap:=cap) hlo hhi h1 h2 (Nat.le_refl _) (Nat.le_refl _) (Nat.zero_le _)
     refine ⟨sliced (some a0) 0 0 cap sz, ?_, ?_,fun _ _ e=>by cases e⟩
     ·rw [run_sliceAt_slice w t _ _ _ _ (by rw [hp];exact hu),run_slice_any w t (some a0) 0 cap (by rw [hp];exact hu)]
      simp [hb,hp,run_sizeOf' hs]
     ·exact sliced_e a0 cap sz k1 (.inl rfl)
    ·cases h
   ·rename_i a e
    cases hmx;rename_i vm hvm
    split at h
    ·rename_i m a' h3
     cases hhi;rename_i vh hvh
     split at h
     ·rename_i hc
      obtain ⟨ht,hl,hle,hm⟩:=hc
      simp at h hm;subst hm
      obtain rfl:hh=0:=by omega
      obtain rfl:l=0:=by omega
      simp at h;subst h
      obtain ⟨e,hu,hs⟩:=elT_und ht
      have hp:P.elem t=e:=by simp [Program.elem,hu]
      have hb:=run_bounds3 (P:=P) (len:=0) (cap:=cap) hlo hvh hvm h1 h2 h3 (Nat.le_refl _) (Nat.le_refl _) (Nat.zero_le _)
      refine ⟨sliced (some a0) 0 0 0 sz, ?_, ?_,fun _ _ e=>by cases e⟩
      ·rw [run_sliceAt_slice w t _ _ _ _ (by rw [hp];exact hu),run_slice_any w t (some a0) 0 cap (by rw [hp];exact hu)]
       simp [hb,hp,run_sizeOf' hs]
      ·exact sliced_e a0 0 sz (Nat.zero_le _) (.inr ⟨rfl,rfl⟩)
     ·cases h
    ·cases h
  ·cases h
 case sl fl sz xs b o cap k1 k2 k3 k4 k5=>
  split at h
  ·rename_i hh h2
   split at h
   ·rename_i e
    cases hmx
    split at h
    ·rename_i hc
     obtain ⟨ht,hl,hle⟩:=hc
     simp at h;subst h
     obtain ⟨e,hu,hs⟩:=elT_und ht
     have hp:P.elem t=e:=by simp [Program.elem,hu]
     have hb:=run_bounds (P:=P) (s:=true) (len:=xs.length) (cap:=cap) hlo hhi h1 h2 hl hle k1
     refine ⟨sliced (some ⟨b,o,none⟩) l hh cap sz, ?_,VR_piece (fl:=fl) k4 k5 hl hle (by omega) k2 (fun e=>by cases e),fun _ _ e=>by cases e⟩
     rw [run_sliceAt_slice w t _ _ _ _ (by rw [hp];exact hu),run_slice_any w t _ _ _ (by rw [hp];exact hu)]
     simp [hb,hp,run_sizeOf' hs]
    ·cases h
   ·rename_i a e
    cases hmx;rename_i vm hvm
    split at h
    ·rename_i m a' h3
     cases hhi;rename_i vh hvh
     split at h
     ·rename_i hc
      obtain ⟨ht,hl,hle,hm⟩:=hc
      simp at h;subst h
      obtain ⟨e,hu,hs⟩:=elT_und ht
      have hp:P.elem t=e:=by simp [Program.elem,hu]
      have hb:=run_bounds3 (P:=P) (len:=xs.length) (cap:=cap) hlo hvh hvm h1 h2 h3 hl hle (by omega)
      refine ⟨sliced (some ⟨b,o,none⟩) l hh m sz, ?_,VR_piece (fl:=fl) k4 k5 hl (by omega) hle (by omega) (fun e=>by split at e<;>first|assumption|cases e),fun _ _ e=>by split at e<;>cases e⟩
      rw [run_sliceAt_slice w t _ _ _ _ (by rw [hp];exact hu),run_slice_any w t _ _ _ (by rw [hp];exact hu)]
      simp [hb,hp,run_sizeOf' hs]
     ·cases h
    ·cases h
  ·cases h
end
end Go.Proofs.YtnibelnjflhkgaaGreatDoor.Ab
namespace Go.Proofs.YtnibelnjflhkgaaGreatDoor.Ab
set_option linter.unusedVariables false
set_option linter.unusedSimpArgs false
open Go.RowKit
def constA1 (n:Nat):Value→AV
 | .bool b=> .bool b
 | .int k n=> .int k n
 | .string s=> .str s.data.toList
 | .slice none 0 0=> .sl .full n []
 | .pointer none=> .pnil
 | .map none=> .mnil
 | .nilFunc=> .fnil
 |v=> .val v
def constA (n:Nat):Value→AV
 | .agg cs=> .agg (cs.toList.map fun v=>strip (constA1 0 v))
 |v=>constA1 n v
def okc:AV→Bool
 | .junk=>false
 | .val _=>false
 | .tup _=>false
 |_=>true
section
variable {P:Program} {g:Gh} {w:World}
theorem constA1_vr (n:Nat) (v:Value):VR g w (constA1 n v) v:=by
 unfold constA1
 split
 ·exact .bool _
 ·exact .int _ _
 ·exact VR.str _
 ·exact .sl0 _ _
 ·exact .pnil
 ·exact .mnil
 ·exact .fnil
 ·exact .val _
theorem constA1_not (n:Nat) (v:Value) (b:Nat): ¬OwnV (constA1 n v) v b:=by
 rintro ⟨sz,xs,o,len,cap,h1,h2⟩
 subst h2
 simp [constA1] at h1
theorem oneCell_of {a:AV} {v:Value} (h:VR g w a v) (ho:okc a=true) (hn: ∀cs,a≠ .agg cs):v.oneCell' =true:=by
 cases h<;>simp [okc] at ho<;>first|rfl|exact absurd rfl (hn _)
theorem CL_map_strip {cs:List AV} {vs:List Value} (h:CL g w cs vs):CL g w (cs.map strip) vs:=by
 induction cs generalizing vs with
 |nil=>cases h;exact .nil
 |cons c cs ih=>cases h with|cons _ _ v vs h1 h2 t=>exact .cons _ _ _ _ h1 h2.strip (ih t)
theorem cellsCL {a:AV} {v:Value} (h:VR g w a v) (ho:okc a=true):CL g w a.cells v.cells.toList:=by
 by_cases hn: ∃cs,a= .agg cs
 ·obtain ⟨cs,rfl⟩:=hn
  cases h with|agg _ vs hc=>simpa [AV.cells,Value.cells] using hc
 ·have h1:=oneCell_of h ho (fun cs e=>hn ⟨cs,e⟩)
  have e1:a.cells= [a]:=by cases a<;>first|rfl|exact absurd ⟨_,rfl⟩ hn
  have e2:v.cells= #[v]:=by cases v<;>simp [Value.oneCell'] at h1<;>rfl
  rw [e1,e2]
  exact .cons _ _ _ _ h1 h .nil
theorem constA_vr (n:Nat) (v:Value) (hv: ∀cs,v= .agg cs→ ∀u∈cs.toList,u.oneCell' =true):VR g w (constA n v) v:=by
 unfold constA
 split
 ·rename_i cs
  have: ∀l:List Value,(∀u∈l,u.oneCell' =true)→CL g w (l.map fun v=>strip (constA1 0 v)) l:=by
   intro l
   induction l with
   |nil=>intro _;exact .nil
   |cons u l ih=>intro h;exact .cons _ _ _ _ (h u (by simp)) (constA1_vr 0 u).strip (ih fun x hx=>h x (by simp [hx]))
  exact .agg _ _ (this cs.toList (hv cs rfl))
 ·exact constA1_vr n v
theorem constA_not (n:Nat) (v:Value) (b:Nat): ¬OwnV (constA n v) v b:=by
 unfold constA
 split
 ·rintro ⟨sz,xs,o,len,cap,h1,h2⟩;cases h1
 ·exact constA1_not n v b
end
def zeroC (P:Program):Nat→TypeId→Option (List AV)
 |0,_=>none
 |d+1,t=>
  match P.underlying t with
  |some .bool=>some [.bool false]
  |some (.int k)=>some [.int k 0]
  |some .string=>some [.str []]
  |some (.pointer _)=>some [.pnil]
  |some (.map _ _)=>some [.mnil]
  |some (.func _ _ _)=>some [.fnil]
  |some (.slice e)=>match szT P e with|some n=>some [.sl .full n []]|none=>none
  |some (.struct fs)=>fs.toList.foldr (fun f acc=>match zeroC P d f.type,acc with|some a,some b=>some (a++b)|_,_=>none) (some [])
  |some (.array n e)=>match zeroC P d e with|some a=>some (List.replicate n a).flatten|none=>none
  |_=>none
def matchZ1:AV→Value→Bool
 | .bool b, .bool c=>b==c
 | .int k n, .int k' n' =>k==k' &&n==n'
 | .str l, .string s=>l==s.data.toList
 | .pnil, .pointer none=>true
 | .mnil, .map none=>true
 | .fnil, .nilFunc=>true
 | .sl _ _ [], .slice none 0 0=>true
 |_,_=>false
def matchZ:List AV→List Value→Bool
 | [], []=>true
 |a::as,v::vs=>matchZ1 a v&&matchZ as vs
 |_,_=>false
def zeroA (P:Program) (t:TypeId):Option (List AV):=
 match zeroC P 12 t,(P.info? t).bind (·.zero) with
 |some cs,some z=>if matchZ cs z.cells.toList&&(szT P t==some cs.length) then some cs else none
 |_,_=>none
section
variable {P:Program} {g:Gh} {w:World}
theorem matchZ1_vr {a:AV} {v:Value} (h:matchZ1 a v=true):VR g w a v∧v.oneCell' =true∧ ∀b, ¬OwnV a v b:=by
 unfold matchZ1 at h
 split at h
 ·simp at h;subst h;exact ⟨.bool _,rfl,fun b ⟨_,_,_,_,_,h1,_⟩=>by cases h1⟩
 ·simp at h;obtain ⟨rfl,rfl⟩:=h;exact ⟨.int _ _,rfl,fun b ⟨_,_,_,_,_,h1,_⟩=>by cases h1⟩
 ·simp at h;subst h;exact ⟨.str _,rfl,fun b ⟨_,_,_,_,_,h1,_⟩=>by cases h1⟩
 ·exact ⟨.pnil,rfl,fun b ⟨_,_,_,_,_,h1,_⟩=>by cases h1⟩
 ·exact ⟨.mnil,rfl,fun b ⟨_,_,_,_,_,h1,_⟩=>by cases h1⟩
 ·exact ⟨.fnil,rfl,fun b ⟨_,_,_,_,_,h1,_⟩=>by cases h1⟩
 ·exact ⟨.sl0 _ _,rfl,fun b ⟨_,_,_,_,_,_,h1⟩=>by cases h1⟩
 ·cases h
theorem matchZ_cl {cs:List AV} {vs:List Value} (h:matchZ cs vs=true):CL g w cs vs∧ ∀(j:Nat) av v,cs[j]? =some av→vs[j]? =some v→ ∀b, ¬OwnV av v b:=by
 induction cs generalizing vs with
 |nil=>cases vs<;>simp [matchZ] at h;exact ⟨.nil,by simp⟩
 |cons c cs ih=>
  cases vs with
  |nil=>simp [matchZ] at h
  |cons v vs=>
   simp [matchZ] at h
   obtain ⟨h1,h2,h3⟩:=matchZ1_vr (g:=g) (w:=w) h.1
   obtain ⟨k1,k2⟩:=ih h.2
   refine ⟨.cons _ _ _ _ h2 h1 k1,fun j av u hj hu=> ?_⟩
   cases j with
   |zero=>simp at hj hu;subst hj;subst hu;exact h3
   |succ j=>simp at hj hu;exact k2 j av u hj hu
theorem zeroA_spec {t:TypeId} {cs:List AV} (h:zeroA P t=some cs): ∃i z,P.info? t=some i∧i.zero=some z∧matchZ cs z.cells.toList=true∧szT P t=some cs.length:=by
 unfold zeroA at h
 split at h
 ·rename_i cs' z h1 h2
  split at h
  ·rename_i hm
   simp at h hm;subst h
   cases hi:P.info? t with
   |none=>simp [hi] at h2
   |some i=>simp [hi] at h2;exact ⟨i,z,rfl,h2,hm.1,hm.2⟩
  ·cases h
 ·cases h
end
def stPl (P:Program) (t:TypeId):Option (List (Nat×Nat)):=
 match P.underlying t with
 |some (.struct fs)=>fs.toList.mapM fun f=>(P.info? f.type).map fun i=>(f.offset,i.size)
 |_=>none
def arPl (P:Program) (t:TypeId):Option Nat:=match P.underlying t with|some (.array _ e)=>szT P e|_=>none
def fillA (pl:Nat→Option (Nat×Nat)):List AV→List (Nat×AV)→Option (List AV)
 |cs, []=>some cs
 |cs,(i,a)::rest=>
  match pl i with
  |some (off,size)=>if okc a=true∧a.cells.length=size∧off+size≤cs.length then fillA pl (cs.take off++(a.cells.map strip++cs.drop (off+size))) rest else none
  |none=>none
def buildA (P:Program) (t:TypeId) (parts:List (Nat×AV)):Option AV:=
 match zeroA P t with
 |some zs=>match stPl P t with
  |some l=>match fillA (fun i=>l[i]?) (zs.map strip) parts with|some cs=>some (.agg cs)|none=>none
  |none=>match arPl P t with
   |some n=>match fillA (fun i=>some (i * n,n)) (zs.map strip) parts with|some cs=>some (.agg cs)|none=>none
   |none=>none
 |none=>none
inductive PR (g:Gh) (w:World):List (Nat×AV)→List (Nat×Value)→Prop
 |nil:PR g w [] []
 |cons (i a v ps qs) (h:VR g w a v) (t:PR g w ps qs):PR g w ((i,a)::ps) ((i,v)::qs)
theorem foldl_set: ∀(l:List Value) (k off:Nat) (cs:Array Value),off+k+l.length≤cs.size→
  (l.zipIdx k).foldl (fun cs (p:Value×Nat)=>cs.setIfInBounds (off+p.2) p.1) cs=(cs.toList.take (off+k)++(l++cs.toList.drop (off+k+l.length))).toArray:=by
 intro l
 induction l with
 |nil=>intro k off cs h;simp
 |cons v l ih=>
  intro k off cs h
  simp only [List.zipIdx_cons,List.foldl_cons]
  rw [ih (k+1) off _ (by simp at h ⊢;omega)]
  have hlt:off+k<cs.toList.length:=by simp at h ⊢;omega
  congr 1
  rw [Array.toList_setIfInBounds]
  have e1:(cs.toList.set (off+k) v).take (off+(k+1))=cs.toList.take (off+k)++ [v]:=by
   rw [←Nat.add_assoc,List.take_add_one,List.getElem?_set_self hlt,List.take_set_of_le (Nat.le_refl _)]
   rfl
  have e2:(cs.toList.set (off+k) v).drop (off+(k+1)+l.length)=cs.toList.drop (off+k+(v::l).length):=by
   rw [List.drop_set_of_lt (by omega)]
   congr 1
   simp;omega
  rw [e1,e2]
  simp
section
variable {P:Program} {g:Gh} {w:World}
theorem run_fillA {pl:Nat→Option (Nat×Nat)} {parts:List (Nat×AV)} {vparts:List (Nat×Value)} (hp:PR g w parts vparts): ∀ {cs:List AV} {vs:List Value} {r:List AV},CL g w cs vs→fillA pl cs parts=some r→
  ∃us,Instr.fill pl ⟨vs⟩ vparts=some ⟨us⟩∧CL g w r us:=by
 induction hp with
 |nil=>intro cs vs r hc h;simp [fillA] at h;subst h;exact ⟨vs,rfl,hc⟩
 |cons i a v ps qs hv _ ih=>
  intro cs vs r hc h
  unfold fillA at h
  split at h
  ·rename_i off size hpl
   split at h
   ·rename_i hk
    obtain ⟨ho,hl,hle⟩:=hk
    have hcl:=cellsCL hv ho
    have hl' :v.cells.toList.length=size:=by rw [←hcl.length];exact hl
    have hlv:=hc.length
    have hl2:v.cells.size=size:=by simpa using hl'
    obtain ⟨us,h1,h2⟩:=ih (((hc.take off).append ((CL_map_strip hcl).append (hc.drop (off+size))))) h
    refine ⟨us, ?_,h2⟩
    unfold Instr.fill
    have hcond: ¬((v.cells.size≠size||decide (off+v.cells.size>(⟨vs⟩:Array Value).size))=true):=by
     simp [hl2];omega
    have hf:=foldl_set v.cells.toList 0 off ⟨vs⟩ (by simp;omega)
    have hz:v.cells.zipIdx.foldl (fun cs (x:Value×Nat)=>cs.setIfInBounds (off+x.2) x.1) (⟨vs⟩:Array Value)=(vs.take off++(v.cells.toList++vs.drop (off+size))).toArray:=by
     rw [←Array.foldl_toList,Array.toList_zipIdx,hf,hl'];rfl
    simp only [hpl]
    rw [if_neg hcond]
    refine Eq.trans ?_ h1
    exact congrArg (fun z=>Instr.fill pl z qs) hz
   ·cases h
  ·cases h
theorem run_buildA {t:TypeId} {parts:List (Nat×AV)} {vparts:Array (Nat×Value)} {r:AV} (hp:PR g w parts vparts.toList) (h:buildA P t parts=some r):
  ∃z,(Instr.build t vparts).run P w= .ok z w∧VR g w r z∧NotOwn r:=by
 unfold buildA at h
 split at h
 ·rename_i zs hz
  obtain ⟨i,z,h1,h2,h3,h4⟩:=zeroA_spec hz
  have hcl:=CL_map_strip (matchZ_cl (g:=g) (w:=w) h3).1
  split at h
  ·rename_i l hl
   split at h
   ·rename_i cs hf
    simp at h;subst h
    obtain ⟨us,k1,k2⟩:=run_fillA hp hcl hf
    refine ⟨.agg ⟨us⟩,run_build w t vparts ⟨us⟩ ?_, .agg _ _ k2,fun _ _ e=>by cases e⟩
    unfold stPl at hl
    split at hl
    ·rename_i fs hu
     simp only [Program.built,h1,hu,h2,hl]
     simpa using k1
    ·cases hl
   ·cases h
  ·split at h
   ·rename_i n hn
    split at h
    ·rename_i cs hf
     simp at h;subst h
     obtain ⟨us,k1,k2⟩:=run_fillA hp hcl hf
     refine ⟨.agg ⟨us⟩,run_build w t vparts ⟨us⟩ ?_, .agg _ _ k2,fun _ _ e=>by cases e⟩
     unfold arPl at hn
     split at hn
     ·rename_i m e hu
      unfold szT at hn
      cases hi:P.info? e with
      |none=>simp [hi] at hn
      |some ie=>
       simp [hi] at hn;subst hn
       simp only [Program.built,h1,hu,h2,hi]
       simpa using k1
     ·cases hn
    ·cases h
   ·cases h
 ·cases h
def minA (a b:AV):Option AV:=match a,b with| .int k x, .int k' y=>if k=k' then some (.int k (if y<x then y else x)) else none|_,_=>none
def maxA (a b:AV):Option AV:=match a,b with| .int k x, .int k' y=>if k=k' then some (.int k (if y>x then y else x)) else none|_,_=>none
theorem run_minA {a b r:AV} {u v:Value} (hx:VR g w a u) (hy:VR g w b v) (h:minA a b=some r): ∃z,(∀ts t,(Builtin.min_ ts t #[u,v]).run P w= .ok z w)∧VR g w r z∧NotOwn r:=by
 cases hx<;>cases hy<;>simp only [minA] at h<;>try (cases h;done)
 split at h
 ·simp at h;subst h;exact ⟨_,fun ts t=>run_min_int2 w ts t _ _ _ _, .int _ _,fun _ _ e=>by cases e⟩
 ·cases h
theorem run_maxA {a b r:AV} {u v:Value} (hx:VR g w a u) (hy:VR g w b v) (h:maxA a b=some r): ∃z,(∀ts t,(Builtin.max_ ts t #[u,v]).run P w= .ok z w)∧VR g w r z∧NotOwn r:=by
 cases hx<;>cases hy<;>simp only [maxA] at h<;>try (cases h;done)
 split at h
 ·simp at h;subst h;exact ⟨_,fun ts t=>run_max_int2 w ts t _ _ _ _, .int _ _,fun _ _ e=>by cases e⟩
 ·cases h
end
end Go.Proofs.YtnibelnjflhkgaaGreatDoor.Ab
namespace Go.Proofs.YtnibelnjflhkgaaGreatDoor.Ab
set_option linter.unusedVariables false
set_option linter.unusedSimpArgs false
open Go.RowKit
def isOwn:AV→Bool
 | .sl .own _ _=>true
 |_=>false
theorem isOwn_iff {a:AV} :isOwn a=false↔NotOwn a:=by
 cases a<;>simp [isOwn,NotOwn]
 case sl fl sz xs=>cases fl<;>simp
theorem strip_of_not {a:AV} (h:isOwn a=false):strip a=a:=by
 cases a<;>first|rfl|skip
 case sl fl sz xs=>cases fl<;>first|rfl|simp [isOwn] at h
def constOK:Value→Bool
 | .agg cs=>cs.toList.all Value.oneCell'
 |_=>true
def evA (s:ASt):Operand→AV
 | .tmp t=>strip (s.fr t)
 | .const v=>if constOK v then strip (constA 0 v) else .junk
 | .func f=> .func f [] []
 | .global _=> .junk
def vfa (a:Act):Nat→Value:=fun i=>a.tmps.getD i undef
section
variable {P:Program} {g:Gh} {w:World} {s:ASt} {a:Act}
theorem constA_vr' (n:Nat) {v:Value} (h:constOK v=true):VR g w (constA n v) v:=by
 refine constA_vr n v (fun cs e u hu=> ?_)
 subst e
 simp only [constOK,List.all_eq_true] at h
 exact h u hu
theorem evA_vr (h:SR s (vfa a) w g) (x:Operand):VR g w (evA s x) (a.eval x):=by
 cases x with
 |tmp t=>exact (h.fr t).strip
 |const v=>
  simp only [evA]
  split
  ·rename_i hc;exact (constA_vr' 0 hc).strip
  ·exact .junk _
 |func f=>exact .func f [] [] [] [] .nil .nil
 |global _=>exact .junk _
theorem evA_not (s:ASt) (x:Operand):NotOwn (evA s x):=by
 cases x with
 |tmp t=>exact strip_notOwn _
 |const v=>simp only [evA];split<;>first|exact strip_notOwn _|exact fun _ _ e=>by cases e
 |func f=>exact fun _ _ e=>by cases e
 |global _=>exact fun _ _ e=>by cases e
def loadA (P:Program) (hp:Hp) (t:TypeId) (x:AV):Option AV:=
 match x with
 | .eptr cs=>partA P t cs 0
 | .ptr l o=>match hp.bk l with| .cells cs=>partA P t cs o|_=>none
 |_=>none
def nilChkA:AV→Option AV
 | .ptr l o=>some (.ptr l o)
 | .eptr cs=>some (.eptr cs)
 |_=>none
def builtinA (P:Program) (b:Builtin) (ts:List TypeId) (xs:List AV):Option AV:=
 match b,ts,xs with
 | .len, [t], [x]=>lenA P t x
 | .min,_, [x,y]=>minA x y
 | .max,_, [x,y]=>maxA x y
 |_,_,_=>none
def pickA (c x y:AV):Option AV:=match c with| .bool t=>some (if t then x else y)|_=>none
def pevA (P:Program) (s:ASt):Op→Option AV
 | .pick c x y=>pickA (evA s c) (evA s x) (evA s y)
 | .binOp op t x y _=>binA P op t (evA s x) (evA s y)
 | .unOp op _ x=>unA op (evA s x)
 | .convert src dst x=>cvtA P src dst (evA s x)
 | .field t x f=>fieldA P t (evA s x) f
 | .index t x i=>indexA P t (evA s x) (evA s i)
 | .indexAddr t x i=>indexAddrA P t (evA s x) (evA s i)
 | .fieldAddr t x f=>fieldAddrA P t (evA s x) f
 | .extract x i=>extractA (evA s x) i
 | .load t x=>loadA P s.hp t (evA s x)
 | .nilCheck x=>nilChkA (evA s x)
 | .slice t x lo hi mx=>pieceA P t (evA s x) (lo.map (evA s)) (hi.map (evA s)) (mx.map (evA s))
 | .build t parts=>buildA P t (parts.toList.map fun p=>(p.1,evA s p.2))
 | .makeFunc (.func f) first cap=>some (.func f (first.toList.map (evA s)) (cap.toList.map (evA s)))
 | .call ⟨.builtin b,args,ts⟩=>builtinA P b ts.toList (args.toList.map (evA s))
 |_=>none
theorem OR_map (h:SR s (vfa a) w g) (x:Option Operand):OR g w (x.map (evA s)) (x.map a.eval):=by
 cases x with
 |none=>exact .none
 |some x=>exact .some _ _ (evA_vr h x)
theorem PR_map (h:SR s (vfa a) w g) (ps:List (Nat×Operand)):PR g w (ps.map fun p=>(p.1,evA s p.2)) (ps.map fun p=>(p.1,a.eval p.2)):=by
 induction ps with
 |nil=>exact .nil
 |cons p ps ih=>exact .cons _ _ _ _ _ (evA_vr h p.2) ih
theorem VL_map (h:SR s (vfa a) w g) (xs:List Operand):VL g w (xs.map (evA s)) (xs.map a.eval):=by
 induction xs with
 |nil=>exact .nil
 |cons x xs ih=>exact .cons _ _ _ _ (evA_vr h x) ih
theorem SR.box {l:Nat} {cs:List AV} (h:SR s (vfa a) w g) (hl:l<g.n) (hb:s.hp.bk l= .cells cs): ∃vs us e fr,w.heap[g.ρ l]? =some (.cells ⟨vs++us⟩ e fr)∧CL g w cs vs∧(fr=(0,0)∨vs.length≤fr.1)∧ ∀j v,vs[j]? =some v→w.cell? ⟨g.ρ l,j,none⟩=some v:=by
 have:=h.bk l hl
 rw [hb] at this
 obtain ⟨vs,us,e,fr,h1,h2,h3⟩:=this
 exact ⟨vs,us,e,fr,h1,h2,h3,fun j v hj=>by
  rw [cell_of_row w (g.ρ l) j ⟨vs++us⟩ e fr h1]
  have:j<vs.length:=(List.getElem?_eq_some_iff.1 hj).1
  simpa [List.getElem?_append_left this] using hj⟩
theorem run_loadA {t:TypeId} {x r:AV} {u:Value} (h:SR s (vfa a) w g) (hx:VR g w x u) (hr:loadA P s.hp t x=some r):
  ∃z,(Instr.loadAt t u).run P w= .ok z w∧VR g w r z∧NotOwn r:=by
 cases hx<;>simp only [loadA] at hr<;>try (cases hr;done)
 case ptr l o hl=>
  split at hr
  ·rename_i cs hb
   obtain ⟨vs,_,e,_,h1,h2,_,h3⟩:=h.box hl hb
   obtain ⟨z,k1,k2,k3⟩:=run_loadVar' (P:=P) (b:=g.ρ l) (o:=0) (k:=o) h2 (fun j v hj=>by rw [Nat.zero_add];exact h3 j v hj) hr
   rw [Nat.zero_add] at k1
   exact ⟨z,by simp [Instr.loadAt,Instr.sureAddr,k1],k2,k3⟩
  ·cases hr
 case eptr cs b o hc=>
  obtain ⟨vs,h2,h3⟩:=hc.toCL
  obtain ⟨z,k1,k2,k3⟩:=run_loadVar' (P:=P) (b:=b) (o:=o) (k:=0) h2 h3 hr
  exact ⟨z,by simpa [Instr.loadAt,Instr.sureAddr] using k1,k2,k3⟩
theorem run_pevA {o:Oper} {r:AV} (h:SR s (vfa a) w g) (hr:pevA P s o.op=some r):
  ∃z,(execOp a.eval o).run P w= .ok (.value z) w∧VR g w r z∧NotOwn r:=by
 obtain ⟨dst,op,ty,pos,aft,gd⟩:=o
 simp only at hr
 have ev:=evA_vr h
 cases op<;>simp only [pevA] at hr<;>try (cases hr;done)
 case pick c x y=>
  unfold pickA at hr
  split at hr
  ·rename_i t hc
   simp at hr;subst hr
   have hv:=ev c
   rw [hc] at hv
   generalize hu:a.eval c=u at hv
   cases hv
   cases t
   ·exact ⟨a.eval y,by simp [execOp,hu,asBool],ev y,evA_not s y⟩
   ·exact ⟨a.eval x,by simp [execOp,hu,asBool],ev x,evA_not s x⟩
  ·cases hr
 case binOp op t x y yt=>
  obtain ⟨z,h1,h2,h3⟩:=run_binA (P:=P) (x:=x) (y:=y) (ev x) (ev y) hr
  exact ⟨z,by simp only [execOp];rw [Sem.run_bind,h1];simp,h2,h3⟩
 case unOp op t x=>
  obtain ⟨z,h1,h2,h3⟩:=run_unA (P:=P) (ev x) hr
  exact ⟨z,by simp [execOp,h1],h2,h3⟩
 case convert src dst' x=>
  obtain ⟨z,h1,h2,h3⟩:=run_cvtA (P:=P) (ev x) hr
  exact ⟨z,by simp [execOp,h1],h2,h3⟩
 case field t x f=>
  obtain ⟨z,h1,h2,h3⟩:=run_fieldA (P:=P) (ev x) hr
  exact ⟨z,by simp [execOp,h1],h2,h3⟩
 case index t x i=>
  obtain ⟨z,h1,h2,h3⟩:=run_indexA (P:=P) (ev x) (ev i) hr
  exact ⟨z,by simp [execOp,h1],h2,h3⟩
 case indexAddr t x i=>
  obtain ⟨z,h1,h2,h3⟩:=run_indexAddrA (P:=P) (ev x) (ev i) hr
  exact ⟨z,by simp [execOp,h1],h2,h3⟩
 case fieldAddr t x f=>
  obtain ⟨z,h1,h2,h3⟩:=run_fieldAddrA (P:=P) (ev x) hr
  exact ⟨z,by simp [execOp,h1],h2,h3⟩
 case extract x i=>
  obtain ⟨z,h1,h2,h3⟩:=run_extractA (P:=P) (ev x) hr
  exact ⟨z,by simp [execOp,h1],h2,h3⟩
 case load t x=>
  obtain ⟨z,h1,h2,h3⟩:=run_loadA (P:=P) h (ev x) hr
  exact ⟨z,by simp [execOp,h1],h2,h3⟩
 case nilCheck x=>
  have hv:=ev x
  generalize hu:a.eval x=u at hv
  generalize evA s x=e at hv hr
  cases hv<;>simp only [nilChkA] at hr<;>try (cases hr;done)
  case ptr l o hl=>simp at hr;subst hr;exact ⟨_,by simp [execOp,hu], .ptr l o hl,fun _ _ e=>by cases e⟩
  case eptr cs b o hc=>simp at hr;subst hr;exact ⟨_,by simp [execOp,hu], .eptr cs b o hc,fun _ _ e=>by cases e⟩
 case slice t x lo hi mx=>
  obtain ⟨z,h1,h2,h3⟩:=run_pieceA (P:=P) (ev x) (OR_map h lo) (OR_map h hi) (OR_map h mx) hr
  exact ⟨z,by simp [execOp,h1],h2,h3⟩
 case build t parts=>
  obtain ⟨z,h1,h2,h3⟩:=run_buildA (P:=P) (vparts:=parts.map fun (i,x)=>(i,a.eval x)) (by simpa using PR_map h parts.toList) hr
  exact ⟨z,by simp only [execOp];rw [Sem.run_bind,h1];simp,h2,h3⟩
 case makeFunc fn first cap=>
  cases fn<;>simp only [pevA] at hr<;>try (cases hr;done)
  simp at hr;subst hr
  rename_i f
  refine ⟨.func (.func f) (first.map a.eval) (cap.map a.eval),by simp [execOp,Instr.makeFunc], ?_,fun _ _ e=>by cases e⟩
  have h1:=VL_map h first.toList
  have h2:=VL_map h cap.toList
  have:=VR.func (g:=g) (w:=w) f _ _ _ _ h1 h2
  simpa [←Array.toList_map] using this
 case call c=>
  obtain ⟨callee,args,ts⟩:=c
  cases callee<;>simp only at hr<;>try (cases hr;done)
  rename_i b
  have hb: ∀z,(Go.builtin b ts ty (args.map fun| .const _=>true|_=>false) (args.map a.eval)).run P w= .ok (.value z) w→(execOp a.eval ⟨dst, .call ⟨.builtin b,args,ts⟩,ty,pos,aft,gd⟩).run P w= .ok (.value z) w:=by
   intro z hz
   simp only [execOp,resolve,Sem.run_bind,Sem.run_pure,Result.andThen_ok,invoke]
   exact hz
  obtain ⟨tsl⟩:=ts
  obtain ⟨args⟩:=args
  simp only at hr
  unfold builtinA at hr
  split at hr
  ·rename_i t x h1
   rcases args with _|⟨y,_|⟨y2,l⟩⟩<;>simp at h1
   subst h1
   obtain ⟨z,k1,k2,k3⟩:=run_lenA (P:=P) (ty:=ty) (ev y) hr
   exact ⟨z,hb z (by simp [Go.builtin,k1]),k2,k3⟩
  ·rename_i tt x y h1
   rcases args with _|⟨x',_|⟨y',_|⟨y2,l⟩⟩⟩<;>simp at h1
   obtain ⟨rfl,rfl⟩:=h1
   obtain ⟨z,k1,k2,k3⟩:=run_minA (P:=P) (ev x') (ev y') hr
   exact ⟨z,hb z (by simp [Go.builtin,k1]),k2,k3⟩
  ·rename_i tt x y h1
   rcases args with _|⟨x',_|⟨y',_|⟨y2,l⟩⟩⟩<;>simp at h1
   obtain ⟨rfl,rfl⟩:=h1
   obtain ⟨z,k1,k2,k3⟩:=run_maxA (P:=P) (ev x') (ev y') hr
   exact ⟨z,hb z (by simp [Go.builtin,k1]),k2,k3⟩
  ·cases hr
end
end Go.Proofs.YtnibelnjflhkgaaGreatDoor.Ab
namespace Go.Proofs.YtnibelnjflhkgaaGreatDoor.Ab
set_option linter.unusedVariables false
set_option linter.unusedSimpArgs false
open Go.RowKit
section
variable {s:ASt} {vf:Nat→Value} {w w' :World} {g g' :Gh}
theorem SR.frame (h:SR s vf w g) (hn:g'.n=g.n) (hρ: ∀l,l<g.n→g'.ρ l=g.ρ l) (hG: ∀b o,g.G b o→g'.G b o)
  (hG2: ∀b o,g'.G b o→g.G b o∨(b<w'.heap.size∧(∀l,l<g.n→g.ρ l≠b)∧ ∀p, ¬Own s vf w g p b)) (hsz:w.heap.size≤w'.heap.size)
  (hcell: ∀b o,g.G b o→w'.cell? ⟨b,o,none⟩=w.cell? ⟨b,o,none⟩)
  (hb1: ∀l,l<g.n→w'.heap[g.ρ l]? =w.heap[g.ρ l]?) (hb2: ∀p b,Own s vf w g p b→w'.heap[b]? =w.heap[b]?):SR s vf w' g' :=by
 have ext:Ext g w g' w' :=⟨by omega,hρ,hG,hcell⟩
 have hc: ∀l j,l<g.n→w'.cell? ⟨g'.ρ l,j,none⟩=w.cell? ⟨g.ρ l,j,none⟩:=fun l j hl=>by
  rw [hρ l hl];exact World.cell?_of_block (a:=⟨g.ρ l,j,none⟩) (hb1 l hl)
 have back: ∀p b,Own s vf w' g' p b→Own s vf w g p b:=by
  intro p b ho
  cases p with
  |slot i=>exact ho
  |cell l j=>
   obtain ⟨hl,cs,av,v,h1,h2,h3,h4⟩:=ho
   exact ⟨hl,cs,av,v,h1,h2,by rwa [hc l j (h.n▸hl)] at h3,h4⟩
 have tip: ∀av v,Tip g w av v→(∀b,OwnV av v b→ ∃p,Own s vf w g p b)→Tip g' w' av v:=by
  intro av v ht hp sz xs b o len cap e1 e2
  obtain ⟨t1,⟨cur,e,t2,t3⟩,t4,t5⟩:=ht sz xs b o len cap e1 e2
  obtain ⟨p,hp⟩:=hp b ⟨sz,xs,o,len,cap,e1,e2⟩
  refine ⟨t1,⟨cur,e,by rw [hb2 p b hp];exact t2,t3⟩,fun j hj hG' => ?_,fun l hl=>by rw [hρ l (by omega)];exact t5 l (by omega)⟩
  rcases hG2 b j hG' with h1|h1
  ·exact t4 j hj h1
  ·exact h1.2.2 p hp
 refine ⟨hn.trans h.n,fun i=>(h.fr i).mono ext,fun l hl=> ?_,fun l l' hl hl' e=> ?_,fun b o hG' => ?_,fun i=>tip _ _ (h.tipS i) (fun b hb=>⟨.slot i,hb⟩),fun l j cs av v hl h1 h2 h3=> ?_,fun p q b hp hq=>h.one p q b (back p b hp) (back q b hq)⟩
 ·have hl' :l<g.n:=by omega
  have:=h.bk l hl'
  rw [hρ l hl']
  cases hb:s.hp.bk l with
  |cells cs=>rw [hb] at this;obtain ⟨vs,us,e,fr,k1,k2,k3⟩:=this;exact ⟨vs,us,e,fr,by rw [hb1 l hl'];exact k1,k2.mono ext,k3⟩
  |map es=>
   rw [hb] at this
   obtain ⟨l0,clock,k1,k2,k3,k4⟩:=this
   refine ⟨l0,clock,by rw [hb1 l hl'];exact k1, ?_,k3,k4⟩
   clear k1 k3 k4 hb
   induction k2 with
   |nil=>exact .nil
   |cons k v es e l hk hv _ ih=>exact .cons _ _ _ _ _ (hk.mono ext) (hv.mono ext) ih
 ·rw [hρ l (by omega),hρ l' (by omega)] at e
  exact h.inj l l' (by omega) (by omega) e
 ·rcases hG2 b o hG' with h1|h1
  ·obtain ⟨k1,k2⟩:=h.G b o h1
   exact ⟨by omega,fun l hl=>by rw [hρ l (by omega)];exact k2 l (by omega)⟩
  ·exact ⟨h1.1,fun l hl=>by rw [hρ l (by omega)];exact h1.2.1 l (by omega)⟩
 ·have hl' :l<g.n:=by omega
  rw [hc l j hl'] at h3
  exact tip _ _ (h.tipC l j cs av v hl' h1 h2 h3) (fun b hb=>⟨.cell l j,by rw [←h.n];exact hl',cs,av,v,h1,h2,h3,hb⟩)
theorem SR.putOwn (h:SR s vf w g) (d:Nat) {av:AV} {v:Value} (hv:VR g w av v) (ht:Tip g w av v) (hu: ∀b,OwnV av v b→ ∀p,p≠ .slot d→ ¬Own s vf w g p b):
  SR ⟨upd s.fr d av,s.hp⟩ (updv vf d v) w g∧ ∀b,OwnB ⟨upd s.fr d av,s.hp⟩ (updv vf d v) w g b→OwnB s vf w g b∨OwnV av v b:=by
 have back: ∀p b,Own ⟨upd s.fr d av,s.hp⟩ (updv vf d v) w g p b→(p= .slot d∧OwnV av v b)∨(p≠ .slot d∧Own s vf w g p b):=by
  intro p b ho
  cases p with
  |slot i=>
   simp only [Own,upd,updv] at ho
   by_cases hi:i=d
   ·simp only [hi,if_true] at ho;exact .inl ⟨by rw [hi],ho⟩
   ·simp only [hi,if_false] at ho;exact .inr ⟨fun e=>hi (Pl.slot.inj e),ho⟩
  |cell l j=>exact .inr ⟨(fun e=>by cases e),ho⟩
 refine ⟨⟨h.n,fun i=> ?_,h.bk,h.inj,h.G,fun i=> ?_,h.tipC,fun p q b hp hq=> ?_⟩,fun b ⟨p,hp⟩=> ?_⟩
 ·by_cases hi:i=d
  ·subst hi;simpa using hv
  ·simpa [upd,updv,hi] using h.fr i
 ·by_cases hi:i=d
  ·subst hi;simpa using ht
  ·simpa [upd,updv,hi] using h.tipS i
 ·rcases back p b hp with ⟨e1,h1⟩|⟨e1,h1⟩<;>rcases back q b hq with ⟨e2,h2⟩|⟨e2,h2⟩
  ·rw [e1,e2]
  ·exact absurd h2 (hu b h1 q e2)
  ·exact absurd h1 (hu b h2 p e1)
  ·exact h.one p q b h1 h2
 ·rcases back p b hp with ⟨_,h1⟩|⟨_,h1⟩
  ·exact .inr h1
  ·exact .inl ⟨p,h1⟩
theorem SR.stripSlot (h:SR s vf w g) (t:Nat):SR ⟨upd s.fr t (strip (s.fr t)),s.hp⟩ vf w g∧(∀p b,Own ⟨upd s.fr t (strip (s.fr t)),s.hp⟩ vf w g p b→Own s vf w g p b∧p≠ .slot t):=by
 have back: ∀p b,Own ⟨upd s.fr t (strip (s.fr t)),s.hp⟩ vf w g p b→Own s vf w g p b∧p≠ .slot t:=by
  intro p b ho
  cases p with
  |slot i=>
   simp only [Own,upd] at ho
   by_cases hi:i=t
   ·simp only [hi,if_true] at ho;exact absurd ho (not_ownV (strip_notOwn _))
   ·simp only [hi,if_false] at ho;exact ⟨ho,fun e=>hi (Pl.slot.inj e)⟩
  |cell l j=>exact ⟨ho,fun e=>by cases e⟩
 refine ⟨⟨h.n,fun i=> ?_,h.bk,h.inj,h.G,fun i=> ?_,h.tipC,fun p q b hp hq=>h.one p q b (back p b hp).1 (back q b hq).1⟩,back⟩
 ·by_cases hi:i=t
  ·subst hi;simpa using (h.fr i).strip
  ·simpa [upd,hi] using h.fr i
 ·by_cases hi:i=t
  ·subst hi;simpa using tip_notOwn (strip_notOwn _)
  ·simpa [upd,hi] using h.tipS i
end
def updB (f:Nat→Blk) (i:Nat) (v:Blk):Nat→Blk:=fun j=>if j=i then v else f j
@[simp] theorem updB_same (f i v):updB f i v i=v:=by simp [updB]
theorem updB_ne {i j:Nat} (f v) (h:j≠i):updB f i v j=f j:=by simp [updB,h]
def Hp.push (h:Hp) (b:Blk):Hp:=⟨h.n+1,updB h.bk h.n b⟩
def Hp.set (h:Hp) (l:Nat) (b:Blk):Hp:=⟨h.n,updB h.bk l b⟩
section
variable {s:ASt} {vf:Nat→Value} {w w' :World} {g g' :Gh}
theorem SR.pushBlk (h:SR s vf w g) (d:Nat) (cs:List AV) (vs:List Value) (e:TypeId) (hc:CL g w cs vs) (hno: ∀(j:Nat) av v,cs[j]? =some av→vs[j]? =some v→ ∀b, ¬OwnV av v b):
  ∃g',Tr s vf w g ⟨upd s.fr d (.ptr s.hp.n 0),s.hp.push (.cells cs)⟩ (updv vf d (.pointer (some ⟨w.heap.size,0,none⟩))) (w.alloc (.cells ⟨vs⟩ e)) g' :=by
 let g' :Gh:=⟨g.n+1,g.G,fun l=>if l=g.n then w.heap.size else g.ρ l⟩
 have hρ: ∀l,l<g.n→g'.ρ l=g.ρ l:=fun l hl=>by simp [g',Nat.ne_of_lt hl]
 have hnew:g'.ρ g.n=w.heap.size:=by simp [g']
 have hcell: ∀b o,b<w.heap.size→(w.alloc (.cells ⟨vs⟩ e)).cell? ⟨b,o,none⟩=w.cell? ⟨b,o,none⟩:=fun b o hb=>World.cell?_alloc_lt _ _ _ hb
 have hheap: ∀b,b<w.heap.size→(w.alloc (.cells ⟨vs⟩ e)).heap[b]? =w.heap[b]? :=fun b hb=>_root_.Go.heap_alloc_old w _ hb
 have ext:Ext g w g' (w.alloc (.cells ⟨vs⟩ e)):=⟨by simp [g'],hρ,fun b o h=>h,fun b o hG=>hcell b o (h.G b o hG).1⟩
 have hpos: ∀l,l<g'.n→l≠g.n→l<g.n:=fun l hl hne=>by simp only [g'] at hl;omega
 have back: ∀p b,Own ⟨upd s.fr d (.ptr s.hp.n 0),s.hp.push (.cells cs)⟩ (updv vf d (.pointer (some ⟨w.heap.size,0,none⟩))) (w.alloc (.cells ⟨vs⟩ e)) g' p b→Own s vf w g p b:=by
  intro p b ho
  cases p with
  |slot i=>
   simp only [Own,upd,updv] at ho ⊢
   by_cases hi:i=d
   ·simp only [hi,if_true] at ho;obtain ⟨_,_,_,_,_,e1,_⟩:=ho;cases e1
   ·simpa only [hi,if_false] using ho
  |cell l j=>
   obtain ⟨hl,cs',av,v,h1,h2,h3,h4⟩:=ho
   by_cases e1:l=g.n
   ·subst e1
    simp only [Hp.push, ←h.n,updB_same,Blk.cells.injEq] at h1
    subst h1
    rw [hnew,World.cell?_alloc_new] at h3
    exact absurd h4 (hno j av v h2 (by simpa using h3) b)
   ·have hl' :l<g.n:=by simp only [Hp.push, ←h.n] at hl;omega
    simp only [Hp.push, ←h.n,updB_ne _ _ e1] at h1
    rw [hρ l hl',hcell _ _ (h.size_ρ hl')] at h3
    exact ⟨h.n▸hl',cs',av,v,h1,h2,h3,h4⟩
 have tip: ∀av v,Tip g w av v→Tip g' (w.alloc (.cells ⟨vs⟩ e)) av v:=by
  intro av v ht sz xs b o len cap e1 e2
  obtain ⟨t1,⟨cur,e,t2,t3⟩,t4,t5⟩:=ht sz xs b o len cap e1 e2
  have hb:b<w.heap.size:=(Array.getElem?_eq_some_iff.1 t2).1
  refine ⟨t1,⟨cur,e,by rw [hheap b hb];exact t2,t3⟩,t4,fun l hl=> ?_⟩
  by_cases e1:l=g.n
  ·subst e1;rw [hnew];omega
  ·rw [hρ l (hpos l hl e1)];exact t5 l (hpos l hl e1)
 refine ⟨g',⟨⟨by simp [g',Hp.push,h.n],fun i=> ?_,fun l hl=> ?_,fun l l' hl hl' e1=> ?_,fun b o hG=> ?_,fun i=> ?_,fun l j cs' av v hl h1 h2 h3=> ?_,fun p q b hp hq=>h.one p q b (back p b hp) (back q b hq)⟩,
  {ext with os:=rfl,tape:=rfl,output:=rfl,size:=by simp,blk:=fun k hk _ _=>hheap k hk,newG:=fun b o hG=> .inl hG,newρ:=fun l h1 h2=> ?_ },fun b ⟨p,hp⟩=> .inl ⟨p,back p b hp⟩⟩⟩
 ·by_cases hi:i=d
  ·subst hi
   have:=VR.ptr (g:=g') (w:=w.alloc (.cells ⟨vs⟩ e)) g.n 0 (by simp [g'])
   rw [hnew] at this
   simpa [←h.n] using this
  ·simpa [upd,updv,hi] using (h.fr i).mono ext
 ·by_cases e1:l=g.n
  ·subst e1
   rw [hnew]
   simp only [Hp.push, ←h.n,updB_same]
   exact ⟨vs, [],e,(0,0),by rw [List.append_nil];exact _root_.Go.heap_alloc_new w _,hc.mono ext, .inl rfl⟩
  ·have hl' :=hpos l hl e1
   simp only [Hp.push, ←h.n,updB_ne _ _ e1]
   rw [hρ l hl']
   have:=h.bk l hl'
   cases hb:s.hp.bk l with
   |cells cs=>rw [hb] at this;obtain ⟨vs,us,e,fr,k1,k2,k3⟩:=this;exact ⟨vs,us,e,fr,by rw [hheap _ (h.size_ρ hl')];exact k1,k2.mono ext,k3⟩
   |map es=>
    rw [hb] at this
    obtain ⟨l0,clock,k1,k2,k3,k4⟩:=this
    refine ⟨l0,clock,by rw [hheap _ (h.size_ρ hl')];exact k1, ?_,k3,k4⟩
    clear k1 k3 k4 hb
    induction k2 with
    |nil=>exact .nil
    |cons k v es e l hk hv _ ih=>exact .cons _ _ _ _ _ (hk.mono ext) (hv.mono ext) ih
 ·by_cases e2:l=g.n<;>by_cases e3:l' =g.n
  ·rw [e2,e3]
  ·rw [e2,hnew,hρ l' (hpos l' hl' e3)] at e1;have:=h.size_ρ (hpos l' hl' e3);omega
  ·rw [e3,hnew,hρ l (hpos l hl e2)] at e1;have:=h.size_ρ (hpos l hl e2);omega
  ·rw [hρ l (hpos l hl e2),hρ l' (hpos l' hl' e3)] at e1;exact h.inj l l' (hpos l hl e2) (hpos l' hl' e3) e1
 ·obtain ⟨k1,k2⟩:=h.G b o hG
  refine ⟨by simp;omega,fun l hl=> ?_⟩
  by_cases e1:l=g.n
  ·subst e1;rw [hnew];omega
  ·rw [hρ l (hpos l hl e1)];exact k2 l (hpos l hl e1)
 ·by_cases hi:i=d
  ·subst hi;simp only [upd_same,updv_same];exact fun _ _ _ _ _ _ e1=>by cases e1
  ·simpa [upd,updv,hi] using tip _ _ (h.tipS i)
 ·by_cases e1:l=g.n
  ·subst e1
   simp only [Hp.push, ←h.n,updB_same,Blk.cells.injEq] at h1
   subst h1
   rw [hnew,World.cell?_alloc_new] at h3
   exact tip_of_not (hno j av v h2 (by simpa using h3))
  ·have hl' :=hpos l hl e1
   simp only [Hp.push, ←h.n,updB_ne _ _ e1] at h1
   rw [hρ l hl',hcell _ _ (h.size_ρ hl')] at h3
   exact tip _ _ (h.tipC l j cs' av v hl' h1 h2 h3)
 ·have:l=g.n:=by simp only [g'] at h2;omega
  subst this;rw [hnew];exact Nat.le_refl _
theorem SR.pushRow (h:SR s vf w g) (d:Nat) (sz cap:Nat) (xs:List AV) (vs:List Value) (rest:List Value) (e:TypeId) (w0:World) (hw0:w0.heap=w.heap) (hos:w0.os=w.os) (htape:w0.tape=w.tape) (hout:w0.output=w.output)
  (hsz: ∀x∈xs,x.cells.length=sz) (hc:CL g w (flat xs) vs) (hcap:xs.length≤cap) (hmax:cap≤maxLen) (hsize:(vs++rest).length=cap * sz):
  ∃g',Tr s vf w g ⟨upd s.fr d (.sl .own sz xs),s.hp⟩ (updv vf d (.slice (some ⟨w.heap.size,0,none⟩) xs.length cap)) (w0.alloc (.cells ⟨vs++rest⟩ e)) g' :=by
 let w' :=w0.alloc (.cells ⟨vs++rest⟩ e)
 let g' :Gh:=⟨g.n,fun b o=>g.G b o∨(b=w.heap.size∧o<vs.length),g.ρ⟩
 have hs0:w0.heap.size=w.heap.size:=by rw [hw0]
 have hheap: ∀b,b<w.heap.size→w'.heap[b]? =w.heap[b]? :=fun b hb=>by
  have:=_root_.Go.heap_alloc_old w0 (.cells ⟨vs++rest⟩ e) (r:=b) (by omega)
  rw [hw0] at this;exact this
 have hnew:w'.heap[w.heap.size]? =some (.cells ⟨vs++rest⟩ e (0,0)):=by
  have:=_root_.Go.heap_alloc_new w0 (.cells ⟨vs++rest⟩ e)
  rwa [hs0] at this
 have hsz' :w'.heap.size=w.heap.size+1:=by simp [w',hs0]
 have hcell: ∀b o,b<w.heap.size→w'.cell? ⟨b,o,none⟩=w.cell? ⟨b,o,none⟩:=fun b o hb=>World.cell?_of_block (a:=⟨b,o,none⟩) (hheap b hb)
 have hsr:SR s vf w' g' :=h.frame rfl (fun _ _=>rfl) (fun b o hG=> .inl hG) (fun b o hG=>by
   rcases hG with hG|⟨rfl,_⟩
   ·exact .inl hG
   ·exact .inr ⟨by omega,fun l hl=>Nat.ne_of_lt (h.size_ρ hl),fun p hp=>by have:=(h.own_lt hp).1;omega⟩) (by omega)
  (fun b o hG=>hcell b o (h.G b o hG).1) (fun l hl=>hheap _ (h.size_ρ hl)) (fun p b hp=>hheap b (h.own_lt hp).1)
 have ext:Ext g w g' w' :=⟨Nat.le_refl _,fun _ _=>rfl,fun b o hG=> .inl hG,fun b o hG=>hcell b o (h.G b o hG).1⟩
 have hlen:=hc.length
 have hcr:CR g' w' w.heap.size 0 (flat xs):=CR.ofCL (hc.mono ext) (fun j v hj=>by
   rw [Nat.zero_add,cell_of_row w' _ j _ e (0,0) hnew]
   have:j<vs.length:=(List.getElem?_eq_some_iff.1 hj).1
   simpa [List.getElem?_append_left this] using hj) (fun j hj=> .inr ⟨rfl,by omega⟩)
 have hvr:VR g' w' (.sl .own sz xs) (.slice (some ⟨w.heap.size,0,none⟩) xs.length cap):= .sl .own sz xs _ _ cap hcap hmax (fun e=>by cases e) hsz hcr
 have htip:Tip g' w' (.sl .own sz xs) (.slice (some ⟨w.heap.size,0,none⟩) xs.length cap):=by
  intro sz' xs' b o len cap' e1 e2
  simp only [AV.sl.injEq,true_and] at e1
  obtain ⟨rfl,rfl⟩:=e1
  simp only [Value.slice.injEq,Option.some.injEq,Addr.mk.injEq,and_true] at e2
  obtain ⟨⟨rfl,rfl⟩,rfl,rfl⟩:=e2
  refine ⟨rfl,⟨_,e,hnew,by simpa using hsize⟩,fun j hj hG=> ?_,fun l hl=>Nat.ne_of_lt (h.size_ρ hl)⟩
  have hfl:=flat_length hsz
  rcases hG with hG|⟨_,hG⟩
  ·have:=(h.G _ _ hG).1;omega
  ·omega
 obtain ⟨k1,k2⟩:=hsr.putOwn d hvr htip (fun b ⟨_,_,_,_,_,e1,e2⟩ p _ hp=>by
  simp only [Value.slice.injEq,Option.some.injEq,Addr.mk.injEq,and_true] at e2
  obtain ⟨⟨rfl,_⟩,_⟩:=e2
  obtain ⟨hb,_⟩:=hsr.own_lt hp
  cases p with
  |slot i=>have:=(h.own_lt (p:= .slot i) hp).1;omega
  |cell l j=>
   obtain ⟨hl,cs,av,v,h1,h2,h3,h4⟩:=hp
   have hl' :l<g.n:=h.n▸hl
   rw [show g'.ρ l=g.ρ l from rfl,hcell _ _ (h.size_ρ hl')] at h3
   have:=(h.own_lt (p:= .cell l j) ⟨hl,cs,av,v,h1,h2,h3,h4⟩).1
   omega)
 refine ⟨g',k1, { ext with os:=by simp [w',World.alloc,hos],tape:=by simp [w',World.alloc,htape],output:=by simp [w',World.alloc,hout],size:=(by show _≤w'.heap.size;omega),blk:=fun k hk _ _=>hheap k hk,newG:=fun b o hG=> ?_,newρ:=fun l h1 h2=>absurd h1 (Nat.not_le.2 h2) },fun b hb=> ?_⟩
 ·rcases hG with hG|⟨rfl,_⟩
  ·exact .inl hG
  ·exact .inr (.inl (Nat.le_refl _))
 ·rcases k2 b hb with ⟨p,hp⟩|⟨_,_,_,_,_,_,e2⟩
  ·left
   cases p with
   |slot i=>exact ⟨.slot i,hp⟩
   |cell l j=>
    obtain ⟨hl,cs,av,v,h1,h2,h3,h4⟩:=hp
    have hl' :l<g.n:=h.n▸hl
    rw [show g'.ρ l=g.ρ l from rfl,hcell _ _ (h.size_ρ hl')] at h3
    exact ⟨.cell l j,hl,cs,av,v,h1,h2,h3,h4⟩
  ·right
   simp only [Value.slice.injEq,Option.some.injEq,Addr.mk.injEq,and_true] at e2
   omega
end
end Go.Proofs.YtnibelnjflhkgaaGreatDoor.Ab
namespace Go.Proofs.YtnibelnjflhkgaaGreatDoor.Ab
set_option linter.unusedVariables false
set_option linter.unusedSimpArgs false
open Go.RowKit
def ASt.put (s:ASt) (d:Option Tmp) (v:AV):ASt:=match d with|some d=>⟨upd s.fr d v,s.hp⟩|none=>s
def Does (P:Program) (o:Oper) (s s' :ASt):Prop:=
 ∀(a:Act) (w:World) (g:Gh),SR s (vfa a) w g→(∀d,o.dst=some d→d<a.tmps.size)→
  ∃n v w' g',(execOp a.eval o).run P w= .ok n w' ∧(n= .value v∨(n= .skip∧v=undef))∧Tr s (vfa a) w g s' (vfa (a.put o.dst v)) w' g'
theorem vfa_put {a:Act} {d:Nat} {v:Value} (h:d<a.tmps.size):vfa (a.put (some d) v)=updv (vfa a) d v:=by
 funext i
 simp only [vfa,Act.put,updv]
 by_cases hi:i=d
 ·subst hi;simp [h]
 ·simp [hi,Array.getElem?_setIfInBounds_ne (Ne.symm hi)]
theorem does_value {P:Program} {o:Oper} {s:ASt} {r:AV} (h: ∀(a:Act) (w:World) (g:Gh),SR s (vfa a) w g→ ∃z,(execOp a.eval o).run P w= .ok (.value z) w∧VR g w r z∧ ∀b, ¬OwnV r z b):
  Does P o s (s.put o.dst r):=by
 intro a w g hs hd
 obtain ⟨z,h1,h2,h3⟩:=h a w g hs
 refine ⟨_,z,w,g,h1, .inl rfl, ?_⟩
 cases hdst:o.dst with
 |none=>exact Tr.refl hs
 |some d=>
  rw [vfa_put (hd d hdst)]
  exact hs.put d h2 h3
theorem does_pev {P:Program} {o:Oper} {s:ASt} {r:AV} (h:pevA P s o.op=some r):Does P o s (s.put o.dst r):=
 does_value fun a w g hs=>let ⟨z,h1,h2,h3⟩:=run_pevA hs h;⟨z,h1,h2,fun b=>not_ownV h3⟩
def moveSt (s:ASt) (take:Bool) (d:Option Tmp) (t:Tmp):Option ASt:=
 match d with
 |none=>some s
 |some d=>if take&&isOwn (s.fr t) then (if d=t then none else some ⟨upd (upd s.fr t (strip (s.fr t))) d (s.fr t),s.hp⟩) else some ⟨upd s.fr d (strip (s.fr t)),s.hp⟩
theorem does_move {P:Program} {o:Oper} {s s' :ASt} {take:Bool} {t:Tmp} (ho:o.op= .move (.tmp t)∨o.op= .assign (.tmp t)) (h:moveSt s take o.dst t=some s'):Does P o s s' :=by
 intro a w g hs hd
 refine ⟨.value (a.eval (.tmp t)),a.eval (.tmp t),w,g, ?_, .inl rfl, ?_⟩
 ·rcases ho with ho|ho<;>simp [execOp,ho]
 unfold moveSt at h
 cases hdst:o.dst with
 |none=>simp [hdst] at h;subst h;exact Tr.refl hs
 |some d=>
  rw [vfa_put (hd d hdst)]
  simp only [hdst] at h
  split at h
  ·split at h
   ·cases h
   ·rename_i hne
    simp at h;subst h
    exact hs.moveSlot d t hne
  ·simp at h;subst h
   exact hs.put d ((hs.fr t).strip) (fun b=>not_ownV (strip_notOwn _))
theorem does_const {P:Program} {o:Oper} {s:ASt} {n:Nat} {v:Value} (ho:o.op= .move (.const v)∨o.op= .assign (.const v)) (hv:constOK v=true):Does P o s (s.put o.dst (constA n v)):=
 does_value fun a w g hs=>⟨v,by rcases ho with ho|ho<;>simp [execOp,ho,Act.eval],constA_vr' n hv,fun b=>constA_not n v b⟩
theorem does_func {P:Program} {o:Oper} {s:ASt} {f:FuncId} (ho:o.op= .move (.func f)∨o.op= .assign (.func f)):Does P o s (s.put o.dst (.func f [] [])):=
 does_value fun a w g hs=>⟨.func (.func f) #[] #[],by rcases ho with ho|ho<;>simp [execOp,ho,Act.eval], .func f [] [] [] [] .nil .nil,fun b ⟨_,_,_,_,_,e,_⟩=>by cases e⟩
section
variable {s:ASt} {vf:Nat→Value} {w:World} {g:Gh}
theorem SR.setBlk (h:SR s vf w g) {l j0:Nat} {cs cs' :List AV} {vs vs' us:List Value} {e:TypeId} {fr:Nat×Nat} (hl:l<g.n) (hb:s.hp.bk l= .cells cs) (hh:w.heap[g.ρ l]? =some (.cells ⟨vs++us⟩ e fr)) (hfr:fr=(0,0)∨vs.length≤fr.1) (hlen:vs'.length=vs.length) (hc:CL g w cs' vs')
  (hown: ∀(j:Nat) av v b,cs'[j]? =some av→vs'[j]? =some v→OwnV av v b→(cs[j]? =some av∧vs[j]? =some v)∨(j=j0∧Tip g w av v∧ ∀p, ¬Own s vf w g p b)):
  SR ⟨s.fr,s.hp.set l (.cells cs')⟩ vf (w.setRow (g.ρ l) ⟨vs' ++us⟩) g∧(∀O,Stp O g w g (w.setRow (g.ρ l) ⟨vs' ++us⟩))∧
  ∀b,OwnB ⟨s.fr,s.hp.set l (.cells cs')⟩ vf (w.setRow (g.ρ l) ⟨vs' ++us⟩) g b→OwnB s vf w g b∨ ∃av v,cs'[j0]? =some av∧vs'[j0]? =some v∧OwnV av v b:=by
 have hnew:(w.setRow (g.ρ l) ⟨vs' ++us⟩).heap[g.ρ l]? =some (.cells ⟨vs' ++us⟩ e fr):=setRow_heap w _ _ _ e fr hh
 have hold: ∀k,k≠g.ρ l→(w.setRow (g.ρ l) ⟨vs' ++us⟩).heap[k]? =w.heap[k]? :=fun k hk=>setRow_other w _ k _ hk
 have hcell: ∀b o,g.G b o→(w.setRow (g.ρ l) ⟨vs' ++us⟩).cell? ⟨b,o,none⟩=w.cell? ⟨b,o,none⟩:=fun b o hG=>World.cell?_of_block (a:=⟨b,o,none⟩) (hold b (Ne.symm ((h.G b o hG).2 l hl)))
 have ext:Ext g w g (w.setRow (g.ρ l) ⟨vs' ++us⟩):=⟨Nat.le_refl _,fun _ _=>rfl,fun _ _ h=>h,hcell⟩
 have hcl: ∀l',l' <g.n→l' ≠l→ ∀j,(w.setRow (g.ρ l) ⟨vs' ++us⟩).cell? ⟨g.ρ l',j,none⟩=w.cell? ⟨g.ρ l',j,none⟩:=fun l' hl' hne j=>World.cell?_of_block (a:=⟨g.ρ l',j,none⟩) (hold _ (fun e=>hne (h.inj l' l hl' hl e)))
 have hcl0:=hc.length
 have hc1: ∀j,j<vs'.length→(w.setRow (g.ρ l) ⟨vs' ++us⟩).cell? ⟨g.ρ l,j,none⟩=vs'[j]? :=fun j hj=>by rw [cell_of_row _ _ j _ e fr hnew];simp [List.getElem?_append_left hj]
 have hc0: ∀j,j<vs.length→w.cell? ⟨g.ρ l,j,none⟩=vs[j]? :=fun j hj=>by rw [cell_of_row _ _ j _ e fr hh];simp [List.getElem?_append_left hj]
 have back: ∀p b,Own ⟨s.fr,s.hp.set l (.cells cs')⟩ vf (w.setRow (g.ρ l) ⟨vs' ++us⟩) g p b→Own s vf w g p b∨(p= .cell l j0∧(∀q, ¬Own s vf w g q b)∧ ∃av v,cs'[j0]? =some av∧vs'[j0]? =some v∧OwnV av v b):=by
  intro p b ho
  cases p with
  |slot i=>exact .inl ho
  |cell l' j=>
   obtain ⟨hl',cs1,av,v,h1,h2,h3,h4⟩:=ho
   simp only [Hp.set] at hl' h1
   by_cases e1:l' =l
   ·subst e1
    simp only [updB_same,Blk.cells.injEq] at h1
    subst h1
    rw [hc1 j (by have hjq:j<cs'.length:=(List.getElem?_eq_some_iff.1 h2).1;omega)] at h3
    rcases hown j av v b h2 h3 h4 with ⟨k1,k2⟩|⟨rfl,_,k2⟩
    ·exact .inl ⟨hl',cs,av,v,hb,k1,by rw [hc0 j (List.getElem?_eq_some_iff.1 k2).1];exact k2,h4⟩
    ·exact .inr ⟨rfl,k2,av,v,h2,h3,h4⟩
   ·rw [updB_ne _ _ e1] at h1
    rw [hcl l' (h.n▸hl') e1] at h3
    exact .inl ⟨hl',cs1,av,v,h1,h2,h3,h4⟩
 have tip: ∀av v,Tip g w av v→Tip g (w.setRow (g.ρ l) ⟨vs' ++us⟩) av v:=by
  intro av v ht sz xs b o len cap e1 e2
  obtain ⟨t1,⟨cur,e,t2,t3⟩,t4,t5⟩:=ht sz xs b o len cap e1 e2
  exact ⟨t1,⟨cur,e,by rw [hold b (Ne.symm (t5 l hl))];exact t2,t3⟩,t4,t5⟩
 refine ⟨⟨h.n,fun i=>(h.fr i).mono ext,fun l' hl' => ?_,h.inj,fun b o hG=>by simpa using h.G b o hG,fun i=>tip _ _ (h.tipS i),fun l' j cs1 av v hl' h1 h2 h3=> ?_,fun p q b hp hq=> ?_⟩,
  fun O=> { ext with os:=rfl,tape:=rfl,output:=rfl,size:=by simp,blk:=fun k _ hk _=>hold k (Ne.symm (hk l hl)),newG:=fun b o hG=> .inl hG,newρ:=fun l' h1 h2=>absurd h1 (Nat.not_le.2 h2) },fun b ⟨p,hp⟩=> ?_⟩
 ·by_cases e1:l' =l
  ·subst e1
   simp only [Hp.set,updB_same]
   exact ⟨vs',us,e,fr,hnew,hc.mono ext,by rw [hlen];exact hfr⟩
  ·simp only [Hp.set,updB_ne _ _ e1]
   have hne:g.ρ l' ≠g.ρ l:=fun e=>e1 (h.inj l' l hl' hl e)
   have:=h.bk l' hl'
   cases hb' :s.hp.bk l' with
   |cells cs=>rw [hb'] at this;obtain ⟨vs,us,e,fr,k1,k2,k3⟩:=this;exact ⟨vs,us,e,fr,by rw [hold _ hne];exact k1,k2.mono ext,k3⟩
   |map es=>
    rw [hb'] at this
    obtain ⟨l0,clock,k1,k2,k3,k4⟩:=this
    refine ⟨l0,clock,by rw [hold _ hne];exact k1, ?_,k3,k4⟩
    clear k1 k3 k4 hb'
    induction k2 with
    |nil=>exact .nil
    |cons k v es e l hk hv _ ih=>exact .cons _ _ _ _ _ (hk.mono ext) (hv.mono ext) ih
 ·by_cases e1:l' =l
  ·subst e1
   simp only [Hp.set,updB_same,Blk.cells.injEq] at h1
   subst h1
   rw [hc1 j (by have hjq:j<cs'.length:=(List.getElem?_eq_some_iff.1 h2).1;omega)] at h3
   intro sz xs b o len cap e1 e2
   rcases hown j av v b h2 h3 ⟨sz,xs,o,len,cap,e1,e2⟩ with ⟨k1,k2⟩|⟨rfl,k1,k2⟩
   ·exact tip _ _ (h.tipC l' j cs av v hl' hb k1 (by rw [hc0 j (List.getElem?_eq_some_iff.1 k2).1];exact k2)) sz xs b o len cap e1 e2
   ·exact tip _ _ k1 sz xs b o len cap e1 e2
  ·simp only [Hp.set,updB_ne _ _ e1] at h1
   rw [hcl l' hl' e1] at h3
   exact tip _ _ (h.tipC l' j cs1 av v hl' h1 h2 h3)
 ·rcases back p b hp with h1|⟨e1,h1,_⟩<;>rcases back q b hq with h2|⟨e2,h2,_⟩
  ·exact h.one p q b h1 h2
  ·exact absurd h1 (h2 p)
  ·exact absurd h2 (h1 q)
  ·rw [e1,e2]
 ·rcases back p b hp with h1|⟨_,_,h1⟩
  ·exact .inl ⟨p,h1⟩
  ·exact .inr h1
end
def putCells (cs:List AV) (o:Nat) (vs:List AV):List AV:=
 match vs with
 | [v]=>cs.set o v
 |vs=>cs.take o++(vs++cs.drop (o+vs.length))
theorem putCells_eq (cs:List AV) (o:Nat) (vs:List AV) (h:o+vs.length≤cs.length):putCells cs o vs=cs.take o++(vs++cs.drop (o+vs.length)):=by
 unfold putCells
 split
 ·rename_i v
  rw [List.set_eq_take_append_cons_drop,if_pos (by simp at h;omega)]
  rfl
 ·rfl
end Go.Proofs.YtnibelnjflhkgaaGreatDoor.Ab
namespace Go.Proofs.YtnibelnjflhkgaaGreatDoor.Ab
set_option linter.unusedVariables false
set_option linter.unusedSimpArgs false
open Go.RowKit
def valA (P:Program) (s:ASt) (t:TypeId):Operand→AV
 | .const v=>if constOK v then typA (elT P t) (strip (constA 0 v)) else .junk
 |x=>evA s x
def ownSlot (s:ASt):Operand→Option Nat
 | .tmp t=>if isOwn (s.fr t) then some t else none
 |_=>none
def storeSt (P:Program) (s:ASt) (t:TypeId) (addr x:Operand):Option ASt:=
 match evA s addr with
 | .ptr l o=>
  match s.hp.bk l,szT P t with
  | .cells cs,some n=>
   let v:=valA P s t x
   if okc v=true∧v.cells.length=n∧o+n≤cs.length then
    match ownSlot s x with
    |some t' =>some ⟨upd s.fr t' v,s.hp.set l (.cells (cs.set o (s.fr t')))⟩
    |none=>some ⟨s.fr,s.hp.set l (.cells (putCells cs o (v.cells.map strip)))⟩
   else none
  |_,_=>none
 |_=>none
section
variable {P:Program} {g:Gh} {w:World} {s:ASt} {a:Act}
theorem valA_vr (h:SR s (vfa a) w g) (t:TypeId) (x:Operand):VR g w (valA P s t x) (a.eval x):=by
 cases x with
 |const v=>simp only [valA];split;exact typA_vr (constA_vr' 0 ‹_›).strip;exact .junk _
 |tmp t=>simp only [valA];exact evA_vr h _
 |func f=>simp only [valA];exact evA_vr h _
 |global _=>simp only [valA];exact evA_vr h _
theorem run_storeCells_fr (P:Program) (g o:Nat) (t:TypeId) (fz:Nat×Nat): ∀(vs:List Value) (i:Nat) (cur:Array Value) (w:World),w.heap[g]? =some (.cells cur t fz)→(fz=(0,0)∨o+i+vs.length≤fz.1)→o+i+vs.length≤cur.size→(∀v∈vs,v.oneCell' =true)→
  (storeCells ⟨g,o,none⟩ vs i).run P w= .ok () (w.setRow g (cur.toList.take (o+i)++vs++cur.toList.drop (o+i+vs.length)).toArray)
 | [],i,cur,w,hg,_,_,_=>by
  simp only [storeCells,List.append_nil,List.length_nil,Nat.add_zero,List.take_append_drop,Array.toArray_toList]
  rw [setRow_self w g cur t fz hg]
  rfl
 |v::rest,i,cur,w,hg,hfz,hl,h1=>by
  have hi:o+i<cur.size:=by simp at hl;omega
  have hadd:(⟨g,o,none⟩:Addr).add i=⟨g,o+i,none⟩:=by unfold Addr.add;split<;>simp_all
  have hcell:w.cell? ⟨g,o+i,none⟩=some cur[o+i]:=by simp [World.cell?,hg,hi]
  have hfro:w.frozen? ⟨g,o+i,none⟩=false:=by
   rcases hfz with rfl|hfz
   ·simp [World.frozen?,hg]
   ·obtain ⟨lo,hi'⟩:=fz
    simp only [World.frozen?,hg,Bool.and_eq_false_iff,decide_eq_false_iff_not]
    left
    simp only [List.length_cons] at hfz
    omega
  have hst:(store ((⟨g,o,none⟩:Addr).add i) v).run P w= .ok () (w.setRow g (cur.setIfInBounds (o+i) v)):=by
   rw [hadd,run_store P w _ v _ (h1 v (by simp)),hcell]
   simp [hfro,setCell_eq_setRow w g (o+i) cur t fz v hg]
  have ih:=run_storeCells_fr P g o t fz rest (i+1) (cur.setIfInBounds (o+i) v) (w.setRow g (cur.setIfInBounds (o+i) v)) (setRow_heap w g cur _ t _ hg) (by rcases hfz with h|h;exact .inl h;exact .inr (by simp at h ⊢;omega)) (by simp at hl ⊢;omega) (fun x hx=>h1 x (by simp [hx]))
  simp only [storeCells,Sem.run_bind,hst,Result.andThen_ok,ih,setRow_setRow]
  congr 3
  have e:=list_seg_step cur.toList (o+i) v rest (by simp at hl ⊢;omega)
  simpa [Array.toList_setIfInBounds,Nat.add_assoc] using e
theorem run_storeVar {b o:Nat} {t e:TypeId} {cur us vs:List Value} {fr:Nat×Nat} {v:Value} {n:Nat} (hg:w.heap[b]? =some (.cells ⟨cur++us⟩ e fr)) (hfr:fr=(0,0)∨cur.length≤fr.1) (hn:szT P t=some n) (hv:v.cells.toList=vs) (hl:vs.length=n) (ho:o+n≤cur.length) (h1: ∀v∈vs,v.oneCell' =true):
  (storeVar t ⟨b,o,none⟩ v).run P w= .ok () (w.setRow b ⟨(cur.take o++(vs++cur.drop (o+vs.length)))++us⟩):=by
 subst hv
 have hz0:v.cells.toList.length=n:=hl
 have hr:=run_storeCells_fr P b o e fr v.cells.toList 0 ⟨cur++us⟩ w hg (by rcases hfr with h|h;exact .inl h;exact .inr (by omega)) (by simp at hl ⊢;omega) h1
 simp only [Nat.add_zero] at hr
 have hz:v.cells.size=n:=by simpa using hl
 simp [storeVar,run_sizeOf' hn,hz]
 rw [hr]
 have e1:(cur++us).take o=cur.take o:=List.take_append_of_le_length (by omega)
 have e2:(cur++us).drop (o+v.cells.toList.length)=cur.drop (o+v.cells.toList.length)++us:=List.drop_append_of_le_length (by omega)
 rw [e1,e2,hl]
 simp
theorem does_store {o:Oper} {s s' :ASt} {t:TypeId} {addr x:Operand} (ho:o.op= .store t addr x) (hd:o.dst=none) (h:storeSt P s t addr x=some s'):Does P o s s' :=by
 intro a w g hs _
 unfold storeSt at h
 split at h
 ·rename_i l of hea
  split at h
  ·rename_i cs n hb hn
   simp only at h
   split at h
   ·rename_i hc
    obtain ⟨hk,hlen,hle⟩:=hc
    have hva:=evA_vr hs addr
    rw [hea] at hva
    generalize hadr:a.eval addr=ad at hva
    cases hva with
    |ptr _ _ hl=>
    obtain ⟨vs,us,e,fr,h1,h2,hfr,h3⟩:=hs.box hl hb
    have hvx:=valA_vr (P:=P) hs t x
    have hcl:=cellsCL hvx hk
    have hlv:=hcl.length
    have hlc:=h2.length
    have hst:=run_storeVar (P:=P) (t:=t) (o:=of) h1 hfr hn (v:=a.eval x) rfl (by rw [←hlv];exact hlen) (by omega) hcl.one
    refine ⟨.skip,undef,w.setRow (g.ρ l) ⟨(vs.take of++((a.eval x).cells.toList++vs.drop (of+(a.eval x).cells.toList.length)))++us⟩,g, ?_, .inr ⟨rfl,rfl⟩, ?_⟩
    ·simp [execOp,ho,Instr.storeAt,Instr.sureAddr,hadr,hst]
    rw [hd]
    have hput:vfa (a.put none undef)=vfa a:=rfl
    rw [hput]
    split at h
    ·rename_i t' hos
     simp at h;subst h
     -- the slice moves out of its slot
     cases x with
     |tmp t1=>
      simp only [ownSlot] at hos
      split at hos
      ·rename_i hown
       simp at hos;subst hos
       simp only [valA,evA] at *
       have hsl: ∃sz xs,s.fr t1= .sl .own sz xs:=by
        cases hf:s.fr t1<;>rw [hf] at hown<;>simp [isOwn] at hown
        rename_i fl sz xs
        cases fl<;>simp [isOwn] at hown
        exact ⟨sz,xs,rfl⟩
       obtain ⟨sz,xs,hf⟩:=hsl
       obtain ⟨k1,k2⟩:=hs.stripSlot t1
       have hcells:(strip (s.fr t1)).cells= [strip (s.fr t1)]:=by rw [hf];rfl
       rw [hcells] at hcl hlen
       simp at hlen;subst hlen
       have hvc:(a.eval (.tmp t1)).cells.toList= [a.eval (.tmp t1)]:=by
        have:=hs.fr t1
        rw [hf] at this
        have e:vfa a t1=a.eval (.tmp t1):=rfl
        rw [e] at this
        generalize a.eval (.tmp t1)=u at this
        cases this<;>rfl
       have hone:(a.eval (.tmp t1)).oneCell' =true:=by rw [hvc] at hcl;exact hcl.one _ (by simp)
       rw [hvc]
       have hset:vs.take of++([a.eval (.tmp t1)]++vs.drop (of+ [a.eval (.tmp t1)].length))=vs.set of (a.eval (.tmp t1)):=by
        rw [List.set_eq_take_append_cons_drop,if_pos (by omega)];rfl
       rw [hset]
       have hc2:CL g w (cs.set of (s.fr t1)) (vs.set of (a.eval (.tmp t1))):=by
        have e1:cs.set of (s.fr t1)=cs.take of++(s.fr t1::cs.drop (of+1)):=by rw [List.set_eq_take_append_cons_drop,if_pos (by omega)]
        rw [e1, ←hset]
        exact (h2.take of).append (.cons _ _ _ _ hone (hs.fr t1) (h2.drop (of+1)))
       have hfresh: ∀b,OwnV (s.fr t1) (a.eval (.tmp t1)) b→ ∀p, ¬Own ⟨upd s.fr t1 (strip (s.fr t1)),s.hp⟩ (vfa a) w g p b:=fun b hb p hp=>by
        obtain ⟨m1,m2⟩:=k2 p b hp
        exact m2 (hs.one p (.slot t1) b m1 hb)
       obtain ⟨q1,q2,q3⟩:=k1.setBlk (j0:=of) hl hb h1 hfr (by simp) hc2 (fun j av v b hj hv hob=>by
        by_cases e1:j=of
        ·subst e1
         rw [List.getElem?_set_self (by omega)] at hj hv
         simp at hj hv;subst hj;subst hv
         exact .inr ⟨rfl,hs.tipS t1,hfresh b hob⟩
        ·rw [List.getElem?_set_ne (Ne.symm e1)] at hj hv
         exact .inl ⟨hj,hv⟩)
       refine ⟨q1,q2 _,fun b hb=> .inl ?_⟩
       rcases q3 b hb with ⟨p,hp⟩|⟨av,v,hj,hv,hob⟩
       ·exact ⟨p,(k2 p b hp).1⟩
       ·rw [List.getElem?_set_self (by omega)] at hj hv
        simp at hj hv;subst hj;subst hv
        exact ⟨.slot t1,hob⟩
      ·cases hos
     |const _=>simp [ownSlot] at hos
     |func _=>simp [ownSlot] at hos
     |global _=>simp [ownSlot] at hos
    ·simp at h;subst h
     have hlp:((valA P s t x).cells.map strip).length=n:=by simpa using hlen
     rw [putCells_eq _ _ _ (by rw [hlp];exact hle)]
     have hlv2:(a.eval x).cells.toList.length=n:=by rw [←hlv];exact hlen
     have hc2:CL g w (cs.take of++((valA P s t x).cells.map strip++cs.drop (of+((valA P s t x).cells.map strip).length))) (vs.take of++((a.eval x).cells.toList++vs.drop (of+(a.eval x).cells.toList.length))):=by
      rw [hlp,hlv2]
      exact (h2.take of).append ((CL_map_strip hcl).append (h2.drop (of+n)))
     obtain ⟨q1,q2,q3⟩:=hs.setBlk (j0:=cs.length+n) hl hb h1 hfr (by
      have:of+n≤vs.length:=by omega
      rw [List.length_append,List.length_append,List.length_take,List.length_drop,hlv2,Nat.min_eq_left (by omega)]
      omega) hc2 (fun j av v b hj hv hob=>by
      left
      by_cases e1:j<of
      ·rw [List.getElem?_append_left (by simp;omega),List.getElem?_take_of_lt e1] at hj hv
       exact ⟨hj,hv⟩
      ·have hto:(cs.take of).length=of:=by simp;omega
       have htv:(vs.take of).length=of:=by simp;omega
       rw [List.getElem?_append_right (by omega),hto] at hj
       rw [List.getElem?_append_right (by omega),htv] at hv
       by_cases e2:j-of<n
       ·rw [List.getElem?_append_left (by omega)] at hj
        have:av∈(valA P s t x).cells.map strip:=List.mem_of_getElem? hj
        obtain ⟨c,_,rfl⟩:=List.mem_map.1 this
        exact absurd hob (not_ownV (strip_notOwn _))
       ·rw [List.getElem?_append_right (by omega),hlp,List.getElem?_drop] at hj
        rw [List.getElem?_append_right (by omega),hlv2,List.getElem?_drop] at hv
        have e3:of+n+(j-of-n)=j:=by omega
        rw [e3] at hj hv
        exact ⟨hj,hv⟩)
     refine ⟨q1,q2 _,fun b hb=> .inl ?_⟩
     rcases q3 b hb with h|⟨av,v,hj,_⟩
     ·exact h
     ·have:=(List.getElem?_eq_some_iff.1 hj).1
      simp at this
      omega
   ·cases h
  ·cases h
 ·cases h
theorem does_alloc {o:Oper} {s:ASt} {t:TypeId} {d:Nat} {zs:List AV} (ho:o.op= .alloc t) (hd:o.dst=some d) (hz:zeroA P t=some zs):
  Does P o s ⟨upd s.fr d (.ptr s.hp.n 0),s.hp.push (.cells zs)⟩:=by
 intro a w g hs hlt
 obtain ⟨i,z,h1,h2,h3,h4⟩:=zeroA_spec hz
 obtain ⟨hc,hno⟩:=matchZ_cl (g:=g) (w:=w) h3
 obtain ⟨g',htr⟩:=hs.pushBlk d zs z.cells.toList t hc hno
 refine ⟨_, .pointer (some ⟨w.heap.size,0,none⟩),w.alloc (.cells ⟨z.cells.toList⟩ t),g', ?_, .inl rfl, ?_⟩
 ·simp [execOp,ho,Instr.alloc,zeroValue,typeInfo,h1,h2,newVar,newRow]
 ·rw [hd,vfa_put (hlt d hd)]
  simpa using htr
theorem does_box {o:Oper} {s:ASt} {t:TypeId} {x:Operand} {d:Nat} (ho:o.op= .box t x) (hd:o.dst=some d) (hk:okc (valA P s t x)=true):
  Does P o s ⟨upd s.fr d (.ptr s.hp.n 0),s.hp.push (.cells ((valA P s t x).cells.map strip))⟩:=by
 intro a w g hs hlt
 have hcl:=CL_map_strip (cellsCL (valA_vr (P:=P) hs t x) hk)
 obtain ⟨g',htr⟩:=hs.pushBlk d _ _ t hcl (fun j av v hj hv b hob=>by
  have:av∈(valA P s t x).cells.map strip:=List.mem_of_getElem? hj
  obtain ⟨c,_,rfl⟩:=List.mem_map.1 this
  exact not_ownV (strip_notOwn _) hob)
 refine ⟨_, .pointer (some ⟨w.heap.size,0,none⟩),w.alloc (.cells ⟨(a.eval x).cells.toList⟩ t),g', ?_, .inl rfl, ?_⟩
 ·simp [execOp,ho,Instr.box,newVar,newRow]
 ·rw [hd,vfa_put (hlt d hd)]
  simpa using htr
end
end Go.Proofs.YtnibelnjflhkgaaGreatDoor.Ab
namespace Go.Proofs.YtnibelnjflhkgaaGreatDoor.Ab
set_option linter.unusedVariables false
set_option linter.unusedSimpArgs false
open Go.RowKit
def rowT (P:Program) (t:TypeId):Option (TypeId×Nat×Nat):=
 match sliceT P t with
 |some e=>match P.info? e with
  |some i=>match i.zero with
   |some z=>if z.cells.size=i.size then some (e,i.size,i.bytes) else none
   |none=>none
  |none=>none
 |none=>none
theorem rowT_spec {P:Program} {t e:TypeId} {n by_:Nat} (h:rowT P t=some (e,n,by_)): ∃i z,P.underlying t=some (.slice e)∧P.info? e=some i∧i.zero=some z∧z.cells.size=n∧i.size=n∧i.bytes=by_:=by
 unfold rowT at h
 split at h
 ·rename_i e' he
  split at h
  ·rename_i i hi
   split at h
   ·rename_i z hz
    split at h
    ·rename_i hs
     simp at h;obtain ⟨rfl,rfl,rfl⟩:=h
     exact ⟨i,z,sliceT_und he,hi,hz,hs,rfl,rfl⟩
    ·cases h
   ·cases h
  ·cases h
 ·cases h
def bsA (P:Program) (s:ASt) (t:TypeId) (len:Nat) (parts:List (Nat×Operand)):Option AV:=
 match rowT P t with
 |some (e,n,_)=>
  let xs:=parts.map fun p=>valA P s e p.2
  if parts.map (·.1)=List.range len∧(xs.all fun x=>okc x&&(x.cells.length==n))=true∧len * n≤16777216∧0<n then some (.sl .own n xs) else none
 |none=>none
theorem fill_row (n:Nat): ∀(vals:List Value) (k:Nat) (cur:List Value),(∀v∈vals,v.cells.toList.length=n)→(k+vals.length) * n≤cur.length→
  Instr.fill (fun i=>some (i * n,n)) ⟨cur⟩ ((List.range' k vals.length).zip vals)=some ⟨cur.take (k * n)++(vals.flatMap (fun v=>v.cells.toList)++cur.drop ((k+vals.length) * n))⟩:=by
 intro vals
 induction vals with
 |nil=>intro k cur _ _;simp [Instr.fill]
 |cons v vals ih=>
  intro k cur hv hl
  have hvn:v.cells.toList.length=n:=hv v (by simp)
  have hvn' :v.cells.size=n:=by simpa using hvn
  have hl' :k * n+n+vals.length * n≤cur.length:=by
   have:=hl;simp only [List.length_cons] at this
   rw [show k+(vals.length+1)=k+1+vals.length by omega,Nat.add_mul,Nat.add_mul,Nat.one_mul] at this
   exact this
  simp only [List.length_cons,List.range'_succ,List.zip_cons_cons]
  unfold Instr.fill
  have hcond: ¬((v.cells.size≠n||decide (k * n+v.cells.size>(⟨cur⟩:Array Value).size))=true):=by simp [hvn'];omega
  have hf:=foldl_set v.cells.toList 0 (k * n) ⟨cur⟩ (by simp [hvn'];omega)
  have hz:v.cells.zipIdx.foldl (fun cs (x:Value×Nat)=>cs.setIfInBounds (k * n+x.2) x.1) (⟨cur⟩:Array Value)=⟨cur.take (k * n)++(v.cells.toList++cur.drop (k * n+n))⟩:=by
   rw [←Array.foldl_toList,Array.toList_zipIdx,hf,hvn];rfl
  simp only []
  rw [if_neg hcond]
  refine (congrArg (fun z=>Instr.fill (fun i=>some (i * n,n)) z ((List.range' (k+1) vals.length).zip vals)) hz).trans ?_
  rw [ih (k+1) _ (fun u hu=>hv u (by simp [hu])) (by simp [Nat.add_mul,hvn'];omega)]
  have e0:(cur.take (k * n)).length=k * n:=by simp;omega
  have e5:(cur.take (k * n)++v.cells.toList).length=k * n+n:=by rw [List.length_append,e0,hvn]
  have e1:(cur.take (k * n)++(v.cells.toList++cur.drop (k * n+n))).take ((k+1) * n)=cur.take (k * n)++v.cells.toList:=by
   rw [Nat.add_mul,Nat.one_mul, ←List.append_assoc]
   exact List.take_left' e5
  have e2:(cur.take (k * n)++(v.cells.toList++cur.drop (k * n+n))).drop ((k+1+vals.length) * n)=cur.drop ((k+(vals.length+1)) * n):=by
   have e3:(k+1+vals.length) * n=k * n+n+vals.length * n:=by rw [Nat.add_mul,Nat.add_mul,Nat.one_mul]
   have e4:(k+(vals.length+1)) * n=k * n+n+vals.length * n:=by rw [Nat.add_mul,Nat.add_mul,Nat.one_mul];omega
   rw [e3,e4, ←List.append_assoc,List.drop_append,e5,Nat.add_sub_cancel_left,List.drop_drop,List.drop_of_length_le (by omega)]
   rfl
  rw [e1,e2]
  simp
section
variable {P:Program} {g:Gh} {w:World} {s:ASt} {a:Act}
theorem CL_flat {n:Nat} {xs:List AV} {vs:List Value} (h:VL g w xs vs) (hk:(xs.all fun x=>okc x&&(x.cells.length==n))=true):CL g w (flat xs) (vs.flatMap fun v=>v.cells.toList)∧ ∀v∈vs,v.cells.toList.length=n:=by
 induction xs generalizing vs with
 |nil=>cases h;exact ⟨.nil,by simp⟩
 |cons x xs ih=>
  cases h with
  |cons _ _ v vs hv t=>
   simp only [List.all_cons,Bool.and_eq_true,beq_iff_eq] at hk
   obtain ⟨⟨k1,k2⟩,k3⟩:=hk
   have hc:=cellsCL hv k1
   obtain ⟨i1,i2⟩:=ih t (by simpa using k3)
   refine ⟨by rw [flat_cons,List.flatMap_cons];exact hc.append i1,fun u hu=> ?_⟩
   simp only [List.mem_cons] at hu
   rcases hu with rfl|hu
   ·rw [←hc.length];exact k2
   ·exact i2 u hu
theorem VL_val (h:SR s (vfa a) w g) (e:TypeId) (ps:List (Nat×Operand)):VL g w (ps.map fun p=>valA P s e p.2) (ps.map fun p=>a.eval p.2):=by
 induction ps with
 |nil=>exact .nil
 |cons p ps ih=>exact .cons _ _ _ _ (valA_vr h e p.2) ih
theorem does_bs {o:Oper} {t:TypeId} {len d:Nat} {parts:Array (Nat×Operand)} {r:AV} (ho:o.op= .buildSlice t len parts) (hd:o.dst=some d) (h:bsA P s t len parts.toList=some r):
  Does P o s ⟨upd s.fr d r,s.hp⟩:=by
 intro a w g hs hlt
 unfold bsA at h
 split at h
 ·rename_i e n by_ hr
  simp only at h
  split at h
  ·rename_i hc
   obtain ⟨h1,h2,h3,h4⟩:=hc
   simp at h;subst h
   obtain ⟨i,z,r1,r2,r3,r4,r5,r6⟩:=rowT_spec hr
   obtain ⟨hcl,hlen⟩:=CL_flat (VL_val (P:=P) hs e parts.toList) h2
   have hpl:parts.toList.length=len:=by have:=congrArg List.length h1;simpa using this
   have hpz:(parts.toList.map fun p=>(p.1,a.eval p.2))=(List.range' 0 len).zip (parts.toList.map fun p=>a.eval p.2):=by
    rw [←List.range_eq_range', ←h1]
    generalize parts.toList=l
    induction l with
    |nil=>rfl
    |cons p l ih=>simp [ih]
   have hzlen:len * n≠0→0<z.cells.size:=fun _=>by omega
   let zero:Array Value:=if len * n=0 then #[] else z.cells
   have hfl:=fill_row n (parts.toList.map fun p=>a.eval p.2) 0 ((List.range (len * n)).map fun i=>zero[i % zero.size]!) hlen (by simp [hpl])
   simp only [Nat.zero_mul,List.take_zero,List.nil_append,Nat.zero_add,List.length_map,hpl] at hfl
   rw [List.drop_of_length_le (by simp),List.append_nil, ←hpz] at hfl
   have hxl:(parts.toList.map fun p=>valA P s e p.2).length=len:=by simp [hpl]
   have hsz: ∀x∈(parts.toList.map fun p=>valA P s e p.2),x.cells.length=n:=fun x hx=>by
    have:=List.all_eq_true.1 h2 x hx
    simp at this;exact this.2
   have hvl:((parts.toList.map fun p=>a.eval p.2).flatMap fun v=>v.cells.toList).length=len * n:=by
    rw [←hcl.length,flat_length hsz,hxl]
   obtain ⟨g',htr⟩:=hs.pushRow d n len (parts.toList.map fun p=>valA P s e p.2) _ [] e w rfl rfl rfl rfl hsz hcl (by omega) (by unfold maxLen;have:len≤len * n:=Nat.le_mul_of_pos_right _ h4;omega) (by simpa using hvl)
   rw [List.append_nil,hxl] at htr
   refine ⟨_, .slice (some ⟨w.heap.size,0,none⟩) len len,w.alloc (.cells ⟨(parts.toList.map fun p=>a.eval p.2).flatMap fun v=>v.cells.toList⟩ e),g', ?_, .inl rfl, ?_⟩
   ·have hsize:(sizeOf e).run P w= .ok n w:=run_sizeOf' (by simp [szT,r2,r5])
    have hzv:(zeroValue e).run P w= .ok z w:=by simp [zeroValue,typeInfo,r2,r3]
    have hbs:(Instr.buildSlice t len (parts.map fun (i,x)=>(i,a.eval x))).run P w= .ok (.slice (some ⟨w.heap.size,0,none⟩) len len) (w.alloc (.cells ⟨(parts.toList.map fun p=>a.eval p.2).flatMap fun v=>v.cells.toList⟩ e)):=by
     have hnot: ¬(len * n>2 ^ 24):=by omega
     have hfl' :Instr.fill (fun i=>some (i * n,n)) ((Array.range (len * n)).map fun i=>zero[i % zero.size]!) (parts.map fun (i,x)=>(i,a.eval x)).toList=some ⟨(parts.toList.map fun p=>a.eval p.2).flatMap fun v=>v.cells.toList⟩:=by
      have e1:((Array.range (len * n)).map fun i=>zero[i % zero.size]!)=⟨(List.range (len * n)).map fun i=>zero[i % zero.size]!⟩:=by
       apply Array.ext';simp
      rw [e1, ←hfl];simp
     by_cases hz0:len * n=0
     ·have ez:zero= #[]:=by simp [zero,hz0]
      rw [ez] at hfl'
      simp only [Instr.buildSlice,Sem.run_bind,run_underlying r1,Result.andThen_ok,hsize,hnot,if_false,Sem.run_pure,if_pos hz0]
      simp only [hfl']
      rfl
     ·have ez:zero=z.cells:=by simp [zero,hz0]
      rw [ez] at hfl'
      simp only [Instr.buildSlice,Sem.run_bind,run_underlying r1,Result.andThen_ok,hsize,hnot,if_false,Sem.run_pure,hz0,hzv]
      simp only [hfl']
      rfl
    simp only [execOp,ho,Sem.run_bind,hbs,Result.andThen_ok,Sem.run_pure]
   ·rw [hd,vfa_put (hlt d hd)]
    exact htr
  ·cases h
 ·cases h
end
end Go.Proofs.YtnibelnjflhkgaaGreatDoor.Ab
namespace Go.Proofs.YtnibelnjflhkgaaGreatDoor.Ab
set_option linter.unusedVariables false
set_option linter.unusedSimpArgs false
open Go.RowKit
section
variable {P:Program}
structure Src (P:Program) (w:World) (size:Nat) (y:Value) (m:Nat) (news:List Value):Prop where
 len: ∀w1:World,(Builtin.lenOf y).run P w1= .ok m w1
 cells: ∀w1:World,w1.heap=w.heap→(Builtin.firstCells size m y).run P w1= .ok ⟨news⟩ w1
 one: ∀v∈news,v.oneCell' =true
 long:news.length=m * size
def notInt (P:Program) (u:TypeId):Bool:=match P.underlying u with|some (.slice _)=>true|some .string=>true|_=>false
theorem notInt_und {u:TypeId} (h:notInt P u=true):(∃x,P.underlying u=some (.slice x))∨P.underlying u=some .string:=by
 unfold notInt at h
 split at h<;>simp_all
variable {w:World} {t u ty e:TypeId} {i:TypeInfo} {z:Value}
set_option maxHeartbeats 1000000 in
theorem ap_room0 (ht:P.underlying t=some (.slice e)) (hi:P.info? e=some i) (hu:notInt P u=true) {base:Option Addr} {sLen sCap:Nat} {y:Value} (hy:Src P w i.size y 0 []) (hroom:sLen≤sCap):
  (Builtin.append_ #[t,u] ty #[.slice base sLen sCap,y]).run P w= .ok (.slice base sLen sCap) w:=by
 have h1:=hy.len w
 have h2:=hy.cells w rfl
 have hdu:=notInt_und hu
 cases base with
 |none=>rcases hdu with ⟨_,hdu⟩|hdu<;>simp [Builtin.append_,run_underlying ht,run_underlying hdu,sizeOf,typeInfo,hi,h1,hroom,h2]
 |some b=>rcases hdu with ⟨_,hdu⟩|hdu<;>simp [Builtin.append_,run_underlying ht,run_underlying hdu,sizeOf,typeInfo,hi,h1,hroom,h2,storeCells]
set_option maxHeartbeats 1000000 in
theorem ap_room (ht:P.underlying t=some (.slice e)) (hi:P.info? e=some i) (hu:notInt P u=true) {b sLen sCap m:Nat} {cur:Array Value} {e' :TypeId} {y:Value} {news:List Value} (hg:w.heap[b]? =some (.cells cur e' (0,0))) (hy:Src P w i.size y m news)
  (hroom:sLen+m≤sCap) (hfit:sLen * i.size+news.length≤cur.size):
  (Builtin.append_ #[t,u] ty #[.slice (some ⟨b,0,none⟩) sLen sCap,y]).run P w= .ok (.slice (some ⟨b,0,none⟩) (sLen+m) sCap) (w.setRow b ⟨cur.toList.take (sLen * i.size)++(news++cur.toList.drop (sLen * i.size+news.length))⟩):=by
 have h1:=hy.len w
 have h2:=hy.cells w rfl
 have hdu:=notInt_und hu
 have hst:=run_storeCells_at P b (sLen * i.size) e' news 0 cur w hg (by simpa using hfit) hy.one
 simp only [Nat.add_zero] at hst
 rcases hdu with ⟨_,hdu⟩|hdu<;>simp [Builtin.append_,run_underlying ht,run_underlying hdu,sizeOf,typeInfo,hi,h1,hroom,h2,add_mk,hst]
set_option maxHeartbeats 1000000 in
theorem ap_grow (ht:P.underlying t=some (.slice e)) (hi:P.info? e=some i) (hz:i.zero=some z) (hu:notInt P u=true) {base:Option Addr} {sLen sCap m:Nat} {y:Value} {olds news:List Value}
  (ho: ∀w1:World,w1.heap=w.heap→(Builtin.firstCells i.size sLen (.slice base sLen sCap)).run P w1= .ok ⟨olds⟩ w1) (hy:Src P w i.size y m news)
  (hg:sCap<sLen+m) (h63:sLen+m≤9223372036854775807) (hfit:(sLen+m) * i.bytes≤140737488355328):
  (Builtin.append_ #[t,u] ty #[.slice base sLen sCap,y]).run P w=
   .ok (.slice (some ⟨w.heap.size,0,none⟩) (sLen+m) (grownCap w (sLen+m) sCap e)) (w.drew.alloc (.cells ⟨(olds++news)++(Builtin.zeroCells z.cells (grownCap w (sLen+m) sCap e-(sLen+m))).toList⟩ e)):=by
 have h1:=hy.len w
 have h2:=hy.cells w.drew rfl
 have h4:=ho w.drew rfl
 have hdu:=notInt_und hu
 have hn: ¬(sLen+m≤sCap):=by omega
 have h63' : ¬(9223372036854775807<((sLen:Int)+(m:Int))):=by omega
 have hfit' :=growslice_fits hg hfit
 have h48' : ¬(281474976710656<Builtin.nextslicecap (sLen+m) sCap * i.bytes):=by omega
 rcases hdu with ⟨_,hdu⟩|hdu<;>(simp [Builtin.append_,run_underlying ht,run_underlying hdu,sizeOf,typeInfo,zeroValue,hi,hz,h1,hn,h63',h48',Question.forced,h2,h4,newRow];refine ⟨rfl, ?_⟩;congr 2;apply Array.ext';simp [grownCap])
end
def bytesA (l:List UInt8):List AV:=l.map fun c=>AV.int .u8 c.toNat
def srcA (P:Program) (n:Nat) (e u:TypeId) (y:AV):Option (List AV):=
 match y with
 | .sl _ m ys=>if notInt P u=true∧m=n then some ys else none
 | .str l=>if notInt P u=true∧n=1 then some (bytesA l) else none
 |_=>none
def baseA (s:ASt) (n:Nat):Operand→AV
 | .tmp t=>s.fr t
 | .const v=>constA1 n v
 |_=> .junk
def apFl (fl:Fl) (ys:List AV):Fl:=
 match fl with
 | .full=>if ys.isEmpty then .full else .own
 |_=> .own
def apOut (s:ASt) (d:Nat) (r:AV):Operand→ASt
 | .tmp t0=>⟨upd (upd s.fr t0 (strip (s.fr t0))) d r,s.hp⟩
 |_=>⟨upd s.fr d r,s.hp⟩
def srcOp (s:ASt) (n:Nat):Operand→AV
 | .const v=>if constOK v then strip (constA n v) else .junk
 |y=>evA s y
def apSt (P:Program) (s:ASt) (d:Nat) (x y:Operand) (t u:TypeId):Option ASt:=
 match rowT P t with
 |some (e,n,by_)=>
  match baseA s n x,srcA P n e u (srcOp s n y) with
  | .sl fl sz xs,some ys=>
   if fl≠ .sh∧sz=n∧0<n∧(xs.length+ys.length) * by_≤140737488355328∧xs.length+ys.length≤9223372036854775807 then
    some (apOut s d (.sl (apFl fl ys) n (xs++ys)) x)
   else none
  |_,_=>none
 |none=>none
section
variable {P:Program} {g:Gh} {w:World} {s:ASt} {a:Act}
theorem flat_bytes (l:List UInt8):flat (bytesA l)=bytesA l:=by
 unfold bytesA
 induction l with
 |nil=>rfl
 |cons n ns ih=>simp [flat_cons,AV.cells,ih]
theorem CL_bytes (l:List UInt8):CL g w (bytesA l) (l.map fun c=>Value.int .u8 c.toNat):=by
 induction l with
 |nil=>exact .nil
 |cons c l ih=>exact .cons _ _ _ _ rfl (.int _ _) ih
theorem srcA_spec {n:Nat} {e u:TypeId} {ya:AV} {yv:Value} {ys:List AV} (hv:VR g w ya yv) (h:srcA P n e u ya=some ys):
  ∃news,notInt P u=true∧Src P w n yv ys.length news∧CL g w (flat ys) news∧ ∀x∈ys,x.cells.length=n:=by
 cases hv<;>simp only [srcA] at h<;>try (cases h;done)
 case str l=>
  split at h
  ·rename_i hc
   obtain ⟨hu,rfl⟩:=hc
   simp at h;subst h
   refine ⟨l.map fun c=>Value.int .u8 c.toNat,hu,⟨fun w1=> ?_,fun w1 _=> ?_, ?_, ?_⟩, ?_, ?_⟩
   ·simp [Builtin.lenOf,bytesA,ByteArray.size]
   ·simp only [Builtin.firstCells,bytesA,List.length_map,Sem.run_pure]
    congr 1
    have:((⟨⟨l⟩⟩:ByteArray).extract 0 l.length)=⟨⟨l⟩⟩:=by
     have:=ByteArray.extract_mk l 0 l.length
     simpa using this
    rw [this]
    simp
   ·simp [Value.oneCell']
   ·simp [bytesA]
   ·rw [flat_bytes];exact CL_bytes l
   ·intro x hx;obtain ⟨c,_,rfl⟩:=List.mem_map.1 hx;rfl
  ·cases h
 case sl0 fl sz=>
  split at h
  ·rename_i hc
   obtain ⟨hu,rfl⟩:=hc
   simp at h;subst h
   refine ⟨[],hu,⟨fun w1=>by simp [Builtin.lenOf],fun w1 _=>by simp [Builtin.firstCells],by simp,by simp⟩, .nil,by simp⟩
  ·cases h
 case sle fl sz a cap h1 h2=>
  split at h
  ·rename_i hc
   obtain ⟨hu,rfl⟩:=hc
   simp at h;subst h
   refine ⟨[],hu,⟨fun w1=>by simp [Builtin.lenOf],fun w1 _=>by simp [Builtin.firstCells,loadCells,loadCellsFrom],by simp,by simp⟩, .nil,by simp⟩
  ·cases h
 case sl fl sz xs b o cap h1 h2 h3 h4 h5=>
  split at h
  ·rename_i hc
   obtain ⟨hu,rfl⟩:=hc
   simp at h;subst h
   obtain ⟨vs,k1,k2⟩:=h5.toCL
   have hl:vs.length=xs.length * sz:=by rw [←k1.length,flat_length h4]
   refine ⟨vs,hu,⟨fun w1=>by simp [Builtin.lenOf],fun w1 hw=> ?_,k1.one,hl⟩,k1,h4⟩
   exact run_firstCells_some w1 sz xs.length ⟨b,o,none⟩ xs.length cap vs hl (fun j v hj=>by
    rw [add_mk]
    have:=k2 j v hj
    rwa [World.cell?_of_block (w:=w) (w' :=w1) (a:=⟨b,o+j,none⟩) (by rw [hw])])
  ·cases h
theorem SR.tr_strip (h:SR s (vfa a) w g) (t:Nat):Tr s (vfa a) w g ⟨upd s.fr t (strip (s.fr t)),s.hp⟩ (vfa a) w g:=
 ⟨(h.stripSlot t).1,Stp.refl _ _ _,fun b ⟨p,hp⟩=> .inl ⟨p,((h.stripSlot t).2 p b hp).1⟩⟩
theorem SR.growRow {s s0:ASt} {vf:Nat→Value} (h0:SR s0 vf w g) (h:SR s vf w g) (hback: ∀p b,Own s vf w g p b→Own s0 vf w g p b) (d:Nat) {b n cap:Nat} {xs ys:List AV} {cur:List Value} {news:List Value} {e:TypeId}
  (hO:OwnB s0 vf w g b) (hno: ∀p, ¬Own s vf w g p b) (hg:w.heap[b]? =some (.cells ⟨cur⟩ e (0,0))) (hsize:cur.length=cap * n) (hG: ∀j,xs.length * n≤j→ ¬g.G b j) (hρ: ∀l,l<g.n→g.ρ l≠b)
  (hx:CR g w b 0 (flat xs)) (hxs: ∀x∈xs,x.cells.length=n) (hys: ∀x∈ys,x.cells.length=n) (hc:CL g w (flat ys) news) (hcap:xs.length+ys.length≤cap) (hmax:cap≤maxLen):
  ∃g',Tr s0 vf w g ⟨upd s.fr d (.sl .own n (xs++ys)),s.hp⟩ (updv vf d (.slice (some ⟨b,0,none⟩) (xs.length+ys.length) cap)) (w.setRow b ⟨cur.take (xs.length * n)++(news++cur.drop (xs.length * n+news.length))⟩) g' :=by
 let w' :=w.setRow b ⟨cur.take (xs.length * n)++(news++cur.drop (xs.length * n+news.length))⟩
 let g' :Gh:=⟨g.n,fun b' o=>g.G b' o∨(b' =b∧xs.length * n≤o∧o<xs.length * n+news.length),g.ρ⟩
 have hnl:news.length=ys.length * n:=by rw [←hc.length,flat_length hys]
 have hle:xs.length * n+news.length≤cur.length:=by rw [hnl,hsize, ←Nat.add_mul];exact Nat.mul_le_mul_right _ hcap
 have hnew:w'.heap[b]? =some (.cells ⟨cur.take (xs.length * n)++(news++cur.drop (xs.length * n+news.length))⟩ e (0,0)):=setRow_heap w _ _ _ e (0,0) hg
 have hold: ∀k,k≠b→w'.heap[k]? =w.heap[k]? :=fun k hk=>setRow_other w _ k _ hk
 have hbl:b<w.heap.size:=(Array.getElem?_eq_some_iff.1 hg).1
 have htl:(cur.take (xs.length * n)).length=xs.length * n:=by simp;omega
 have hcell: ∀b' o,g.G b' o→w'.cell? ⟨b',o,none⟩=w.cell? ⟨b',o,none⟩:=fun b' o hG' =>by
  by_cases e1:b' =b
  ·subst e1
   have ho:o<xs.length * n:=Nat.lt_of_not_le fun hle=>hG o hle hG'
   rw [cell_of_row w' _ o _ e (0,0) hnew,cell_of_row w _ o _ e (0,0) hg]
   simp only [List.getElem?_toArray]
   rw [List.getElem?_append_left (by omega),List.getElem?_take_of_lt ho]
  ·exact World.cell?_of_block (a:=⟨b',o,none⟩) (hold b' e1)
 have ext:Ext g w g' w' :=⟨Nat.le_refl _,fun _ _=>rfl,fun _ _ h=> .inl h,hcell⟩
 have hsr:SR s vf w' g' :=h.frame rfl (fun _ _=>rfl) (fun b o hG=> .inl hG) (fun b' o hG' =>by
   rcases hG' with hG' |⟨rfl,_⟩
   ·exact .inl hG'
   ·exact .inr ⟨by simpa [w'] using hbl,hρ,hno⟩) (by simp [w'])
  hcell (fun l hl=>hold _ (hρ l hl)) (fun p b' hp=>hold b' (fun e=>hno p (e▸hp)))
 have hcr:CR g' w' b 0 (flat (xs++ys)):=by
  rw [flat_append]
  refine (hx.mono ext).join (CR.ofCL (hc.mono ext) (fun j v hj=> ?_) (fun j hj=> ?_))
  ·rw [cell_of_row w' _ _ _ e (0,0) hnew]
   simp only [List.getElem?_toArray]
   have hjl:j<news.length:=(List.getElem?_eq_some_iff.1 hj).1
   rw [flat_length hxs,Nat.zero_add,List.getElem?_append_right (by omega),htl,Nat.add_sub_cancel_left,List.getElem?_append_left hjl]
   exact hj
  ·right
   rw [flat_length hxs,Nat.zero_add]
   have:=hc.length
   exact ⟨rfl,by omega,by omega⟩
 have hlen:(xs++ys).length=xs.length+ys.length:=by simp
 have hvr:VR g' w' (.sl .own n (xs++ys)) (.slice (some ⟨b,0,none⟩) (xs.length+ys.length) cap):=by
  rw [←hlen]
  exact .sl .own n _ b 0 cap (by omega) hmax (fun e=>by cases e) (fun x hx' =>by
   rcases List.mem_append.1 hx' with h|h
   ·exact hxs x h
   ·exact hys x h) hcr
 have htip:Tip g' w' (.sl .own n (xs++ys)) (.slice (some ⟨b,0,none⟩) (xs.length+ys.length) cap):=by
  intro sz' xs' b' o len cap' e1 e2
  simp only [AV.sl.injEq,true_and] at e1
  obtain ⟨rfl,rfl⟩:=e1
  simp only [Value.slice.injEq,Option.some.injEq,Addr.mk.injEq,and_true] at e2
  obtain ⟨⟨rfl,rfl⟩,rfl,rfl⟩:=e2
  refine ⟨rfl,⟨_,e,hnew,by simp;omega⟩,fun j hj hG' => ?_,hρ⟩
  rw [hlen,Nat.add_mul] at hj
  rcases hG' with hG' |⟨_,_,hG'⟩
  ·exact hG j (by omega) hG'
  ·omega
 have hownback: ∀p b',Own s vf w' g' p b' →Own s vf w g p b' :=by
  intro p b' hp
  cases p with
  |slot i=>exact hp
  |cell l j=>
   obtain ⟨hl,cs,av,v,h1,h2,h3,h4⟩:=hp
   have hl' :l<g.n:=h.n▸hl
   rw [show g'.ρ l=g.ρ l from rfl,World.cell?_of_block (w:=w) (w' :=w') (a:=⟨g.ρ l,j,none⟩) (hold _ (hρ l hl'))] at h3
   exact ⟨hl,cs,av,v,h1,h2,h3,h4⟩
 obtain ⟨k1,k2⟩:=hsr.putOwn d hvr htip (fun b' ⟨_,_,_,_,_,_,e2⟩ p _ hp=>by
  simp only [Value.slice.injEq,Option.some.injEq,Addr.mk.injEq,and_true] at e2
  obtain ⟨⟨rfl,_⟩,_⟩:=e2
  exact hno p (hownback p _ hp))
 refine ⟨g',k1, { ext with os:=rfl,tape:=rfl,output:=rfl,size:=by simp,blk:=fun k hk _ hk2=>hold k (fun e=>hk2 (e▸hO)),newG:=fun b' o hG' => ?_,newρ:=fun l h1 h2=>absurd h1 (Nat.not_le.2 h2) },fun b' hb' => .inl ?_⟩
 ·rcases hG' with hG' |⟨rfl,_⟩
  ·exact .inl hG'
  ·exact .inr (.inr hO)
 ·rcases k2 b' hb' with ⟨p,hp⟩|⟨_,_,_,_,_,_,e2⟩
  ·exact ⟨p,hback p b' (hownback p b' hp)⟩
  ·simp only [Value.slice.injEq,Option.some.injEq,Addr.mk.injEq,and_true] at e2
   obtain ⟨⟨rfl,_⟩,_⟩:=e2
   exact hO
end
end Go.Proofs.YtnibelnjflhkgaaGreatDoor.Ab
namespace Go.Proofs.YtnibelnjflhkgaaGreatDoor.Ab
set_option linter.unusedVariables false
set_option linter.unusedSimpArgs false
open Go.RowKit
section
variable {P:Program} {g:Gh} {w:World}
/- What an append gives: the base's value in hand. 's0': the state before; 's': the base's slot has given up what it owned. -/
set_option maxHeartbeats 4000000 in
theorem append_core {s0 s:ASt} {vf:Nat→Value} (h0:SR s0 vf w g) (h:SR s vf w g) (hback: ∀p b,Own s vf w g p b→Own s0 vf w g p b) (hs1:Tr s0 vf w g s vf w g)
  (d:Nat) {fl:Fl} {n:Nat} {xs ys:List AV} {bv yv:Value} {ya:AV} {t u ty e:TypeId} {i:TypeInfo} {z:Value}
  (ht:P.underlying t=some (.slice e)) (hi:P.info? e=some i) (hz:i.zero=some z) (hzs:z.cells.size=n) (hin:i.size=n) (hn:0<n)
  (hb:VR g w (.sl fl n xs) bv) (htip:Tip g w (.sl fl n xs) bv) (hfl:fl≠ .sh) (hO: ∀b,OwnV (.sl fl n xs) bv b→OwnB s0 vf w g b∧ ∀p, ¬Own s vf w g p b)
  (hv:VR g w ya yv) (hsrc:srcA P n e u ya=some ys) (hbytes:(xs.length+ys.length) * i.bytes≤140737488355328) (hlen:xs.length+ys.length≤9223372036854775807):
  ∃rv w' g',(Builtin.append_ #[t,u] ty #[bv,yv]).run P w= .ok rv w' ∧Tr s0 vf w g ⟨upd s.fr d (.sl (apFl fl ys) n (xs++ys)),s.hp⟩ (updv vf d rv) w' g' :=by
 obtain ⟨news,hu,hy,hyc,hys⟩:=srcA_spec hv hsrc
 have hnl:news.length=ys.length * n:=hy.long
 subst hin
 -- a new row
 have grow: ∀(base:Option Addr) (sCap:Nat) (olds:List Value),(∀w1:World,w1.heap=w.heap→(Builtin.firstCells i.size xs.length (.slice base xs.length sCap)).run P w1= .ok ⟨olds⟩ w1)→CL g w (flat xs) olds→(∀x∈xs,x.cells.length=i.size)→sCap<xs.length+ys.length→
   ∃rv w' g',(Builtin.append_ #[t,u] ty #[.slice base xs.length sCap,yv]).run P w= .ok rv w' ∧Tr s0 vf w g ⟨upd s.fr d (.sl .own i.size (xs++ys)),s.hp⟩ (updv vf d rv) w' g' :=by
  intro base sCap olds ho hoc hxs hlt
  have hr:=ap_grow (P:=P) (w:=w) (ty:=ty) ht hi hz hu ho hy hlt hlen hbytes
  have hge:=grownCap_ge w (xs.length+ys.length) sCap e
  have hle:=grownCap_le_maxLen w (xs.length+ys.length) sCap e (by unfold maxLen;omega)
  have hxl:(xs++ys).length=xs.length+ys.length:=by simp
  have hol:olds.length=xs.length * i.size:=by rw [←hoc.length,flat_length hxs]
  obtain ⟨g',htr⟩:=h.pushRow d i.size (grownCap w (xs.length+ys.length) sCap e) (xs++ys) (olds++news) (Builtin.zeroCells z.cells (grownCap w (xs.length+ys.length) sCap e-(xs.length+ys.length))).toList e w.drew rfl rfl rfl rfl
   (fun x hx=>by rcases List.mem_append.1 hx with h|h;exact hxs x h;exact hys x h) (by rw [flat_append];exact hoc.append hyc) (by omega) hle (by
    have hzc:(Builtin.zeroCells z.cells (grownCap w (xs.length+ys.length) sCap e-(xs.length+ys.length))).toList.length=(grownCap w (xs.length+ys.length) sCap e-(xs.length+ys.length)) * z.cells.size:=by rw [Array.length_toList];exact size_zeroCells _ _
    rw [List.length_append,List.length_append,hol,hnl,hzc,hzs, ←Nat.add_mul, ←Nat.add_mul]
    congr 1;omega)
  rw [hxl] at htr
  exact ⟨_,_,g',hr,Tr.trans h0 hs1 htr⟩
 have room0: ∀(base:Option Addr) (sCap:Nat),ys= []→bv= .slice base xs.length sCap→xs.length≤sCap→(Builtin.append_ #[t,u] ty #[bv,yv]).run P w= .ok bv w:=by
  intro base sCap e0 e1 hle
  subst e0 e1
  have:news= []:=List.eq_nil_of_length_eq_zero (by simpa using hnl)
  subst this
  exact ap_room0 (P:=P) ht hi hu hy hle
 cases hb with
 |sl0 _ _=>
  by_cases hm:ys= []
  ·subst hm
   refine ⟨_,w,g,room0 none 0 rfl rfl (Nat.le_refl _),Tr.trans h0 hs1 (h.put d (.sl0 _ _) (fun b ⟨_,_,_,_,_,_,e2⟩=>by cases e2))⟩
  ·have hpos:0<ys.length:=List.length_pos_iff.2 hm
   obtain ⟨rv,w',g',h1,h2⟩:=grow none 0 [] (fun w1 _=>by simp [Builtin.firstCells]) .nil (by simp) (by simp;omega)
   refine ⟨rv,w',g',h1, ?_⟩
   have:ys.isEmpty=false:=by cases ys<;>simp_all
   cases fl<;>simpa [this,apFl] using h2
 |sle _ _ a0 cap k1 k2=>
  have hf:fl= .full∧cap=0:=by
   rcases k2 with k2|k2
   ·exact absurd k2 hfl
   ·exact k2
  obtain ⟨hf1,rfl⟩:=hf
  subst hf1
  by_cases hm:ys= []
  ·subst hm
   refine ⟨_,w,g,room0 (some a0) 0 rfl rfl (Nat.le_refl _),Tr.trans h0 hs1 (h.put d (.sle _ _ _ _ (Nat.zero_le _) (.inr ⟨rfl,rfl⟩)) (fun b ⟨_,_,_,_,_,e1,e2⟩=>by cases e1))⟩
  ·have hpos:0<ys.length:=List.length_pos_iff.2 hm
   obtain ⟨rv,w',g',h1,h2⟩:=grow (some a0) 0 [] (fun w1 _=>by simp [Builtin.firstCells,loadCells,loadCellsFrom]) .nil (by simp) (by simp;omega)
   refine ⟨rv,w',g',h1, ?_⟩
   have:ys.isEmpty=false:=by cases ys<;>simp_all
   simpa [this,apFl] using h2
 |sl _ _ _ b o cap k1 k2 k3 k4 k5=>
  obtain ⟨vs,c1,c2⟩:=k5.toCL
  have hvl:vs.length=xs.length * i.size:=by rw [←c1.length,flat_length k4]
  have ho: ∀w1:World,w1.heap=w.heap→(Builtin.firstCells i.size xs.length (.slice (some ⟨b,o,none⟩) xs.length cap)).run P w1= .ok ⟨vs⟩ w1:=fun w1 hw=>
   run_firstCells_some w1 i.size xs.length ⟨b,o,none⟩ xs.length cap vs hvl (fun j v hj=>by
    rw [add_mk]
    have:=c2 j v hj
    rwa [World.cell?_of_block (w:=w) (w' :=w1) (a:=⟨b,o+j,none⟩) (by rw [hw])])
  by_cases hlt:cap<xs.length+ys.length
  ·obtain ⟨rv,w',g',h1,h2⟩:=grow (some ⟨b,o,none⟩) cap vs ho c1 k4 hlt
   refine ⟨rv,w',g',h1, ?_⟩
   cases fl with
   |sh=>exact absurd rfl hfl
   |own=>exact h2
   |full=>
    have:ys.isEmpty=false:=by
     have:=k3 rfl
     cases ys with
     |nil=>simp at hlt;omega
     |cons=>rfl
    simpa [this,apFl] using h2
  ·cases fl with
   |sh=>exact absurd rfl hfl
   |full=>
    have hc:=k3 rfl
    have hm:ys= []:=List.eq_nil_of_length_eq_zero (by omega)
    subst hm
    refine ⟨_,w,g,room0 (some ⟨b,o,none⟩) cap rfl rfl k1, ?_⟩
    have hput:=h.put d (VR.sl .full i.size xs b o cap k1 k2 k3 k4 k5) (fun b' ⟨_,_,_,_,_,e1,_⟩=>by cases e1)
    simpa [apFl] using Tr.trans h0 hs1 hput
   |own=>
    obtain ⟨rfl,⟨⟨cur⟩,e',t2,t3⟩,t4,t5⟩:=htip i.size xs b o xs.length cap rfl rfl
    simp only [List.size_toArray] at t3
    obtain ⟨q1,q2⟩:=hO b ⟨i.size,xs,0,xs.length,cap,rfl,rfl⟩
    have hfit:xs.length * i.size+news.length≤cur.length:=by rw [hnl,t3, ←Nat.add_mul];exact Nat.mul_le_mul_right _ (by omega)
    have hr:=ap_room (P:=P) (w:=w) (ty:=ty) (b:=b) (sLen:=xs.length) (m:=ys.length) (sCap:=cap) ht hi hu t2 hy (by omega) (by simpa using hfit)
    obtain ⟨g',htr⟩:=h0.growRow h hback d (cur:=cur) (news:=news) (e:=e') q1 q2 t2 t3 t4 t5 k5 k4 hys hyc (by omega) k2
    exact ⟨_,_,g',hr,htr⟩
theorem does_append {o:Oper} {s s' :ASt} {x y:Operand} {t u:TypeId} {d:Nat} (ho:o.op= .call ⟨.builtin .append, #[x,y], #[t,u]⟩) (hd:o.dst=some d) (h:apSt P s d x y t u=some s'):Does P o s s' :=by
 intro a w g hs hlt
 unfold apSt at h
 split at h
 ·rename_i e n by_ hr
  obtain ⟨i,z,r1,r2,r3,r4,r5,r6⟩:=rowT_spec hr
  split at h
  ·rename_i fl sz xs ys hbase hsrc
   split at h
   ·rename_i hc
    obtain ⟨c1,rfl,c3,c4,c5⟩:=hc
    have hyv: ∃ya,VR g w ya (a.eval y)∧srcA P sz e u ya=some ys:=by
     refine ⟨_, ?_,hsrc⟩
     cases y with
     |const v=>
      simp only [srcOp]
      split
      ·rename_i hk;exact (constA_vr' sz hk).strip
      ·exact .junk _
     |tmp t=>simp only [srcOp];exact evA_vr hs _
     |func f=>simp only [srcOp];exact evA_vr hs _
     |global _=>simp only [srcOp];exact evA_vr hs _
    obtain ⟨ya,hyv,hsrc'⟩:=hyv
    have fin: ∀rv w' ,(Builtin.append_ #[t,u] o.type #[a.eval x,a.eval y]).run P w= .ok rv w' →(execOp a.eval o).run P w= .ok (.value rv) w' :=by
     intro rv w' hrun
     simp only [execOp,ho,resolve,invoke,Go.builtin,Sem.run_bind,Sem.run_pure,Result.andThen_ok]
     simp [hrun]
    cases x with
    |tmp t0=>
     simp only [baseA] at hbase
     simp only [Option.some.injEq] at h;subst h
     have hb:VR g w (.sl fl sz xs) (a.eval (.tmp t0)):=by rw [←hbase];exact hs.fr t0
     have ht:Tip g w (.sl fl sz xs) (a.eval (.tmp t0)):=by rw [←hbase];exact hs.tipS t0
     have hO: ∀b,OwnV (.sl fl sz xs) (a.eval (.tmp t0)) b→OwnB s (vfa a) w g b∧ ∀p, ¬Own ⟨upd s.fr t0 (strip (s.fr t0)),s.hp⟩ (vfa a) w g p b:=by
      intro b hob
      have hown:Own s (vfa a) w g (.slot t0) b:=by simp only [Own];rw [hbase];exact hob
      refine ⟨⟨.slot t0,hown⟩,fun p hp=> ?_⟩
      obtain ⟨m1,m2⟩:=(hs.stripSlot t0).2 p b hp
      exact m2 (hs.one p (.slot t0) b m1 hown)
     obtain ⟨rv,w',g',k1,k2⟩:=append_core (ty:=o.type) hs (hs.stripSlot t0).1 (fun p b hp=>((hs.stripSlot t0).2 p b hp).1) (hs.tr_strip t0) d r1 r2 r3 r4 r5 c3 hb ht c1 hO hyv hsrc' (by rw [r6];exact c4) c5
     exact ⟨_,rv,w',g',fin rv w' k1, .inl rfl,by rw [hd,vfa_put (hlt d hd)];exact k2⟩
    |const v=>
     simp only [baseA] at hbase
     simp only [Option.some.injEq] at h;subst h
     have hb:VR g w (.sl fl sz xs) (a.eval (.const v)):=by rw [←hbase];exact constA1_vr sz v
     have hno: ∀b, ¬OwnV (.sl fl sz xs) (a.eval (.const v)) b:=by rw [←hbase];exact constA1_not sz v
     obtain ⟨rv,w',g',k1,k2⟩:=append_core (ty:=o.type) hs hs (fun p b hp=>hp) (Tr.refl hs) d r1 r2 r3 r4 r5 c3 hb (tip_of_not hno) c1 (fun b hob=>absurd hob (hno b)) hyv hsrc' (by rw [r6];exact c4) c5
     exact ⟨_,rv,w',g',fin rv w' k1, .inl rfl,by rw [hd,vfa_put (hlt d hd)];exact k2⟩
    |func f=>simp [baseA] at hbase
    |global _=>simp [baseA] at hbase
   ·cases h
  ·cases h
 ·cases h
end
end Go.Proofs.YtnibelnjflhkgaaGreatDoor.Ab

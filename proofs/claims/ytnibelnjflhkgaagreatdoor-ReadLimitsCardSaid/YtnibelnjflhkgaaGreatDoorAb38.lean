/- Contracts: a result in new memory; slices of any flag where the flag does not matter. No condition. -/
import Derived.Test.YtnibelnjflhkgaaGreatDoorAbE
import Derived.Below
namespace Go.Proofs.YtnibelnjflhkgaaGreatDoor.Ab
set_option linter.unusedVariables false
set_option linter.unusedSimpArgs false
open Go.RowKit
section
variable {P:Program}
theorem fn_fresh {f:FuncId} {args:List AV} {h:Hp} {r:AV} (he:enterOK P f=true) (hr:NotOwn r)
  (H: ∀(vs:List Value) (w:World) (g:Gh),vs.length=args.length→SR ⟨argsF args,h⟩ (argsV vs) w g→Amb g w→Calls P f ⟨vs⟩ w (fun e w' => ∃(v:Value) (G' :Nat→Nat→Prop),e= .returned v∧Below w.heap.size w w' ∧VR ⟨g.n,G',g.ρ⟩ w' r v∧(∀b o,g.G b o→G' b o)∧(∀b o,G' b o→g.G b o∨(w.heap.size≤b∧b<w'.heap.size)))):Fn P f args h r h:=by
 refine ⟨he,fun vs w g hl hs hab=> ?_⟩
 refine (H vs w g hl hs hab).mono ?_
 rintro e w' ⟨v,G',rfl,bel,hv,hG1,hG2⟩
 let g' :Gh:=⟨g.n,G',g.ρ⟩
 have hno: ∀b, ¬OwnV r v b:=fun b=>not_ownV hr
 have hcell: ∀b o,g.G b o→w'.cell? ⟨b,o,none⟩=w.cell? ⟨b,o,none⟩:=fun b o hb=>World.cell?_of_block (a:=⟨b,o,none⟩) (bel.block b (hs.G b o hb).1)
 have ext:Ext g w g' w' :=⟨Nat.le_refl _,fun _ _=>rfl,hG1,hcell⟩
 have hblk: ∀l,l<g.n→w'.heap[g.ρ l]? =w.heap[g.ρ l]? :=fun l hl=>bel.block _ (hs.size_ρ hl)
 have back: ∀p b,Own ⟨argsF [r],h⟩ (argsV [v]) w' g' p b→ ∃l j,p= .cell l j∧Own ⟨argsF args,h⟩ (argsV vs) w g p b:=by
  intro p b ho
  cases p with
  |slot i=>
   cases i with
   |zero=>exact absurd ho (hno b)
   |succ i=>obtain ⟨sz,xs,o,len,cap,e1,e2⟩:=ho;cases e1
  |cell l j=>
   obtain ⟨hl,cs,av,u,h1,h2,h3,h4⟩:=ho
   refine ⟨l,j,rfl,hl,cs,av,u,h1,h2, ?_,h4⟩
   rwa [World.cell?_of_block (a:=⟨g.ρ l,j,none⟩) (hblk l (by rw [hs.n];exact hl))] at h3
 refine ⟨v,g',rfl,⟨hs.n,fun i=> ?_,fun l hl=>BR.mono ext (hblk l hl) (hs.bk l hl),hs.inj,fun b o hG=> ?_,fun i=> ?_,fun l j cs av u hl h1 h2 h3=> ?_,fun p q b hp hq=> ?_⟩,
  {ext with os:=bel.os,tape:=bel.tape,output:=bel.output,size:=bel.size,blk:=fun k hk _ _=>bel.block k hk,newG:=fun b o hG=> ?_,newρ:=fun l h1 h2=>absurd h1 (Nat.not_le.2 h2) },fun b ⟨p,hp⟩=> ?_⟩
 ·cases i with
  |zero=>exact hv
  |succ i=>exact VR.junk _
 ·rcases hG2 b o hG with k|⟨k1,k2⟩
  ·exact ⟨Nat.lt_of_lt_of_le (hs.G b o k).1 bel.size,(hs.G b o k).2⟩
  ·exact ⟨k2,fun l hl e=>by have:=hs.size_ρ hl;have e' :g.ρ l=b:=e;omega⟩
 ·cases i with
  |zero=>exact fun sz xs b o len cap e1 e2=>absurd ⟨sz,xs,o,len,cap,e1,e2⟩ (hno b)
  |succ i=>exact fun sz xs b o len cap e1 e2=>by cases e1
 ·have h3' :w.cell? ⟨g.ρ l,j,none⟩=some u:=by rwa [World.cell?_of_block (a:=⟨g.ρ l,j,none⟩) (hblk l hl)] at h3
  intro sz xs b o len cap e1 e2
  obtain ⟨t1,⟨cur,et,t2,t3⟩,t4,t5⟩:=hs.tipC l j cs av u hl h1 h2 h3' sz xs b o len cap e1 e2
  have hb:b<w.heap.size:=(Array.getElem?_eq_some_iff.1 t2).1
  refine ⟨t1,⟨cur,et,(bel.block b hb).trans t2,t3⟩,fun q hq hG=> ?_,t5⟩
  rcases hG2 b q hG with k|⟨k1,_⟩
  ·exact t4 q hq k
  ·omega
 ·obtain ⟨l,j,rfl,k1⟩:=back p b hp
  obtain ⟨l',j',rfl,k2⟩:=back q b hq
  exact hs.one _ _ b k1 k2
 ·rcases hG2 b o hG with k|⟨k1,k2⟩
  ·exact .inl k
  ·exact .inr (.inl k1)
 ·obtain ⟨l,j,rfl,k1⟩:=back p b hp
  exact .inl ⟨_,k1⟩
mutual
def fk:AV→AV
 | .sl _ sz xs=> .sl .sh sz (fkL xs)
 | .agg cs=> .agg (fkL cs)
 | .tup cs=> .tup (fkL cs)
 | .eptr cs=> .eptr (fkL cs)
 |a=>a
def fkL:List AV→List AV
 | []=> []
 |a::as=>fk a::fkL as
end
theorem fkL_map: ∀l,fkL l=l.map fk
 | []=>by rw [fkL];rfl
 |a::l=>by rw [fkL,fkL_map l];rfl
theorem fk_cells (a:AV):(fk a).cells=a.cells.map fk:=by cases a<;>simp [fk,AV.cells,fkL_map]
theorem fk_flat (xs:List AV):flat (xs.map fk)=(flat xs).map fk:=by
 unfold flat
 induction xs with
 |nil=>rfl
 |cons x xs ih=>simp only [List.map_cons,List.flatMap_cons,List.map_append];rw [ih,fk_cells]
theorem fk_vr {g:Gh} {w:World} {a:AV} {v:Value} (h:VR g w a v):VR g w (fk a) v:=by
 refine VR.rec (motive_1:=fun a v _=>VR g w (fk a) v) (motive_2:=fun b o cs _=>CR g w b o (cs.map fk)) (motive_3:=fun cs vs _=>CL g w (cs.map fk) vs) (motive_4:=fun cs vs _=>VL g w (cs.map fk) vs)
   ?_ ?_ ?_ ?_ ?_ ?_ ?_ ?_ ?_ ?_ ?_ ?_ ?_ ?_ ?_ ?_ ?_ ?_ ?_ ?_ ?_ ?_ ?_ ?_ h
 all_goals first
  |exact fun v=> .junk v
  |exact fun b=> .bool b
  |exact fun k n=> .int k n
  |exact fun l=> .str l
  |exact fun fl sz=> .sl0 .sh sz
  |exact fun fl sz a cap h1 h2=> .sle .sh sz a cap h1 (.inl rfl)
  |exact fun fl sz xs b o cap h1 h2 h3 h4 _ h=>by
    have:=VR.sl (g:=g) (w:=w) .sh sz (xs.map fk) b o cap (by simpa using h1) h2 (fun e=>by cases e) (fun x hx=>by obtain ⟨y,hy,rfl⟩:=List.mem_map.1 hx;rw [fk_cells];simpa using h4 y hy) (by rw [fk_flat];exact h)
    rw [List.length_map] at this
    simpa only [fk,fkL_map] using this
  |exact fun cs vs _ h=>by simpa only [fk,fkL_map] using VR.agg (g:=g) (w:=w) _ vs h
  |exact fun cs vs _ h=>by simpa only [fk,fkL_map] using VR.tup (g:=g) (w:=w) _ vs h
  |exact .pnil
  |exact fun l o h=> .ptr l o h
  |exact fun cs b o _ h=>by simpa only [fk,fkL_map] using VR.eptr (g:=g) (w:=w) _ b o h
  |exact fun l o len sz cap h h1 h2=> .hs l o len sz cap h h1 h2
  |exact fun l h=> .mp l h
  |exact .mnil
  |exact fun f xs ys us vs k k' _ _=> .func f xs ys us vs k k'
  |exact .fnil
  |exact fun v=> .val v
  |exact fun b o=> .nil b o
  |exact fun b o av cs v hG hc h1 _ _ h t=> .cons b o _ _ v hG hc h1 h t
  |exact .nil
  |exact fun av cs v vs h1 _ _ h t=> .cons _ _ v vs h1 h t
  |exact fun av cs v vs _ _ h t=> .cons _ _ v vs h t
theorem fk_notOwn (a:AV):NotOwn (fk a):=by
 intro sz xs e
 cases a<;>simp [fk] at e
theorem fn_fk {f:FuncId} {args:List AV} {h h' :Hp} {r:AV} (H:Fn P f (args.map fk) h r h'):Fn P f args h r h' :=by
 refine ⟨H.1,fun vs w g hl hs hab=> ?_⟩
 have hget: ∀i,argsF (args.map fk) i=fk (argsF args i):=fun i=>by
  unfold argsF
  rw [List.getD_eq_getElem?_getD,List.getD_eq_getElem?_getD,List.getElem?_map]
  cases args[i]? <;>rfl
 have K:=SR.args (fA:=argsF (args.map fk)) (vA:=argsV vs) (j0:=0) (os:=none) hs (fun i=>by rw [hget];exact fk_vr (hs.fr i)) (fun i b ho=>by
  rw [hget] at ho;exact absurd ho (not_ownV (fk_notOwn _)))
 have sub: ∀b,OwnB ⟨argsF (args.map fk),h⟩ (argsV vs) w g b→OwnB ⟨argsF args,h⟩ (argsV vs) w g b:=fun b ⟨p,hp⟩=>by
  obtain ⟨q,hq,_⟩:=K.2 p b hp
  exact ⟨q,hq⟩
 refine (H.2 vs w g (by simpa using hl) K.1 hab).mono ?_
 rintro e w' ⟨v,g',he,tr⟩
 exact ⟨v,g',he,tr.sr, { tr.st with os:=tr.st.os,tape:=tr.st.tape,output:=tr.st.output,size:=tr.st.size,blk:=fun k h1 h2 h3=>tr.st.blk k h1 h2 (fun hb=>h3 (sub k hb)),newG:=fun b o hG=>(tr.st.newG b o hG).imp id (fun k=>k.imp id (sub b)),newρ:=tr.st.newρ },fun b hb=>(tr.ow b hb).imp (sub b) id⟩
theorem pfn_fk {f:FuncId} {args:List AV} {r:AV} (H:PFn P f (args.map fk) r):PFn P f args r:=fun h=>fn_fk (H h)
end
end Go.Proofs.YtnibelnjflhkgaaGreatDoor.Ab

/- Ranging over a map of constants, in whatever order: what lies beside the state stays; the loop. No condition. Ranging over a map of constants: the loop, whatever the order. No condition. What is in memory is no longer than memory may be: a contract may lean on that. No condition. Contracts: an argument's cells, of whatever flag. No condition. -/
import Derived.Test.YtnibelnjflhkgaaGreatDoorAb38
import Derived.Maps.RangeRun
namespace Go.Proofs.YtnibelnjflhkgaaGreatDoor.Ab
set_option linter.unusedVariables false
set_option linter.unusedSimpArgs false
open Go.RowKit
section
variable {s s' :ASt} {vf vf' :Nat→Value} {w w' :World} {g g' :Gh}
theorem SR.below (h:SR s vf w g) (bel:Below w.heap.size w w'):Tr s vf w g s vf w' g:=by
 have hcell: ∀b o,g.G b o→w'.cell? ⟨b,o,none⟩=w.cell? ⟨b,o,none⟩:=fun b o hb=>World.cell?_of_block (a:=⟨b,o,none⟩) (bel.block b (h.G b o hb).1)
 have ext:Ext g w g w' :=⟨Nat.le_refl _,fun _ _=>rfl,fun _ _ h=>h,hcell⟩
 have hblk: ∀l,l<g.n→w'.heap[g.ρ l]? =w.heap[g.ρ l]? :=fun l hl=>bel.block _ (h.size_ρ hl)
 have back: ∀p b,Own s vf w' g p b→Own s vf w g p b:=by
  intro p b ho
  cases p with
  |slot i=>exact ho
  |cell l j=>
   obtain ⟨hl,cs,av,u,h1,h2,h3,h4⟩:=ho
   refine ⟨hl,cs,av,u,h1,h2, ?_,h4⟩
   rwa [World.cell?_of_block (a:=⟨g.ρ l,j,none⟩) (hblk l (by rw [h.n];exact hl))] at h3
 have tip: ∀a u,Tip g w a u→Tip g w' a u:=by
  intro a u ht sz xs b o len cap e1 e2
  obtain ⟨t1,⟨cur,et,t2,t3⟩,t4,t5⟩:=ht sz xs b o len cap e1 e2
  exact ⟨t1,⟨cur,et,(bel.block b (Array.getElem?_eq_some_iff.1 t2).1).trans t2,t3⟩,t4,t5⟩
 refine ⟨⟨h.n,fun i=>(h.fr i).mono ext,fun l hl=>BR.mono ext (hblk l hl) (h.bk l hl),h.inj,fun b o hG=>⟨Nat.lt_of_lt_of_le (h.G b o hG).1 bel.size,(h.G b o hG).2⟩,fun i=>tip _ _ (h.tipS i),fun l j cs av u hl h1 h2 h3=> ?_,fun p q b hp hq=>h.one p q b (back p b hp) (back q b hq)⟩,
  {ext with os:=bel.os,tape:=bel.tape,output:=bel.output,size:=bel.size,blk:=fun k hk _ _=>bel.block k hk,newG:=fun b o hG=> .inl hG,newρ:=fun l h1 h2=>absurd h1 (Nat.not_le.2 h2) },fun b ⟨p,hp⟩=> .inl ⟨p,back p b hp⟩⟩
 rw [World.cell?_of_block (a:=⟨g.ρ l,j,none⟩) (hblk l hl)] at h3
 exact tip _ _ (h.tipC l j cs av u hl h1 h2 h3)
structure Hid (s:ASt) (vf:Nat→Value) (w:World) (g:Gh) (b:Nat):Prop where
 lt:b<w.heap.size
 lab: ∀l,l<g.n→g.ρ l≠b
 fix: ∀o, ¬g.G b o
 own: ¬OwnB s vf w g b
theorem Hid.step {b:Nat} (h:Hid s vf w g b) (t:Tr s vf w g s' vf' w' g'):Hid s' vf' w' g' b∧w'.heap[b]? =w.heap[b]? :=by
 refine ⟨⟨Nat.lt_of_lt_of_le h.lt t.st.size,fun l hl e=> ?_,fun o hG=> ?_,fun ho=> ?_⟩,t.st.blk b h.lt h.lab h.own⟩
 ·by_cases hl' :l<g.n
  ·rw [t.st.ρ l hl'] at e;exact h.lab l hl' e
  ·have:=t.st.newρ l (by omega) hl
   have:=h.lt
   omega
 ·rcases t.st.newG b o hG with k|k|k
  ·exact h.fix o k
  ·have:=h.lt;omega
  ·exact h.own k
 ·rcases t.ow b ho with k|k
  ·exact h.own k
  ·have:=h.lt;omega
theorem SR.setHid (h:SR s vf w g) {b:Nat} (hb:Hid s vf w g b) (hh: ∀k,k≠b→w'.heap[k]? =w.heap[k]?) (hsz:w'.heap.size=w.heap.size):SR s vf w' g∧(∀p c,Own s vf w' g p c→Own s vf w g p c)∧Hid s vf w' g b:=by
 have hcell: ∀c o,g.G c o→w'.cell? ⟨c,o,none⟩=w.cell? ⟨c,o,none⟩:=fun c o hc=>World.cell?_of_block (a:=⟨c,o,none⟩) (hh c (fun e=>hb.fix o (e▸hc)))
 have ext:Ext g w g w' :=⟨Nat.le_refl _,fun _ _=>rfl,fun _ _ h=>h,hcell⟩
 have hblk: ∀l,l<g.n→w'.heap[g.ρ l]? =w.heap[g.ρ l]? :=fun l hl=>hh _ (hb.lab l hl)
 have back: ∀p c,Own s vf w' g p c→Own s vf w g p c:=by
  intro p c ho
  cases p with
  |slot i=>exact ho
  |cell l j=>
   obtain ⟨hl,cs,av,u,h1,h2,h3,h4⟩:=ho
   refine ⟨hl,cs,av,u,h1,h2, ?_,h4⟩
   rwa [World.cell?_of_block (a:=⟨g.ρ l,j,none⟩) (hblk l (by rw [h.n];exact hl))] at h3
 have tip: ∀a u,(∀c,OwnV a u c→c≠b)→Tip g w a u→Tip g w' a u:=by
  intro a u hne ht sz xs c o len cap e1 e2
  obtain ⟨t1,⟨cur,et,t2,t3⟩,t4,t5⟩:=ht sz xs c o len cap e1 e2
  exact ⟨t1,⟨cur,et,(hh c (hne c ⟨sz,xs,o,len,cap,e1,e2⟩)).trans t2,t3⟩,t4,t5⟩
 refine ⟨⟨h.n,fun i=>(h.fr i).mono ext,fun l hl=>BR.mono ext (hblk l hl) (h.bk l hl),h.inj,fun c o hG=>⟨hsz▸(h.G c o hG).1,(h.G c o hG).2⟩,fun i=>tip _ _ (fun c hc e=>hb.own ⟨.slot i,e▸hc⟩) (h.tipS i),fun l j cs av u hl h1 h2 h3=> ?_,fun p q c hp hq=>h.one p q c (back p c hp) (back q c hq)⟩,back,⟨hsz▸hb.lt,hb.lab,hb.fix,fun ⟨p,hp⟩=>hb.own ⟨p,back p b hp⟩⟩⟩
 rw [World.cell?_of_block (a:=⟨g.ρ l,j,none⟩) (hblk l hl)] at h3
 exact tip _ _ (fun c hc e=>hb.own ⟨.cell l j,by rw [←h.n];exact hl,cs,av,u,h1,h2,h3,e▸hc⟩) (h.tipC l j cs av u hl h1 h2 h3)
theorem Tr.setHid {s0 vf0 w0 g0} (t:Tr s0 vf0 w0 g0 s vf w g) (h0:SR s0 vf0 w0 g0) {b:Nat} (hb:Hid s vf w g b) (hlo:w0.heap.size≤b) (hh: ∀k,k≠b→w'.heap[k]? =w.heap[k]?) (hsz:w'.heap.size=w.heap.size) (h1:w'.os=w.os) (h2:w'.tape=w.tape) (h3:w'.output=w.output):Tr s0 vf0 w0 g0 s vf w' g:=by
 obtain ⟨k1,k2,_⟩:=t.sr.setHid hb hh hsz
 refine ⟨k1, { n:=t.st.n,ρ:=t.st.ρ,G:=t.st.G,cell:=fun c o hc=> ?_,os:=h1.trans t.st.os,tape:=h2.trans t.st.tape,output:=h3.trans t.st.output,size:=hsz▸t.st.size,blk:=fun k hk hl ho=> ?_,newG:=t.st.newG,newρ:=t.st.newρ },fun c ⟨p,hp⟩=>t.ow c ⟨p,k2 p c hp⟩⟩
 ·have:=(h0.G c o hc).1
  rw [World.cell?_of_block (a:=⟨c,o,none⟩) (hh c (by omega))]
  exact t.st.cell c o hc
 ·rw [hh k (by omega)]
  exact t.st.blk k hk hl ho
theorem Tr.hidden (h:SR s vf w g) (o:Obj):Tr s vf w g s vf (w.alloc o) g∧Hid s vf (w.alloc o) g w.heap.size:=by
 have t:=h.below ((Below.refl w.heap.size w).alloc (Nat.le_refl _) o)
 refine ⟨t,⟨by simp,fun l hl e=> ?_,fun q hG=> ?_,fun ho=> ?_⟩⟩
 ·have:=h.size_ρ hl;omega
 ·have:=(h.G _ q hG).1;omega
 ·obtain ⟨p,hp⟩:=ho
  have: ∃q,Own s vf w g q w.heap.size:=by
   cases p with
   |slot i=>exact ⟨.slot i,hp⟩
   |cell l j=>
    obtain ⟨hl,cs,av,u,h1,h2,h3,h4⟩:=hp
    rw [World.cell?_of_block (a:=⟨g.ρ l,j,none⟩) (heap_alloc_old w o (h.size_ρ (by rw [h.n];exact hl)))] at h3
    exact ⟨.cell l j,hl,cs,av,u,h1,h2,h3,h4⟩
  obtain ⟨q,hq⟩:=this
  have:=(h.own_lt hq).1
  omega
def isC:AV→Bool| .int _ _=>true| .str _=>true| .bool _=>true|_=>false
theorem isC_vr {a:AV} {v:Value} (hc:isC a=true) (h:VR g w a v):VR g' w' a v:=by
 cases a<;>simp [isC] at hc<;>cases h<;>first|exact .int _ _|exact .str _|exact .bool _
theorem SR.unlabel {w1:World} {g1:Gh} {r5 r6:Nat} {es:List (AV×AV)} (h0:SR s vf' w g) (h1:SR ⟨upd (upd s.fr r5 (.mp s.hp.n)) r6 (.mp s.hp.n),s.hp.push (.map es)⟩ vf w1 g1):
  SR ⟨upd (upd s.fr r5 .junk) r6 .junk,s.hp⟩ vf w1 { g1 with n:=s.hp.n } ∧(∀p c,Own ⟨upd (upd s.fr r5 .junk) r6 .junk,s.hp⟩ vf w1 { g1 with n:=s.hp.n } p c→Own ⟨upd (upd s.fr r5 (.mp s.hp.n)) r6 (.mp s.hp.n),s.hp.push (.map es)⟩ vf w1 g1 p c)∧
   Hid ⟨upd (upd s.fr r5 .junk) r6 .junk,s.hp⟩ vf w1 { g1 with n:=s.hp.n } (g1.ρ s.hp.n):=by
 have hn:g1.n=s.hp.n+1:=h1.n
 have hg:g.n=s.hp.n:=h0.n
 have lab: ∀i,labOK s.hp.n (s.fr i)=true:=fun i=>hg▸(lab_all trivial).1 (h0.fr i)
 have bkne: ∀l,l<s.hp.n→(s.hp.push (.map es)).bk l=s.hp.bk l:=fun l hl=>by simp only [Hp.push];exact updB_ne _ _ (by omega)
 have back: ∀p c,Own ⟨upd (upd s.fr r5 .junk) r6 .junk,s.hp⟩ vf w1 { g1 with n:=s.hp.n } p c→Own ⟨upd (upd s.fr r5 (.mp s.hp.n)) r6 (.mp s.hp.n),s.hp.push (.map es)⟩ vf w1 g1 p c:=by
  intro p c ho
  cases p with
  |slot i=>
   simp only [Own,upd] at ho ⊢
   by_cases e6:i=r6
   ·rw [if_pos e6] at ho;obtain ⟨_,_,_,_,_,e,_⟩:=ho;cases e
   ·by_cases e5:i=r5
    ·rw [if_neg e6,if_pos e5] at ho;obtain ⟨_,_,_,_,_,e,_⟩:=ho;cases e
    ·rw [if_neg e6,if_neg e5] at ho ⊢;exact ho
  |cell l j=>
   obtain ⟨hl,cs,av,u,k1,k2,k3,k4⟩:=ho
   simp only at hl k1
   exact ⟨by simp only [Hp.push];omega,cs,av,u,by rw [bkne l hl];exact k1,k2,k3,k4⟩
 have tip: ∀a u,Tip g1 w1 a u→Tip { g1 with n:=s.hp.n } w1 a u:=fun a u ht sz xs b o len cap e1 e2=>by
  obtain ⟨t1,t2,t4,t5⟩:=ht sz xs b o len cap e1 e2
  exact ⟨t1,t2,t4,fun l hl=>t5 l (by simp only at hl;omega)⟩
 refine ⟨⟨rfl,fun i=> ?_,fun l hl=> ?_,fun l l' hl hl' =>h1.inj l l' (by simp only at hl;omega) (by simp only at hl';omega),fun b o hG=>⟨(h1.G b o hG).1,fun l hl=>(h1.G b o hG).2 l (by simp only at hl;omega)⟩,fun i=> ?_,fun l j cs av u hl k1 k2 k3=> ?_,fun p q c hp hq=>h1.one p q c (back p c hp) (back q c hq)⟩,back,
  ⟨h1.size_ρ (by omega),fun l hl e=> ?_,fun o hG=>(h1.G _ o hG).2 s.hp.n (by omega) rfl,fun ⟨p,hp⟩=>(h1.own_lt (back p _ hp)).2 s.hp.n (by omega) rfl⟩⟩
 ·have hf:=h1.fr i
  simp only [upd] at hf ⊢
  by_cases e6:i=r6
  ·rw [if_pos e6];exact .junk _
  ·by_cases e5:i=r5
   ·rw [if_neg e6,if_pos e5];exact .junk _
   ·rw [if_neg e6,if_neg e5] at hf ⊢;exact (drop_all _).1 hf (lab i)
 ·simp only at hl
  have hb:=h1.bk l (by omega)
  simp only [bkne l hl] at hb
  have hb0:=h0.bk l (by omega)
  simp only
  cases hbk:s.hp.bk l with
  |cells cs=>
   rw [hbk] at hb hb0
   obtain ⟨vs,us,e,fr,k1,k2,k3⟩:=hb
   obtain ⟨_,_,_,_,_,j2,_⟩:=hb0
   exact ⟨vs,us,e,fr,k1,(drop_all _).2 k2 (hg▸(lab_all trivial).2.2 j2),k3⟩
  |map ms=>
   rw [hbk] at hb hb0
   obtain ⟨l0,clock,k1,k2,k3,k4⟩:=hb
   obtain ⟨l1,ck1,q1,j2,q2,q3⟩:=hb0
   refine ⟨l0,clock,k1, ?_,k3,k4⟩
   clear k1 k3 k4 hbk q1 q2 q3
   induction k2 generalizing l1 with
   |nil=>exact .nil
   |cons k v es e l hk hv _ ih=>
    cases j2 with
    |cons _ _ _ e' l' hk' hv' t' =>exact .cons _ _ _ _ _ ((drop_all _).1 hk (hg▸(lab_all trivial).1 hk')) ((drop_all _).1 hv (hg▸(lab_all trivial).1 hv')) (ih _ t')
 ·have hf:=h1.tipS i
  simp only [upd] at hf ⊢
  by_cases e6:i=r6
  ·rw [if_pos e6];exact fun sz xs b o len cap e1=>by cases e1
  ·by_cases e5:i=r5
   ·rw [if_neg e6,if_pos e5];exact fun sz xs b o len cap e1=>by cases e1
   ·rw [if_neg e6,if_neg e5] at hf ⊢;exact tip _ _ hf
 ·simp only at hl k1
  exact tip _ _ (h1.tipC l j cs av u (by omega) (by simp only [bkne l hl];exact k1) k2 k3)
 ·simp only at hl
  have:=h1.inj l s.hp.n (by omega) (by omega) e
  omega
end
end Go.Proofs.YtnibelnjflhkgaaGreatDoor.Ab
namespace Go.Proofs.YtnibelnjflhkgaaGreatDoor.Ab
set_option linter.unusedVariables false
set_option linter.unusedSimpArgs false
open Go.RowKit Go.ChangeMaps
def WP (P:Program) (nt:Nat) (c:Code) (Q:AX→ASt→Prop) (s:ASt):Prop:= ∀s0 vf0 w0 g0 a w,Inv nt s0 vf0 w0 g0 s a w→c.wp P (liftQ nt s0 vf0 w0 g0 Q) a w
section
variable {P:Program} {ow:FuncId→Option Nat} {nt:Nat}
theorem WP_of (hm:P.follows .mixedOrders=true) {c:Code} {cc:CC} {Q:AX→ASt→Prop} {s:ASt} (hc:comp P ow nt c=cc) (h:CRun P cc Q s):WP P nt c Q s:=
 fun s0 vf0 w0 g0 a w hi=>code_sound hm c Q s a w (crun_sound c Q Q s (fun _ _ h=>h) (hc▸h)) hi
theorem WP_seq {x y:Code} {Q:AX→ASt→Prop} {s:ASt} (h:WP P nt x (seqK (fun s' =>WP P nt y Q s') Q) s):WP P nt (.seq x y) Q s:=fun s0 vf0 w0 g0 a w hi=>
 wp_seq (wp_mono (h s0 vf0 w0 g0 a w hi) fun e a w hq=>by
  cases e<;>simp only [liftQ,Exit.then] at hq ⊢
  case normal=>obtain ⟨s',hq,hi'⟩:=hq;exact hq s0 vf0 w0 g0 a w hi'
  case exit id=>exact hq
  case ret=>exact hq)
def conv (o:Oper):Oper:=match o.op with| .insert t m k v=> { o with op:= .mapUpdate t m k v } |_=>o
theorem conv_guard (o:Oper):(conv o).guard=o.guard∧(conv o).dst=o.dst:=by
 unfold conv;split<;>exact ⟨rfl,rfl⟩
theorem conv_wp {o:Oper} {a:Act} {w:World} {K:Act→World→Prop} {Q:Exit→Act→World→Prop} (h:(conv o).wp P a w K Q):o.wp P a w K Q:=by
 unfold conv at h
 split at h
 ·rename_i t m k v ho
  unfold Oper.wp at h ⊢
  have e:execOp a.eval o=execOp a.eval { o with op:= .mapUpdate t m k v } :=by simp only [execOp,ho]
  rw [e]
  obtain ⟨dst,op,ty,pos,aft,gd⟩:=o
  generalize (execOp a.eval _).run P w=r at h ⊢
  exact h
 ·exact h
theorem ops_sound_app {ops:Array Oper} {tk:Nat→Bool} {s0 vf0 w0 g0} {K:ASt→Prop} {Q:Exit→Act→World→Prop} {rest:List Oper} (hQ: ∀s a w,K s→Inv nt s0 vf0 w0 g0 s a w→wpList P ops Q rest a w): ∀(l:List Oper) (s:ASt) (a:Act) (w:World),
  AOps P ow nt ops tk K (l.map conv) s→Inv nt s0 vf0 w0 g0 s a w→wpList P ops Q (l++rest) a w
 | [],s,a,w,h,hi=>hQ s a w h hi
 |o::os,s,a,w,h,hi=>by
  obtain ⟨hd,h⟩:=h
  obtain ⟨cg,cd⟩:=conv_guard o
  have hdl: ∀d,o.dst=some d→d<a.tmps.size:=fun d e=>by simp only [dstOK,cd,e] at hd;rw [hi.size];simpa using hd
  rw [List.cons_append]
  unfold wpList
  rw [cg] at h
  split at h
  ·rename_i hg
   rw [if_pos (by simp [Region.wanted,hg])]
   exact .inl (conv_wp (op1_sound hd h hi fun s' v w' hk hi' =>cd▸ops_sound_app hQ os s' _ w' hk (cd▸hi')))
  ·rename_i j want hg
   split at h
   ·rename_i d hj
    split at h
    ·rename_i q hb
     obtain ⟨g,tr⟩:=hi.tr
     rw [wanted_guard tr.sr hg hj hb]
     by_cases hbw:q=some want
     ·rw [if_pos (by simpa using hbw)]
      exact .inl (conv_wp (op1_sound hd (h.1 hbw) hi fun s' v w' hk hi' =>cd▸ops_sound_app hQ os s' _ w' hk (cd▸hi')))
     ·rw [if_neg (by simpa using hbw)]
      exact ops_sound_app hQ os _ _ w (h.2 hbw) (by rw [cd];exact inv_junk hi o.dst hdl)
    ·exact h.elim
   ·exact h.elim
structure Loc (nt:Nat) (s0:ASt) (vf0:Nat→Value) (w0:World) (g0:Gh) (l:List MapEntry) (ib bm clock:Nat) (it:Obj) (t:ASt) (a:Act) (w:World) (g:Gh):Prop where
 size:a.tmps.size=nt
 defers:a.defers= []
 tr:Tr s0 vf0 w0 g0 t (vfa a) w g
 h1:Hid t (vfa a) w g ib
 h2:Hid t (vfa a) w g bm
 i1:w.heap[ib]? =some it
 i2:w.heap[bm]? =some (.map ⟨l⟩ clock)
section
variable {s0:ASt} {vf0:Nat→Value} {w0:World} {g0:Gh} {l:List MapEntry} {ib bm clock:Nat} {it:Obj} {t t' :ASt} {a a' :Act} {w w' :World} {g:Gh}
theorem Loc.inv (L:Loc nt s0 vf0 w0 g0 l ib bm clock it t a w g) (amb:Amb g0 w0):Inv nt t (vfa a) w g t a w:=⟨L.size,L.defers,L.tr.sr,amb.ext L.tr.st.toExt,g,Tr.refl L.tr.sr⟩
theorem Loc.out (L:Loc nt s0 vf0 w0 g0 l ib bm clock it t a w g) (base:SR s0 vf0 w0 g0) (amb:Amb g0 w0):Inv nt s0 vf0 w0 g0 t a w:=⟨L.size,L.defers,base,amb,g,L.tr⟩
theorem Loc.step (L:Loc nt s0 vf0 w0 g0 l ib bm clock it t a w g) (base:SR s0 vf0 w0 g0) (hi:Inv nt t (vfa a) w g t' a' w'): ∃g',Loc nt s0 vf0 w0 g0 l ib bm clock it t' a' w' g' :=by
 obtain ⟨g',tr⟩:=hi.tr
 obtain ⟨k1,e1⟩:=L.h1.step tr
 obtain ⟨k2,e2⟩:=L.h2.step tr
 exact ⟨g',hi.size,hi.defers,Tr.trans base L.tr tr,k1,k2,e1.trans L.i1,e2.trans L.i2⟩
theorem Loc.put (L:Loc nt s0 vf0 w0 g0 l ib bm clock it t a w g) (base:SR s0 vf0 w0 g0) (amb:Amb g0 w0) {d:Nat} (hd:d<nt) {av:AV} {v:Value} (hv:VR g w av v) (hn:NotOwn av): ∃g',Loc nt s0 vf0 w0 g0 l ib bm clock it (t.put (some d) av) (a.put (some d) v) w g' :=by
 refine L.step base ⟨(put_size a (some d) v).1.trans L.size,(put_size a (some d) v).2.trans L.defers,L.tr.sr,amb.ext L.tr.st.toExt,g, ?_⟩
 rw [vfa_put (by rw [L.size];exact hd)]
 exact L.tr.sr.put d hv (fun b=>not_ownV hn)
end
theorem upon_val {o:Oper} {a:Act} {w w' :World} {v:Value} {K:Act→World→Prop} {Q:Exit→Act→World→Prop} (h:(execOp a.eval o).run P w= .ok (.value v) w') (hk:K (a.put o.dst v) w'):o.wp P a w K Q:=by
 unfold Oper.wp;rw [h];exact hk
theorem eval_val {s:ASt} {a:Act} {w:World} {g:Gh} {r:Nat} {v:Value} (hs:SR s (vfa a) w g) (h:s.fr r= .val v):a.eval (.tmp r)=v:=by
 have:=hs.fr r
 rw [h] at this
 have e:a.eval (.tmp r)=vfa a r:=rfl
 rw [e]
 generalize vfa a r=u at this
 cases this;rfl
theorem rng_loop (hm:P.follows .mixedOrders=true) {s0:ASt} {vf0:Nat→Value} {w0:World} {g0:Gh} (base:SR s0 vf0 w0 g0) (amb:Amb g0 w0) {es:List (AV×AV)} {l:List MapEntry} {ib bm since clock:Nat}
  (hne:ib≠bm) (hlo:w0.heap.size≤ib) (hborn: ∀e∈l,e.born<since) (hnd:(l.map MapEntry.born).Nodup) (hsc:since≤clock) (hlen:es.length=l.length)
  (hes: ∀(j:Nat) e,l[j]? =some e→ ∃k v,es[j]? =some (k,v)∧(∀g w,VR g w k e.key)∧(∀g w,VR g w v e.val))
  {i2 i3 b0 b1 d8 d9 d10 r7:Nat} {R2 R3:Array Oper} {oN oE:Oper} {rest2 rest3:List Oper} {l2 l3:List (Option (Nat×Bool)×CI)} {tk2 tk3:Nat→Bool} {B:Code} {ccB:CC} {Q:AX→ASt→Prop}
  (hR2:R2.toList=oN::rest2) (hN:oN.op= .next (.tmp r7) false) (hNd:oN.dst=some d8) (hNg:oN.guard=none) (hd8:d8<nt) (hl2:compOps P ow nt R2 tk2 rest2=some l2)
  (hR3:R3.toList=oE::rest3) (hE:oE.op= .entry (.tmp r7)) (hEd:oE.dst=some d10) (hEg:oE.guard=none) (hd10:d10<nt) (hl3:compOps P ow nt R3 tk3 rest3=some l3)
  (hB:comp P ow nt B=ccB) (I:List Nat→ASt→Prop) (hI: ∀S t,I S t→t.fr r7= .val (.pointer (some ⟨ib,0,none⟩)))
  (hend: ∀S t,(∀j,j<es.length→j∈S)→I S t→COps P (fun t1=>t1.fr d9= .bool false∧Q .normal t1) l2 (t.put (some d8) (.tup [.bool false])))
  (hstep: ∀S t j k v,j∉S→es[j]? =some (k,v)→I S t→COps P (fun t1=>t1.fr d9= .bool true∧t1.fr r7= .val (.pointer (some ⟨ib,0,none⟩))∧COps P (fun t2=>CRun P ccB (fun x t' =>match x with
    | .normal=>I (j::S) t' | .ret=>Q .ret t' | .exit i=>if i=b1 then I (j::S) t' else if i=b0 then Q .normal t' else Q (.exit i) t') t2) l3 (t1.put (some d10) (.tup [k,v]))) l2 (t.put (some d8) (.tup [.bool true,k,v])))
  {t:ASt} {a:Act} {w:World} {g:Gh} {c0:Nat} (hc0:since≤c0) (L:Loc nt s0 vf0 w0 g0 l ib bm clock (.mapIter (some bm) since #[] c0) t a w g) (h0:I [] t):
  (Code.block b0 (.loop (.seq (.region i2 R2 false) (.seq (.cond (.tmp d9) .skip (.exit b0)) (.block b1 (.seq (.region i3 R3 false) B)))))).wp P (liftQ nt s0 vf0 w0 g0 Q) a w:=by
 refine wp_block (wp_loop_idx (fun n a w=> ∃S t g seen c0,n=(leftOf ⟨l⟩ seen).size∧since≤c0∧I S t∧(∀(j:Nat) e,l[j]? =some e→(j∈S↔e.born∈seen.toList))∧Loc nt s0 vf0 w0 g0 l ib bm clock (.mapIter (some bm) since seen c0) t a w g)
  ⟨[],t,g, #[],c0,rfl,hc0,h0,fun j e _=>by simp,L⟩ ?_)
 clear h0 L hc0
 rintro n a w ⟨S,t,g,seen,c0,rfl,hc0,hS,hseen,L⟩
 have hev:a.eval (.tmp r7)= .pointer (some ⟨ib,0,none⟩):=eval_val L.tr.sr (hI S t hS)
 refine wp_seq (wp_region_list ?_)
 rw [hR2]
 unfold wpList
 rw [if_pos (by simp [Region.wanted,hNg])]
 refine .inl ?_
 rcases run_next_at (P:=P) w oN.type ib bm since c0 seen ⟨l⟩ clock L.i1 L.i2 (by simpa using hborn) hc0 with ⟨hz,hrun⟩|⟨e,he,w1,hw1,hrun⟩
 ·have hall: ∀j,j<es.length→j∈S:=fun j hj=>by
   have hj' :j<l.length:=by omega
   refine (hseen j l[j] (List.getElem?_eq_getElem hj')).2 ?_
   have h0:leftOf ⟨l⟩ seen= #[]:=Array.eq_empty_of_size_eq_zero hz
   unfold leftOf at h0
   rw [Array.filter_eq_empty_iff] at h0
   have:=h0 l[j] (by simp)
   simpa using this
  refine upon_val (v:= .tuple #[.bool false]) (w' :=w) (by simp only [execOp,hN,hev,Sem.run_bind,hrun,Result.andThen_ok,Sem.run_pure]) ?_
  rw [hNd]
  obtain ⟨g8,L8⟩:=L.put base amb hd8 (av:= .tup [.bool false]) (v:= .tuple #[.bool false]) (.tup _ _ (.cons _ _ _ _ (.bool _) .nil)) (fun _ _ e=>by cases e)
  refine ops_sound (ow:=ow) (tk:=tk2) (K:=fun t1=>t1.fr d9= .bool false∧Q .normal t1) (fun t1 a1 w1 hk hi=> ?_) rest2 _ _ _ (cops_sound (fun _ h=>h) rest2 l2 _ hl2 (hend S t hall hS)) (L8.inv amb)
  obtain ⟨hk1,hk2⟩:=hk
  obtain ⟨g1,L1⟩:=L8.step base hi
  have hc:a1.eval (.tmp d9)= .bool false:=by
   have:=L1.tr.sr.fr d9
   rw [hk1] at this
   have e:a1.eval (.tmp d9)=vfa a1 d9:=rfl
   rw [e];generalize vfa a1 d9=u at this;cases this;rfl
  refine wp_seq (wp_cond_split hc (fun e=>by cases e) fun _=>wp_exit ?_)
  simp only [Exit.then,Exit.inBlock,if_true]
  exact ⟨t1,hk2,L1.out base amb⟩
 ·have hmem:e∈l∧e.born∉seen.toList:=by unfold leftOf at he;simpa using he
  obtain ⟨j,hj,hje⟩:=List.getElem_of_mem hmem.1
  have hje' :l[j]? =some e:=by rw [List.getElem?_eq_getElem hj,hje]
  have hjS:j∉S:=fun h=>hmem.2 ((hseen j e hje').1 h)
  obtain ⟨k,v,hkv,vk,vv⟩:=hes j e hje'
  have hh1:w1.heap=w.heap:=by rcases hw1 with rfl|rfl<;>rfl
  have hseen' : ∀(j' :Nat) e',l[j']? =some e' →(j' ∈j::S↔e'.born∈(seen.push e.born).toList):=fun j' e' he' =>by
   have hb:e'.born=e.born↔j' =j:=by
    constructor
    ·intro hb
     have h1:j' <l.length:=(List.getElem?_eq_some_iff.1 he').1
     have h2:l[j']=e' :=(List.getElem?_eq_some_iff.1 he').2
     have hp:=List.pairwise_iff_getElem.1 hnd
     rcases Nat.lt_trichotomy j' j with q|q|q
     ·have:=hp j' j (by simpa using h1) (by simpa using hj) q
      simp only [List.getElem_map,h2,hje] at this
      exact absurd hb this
     ·exact q
     ·have:=hp j j' (by simpa using hj) (by simpa using h1) q
      simp only [List.getElem_map,h2,hje] at this
      exact absurd hb.symm this
    ·intro hb;subst hb;rw [hje'] at he';cases he';rfl
   simp only [List.mem_cons,Array.toList_push,List.mem_append,List.mem_singleton,List.not_mem_nil,or_false]
   rw [hseen j' e' he',hb]
   exact Or.comm
  have hlt:(leftOf ⟨l⟩ (seen.push e.born)).size<(leftOf ⟨l⟩ seen).size:=by
   unfold leftOf
   have:=filter_lt (fun x:MapEntry=> !seen.contains x.born) (fun x:MapEntry=> !(seen.push e.born).contains x.born) (fun x hx=>by simp at hx ⊢;exact hx.1) e (by simpa using hmem.2) (by simp) l hmem.1
   simpa using this
  have hhk: ∀k,k≠ib→(setBlock w1 ib (.mapIter (some bm) since (seen.push e.born) clock)).heap[k]? =w.heap[k]? :=fun k hk=>by
   simp only [setBlock,hh1]
   exact Array.getElem?_setIfInBounds_ne (Ne.symm hk)
  have hsz:(setBlock w1 ib (.mapIter (some bm) since (seen.push e.born) clock)).heap.size=w.heap.size:=by simp [setBlock,hh1]
  obtain ⟨k1,k2,k3⟩:=L.tr.sr.setHid L.h1 hhk hsz
  have k4:Hid t (vfa a) (setBlock w1 ib (.mapIter (some bm) since (seen.push e.born) clock)) g bm:=⟨hsz▸L.h2.lt,L.h2.lab,L.h2.fix,fun ⟨p,hp⟩=>L.h2.own ⟨p,k2 p _ hp⟩⟩
  have hT:=L.tr.setHid base L.h1 hlo hhk hsz (by rcases hw1 with rfl|rfl<;>rfl) (by rcases hw1 with rfl|rfl<;>rfl) (by rcases hw1 with rfl|rfl<;>rfl)
  have L' :Loc nt s0 vf0 w0 g0 l ib bm clock (.mapIter (some bm) since (seen.push e.born) clock) t a (setBlock w1 ib (.mapIter (some bm) since (seen.push e.born) clock)) g:=
   ⟨L.size,L.defers,hT,k3,k4,by simp only [setBlock,hh1];rw [Array.getElem?_setIfInBounds_self,if_pos L.h1.lt],(hhk bm (Ne.symm hne)).trans L.i2⟩
  generalize setBlock w1 ib (.mapIter (some bm) since (seen.push e.born) clock)=w2 at *
  refine upon_val (P:=P) (o:=oN) (a:=a) (w:=w) (v:= .tuple #[.bool true,e.key,e.val]) (w' :=w2) (by simp only [execOp,hN,hev,Sem.run_bind,hrun,Result.andThen_ok,Sem.run_pure]) ?_
  rw [hNd]
  obtain ⟨g8,L8⟩:=L'.put base amb hd8 (av:= .tup [.bool true,k,v]) (v:= .tuple #[.bool true,e.key,e.val]) (.tup _ _ (.cons _ _ _ _ (.bool _) (.cons _ _ _ _ (vk _ _) (.cons _ _ _ _ (vv _ _) .nil)))) (fun _ _ e=>by cases e)
  refine ops_sound (ow:=ow) (tk:=tk2) (fun t1 a1 w1 hk hi=> ?_) rest2 _ _ _ (cops_sound (fun _ h=>h) rest2 l2 _ hl2 (hstep S t j k v hjS hkv hS)) (L8.inv amb)
  obtain ⟨hk1,hk2,hk3⟩:=hk
  obtain ⟨g1,L1⟩:=L8.step base hi
  have hc:a1.eval (.tmp d9)= .bool true:=by
   have:=L1.tr.sr.fr d9
   rw [hk1] at this
   have e:a1.eval (.tmp d9)=vfa a1 d9:=rfl
   rw [e];generalize vfa a1 d9=u at this;cases this;rfl
  refine wp_seq (wp_cond_split hc (fun _=>wp_skip ?_) fun e=>by cases e)
  simp only [Exit.then]
  refine wp_block (wp_seq (wp_region_list ?_))
  rw [hR3]
  unfold wpList
  rw [if_pos (by simp [Region.wanted,hEg])]
  refine .inl ?_
  have hev1:a1.eval (.tmp r7)= .pointer (some ⟨ib,0,none⟩):=eval_val L1.tr.sr hk2
  have hrunE:=run_entry_at (P:=P) w1 ib bm since seen ⟨l⟩ clock e L1.i1 L1.i2 (by simpa using hmem.1) (by simpa using hnd)
  refine upon_val (v:= .tuple #[e.key,e.val]) (w' :=w1) (by simp only [execOp,hE,hev1,Sem.run_bind,hrunE,Result.andThen_ok,Sem.run_pure]) ?_
  rw [hEd]
  obtain ⟨g10,L10⟩:=L1.put base amb hd10 (av:= .tup [k,v]) (v:= .tuple #[e.key,e.val]) (.tup _ _ (.cons _ _ _ _ (vk _ _) (.cons _ _ _ _ (vv _ _) .nil))) (fun _ _ e=>by cases e)
  refine ops_sound (ow:=ow) (tk:=tk3) (fun t2 a2 w2 hk hi2=> ?_) rest3 _ _ _ (cops_sound (fun _ h=>h) rest3 l3 _ hl3 hk3) (L10.inv amb)
  obtain ⟨g2,L2⟩:=L10.step base hi2
  refine wp_mono (code_sound hm B _ t2 a2 w2 (crun_sound B _ _ t2 (fun _ _ h=>h) (hB▸hk)) (L2.inv amb)) fun x a3 w3 hq=> ?_
  cases x<;>simp only [liftQ,Exit.then,Exit.inBlock] at hq ⊢
  case normal=>
   obtain ⟨t3,hq,hi3⟩:=hq
   obtain ⟨g3,L3⟩:=L2.step base hi3
   exact ⟨_,hlt,_,t3,g3,_,_,rfl,hsc,hq,hseen',L3⟩
  case ret=>
   obtain ⟨t3,hq,hi3⟩:=hq
   obtain ⟨g3,L3⟩:=L2.step base hi3
   exact ⟨t3,hq,L3.out base amb⟩
  case exit i=>
   obtain ⟨t3,hq,hi3⟩:=hq
   obtain ⟨g3,L3⟩:=L2.step base hi3
   by_cases e1:i=b1
   ·rw [if_pos e1] at hq ⊢
    exact ⟨_,hlt,_,t3,g3,_,_,rfl,hsc,hq,hseen',L3⟩
   ·rw [if_neg e1] at hq ⊢
    by_cases e0:i=b0
    ·rw [if_pos e0] at hq ⊢;exact ⟨t3,hq,L3.out base amb⟩
    ·rw [if_neg e0] at hq ⊢;exact ⟨t3,hq,L3.out base amb⟩
theorem ML.facts {g:Gh} {w:World} : ∀ {es:List (AV×AV)} {l:List MapEntry},ML g w es l→(es.all fun p=>isC p.1&&isC p.2)=true→es.length=l.length∧ ∀(j:Nat) e,l[j]? =some e→ ∃k v,es[j]? =some (k,v)∧(∀g w,VR g w k e.key)∧(∀g w,VR g w v e.val)
 |_,_, .nil,_=>⟨rfl,fun j e h=>by simp at h⟩
 |_,_, .cons k v es e l hk hv t,hc=>by
  simp only [List.all_cons,Bool.and_eq_true] at hc
  obtain ⟨h1,h2⟩:=ML.facts t hc.2
  refine ⟨by simp [h1],fun j e' h=> ?_⟩
  cases j with
  |zero=>simp at h;subst h;exact ⟨k,v,rfl,fun _ _=>isC_vr hc.1.1 hk,fun _ _=>isC_vr hc.1.2 hv⟩
  |succ j=>simp at h;simpa using h2 j e' h
def litOK (st:Option IntKind):List (AV×AV)→List (AV×AV)→Bool
 | [],_=>true
 |(k,v)::r,acc=>isKeyA st k&&(decide (acc.length<1000000000)&&((match mfind k acc 0 with|some none=>true|_=>false)&&litOK st r (acc++ [(k,v)])))
theorem lit_aux {st:Option IntKind} {r5 r6:Nat} {hp0:Hp} {fr0:Nat→AV} (h5:fr0 r5= .mp hp0.n): ∀(es acc:List (AV×AV)),litOK st es acc=true→
  COps P (fun s1=>s1=⟨upd fr0 r6 (.mp hp0.n),hp0.push (.map (acc++es))⟩) (es.map (fun p=>((none:Option (Nat×Bool)),CI.x none (.mup st) [.t r5, .k p.1, .k p.2]))++ [(none, .cp r6 r5)]) ⟨fr0,hp0.push (.map acc)⟩
 | [],acc,_=>by
  simp only [List.map_nil,List.nil_append,List.append_nil,COps,CI1,stepC,h5,strip]
 |(k,v)::r,acc,h=>by
  simp only [litOK,Bool.and_eq_true,decide_eq_true_eq] at h
  obtain ⟨h1,h2,h3,h4⟩:=h
  have hf:mfind k acc 0=some none:=by
   split at h3
   ·assumption
   ·cases h3
  have hb:(hp0.push (.map acc)).bk hp0.n= .map acc:=by simp [Hp.push]
  have hs:(hp0.push (.map acc)).set hp0.n (.map (acc++ [(k,v)]))=hp0.push (.map (acc++ [(k,v)])):=by simp only [Hp.set,Hp.push,updB_upd]
  have hx:evX (.mup st) (hp0.push (.map acc)) [.mp hp0.n,k,v]=some (.junk,hp0.push (.map (acc++ [(k,v)]))):=by
   simp only [evX,hb]
   rw [if_pos (by simp [h1,h2]),hf]
   simp only [hs]
  have ih:=lit_aux (st:=st) (r5:=r5) (r6:=r6) h5 r (acc++ [(k,v)]) h4
  rw [List.append_assoc] at ih
  rw [List.map_cons,List.cons_append,ops_cons]
  simp only [CI1,stepC,List.map_cons,List.map_nil,evC,h5,show strip (AV.mp hp0.n)=AV.mp hp0.n from rfl,hx]
  exact ih
theorem lit_pre {st:Option IntKind} {r5 r6:Nat} {s:ASt} {es:List (AV×AV)} (h:litOK st es []=true):
  COps P (fun s1=>s1=⟨upd (upd s.fr r5 (.mp s.hp.n)) r6 (.mp s.hp.n),s.hp.push (.map es)⟩) ((none, .x (some r5) .mkm [])::(es.map (fun p=>((none:Option (Nat×Bool)),CI.x none (.mup st) [.t r5, .k p.1, .k p.2]))++ [(none, .cp r6 r5)])) s:=by
 rw [ops_cons]
 simp only [CI1,stepC,List.map_nil,evX]
 exact lit_aux (by simp) es [] h
theorem WP_rng (hm:P.follows .mixedOrders=true) {s:ASt} {es:List (AV×AV)} (hcon:(es.all fun p=>isC p.1&&isC p.2)=true)
  {i1 i2 i3 b0 b1 d8 d9 d10 r5 r6 r7:Nat} {R1 R2 R3:Array Oper} {pre:List Oper} {oR oN oE:Oper} {tm:TypeId} {rest2 rest3:List Oper} {l1 l2 l3:List (Option (Nat×Bool)×CI)} {tk1 tk2 tk3:Nat→Bool} {B:Code} {ccB:CC} {Q:AX→ASt→Prop}
  (hR1:R1.toList=pre++ [oR]) (hR:oR.op= .range tm (.tmp r6)) (hRd:oR.dst=some r7) (hRg:oR.guard=none) (hr7:r7<nt) (htm:(mapT P tm).isSome=true) (hl1:compOps P ow nt R1 tk1 (pre.map conv)=some l1)
  (hpre:COps P (fun s1=>s1=⟨upd (upd s.fr r5 (.mp s.hp.n)) r6 (.mp s.hp.n),s.hp.push (.map es)⟩) l1 s)
  (hR2:R2.toList=oN::rest2) (hN:oN.op= .next (.tmp r7) false) (hNd:oN.dst=some d8) (hNg:oN.guard=none) (hd8:d8<nt) (hl2:compOps P ow nt R2 tk2 rest2=some l2)
  (hR3:R3.toList=oE::rest3) (hE:oE.op= .entry (.tmp r7)) (hEd:oE.dst=some d10) (hEg:oE.guard=none) (hd10:d10<nt) (hl3:compOps P ow nt R3 tk3 rest3=some l3)
  (hB:comp P ow nt B=ccB) (I:Value→List Nat→ASt→Prop) (hI: ∀vit S t,I vit S t→t.fr r7= .val vit)
  (h0: ∀vit,I vit [] ⟨upd (upd (upd s.fr r5 .junk) r6 .junk) r7 (.val vit),s.hp⟩)
  (hend: ∀vit S t,(∀j,j<es.length→j∈S)→I vit S t→COps P (fun t1=>t1.fr d9= .bool false∧Q .normal t1) l2 (t.put (some d8) (.tup [.bool false])))
  (hstep: ∀vit S t j k v,j∉S→es[j]? =some (k,v)→I vit S t→COps P (fun t1=>t1.fr d9= .bool true∧t1.fr r7= .val vit∧COps P (fun t2=>CRun P ccB (fun x t' =>match x with
    | .normal=>I vit (j::S) t' | .ret=>Q .ret t' | .exit i=>if i=b1 then I vit (j::S) t' else if i=b0 then Q .normal t' else Q (.exit i) t') t2) l3 (t1.put (some d10) (.tup [k,v]))) l2 (t.put (some d8) (.tup [.bool true,k,v]))):
  WP P nt (.seq (.region i1 R1 false) (.block b0 (.loop (.seq (.region i2 R2 false) (.seq (.cond (.tmp d9) .skip (.exit b0)) (.block b1 (.seq (.region i3 R3 false) B))))))) Q s:=by
 intro s0 vf0 w0 g0 a w hi
 obtain ⟨g,tr⟩:=hi.tr
 refine wp_seq (wp_region_list ?_)
 rw [hR1]
 refine ops_sound_app (ow:=ow) (tk:=tk1) (fun s1 a1 w1 hk hi1=> ?_) pre s a w (cops_sound (fun _ h=>h) (pre.map conv) l1 s hl1 hpre) hi
 subst hk
 obtain ⟨g1,tr1⟩:=hi1.tr
 obtain ⟨u1,u2,u3⟩:=SR.unlabel tr.sr tr1.sr
 have hgn:g1.n=s.hp.n+1:=tr1.sr.n
 have hb:=tr1.sr.bk s.hp.n (by omega)
 rw [show (s.hp.push (.map es)).bk s.hp.n= .map es by simp [Hp.push]] at hb
 obtain ⟨l,clock,hb1,hb2,hb3,hb4⟩:=hb
 obtain ⟨hlen,hes⟩:=ML.facts hb2 hcon
 have hn0:g0.n≤s.hp.n:=by have:=tr.st.n;have:=tr.sr.n;omega
 have T2:Tr s0 vf0 w0 g0 ⟨upd (upd s.fr r5 .junk) r6 .junk,s.hp⟩ (vfa a1) w1 { g1 with n:=s.hp.n } :=
  ⟨u1, { n:=hn0,ρ:=tr1.st.ρ,G:=tr1.st.G,cell:=tr1.st.cell,os:=tr1.st.os,tape:=tr1.st.tape,output:=tr1.st.output,size:=tr1.st.size,blk:=tr1.st.blk,newG:=tr1.st.newG,newρ:=fun l h1 h2=>tr1.st.newρ l h1 (by simp only at h2;omega) },fun c ⟨p,hp⟩=>tr1.ow c ⟨p,u2 p c hp⟩⟩
 have hev:a1.eval (.tmp r6)= .map (some (g1.ρ s.hp.n)):=by
  have:=tr1.sr.fr r6
  simp only [upd_same] at this
  have e:a1.eval (.tmp r6)=vfa a1 r6:=rfl
  rw [e];generalize vfa a1 r6=u at this;cases this;rfl
 obtain ⟨⟨ke,ve⟩,hke⟩:=Option.isSome_iff_exists.1 htm
 have hrun:=run_range_map (P:=P) w1 tm ke ve (g1.ρ s.hp.n) ⟨l⟩ clock (mapT_und hke) hb1
 unfold wpList
 rw [if_pos (by simp [Region.wanted,hRg])]
 refine .inl ?_
 obtain ⟨v1,v2⟩:=Tr.hidden u1 (.mapIter (some (g1.ρ s.hp.n)) clock #[] clock)
 obtain ⟨v3,v4⟩:=u3.step v1
 have L0:Loc nt s0 vf0 w0 g0 l w1.heap.size (g1.ρ s.hp.n) clock (.mapIter (some (g1.ρ s.hp.n)) clock #[] clock) ⟨upd (upd s.fr r5 .junk) r6 .junk,s.hp⟩ a1 (w1.alloc (.mapIter (some (g1.ρ s.hp.n)) clock #[] clock)) { g1 with n:=s.hp.n } :=
  ⟨hi1.size,hi1.defers,Tr.trans hi.base T2 v1,v2,v3,heap_alloc_new _ _,v4.trans hb1⟩
 refine upon_val (P:=P) (o:=oR) (a:=a1) (w:=w1) (v:= .pointer (some ⟨w1.heap.size,0,none⟩)) (w' :=w1.alloc (.mapIter (some (g1.ρ s.hp.n)) clock #[] clock)) (by simp only [execOp,hR,hev,Sem.run_bind,hrun,Result.andThen_ok,Sem.run_pure]) ?_
 rw [hRd]
 obtain ⟨g3,L3⟩:=L0.put hi.base hi.amb hr7 (av:= .val (.pointer (some ⟨w1.heap.size,0,none⟩))) (.val _) (fun _ _ e=>by cases e)
 exact rng_loop hm hi.base hi.amb (by have:=u3.lt;omega) T2.st.size hb3 hb4 (Nat.le_refl _) hlen hes hR2 hN hNd hNg hd8 hl2 hR3 hE hEd hEg hd10 hl3 hB (I (.pointer (some ⟨w1.heap.size,0,none⟩))) (hI _) (hend _) (hstep _) (Nat.le_refl _) L3 (h0 _)
theorem WP_mono {c:Code} {Q Q' :AX→ASt→Prop} {s:ASt} (hq: ∀e s,Q e s→Q' e s) (h:WP P nt c Q s):WP P nt c Q' s:=fun s0 vf0 w0 g0 a w hi=>
 wp_mono (h s0 vf0 w0 g0 a w hi) fun e a w hh=>by
  cases e<;>simp only [liftQ] at hh ⊢ <;>(obtain ⟨s',h1,h2⟩:=hh;exact ⟨s',hq _ _ h1,h2⟩)
theorem fn_WP {f : FuncId} {fn : Func} {c : Code} {rs : List RC} {args : List AV} {h : Hp} {r : AV} {h' : Hp} (hf : P.funcs[f]? = some fn) (hb : fn.body = some c) (hname : (fn.name == "runtime.NumGoroutine") = false) (hlen : args.length ≤ fn.ntmps)
  (hrs:compR P fn.results.toList=some rs) (hW:WP P fn.ntmps c (endC rs h r h') ⟨argsF args,h⟩):Fn P f args h r h' :=by
 refine fn_introW hf hb hname hlen (WP_mono (fun e s hs=> ?_) hW)
 have key:retC rs h r h' s→(∃a,resA P s fn.results.toList=some a∧Wk a r)∧labOK h'.n r=true∧Shrink h s.hp h' :=fun ⟨⟨a,h1,h2⟩,h3⟩=>⟨⟨a,(resC_eq hrs).trans h1,h2⟩,h3⟩
 cases e with
 |normal=>exact key hs
 |ret=>exact key hs
 |exit i=>exact hs
end
end Go.Proofs.YtnibelnjflhkgaaGreatDoor.Ab
namespace Go.Proofs.YtnibelnjflhkgaaGreatDoor.Ab
set_option linter.unusedVariables false
set_option linter.unusedSimpArgs false
mutual
def bdA:AV→Prop
 | .sl _ _ xs=>xs.length≤9223372036854775807∧bdL xs
 | .agg cs=>bdL cs
 | .tup cs=>bdL cs
 | .eptr cs=>bdL cs
 |_=>True
def bdL:List AV→Prop
 | []=>True
 |a::as=>bdA a∧bdL as
end
theorem bdL_iff: ∀l,bdL l↔ ∀a∈l,bdA a
 | []=>by simp [bdL]
 |a::l=>by simp [bdL,bdL_iff l]
theorem bd_cells {a:AV} (h:bdL a.cells):bdA a:=by
 cases a<;>first|exact h|exact h.1
theorem bd_flat {xs:List AV} (h:bdL (flat xs)):bdL xs:=by
 rw [bdL_iff] at h ⊢
 intro a ha
 refine bd_cells ((bdL_iff _).2 fun c hc=>h c ?_)
 exact List.mem_flatMap.2 ⟨a,ha,hc⟩
theorem bd_vr {g:Gh} {w:World} {a:AV} {v:Value} (h:VR g w a v):bdA a:=by
 refine VR.rec (motive_1:=fun a v _=>bdA a) (motive_2:=fun b o cs _=>bdL cs) (motive_3:=fun cs vs _=>bdL cs) (motive_4:=fun cs vs _=>bdL cs)
   ?_ ?_ ?_ ?_ ?_ ?_ ?_ ?_ ?_ ?_ ?_ ?_ ?_ ?_ ?_ ?_ ?_ ?_ ?_ ?_ ?_ ?_ ?_ ?_ h
 all_goals first
  |exact fun fl sz=>⟨by simp,trivial⟩
  |exact fun fl sz a cap h1 h2=>⟨by simp,trivial⟩
  |exact fun fl sz xs b o cap h1 h2 h3 h4 _ h=>⟨Nat.le_trans h1 h2,bd_flat h⟩
  |exact fun cs vs _ h=>h
  |exact fun cs b o _ h=>h
  |exact fun b o=>trivial
  |exact trivial
  |exact fun b o av cs v hG hc h1 _ _ h t=>⟨h,t⟩
  |exact fun av cs v vs h1 _ _ h t=>⟨h,t⟩
  |exact fun av cs v vs _ _ h t=>⟨h,t⟩
  |exact fun _=>trivial
  |exact fun _ _=>trivial
  |exact fun _ _ _=>trivial
  |exact fun _ _ _ _ _ _ _ _=>trivial
  |exact fun _ _ _ _ _ _ _ _ _=>trivial
theorem fn_bd {P:Program} {f:FuncId} {args:List AV} {h h' :Hp} {r:AV} (he:enterOK P f=true) (H:bdL args→Fn P f args h r h'):Fn P f args h r h' :=by
 refine ⟨he,fun vs w g hl hs hab=>(H ?_).2 vs w g hl hs hab⟩
 refine (bdL_iff _).2 fun a ha=> ?_
 obtain ⟨i,hi,rfl⟩:=List.mem_iff_getElem.1 ha
 have:=bd_vr (hs.fr i)
 simp only [argsF] at this
 rwa [List.getD_eq_getElem?_getD,List.getElem?_eq_getElem hi] at this
theorem pfn_bd {P:Program} {f:FuncId} {args:List AV} {r:AV} (he:enterOK P f=true) (H:bdL args→PFn P f args r):PFn P f args r:=fun h=>fn_bd he fun hb=>H hb h
end Go.Proofs.YtnibelnjflhkgaaGreatDoor.Ab
namespace Go.Proofs.YtnibelnjflhkgaaGreatDoor.Ab
set_option linter.unusedVariables false
set_option linter.unusedSimpArgs false
open Go.RowKit
section
variable {P:Program}
def agS:AV→AV
 | .agg cs=> .agg (cs.map strip)
 |a=>strip a
theorem cl_strip' {g:Gh} {w:World} {cs:List AV} {vs:List Value} (h:CL g w cs vs):CL g w (cs.map strip) vs:=by
 refine CL.rec (motive_1:=fun a v _=>True) (motive_2:=fun b o cs _=>True) (motive_3:=fun cs vs _=>CL g w (cs.map strip) vs) (motive_4:=fun cs vs _=>True)
   ?_ ?_ ?_ ?_ ?_ ?_ ?_ ?_ ?_ ?_ ?_ ?_ ?_ ?_ ?_ ?_ ?_ ?_ ?_ ?_ ?_ ?_ ?_ ?_ h
 all_goals first
  |exact .nil
  |exact fun av cs v vs h1 h0 _ _ t=> .cons _ _ v vs h1 h0.strip t
  |(intros;trivial)
theorem agS_vr {g:Gh} {w:World} {a:AV} {v:Value} (h:VR g w a v):VR g w (agS a) v:=by
 by_cases ha: ∃cs,a= .agg cs
 ·obtain ⟨cs,rfl⟩:=ha
  cases h with
  |agg cs vs h=>exact .agg _ vs (cl_strip' h)
 ·have:agS a=strip a:=by cases a<;>first|rfl|exact absurd ⟨_,rfl⟩ ha
  rw [this];exact h.strip
theorem agS_not (a:AV):NotOwn (agS a):=by
 cases a<;>first|exact strip_notOwn _|exact fun _ _ e=>by cases e
theorem fn_agS {f:FuncId} {args:List AV} {h h' :Hp} {r:AV} (H:Fn P f (args.map agS) h r h'):Fn P f args h r h' :=by
 refine ⟨H.1,fun vs w g hl hs hab=> ?_⟩
 have hget: ∀i,argsF (args.map agS) i=agS (argsF args i):=fun i=>by
  unfold argsF
  rw [List.getD_eq_getElem?_getD,List.getD_eq_getElem?_getD,List.getElem?_map]
  cases args[i]? <;>rfl
 have K:=SR.args (fA:=argsF (args.map agS)) (vA:=argsV vs) (j0:=0) (os:=none) hs (fun i=>by rw [hget];exact agS_vr (hs.fr i)) (fun i b ho=>by
  rw [hget] at ho;exact absurd ho (not_ownV (agS_not _)))
 have sub: ∀b,OwnB ⟨argsF (args.map agS),h⟩ (argsV vs) w g b→OwnB ⟨argsF args,h⟩ (argsV vs) w g b:=fun b ⟨p,hp⟩=>by
  obtain ⟨q,hq,_⟩:=K.2 p b hp
  exact ⟨q,hq⟩
 refine (H.2 vs w g (by simpa using hl) K.1 hab).mono ?_
 rintro e w' ⟨v,g',he,tr⟩
 exact ⟨v,g',he,tr.sr, { tr.st with os:=tr.st.os,tape:=tr.st.tape,output:=tr.st.output,size:=tr.st.size,blk:=fun k h1 h2 h3=>tr.st.blk k h1 h2 (fun hb=>h3 (sub k hb)),newG:=fun b o hG=>(tr.st.newG b o hG).imp id (fun k=>k.imp id (sub b)),newρ:=tr.st.newρ },fun b hb=>(tr.ow b hb).imp (sub b) id⟩
theorem pfn_agS {f:FuncId} {args:List AV} {r:AV} (H:PFn P f (args.map agS) r):PFn P f args r:=fun h=>fn_agS (H h)
end
end Go.Proofs.YtnibelnjflhkgaaGreatDoor.Ab

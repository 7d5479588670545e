/- Maps with keys that are texts or numbers, made rows: as steps of the state. No condition. Maps with keys that are texts or numbers, made rows: the machine does that. No condition. Maps with keys that are texts or numbers, made rows: each as a step of the state. No condition. -/
import Derived.Test.YtnibelnjflhkgaaGreatDoorAbA
import Derived.MapKept
import Derived.Carry
import Derived.Laws.MakeOwn
import Derived.Laws.IdiomStrings
namespace Go.Proofs.YtnibelnjflhkgaaGreatDoor.Ab
set_option linter.unusedVariables false
set_option linter.unusedSimpArgs false
open Go.RowKit Go.MapKept
section
variable {s:ASt} {vf:Nat→Value} {w w' :World} {g g' :Gh}
theorem SR.pushObj (h:SR s vf w g) (d:Nat) (blk:Blk) (o:Obj) (av:AV) (v:Value)
  (hb: ∀g' :Gh,Ext g w g' (w.alloc o)→BR g' (w.alloc o) blk w.heap.size) (hno: ∀cs,blk= .cells cs→ ∀(j:Nat) a u,cs[j]? =some a→(w.alloc o).cell? ⟨w.heap.size,j,none⟩=some u→ ∀b, ¬OwnV a u b)
  (hv: ∀g' :Gh,g'.n=g.n+1→g'.ρ g.n=w.heap.size→VR g' (w.alloc o) av v) (hnv: ∀b, ¬OwnV av v b):
  ∃g',Tr s vf w g ⟨upd s.fr d av,s.hp.push blk⟩ (updv vf d v) (w.alloc o) g' :=by
 let g' :Gh:=⟨g.n+1,g.G,fun l=>if l=g.n then w.heap.size else g.ρ l⟩
 have hρ: ∀l,l<g.n→g'.ρ l=g.ρ l:=fun l hl=>by simp [g',Nat.ne_of_lt hl]
 have hnew:g'.ρ g.n=w.heap.size:=by simp [g']
 have hcell: ∀b j,b<w.heap.size→(w.alloc o).cell? ⟨b,j,none⟩=w.cell? ⟨b,j,none⟩:=fun b j hb=>World.cell?_alloc_lt _ _ _ hb
 have hheap: ∀b,b<w.heap.size→(w.alloc o).heap[b]? =w.heap[b]? :=fun b hb=>_root_.Go.heap_alloc_old w _ hb
 have ext:Ext g w g' (w.alloc o):=⟨by simp [g'],hρ,fun b o h=>h,fun b o hG=>hcell b o (h.G b o hG).1⟩
 have hpos: ∀l,l<g'.n→l≠g.n→l<g.n:=fun l hl hne=>by simp only [g'] at hl;omega
 have back: ∀p b,Own ⟨upd s.fr d av,s.hp.push blk⟩ (updv vf d v) (w.alloc o) g' p b→Own s vf w g p b:=by
  intro p b ho
  cases p with
  |slot i=>
   simp only [Own,upd,updv] at ho ⊢
   by_cases hi:i=d
   ·simp only [hi,if_true] at ho;exact absurd ho (hnv b)
   ·simpa only [hi,if_false] using ho
  |cell l j=>
   obtain ⟨hl,cs',a,u,h1,h2,h3,h4⟩:=ho
   by_cases e1:l=g.n
   ·subst e1
    simp only [Hp.push, ←h.n,updB_same] at h1
    rw [hnew] at h3
    exact absurd h4 (hno cs' h1 j a u h2 h3 b)
   ·have hl' :l<g.n:=by simp only [Hp.push, ←h.n] at hl;omega
    simp only [Hp.push, ←h.n,updB_ne _ _ e1] at h1
    rw [hρ l hl',hcell _ _ (h.size_ρ hl')] at h3
    exact ⟨h.n▸hl',cs',a,u,h1,h2,h3,h4⟩
 have tip: ∀a u,Tip g w a u→Tip g' (w.alloc o) a u:=by
  intro a u ht sz xs b o' len cap e1 e2
  obtain ⟨t1,⟨cur,e,t2,t3⟩,t4,t5⟩:=ht sz xs b o' len cap e1 e2
  have hb:b<w.heap.size:=(Array.getElem?_eq_some_iff.1 t2).1
  refine ⟨t1,⟨cur,e,by rw [hheap b hb];exact t2,t3⟩,t4,fun l hl=> ?_⟩
  by_cases e1:l=g.n
  ·subst e1;rw [hnew];omega
  ·rw [hρ l (hpos l hl e1)];exact t5 l (hpos l hl e1)
 refine ⟨g',⟨⟨by simp [g',Hp.push,h.n],fun i=> ?_,fun l hl=> ?_,fun l l' hl hl' e1=> ?_,fun b o hG=> ?_,fun i=> ?_,fun l j cs' a u hl h1 h2 h3=> ?_,fun p q b hp hq=>h.one p q b (back p b hp) (back q b hq)⟩,
  {ext with os:=rfl,tape:=rfl,output:=rfl,size:=by simp,blk:=fun k hk _ _=>hheap k hk,newG:=fun b o hG=> .inl hG,newρ:=fun l h1 h2=> ?_ },fun b ⟨p,hp⟩=> .inl ⟨p,back p b hp⟩⟩⟩
 ·by_cases hi:i=d
  ·subst hi
   simpa using hv g' rfl hnew
  ·simpa [upd,updv,hi] using (h.fr i).mono ext
 ·by_cases e1:l=g.n
  ·subst e1
   rw [hnew]
   simp only [Hp.push, ←h.n,updB_same]
   exact hb g' ext
  ·have hl' :=hpos l hl e1
   simp only [Hp.push, ←h.n,updB_ne _ _ e1]
   rw [hρ l hl']
   have:=h.bk l hl'
   cases hb:s.hp.bk l with
   |cells cs=>rw [hb] at this;obtain ⟨vs,us,e,fr,k1,k2,k3⟩:=this;exact ⟨vs,us,e,fr,by rw [hheap _ (h.size_ρ hl')];exact k1,k2.mono ext,k3⟩
   |map es=>
    rw [hb] at this
    obtain ⟨l0,clock,k1,k2,k3,k4⟩:=this
    refine ⟨l0,clock,by rw [hheap _ (h.size_ρ hl')];exact k1, ?_,k3,k4⟩
    clear k1 k3 k4 hb
    induction k2 with
    |nil=>exact .nil
    |cons k v es e l hk hv _ ih=>exact .cons _ _ _ _ _ (hk.mono ext) (hv.mono ext) ih
 ·by_cases e2:l=g.n<;>by_cases e3:l' =g.n
  ·rw [e2,e3]
  ·rw [e2,hnew,hρ l' (hpos l' hl' e3)] at e1;have:=h.size_ρ (hpos l' hl' e3);omega
  ·rw [e3,hnew,hρ l (hpos l hl e2)] at e1;have:=h.size_ρ (hpos l hl e2);omega
  ·rw [hρ l (hpos l hl e2),hρ l' (hpos l' hl' e3)] at e1;exact h.inj l l' (hpos l hl e2) (hpos l' hl' e3) e1
 ·obtain ⟨k1,k2⟩:=h.G b o hG
  refine ⟨by simp;omega,fun l hl=> ?_⟩
  by_cases e1:l=g.n
  ·subst e1;rw [hnew];omega
  ·rw [hρ l (hpos l hl e1)];exact k2 l (hpos l hl e1)
 ·by_cases hi:i=d
  ·subst hi;simp only [upd_same,updv_same];exact fun sz xs b o len cap e1 e2=>absurd ⟨sz,xs,o,len,cap,e1,e2⟩ (hnv b)
  ·simpa [upd,updv,hi] using tip _ _ (h.tipS i)
 ·by_cases e1:l=g.n
  ·subst e1
   simp only [Hp.push, ←h.n,updB_same] at h1
   rw [hnew] at h3
   exact fun sz xs b o len cap e1 e2=>absurd ⟨sz,xs,o,len,cap,e1,e2⟩ (hno cs' h1 j a u h2 h3 b)
  ·have hl' :=hpos l hl e1
   simp only [Hp.push, ←h.n,updB_ne _ _ e1] at h1
   rw [hρ l hl',hcell _ _ (h.size_ρ hl')] at h3
   exact tip _ _ (h.tipC l j cs' a u hl' h1 h2 h3)
 ·have:l=g.n:=by simp only [g'] at h2;omega
  subst this;rw [hnew];exact Nat.le_refl _
theorem SR.setMap (h:SR s vf w g) {l:Nat} {es es' :List (AV×AV)} {m m' :List MapEntry} {ck ck' :Nat} (hl:l<g.n) (hb:s.hp.bk l= .map es) (hh:w.heap[g.ρ l]? =some (.map ⟨m⟩ ck))
  (hc:ML g w es' m') (hborn: ∀e∈m',e.born<ck') (hnd:(m'.map MapEntry.born).Nodup):
  Tr s vf w g ⟨s.fr,s.hp.set l (.map es')⟩ vf { w with heap:=w.heap.setIfInBounds (g.ρ l) (.map ⟨m'⟩ ck') } g:=by
 generalize hw:({ w with heap:=w.heap.setIfInBounds (g.ρ l) (.map ⟨m'⟩ ck') } :World)=w1
 have hheap1:w1.heap=w.heap.setIfInBounds (g.ρ l) (.map ⟨m'⟩ ck'):=by rw [←hw]
 have hnew:w1.heap[g.ρ l]? =some (.map ⟨m'⟩ ck'):=by rw [hheap1];exact (heap_set hh).1
 have hold: ∀k,k≠g.ρ l→w1.heap[k]? =w.heap[k]? :=fun k hk=>by rw [hheap1];exact (heap_set hh).2 k hk
 have hcell: ∀b o,g.G b o→w1.cell? ⟨b,o,none⟩=w.cell? ⟨b,o,none⟩:=fun b o hG=>World.cell?_of_block (a:=⟨b,o,none⟩) (hold b (Ne.symm ((h.G b o hG).2 l hl)))
 have ext:Ext g w g w1:=⟨Nat.le_refl _,fun _ _=>rfl,fun _ _ h=>h,hcell⟩
 have hcl: ∀l',l' <g.n→l' ≠l→ ∀j,w1.cell? ⟨g.ρ l',j,none⟩=w.cell? ⟨g.ρ l',j,none⟩:=fun l' hl' hne j=>World.cell?_of_block (a:=⟨g.ρ l',j,none⟩) (hold _ (fun e=>hne (h.inj l' l hl' hl e)))
 have back: ∀p b,Own ⟨s.fr,s.hp.set l (.map es')⟩ vf w1 g p b→Own s vf w g p b:=by
  intro p b ho
  cases p with
  |slot i=>exact ho
  |cell l' j=>
   obtain ⟨hl',cs1,av,v,h1,h2,h3,h4⟩:=ho
   simp only [Hp.set] at hl' h1
   by_cases e1:l' =l
   ·subst e1;simp only [updB_same,reduceCtorEq] at h1
   ·rw [updB_ne _ _ e1] at h1
    rw [hcl l' (h.n▸hl') e1] at h3
    exact ⟨hl',cs1,av,v,h1,h2,h3,h4⟩
 have tip: ∀av v,Tip g w av v→Tip g w1 av v:=by
  intro av v ht sz xs b o len cap e1 e2
  obtain ⟨t1,⟨cur,e,t2,t3⟩,t4,t5⟩:=ht sz xs b o len cap e1 e2
  exact ⟨t1,⟨cur,e,by rw [hold b (Ne.symm (t5 l hl))];exact t2,t3⟩,t4,t5⟩
 have mlm: ∀ {es l},ML g w es l→ML g w1 es l:=by
  intro es l k
  induction k with
  |nil=>exact .nil
  |cons k v es e l hk hv _ ih=>exact .cons _ _ _ _ _ (hk.mono ext) (hv.mono ext) ih
 refine ⟨⟨h.n,fun i=>(h.fr i).mono ext,fun l' hl' => ?_,h.inj,fun b o hG=>⟨?_,(h.G b o hG).2⟩,fun i=>tip _ _ (h.tipS i),fun l' j cs1 av v hl' h1 h2 h3=> ?_,fun p q b hp hq=>h.one p q b (back p b hp) (back q b hq)⟩,
  {ext with os:=by rw [←hw],tape:=by rw [←hw],output:=by rw [←hw],size:=by rw [hheap1];simp,blk:=fun k _ hk _=>hold k (Ne.symm (hk l hl)),newG:=fun b o hG=> .inl hG,newρ:=fun l' h1 h2=>absurd h1 (Nat.not_le.2 h2) },fun b ⟨p,hp⟩=> .inl ⟨p,back p b hp⟩⟩
 ·by_cases e1:l' =l
  ·subst e1
   simp only [Hp.set,updB_same]
   exact ⟨m',ck',hnew,mlm hc,hborn,hnd⟩
  ·simp only [Hp.set,updB_ne _ _ e1]
   have hne:g.ρ l' ≠g.ρ l:=fun e=>e1 (h.inj l' l hl' hl e)
   have:=h.bk l' hl'
   cases hb' :s.hp.bk l' with
   |cells cs=>rw [hb'] at this;obtain ⟨vs,us,e,fr,k1,k2,k3⟩:=this;exact ⟨vs,us,e,fr,by rw [hold _ hne];exact k1,k2.mono ext,k3⟩
   |map es=>
    rw [hb'] at this
    obtain ⟨l0,clock,k1,k2,k3,k4⟩:=this
    exact ⟨l0,clock,by rw [hold _ hne];exact k1,mlm k2,k3,k4⟩
 ·rw [hheap1];simpa using (h.G b o hG).1
 ·simp only [Hp.set] at h1
  by_cases e1:l' =l
  ·subst e1;simp only [updB_same,reduceCtorEq] at h1
  ·rw [updB_ne _ _ e1] at h1
   rw [hcl l' hl' e1] at h3
   exact tip _ _ (h.tipC l' j cs1 av v hl' h1 h2 h3)
end
inductive FK|i (k:IntKind)|s|b
def cellEq:FK→AV→AV→Option Bool
 | .i k, .int k1 a, .int k2 b=>if k1=k∧k2=k then some (a==b) else none
 | .s, .str a, .str b=>some (a==b)
 | .b, .bool a, .bool b=>some (a==b)
 |_,_,_=>none
def cellsEq:List FK→List AV→List AV→Option Bool
 | [], [], []=>some true
 |k::ks,a::xs,b::bs=>match cellEq k a b,cellsEq ks xs bs with
  |some r,some q=>some (r&&q)
  |_,_=>none
 |_,_,_=>none
inductive XK|mkm|mup (st:Option IntKind)|lkp (st:Option IntKind) (z:AV) (ok:Bool)|mks (zs:List AV) (by_:Nat)|cap|eqs (neg:Bool) (ks:List FK)|sb|bs
def keyEq:AV→AV→Option Bool
 | .str a, .str b=>some (a==b)
 | .int k a, .int k' b=>if k=k' then some (a==b) else none
 |_,_=>none
def isKeyA:Option IntKind→AV→Bool
 |none, .str _=>true
 |some k, .int k' _=>k' ==k
 |_,_=>false
def mfind (k:AV):List (AV×AV)→Nat→Option (Option (Nat×AV))
 | [],_=>some none
 |(k',v)::es,i=>match keyEq k k' with
  |some true=>some (some (i,v))
  |some false=>mfind k es (i+1)
  |none=>none
def evX (k:XK) (hp:Hp) (as:List AV):Option (AV×Hp):=
 match k,as with
 | .mkm, []=>some (.mp hp.n,hp.push (.map []))
 | .mup st, [.mp l,k,v]=>match hp.bk l with
  | .map es=>if isKeyA st k&&es.length<1000000000 then (match mfind k es 0 with
   |some none=>some (.junk,hp.set l (.map (es++ [(k,v)])))
   |some (some (i,_))=>some (.junk,hp.set l (.map (es.set i (k,v))))
   |none=>none) else none
  |_=>none
 | .lkp st z ok, [.mp l,k]=>match hp.bk l with
  | .map es=>if isKeyA st k then (match mfind k es 0 with
   |some none=>some (if ok then .tup [z, .bool false] else z,hp)
   |some (some (_,v))=>some (if ok then .tup [strip v, .bool true] else strip v,hp)
   |none=>none) else none
  |_=>none
 | .lkp st z ok, [.mnil,k]=>if isKeyA st k then some (if ok then .tup [z, .bool false] else z,hp) else none
 | .mks zs by_, [.int _ n, .int _ c]=>if n=c∧0≤n∧by_ * n≤281474976710656∧n≤9223372036854775807 then
   some (.hs hp.n 0 n.toNat zs.length,hp.push (.cells (List.replicate n.toNat zs).flatten)) else none
 | .cap, [.sl .full _ xs]=>some (.int .i64 xs.length,hp)
 | .eqs neg ks, [.agg xs, .agg bs]=>match cellsEq ks xs bs with|some r=>some (.bool (if neg then !r else r),hp)|none=>none
 | .sb, [.str l]=>if l.length≤9223372036854775807 then some (.hs hp.n 0 l.length 1,hp.push (.cells (l.map fun b=> .int .u8 b.toNat))) else none
 | .bs, [.sl _ _ xs]=>match bytesOf xs with|some l=>some (.str l,hp)|none=>none
 | .bs, [.hs l o len _]=>match hp.bk l with
  | .cells cs=>if o+len≤cs.length then (match bytesOf ((cs.drop o).take len) with|some l=>some (.str l,hp)|none=>none) else none
  |_=>none
 |_,_=>none
def clsX:XK→Nat
 | .mkm=>2
 | .mup _=>2
 | .lkp _ _ _=>1
 | .mks _ _=>2
 | .cap=>0
 | .eqs _ _=>0
 | .sb=>2
 | .bs=>1
theorem evX_hp {k:XK} {hp h' :Hp} {as:List AV} {r:AV} (hc:clsX k≠2) (h:evX k hp as=some (r,h')):h' =hp:=by
 unfold evX at h
 split at h<;>simp only [clsX,ne_eq,not_true_eq_false] at hc
 ·split at h
  ·split at h
   ·split at h
    ·cases h;rfl
    ·cases h;rfl
    ·cases h
   ·cases h
  ·cases h
 ·split at h
  ·cases h;rfl
  ·cases h
 ·cases h;rfl
 ·split at h
  ·cases h;rfl
  ·cases h
 ·split at h
  ·cases h;rfl
  ·cases h
 ·split at h
  ·split at h
   ·split at h
    ·cases h;rfl
    ·cases h
   ·cases h
  ·cases h
 ·cases h
theorem evX_free {k:XK} {hp h' hp2:Hp} {as:List AV} {r:AV} (hc:clsX k=0) (h:evX k hp as=some (r,h')):evX k hp2 as=some (r,hp2):=by
 cases k<;>simp only [clsX,reduceCtorEq,Nat.reduceEqDiff] at hc
 ·unfold evX at h ⊢
  split at h<;>first|(rename_i e;cases e;done)|skip
  all_goals first|(cases h;done)|skip
  all_goals (simp only [Option.some.injEq,Prod.mk.injEq] at h;obtain ⟨rfl,_⟩:=h;rfl)
 ·rename_i neg ks
  match as,h with
  | [.agg xs, .agg bs],h=>
   simp only [evX] at h ⊢
   split at h
   ·simp only [Option.some.injEq,Prod.mk.injEq] at h;rw [←h.1]
   ·cases h
end Go.Proofs.YtnibelnjflhkgaaGreatDoor.Ab
namespace Go.Proofs.YtnibelnjflhkgaaGreatDoor.Ab
set_option linter.unusedVariables false
set_option linter.unusedSimpArgs false
open Go.RowKit Go.MapKept
def mapT (P:Program) (t:TypeId):Option (TypeId×TypeId):=match P.underlying t with|some (.map k e)=>some (k,e)|_=>none
theorem mapT_und {P:Program} {t k e:TypeId} (h:mapT P t=some (k,e)):P.underlying t=some (.map k e):=by
 unfold mapT at h;split at h
 ·simp at h;obtain ⟨rfl,rfl⟩:=h;assumption
 ·cases h
def keyT (P:Program) (t:TypeId):Option (Option IntKind):=match P.underlying t with|some .string=>some none|some (.int k)=>some (some k)|_=>none
def isD:Option IntKind→TypeDesc→Prop|none, .string=>True|some k, .int k' =>k' =k|_,_=>False
theorem keyT_und {P:Program} {t:TypeId} {st:Option IntKind} (h:keyT P t=some st): ∃d,P.underlying t=some d∧isD st d:=by
 unfold keyT at h;split at h
 ·rename_i e;cases h;exact ⟨_,e,trivial⟩
 ·rename_i k e;cases h;exact ⟨_,e,rfl⟩
 ·cases h
def zero1 (P:Program) (e:TypeId):Option AV:=match (P.info? e).bind (·.zero) with|some (.agg _)=>none|some z=>some (strip (constA1 ((elT P e).getD 0) z))|none=>none
theorem run_zero1 {P:Program} {e:TypeId} {a:AV} {w:World} {g:Gh} (hz:zero1 P e=some a): ∃z,(zeroValue e).run P w= .ok z w∧VR g w a z∧NotOwn a:=by
 unfold zero1 at hz
 split at hz
 ·cases hz
 ·rename_i z hne hq
  simp only [Option.some.injEq] at hz
  subst hz
  cases hi:P.info? e with
  |none=>simp [hi] at hq
  |some i=>
   simp [hi] at hq
   exact ⟨z,by simp [zeroValue,typeInfo,hi,hq,Result.andThen],(constA1_vr _ _).strip,strip_notOwn _⟩
 ·cases hz
def fkT (P:Program) (t:TypeId):Option FK:=match P.underlying t with|some (.int k)=>some (.i k)|some .string=>some .s|some .bool=>some .b|_=>none
def fksOf (P:Program):Nat→List Field→Option (List FK)
 |_, []=>some []
 |n,f::fs=>match fkT P f.type,fksOf P (n+1) fs with
  | some k, some ks => if f.name != "_" && Nat.beq f.offset n then some (k :: ks) else none
  |_,_=>none
def eqKs (P:Program) (t:TypeId):Option (List FK):=
 match P.underlying t with
 |some (.struct fs)=>if P.stoodInHeld t then none else if P.eqGuardType P.depth t then none else fksOf P 0 fs.toList
 |_=>none
def xkOf (P:Program) (op:Op):Option (XK×List Operand):=
 match op with
 | .convert a b x=>if strT P a&&bytT P b then some (.sb, [x]) else if bytT P a&&strT P b then some (.bs, [x]) else none
 | .makeMap t none=>match mapT P t with|some _=>some (.mkm, [])|none=>none
 | .mapUpdate t m k v=>match mapT P t with
  |some (kt,_)=>match keyT P kt with|some st=>some (.mup st, [m,k,v])|none=>none
  |none=>none
 | .lookup t m k ok=>match mapT P t with
  |some (kt,e)=>match keyT P kt,zero1 P e with
   |some st,some a=>some (.lkp st a ok, [m,k])
   |_,_=>none
  |none=>none
 | .makeSlice t l c=>match rowT P t with
  |some (e,n,by_)=>match zeroA P e with|some zs=>if zs.length=n∧0<n then some (.mks zs by_, [l,c]) else none|none=>none
  |none=>none
 | .binOp .eql t x y _=>match eqKs P t with|some ks=>some (.eqs false ks, [x,y])|none=>none
 | .binOp .neq t x y _=>match eqKs P t with|some ks=>some (.eqs true ks, [x,y])|none=>none
 | .call ⟨.builtin .cap,args,ts⟩=>match args.toList,ts.toList with
  | [x], [t]=>match sliceT P t with|some _=>some (.cap, [x])|none=>none
  |_,_=>none
 |_=>none
section
variable {P:Program} {g:Gh} {w:World}
theorem key_val {st:Option IntKind} {k:AV} {v:Value} {d:TypeDesc} (hk:isKeyA st k=true) (hd:isD st d) (h:VR g w k v):IsKey d v:=by
 cases st<;>cases k<;>simp [isKeyA] at hk<;>cases d<;>simp [isD] at hd<;>cases h<;>simp [IsKey]<;>simp_all
theorem keyEq_val {a b:AV} {u v:Value} {r:Bool} {st:Option IntKind} {d:TypeDesc} (hk:isKeyA st a=true) (hd:isD st d) (h:keyEq a b=some r) (ha:VR g w a u) (hb:VR g w b v):Instr.sameNow d u v=some r∧(r=true→v=u):=by
 cases st<;>cases a<;>simp [isKeyA] at hk<;>cases d<;>simp [isD] at hd<;>cases b<;>simp only [keyEq,reduceCtorEq,Option.some.injEq] at h<;>cases ha<;>cases hb
 ·subst h
  rename_i l m
  have:((⟨⟨l⟩⟩:ByteArray)==⟨⟨m⟩⟩)=(l==m):=by
   rw [Bool.eq_iff_iff,bytes_beq]
   simp
  simp [Instr.sameNow,this]
  exact fun e:l=m=>e.symm
 ·split at h
  ·rename_i e
   subst e
   simp only [Option.some.injEq] at h
   subst h
   simp [Instr.sameNow]
   exact fun e=>e.symm
  ·cases h
theorem find_spec {st:Option IntKind} {k:AV} {kv:Value} {d:TypeDesc} (hk:isKeyA st k=true) (hd:isD st d) (hv:VR g w k kv): ∀ {es:List (AV×AV)} {l:List MapEntry} (i:Nat),ML g w es l→
  (mfind k es i=some none→Instr.findNow d kv l i=some none)∧
  (∀j v,mfind k es i=some (some (j,v))→ ∃e,Instr.findNow d kv l i=some (some (j,e.val))∧i≤j∧l[j-i]? =some e∧VR g w v e.val∧e.key=kv∧(es[j-i]?).isSome)
 |_,_,i, .nil=>⟨fun _=>rfl,fun j v h=>by simp [mfind] at h⟩
 |_,_,i, .cons k' v' es e l h1 h2 t=>by
  refine ⟨fun h=> ?_,fun j v h=> ?_⟩
  ·simp only [mfind] at h
   split at h
   ·cases h
   ·rename_i hq
    obtain ⟨q1,_⟩:=keyEq_val hk hd hq hv h1
    simp only [Instr.findNow,q1]
    exact (find_spec hk hd hv (i+1) t).1 h
   ·cases h
  ·simp only [mfind] at h
   split at h
   ·rename_i hq
    obtain ⟨q1,q2⟩:=keyEq_val hk hd hq hv h1
    simp only [Option.some.injEq,Prod.mk.injEq] at h
    obtain ⟨rfl,rfl⟩:=h
    exact ⟨e,by simp only [Instr.findNow,q1],Nat.le_refl _,by simp,h2,q2 rfl,by simp⟩
   ·rename_i hq
    obtain ⟨q1,_⟩:=keyEq_val hk hd hq hv h1
    obtain ⟨e',k1,k2,k3,k4,k5,k6⟩:=(find_spec hk hd hv (i+1) t).2 j v h
    have hj:j-i=(j-(i+1))+1:=by omega
    exact ⟨e',by simp only [Instr.findNow,q1];exact k1,by omega,by rw [hj];simpa using k3,k4,k5,by rw [hj];simpa using k6⟩
   ·cases h
theorem ML.append {es es' l l'} (h:ML g w es l) (k:ML g w es' l'):ML g w (es++es') (l++l'):=by
 induction h with
 |nil=>exact k
 |cons k v es e l hk hv _ ih=>exact .cons _ _ _ _ _ hk hv ih
theorem ML.setAt {es l} (h:ML g w es l): ∀(i:Nat) (k v:AV) (e:MapEntry),VR g w k e.key→VR g w v e.val→i<l.length→ML g w (es.set i (k,v)) (l.set i e):=by
 induction h with
 |nil=>intro i k v e _ _ hi;simp at hi
 |cons k' v' es e' l hk hv t ih=>
  intro i k v e h1 h2 hi
  cases i with
  |zero=>exact .cons _ _ _ _ _ h1 h2 t
  |succ i=>exact .cons _ _ _ _ _ hk hv (ih i k v e h1 h2 (by simpa using hi))
theorem run_mup_new {mty kt et:TypeId} {d:TypeDesc} {r ck:Nat} {m:List MapEntry} {key value:Value} (hm:P.underlying mty=some (.map kt et)) (hd:P.underlying kt=some d) (hb:w.heap[r]? =some (.map ⟨m⟩ ck)) (hk:IsKey d key)
  (hf:Instr.findNow d key m 0=some none):(Instr.mapUpdate mty (.map (some r)) key value).run P w= .ok () { w with heap:=w.heap.setIfInBounds r (.map ⟨m++ [⟨key,value,ck⟩]⟩ (ck+1)) } :=by
 simp [Instr.mapUpdate,run_underlying hm,_root_.Go.MapKept.run_getObj_map hb,run_checkKey hd hk,run_findKey hd hf,run_setObj_map _ hb,Result.andThen]
theorem run_mup_old {mty kt et:TypeId} {d:TypeDesc} {r ck j:Nat} {m:List MapEntry} {key value u:Value} {e:MapEntry} (hm:P.underlying mty=some (.map kt et)) (hd:P.underlying kt=some d) (hb:w.heap[r]? =some (.map ⟨m⟩ ck)) (hk:IsKey d key)
  (hf:Instr.findNow d key m 0=some (some (j,u))) (hj:m[j]? =some e) (he:e.key=key):(Instr.mapUpdate mty (.map (some r)) key value).run P w= .ok () { w with heap:=w.heap.setIfInBounds r (.map ⟨m.set j ⟨key,value,e.born⟩⟩ ck) } :=by
 have hlt:j<m.length:=(List.getElem?_eq_some_iff.1 hj).1
 have h1:(((⟨m⟩:Array MapEntry)[j]?).map (·.key)).getD key=key:=by simp [hj,he]
 have h2:(⟨m⟩:Array MapEntry).modify j (fun e=> { e with key:=key,val:=value })=⟨m.set j ⟨key,value,e.born⟩⟩:=by
  apply Array.ext'
  rw [Array.toList_modify]
  simp only
  apply List.ext_getElem?
  intro i
  rw [List.getElem?_modify,List.getElem?_set]
  by_cases hij:j=i
  ·subst hij
   have:m[j]=e:=by have:=List.getElem?_eq_some_iff.1 hj;exact this.2
   simp [hlt,this]
  ·simp [hij]
 simp [Instr.mapUpdate,run_underlying hm,_root_.Go.MapKept.run_getObj_map hb,run_checkKey hd hk,run_findKey hd hf,Result.andThen]
 simp only [List.getElem?_toArray] at h1
 rw [h1,run_keyThatStays hk]
 simp only [run_setObj_map _ hb]
 have h3:(m.modify j fun e=> { e with key:=key,val:=value }).toArray=(⟨m.set j ⟨key,value,e.born⟩⟩:Array MapEntry):=by
  rw [←h2];apply Array.ext';simp
 rw [h3]
end
end Go.Proofs.YtnibelnjflhkgaaGreatDoor.Ab
namespace Go.Proofs.YtnibelnjflhkgaaGreatDoor.Ab
set_option linter.unusedVariables false
set_option linter.unusedSimpArgs false
open Go.RowKit Go.MapKept
section
variable {P:Program}
theorem xkOf_mkm {op:Op} {xs:List Operand} (h:xkOf P op=some (.mkm,xs)): ∃t,op= .makeMap t none∧xs= []:=by
 unfold xkOf at h
 split at h
 ·split at h
  ·simp at h
  ·split at h<;>simp at h
 ·split at h<;>simp at h;exact ⟨_,rfl,h⟩
 ·split at h
  ·split at h<;>simp at h
  ·cases h
 ·split at h
  ·split at h<;>simp at h
  ·cases h
 ·split at h
  ·split at h
   ·split at h<;>simp at h
   ·cases h
  ·cases h
 ·split at h<;>simp at h
 ·split at h<;>simp at h
 ·split at h
  ·split at h<;>simp at h
  ·cases h
 ·cases h
theorem xkOf_mup {op:Op} {xs:List Operand} {st:Option IntKind} (h:xkOf P op=some (.mup st,xs)): ∃t m k v kt e,op= .mapUpdate t m k v∧xs= [m,k,v]∧mapT P t=some (kt,e)∧keyT P kt=some st:=by
 unfold xkOf at h
 split at h
 ·split at h
  ·simp at h
  ·split at h<;>simp at h
 ·split at h<;>simp at h
 ·split at h
  ·rename_i hm
   split at h<;>simp at h
   rename_i hk
   obtain ⟨rfl,rfl⟩:=h
   exact ⟨_,_,_,_,_,_,rfl,rfl,hm,hk⟩
  ·cases h
 ·split at h
  ·split at h<;>simp at h
  ·cases h
 ·split at h
  ·split at h
   ·split at h<;>simp at h
   ·cases h
  ·cases h
 ·split at h<;>simp at h
 ·split at h<;>simp at h
 ·split at h
  ·split at h<;>simp at h
  ·cases h
 ·cases h
theorem xkOf_lkp {op:Op} {xs:List Operand} {st:Option IntKind} {z:AV} {ok:Bool} (h:xkOf P op=some (.lkp st z ok,xs)): ∃t m k kt e,op= .lookup t m k ok∧xs= [m,k]∧mapT P t=some (kt,e)∧keyT P kt=some st∧zero1 P e=some z:=by
 unfold xkOf at h
 split at h
 ·split at h
  ·simp at h
  ·split at h<;>simp at h
 ·split at h<;>simp at h
 ·split at h
  ·split at h<;>simp at h
  ·cases h
 ·split at h
  ·rename_i hm
   split at h<;>simp at h
   rename_i hk h2
   obtain ⟨⟨rfl,rfl,rfl⟩,rfl⟩:=h
   exact ⟨_,_,_,_,_,rfl,rfl,hm,hk,h2⟩
  ·cases h
 ·split at h
  ·split at h
   ·split at h<;>simp at h
   ·cases h
  ·cases h
 ·split at h<;>simp at h
 ·split at h<;>simp at h
 ·split at h
  ·split at h<;>simp at h
  ·cases h
 ·cases h
theorem xkOf_mks {op:Op} {xs:List Operand} {zs:List AV} {by_:Nat} (h:xkOf P op=some (.mks zs by_,xs)): ∃t l c e n,op= .makeSlice t l c∧xs= [l,c]∧rowT P t=some (e,n,by_)∧zeroA P e=some zs∧zs.length=n∧0<n:=by
 unfold xkOf at h
 split at h
 ·split at h
  ·simp at h
  ·split at h<;>simp at h
 ·split at h<;>simp at h
 ·split at h
  ·split at h<;>simp at h
  ·cases h
 ·split at h
  ·split at h<;>simp at h
  ·cases h
 ·split at h
  ·rename_i hr
   split at h
   ·rename_i hz
    split at h<;>simp at h
    rename_i hc
    obtain ⟨⟨rfl,rfl⟩,rfl⟩:=h
    exact ⟨_,_,_,_,_,rfl,rfl,hr,hz,hc.1,hc.2⟩
   ·cases h
  ·cases h
 ·split at h<;>simp at h
 ·split at h<;>simp at h
 ·split at h
  ·split at h<;>simp at h
  ·cases h
 ·cases h
theorem xkOf_cap {op:Op} {xs:List Operand} (h:xkOf P op=some (.cap,xs)): ∃x t e,op= .call ⟨.builtin .cap, #[x], #[t]⟩∧xs= [x]∧sliceT P t=some e:=by
 unfold xkOf at h
 split at h
 ·split at h
  ·simp at h
  ·split at h<;>simp at h
 ·split at h<;>simp at h
 ·split at h
  ·split at h<;>simp at h
  ·cases h
 ·split at h
  ·split at h<;>simp at h
  ·cases h
 ·split at h
  ·split at h
   ·split at h<;>simp at h
   ·cases h
  ·cases h
 ·split at h<;>simp at h
 ·split at h<;>simp at h
 ·rename_i args ts
  split at h
  ·rename_i x t hx ht
   split at h<;>simp at h
   rename_i hs
   obtain rfl:args= #[x]:=by cases args;simp_all
   obtain rfl:ts= #[t]:=by cases ts;simp_all
   exact ⟨x,t,_,rfl,h.symm,hs⟩
  ·cases h
 ·cases h
theorem xkOf_eqs {op:Op} {xs:List Operand} {neg:Bool} {ks:List FK} (h:xkOf P op=some (.eqs neg ks,xs)): ∃t x y yt,op= .binOp (if neg then .neq else .eql) t x y yt∧xs= [x,y]∧eqKs P t=some ks:=by
 unfold xkOf at h
 split at h
 ·split at h
  ·simp at h
  ·split at h<;>simp at h
 ·split at h<;>simp at h
 ·split at h
  ·split at h<;>simp at h
  ·cases h
 ·split at h
  ·split at h<;>simp at h
  ·cases h
 ·split at h
  ·split at h
   ·split at h<;>simp at h
   ·cases h
  ·cases h
 iterate 2
  ·split at h<;>simp at h
   rename_i hk
   obtain ⟨⟨rfl,rfl⟩,rfl⟩:=h
   exact ⟨_,_,_,_,rfl,rfl,hk⟩
 ·split at h
  ·split at h<;>simp at h
  ·cases h
 ·cases h
theorem xkOf_sb {op:Op} {xs:List Operand} (h:xkOf P op=some (.sb,xs)): ∃a b x,op= .convert a b x∧xs= [x]∧strT P a=true∧bytT P b=true:=by
 unfold xkOf at h
 split at h
 ·split at h
  ·rename_i hc;simp at h hc;exact ⟨_,_,_,rfl,h.symm,hc.1,hc.2⟩
  ·split at h<;>simp at h
 ·split at h<;>simp at h
 ·split at h
  ·split at h<;>simp at h
  ·cases h
 ·split at h
  ·split at h<;>simp at h
  ·cases h
 ·split at h
  ·split at h
   ·split at h<;>simp at h
   ·cases h
  ·cases h
 ·split at h<;>simp at h
 ·split at h<;>simp at h
 ·split at h
  ·split at h<;>simp at h
  ·cases h
 ·cases h
theorem xkOf_bs {op:Op} {xs:List Operand} (h:xkOf P op=some (.bs,xs)): ∃a b x,op= .convert a b x∧xs= [x]∧bytT P a=true∧strT P b=true:=by
 unfold xkOf at h
 split at h
 ·split at h
  ·simp at h
  ·split at h<;>simp at h
   rename_i hc;simp at hc;exact ⟨_,_,_,rfl,h.symm,hc.1,hc.2⟩
 ·split at h<;>simp at h
 ·split at h
  ·split at h<;>simp at h
  ·cases h
 ·split at h
  ·split at h<;>simp at h
  ·cases h
 ·split at h
  ·split at h
   ·split at h<;>simp at h
   ·cases h
  ·cases h
 ·split at h<;>simp at h
 ·split at h<;>simp at h
 ·split at h
  ·split at h<;>simp at h
  ·cases h
 ·cases h
theorem bytes_eq (l m:List UInt8):((⟨⟨l⟩⟩:ByteArray).toList==(⟨⟨m⟩⟩:ByteArray).toList)=(l==m):=by
 rw [ByteArray.toList_eq,ByteArray.toList_eq]
theorem run_cellEq {k:FK} {a b:AV} {u v:Value} {r:Bool} {g:Gh} {w:World} {ft:TypeId} {d:Nat} (hk:fkT P ft=some k) (h:cellEq k a b=some r) (ha:VR g w a u) (hb:VR g w b v):(Op.equalIn (d+1) ft u v).run P w= .ok r w:=by
 unfold fkT at hk
 split at hk
 ·rename_i k' hu
  cases hk
  cases a<;>cases b<;>simp only [cellEq,reduceCtorEq] at h
  split at h
  ·rename_i e
   obtain ⟨rfl,rfl⟩:=e
   simp only [Option.some.injEq] at h;subst h
   cases ha;cases hb
   exact run_equalIn_int w d ft _ _ _ _ hu
  ·cases h
 ·rename_i hu
  cases hk
  cases a<;>cases b<;>simp only [cellEq,reduceCtorEq] at h
  simp only [Option.some.injEq] at h;subst h
  cases ha;cases hb
  rw [run_equalIn_string w d ft _ _ hu,bytes_eq]
 ·rename_i hu
  cases hk
  cases a<;>cases b<;>simp only [cellEq,reduceCtorEq] at h
  simp only [Option.some.injEq] at h;subst h
  cases ha;cases hb
  exact run_equalIn_bool' w d ft _ _ hu
 ·cases hk
theorem fkT_agg {t:TypeId} {k:FK} (h:fkT P t=some k):aggT P t=some false:=by
 unfold fkT at h;unfold aggT
 split at h<;>rename_i hu<;>first|(rw [hu];done)|cases h
theorem cell_fk {k:FK} {a b:AV} {r:Bool} (h:cellEq k a b=some r):strip a=a∧strip b=b∧(∀n,typA n a=a)∧(∀n,typA n b=b):=by
 cases k<;>cases a<;>cases b<;>simp only [cellEq,reduceCtorEq] at h<;>exact ⟨rfl,rfl,fun _=>rfl,fun _=>rfl⟩
theorem run_fields {g:Gh} {w:World} {d:Nat} {cs ds:List AV} {us vs:List Value} (hc:CL g w cs us) (hd:CL g w ds vs): ∀ {fs:List Field} {ks:List FK} {n:Nat} {r:Bool},fksOf P n fs=some ks→cellsEq ks (cs.drop n) (ds.drop n)=some r→
  (Op.eqFields (d+1) ⟨us⟩ ⟨vs⟩ fs).run P w= .ok r w
 | [],ks,n,r,hk,h=>by
  simp only [fksOf,Option.some.injEq] at hk
  subst hk
  cases h1:cs.drop n<;>cases h2:ds.drop n<;>rw [h1,h2] at h<;>simp only [cellsEq,reduceCtorEq] at h
  simp only [Option.some.injEq] at h;subst h
  simp [Op.eqFields]
 |f::fs,ks,n,r,hk,h=>by
  simp only [fksOf] at hk
  split at hk
  ·rename_i k ks' h1 h2
   split at hk
   ·rename_i hn
    simp only [Bool.and_eq_true,bne_iff_ne,ne_eq] at hn
    simp only [Option.some.injEq] at hk;subst hk
    have hoff:f.offset=n:=Nat.eq_of_beq_eq_true hn.2
    cases e1:cs.drop n with
    |nil=>rw [e1] at h;simp [cellsEq] at h
    |cons a xs=>
     cases e2:ds.drop n with
     |nil=>rw [e1,e2] at h;simp [cellsEq] at h
     |cons b bs=>
      rw [e1,e2] at h
      simp only [cellsEq] at h
      split at h
      ·rename_i r1 r2 q1 q2
       simp only [Option.some.injEq] at h;subst h
       have g1:cs[n]? =some a:=by
        have:=congrArg (·[0]?) e1;simpa using this
       have g2:ds[n]? =some b:=by
        have:=congrArg (·[0]?) e2;simpa using this
       obtain ⟨s1,s2,s3,s4⟩:=cell_fk q1
       have p1:partA P f.type cs f.offset=some a:=by unfold partA;rw [fkT_agg h1,hoff];simp only [g1,s1,s3]
       have p2:partA P f.type ds f.offset=some b:=by unfold partA;rw [fkT_agg h1,hoff];simp only [g2,s2,s4]
       obtain ⟨u,u1,u2,_⟩:=run_part hc p1
       obtain ⟨v,v1,v2,_⟩:=run_part hd p2
       have hq:=run_cellEq (d:=d) h1 q1 u2 v2
       have t1:cs.drop (n+1)=xs:=by rw [←List.drop_drop,e1];rfl
       have t2:ds.drop (n+1)=bs:=by rw [←List.drop_drop,e2];rfl
       have ih:=run_fields (d:=d) hc hd h2 (by rw [t1,t2];exact q2)
       unfold Op.eqFields
       rw [if_pos hn.1]
       simp only [Sem.run_bind,u1,v1,hq,Result.andThen_ok,Sem.run_ite]
       cases r1 with
       |false=>simp
       |true=>simpa using ih
      ·cases h
   ·cases hk
  ·cases hk
theorem lkp_val {ok:Bool} {a:AV} {v:Value} {g:Gh} {w:World} (b:Bool) (h:VR g w a v) (hn:NotOwn a):
  VR g w (if ok then .tup [a, .bool b] else a) (if ok then .tuple #[v, .bool b] else v)∧ ∀c, ¬OwnV (if ok then .tup [a, .bool b] else a) (if ok then .tuple #[v, .bool b] else v) c:=by
 cases ok with
 |false=>exact ⟨h,fun c=>not_ownV hn⟩
 |true=>exact ⟨.tup _ _ (.cons _ _ _ _ h (.cons _ _ _ _ (.bool b) .nil)),fun c ⟨_,_,_,_,_,e,_⟩=>by cases e⟩
theorem CL_rep {g:Gh} {w:World} {zs:List AV} {vs:List Value} (h:CL g w zs vs): ∀n:Nat,CL g w (List.replicate n zs).flatten (List.replicate n vs).flatten
 |0=> .nil
 |n+1=>by rw [List.replicate_succ,List.replicate_succ,List.flatten_cons,List.flatten_cons];exact h.append (CL_rep h n)
theorem getElem_flat_rep {α:Type} (vs:List α) (n i:Nat) (h:i<n * vs.length):(List.replicate n vs).flatten[i]? =vs[i % vs.length]? :=by
 induction n generalizing i with
 |zero=>simp at h
 |succ n ih=>
  rw [List.replicate_succ,List.flatten_cons]
  by_cases hi:i<vs.length
  ·rw [List.getElem?_append_left hi,Nat.mod_eq_of_lt hi]
  ·have h1:vs.length≤i:=by omega
   rw [List.getElem?_append_right h1,ih (i-vs.length) (by rw [Nat.succ_mul] at h;omega)]
   congr 1
   exact (Nat.mod_eq_sub_mod h1).symm
theorem madeCells_eq (z:Array Value) (n:Nat) (hz:0<z.size):(madeCells z (n * z.size)).toList=(List.replicate n z.toList).flatten:=by
 apply List.ext_getElem?
 intro i
 by_cases hi:i<n * z.size
 ·rw [getElem_flat_rep _ _ _ (by simpa using hi)]
  have hm:i % z.size<z.size:=Nat.mod_lt _ hz
  simp [madeCells,hi,hm]
 ·have h1:(madeCells z (n * z.size)).toList.length≤i:=by simp [madeCells];omega
  have h2:(List.replicate n z.toList).flatten.length≤i:=by simp;omega
  rw [List.getElem?_eq_none h1,List.getElem?_eq_none h2]
theorem x_does {o:Oper} {s:ASt} {k:XK} {xs:List Operand} {r:AV} {h' :Hp} (hk:xkOf P o.op=some (k,xs)) (hd:(clsX k=2→(∃d,o.dst=some d)∨ ∃st,k= .mup st)) (h:evX k s.hp (xs.map (evA s))=some (r,h')):Does P o s (ASt.put ⟨s.fr,h'⟩ o.dst r):=by
 cases k with
 |mkm=>
  obtain ⟨t,ho,rfl⟩:=xkOf_mkm hk
  obtain ⟨d,hdd⟩: ∃d,o.dst=some d:=by rcases hd rfl with h|⟨st,h⟩;exact h;cases h
  simp only [evX,List.map_nil,Option.some.injEq,Prod.mk.injEq] at h
  obtain ⟨rfl,rfl⟩:=h
  intro a w g hs hlt
  have hdl:=hlt d hdd
  obtain ⟨g',tr⟩:=hs.pushObj d (.map []) (.map #[] 0) (.mp s.hp.n) (.map (some w.heap.size)) (fun g' x=>⟨[],0,_root_.Go.heap_alloc_new w _, .nil,by simp,by simp⟩) (fun cs e=>by cases e) (fun g' h1 h2=>by
   have:=VR.mp (g:=g') (w:=w.alloc (.map #[] 0)) g.n (by omega)
   rw [h2] at this;rw [←hs.n];exact this) (fun b ⟨_,_,_,_,_,e,_⟩=>by cases e)
  refine ⟨.value (.map (some w.heap.size)), .map (some w.heap.size),w.alloc (.map #[] 0),g', ?_, .inl rfl, ?_⟩
  ·simp only [execOp,ho]
   simp [run_makeMap,Result.andThen]
  ·rw [hdd,vfa_put hdl];exact tr
 |mup st=>
  obtain ⟨t,m,kk,v,kt,e,ho,rfl,hm,hkt⟩:=xkOf_mup hk
  obtain ⟨dd,hdu,hD⟩:=keyT_und hkt
  simp only [List.map_cons,List.map_nil] at h
  generalize hem:evA s m=am at h
  cases am<;>simp only [evX,reduceCtorEq] at h
  rename_i l
  split at h
  ·rename_i es hb
   split at h
   ·rename_i hkk
    simp only [Bool.and_eq_true,decide_eq_true_eq] at hkk
    intro a w g hs hlt
    have hvm:=evA_vr hs m
    rw [hem] at hvm
    obtain ⟨hl,hvm⟩:l<g.n∧a.eval m= .map (some (g.ρ l)):=by
     generalize a.eval m=u at hvm;cases hvm;rename_i h;exact ⟨h,rfl⟩
    have hvk:=evA_vr hs kk
    have hvv:=evA_vr hs v
    have hbk:=hs.bk l hl
    rw [hb] at hbk
    obtain ⟨ml,ck,hh,hML,hborn,hnd⟩:=hbk
    have hK:=key_val hkk.1 hD hvk
    obtain ⟨f1,f2⟩:=find_spec hkk.1 hD hvk (i:=0) hML
    have fin: ∀(es' :List (AV×AV)) (m' :List MapEntry) (ck' :Nat),(Instr.mapUpdate t (.map (some (g.ρ l))) (a.eval kk) (a.eval v)).run P w= .ok () { w with heap:=w.heap.setIfInBounds (g.ρ l) (.map ⟨m'⟩ ck') } →ML g w es' m' →(∀e∈m',e.born<ck')→(m'.map MapEntry.born).Nodup→s.hp.set l (.map es')=h' →r= .junk→
      ∃n v w' g',(execOp a.eval o).run P w= .ok n w' ∧(n= .value v∨(n= .skip∧v=undef))∧Tr s (vfa a) w g (ASt.put ⟨s.fr,h'⟩ o.dst r) (vfa (a.put o.dst v)) w' g' :=by
     intro es' m' ck' hrun hml hbn hnd' he hr
     subst he;subst hr
     have tr:=hs.setMap hl hb hh hml hbn hnd'
     have hex: ∃n u,(execOp a.eval o).run P w= .ok n { w with heap:=w.heap.setIfInBounds (g.ρ l) (.map ⟨m'⟩ ck') } ∧(n= .value u∨(n= .skip∧u=undef)):=by
      simp only [execOp,ho]
      rw [hvm]
      simp [hrun,Result.andThen]
     obtain ⟨n,u,hex,hnu⟩:=hex
     refine ⟨n,u,_,g,hex,hnu, ?_⟩
     cases hdst:o.dst with
     |none=>exact tr
     |some d=>
      rw [vfa_put (hlt d hdst)]
      exact Tr.trans hs tr (tr.sr.put d (.junk _) (fun b ⟨_,_,_,_,_,e,_⟩=>by cases e))
    split at h
    ·rename_i hf
     simp only [Option.some.injEq,Prod.mk.injEq] at h
     obtain ⟨rfl,h2⟩:=h
     refine fin _ (ml++ [⟨a.eval kk,a.eval v,ck⟩]) (ck+1) (run_mup_new (mapT_und hm) hdu hh hK (f1 hf)) (hML.append (.cons _ _ _ _ _ hvk hvv .nil)) ?_ ?_ h2 rfl
     ·intro e he
      rcases List.mem_append.1 he with he|he
      ·have:=hborn e he;omega
      ·simp at he;subst he;simp
     ·rw [List.map_append,List.nodup_append]
      refine ⟨hnd,by simp, ?_⟩
      intro x hx y hy
      obtain ⟨e,he,rfl⟩:=List.mem_map.1 hx
      simp at hy;subst hy
      have:=hborn e he;omega
    ·rename_i j vo hf
     simp only [Option.some.injEq,Prod.mk.injEq] at h
     obtain ⟨rfl,h2⟩:=h
     obtain ⟨e,q1,_,q3,_,q5,_⟩:=f2 j vo hf
     simp only [Nat.sub_zero] at q3
     have hjl:=(List.getElem?_eq_some_iff.1 q3).1
     have hbm:(ml.set j ⟨a.eval kk,a.eval v,e.born⟩).map MapEntry.born=ml.map MapEntry.born:=by
      apply List.ext_getElem?
      intro i
      rw [List.getElem?_map,List.getElem?_map,List.getElem?_set]
      by_cases hij:j=i
      ·subst hij;simp [hjl,q3];exact congrArg MapEntry.born (List.getElem?_eq_some_iff.1 q3).2.symm
      ·simp [hij]
     refine fin _ (ml.set j ⟨a.eval kk,a.eval v,e.born⟩) ck (run_mup_old (mapT_und hm) hdu hh hK q1 q3 q5) (hML.setAt j _ _ ⟨a.eval kk,a.eval v,e.born⟩ hvk hvv hjl) ?_ (by rw [hbm];exact hnd) h2 rfl
     intro x hx
     have:x.born∈ml.map MapEntry.born:=by rw [←hbm];exact List.mem_map_of_mem hx
     obtain ⟨y,hy,hxy⟩:=List.mem_map.1 this
     rw [←hxy];exact hborn y hy
    ·cases h
   ·cases h
  ·cases h
 |lkp st z ok=>
  obtain ⟨t,m,kk,kt,e,ho,rfl,hm,hkt,hz⟩:=xkOf_lkp hk
  obtain ⟨dd,hdu,hD⟩:=keyT_und hkt
  simp only [List.map_cons,List.map_nil] at h
  have out: ∀(h2:s.hp=h'),(∀(a:Act) (w:World) (g:Gh),SR s (vfa a) w g→ ∃zz,(execOp a.eval o).run P w= .ok (.value zz) w∧VR g w r zz∧ ∀b, ¬OwnV r zz b)→Does P o s (ASt.put ⟨s.fr,h'⟩ o.dst r):=fun h2 hh=>by
   subst h2
   exact does_value hh
  generalize hem:evA s m=am at h
  cases am<;>simp only [evX,reduceCtorEq] at h
  ·rename_i l
   split at h
   ·rename_i es hb
    split at h
    ·rename_i hkk
     have pre: ∀(a:Act) (w:World) (g:Gh),SR s (vfa a) w g→ ∃ml ck,a.eval m= .map (some (g.ρ l))∧w.heap[g.ρ l]? =some (.map ⟨ml⟩ ck)∧ML g w es ml∧IsKey dd (a.eval kk)∧VR g w (evA s kk) (a.eval kk):=by
      intro a w g hs
      have hvm:=evA_vr hs m
      rw [hem] at hvm
      obtain ⟨hl,hvm⟩:l<g.n∧a.eval m= .map (some (g.ρ l)):=by
       generalize a.eval m=u at hvm;cases hvm;rename_i h;exact ⟨h,rfl⟩
      have hvk:=evA_vr hs kk
      have hbk:=hs.bk l hl
      rw [hb] at hbk
      obtain ⟨ml,ck,hh,hML,_,_⟩:=hbk
      exact ⟨ml,ck,hvm,hh,hML,key_val hkk hD hvk,hvk⟩
     split at h
     ·rename_i hf
      simp only [Option.some.injEq,Prod.mk.injEq] at h
      obtain ⟨rfl,h2⟩:=h
      refine out h2 fun a w g hs=> ?_
      obtain ⟨ml,ck,hvm,hh,hML,hK,hvk⟩:=pre a w g hs
      obtain ⟨zv,hzr,hzv,hzn⟩:=run_zero1 (P:=P) (w:=w) (g:=g) hz
      obtain ⟨q1,q2⟩:=lkp_val (ok:=ok) false hzv hzn
      refine ⟨_, ?_,q1,q2⟩
      simp only [execOp,ho]
      rw [hvm]
      have hfn:=(find_spec hkk hD hvk (i:=0) hML).1 hf
      cases ok<;>simp [Instr.lookup,run_underlying (mapT_und hm),_root_.Go.MapKept.run_getObj_map hh,run_checkKey hdu hK,run_findKey hdu hfn,hzr,Result.andThen]
     ·rename_i j v hf
      simp only [Option.some.injEq,Prod.mk.injEq] at h
      obtain ⟨rfl,h2⟩:=h
      refine out h2 fun a w g hs=> ?_
      obtain ⟨ml,ck,hvm,hh,hML,hK,hvk⟩:=pre a w g hs
      obtain ⟨e',hfn,_,_,hve,_,_⟩:=(find_spec hkk hD hvk (i:=0) hML).2 j v hf
      obtain ⟨q1,q2⟩:=lkp_val (ok:=ok) true hve.strip (strip_notOwn v)
      refine ⟨_, ?_,q1,q2⟩
      simp only [execOp,ho]
      rw [hvm]
      cases ok<;>simp [Instr.lookup,run_underlying (mapT_und hm),_root_.Go.MapKept.run_getObj_map hh,run_checkKey hdu hK,run_findKey hdu hfn,Result.andThen]
     ·cases h
    ·cases h
   ·cases h
  ·split at h
   ·rename_i hkk
    simp only [Option.some.injEq,Prod.mk.injEq] at h
    obtain ⟨rfl,h2⟩:=h
    refine out h2 fun a w g hs=> ?_
    have hvm:=evA_vr hs m
    rw [hem] at hvm
    have hvm:a.eval m= .map none:=by generalize a.eval m=u at hvm;cases hvm;rfl
    have hK:=key_val hkk hD (evA_vr hs kk)
    obtain ⟨zv,hzr,hzv,hzn⟩:=run_zero1 (P:=P) (w:=w) (g:=g) hz
    obtain ⟨q1,q2⟩:=lkp_val (ok:=ok) false hzv hzn
    refine ⟨_, ?_,q1,q2⟩
    simp only [execOp,ho]
    rw [hvm]
    have hfn:Instr.findNow dd (a.eval kk) [] 0=some none:=rfl
    cases ok<;>simp [Instr.lookup,run_underlying (mapT_und hm),run_checkKey hdu hK,run_findKey hdu hfn,hzr,Result.andThen]
   ·cases h
 |mks zs by_=>
  obtain ⟨t,l,c,e,n,ho,rfl,hr,hz,hzn,hn⟩:=xkOf_mks hk
  obtain ⟨d,hdd⟩: ∃d,o.dst=some d:=by rcases hd rfl with h|⟨st,h⟩;exact h;cases h
  simp only [List.map_cons,List.map_nil] at h
  generalize hel:evA s l=al at h
  generalize hec:evA s c=ac at h
  cases al<;>simp only [evX,reduceCtorEq] at h
  cases ac<;>simp only [evX,reduceCtorEq] at h
  rename_i k1 m k2 m'
  split at h
  ·rename_i hc
   obtain ⟨rfl,h0,hb,h63⟩:=hc
   simp only [Option.some.injEq,Prod.mk.injEq] at h
   obtain ⟨rfl,rfl⟩:=h
   obtain ⟨i,z,u1,u2,u3,u4,u5,u6⟩:=rowT_spec hr
   obtain ⟨i',z',w1,w2,w3,w4⟩:=zeroA_spec hz
   rw [u2] at w1;cases w1
   rw [u3] at w2;cases w2
   intro a w g hs hlt
   have hdl:=hlt d hdd
   have hvl:a.eval l= .int k1 m:=by have:=evA_vr hs l;rw [hel] at this;generalize a.eval l=u at this;cases this;rfl
   have hvc:a.eval c= .int k2 m:=by have:=evA_vr hs c;rw [hec] at this;generalize a.eval c=u at this;cases this;rfl
   have hrun:=run_makeSlice (P:=P) w t e i z u1 u2 u3 k1 k2 m m h0 (Int.le_refl _)
   have hcl:=matchZ_cl (g:=g) (w:=w) w3
   have hzl:z.cells.size=n:=u4
   have hcells:(madeCells z.cells (m.toNat * i.size))=⟨(List.replicate m.toNat z.cells.toList).flatten⟩:=by
    apply Array.ext'
    rw [u5, ←hzl,madeCells_eq _ _ (by omega)]
   have hlen0:zs.length=z.cells.toList.length:=hcl.1.length
   obtain ⟨g',tr⟩:=hs.pushObj d (.cells (List.replicate m.toNat zs).flatten) (.cells ⟨(List.replicate m.toNat z.cells.toList).flatten⟩ e) (.hs s.hp.n 0 m.toNat zs.length) (.slice (some ⟨w.heap.size,0,none⟩) m.toNat m.toNat)
    (fun g' x=>⟨_, [],e,(0,0),by rw [List.append_nil];exact _root_.Go.heap_alloc_new w _,(CL_rep hcl.1 _).mono x, .inl rfl⟩) (fun cs e1 j av u hj hu b ho=>by
     cases e1
     rw [World.cell?_alloc_new] at hu
     have hjl:=(List.getElem?_eq_some_iff.1 hj).1
     have hjl' :j<m.toNat * zs.length:=by simpa using hjl
     rw [getElem_flat_rep _ _ _ hjl'] at hj
     have hu' :(List.replicate m.toNat z.cells.toList).flatten[j]? =some u:=by simpa using hu
     rw [getElem_flat_rep _ _ _ (by rw [←hlen0];exact hjl'), ←hlen0] at hu'
     exact hcl.2 _ av u hj hu' b ho)
    (fun g' h1 h2=>by
     have hmx:m.toNat≤maxLen:=by simp only [maxLen];omega
     have:=VR.hs (g:=g') (w:=w.alloc (.cells ⟨(List.replicate m.toNat z.cells.toList).flatten⟩ e)) g.n 0 m.toNat zs.length m.toNat (by omega) (Nat.le_refl _) hmx
     rw [h2] at this;rw [←hs.n];exact this) (fun b ⟨_,_,_,_,_,e,_⟩=>by cases e)
   refine ⟨.value (.slice (some ⟨w.heap.size,0,none⟩) m.toNat m.toNat), .slice (some ⟨w.heap.size,0,none⟩) m.toNat m.toNat,w.alloc (.cells ⟨(List.replicate m.toNat z.cells.toList).flatten⟩ e),g', ?_, .inl rfl, ?_⟩
   ·have hr2:=run_make (P:=P) w t e i z u1 u2 u3 k1 k2 m m h0 (Int.le_refl _) (by rw [u6];exact hb) h63
    rw [hcells] at hr2
    simp only [execOp,ho,hvl,hvc]
    simp [hr2,Result.andThen]
   ·rw [hdd,vfa_put hdl];exact tr
  ·cases h
 |cap=>
  obtain ⟨x,t,e,ho,rfl,hst⟩:=xkOf_cap hk
  simp only [List.map_cons,List.map_nil] at h
  generalize hex:evA s x=ax at h
  cases ax<;>simp only [evX,reduceCtorEq] at h
  rename_i fl sz ys
  cases fl<;>simp only [evX,reduceCtorEq] at h
  simp only [Option.some.injEq,Prod.mk.injEq] at h
  obtain ⟨rfl,rfl⟩:=h
  refine does_value fun a w g hs=> ?_
  have hvx:=evA_vr hs x
  rw [hex] at hvx
  have hc: ∃b l,a.eval x= .slice b l ys.length:=by
   generalize a.eval x=u at hvx
   cases hvx with
   |sl0=>exact ⟨_,_,rfl⟩
   |sle _ _ ad cap hmax hfl=>rcases hfl with h|⟨_,h⟩;cases h;subst h;exact ⟨_,_,rfl⟩
   |sl _ _ _ b o cap _ _ hfull _ _=>rw [hfull rfl];exact ⟨_,_,rfl⟩
  obtain ⟨b,l,hc⟩:=hc
  refine ⟨.int .i64 ys.length, ?_, .int _ _,fun b ⟨_,_,_,_,_,e,_⟩=>by cases e⟩
  simp only [execOp,ho]
  simp [resolve,invoke,hc,Result.andThen,Go.builtin,Builtin.cap_,run_underlying (sliceT_und hst),goInt]
 |eqs neg ks=>
  obtain ⟨t,x,y,yt,ho,rfl,hks⟩:=xkOf_eqs hk
  simp only [List.map_cons,List.map_nil] at h
  generalize hex:evA s x=ax at h
  generalize hey:evA s y=ay at h
  cases ax<;>simp only [evX,reduceCtorEq] at h
  cases ay<;>simp only [evX,reduceCtorEq] at h
  rename_i cs ds
  split at h
  ·rename_i q hq
   simp only [Option.some.injEq,Prod.mk.injEq] at h
   obtain ⟨rfl,rfl⟩:=h
   refine does_value fun a w g hs=>⟨.bool (if neg then !q else q), ?_, .bool _,fun b ⟨_,_,_,_,_,e,_⟩=>by cases e⟩
   have hvx:=evA_vr hs x
   have hvy:=evA_vr hs y
   rw [hex] at hvx;rw [hey] at hvy
   obtain ⟨us,ex,cx⟩: ∃us,a.eval x= .agg ⟨us⟩∧CL g w cs us:=by generalize a.eval x=u at hvx;cases hvx;exact ⟨_,rfl,by assumption⟩
   obtain ⟨vs,ey,cy⟩: ∃us,a.eval y= .agg ⟨us⟩∧CL g w ds us:=by generalize a.eval y=u at hvy;cases hvy;exact ⟨_,rfl,by assumption⟩
   unfold eqKs at hks
   split at hks
   ·rename_i fs hu
    split at hks
    ·cases hks
    ·rename_i hst
     split at hks
     ·cases hks
     ·rename_i hgt
      have hst' :P.stoodInHeld t=false:=by simpa using hst
      have hgt' :P.eqGuardType P.depth t=false:=by simpa using hgt
      have hfo:P.fieldsOf t=fs:=by simp [Program.fieldsOf,hu]
      have hrun:(Op.equalIn 10000 t (.agg ⟨us⟩) (.agg ⟨vs⟩)).run P w= .ok q w:=by
       rw [run_equalIn_agg w 9999 t _ _ (by rw [hfo];exact hu) hst',hfo]
       exact run_fields (d:=9998) cx cy (n:=0) hks (by simpa using hq)
      simp only [execOp,ho,ex,ey]
      cases neg<;>simp [run_eqGuard_agg w _ t x y _ _ hgt',run_eql_struct,run_neq_struct,hrun,Result.andThen]
   ·cases hks
  ·cases h
 |sb=>
  obtain ⟨sa,sb,x,ho,rfl,hsa,hsb⟩:=xkOf_sb hk
  obtain ⟨d,hdd⟩: ∃d,o.dst=some d:=by rcases hd rfl with h|⟨st,h⟩;exact h;cases h
  simp only [List.map_cons,List.map_nil] at h
  generalize hex:evA s x=ax at h
  cases ax<;>simp only [evX,reduceCtorEq] at h
  rename_i l
  split at h
  ·rename_i hl
   simp only [Option.some.injEq,Prod.mk.injEq] at h
   obtain ⟨rfl,rfl⟩:=h
   obtain ⟨e,he,hi⟩:=bytT_und hsb
   intro a w g hs hlt
   have hdl:=hlt d hdd
   have hv:a.eval x= .string ⟨⟨l⟩⟩:=by have:=evA_vr hs x;rw [hex] at this;generalize a.eval x=u at this;cases this;rfl
   have hrun:=run_bytes_of_string (P:=P) w sa sb e ⟨⟨l⟩⟩ (strT_und hsa) (sliceT_und he) (intT_und hi)
   have hz:(⟨⟨l⟩⟩:ByteArray).size=l.length:=rfl
   rw [hz] at hrun
   have hge:=grownCap_ge w l.length 0 e
   have hle:=grownCap_le_maxLen w l.length 0 e (by unfold maxLen;omega)
   generalize grownCap w l.length 0 e=cap at hrun hge hle
   have hcells:bytesRow ⟨⟨l⟩⟩ cap=⟨(l.map fun b=>Value.int .u8 b.toNat)++List.replicate (cap-l.length) (.int .u8 0)⟩:=by
    apply Array.ext'
    simp [bytesRow,hz]
   rw [hcells] at hrun
   have hsize:(⟨(l.map fun b=>Value.int .u8 b.toNat)++List.replicate (cap-l.length) (.int .u8 0)⟩:Array Value).size=cap:=by simp;omega
   rw [hsize] at hrun
   have hs1:SR s (vfa a) w.drew g:=hs.frame rfl (fun _ _=>rfl) (fun _ _ h=>h) (fun b o h=> .inl h) (Nat.le_refl _) (fun _ _ _=>rfl) (fun _ _=>rfl) (fun _ _ _=>rfl)
   have tr1:Tr s (vfa a) w g s (vfa a) w.drew g:=⟨hs1, { Ext.refl g w with os:=rfl,tape:=rfl,output:=rfl,size:=Nat.le_refl _,blk:=fun _ _ _ _=>rfl,newG:=fun _ _ h=> .inl h,newρ:=fun l h1 h2=>absurd h1 (Nat.not_le.2 h2),cell:=fun _ _ _=>rfl },fun b h=> .inl h⟩
   have hcl: ∀(g' :Gh) (w' :World),CL g' w' (l.map fun b=>AV.int .u8 b.toNat) (l.map fun b=>Value.int .u8 b.toNat):=by
    intro g' w'
    clear hrun hex hl hv hz hge hle hcells hsize
    induction l with
    |nil=>exact .nil
    |cons b l ih=>exact .cons _ _ _ _ rfl (.int _ _) ih
   obtain ⟨g',tr⟩:=hs1.pushObj d (.cells (l.map fun b=>AV.int .u8 b.toNat)) (.cells ⟨(l.map fun b=>Value.int .u8 b.toNat)++List.replicate (cap-l.length) (.int .u8 0)⟩ e (cap,cap+1)) (.hs s.hp.n 0 l.length 1) (.slice (some ⟨w.heap.size,0,none⟩) l.length cap)
    (fun g' x=>⟨_,_,e,_,_root_.Go.heap_alloc_new w.drew _,hcl _ _, .inr (by simpa using hge)⟩) (fun cs e1 j av u hj hu b ho=>by
     cases e1
     obtain ⟨c,_,rfl⟩:=List.mem_map.1 (List.mem_of_getElem? hj)
     obtain ⟨_,_,_,_,_,e2,_⟩:=ho
     cases e2)
    (fun g' h1 h2=>by
     have:=VR.hs (g:=g') (w:=w.drew.alloc (.cells ⟨(l.map fun b=>Value.int .u8 b.toNat)++List.replicate (cap-l.length) (.int .u8 0)⟩ e (cap,cap+1))) g.n 0 l.length 1 cap (by omega) hge hle
     rw [h2] at this;rw [←hs.n];exact this) (fun b ⟨_,_,_,_,_,e,_⟩=>by cases e)
   refine ⟨.value (.slice (some ⟨w.heap.size,0,none⟩) l.length cap), .slice (some ⟨w.heap.size,0,none⟩) l.length cap,(w.drew.alloc (.cells ⟨(l.map fun b=>Value.int .u8 b.toNat)++List.replicate (cap-l.length) (.int .u8 0)⟩ e (cap,cap+1))),g', ?_, .inl rfl, ?_⟩
   ·simp only [execOp,ho,hv]
    simp [hrun,Result.andThen]
   ·rw [hdd,vfa_put hdl];exact Tr.trans hs tr1 tr
  ·cases h
 |bs=>
  obtain ⟨sa,sb,x,ho,rfl,hsa,hsb⟩:=xkOf_bs hk
  simp only [List.map_cons,List.map_nil] at h
  generalize hex:evA s x=ax at h
  have out: ∀(h2:s.hp=h'),(∀(a:Act) (w:World) (g:Gh),SR s (vfa a) w g→ ∃zz,(execOp a.eval o).run P w= .ok (.value zz) w∧VR g w r zz∧ ∀b, ¬OwnV r zz b)→Does P o s (ASt.put ⟨s.fr,h'⟩ o.dst r):=fun h2 hh=>by
   subst h2
   exact does_value hh
  cases ax<;>simp only [evX,reduceCtorEq] at h
  ·rename_i fl sz xs
   split at h
   ·rename_i l hl
    simp only [Option.some.injEq,Prod.mk.injEq] at h
    obtain ⟨rfl,h2⟩:=h
    refine out h2 fun a w g hs=> ?_
    have hv:=evA_vr hs x
    rw [hex] at hv
    exact ⟨_,by simp [execOp,ho,run_bytes_text hsa hsb hv hl], .str _,fun b ⟨_,_,_,_,_,e,_⟩=>by cases e⟩
   ·cases h
  ·rename_i lb of len sz
   split at h
   ·rename_i cs hb
    split at h
    ·rename_i hle
     split at h
     ·rename_i l hl
      simp only [Option.some.injEq,Prod.mk.injEq] at h
      obtain ⟨rfl,h2⟩:=h
      refine out h2 fun a w g hs=> ?_
      have hv:=evA_vr hs x
      rw [hex] at hv
      generalize hu:a.eval x=u at hv
      cases hv with
      |hs _ _ _ _ cap hlt h1 h2=>
      obtain ⟨vs,us,e,fr,k1,k2,k3,k4⟩:=hs.box hlt hb
      obtain ⟨ns,en,rfl⟩:=bytesOf_spec hl
      have k5:=(k2.drop of).take len
      rw [en] at k5
      have k6:=CL_ints k5
      have hlen:ns.length=len:=by
       have:=congrArg List.length en
       rw [List.length_take,List.length_drop,List.length_map] at this
       omega
      obtain ⟨e',he,hi⟩:=bytT_und hsa
      have hr:=run_loadCells_list (P:=P) w ⟨g.ρ lb,of,none⟩ (ns.map (Value.int .u8)) (fun j v hj=>by
       rw [add_mk]
       refine k4 _ _ ?_
       rw [←k6,List.getElem?_take] at hj
       split at hj
       ·simpa using hj
       ·cases hj)
      refine ⟨_,by
       simp only [execOp,ho,hu]
       rw [Sem.run_bind,run_convert_bytes_string w sa sb e' _ _ _ (sliceT_und he) (intT_und hi) (strT_und hsb), ←hlen,run_bytesToString w _ _ cap ns (by simpa using hr),foldl_push]
       simp [Result.andThen], .str _,fun b ⟨_,_,_,_,_,e,_⟩=>by cases e⟩
     ·cases h
    ·cases h
   ·cases h
end
end Go.Proofs.YtnibelnjflhkgaaGreatDoor.Ab

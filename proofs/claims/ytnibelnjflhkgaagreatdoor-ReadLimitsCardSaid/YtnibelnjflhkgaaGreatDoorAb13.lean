/- One operation as a step of the abstract state. No condition. -/
import Derived.Test.YtnibelnjflhkgaaGreatDoorAbB
namespace Go.Proofs.YtnibelnjflhkgaaGreatDoor.Ab
set_option linter.unusedVariables false
set_option linter.unusedSimpArgs false
open Go.RowKit
section
variable {s:ASt} {vf:Nat→Value} {w:World} {g:Gh}
theorem SR.moveCell (h:SR s vf w g) (d:Nat) {l j:Nat} {cs:List AV} {av:AV} {v:Value} (hl:l<g.n) (hb:s.hp.bk l= .cells cs) (hj:cs[j]? =some av) (hv:w.cell? ⟨g.ρ l,j,none⟩=some v):
  Tr s vf w g ⟨upd s.fr d av,s.hp.set l (.cells (cs.set j (strip av)))⟩ (updv vf d v) w g:=by
 have hlt:j<cs.length:=(List.getElem?_eq_some_iff.1 hj).1
 obtain ⟨vs,us,e,fr,h1,h2,h3⟩: ∃vs us e fr,w.heap[g.ρ l]? =some (.cells ⟨vs++us⟩ e fr)∧CL g w cs vs∧(fr=(0,0)∨vs.length≤fr.1):=by have:=h.bk l hl;rwa [hb] at this
 have hlc:=h2.length
 have hc0: ∀j,j<vs.length→w.cell? ⟨g.ρ l,j,none⟩=vs[j]? :=fun j hj=>by rw [cell_of_row w _ j _ e fr h1];simp [List.getElem?_append_left hj]
 have hvr:VR g w av v:=by
  obtain ⟨u,k1,k2,_⟩:=h2.get hj
  rw [hc0 j (by omega),k1] at hv;cases hv;exact k2
 have back: ∀p b,Own ⟨upd s.fr d av,s.hp.set l (.cells (cs.set j (strip av)))⟩ (updv vf d v) w g p b→ ∃q,Own s vf w g q b∧(q=p∨(q= .cell l j∧p= .slot d))∧p≠ .cell l j∧(p= .slot d→q= .cell l j):=by
  intro p b ho
  cases p with
  |slot i=>
   simp only [Own,upd,updv] at ho
   by_cases hi:i=d
   ·subst hi;simp only [if_true] at ho
    exact ⟨.cell l j,⟨h.n▸hl,cs,av,v,hb,hj,hv,ho⟩, .inr ⟨rfl,rfl⟩,(fun e=>by cases e),fun _=>rfl⟩
   ·simp only [hi,if_false] at ho
    exact ⟨.slot i,ho, .inl rfl,(fun e=>by cases e),fun e=>absurd (Pl.slot.inj e) hi⟩
  |cell l' j' =>
   obtain ⟨hl',cs1,a1,v1,k1,k2,k3,k4⟩:=ho
   simp only [Hp.set] at hl' k1
   by_cases e1:l' =l
   ·subst e1
    simp only [updB_same,Blk.cells.injEq] at k1
    subst k1
    by_cases e2:j' =j
    ·subst e2
     rw [List.getElem?_set_self hlt] at k2
     cases k2
     exact absurd k4 (not_ownV (strip_notOwn _))
    ·rw [List.getElem?_set_ne (Ne.symm e2)] at k2
     exact ⟨.cell l' j',⟨hl',cs,a1,v1,hb,k2,k3,k4⟩, .inl rfl,(fun e=>e2 (Pl.cell.inj e).2),fun e=>by cases e⟩
   ·rw [updB_ne _ _ e1] at k1
    exact ⟨.cell l' j',⟨hl',cs1,a1,v1,k1,k2,k3,k4⟩, .inl rfl,(fun e=>e1 (Pl.cell.inj e).1),fun e=>by cases e⟩
 refine ⟨⟨h.n,fun i=> ?_,fun l' hl' => ?_,h.inj,h.G,fun i=> ?_,fun l' j' cs1 a1 v1 hl' k1 k2 k3=> ?_,fun p q b hp hq=> ?_⟩,Stp.refl _ _ _,fun b ⟨p,hp⟩=>let ⟨q,hq,_⟩:=back p b hp; .inl ⟨q,hq⟩⟩
 ·by_cases hi:i=d
  ·subst hi;simpa using hvr
  ·simpa [upd,updv,hi] using h.fr i
 ·by_cases e1:l' =l
  ·subst e1
   simp only [Hp.set,updB_same]
   refine ⟨vs,us,e,fr,h1, ?_,h3⟩
   have hjv:vs[j]? =some v:=by rw [←hc0 j (by omega)];exact hv
   have hvl:j<vs.length:=(List.getElem?_eq_some_iff.1 hjv).1
   have e2:vs=vs.take j++(v::vs.drop (j+1)):=by
    have:=List.take_append_drop j vs
    rw [List.drop_eq_getElem_cons hvl,(List.getElem?_eq_some_iff.1 hjv).2] at this
    exact this.symm
   rw [List.set_eq_take_append_cons_drop,if_pos hlt,e2]
   have hd:=h2.drop j
   rw [List.drop_eq_getElem_cons hlt,List.drop_eq_getElem_cons hvl,(List.getElem?_eq_some_iff.1 hjv).2] at hd
   cases hd with
   |cons _ _ _ _ q1 q2 q3=>exact (h2.take j).append (.cons _ _ _ _ q1 hvr.strip q3)
  ·simp only [Hp.set,updB_ne _ _ e1]
   exact h.bk l' hl'
 ·by_cases hi:i=d
  ·subst hi;simpa using h.tipC l j cs av v hl hb hj hv
  ·simpa [upd,updv,hi] using h.tipS i
 ·by_cases e1:l' =l
  ·subst e1
   simp only [Hp.set,updB_same,Blk.cells.injEq] at k1
   subst k1
   by_cases e2:j' =j
   ·subst e2
    rw [List.getElem?_set_self hlt] at k2
    cases k2
    exact tip_notOwn (strip_notOwn _)
   ·rw [List.getElem?_set_ne (Ne.symm e2)] at k2
    exact h.tipC l' j' cs a1 v1 hl' hb k2 k3
  ·simp only [Hp.set,updB_ne _ _ e1] at k1
   exact h.tipC l' j' cs1 a1 v1 hl' k1 k2 k3
 ·obtain ⟨p',hp',e1,n1,d1⟩:=back p b hp
  obtain ⟨q',hq',e2,n2,d2⟩:=back q b hq
  have e:=h.one p' q' b hp' hq'
  rcases e1 with e1|⟨e1,f1⟩<;>rcases e2 with e2|⟨e2,f2⟩
  ·rw [←e1, ←e2,e]
  ·exact absurd (e1▸e.trans e2) n1
  ·exact absurd (e2▸e.symm.trans e1) n2
  ·rw [f1,f2]
end
def ownCell (hp:Hp):AV→Option (Nat×Nat×AV×List AV)
 | .ptr l o=>match hp.bk l with
  | .cells cs=>match cs[o]? with
   |some a=>if isOwn a then some (l,o,a,cs) else none
   |none=>none
  |_=>none
 |_=>none
def isMup:XK→Bool| .mup _=>true|_=>false
def stepX (P:Program) (o:Oper) (s:ASt):Option ASt:=
 match xkOf P o.op with
 |some (k,xs)=>if (clsX k !=2||(o.dst.isSome||isMup k))=true then (match evX k s.hp (xs.map (evA s)) with|some (r,h')=>some (ASt.put ⟨s.fr,h'⟩ o.dst r)|none=>none) else none
 |none=>none
theorem stepX_does {P:Program} {o:Oper} {s s' :ASt} (h:stepX P o s=some s'):Does P o s s' :=by
 unfold stepX at h
 split at h
 ·rename_i k xs hk
  split at h
  ·rename_i hc
   split at h
   ·rename_i r h' he
    simp only [Option.some.injEq] at h
    subst h
    refine x_does hk (fun e=> ?_) he
    rw [e] at hc
    simp only [bne_self_eq_false,Bool.false_or,Bool.or_eq_true] at hc
    rcases hc with hc|hc
    ·exact .inl (Option.isSome_iff_exists.1 hc)
    ·right;cases k<;>simp [isMup] at hc;exact ⟨_,rfl⟩
   ·cases h
  ·cases h
 ·cases h
def tkm (tk:Nat→Bool) (d:Nat):Bool:=tk d||tk (d+1000000)
def stepA (P:Program) (tk:Nat→Bool) (o:Oper) (s:ASt):Option ASt:=
 match o.op with
 | .move (.tmp t)=>moveSt s (match o.dst with|some d=>tkm tk d|none=>false) o.dst t
 | .assign (.tmp t)=>moveSt s true o.dst t
 | .move (.const v)=>if constOK v then some (s.put o.dst (constA ((elT P o.type).getD 0) v)) else none
 | .assign (.const v)=>if constOK v then some (s.put o.dst (constA ((elT P o.type).getD 0) v)) else none
 | .move (.func f)=>some (s.put o.dst (.func f [] []))
 | .assign (.func f)=>some (s.put o.dst (.func f [] []))
 | .load t x=>
  match (match o.dst with|some d=>(if tk d&&(aggT P t==some false) then (match ownCell s.hp (evA s x) with|some c=>some (d,c)|none=>none) else none)|none=>none) with
  |some (d,l,j,a,cs)=>some ⟨upd s.fr d a,s.hp.set l (.cells (cs.set j (strip a)))⟩
  |none=>match loadA P s.hp t (evA s x) with|some r=>some (s.put o.dst r)|none=>none
 | .store t a x=>if o.dst.isNone then storeSt P s t a x else none
 | .alloc t=>match o.dst,zeroA P t with
  |some d,some zs=>some ⟨upd s.fr d (.ptr s.hp.n 0),s.hp.push (.cells zs)⟩
  |_,_=>none
 | .box t x=>match o.dst with
  |some d=>if okc (valA P s t x) then some ⟨upd s.fr d (.ptr s.hp.n 0),s.hp.push (.cells ((valA P s t x).cells.map strip))⟩ else none
  |none=>none
 | .buildSlice t len parts=>match o.dst,bsA P s t len parts.toList with
  |some d,some r=>some ⟨upd s.fr d r,s.hp⟩
  |_,_=>none
 | .call ⟨.builtin .append,args,ts⟩=>match o.dst,args.toList,ts.toList with
  |some d, [x,y], [t,u]=>apSt P s d x y t u
  |_,_,_=>none
 |op=>match pevA P s op with|some r=>some (s.put o.dst r)|none=>stepX P o s
theorem does_loadTake {P:Program} {o:Oper} {s:ASt} {t:TypeId} {x:Operand} {d l j:Nat} {a:AV} {cs:List AV} (ho:o.op= .load t x) (hd:o.dst=some d) (hag:aggT P t=some false) (h:ownCell s.hp (evA s x)=some (l,j,a,cs)):
  Does P o s ⟨upd s.fr d a,s.hp.set l (.cells (cs.set j (strip a)))⟩:=by
 intro act w g hs hlt
 unfold ownCell at h
 split at h
 ·rename_i l0 o0 hx
  split at h
  ·rename_i cs0 hb
   split at h
   ·rename_i a0 hj
    split at h
    ·simp at h
     obtain ⟨rfl,rfl,rfl,rfl⟩:=h
     have hv:=evA_vr hs x
     rw [hx] at hv
     generalize hu:act.eval x=u at hv
     cases hv with
     |ptr _ _ hl=>
     obtain ⟨vs,_,e,_,h1,h2,_,h3⟩:=hs.box hl hb
     obtain ⟨v,hv,hr,_⟩:=h2.get hj
     refine ⟨_,v,w,g, ?_, .inl rfl, ?_⟩
     ·simp [execOp,ho,Instr.loadAt,Instr.sureAddr,hu,loadVar,run_isAgg' hag,h3 _ _ hv]
     ·rw [hd,vfa_put (hlt d hd)]
      exact hs.moveCell d hl hb hj (h3 _ _ hv)
    ·cases h
   ·cases h
  ·cases h
 ·cases h
theorem stepA_does {P:Program} {tk:Nat→Bool} {o:Oper} {s s' :ASt} (h:stepA P tk o s=some s'):Does P o s s' :=by
 unfold stepA at h
 split at h
 ·rename_i t ho;exact does_move (.inl ho) h
 ·rename_i t ho;exact does_move (.inr ho) h
 ·rename_i v ho
  split at h
  ·rename_i hk;simp at h;subst h;exact does_const (.inl ho) hk
  ·cases h
 ·rename_i v ho
  split at h
  ·rename_i hk;simp at h;subst h;exact does_const (.inr ho) hk
  ·cases h
 ·rename_i f ho;simp at h;subst h;exact does_func (.inl ho)
 ·rename_i f ho;simp at h;subst h;exact does_func (.inr ho)
 ·rename_i t x ho
  split at h
  ·rename_i d l j a cs hm
   simp at h;subst h
   split at hm
   ·rename_i d' hd
    split at hm
    ·rename_i hc
     simp at hc
     split at hm
     ·rename_i c hcell
      simp at hm;obtain ⟨rfl,rfl⟩:=hm
      exact does_loadTake ho hd hc.2 hcell
     ·cases hm
    ·cases hm
   ·cases hm
  ·split at h
   ·rename_i r hr
    simp at h;subst h
    exact does_pev (by rw [ho];exact hr)
   ·cases h
 ·rename_i t a x ho
  split at h
  ·rename_i hd;exact does_store ho (by simpa using hd) h
  ·cases h
 ·rename_i t ho
  split at h
  ·rename_i d zs hd hz;simp at h;subst h;exact does_alloc ho hd hz
  ·cases h
 ·rename_i t x ho
  split at h
  ·rename_i d hd
   split at h
   ·rename_i hk;simp at h;subst h;exact does_box ho hd hk
   ·cases h
  ·cases h
 ·rename_i t len parts ho
  split at h
  ·rename_i d r hd hr;simp at h;subst h;exact does_bs ho hd hr
  ·cases h
 ·rename_i args ts ho
  split at h
  ·rename_i d x y t u hd ha ht
   have e1:args= #[x,y]:=by cases args;simp_all
   have e2:ts= #[t,u]:=by cases ts;simp_all
   subst e1 e2
   exact does_append ho hd h
  ·cases h
 ·split at h
  ·rename_i r hr;simp at h;subst h;exact does_pev hr
  ·exact stepX_does h
end Go.Proofs.YtnibelnjflhkgaaGreatDoor.Ab

/- Code in the short form, and functions out of it. No condition. -/
import Derived.Test.YtnibelnjflhkgaaGreatDoorAb23
namespace Go.Proofs.YtnibelnjflhkgaaGreatDoor.Ab
set_option linter.unusedVariables false
set_option linter.unusedSimpArgs false
open Go.RowKit
inductive CT
 |done
 |one (g:Option (Nat×Bool)) (ci:CI) (t:CT)
 |nil
 |alt (g:Option (Nat×Bool)) (ci:CI) (t rest:CT)
inductive CC
 |skip
 |ops (l:List (Option (Nat×Bool)×CI))
 |opsD (l:List (Option (Nat×Bool)×CI))
 |opsT (t:CT)
 |bad
 |seq (a b:CC)
 |cond (c:V) (a b:CC)
 |block (id:Nat) (c:CC)
 |loop (c:CC)
 |exit (id:Nat)
 |ret
inductive RC|t (n:Nat)|c (a:Nat) (ps:PS)
section
variable (P:Program)
def CI1 (ci:CI) (K:ASt→Prop) (s:ASt):Prop:=
 match ci with
 | .call d fv xs j=>match evC s fv with
  | .func f first cap=> ∃r h',Fn P f (first.map strip++argsC s j 0 xs++cap.map strip) s.hp r h' ∧K (ASt.put ⟨stripO s.fr (ownArgC j xs),h'⟩ d r)
  |_=>False
 |ci=>match stepC s ci with|some s' =>K s' |none=>False
def CallC (j:Option Nat) (f:FuncId) (args:List AV) (h:Hp) (r:AV) (h' :Hp):Prop:=if effO j then Fn P f args h r h' else PFn P f args r∧h' =h
def CI1D (ci:CI) (K:ASt→Prop) (s:ASt):Prop:=
 match ci with
 | .call d fv xs j=>match evC s fv with
  | .func f first cap=> ∃r h',CallC P j f (first.map strip++argsC s j 0 xs++cap.map strip) s.hp r h' ∧K (ASt.put ⟨stripO s.fr (ownArgC j xs),h'⟩ d r)
  |_=>False
 |ci=>match stepC s ci with|some s' =>K s' |none=>False
end
def dstC:CI→Option Nat
 | .nop=>none
 | .cp d _=>some d
 | .mv d _=>some d
 | .set d _=>some d
 | .pick d _ _ _=>d
 | .bin d _ _ _ _ _=>d
 | .un d _ _=>d
 | .cvt d _ _ _ _=>d
 | .fld d _ _ _=>d
 | .idx d _ _ _ _=>d
 | .ia d _ _ _ _=>d
 | .fa d _ _=>d
 | .ext d _ _=>d
 | .ld d _ _=>d
 | .ldT d _ _=>some d
 | .nil d _=>d
 | .len d _ _ _=>d
 | .mn d _ _=>d
 | .mx d _ _=>d
 | .sl d _ _ _ _ _ _=>d
 | .bld d _ _ _=>d
 | .mkf d _ _ _=>d
 | .st _ _ _=>none
 | .alloc d _=>some d
 | .box d _=>some d
 | .bs d _ _=>some d
 | .app d _ _ _ _ _ _=>some d
 | .call d _ _ _=>d
 | .x d _ _=>d
section
variable (P:Program)
def COps (K:ASt→Prop):List (Option (Nat×Bool)×CI)→ASt→Prop
 | [],s=>K s
 |(none,ci)::l,s=>CI1 P ci (COps K l) s
 |(some (d,want),ci)::l,s=>match gval (s.fr d) with
  |some q=>(q=some want→CI1 P ci (COps K l) s)∧(q≠some want→COps K l (s.put (dstC ci) (.val undef)))
  |none=>False
def COpsD (K:ASt→Prop):List (Option (Nat×Bool)×CI)→ASt→Prop
 | [],s=>K s
 |(none,ci)::l,s=>CI1D P ci (COpsD K l) s
 |(some (d,want),ci)::l,s=>match gval (s.fr d) with
  |some q=>(q=some want→CI1D P ci (COpsD K l) s)∧(q≠some want→COpsD K l (s.put (dstC ci) (.val undef)))
  |none=>False
def COneD (g:Option (Nat×Bool)) (ci:CI) (K:ASt→Prop) (s:ASt):Prop:=
 match g with
 |none=>CI1D P ci K s
 |some (d,want)=>match gval (s.fr d) with
  |some q=>(q=some want→CI1D P ci K s)∧(q≠some want→K (s.put (dstC ci) (.val undef)))
  |none=>False
def COpsT (K:ASt→Prop):CT→ASt→Prop
 | .done,s=>K s
 | .one g ci t,s=>COneD P g ci (COpsT K t) s
 | .nil,_=>True
 | .alt g ci t rest,s=>COneD P g ci (COpsT K t) s∧COpsT K rest s
def CRun:CC→(AX→ASt→Prop)→ASt→Prop
 | .skip,Q,s=>Q .normal s
 | .ops l,Q,s=>COps P (Q .normal) l s
 | .opsD l,Q,s=>COpsD P (Q .normal) l s
 | .opsT t,Q,s=>COpsT P (Q .normal) t s
 | .bad,_,_=>False
 | .seq a b,Q,s=>CRun a (seqK (CRun b Q) Q) s
 | .cond c a b,Q,s=>match evC s c with
  | .bool t=>(t=true→CRun a Q s)∧(t=false→CRun b Q s)
  |_=>False
 | .block id c,Q,s=>CRun c (blockK id Q) s
 | .loop c,Q,s=> ∃I:Nat→ASt→Prop,(∃k,I k s)∧ ∀k t,I k t→CRun c (seqK (fun t' => ∃k',k' <k∧I k' t') Q) t
 | .exit id,Q,s=>Q (.exit id) s
 | .ret,Q,s=>Q .ret s
variable (ow:FuncId→Option Nat) (nt:Nat)
def compOps (ops:Array Oper) (tk:Nat→Bool):List Oper→Option (List (Option (Nat×Bool)×CI))
 | []=>some []
 |o::os=>
  match compOp P ow tk o,compOps ops tk os with
  |some ci,some l=>
   if dstOK nt o&&(dstC ci==o.dst) then
    match o.guard with
    |none=>some ((none,ci)::l)
    |some (j,want)=>match (ops[j]?).bind (·.dst) with
     |some d=>some ((some (d,want),ci)::l)
     |none=>none
   else none
  |_,_=>none
def compT (ops:Array Oper) (tk:Nat→Bool):RT→Option CT
 | .done=>some .done
 | .nil=>some .nil
 | .one i t=>match compOps P ow nt ops tk (ops[i]?).toList,compT ops tk t with
  |some [(g,ci)],some c=>some (.one g ci c)
  |_,_=>none
 | .alt i t rest=>match compOps P ow nt ops tk (ops[i]?).toList,compT ops tk t,compT ops tk rest with
  |some [(g,ci)],some c,some r=>some (.alt g ci c r)
  |_,_,_=>none
def comp:Code→CC
 | .skip=> .skip
 | .label _=> .skip
 | .region _ ops draw=>
  match compOps P ow nt ops (fun d=>(takes ow ops.toList).contains d) ops.toList with
  |some l=>if draw then (if indepOK P ow nt ops (fun d=>(takes ow ops.toList).contains d) then .opsD l else match treeOf P ow nt ops (fun d=>(takes ow ops.toList).contains d) with|some rt=>(match compT P ow nt ops (fun d=>(takes ow ops.toList).contains d) rt with|some ct=> .opsT ct|none=> .bad)|none=> .bad) else .ops l
  |none=> .bad
 | .seq x y=> .seq (comp x) (comp y)
 | .cond c x y=> .cond (cV c) (comp x) (comp y)
 | .block id c=> .block id (comp c)
 | .loop c=> .loop (comp c)
 | .exit id=> .exit id
 | .ret=> .ret
 |_=> .bad
def compR:List ResultVar→Option (List RC)
 | []=>some []
 | .tmp t::rs=>match compR rs with|some l=>some (.t t::l)|none=>none
 | .cell a ty::rs=>match psT P ty,compR rs with|some ps,some l=>some (.c a ps::l)|_,_=>none
def compF (fn:Func):Option (Nat×List RC×CC):=
 match fn.body,compR P fn.results.toList with
 | some c, some rs => if fn.name == "runtime.NumGoroutine" then none else some (fn.ntmps, rs, comp P ow fn.ntmps c)
 |_,_=>none
end
def resC1 (s:ASt):RC→Option AV
 | .t n=>some (s.fr n)
 | .c a ps=>match strip (s.fr a) with| .ptr l o=>loadB s.hp ps (.ptr l o)|_=>none
def resCL (s:ASt):List RC→Option (List AV)
 | []=>some []
 |r::rs=>match resC1 s r,resCL s rs with|some a,some l=>some (strip a::l)|_,_=>none
def resC (s:ASt) (rs:List RC):Option AV:=
 match rs with
 | [r]=>resC1 s r
 |rs=>(resCL s rs).map .tup
def retC (rs:List RC) (h:Hp) (r:AV) (h' :Hp) (s:ASt):Prop:=(∃a,resC s rs=some a∧Wk a r)∧labOK h'.n r=true∧Shrink h s.hp h'
def endC (rs:List RC) (h:Hp) (r:AV) (h' :Hp):AX→ASt→Prop
 | .exit _,_=>False
 | .normal,s=>retC rs h r h' s
 | .ret,s=>retC rs h r h' s
section
variable {P:Program} {ow:FuncId→Option Nat} {nt:Nat}
theorem argsC_eq {s:ASt} {j:Option Nat} {ts:List TypeId} : ∀(xs:List Operand) (k:Nat),argsC s j k ((xs.zipIdx k).map fun p=>cVT ((ts[p.2]?).bind (elT P)) p.1)=argsA P s j ts k xs
 | [],k=>rfl
 |x::xs,k=>by
  simp only [List.zipIdx_cons,List.map_cons,argsC,argsA,argsC_eq xs (k+1)]
  congr 1
  cases x<;>rfl
theorem ownArgC_eq {j:Option Nat} {ts:List TypeId} (xs:List Operand):ownArgC j ((xs.zipIdx).map fun p=>cVT ((ts[p.2]?).bind (elT P)) p.1)=ownArg j xs:=by
 cases j with
 |none=>rfl
 |some j=>
  simp only [ownArgC,ownArg,List.getElem?_map,List.getElem?_zipIdx]
  cases hx:xs[j]? with
  |none=>rfl
  |some x=>cases x<;>rfl
theorem compX_call {o:Oper} {d:Option Nat} {f:V} {xs:List V} {j:Option Nat} (h:compX P o=some (.call d f xs j)):False:=by
 unfold compX at h
 split at h
 ·split at h
  ·simp at h
  ·cases h
 ·cases h
theorem ci1_sound {tk:Nat→Bool} {o:Oper} {ci:CI} {K K' :ASt→Prop} {s:ASt} (hc:compOp P ow tk o=some ci) (hK: ∀s,K s→K' s) (h:CI1 P ci K s):AOp1 P ow tk o K' s:=by
 by_cases hcall: ∃d f xs j,ci= .call d f xs j
 ·obtain ⟨d,f,xs,j,rfl⟩:=hcall
  obtain ⟨dst,op,ty,pos,aft,gd⟩:=o
  unfold compOp at hc
  simp only at hc
  have hne: ∃x args ts,op= .call ⟨.value x,args,ts⟩∧d=dst∧f=cV x∧xs=(args.toList.zipIdx.map fun p=>cVT ((ts.toList[p.2]?).bind (elT P)) p.1)∧j=jOf ow x:=by
   revert hc
   split<;>(try intro hc)<;>(try exact (compX_call hc).elim)<;>(try (repeat' (split at hc))<;>first|(exact (compX_call hc).elim)|simp only [Option.some.injEq,reduceCtorEq,CI.call.injEq] at hc)
   obtain ⟨rfl,rfl,rfl,rfl⟩:=hc
   exact ⟨_,_,_,rfl,rfl,rfl,rfl,rfl⟩
  obtain ⟨x,args,ts,rfl,rfl,rfl,rfl,rfl⟩:=hne
  simp only [CI1,evC_cV,argsC_eq,ownArgC_eq] at h
  simp only [AOp1]
  split at h
  ·rename_i f first cap hf
   obtain ⟨r,h',k1,k2⟩:=h
   rw [hf]
   exact ⟨r,h',k1,hK _ k2⟩
  ·exact h.elim
 ·have hn: ∀d f xs j,ci≠ .call d f xs j:=fun d f xs j e=>hcall ⟨d,f,xs,j,e⟩
  have hs: ∃s',stepC s ci=some s' ∧K s' :=by
   unfold CI1 at h
   split at h
   ·exact absurd rfl (hn _ _ _ _)
   ·split at h
    ·exact ⟨_, ‹_›,h⟩
    ·exact h.elim
  obtain ⟨s',h1,h2⟩:=hs
  have h3:=compOp_step hc h1 hn
  unfold AOp1
  split
  ·rename_i x args ts ho
   exfalso
   obtain ⟨dst,op,ty,pos,aft,gd⟩:=o
   simp only at ho;subst ho
   simp only [compOp,Option.some.injEq] at hc
   exact hn _ _ _ _ hc.symm
  ·rw [h3];exact hK _ h2
theorem ci1D_sound {tk:Nat→Bool} {o:Oper} {ci:CI} {K K' :ASt→Prop} {s:ASt} (hc:compOp P ow tk o=some ci) (hK: ∀s,K s→K' s) (h:CI1D P ci K s):AOp1D P ow tk o K' s:=by
 by_cases hcall: ∃d f xs j,ci= .call d f xs j
 ·obtain ⟨d,f,xs,j,rfl⟩:=hcall
  obtain ⟨dst,op,ty,pos,aft,gd⟩:=o
  unfold compOp at hc
  simp only at hc
  have hne: ∃x args ts,op= .call ⟨.value x,args,ts⟩∧d=dst∧f=cV x∧xs=(args.toList.zipIdx.map fun p=>cVT ((ts.toList[p.2]?).bind (elT P)) p.1)∧j=jOf ow x:=by
   revert hc
   split<;>(try intro hc)<;>(try exact (compX_call hc).elim)<;>(try (repeat' (split at hc))<;>first|(exact (compX_call hc).elim)|simp only [Option.some.injEq,reduceCtorEq,CI.call.injEq] at hc)
   obtain ⟨rfl,rfl,rfl,rfl⟩:=hc
   exact ⟨_,_,_,rfl,rfl,rfl,rfl,rfl⟩
  obtain ⟨x,args,ts,rfl,rfl,rfl,rfl,rfl⟩:=hne
  simp only [CI1D,evC_cV,argsC_eq,ownArgC_eq] at h
  simp only [AOp1D]
  split at h
  ·rename_i f first cap hf
   obtain ⟨r,h',k1,k2⟩:=h
   rw [hf]
   exact ⟨r,h',k1,hK _ k2⟩
  ·exact h.elim
 ·have hn: ∀d f xs j,ci≠ .call d f xs j:=fun d f xs j e=>hcall ⟨d,f,xs,j,e⟩
  have hs: ∃s',stepC s ci=some s' ∧K s' :=by
   unfold CI1D at h
   split at h
   ·exact absurd rfl (hn _ _ _ _)
   ·split at h
    ·exact ⟨_, ‹_›,h⟩
    ·exact h.elim
  obtain ⟨s',h1,h2⟩:=hs
  have h3:=compOp_step hc h1 hn
  unfold AOp1D
  split
  ·rename_i x args ts ho
   exfalso
   obtain ⟨dst,op,ty,pos,aft,gd⟩:=o
   simp only at ho;subst ho
   simp only [compOp,Option.some.injEq] at hc
   exact hn _ _ _ _ hc.symm
  ·rw [h3];exact hK _ h2
theorem cops_sound {ops:Array Oper} {tk:Nat→Bool} {K K' :ASt→Prop} (hKK: ∀s,K s→K' s): ∀(os:List Oper) (l:List (Option (Nat×Bool)×CI)) (s:ASt),compOps P ow nt ops tk os=some l→COps P K l s→AOps P ow nt ops tk K' os s
 | [],l,s,hc,h=>by simp only [compOps,Option.some.injEq] at hc;subst hc;exact hKK _ h
 |o::os,l,s,hc,h=>by
  unfold compOps at hc
  split at hc
  ·rename_i ci l0 h1 h2
   split at hc
   ·rename_i hk
    simp only [Bool.and_eq_true,beq_iff_eq] at hk
    refine ⟨hk.1, ?_⟩
    split at hc
    ·rename_i hg
     simp only [Option.some.injEq] at hc;subst hc
     rw [hg]
     exact ci1_sound h1 (fun s' hs=>cops_sound hKK os l0 s' h2 hs) h
    ·rename_i j want hg
     split at hc
     ·rename_i d hd
      simp only [Option.some.injEq] at hc;subst hc
      rw [hg]
      simp only [hd]
      simp only [COps] at h
      split at h
      ·rename_i b hb
       rw [hb]
       exact ⟨fun hw=>ci1_sound h1 (fun s' hs=>cops_sound hKK os l0 s' h2 hs) (h.1 hw),fun hw=>cops_sound hKK os l0 _ h2 (hk.2▸h.2 hw)⟩
      ·exact h.elim
     ·cases hc
   ·cases hc
  ·cases hc
theorem copsD_sound {ops:Array Oper} {tk:Nat→Bool} {K K' :ASt→Prop} (hKK: ∀s,K s→K' s): ∀(os:List Oper) (l:List (Option (Nat×Bool)×CI)) (s:ASt),compOps P ow nt ops tk os=some l→COpsD P K l s→AOpsD P ow ops tk K' os s
 | [],l,s,hc,h=>by simp only [compOps,Option.some.injEq] at hc;subst hc;exact hKK _ h
 |o::os,l,s,hc,h=>by
  unfold compOps at hc
  split at hc
  ·rename_i ci l0 h1 h2
   split at hc
   ·rename_i hk
    simp only [Bool.and_eq_true,beq_iff_eq] at hk
    unfold AOpsD
    split at hc
    ·rename_i hg
     simp only [Option.some.injEq] at hc;subst hc
     rw [hg]
     exact ci1D_sound h1 (fun s' hs=>copsD_sound hKK os l0 s' h2 hs) h
    ·rename_i j want hg
     split at hc
     ·rename_i d hd
      simp only [Option.some.injEq] at hc;subst hc
      rw [hg]
      simp only [hd]
      simp only [COpsD] at h
      split at h
      ·rename_i b hb
       rw [hb]
       exact ⟨fun hw=>ci1D_sound h1 (fun s' hs=>copsD_sound hKK os l0 s' h2 hs) (h.1 hw),fun hw=>copsD_sound hKK os l0 _ h2 (hk.2▸h.2 hw)⟩
      ·exact h.elim
     ·cases hc
   ·cases hc
  ·cases hc
theorem coneD_sound {ops:Array Oper} {tk:Nat→Bool} {K K' :ASt→Prop} {o:Oper} {g:Option (Nat×Bool)} {ci:CI} {s:ASt} (hc:compOps P ow nt ops tk [o]=some [(g,ci)]) (hKK: ∀s,K s→K' s) (h:COneD P g ci K s):AOneD P ow ops tk o K' s:=by
 simp only [compOps] at hc
 split at hc
 ·rename_i ci' l0 h1 h2
  simp only [Option.some.injEq] at h2
  subst h2
  split at hc
  ·rename_i hk
   simp only [Bool.and_eq_true,beq_iff_eq] at hk
   unfold AOneD
   split at hc
   ·rename_i hg
    simp only [Option.some.injEq,List.cons.injEq,Prod.mk.injEq,and_true] at hc
    obtain ⟨rfl,rfl⟩:=hc
    rw [hg]
    exact ci1D_sound h1 hKK h
   ·rename_i j want hg
    split at hc
    ·rename_i d hd
     simp only [Option.some.injEq,List.cons.injEq,Prod.mk.injEq,and_true] at hc
     obtain ⟨rfl,rfl⟩:=hc
     rw [hg]
     simp only [hd]
     simp only [COneD] at h
     split at h
     ·rename_i b hb
      rw [hb]
      exact ⟨fun hw=>ci1D_sound h1 hKK (h.1 hw),fun hw=>hKK _ (hk.2▸h.2 hw)⟩
     ·exact h.elim
    ·cases hc
  ·cases hc
 ·cases hc
theorem copsT_sound {ops:Array Oper} {tk:Nat→Bool} {K K' :ASt→Prop} (hKK: ∀s,K s→K' s): ∀(rt:RT) (ct:CT) (s:ASt),compT P ow nt ops tk rt=some ct→COpsT P K ct s→ATree P ow ops tk K' rt s
 | .done,ct,s,hc,h=>by simp only [compT,Option.some.injEq] at hc;subst hc;exact hKK _ h
 | .nil,ct,s,hc,h=>trivial
 | .one i t,ct,s,hc,h=>by
  simp only [compT] at hc
  split at hc
  ·rename_i g ci c h1 h2
   simp only [Option.some.injEq] at hc;subst hc
   cases ho:ops[i]? with
   |none=>rw [ho] at h1;simp [compOps] at h1
   |some o=>
    rw [ho] at h1
    simp only [ATree,ho]
    exact coneD_sound h1 (fun s' hs=>copsT_sound hKK t c s' h2 hs) h
  ·cases hc
 | .alt i t rest,ct,s,hc,h=>by
  simp only [compT] at hc
  split at hc
  ·rename_i g ci c r h1 h2 h3
   simp only [Option.some.injEq] at hc;subst hc
   cases ho:ops[i]? with
   |none=>rw [ho] at h1;simp [compOps] at h1
   |some o=>
    rw [ho] at h1
    simp only [ATree,ho]
    exact ⟨coneD_sound h1 (fun s' hs=>copsT_sound hKK t c s' h2 hs) h.1,copsT_sound hKK rest r s h3 h.2⟩
  ·cases hc
theorem crun_sound: ∀(c:Code) (Q Q' :AX→ASt→Prop) (s:ASt),(∀e s,Q e s→Q' e s)→CRun P (comp P ow nt c) Q s→ACode P ow nt c Q' s
 | .skip,Q,Q',s,hq,h=>hq _ _ h
 | .label _,Q,Q',s,hq,h=>hq _ _ h
 | .region id ops draw,Q,Q',s,hq,h=>by
  simp only [comp] at h
  split at h
  ·rename_i l hl
   split at h
   ·rename_i hd
    split at h
    ·rename_i hin
     simp only [ACode,hd,if_true]
     exact .inl ⟨hin,copsD_sound (fun s hs=>hq _ s hs) _ l s hl h⟩
    ·split at h
     ·rename_i rt h2
      split at h
      ·rename_i ct hm
       simp only [ACode,hd,if_true]
       exact .inr ⟨rt,h2,copsT_sound (fun s hs=>hq _ s hs) rt ct s hm h⟩
      ·exact h.elim
     ·exact h.elim
   ·rename_i hd
    have hd' :draw=false:=by simpa using hd
    simp only [ACode,hd',Bool.false_eq_true,if_false]
    exact cops_sound (fun s hs=>hq _ s hs) _ l s hl h
  ·exact h.elim
 | .seq x y,Q,Q',s,hq,h=>by
  refine crun_sound x _ _ s (fun e t ht=> ?_) h
  cases e with
  |normal=>exact crun_sound y Q Q' t hq ht
  |ret=>exact hq _ _ ht
  |exit i=>exact hq _ _ ht
 | .cond c x y,Q,Q',s,hq,h=>by
  simp only [comp,CRun,evC_cV] at h
  simp only [ACode]
  split at h
  ·rename_i b hb
   rw [hb]
   exact ⟨fun ht=>crun_sound x Q Q' s hq (h.1 ht),fun ht=>crun_sound y Q Q' s hq (h.2 ht)⟩
  ·exact h.elim
 | .block id c,Q,Q',s,hq,h=>by
  refine crun_sound c _ _ s (fun e t ht=> ?_) h
  cases e with
  |normal=>exact hq _ _ ht
  |ret=>exact hq _ _ ht
  |exit i=>simp only [blockK] at ht ⊢;split<;>rename_i hi<;>simp only [hi,if_true,if_false] at ht<;>exact hq _ _ ht
 | .loop c,Q,Q',s,hq,h=>by
  obtain ⟨I,h0,hr⟩:=h
  refine ⟨I,h0,fun k t ht=>crun_sound c _ _ t (fun e u hu=> ?_) (hr k t ht)⟩
  cases e with
  |normal=>exact hu
  |ret=>exact hq _ _ hu
  |exit i=>exact hq _ _ hu
 | .exit id,Q,Q',s,hq,h=>hq _ _ h
 | .ret,Q,Q',s,hq,h=>hq _ _ h
 | .rangeFunc _ _ _ _,_,_,_,_,h=>h.elim
 | .scope _,_,_,_,_,h=>h.elim
 | .goto _,_,_,_,_,h=>h.elim
 | .refuse _,_,_,_,_,h=>h.elim
theorem resC1_eq {s:ASt} {r:ResultVar} {rc:RC} {rs:List RC} (h:compR P [r]=some (rc::rs)):resA1 P s r=resC1 s rc:=by
 cases r with
 |tmp t=>simp [compR] at h;rw [←h.1];rfl
 |cell a ty=>
  simp only [compR] at h
  split at h
  ·rename_i ps l hps hl
   simp only [Option.some.injEq,List.cons.injEq] at h
   rw [←h.1]
   simp only [resA1,resC1]
   cases hq:strip (s.fr a)<;>simp only [loadB_eq hps]
  ·cases h
theorem compR_cons {r:ResultVar} {rs:List ResultVar} {l:List RC} (h:compR P (r::rs)=some l): ∃rc l',l=rc::l' ∧compR P [r]=some [rc]∧compR P rs=some l' :=by
 cases r with
 |tmp t=>
  simp only [compR] at h
  split at h
  ·rename_i l' hl;simp only [Option.some.injEq] at h;exact ⟨_,l',h.symm,rfl,hl⟩
  ·cases h
 |cell a ty=>
  simp only [compR] at h
  split at h
  ·rename_i ps l' hps hl;simp only [Option.some.injEq] at h;exact ⟨_,l',h.symm,by simp [compR,hps],hl⟩
  ·cases h
theorem resCL_eq {s:ASt} : ∀ {rs:List ResultVar} {l:List RC},compR P rs=some l→resL P s rs=resCL s l
 | [],l,h=>by simp [compR] at h;subst h;rfl
 |r::rs,l,h=>by
  obtain ⟨rc,l',rfl,h1,h2⟩:=compR_cons h
  simp only [resL,resCL,resC1_eq h1,resCL_eq h2]
  rfl
theorem resC_eq {s:ASt} {rs:List ResultVar} {l:List RC} (h:compR P rs=some l):resA P s rs=resC s l:=by
 match rs,h with
 | [],h=>simp [compR] at h;subst h;rfl
 | [r],h=>
  obtain ⟨rc,l',rfl,h1,h2⟩:=compR_cons h
  simp [compR] at h2;subst h2
  exact resC1_eq h1
 |r1::r2::rs,h=>
  have he:=resCL_eq (s:=s) h
  obtain ⟨rc,l',rfl,h1,h2⟩:=compR_cons h
  obtain ⟨rc2,l2,rfl,h3,h4⟩:=compR_cons h2
  simp only [resA,resC,he]
theorem fnC {f:FuncId} {fn:Func} {cc:CC} {rs:List RC} {args:List AV} {h:Hp} {r:AV} {h' :Hp} (hm:P.follows .mixedOrders=true) (hf:P.funcs[f]? =some fn) (hc:compF P ow fn=some (nt,rs,cc)) (hlen:args.length≤nt)
  (hr:CRun P cc (endC rs h r h') ⟨argsF args,h⟩):Fn P f args h r h' :=by
 unfold compF at hc
 split at hc
 ·rename_i c rs' hb hrs
  split at hc
  ·cases hc
  ·rename_i hname
   simp only [Option.some.injEq,Prod.mk.injEq] at hc
   obtain ⟨rfl,rfl,rfl⟩:=hc
   refine fn_intro (ow:=ow) hm hf hb (by simpa using hname) hlen (crun_sound c _ _ _ (fun e s hs=> ?_) hr)
   have key:retC rs' h r h' s→(∃a,resA P s fn.results.toList=some a∧Wk a r)∧labOK h'.n r=true∧Shrink h s.hp h' :=fun ⟨⟨a,h1,h2⟩,h3⟩=>⟨⟨a,(resC_eq hrs).trans h1,h2⟩,h3⟩
   cases e with
   |normal=>exact key hs
   |ret=>exact key hs
   |exit i=>exact hs
 ·cases hc
end
end Go.Proofs.YtnibelnjflhkgaaGreatDoor.Ab

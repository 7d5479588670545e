/- Rows of operations whose order is drawn, on: two that do not touch each other change places. No condition. -/
import Derived.Test.YtnibelnjflhkgaaGreatDoorAb16
namespace Go.Proofs.YtnibelnjflhkgaaGreatDoor.Ab
set_option linter.unusedVariables false
set_option linter.unusedSimpArgs false
open Go.RowKit
section
variable (P:Program) (ow:FuncId→Option Nat) (ops:Array Oper) (tk:Nat→Bool)
def gslot (o:Oper):Option (Nat×Bool):=match o.guard with|some (j,want)=>((ops[j]?).bind (·.dst)).map (·,want)|none=>none
def CallR (P:Program) (ow:FuncId→Option Nat) (x:Operand) (f:FuncId) (args:List AV) (h:Hp) (r:AV) (h' :Hp):Prop:=
 if effO (jOf ow x) then Fn P f args h r h' else PFn P f args r∧h' =h
def StepR (o:Oper) (s s1:ASt):Prop:=
 match o.op with
 | .call ⟨.value x,args,ts⟩=>
  match evA s x with
  | .func f first cap=> ∃r h',CallR P ow x f (first.map strip++argsA P s (jOf ow x) ts.toList 0 args.toList++cap.map strip) s.hp r h' ∧s1=ASt.put ⟨stripO s.fr (ownArg (jOf ow x) args.toList),h'⟩ o.dst r
  |_=>False
 |_=>stepA P tk o s=some s1
def OneR (o:Oper) (s s1:ASt):Prop:=
 match o.guard with
 |none=>StepR P ow tk o s s1
 |some (j,want)=>
  match (ops[j]?).bind (·.dst) with
  |some d=> ∃q,gval (s.fr d)=some q∧((q=some want∧StepR P ow tk o s s1)∨(q≠some want∧s1=s.put o.dst (.val undef)))
  |none=>False
def pairOK (k i:Oper):Bool:=
 k.apart ops i&&(match srcOf ow tk k with|none=>true|some a=>srcOf ow tk i !=some a&&i.dst !=some a)&&(match srcOf ow tk i with|none=>true|some a=>k.dst !=some a)&&
 (cls P ow tk k==0||cls P ow tk i==0||(cls P ow tk k==1&&cls P ow tk i==1))
end
theorem put_fr (s:ASt) (d:Option Tmp) (v:AV) (t:Nat):(s.put d v).fr t=if some t=d then v else s.fr t:=by
 cases d with
 |none=>simp [ASt.put]
 |some d=>simp only [ASt.put,upd,Option.some.injEq]
theorem put_mk (f:Nat→AV) (h:Hp) (d:Option Tmp) (v:AV) (t:Nat):(ASt.put ⟨f,h⟩ d v).fr t=if some t=d then v else f t:=put_fr _ d v t
theorem put_hp (s:ASt) (d:Option Tmp) (v:AV):(s.put d v).hp=s.hp:=by cases d<;>rfl
theorem strip_strip (a:AV):strip (strip a)=strip a:=strip_of_not (isOwn_iff.2 (strip_notOwn a))
theorem stripO_fr (f:Nat→AV) (src:Option Nat) (t:Nat):stripO f src t=if src=some t then strip (f t) else f t:=by
 cases src with
 |none=>simp [stripO]
 |some k=>
  simp only [stripO,upd,Option.some.injEq]
  by_cases h:t=k
  ·subst h;simp
  ·simp [h,Ne.symm h]
theorem strip_stripO (f:Nat→AV) (src:Option Nat) (t:Nat):strip (stripO f src t)=strip (f t):=by
 rw [stripO_fr];split
 ·exact strip_strip _
 ·rfl
theorem gval_strip (a:AV):gval (strip a)=gval a:=by
 cases a with
 |sl fl sz xs=>cases fl<;>rfl
 |_=>rfl
theorem stripO_gval (f:Nat→AV) (src:Option Nat) (t:Nat):gval (stripO f src t)=gval (f t):=by
 rw [stripO_fr]
 split
 ·exact gval_strip _
 ·rfl
section
variable {P:Program} {ow:FuncId→Option Nat} {ops:Array Oper} {tk:Nat→Bool}
theorem argsA_congr {s t:ASt} {j:Option Nat} {ts:List TypeId} : ∀ {xs:List Operand} {k:Nat},(∀x∈xs,evA s x=evA t x)→(∀i q,xs[i]? =some (.tmp q)→j=some (k+i)→s.fr q=t.fr q)→argsA P s j ts k xs=argsA P t j ts k xs
 | [],k,_,_=>rfl
 |x::xs,k,h1,h2=>by
  simp only [argsA]
  congr 1
  ·have hx:=h1 x (by simp)
   cases x with
   |tmp q=>
    simp only [argA]
    split
    ·rename_i hj;exact h2 0 q rfl (by simpa using hj)
    ·exact hx
   |const v=>rfl
   |func f=>rfl
   |global g=>rfl
  ·exact argsA_congr (fun x hx=>h1 x (by simp [hx])) (fun i q hi hj=>h2 (i+1) q (by simpa using hi) (by rw [hj];congr 1;omega))
theorem stepR_local {o:Oper} {s s1 t:ASt} (h:StepR P ow tk o s s1) (ha:Agree P ow tk o s t):
  ∃src v h',(src=none∨src=srcOf ow tk o)∧s1=ASt.put ⟨stripO s.fr src,h'⟩ o.dst v∧(cls P ow tk o≠2→h' =s.hp)∧StepR P ow tk o t (ASt.put ⟨stripO t.fr src,if cls P ow tk o=2 then h' else t.hp⟩ o.dst v):=by
 unfold StepR at h
 split at h
 ·rename_i x args ts ho
  have hev:=ha.ev
  rw [ho] at hev
  simp only [Op.operands,Call.operands] at hev
  have hx:evA s x=evA t x:=hev x (by simp)
  split at h
  ·rename_i f first cap hf
   obtain ⟨r,h',hp,rfl⟩:=h
   have hsrc:srcOf ow tk o=ownArg (jOf ow x) args.toList:=by simp [srcOf,ho]
   have hargs:argsA P s (jOf ow x) ts.toList 0 args.toList=argsA P t (jOf ow x) ts.toList 0 args.toList:=
    argsA_congr (fun y hy=>hev y (by simp at hy ⊢;exact .inr hy)) (fun i q hi hj=>ha.src q (by rw [hsrc,hj];simp [ownArg,hi]))
   by_cases he:effO (jOf ow x)=true
   ·have hc:cls P ow tk o=2:=by simp [cls,ho,he]
    refine ⟨ownArg (jOf ow x) args.toList,r,h', .inr hsrc.symm,rfl,fun hne=>absurd hc hne, ?_⟩
    simp only [StepR,ho, ←hx,hf]
    refine ⟨r,h', ?_,by rw [hc];rfl⟩
    rw [←hargs, ←ha.hp (by rw [hc];simp)];exact hp
   ·have hc:cls P ow tk o=0:=by simp [cls,ho,he]
    have hp' :=hp
    unfold CallR at hp'
    rw [if_neg he] at hp'
    refine ⟨ownArg (jOf ow x) args.toList,r,h', .inr hsrc.symm,rfl,fun _=>hp'.2, ?_⟩
    simp only [StepR,ho, ←hx,hf]
    refine ⟨r,t.hp, ?_,by rw [hc];rfl⟩
    unfold CallR
    rw [if_neg he]
    exact ⟨hargs▸hp'.1,rfl⟩
  ·exact h.elim
 ·rename_i hno
  obtain ⟨src,v,h',k1,k2,k3,k4⟩:=step_local h ha
  refine ⟨src,v,h',k1,k2,k3, ?_⟩
  unfold StepR
  split
  ·rename_i x args ts ho;exact absurd ho (hno x args ts)
  ·exact k4
theorem oneR_local {o:Oper} {s s1 t:ASt} (h:OneR P ow ops tk o s s1) (ha:Agree P ow tk o s t) (hg: ∀d want q,gslot ops o=some (d,want)→gval (s.fr d)=some q→gval (t.fr d)=some q):
  ∃src v h',(src=none∨src=srcOf ow tk o)∧s1=ASt.put ⟨stripO s.fr src,h'⟩ o.dst v∧(cls P ow tk o≠2→h' =s.hp)∧OneR P ow ops tk o t (ASt.put ⟨stripO t.fr src,if cls P ow tk o=2 then h' else t.hp⟩ o.dst v):=by
 unfold OneR at h
 split at h
 ·rename_i hgd
  obtain ⟨src,v,h',k1,k2,k3,k4⟩:=stepR_local h ha
  exact ⟨src,v,h',k1,k2,k3,by unfold OneR;rw [hgd];exact k4⟩
 ·rename_i j want hgd
  split at h
  ·rename_i d hd
   obtain ⟨b,hb,h⟩:=h
   have htb:=hg d want b (by simp [gslot,hgd,hd]) hb
   rcases h with ⟨h1,h2⟩|⟨h1,h2⟩
   ·obtain ⟨src,v,h',k1,k2,k3,k4⟩:=stepR_local h2 ha
    exact ⟨src,v,h',k1,k2,k3,by unfold OneR;rw [hgd];simp only [hd];exact ⟨b,htb, .inl ⟨h1,k4⟩⟩⟩
   ·refine ⟨none, .val undef,s.hp, .inl rfl,h2,fun _=>rfl, ?_⟩
    unfold OneR;rw [hgd];simp only [hd]
    refine ⟨b,htb, .inr ⟨h1, ?_⟩⟩
    have:(if cls P ow tk o=2 then s.hp else t.hp)=t.hp:=by
     split
     ·rename_i hc;exact ha.hp (by rw [hc];simp)
     ·rfl
    rw [this];rfl
  ·exact h.elim
theorem mem_looksAt {o:Oper} {t:Tmp} (h:Operand.tmp t∈o.op.operands.toList):t∈o.looksAt ops:=by
 unfold Oper.looksAt
 refine List.mem_append.2 (.inl (List.mem_filterMap.2 ⟨.tmp t,h,rfl⟩))
theorem gslot_looksAt {o:Oper} {d:Nat} {want:Bool} (h:gslot ops o=some (d,want)):d∈o.looksAt ops:=by
 unfold gslot at h
 split at h
 ·rename_i j w hg
  unfold Oper.looksAt
  refine List.mem_append.2 (.inr ?_)
  rw [hg]
  cases hb:(ops[j]?).bind (·.dst) with
  |none=>simp [hb] at h
  |some q=>simp [hb] at h;simp [hb,h.1]
 ·cases h
theorem swap {k i:Oper} {s s1 s2:ASt} (hk:OneR P ow ops tk k s s1) (hi:OneR P ow ops tk i s1 s2) (hp:pairOK P ow ops tk k i=true):
  ∃t1,OneR P ow ops tk i s t1∧OneR P ow ops tk k t1 s2:=by
 simp only [pairOK,Bool.and_eq_true] at hp
 obtain ⟨⟨⟨hap,hs1⟩,hs2⟩,hc⟩:=hp
 obtain ⟨a1,a2,a3⟩:=Oper.apart_spec hap
 have hcls:(cls P ow tk k=0∨cls P ow tk i=0)∨(cls P ow tk k=1∧cls P ow tk i=1):=by simpa using hc
 have refl:Agree P ow tk k s s:=⟨fun _ _=>rfl,fun _ _=>rfl,fun _=>rfl⟩
 obtain ⟨srck,vk,hk',k1,k2,k3,_⟩:=oneR_local hk refl (fun _ _ _ _ h=>h)
 have hs1' : ∀a,srcOf ow tk k=some a→srcOf ow tk i≠some a∧i.dst≠some a:=fun a e=>by rw [e] at hs1;simpa using hs1
 have hs2' : ∀a,srcOf ow tk i=some a→k.dst≠some a:=fun a e=>by rw [e] at hs2;simpa using hs2
 have hsk: ∀a,srck=some a→srcOf ow tk k=some a:=fun a e=>by rcases k1 with q|q<;>rw [q] at e;cases e;exact e
 have fr1: ∀t,s1.fr t=if some t=k.dst then vk else stripO s.fr srck t:=fun t=>by rw [k2,put_fr]
 have hp1:s1.hp=hk' :=by rw [k2,put_hp]
 -- the second one minds nothing of the first
 have ag1:Agree P ow tk i s1 s:=by
  refine ⟨fun x hx=> ?_,fun q hq=> ?_,fun hne=> ?_⟩
  ·cases x with
   |tmp t=>
    have hne:some t≠k.dst:=fun e=>a1 t e.symm (mem_looksAt hx)
    simp only [evA]
    rw [fr1,if_neg hne,strip_stripO]
   |_=>rfl
  ·rw [fr1,if_neg (fun e=>hs2' q hq e.symm),stripO_fr,if_neg (fun e=>(hs1' q (hsk q e)).1 hq)]
  ·rw [hp1];exact k3 (by omega)
 have gd1: ∀d want q,gslot ops i=some (d,want)→gval (s1.fr d)=some q→gval (s.fr d)=some q:=fun d want b hg hb=>by
  rw [fr1,if_neg (fun e=>a1 d e.symm (gslot_looksAt hg)),stripO_gval] at hb
  exact hb
 obtain ⟨srci,vi,hi',i1,i2,i3,i4⟩:=oneR_local hi ag1 gd1
 have hsi: ∀a,srci=some a→srcOf ow tk i=some a:=fun a e=>by rcases i1 with q|q<;>rw [q] at e;cases e;exact e
 refine ⟨_,i4, ?_⟩
 have frt: ∀t,(ASt.put ⟨stripO s.fr srci,if cls P ow tk i=2 then hi' else s.hp⟩ i.dst vi).fr t=if some t=i.dst then vi else stripO s.fr srci t:=fun t=>put_fr _ _ _ t
 have ag2:Agree P ow tk k s (ASt.put ⟨stripO s.fr srci,if cls P ow tk i=2 then hi' else s.hp⟩ i.dst vi):=by
  refine ⟨fun x hx=> ?_,fun q hq=> ?_,fun hne=> ?_⟩
  ·cases x with
   |tmp t=>
    have hne:some t≠i.dst:=fun e=>a3 t e.symm (mem_looksAt hx)
    simp only [evA]
    rw [frt,if_neg hne,strip_stripO]
   |_=>rfl
  ·rw [frt,if_neg (fun e=>(hs1' q hq).2 e.symm),stripO_fr,if_neg (fun e=>(hs1' q hq).1 (hsi q e))]
  ·rw [put_hp];rw [if_neg (by omega)]
 have gd2: ∀d want q,gslot ops k=some (d,want)→gval (s.fr d)=some q→gval ((ASt.put ⟨stripO s.fr srci,if cls P ow tk i=2 then hi' else s.hp⟩ i.dst vi).fr d)=some q:=fun d want b hg hb=>by
  rw [frt,if_neg (fun e=>a3 d e.symm (gslot_looksAt hg)),stripO_gval]
  exact hb
 obtain ⟨srck2,vk2,hk2,m1,m2,m3,m4⟩:=oneR_local hk ag2 gd2
 have fin:ASt.put ⟨stripO (ASt.put ⟨stripO s.fr srci,if cls P ow tk i=2 then hi' else s.hp⟩ i.dst vi).fr srck2,if cls P ow tk k=2 then hk2 else (ASt.put ⟨stripO s.fr srci,if cls P ow tk i=2 then hi' else s.hp⟩ i.dst vi).hp⟩ k.dst vk2=s2:=by
  have hsk2: ∀a,srck2=some a→srcOf ow tk k=some a:=fun a e=>by rcases m1 with q|q<;>rw [q] at e;cases e;exact e
  have fr1' : ∀t,s1.fr t=if some t=k.dst then vk2 else stripO s.fr srck2 t:=fun t=>by rw [m2,put_fr]
  have hp1' :s1.hp=hk2:=by rw [m2,put_hp]
  have ext: ∀x y:ASt,(∀t,x.fr t=y.fr t)→x.hp=y.hp→x=y:=fun x y h1 h2=>by
   cases x;cases y;simp only at h1 h2;rw [h2,funext h1]
  refine ext _ _ (fun t=> ?_) ?_
  ·rw [put_mk,i2,put_mk,stripO_fr,stripO_fr,frt,fr1']
   by_cases e1:some t=k.dst
   ·have e2:some t≠i.dst:=fun e=>a2 t e1.symm e.symm
    rw [if_pos e1,if_neg e2,if_neg (fun e=>hs2' t (hsi t e) e1.symm),if_pos e1]
   ·rw [if_neg e1]
    by_cases e2:some t=i.dst
    ·rw [if_pos e2,if_neg (fun e=>(hs1' t (hsk2 t e)).2 e2.symm)]
     simp only [if_pos e2]
    ·rw [if_neg e2]
     simp only [if_neg e2,if_neg e1,stripO_fr]
     by_cases e3:srck2=some t
     ·have e4: ¬srci=some t:=fun e=>(hs1' t (hsk2 t e3)).1 (hsi t e)
      simp [e3,e4]
     ·simp [e3]
  ·rw [put_hp,put_hp,i2,put_hp]
   by_cases e1:cls P ow tk k=2
   ·rw [if_pos e1,i3 (by omega),hp1']
   ·rw [if_neg e1]
    by_cases e2:cls P ow tk i=2
    ·rw [if_pos e2]
    ·rw [if_neg e2,i3 e2,hp1',m3 e1]
 rw [←fin]
 exact m4
end
end Go.Proofs.YtnibelnjflhkgaaGreatDoor.Ab

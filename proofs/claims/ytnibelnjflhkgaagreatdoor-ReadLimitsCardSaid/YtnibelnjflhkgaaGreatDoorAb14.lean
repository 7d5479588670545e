/- Calls: what a function is said to do, and a call as a step of the state. No condition. -/
import Derived.Test.YtnibelnjflhkgaaGreatDoorAb13
namespace Go.Proofs.YtnibelnjflhkgaaGreatDoor.Ab
set_option linter.unusedVariables false
set_option linter.unusedSimpArgs false
open Go.RowKit
def argsF (l:List AV):Nat→AV:=fun i=>l.getD i .junk
def argsV (l:List Value):Nat→Value:=fun i=>l.getD i undef
def enterOK (P : Program) (f : FuncId) : Bool := match P.funcs[f]? with | some fn => !(fn.name == "runtime.NumGoroutine") && fn.body.isSome | none => false
def Fn (P:Program) (f:FuncId) (args:List AV) (h:Hp) (r:AV) (h' :Hp):Prop:=
 enterOK P f=true∧ ∀(vs:List Value) (w:World) (g:Gh),vs.length=args.length→SR ⟨argsF args,h⟩ (argsV vs) w g→Amb g w→
  Calls P f ⟨vs⟩ w fun e w' => ∃v g',e= .returned v∧Tr ⟨argsF args,h⟩ (argsV vs) w g ⟨argsF [r],h'⟩ (argsV [v]) w' g'
def PFn (P:Program) (f:FuncId) (args:List AV) (r:AV):Prop:= ∀h:Hp,Fn P f args h r h
section
variable {s:ASt} {vf:Nat→Value} {w:World} {g:Gh}
theorem SR.args (h:SR s vf w g) {fA:Nat→AV} {vA:Nat→Value} {j0:Nat} {os:Option Nat} (hv: ∀i,VR g w (fA i) (vA i))
  (H: ∀i b,OwnV (fA i) (vA i) b→ ∃t,os=some t∧i=j0∧fA i=s.fr t∧vA i=vf t):
  SR ⟨fA,s.hp⟩ vA w g∧ ∀p b,Own ⟨fA,s.hp⟩ vA w g p b→ ∃q,Own s vf w g q b∧((p=q∧ ∃l j,p= .cell l j)∨(p= .slot j0∧ ∃t,os=some t∧q= .slot t)):=by
 have back: ∀p b,Own ⟨fA,s.hp⟩ vA w g p b→ ∃q,Own s vf w g q b∧((p=q∧ ∃l j,p= .cell l j)∨(p= .slot j0∧ ∃t,os=some t∧q= .slot t)):=by
  intro p b ho
  cases p with
  |slot i=>
   obtain ⟨t,k1,k2,k3,k4⟩:=H i b ho
   refine ⟨.slot t, ?_, .inr ⟨by rw [k2],t,k1,rfl⟩⟩
   simp only [Own] at ho ⊢
   rwa [k3,k4] at ho
  |cell l j=>exact ⟨.cell l j,ho, .inl ⟨rfl,l,j,rfl⟩⟩
 refine ⟨⟨h.n,hv,h.bk,h.inj,h.G,fun i=> ?_,h.tipC,fun p q b hp hq=> ?_⟩,back⟩
 ·intro sz xs b o len cap e1 e2
  obtain ⟨t,_,_,k3,k4⟩:=H i b ⟨sz,xs,o,len,cap,e1,e2⟩
  exact h.tipS t sz xs b o len cap (by rw [←k3];exact e1) (by rw [←k4];exact e2)
 ·obtain ⟨p',hp',e1⟩:=back p b hp
  obtain ⟨q',hq',e2⟩:=back q b hq
  have e:=h.one p' q' b hp' hq'
  rcases e1 with ⟨e1,l1,j1,c1⟩|⟨e1,t1,_,c1⟩<;>rcases e2 with ⟨e2,l2,j2,c2⟩|⟨e2,t2,_,c2⟩
  ·rw [e1,e2,e]
  ·rw [←e1,c1,c2] at e;cases e
  ·rw [←e2,c1,c2] at e;cases e
  ·rw [e1,e2]
theorem SR.ret {sA:ASt} {vA:Nat→Value} {fr1:Nat→AV} {r:AV} {h' :Hp} {v:Value} {w' :World} {g' :Gh} (h:SR s vf w g) (h1:SR ⟨fr1,s.hp⟩ vf w g) (hb1: ∀p b,Own ⟨fr1,s.hp⟩ vf w g p b→Own s vf w g p b)
  (hAs: ∀b,OwnB sA vA w g b→OwnB s vf w g b) (hA1: ∀i b,OwnV (fr1 i) (vf i) b→ ¬OwnB sA vA w g b) (tr:Tr sA vA w g ⟨argsF [r],h'⟩ (argsV [v]) w' g') (d:Option Nat):
  Tr s vf w g (ASt.put ⟨fr1,h'⟩ d r) (match d with|some d=>updv vf d v|none=>vf) w' g' :=by
 have ext:=tr.st.toExt
 have hold: ∀i b,OwnV (fr1 i) (vf i) b→b<w.heap.size∧(∀l,l<g.n→g.ρ l≠b)∧w'.heap[b]? =w.heap[b]? :=fun i b hb=>by
  obtain ⟨k1,k2⟩:=h1.own_lt (p:= .slot i) hb
  exact ⟨k1,k2,tr.st.blk b k1 k2 (hA1 i b hb)⟩
 have tipO: ∀i,Tip g' w' (fr1 i) (vf i):=by
  intro i sz xs b o len cap e1 e2
  have hob:OwnV (fr1 i) (vf i) b:=⟨sz,xs,o,len,cap,e1,e2⟩
  obtain ⟨t1,⟨cur,e,t2,t3⟩,t4,t5⟩:=h1.tipS i sz xs b o len cap e1 e2
  obtain ⟨k1,k2,k3⟩:=hold i b hob
  refine ⟨t1,⟨cur,e,by rw [k3];exact t2,t3⟩,fun j hj hG=> ?_,fun l hl=> ?_⟩
  ·rcases tr.st.newG b j hG with q|q|q
   ·exact t4 j hj q
   ·omega
   ·exact hA1 i b hob q
  ·by_cases hlt:l<g.n
   ·rw [tr.st.ρ l hlt];exact k2 l hlt
   ·have:=tr.st.newρ l (by omega) hl;omega
 have hst:Stp (OwnB s vf w g) g w g' w' := { tr.st with
  blk:=fun k hk hρ hO=>tr.st.blk k hk hρ (fun q=>hO (hAs k q))
  newG:=fun b o hG=>by
   rcases tr.st.newG b o hG with q|q|q
   ·exact .inl q
   ·exact .inr (.inl q)
   ·exact .inr (.inr (hAs b q)) }
 have R0: ∀b,OwnV r v b→Own ⟨argsF [r],h'⟩ (argsV [v]) w' g' (.slot 0) b:=fun b hb=>hb
 have key: ∀(fr2:Nat→AV) (vf2:Nat→Value),(∀i,(some i=d∧fr2 i=r∧vf2 i=v)∨(some i≠d∧fr2 i=fr1 i∧vf2 i=vf i))→Tr s vf w g ⟨fr2,h'⟩ vf2 w' g' :=by
  intro fr2 vf2 hf
  have back: ∀p b,Own ⟨fr2,h'⟩ vf2 w' g' p b→(∃q,Own ⟨argsF [r],h'⟩ (argsV [v]) w' g' q b∧((p=q∧ ∃l j,p= .cell l j)∨(q= .slot 0∧ ∃i,some i=d∧p= .slot i)))∨(∃i,p= .slot i∧some i≠d∧OwnV (fr1 i) (vf i) b):=by
   intro p b ho
   cases p with
   |slot i=>
    simp only [Own] at ho
    rcases hf i with ⟨k1,k2,k3⟩|⟨k1,k2,k3⟩
    ·rw [k2,k3] at ho;exact .inl ⟨.slot 0,R0 b ho, .inr ⟨rfl,i,k1,rfl⟩⟩
    ·rw [k2,k3] at ho;exact .inr ⟨i,rfl,k1,ho⟩
   |cell l j=>exact .inl ⟨.cell l j,ho, .inl ⟨rfl,l,j,rfl⟩⟩
  have clash: ∀q i b,Own ⟨argsF [r],h'⟩ (argsV [v]) w' g' q b→OwnV (fr1 i) (vf i) b→False:=by
   intro q i b hq hi
   rcases tr.ow b ⟨q,hq⟩ with k|k
   ·exact hA1 i b hi k
   ·have:=(hold i b hi).1;omega
  refine ⟨⟨tr.sr.n,fun i=> ?_,tr.sr.bk,tr.sr.inj,tr.sr.G,fun i=> ?_,tr.sr.tipC,fun p q b hp hq=> ?_⟩,hst,fun b ⟨p,hp⟩=> ?_⟩
  ·show VR g' w' (fr2 i) (vf2 i)
   rcases hf i with ⟨k1,k2,k3⟩|⟨k1,k2,k3⟩
   ·have:=tr.sr.fr 0;simp only [argsF,argsV,List.getD_cons_zero] at this;rw [k2,k3];exact this
   ·rw [k2,k3];exact (h1.fr i).mono ext
  ·show Tip g' w' (fr2 i) (vf2 i)
   rcases hf i with ⟨k1,k2,k3⟩|⟨k1,k2,k3⟩
   ·have:=tr.sr.tipS 0;simp only [argsF,argsV,List.getD_cons_zero] at this;rw [k2,k3];exact this
   ·rw [k2,k3];exact tipO i
  ·rcases back p b hp with ⟨p',hp',e1⟩|⟨i,e1,k1,o1⟩<;>rcases back q b hq with ⟨q',hq',e2⟩|⟨i',e2,k2,o2⟩
   ·have e:=tr.sr.one p' q' b hp' hq'
    rcases e1 with ⟨e1,l1,j1,c1⟩|⟨e1,t1,c1,f1⟩<;>rcases e2 with ⟨e2,l2,j2,c2⟩|⟨e2,t2,c2,f2⟩
    ·rw [e1,e2,e]
    ·rw [←e1,c1,e2] at e;cases e
    ·rw [←e2,e1,c2] at e;cases e
    ·rw [f1,f2];rw [←c1] at c2;rw [Option.some.inj c2]
   ·exact (clash p' i' b hp' o2).elim
   ·exact (clash q' i b hq' o1).elim
   ·have:=h1.one (.slot i) (.slot i') b o1 o2
    rw [e1,e2,Pl.slot.inj this]
  ·rcases back p b hp with ⟨p',hp',_⟩|⟨i,e1,k1,o1⟩
   ·rcases tr.ow b ⟨p',hp'⟩ with k|k
    ·exact .inl (hAs b k)
    ·exact .inr k
   ·exact .inl ⟨.slot i,hb1 (.slot i) b o1⟩
 cases d with
 |none=>exact key fr1 vf (fun i=> .inr ⟨by simp,rfl,rfl⟩)
 |some d=>
  refine key (upd fr1 d r) (updv vf d v) (fun i=> ?_)
  by_cases hi:i=d
  ·subst hi;exact .inl ⟨rfl,by simp,by simp⟩
  ·exact .inr ⟨by simpa using hi,upd_ne _ _ hi,updv_ne _ _ hi⟩
end
def argA (P:Program) (s:ASt) (own:Bool) (x:Operand) (ty:Option TypeId):AV:=
 match x with
 | .tmp t=>if own then s.fr t else strip (s.fr t)
 | .const v=>if constOK v then typA (ty.bind (elT P)) (strip (constA 0 v)) else .junk
 |x=>evA s x
def argsA (P:Program) (s:ASt) (j:Option Nat) (ts:List TypeId):Nat→List Operand→List AV
 |_, []=> []
 |k,x::xs=>argA P s (j==some k) x (ts[k]?)::argsA P s j ts (k+1) xs
def ownArg (j:Option Nat) (xs:List Operand):Option Nat:=
 match j with
 |some j=>match xs[j]? with|some (.tmp t)=>some t|_=>none
 |none=>none
def stripO (f:Nat→AV):Option Nat→Nat→AV
 |some t=>upd f t (strip (f t))
 |none=>f
section
variable {P:Program} {s:ASt} {a:Act} {w:World} {g:Gh}
theorem argA_vr (h:SR s (vfa a) w g) (own:Bool) (x:Operand) (ty:Option TypeId):VR g w (argA P s own x ty) (a.eval x):=by
 cases x with
 |tmp t=>simp only [argA];split;exact h.fr t;exact (h.fr t).strip
 |const v=>simp only [argA];split;exact typA_vr (constA_vr' 0 ‹_›).strip;exact .junk _
 |func f=>simp only [argA];exact evA_vr h _
 |global _=>simp only [argA];exact evA_vr h _
theorem argA_not (h:SR s (vfa a) w g) (x:Operand) (ty:Option TypeId):NotOwn (argA P s false x ty):=by
 cases x with
 |tmp t=>exact strip_notOwn _
 |const v=>simp only [argA];split;exact typA_notOwn (strip_notOwn _);exact fun _ _ e=>by cases e
 |func f=>simp only [argA];exact evA_not _ _
 |global _=>simp only [argA];exact evA_not _ _
theorem argsA_vl (h:SR s (vfa a) w g) (j:Option Nat) (ts:List TypeId) (k:Nat) (xs:List Operand):VL g w (argsA P s j ts k xs) (xs.map a.eval):=by
 induction xs generalizing k with
 |nil=>exact .nil
 |cons x xs ih=>exact .cons _ _ _ _ (argA_vr h _ x _) (ih (k+1))
theorem argsA_len (j:Option Nat) (ts:List TypeId) (k:Nat) (xs:List Operand):(argsA P s j ts k xs).length=xs.length:=by
 induction xs generalizing k with
 |nil=>rfl
 |cons x xs ih=>simp [argsA,ih]
theorem argsA_get (j:Option Nat) (ts:List TypeId) (k:Nat) (xs:List Operand) (i:Nat):(argsA P s j ts k xs)[i]? =(xs[i]?).map fun x=>argA P s (j==some (k+i)) x (ts[k+i]?):=by
 induction xs generalizing k i with
 |nil=>simp [argsA]
 |cons x xs ih=>
  cases i with
  |zero=>simp [argsA]
  |succ i=>simp only [argsA,List.getElem?_cons_succ];rw [ih (k+1) i];rw [show k+1+i=k+(i+1) by omega]
theorem VL_strip {cs:List AV} {vs:List Value} (h:VL g w cs vs):VL g w (cs.map strip) vs:=by
 induction cs generalizing vs with
 |nil=>cases h;exact .nil
 |cons c cs ih=>cases h with|cons _ _ v vs h2 t=>exact .cons _ _ _ _ h2.strip (ih t)
theorem VL.append {cs vs ds us} (h:VL g w cs vs) (k:VL g w ds us):VL g w (cs++ds) (vs++us):=by
 induction cs generalizing vs with
 |nil=>cases h;simpa using k
 |cons c cs ih=>cases h with|cons _ _ v vs h2 t=>simpa using VL.cons _ _ _ _ h2 (ih t)
theorem VL.at {cs vs} (h:VL g w cs vs) (i:Nat):VR g w (argsF cs i) (argsV vs i):=by
 by_cases hi:i<cs.length
 ·obtain ⟨v,h1,h2⟩:=h.get (List.getElem?_eq_getElem hi)
  simpa [argsF,argsV,h1,List.getElem?_eq_getElem hi] using h2
 ·have:argsF cs i= .junk:=by simp [argsF,List.getElem?_eq_none (Nat.le_of_not_lt hi)]
  rw [this];exact .junk _
theorem run_callv {o:Oper} {x:Operand} {args:Array Operand} {ts:Array TypeId} {f:FuncId} {us cs:List Value} (ho:o.op= .call ⟨.value x,args,ts⟩) (hx:a.eval x= .func (.func f) ⟨us⟩ ⟨cs⟩) (hf:enterOK P f=true):
  (execOp a.eval o).run P w= .ok (.enter f ⟨us++args.toList.map a.eval++cs⟩) w:=by
 unfold enterOK at hf
 cases hfn:P.funcs[f]? with
 |none=>simp [hfn] at hf
 |some fn=>
  simp [hfn] at hf
  have hb:fn.body.isNone=false:=by cases h:fn.body<;>simp_all
  simp only [execOp,ho,resolve,Deferred.ofValue,hx,Sem.run_bind,Sem.run_pure,Result.andThen_ok,invoke,callFunc,run_program,hfn,Option.isSome_iff_ne_none]
  simp [hf.1,hb]
theorem call_wp {o:Oper} {x:Operand} {args:Array Operand} {ts:Array TypeId} {f:FuncId} {first cap:List AV} {j:Option Nat} {r:AV} {h' :Hp} {K:Act→World→Prop} {Q:Exit→Act→World→Prop}
  (hs:SR s (vfa a) w g) (hab:Amb g w) (hd: ∀d,o.dst=some d→d<a.tmps.size) (ho:o.op= .call ⟨.value x,args,ts⟩) (hx:evA s x= .func f first cap)
  (hF:Fn P f (first.map strip++argsA P s j ts.toList 0 args.toList++cap.map strip) s.hp r h')
  (hK: ∀v w' g',Tr s (vfa a) w g (ASt.put ⟨stripO s.fr (ownArg j args.toList),h'⟩ o.dst r) (vfa (a.put o.dst v)) w' g' →K (a.put o.dst v) w'):o.wp P a w K Q:=by
 have hv:=evA_vr hs x
 rw [hx] at hv
 generalize hu:a.eval x=u at hv
 cases hv with
 |func _ _ _ us cs hus hcs=>
 obtain ⟨hen,hcall⟩:=hF
 have hrun:=run_callv (P:=P) (w:=w) (a:=a) ho hu hen
 have hvl:=((VL_strip hus).append (argsA_vl (P:=P) hs j ts.toList 0 args.toList)).append (VL_strip hcs)
 have hH: ∀i b,OwnV (argsF (first.map strip++argsA P s j ts.toList 0 args.toList++cap.map strip) i) (argsV (us++args.toList.map a.eval++cs) i) b→
   ∃t,ownArg j args.toList=some t∧i=first.length+j.getD 0∧argsF (first.map strip++argsA P s j ts.toList 0 args.toList++cap.map strip) i=s.fr t∧argsV (us++args.toList.map a.eval++cs) i=vfa a t:=by
  intro i b hob
  have hlen1:(first.map strip).length=first.length:=by simp
  have hl1:us.length=first.length:=hus.length.symm
  have hal:(argsA P s j ts.toList 0 args.toList).length=args.toList.length:=argsA_len _ _ _ _
  by_cases h1:i<first.length
  ·exfalso
   refine not_ownV ?_ hob
   simp only [argsF,List.getD_eq_getElem?_getD]
   rw [List.append_assoc,List.getElem?_append_left (by omega),List.getElem?_map]
   cases hq:first[i]? with
   |none=>simp;exact fun _ _ e=>by cases e
   |some q=>simpa using strip_notOwn q
  ·by_cases h2:i<first.length+args.toList.length
   ·have e1:argsF (first.map strip++argsA P s j ts.toList 0 args.toList++cap.map strip) i=((argsA P s j ts.toList 0 args.toList)[i-first.length]?).getD .junk:=by
     simp only [argsF,List.getD_eq_getElem?_getD]
     rw [List.getElem?_append_left (by rw [List.length_append,hlen1,hal];omega),List.getElem?_append_right (by omega),hlen1]
    have hi2:i-first.length<args.toList.length:=by omega
    rw [argsA_get,List.getElem?_eq_getElem hi2] at e1
    simp only [Option.map_some,Option.getD_some,Nat.zero_add] at e1
    have e2:argsV (us++args.toList.map a.eval++cs) i=a.eval (args.toList[i-first.length]):=by
     simp only [argsV,List.getD_eq_getElem?_getD]
     rw [List.getElem?_append_left (by simp at h2 ⊢;omega),List.getElem?_append_right (by omega),hl1,List.getElem?_map,List.getElem?_eq_getElem hi2]
     rfl
    by_cases hj:(j==some (i-first.length))=true
    ·rw [hj] at e1
     have hj' :j=some (i-first.length):=by simpa using hj
     cases hop:args.toList[i-first.length] with
     |tmp t=>
      rw [hop] at e1 e2
      refine ⟨t, ?_, ?_, ?_, ?_⟩
      ·simp [ownArg,hj',List.getElem?_eq_getElem hi2,hop]
      ·rw [hj'];simp;omega
      ·rw [e1];simp [argA]
      ·rw [e2];rfl
     |const v=>
      exfalso;rw [e1,hop] at hob
      simp only [argA] at hob
      split at hob
      ·exact not_ownV (typA_notOwn (strip_notOwn _)) hob
      ·obtain ⟨_,_,_,_,_,q,_⟩:=hob;cases q
     |func _=>exfalso;rw [e1,hop] at hob;simp only [argA] at hob;exact not_ownV (evA_not _ _) hob
     |global _=>exfalso;rw [e1,hop] at hob;simp only [argA] at hob;exact not_ownV (evA_not _ _) hob
    ·exfalso
     have hj' :(j==some (i-first.length))=false:=by simpa using hj
     rw [e1,hj'] at hob
     exact not_ownV (argA_not hs _ _) hob
   ·exfalso
    refine not_ownV ?_ hob
    simp only [argsF,List.getD_eq_getElem?_getD]
    rw [List.getElem?_append_right (by rw [List.length_append,hlen1,hal];omega),List.getElem?_map]
    cases hq:cap[i-(first.map strip++argsA P s j ts.toList 0 args.toList).length]? with
    |none=>simp;exact fun _ _ e=>by cases e
    |some q=>simpa using strip_notOwn q
 obtain ⟨hA,hAb⟩:=hs.args (fun i=>hvl.at i) hH
 have hc:=hcall (us++args.toList.map a.eval++cs) w g hvl.length.symm hA hab
 have h1:SR ⟨stripO s.fr (ownArg j args.toList),s.hp⟩ (vfa a) w g∧(∀p b,Own ⟨stripO s.fr (ownArg j args.toList),s.hp⟩ (vfa a) w g p b→Own s (vfa a) w g p b∧ ∀t,ownArg j args.toList=some t→p≠ .slot t):=by
  cases ownArg j args.toList with
  |none=>exact ⟨hs,fun p b hp=>⟨hp,fun t e=>by cases e⟩⟩
  |some t=>exact ⟨(hs.stripSlot t).1,fun p b hp=>⟨((hs.stripSlot t).2 p b hp).1,fun t' e=>by cases e;exact ((hs.stripSlot t).2 p b hp).2⟩⟩
 unfold Oper.wp
 rw [hrun]
 refine Calls.mono hc fun e w' he=> ?_
 obtain ⟨v,g',rfl,tr⟩:=he
 have tr' :=hs.ret (fr1:=stripO s.fr (ownArg j args.toList)) h1.1 (fun p b hp=>(h1.2 p b hp).1) (fun b ⟨p,hp⟩=>let ⟨q,hq,_⟩:=hAb p b hp;⟨q,hq⟩) (fun i b hob ⟨p,hp⟩=>by
  obtain ⟨m1,m2⟩:=h1.2 (.slot i) b hob
  obtain ⟨q,hq,hpq⟩:=hAb p b hp
  have:=hs.one (.slot i) q b m1 hq
  rcases hpq with ⟨e1,l,j',e2⟩|⟨_,t,ht,e2⟩
  ·rw [←e1,e2] at this;cases this
  ·exact m2 t ht (this.trans e2)) tr o.dst
 refine hK v w' g' ?_
 cases hdst:o.dst with
 |none=>rw [hdst] at tr';exact tr'
 |some d=>rw [hdst] at tr';rw [vfa_put (hd d hdst)];exact tr'
end
end Go.Proofs.YtnibelnjflhkgaaGreatDoor.Ab

/- Rows of operations, and code: what is to be shown of an abstract state so that the machine's run comes to what is wanted. No condition. -/
import Derived.Test.YtnibelnjflhkgaaGreatDoorAb14
namespace Go.Proofs.YtnibelnjflhkgaaGreatDoor.Ab
set_option linter.unusedVariables false
set_option linter.unusedSimpArgs false
open Go.RowKit
def jOf (ow:FuncId→Option Nat):Operand→Option Nat
 | .func f=>ow f
 |_=>none
def takes (ow:FuncId→Option Nat) (ops:List Oper):List Nat:=
 ops.filterMap fun o=>match o.op with
  | .call ⟨.builtin .append,args,_⟩=>match args.toList with| .tmp t::_=>some t|_=>none
  | .call ⟨.value x,args,_⟩=>ownArg (jOf ow x) args.toList
  | .assign (.tmp t)=>some (t+1000000)
  |_=>none
def gval:AV→Option (Option Bool)
 | .bool b=>some (some b)
 | .val (.tuple _)=>some none
 |_=>none
section
variable (P:Program) (ow:FuncId→Option Nat) (nt:Nat) (ops:Array Oper) (tk:Nat→Bool)
def AOp1 (o:Oper) (K:ASt→Prop) (s:ASt):Prop:=
 match o.op with
 | .call ⟨.value x,args,ts⟩=>
  match evA s x with
  | .func f first cap=> ∃r h',Fn P f (first.map strip++argsA P s (jOf ow x) ts.toList 0 args.toList++cap.map strip) s.hp r h' ∧K (ASt.put ⟨stripO s.fr (ownArg (jOf ow x) args.toList),h'⟩ o.dst r)
  |_=>False
 |_=>match stepA P tk o s with|some s' =>K s' |none=>False
def dstOK (o:Oper):Bool:=match o.dst with|some d=>decide (d<nt)|none=>true
def AOps (K:ASt→Prop):List Oper→ASt→Prop
 | [],s=>K s
 |o::os,s=>
  dstOK nt o=true∧
  match o.guard with
  |none=>AOp1 P ow tk o (AOps K os) s
  |some (j,want)=>
   match (ops[j]?).bind (·.dst) with
   |some d=>match gval (s.fr d) with
    |some q=>(q=some want→AOp1 P ow tk o (AOps K os) s)∧(q≠some want→AOps K os (s.put o.dst (.val undef)))
    |none=>False
   |none=>False
end
section
variable {P:Program} {ow:FuncId→Option Nat} {nt:Nat} {ops:Array Oper} {tk:Nat→Bool}
theorem put_size (a:Act) (d:Option Tmp) (v:Value):(a.put d v).tmps.size=a.tmps.size∧(a.put d v).defers=a.defers:=by
 cases d<;>simp [Act.put]
structure Inv (nt:Nat) (s0:ASt) (vf0:Nat→Value) (w0:World) (g0:Gh) (s:ASt) (a:Act) (w:World):Prop where
 size:a.tmps.size=nt
 defers:a.defers= []
 base:SR s0 vf0 w0 g0
 amb:Amb g0 w0
 tr: ∃g,Tr s0 vf0 w0 g0 s (vfa a) w g
theorem op1_sound {s0 vf0 w0 g0} {o:Oper} {K:ASt→Prop} {s:ASt} {a:Act} {w:World} {Kc:Act→World→Prop} {Q:Exit→Act→World→Prop}
  (hd:dstOK nt o=true) (h:AOp1 P ow tk o K s) (hi:Inv nt s0 vf0 w0 g0 s a w) (hK: ∀s' v w',K s' →Inv nt s0 vf0 w0 g0 s' (a.put o.dst v) w' →Kc (a.put o.dst v) w'):o.wp P a w Kc Q:=by
 obtain ⟨g,tr⟩:=hi.tr
 have hdl: ∀d,o.dst=some d→d<a.tmps.size:=fun d e=>by simp only [dstOK,e] at hd;rw [hi.size];simpa using hd
 have mk: ∀s' v w' g',Tr s (vfa a) w g s' (vfa (a.put o.dst v)) w' g' →Inv nt s0 vf0 w0 g0 s' (a.put o.dst v) w' :=fun s' v w' g' t=>
  ⟨(put_size a o.dst v).1.trans hi.size,(put_size a o.dst v).2.trans hi.defers,hi.base,hi.amb,g',Tr.trans hi.base tr t⟩
 unfold AOp1 at h
 split at h
 ·rename_i x args ts ho
  split at h
  ·rename_i f first cap hx
   obtain ⟨r,h',hF,hk⟩:=h
   exact call_wp tr.sr (hi.amb.ext tr.st.toExt) hdl ho hx hF fun v w' g' t=>hK _ v w' hk (mk _ v w' g' t)
  ·exact h.elim
 ·split at h
  ·rename_i s' hs
   obtain ⟨n,v,w',g',h1,h2,h3⟩:=stepA_does hs a w g tr.sr hdl
   unfold Oper.wp
   rw [h1]
   rcases h2 with rfl|⟨rfl,rfl⟩
   ·exact hK s' v w' h (mk _ v w' g' h3)
   ·exact hK s' undef w' h (mk _ undef w' g' h3)
  ·exact h.elim
theorem inv_junk {s0 vf0 w0 g0} {s:ASt} {a:Act} {w:World} (hi:Inv nt s0 vf0 w0 g0 s a w) (d:Option Tmp) (hd: ∀d',d=some d' →d' <a.tmps.size):Inv nt s0 vf0 w0 g0 (s.put d (.val undef)) (a.put d undef) w:=by
 obtain ⟨g,tr⟩:=hi.tr
 refine ⟨(put_size a d undef).1.trans hi.size,(put_size a d undef).2.trans hi.defers,hi.base,hi.amb,g,Tr.trans hi.base tr ?_⟩
 cases d with
 |none=>exact Tr.refl tr.sr
 |some d=>
  rw [vfa_put (hd d rfl)]
  exact tr.sr.put d (.val _) (fun b ⟨_,_,_,_,_,e,_⟩=>by cases e)
theorem wanted_guard {s:ASt} {a:Act} {w:World} {g:Gh} {o:Oper} {j d:Nat} {want:Bool} {q:Option Bool} (hs:SR s (vfa a) w g) (hg:o.guard=some (j,want)) (hj:(ops[j]?).bind (·.dst)=some d) (hb:gval (s.fr d)=some q):
  Region.wanted o (yielded ops a.tmps)=decide (q=some want):=by
 have hv:=hs.fr d
 have hva:vfa a d=a.tmps.getD d undef:=rfl
 cases hf:s.fr d<;>rw [hf] at hb hv<;>simp only [gval,reduceCtorEq] at hb
 ·rename_i b
  simp only [Option.some.injEq] at hb;subst hb
  have e:a.tmps.getD d undef= .bool b:=by rw [←hva];generalize vfa a d=u at hv;cases hv;rfl
  have e2:a.tmps[d]? =some (.bool b):=by
   rw [Array.getD_eq_getD_getElem?] at e
   cases h:a.tmps[d]? with
   |none=>rw [h] at e;simp [undef] at e
   |some v=>rw [h] at e;simp at e;rw [e]
  simp only [Region.wanted,hg,yielded,hj,Option.bind_some,e2]
  cases b<;>cases want<;>rfl
 ·rename_i u
  cases u<;>simp only [gval,reduceCtorEq] at hb
  simp only [Option.some.injEq] at hb;subst hb
  rename_i ws
  have e:a.tmps.getD d undef= .tuple ws:=by rw [←hva];generalize vfa a d=u at hv;cases hv;rfl
  have e2:a.tmps[d]? =some (.tuple ws)∨a.tmps[d]? =none:=by
   rw [Array.getD_eq_getD_getElem?] at e
   cases h:a.tmps[d]? with
   |none=>exact .inr rfl
   |some v=>rw [h] at e;simp at e;rw [e];exact .inl rfl
  rcases e2 with e2|e2<;>(simp only [Region.wanted,hg,yielded,hj,Option.bind_some,e2];cases want<;>rfl)
theorem ops_sound {s0 vf0 w0 g0} {K:ASt→Prop} {Q:Exit→Act→World→Prop} (hQ: ∀s a w,K s→Inv nt s0 vf0 w0 g0 s a w→Q .normal a w): ∀(l:List Oper) (s:ASt) (a:Act) (w:World),
  AOps P ow nt ops tk K l s→Inv nt s0 vf0 w0 g0 s a w→wpList P ops Q l a w
 | [],s,a,w,h,hi=>hQ s a w h hi
 |o::os,s,a,w,h,hi=>by
  obtain ⟨hd,h⟩:=h
  have hdl: ∀d,o.dst=some d→d<a.tmps.size:=fun d e=>by simp only [dstOK,e] at hd;rw [hi.size];simpa using hd
  unfold wpList
  split at h
  ·rename_i hg
   rw [if_pos (by simp [Region.wanted,hg])]
   exact .inl (op1_sound hd h hi fun s' v w' hk hi' =>ops_sound hQ os s' _ w' hk hi')
  ·rename_i j want hg
   split at h
   ·rename_i d hj
    split at h
    ·rename_i q hb
     obtain ⟨g,tr⟩:=hi.tr
     rw [wanted_guard tr.sr hg hj hb]
     by_cases hbw:q=some want
     ·rw [if_pos (by simpa using hbw)]
      exact .inl (op1_sound hd (h.1 hbw) hi fun s' v w' hk hi' =>ops_sound hQ os s' _ w' hk hi')
     ·rw [if_neg (by simpa using hbw)]
      exact ops_sound hQ os _ _ w (h.2 hbw) (inv_junk hi o.dst hdl)
    ·exact h.elim
   ·exact h.elim
end
end Go.Proofs.YtnibelnjflhkgaaGreatDoor.Ab

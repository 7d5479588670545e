/- Functions: out of a body, and what is known of one already. No condition. -/
import Derived.Test.YtnibelnjflhkgaaGreatDoorAb19
namespace Go.Proofs.YtnibelnjflhkgaaGreatDoor.Ab
set_option linter.unusedVariables false
set_option linter.unusedSimpArgs false
open Go.RowKit
def weak1:AV→AV
 | .sl _ sz xs=> .sl .sh sz xs
 |a=>a
def Wk (a b:AV):Prop:=b=a∨b=weak1 a∨ ∃vs,a= .tup vs∧b= .tup (vs.map weak1)
def resA1 (P:Program) (s:ASt):ResultVar→Option AV
 | .tmp t=>some (s.fr t)
 | .cell a ty=>match strip (s.fr a) with| .ptr l o=>loadA P s.hp ty (.ptr l o)|_=>none
def resL (P:Program) (s:ASt):List ResultVar→Option (List AV)
 | []=>some []
 |r::rs=>match resA1 P s r,resL P s rs with|some a,some l=>some (strip a::l)|_,_=>none
def resA (P:Program) (s:ASt) (rs:List ResultVar):Option AV:=
 match rs with
 | [r]=>resA1 P s r
 |rs=>(resL P s rs).map .tup
def labM (m:Nat) (es:List (AV×AV)):Bool:=es.all fun p=>labOK m p.1&&labOK m p.2
def Shrink (h h1 h' :Hp):Prop:=h.n≤h'.n∧h'.n≤h1.n∧ ∀l,l<h'.n→h'.bk l=h1.bk l∧((l<h.n∧h1.bk l=h.bk l)∨match h1.bk l with| .cells cs=>labL h'.n cs=true| .map es=>labM h'.n es=true)
def retQ (P:Program) (fn:Func) (h:Hp) (r:AV) (h' :Hp):AX→ASt→Prop
 | .exit _,_=>False
 |_,s=>(∃a,resA P s fn.results.toList=some a∧Wk a r)∧labOK h'.n r=true∧Shrink h s.hp h'
section
variable {P:Program} {g:Gh} {w:World}
theorem weak1_vr {a:AV} {v:Value} (h:VR g w a v):VR g w (weak1 a) v:=by
 cases h with
 |sl0 fl sz=>exact .sl0 _ _
 |sle fl sz a cap h1 h2=>exact .sle _ _ _ _ h1 (.inl rfl)
 |sl fl sz xs b o cap h1 h2 h3 h4 h5=>exact .sl .sh sz xs b o cap h1 h2 (fun e=>by cases e) h4 h5
 |junk v=>exact .junk v
 |bool b=>exact .bool b
 |int k n=>exact .int k n
 |str l=>exact .str l
 |agg cs vs h=>exact .agg cs vs h
 |tup cs vs h=>exact .tup cs vs h
 |pnil=>exact .pnil
 |ptr l o h=>exact .ptr l o h
 |eptr cs b o h=>exact .eptr cs b o h
 |hs l o len sz cap h1 h2 h3=>exact .hs l o len sz cap h1 h2 h3
 |mp l h=>exact .mp l h
 |mnil=>exact .mnil
 |func f xs ys us vs h h' =>exact .func f xs ys us vs h h'
 |fnil=>exact .fnil
 |val v=>exact .val v
theorem weak1_not (a:AV):NotOwn (weak1 a):=by
 cases a<;>intro _ _ e<;>simp [weak1] at e
theorem wk_vr {a b:AV} {v:Value} (h:VR g w a v) (hw:Wk a b):VR g w b v:=by
 rcases hw with rfl|rfl|⟨vs,rfl,rfl⟩
 ·exact h
 ·exact weak1_vr h
 ·cases h with
  |tup _ us hl=>
   refine .tup _ us ?_
   induction vs generalizing us with
   |nil=>cases hl;exact .nil
   |cons c cs ih=>cases hl with|cons _ _ v vs h2 t=>exact .cons _ _ _ _ (weak1_vr h2) (ih _ t)
theorem wk_own {a b:AV} (hw:Wk a b) (hb: ¬NotOwn b):b=a:=by
 rcases hw with rfl|rfl|⟨vs,rfl,rfl⟩
 ·rfl
 ·exact absurd (weak1_not a) hb
 ·exact absurd (fun _ _ e=>by cases e) hb
def resVar (tmps:Array Value):ResultVar→Sem Value
 | .tmp t=>pure (tmps.getD t undef)
 | .cell ad t=>do loadVar t (←asAddr (tmps.getD ad undef))
theorem results_eq (fn:Func) (tmps:Array Value):results fn tmps=(do let vs ←fn.results.mapM (resVar tmps);pure (if h:vs.size=1 then vs[0] else .tuple vs)):=by
 unfold results
 first|rfl|(congr 1;done)|(congr 1;congr 1;funext r;cases r<;>rfl)
theorem run_res1 {s:ASt} {a:Act} (hs:SR s (vfa a) w g) {r:ResultVar} {x:AV} (h:resA1 P s r=some x):
  ∃v,(resVar a.tmps r).run P w= .ok v w∧VR g w x v∧(NotOwn x∨ ∃t,x=s.fr t∧v=vfa a t):=by
 cases r with
 |tmp t=>simp only [resA1,Option.some.injEq] at h;subst h;exact ⟨vfa a t,rfl,hs.fr t, .inr ⟨t,rfl,rfl⟩⟩
 |cell ad ty=>
  simp only [resA1] at h
  split at h
  ·rename_i l o hp
   have hv:=(hs.fr ad).strip
   rw [hp] at hv
   have hvv:vfa a ad=a.tmps.getD ad undef:=rfl
   rw [hvv] at hv
   generalize hu:a.tmps.getD ad undef=u at hv
   have hv' :=hv
   cases hv with
   |ptr _ _ hl=>
   obtain ⟨z,h1,h2,h3⟩:=run_loadA (P:=P) hs hv' h
   refine ⟨z, ?_,h2, .inl h3⟩
   simp only [resVar,Sem.run_bind,hu,asAddr,Sem.run_pure,Result.andThen_ok]
   simpa [Instr.loadAt,Instr.sureAddr] using h1
  ·cases h
theorem run_resL {s:ASt} {a:Act} (hs:SR s (vfa a) w g): ∀ {rs:List ResultVar} {xs:List AV},resL P s rs=some xs→
  ∃vs,(rs.mapM (resVar a.tmps)).run P w= .ok vs w∧VL g w xs vs∧vs.length=rs.length
 | [],xs,h=>by simp only [resL,Option.some.injEq] at h;subst h;exact ⟨[],by simp, .nil,rfl⟩
 |r::rs,xs,h=>by
  simp only [resL] at h
  split at h
  ·rename_i x l h1 h2
   simp only [Option.some.injEq] at h;subst h
   obtain ⟨v,k1,k2,_⟩:=run_res1 hs h1
   obtain ⟨vs,m1,m2,m3⟩:=run_resL hs h2
   exact ⟨v::vs,by simp only [List.mapM_cons,Sem.run_bind,k1,Result.andThen_ok,m1,Sem.run_pure], .cons _ _ _ _ k2.strip m2,by simp [m3]⟩
  ·cases h
theorem run_res {s:ASt} {a:Act} {fn:Func} (hs:SR s (vfa a) w g) {x:AV} (h:resA P s fn.results.toList=some x):
  ∃v,(results fn a.tmps).run P w= .ok v w∧VR g w x v∧(NotOwn x∨ ∃t,x=s.fr t∧v=vfa a t):=by
 have e:(results fn a.tmps).run P w=((fn.results.toList.mapM (resVar a.tmps)).run P w).andThen fun vs w' => .ok (if h:vs.length=1 then vs[0] else .tuple ⟨vs⟩) w' :=by
  rw [results_eq]
  simp only [Sem.run_bind,Array.mapM_eq_mapM_toList,Sem.run_map,Sem.run_pure]
  generalize (List.mapM (resVar a.tmps) fn.results.toList).run P w=q
  cases q<;>simp [Result.andThen]
 rw [e]
 unfold resA at h
 split at h
 ·rename_i r hr
  obtain ⟨v,k1,k2,k3⟩:=run_res1 hs h
  refine ⟨v, ?_,k2,k3⟩
  rw [hr]
  simp only [List.mapM_cons,List.mapM_nil,Sem.run_bind,k1,Result.andThen_ok,Sem.run_pure]
  simp
 ·rename_i hne
  cases hq:resL P s fn.results.toList with
  |none=>simp [hq] at h
  |some xs=>
   simp [hq] at h;subst h
   obtain ⟨vs,m1,m2,m3⟩:=run_resL hs hq
   refine ⟨.tuple ⟨vs⟩, ?_, .tup _ _ m2, .inl fun _ _ e=>by cases e⟩
   rw [m1]
   have:vs.length≠1:=fun e1=>by
    rw [m3] at e1
    match hl:fn.results.toList,e1 with
    | [r],_=>exact hne r hl
   simp [this]
theorem argsF_vfa (vs:List Value) (n:Nat):vfa { tmps:=⟨vs⟩++Array.replicate n undef,defers:= [] } =argsV vs:=by
 funext i
 simp only [vfa,argsV,Array.getD_eq_getD_getElem?,List.getD_eq_getElem?_getD]
 by_cases hi:i<vs.length
 ·rw [Array.getElem?_append_left (by simpa using hi)];simp
 ·rw [Array.getElem?_append_right (by simpa using Nat.le_of_not_lt hi),List.getElem?_eq_none (by omega),Array.getElem?_replicate]
  split<;>rfl
theorem fn_introW {f:FuncId} {fn:Func} {c:Code} {args:List AV} {h:Hp} {r:AV} {h' :Hp} (hf:P.funcs[f]? =some fn) (hb:fn.body=some c)
  (hname : (fn.name == "runtime.NumGoroutine") = false) (hlen : args.length ≤ fn.ntmps) (hc : ∀ s0 vf0 w0 g0 a w, Inv fn.ntmps s0 vf0 w0 g0 ⟨argsF args, h⟩ a w → c.wp P (liftQ fn.ntmps s0 vf0 w0 g0 (retQ P fn h r h')) a w) : Fn P f args h r h' := by
 refine ⟨by simp [enterOK,hf,hname,hb],fun vs w g hvl hs hab=> ?_⟩
 have hvf:=argsF_vfa vs (fn.ntmps-(⟨vs⟩:Array Value).size)
 have hinv:Inv fn.ntmps ⟨argsF args,h⟩ (argsV vs) w g ⟨argsF args,h⟩ { tmps:=⟨vs⟩++Array.replicate (fn.ntmps-(⟨vs⟩:Array Value).size) undef,defers:= [] } w:=
  ⟨by simp;omega,rfl,hs,hab,g,by rw [hvf];exact Tr.refl hs⟩
 refine calls_of_wp hf hb (wp_mono (hc _ _ _ _ _ w hinv) fun e a w' hq=> ?_)
 have main: ∀s,((∃x,resA P s fn.results.toList=some x∧Wk x r)∧labOK h'.n r=true∧Shrink h s.hp h')→Inv fn.ntmps ⟨argsF args,h⟩ (argsV vs) w g s a w' →
   a.defers= []∧ ∃v,(results fn a.tmps).run P w' = .ok v w' ∧ ∃v_1 g',Ending.returned v= .returned v_1∧Tr ⟨argsF args,h⟩ (argsV vs) w g ⟨argsF [r],h'⟩ (argsV [v_1]) w' g' :=by
  rintro s ⟨⟨x,hx,hwk⟩,hlab,hn0,hn,hsh⟩ hi
  obtain ⟨g1,tr⟩:=hi.tr
  obtain ⟨v,k1,k2,k3⟩:=run_res (fn:=fn) tr.sr hx
  refine ⟨hi.defers,v,k1,v, { g1 with n:=h'.n },rfl, ?_⟩
  have hsr:=tr.sr
  have hn1:g1.n=s.hp.n:=hsr.n
  have hn' :h'.n≤g1.n:=by omega
  have dv: ∀ {a v},VR g1 w' a v→labOK h'.n a=true→VR { g1 with n:=h'.n } w' a v:=(drop_all (g:=g1) (w:=w') h'.n).1
  have dc: ∀ {cs vs},CL g1 w' cs vs→labL h'.n cs=true→CL { g1 with n:=h'.n } w' cs vs:=(drop_all (g:=g1) (w:=w') h'.n).2
  have back: ∀p b,Own ⟨argsF [r],h'⟩ (argsV [v]) w' { g1 with n:=h'.n } p b→ ∃q,Own s (vfa a) w' g1 q b∧((p=q∧ ∃l j,p= .cell l j)∨(p= .slot 0∧ ∃t,q= .slot t∧x=s.fr t∧v=vfa a t)):=by
   intro p b ho
   cases p with
   |slot i=>
    cases i with
    |zero=>
     have ho' :OwnV r v b:=ho
     have hno: ¬NotOwn r:=fun hno=>not_ownV hno ho'
     have e:=wk_own hwk hno
     rw [e] at ho' hno
     rcases k3 with k3|⟨t,k3,k4⟩
     ·exact absurd k3 hno
     ·exact ⟨.slot t,by simp only [Own];rw [←k3, ←k4];exact ho', .inr ⟨rfl,t,rfl,k3,k4⟩⟩
    |succ i=>
     exfalso
     obtain ⟨_,_,_,_,_,e,_⟩:=ho
     simp [argsF] at e
   |cell l j=>
    obtain ⟨hl,cs,av,u,h1,h2,h3,h4⟩:=ho
    simp only at hl h1
    rw [(hsh l hl).1] at h1
    exact ⟨.cell l j,⟨by omega,cs,av,u,h1,h2,h3,h4⟩, .inl ⟨rfl,l,j,rfl⟩⟩
  have tip: ∀av u,Tip g1 w' av u→Tip { g1 with n:=h'.n } w' av u:=by
   intro av u ht sz xs b o len cap e1 e2
   obtain ⟨t1,t2,t4,t5⟩:=ht sz xs b o len cap e1 e2
   exact ⟨t1,t2,t4,fun l hl=>t5 l (by simp only at hl;omega)⟩
  have hbk: ∀l,l<h'.n→BR { g1 with n:=h'.n } w' (h'.bk l) (g1.ρ l):=by
   intro l hl
   obtain ⟨e1,e2⟩:=hsh l hl
   have hb1:=hsr.bk l (by omega)
   rw [e1]
   rcases e2 with ⟨e2,e4⟩|e2
   ·have hb0:=hs.bk l (by rw [hs.n];exact e2)
    simp only at hb0
    rw [←e4] at hb0
    cases hbl:s.hp.bk l with
    |cells cs=>
     rw [hbl] at hb0 hb1
     obtain ⟨us,ws,e,fr,q1,q2,q3⟩:=hb1
     obtain ⟨us0,ws0,e0,fr0,p1,p2,_⟩:=hb0
     have:=(lab_all (g:=g) (w:=w) trivial).2.2 p2
     refine ⟨us,ws,e,fr,q1,dc q2 ?_,q3⟩
     rw [labL_all] at this ⊢
     intro c hc
     have h1:=this c hc
     rw [hs.n] at h1
     exact lab_mono h1 hn0
    |map es=>
     rw [hbl] at hb0 hb1
     obtain ⟨us,cl,q1,q2,q3,q4⟩:=hb1
     obtain ⟨us0,cl0,p1,p2,p3,p4⟩:=hb0
     refine ⟨us,cl,q1, ?_,q3,q4⟩
     have: ∀(es:List (AV×AV)) us0 us,ML g w es us0→ML g1 w' es us→ML { g1 with n:=h'.n } w' es us:=by
      intro es
      induction es with
      |nil=>intro us0 us _ h;cases h;exact .nil
      |cons e es ih=>
       intro us0 us h1 h2
       cases h1 with
       |cons _ _ _ e0 l0 hk hv t=>
       cases h2 with
       |cons _ _ _ e1 l1 hk1 hv1 t1=>
       have l1:=(lab_all (g:=g) (w:=w) trivial).1 hk
       have l2:=(lab_all (g:=g) (w:=w) trivial).1 hv
       rw [hs.n] at l1 l2
       exact .cons _ _ _ _ _ (dv hk1 (lab_mono l1 hn0)) (dv hv1 (lab_mono l2 hn0)) (ih _ _ t t1)
     exact this es us0 us p2 q2
   ·cases hbl:s.hp.bk l with
    |cells cs=>
     rw [hbl] at hb1 e2
     obtain ⟨us,ws,e,fr,q1,q2,q3⟩:=hb1
     exact ⟨us,ws,e,fr,q1,dc q2 e2,q3⟩
    |map es=>
     rw [hbl] at hb1 e2
     obtain ⟨us,cl,q1,q2,q3,q4⟩:=hb1
     refine ⟨us,cl,q1, ?_,q3,q4⟩
     clear q1 q3 q4 hbl
     have e2' :labM h'.n es=true:=e2
     clear e2
     induction q2 with
     |nil=>exact .nil
     |cons k v es e l hk hv _ ih=>
      simp only [labM,List.all_cons,Bool.and_eq_true] at e2'
      exact .cons _ _ _ _ _ (dv hk e2'.1.1) (dv hv e2'.1.2) (ih e2'.2)
  have hgn:g.n≤h'.n:=by rw [hs.n];exact hn0
  refine ⟨⟨rfl,fun i=> ?_,hbk,fun l l' hl hl' e=>hsr.inj l l' (by simp only at hl;omega) (by simp only at hl';omega) e,fun b o hG=> ?_,fun i=> ?_,fun l j cs av u hl q1 q2 q3=> ?_,fun p q b hp hq=> ?_⟩, ?_,fun b ⟨p,hp⟩=> ?_⟩
  ·cases i with
   |zero=>exact dv (wk_vr k2 hwk) hlab
   |succ i=>simp [argsF];exact .junk _
  ·obtain ⟨q1,q2⟩:=hsr.G b o hG
   exact ⟨q1,fun l hl=>q2 l (by simp only at hl;omega)⟩
  ·cases i with
   |zero=>
    intro sz xs b o len cap e1 e2
    have hno: ¬NotOwn r:=fun hno=>hno sz xs e1
    have e:=wk_own hwk hno
    rcases k3 with k3|⟨t,k3,k4⟩
    ·exact absurd (e▸k3) hno
    ·exact tip _ _ (hsr.tipS t) sz xs b o len cap (by rw [←k3, ←e];exact e1) (by rw [←k4];exact e2)
   |succ i=>exact tip_notOwn (by simp [argsF];exact fun _ _ e=>by cases e)
  ·simp only at hl q1
   rw [(hsh l hl).1] at q1
   exact tip _ _ (hsr.tipC l j cs av u (by omega) q1 q2 q3)
  ·obtain ⟨p',hp',e1⟩:=back p b hp
   obtain ⟨q',hq',e2⟩:=back q b hq
   have e:=hsr.one p' q' b hp' hq'
   rcases e1 with ⟨e1,l1,j1,c1⟩|⟨e1,t1,c1,_⟩<;>rcases e2 with ⟨e2,l2,j2,c2⟩|⟨e2,t2,c2,_⟩
   ·rw [e1,e2,e]
   ·rw [←e1,c1,c2] at e;cases e
   ·rw [←e2,c1,c2] at e;cases e
   ·rw [e1,e2]
  ·exact { tr.st with n:=hgn,newρ:=fun l q1 q2=>tr.st.newρ l q1 (by simp only at q2;omega) }
  ·obtain ⟨q,hq,_⟩:=back p b hp
   exact tr.ow b ⟨q,hq⟩
 cases e with
 |normal=>obtain ⟨s,hq,hi⟩:=hq;exact main s hq hi
 |ret=>obtain ⟨s,hq,hi⟩:=hq;exact main s hq hi
 |exit i=>obtain ⟨s,hq,hi⟩:=hq;exact hq.elim
 |goto l=>exact hq.elim
 |panic ch=>exact hq.elim
 |outgrown=>exact hq.elim
theorem fn_intro {ow:FuncId→Option Nat} {f:FuncId} {fn:Func} {c:Code} {args:List AV} {h:Hp} {r:AV} {h' :Hp} (hm:P.follows .mixedOrders=true) (hf:P.funcs[f]? =some fn) (hb:fn.body=some c)
  (hname : (fn.name == "runtime.NumGoroutine") = false) (hlen : args.length ≤ fn.ntmps) (hc : ACode P ow fn.ntmps c (retQ P fn h r h') ⟨argsF args, h⟩) : Fn P f args h r h' := by
 exact fn_introW hf hb hname hlen fun s0 vf0 w0 g0 a w hi=>code_sound hm c _ _ _ w hc hi
end
end Go.Proofs.YtnibelnjflhkgaaGreatDoor.Ab

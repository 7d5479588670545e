/- Rows of operations whose order is drawn, on: every order is sound. No condition. -/
import Derived.Test.YtnibelnjflhkgaaGreatDoorAb17
namespace Go.Proofs.YtnibelnjflhkgaaGreatDoor.Ab
set_option linter.unusedVariables false
set_option linter.unusedSimpArgs false
open Go.RowKit
section
variable (P:Program) (ow:FuncId→Option Nat) (nt:Nat) (ops:Array Oper) (tk:Nat→Bool)
def AOp1D (o:Oper) (K:ASt→Prop) (s:ASt):Prop:=
 match o.op with
 | .call ⟨.value x,args,ts⟩=>
  match evA s x with
  | .func f first cap=> ∃r h',CallR P ow x f (first.map strip++argsA P s (jOf ow x) ts.toList 0 args.toList++cap.map strip) s.hp r h' ∧K (ASt.put ⟨stripO s.fr (ownArg (jOf ow x) args.toList),h'⟩ o.dst r)
  |_=>False
 |_=>match stepA P tk o s with|some s' =>K s' |none=>False
def AOpsD (K:ASt→Prop):List Oper→ASt→Prop
 | [],s=>K s
 |o::os,s=>
  match o.guard with
  |none=>AOp1D P ow tk o (AOpsD K os) s
  |some (j,want)=>
   match (ops[j]?).bind (·.dst) with
   |some d=>match gval (s.fr d) with
    |some q=>(q=some want→AOp1D P ow tk o (AOpsD K os) s)∧(q≠some want→AOpsD K os (s.put o.dst (.val undef)))
    |none=>False
   |none=>False
def RunR:List Oper→ASt→ASt→Prop
 | [],s,s' =>s' =s
 |o::os,s,s' => ∃s1,OneR P ow ops tk o s s1∧RunR os s1 s'
def maskOf (o:Oper) (acc:List Nat):Nat:=o.after.toList.foldl (fun m e=>if Region.binds .any e then m|||(2 ^ e.on|||acc.getD e.on 0) else m) 0
def ancs:List Oper→List Nat→List Nat
 | [],acc=>acc
 |o::os,acc=>ancs os (acc++ [maskOf o acc])
def backOK:Nat→List Oper→Bool
 |_, []=>true
 |k,o::os=>o.after.all (fun e=> !Region.binds .any e||decide (e.on<k))&&backOK (k+1) os
def indepOK:Bool:=
 backOK 0 ops.toList&&ops.toList.all (dstOK nt)&&
 (List.range ops.size).all fun i=>(List.range i).all fun k=>((ancs ops.toList []).getD i 0).testBit k||(match ops[k]?,ops[i]? with|some ok,some oi=>pairOK P ow ops tk ok oi|_,_=>true)
end
section
variable {P:Program} {ow:FuncId→Option Nat} {nt:Nat} {ops:Array Oper} {tk:Nat→Bool}
theorem op1D_step {o:Oper} {K:ASt→Prop} {s:ASt} (h:AOp1D P ow tk o K s): ∃s1,StepR P ow tk o s s1∧K s1:=by
 unfold AOp1D at h
 unfold StepR
 split at h
 ·rename_i x args ts ho
  split at h
  ·rename_i f first cap hf
   obtain ⟨r,h',hp,hk⟩:=h
   simp only [ho,hf]
   exact ⟨_,⟨r,h',hp,rfl⟩,hk⟩
  ·exact h.elim
 ·rename_i hno
  split at h
  ·rename_i s' hs
   refine ⟨s', ?_,h⟩
   split
   ·rename_i x args ts ho;exact absurd ho (hno x args ts)
   ·exact hs
  ·exact h.elim
theorem step_op1 {o:Oper} {s s1:ASt} (h:StepR P ow tk o s s1):AOp1 P ow tk o (fun x=>x=s1) s:=by
 unfold StepR at h
 unfold AOp1
 split at h
 ·rename_i x args ts ho
  split at h
  ·rename_i f first cap hf
   obtain ⟨r,h',hp,rfl⟩:=h
   simp only [ho,hf]
   refine ⟨r,h', ?_,rfl⟩
   unfold CallR at hp
   split at hp
   ·exact hp
   ·obtain ⟨hp,rfl⟩:=hp;exact hp s.hp
  ·exact h.elim
 ·rename_i hno
  split
  ·rename_i x args ts ho;exact absurd ho (hno x args ts)
  ·rw [h]
theorem opsD_run {K:ASt→Prop} : ∀(l:List Oper) (s:ASt),AOpsD P ow ops tk K l s→ ∃s',RunR P ow ops tk l s s' ∧K s'
 | [],s,h=>⟨s,rfl,h⟩
 |o::os,s,h=>by
  unfold AOpsD at h
  have fin: ∀s1,OneR P ow ops tk o s s1→AOpsD P ow ops tk K os s1→ ∃s',RunR P ow ops tk (o::os) s s' ∧K s' :=fun s1 h1 h2=>by
   obtain ⟨s',q1,q2⟩:=opsD_run os s1 h2
   exact ⟨s',⟨s1,h1,q1⟩,q2⟩
  split at h
  ·rename_i hg
   obtain ⟨s1,h1,h2⟩:=op1D_step h
   exact fin s1 (by unfold OneR;rw [hg];exact h1) h2
  ·rename_i j want hg
   split at h
   ·rename_i d hd
    split at h
    ·rename_i b hb
     by_cases hbw:b=some want
     ·obtain ⟨s1,h1,h2⟩:=op1D_step (h.1 hbw)
      exact fin s1 (by unfold OneR;rw [hg];simp only [hd];exact ⟨b,hb, .inl ⟨hbw,h1⟩⟩) h2
     ·exact fin _ (by unfold OneR;rw [hg];simp only [hd];exact ⟨b,hb, .inr ⟨hbw,by first|rfl|trivial⟩⟩) (h.2 hbw)
    ·exact h.elim
   ·exact h.elim
theorem run_first {i:Oper} {post:List Oper} : ∀(pre:List Oper) (s s' :ASt),RunR P ow ops tk (pre++i::post) s s' →(∀k∈pre,pairOK P ow ops tk k i=true)→ ∃s1,OneR P ow ops tk i s s1∧RunR P ow ops tk (pre++post) s1 s'
 | [],s,s',h,_=>h
 |k::pre,s,s',⟨sk,h1,h2⟩,hp=>by
  obtain ⟨s1,q1,q2⟩:=run_first pre sk s' h2 (fun x hx=>hp x (by simp [hx]))
  obtain ⟨t1,r1,r2⟩:=swap h1 q1 (hp k (by simp))
  exact ⟨t1,r1,s1,r2,q2⟩
def Closed (ops:Array Oper) (L:Nat→Prop):Prop:= ∀(m:Nat) (o:Oper),ops[m]? =some o→L m→ ∀e∈o.after,Region.binds .any e=true→L e.on
theorem mask_spec {L:Nat→Prop} {acc:List Nat} {k:Nat} : ∀(es:List Edge) (m:Nat),(∀e∈es,Region.binds .any e=true→L e.on∧((acc.getD e.on 0).testBit k=true→L k))→(m.testBit k=true→L k)→
  (es.foldl (fun m e=>if Region.binds .any e then m|||(2 ^ e.on|||acc.getD e.on 0) else m) m).testBit k=true→L k
 | [],m,_,hm,h=>hm h
 |e::es,m,he,hm,h=>by
  refine mask_spec es _ (fun e' he' =>he e' (by simp [he'])) (fun hb=> ?_) h
  dsimp only at hb
  split at hb
  ·rename_i hbd
   obtain ⟨k1,k2⟩:=he e (by simp) hbd
   simp only [Nat.testBit_or,Bool.or_eq_true] at hb
   rcases hb with hb|hb|hb
   ·exact hm hb
   ·rw [Nat.testBit_two_pow] at hb
    have:e.on=k:=by simpa using hb
    exact this▸k1
   ·exact k2 hb
  ·exact hm hb
theorem ancs_spec {L:Nat→Prop} {k:Nat} (hcl:Closed ops L): ∀(os:List Oper) (acc:List Nat),(∀j,os[j]? =ops[acc.length+j]?)→
  backOK acc.length os=true→
  (∀m o,m<acc.length→ops[m]? =some o→(∀e∈o.after,Region.binds .any e=true→L e.on)→(acc.getD m 0).testBit k=true→L k)→
  ∀m o,ops[m]? =some o→m<acc.length+os.length→(∀e∈o.after,Region.binds .any e=true→L e.on)→((ancs os acc).getD m 0).testBit k=true→L k
 | [],acc,_,_,hacc,m,o,ho,hm,he,hb=>hacc m o (by simpa using hm) ho he hb
 |o0::os,acc,hops,hbk,hacc,m,o,ho,hm,he,hb=>by
  simp only [backOK,Bool.and_eq_true] at hbk
  refine ancs_spec hcl os (acc++ [maskOf o0 acc]) (fun j=> ?_) (by simpa using hbk.2) ?_ m o ho (by simp at hm ⊢;omega) he hb
  ·have:=hops (j+1)
   simp only [List.getElem?_cons_succ] at this
   rw [this];congr 1;simp;omega
  ·intro m' o' hm' ho' he' hb'
   simp at hm'
   by_cases hlt:m' <acc.length
   ·rw [List.getD_eq_getElem?_getD,List.getElem?_append_left hlt, ←List.getD_eq_getElem?_getD] at hb'
    exact hacc m' o' hlt ho' he' hb'
   ·have e1:m' =acc.length:=by omega
    subst e1
    rw [List.getD_eq_getElem?_getD,List.getElem?_append_right (Nat.le_refl _)] at hb'
    simp only [Nat.sub_self,List.getElem?_cons_zero,Option.getD_some] at hb'
    have h0:=hops 0
    simp only [List.getElem?_cons_zero,Nat.add_zero] at h0
    rw [←h0] at ho'
    cases ho'
    refine mask_spec o0.after.toList 0 (fun e hem hbd=> ?_) (fun h=>by simp at h) hb'
    have hem' :e∈o0.after:=by simpa using hem
    have hlt:e.on<acc.length:=by
     have:=Array.all_eq_true_iff_forall_mem.1 hbk.1 e hem'
     simp only [hbd,Bool.not_true,Bool.false_or,decide_eq_true_eq] at this
     exact this
    refine ⟨he' e hem' hbd,fun hbit=> ?_⟩
    have hL:=he' e hem' hbd
    cases hoe:ops[e.on]? with
    |none=>
     have h1:=(hacc e.on)
     exfalso
     have hsz:acc.length<ops.size:=(Array.getElem?_eq_some_iff.1 h0.symm).1
     have:e.on<ops.size:=by omega
     simp at hoe;omega
    |some oe=>exact hacc e.on oe hlt hoe (fun e2 h2 h3=>hcl e.on oe hoe hL e2 h2 h3) hbit
def lst (listed:Array Bool) (m:Nat):Prop:=listed.getD m false=true
theorem any_sound {s0 vf0 w0 g0} {K:ASt→Prop} {Q:Exit→Act→World→Prop} (hin:indepOK P ow nt ops tk=true) (hQ: ∀s a w,K s→Inv nt s0 vf0 w0 g0 s a w→Q .normal a w):
  ∀(fuel:Nat) (listed:Array Bool) (rem:List Nat) (s s' :ASt) (a:Act) (w:World),listed.size=ops.size→rem=(List.range ops.size).filter (fun i=> !listed.getD i true)→rem.length≤fuel→Closed ops (lst listed)→
   RunR P ow ops tk (rem.filterMap (ops[·]?)) s s' →K s' →Inv nt s0 vf0 w0 g0 s a w→wpAny P .any ops Q fuel listed a w:=by
 simp only [indepOK,Bool.and_eq_true] at hin
 obtain ⟨⟨hback,hdst⟩,hind⟩:=hin
 -- what may come next is not held back
 have hmem: ∀ {listed:Array Bool} {i:Nat},i∈(List.range ops.size).filter (fun i=> !listed.getD i true)↔i<ops.size∧listed.getD i true=false:=fun {listed i} =>by simp
 intro fuel
 induction fuel with
 |zero=>
  intro listed rem s s' a w hls hrem hlen hcl hrun hk hi
  have hnil:rem= []:=List.eq_nil_of_length_eq_zero (by omega)
  rw [hnil] at hrun
  simp only [List.filterMap_nil,RunR] at hrun
  subst hrun
  refine ⟨?_,hQ _ a w hk hi⟩
  apply List.eq_nil_iff_forall_not_mem.2
  intro j hj
  obtain ⟨h1,o,h2,_⟩:=mem_ready.1 hj
  have:j∈rem:=by rw [hrem];exact hmem.2 ⟨(Array.getElem?_eq_some_iff.1 h2).1,h1⟩
  rw [hnil] at this;cases this
 |succ fuel ih=>
  intro listed rem s s' a w hls hrem hlen hcl hrun hk hi
  refine ⟨fun hnone=> ?_,fun i hir=> ?_⟩
  · -- nothing is ready: nothing is left
   have hnil:rem= []:=by
    cases hr:rem with
    |nil=>rfl
    |cons i0 rest=>
     exfalso
     have hi0:i0∈rem:=by rw [hr];simp
     have hmin: ∀j,j<i0→listed.getD j false=true∨ ¬j<ops.size:=by
      intro j hj
      by_cases hjs:j<ops.size
      ·left
       have hjn:j∉rem:=by
        intro hjm
        have hsorted:rem.Pairwise (· < ·):=by rw [hrem];exact (List.pairwise_lt_range).filter _
        rw [hr] at hsorted hjm
        simp only [List.mem_cons] at hjm
        rcases hjm with e|hjm
        ·omega
        ·have:=List.rel_of_pairwise_cons hsorted hjm;omega
       rw [hrem] at hjn
       have h2: ¬listed.getD j true=false:=fun e=>hjn (hmem.2 ⟨hjs,e⟩)
       have hjl:j<listed.size:=by omega
       simp only [Array.getD_eq_getD_getElem?,Array.getElem?_eq_getElem hjl,Option.getD_some] at h2 ⊢
       simpa using h2
      ·exact .inr hjs
     rw [hrem] at hi0
     obtain ⟨hlt,hun⟩:=hmem.1 hi0
     have ho:ops[i0]? =some ops[i0]:=Array.getElem?_eq_getElem hlt
     have hrd:i0∈Region.ready .any ops listed:=by
      refine mem_ready.2 ⟨hun,ops[i0],ho,fun e he hb=> ?_⟩
      have hb0: ∀(k:Nat) (os:List Oper),backOK k os=true→ ∀j o,os[j]? =some o→ ∀e∈o.after,Region.binds .any e=true→e.on<k+j:=by
       intro k os
       induction os generalizing k with
       |nil=>intro _ j o hj;simp at hj
       |cons o1 os ihb=>
        intro hb j o hj e he hbd
        simp only [backOK,Bool.and_eq_true] at hb
        cases j with
        |zero=>
         simp at hj;subst hj
         have:=Array.all_eq_true_iff_forall_mem.1 hb.1 e he
         simp only [hbd,Bool.not_true,Bool.false_or,decide_eq_true_eq] at this
         omega
        |succ j=>have:=ihb (k+1) hb.2 j o (by simpa using hj) e he hbd;omega
      have hlt2:=hb0 0 ops.toList hback i0 ops[i0] (by simp) e he hb
      rcases hmin e.on (by omega) with h|h
      ·exact h
      ·omega
     rw [hnone] at hrd;cases hrd
   rw [hnil] at hrun
   simp only [List.filterMap_nil,RunR] at hrun
   subst hrun
   exact hQ _ a w hk hi
  ·obtain ⟨hun,oi,hoi,hall⟩:=mem_ready.1 hir
   have hlt:=(Array.getElem?_eq_some_iff.1 hoi).1
   have hiR:i∈rem:=by rw [hrem];exact hmem.2 ⟨hlt,hun⟩
   obtain ⟨pre,post,hsplit⟩:=List.append_of_mem hiR
   have hsorted:rem.Pairwise (· < ·):=by rw [hrem];exact (List.pairwise_lt_range).filter _
   have hpre: ∀k∈pre,k<i∧k<ops.size∧listed.getD k true=false:=by
    intro k hkp
    rw [hsplit] at hsorted
    have h1:=(List.pairwise_append.1 hsorted).2.2 k hkp i (by simp)
    have h2:k∈rem:=by rw [hsplit];simp [hkp]
    rw [hrem] at h2
    obtain ⟨h3,h4⟩:=hmem.1 h2
    exact ⟨h1,h3,h4⟩
   have hpost: ∀k∈post,i<k:=by
    intro k hkp
    rw [hsplit] at hsorted
    have h1:=(List.pairwise_append.1 hsorted).2.1
    exact List.rel_of_pairwise_cons h1 hkp
   have hpairs: ∀ok∈pre.filterMap (ops[·]?),pairOK P ow ops tk ok oi=true:=by
    intro ok hok
    obtain ⟨k,hkp,hko⟩:=List.mem_filterMap.1 hok
    obtain ⟨h1,h2,h3⟩:=hpre k hkp
    have h4:=List.all_eq_true.1 (List.all_eq_true.1 hind i (List.mem_range.2 hlt)) k (List.mem_range.2 h1)
    simp only [Bool.or_eq_true] at h4
    rcases h4 with h4|h4
    ·exfalso
     have:=ancs_spec (L:=lst listed) (k:=k) hcl ops.toList [] (by simp) (by simpa using hback) (by simp) i oi hoi (by simpa using hlt) hall h4
     have hkl:k<listed.size:=by omega
     simp only [lst,Array.getD_eq_getD_getElem?,Array.getElem?_eq_getElem hkl,Option.getD_some] at this h3
     rw [this] at h3;cases h3
    ·simpa [hko,hoi] using h4
   have hfm:rem.filterMap (ops[·]?)=pre.filterMap (ops[·]?)++oi::post.filterMap (ops[·]?):=by
    rw [hsplit,List.filterMap_append,List.filterMap_cons_some hoi]
   rw [hfm] at hrun
   obtain ⟨s1,h1,h2⟩:=run_first _ s s' hrun hpairs
   have hdo:dstOK nt oi=true:=List.all_eq_true.1 hdst oi (by simpa using Array.mem_of_getElem? hoi)
   have hdl: ∀d,oi.dst=some d→d<a.tmps.size:=fun d e=>by simp only [dstOK,e] at hdo;rw [hi.size];simpa using hdo
   -- what is left behind it
   have hcl' :Closed ops (lst (listed.setIfInBounds i true)):=by
    intro m o ho hm e he hb
    simp only [lst] at hm ⊢
    by_cases hmi:m=i
    ·subst hmi
     rw [hoi] at ho;cases ho
     exact getD_set_true (hall e he hb)
    ·rw [getD_set_ne false (Ne.symm hmi)] at hm
     exact getD_set_true (hcl m o ho hm e he hb)
   have hrem' :pre++post=(List.range ops.size).filter (fun j=> !(listed.setIfInBounds i true).getD j true):=by
    have e1:(List.range ops.size).filter (fun j=> !(listed.setIfInBounds i true).getD j true)=rem.filter (fun j=>decide (j≠i)):=by
     rw [hrem,List.filter_filter]
     apply List.filter_congr
     intro j hj
     by_cases hji:j=i
     ·subst hji
      have:j<listed.size:=by omega
      simp [this]
     ·rw [getD_set_ne true (Ne.symm hji)];simp [hji]
    rw [e1,hsplit,List.filter_append,List.filter_cons]
    simp only [ne_eq,not_true_eq_false,decide_false,Bool.false_eq_true,if_false]
    rw [List.filter_eq_self.2 (fun k hk=>by have:=(hpre k hk).1;simp;omega),List.filter_eq_self.2 (fun k hk=>by have:=hpost k hk;simp;omega)]
   have hlen' :(pre++post).length≤fuel:=by rw [hsplit] at hlen;simp at hlen ⊢;omega
   have next: ∀v w',Inv nt s0 vf0 w0 g0 s1 (a.put oi.dst v) w' →wpAny P .any ops Q fuel (listed.setIfInBounds i true) (a.put oi.dst v) w' :=fun v w' hi' =>
    ih _ (pre++post) s1 s' _ w' (by simpa using hls) hrem' hlen' hcl' (by rw [List.filterMap_append];exact h2) hk hi'
   unfold wpOp
   simp only [hoi]
   unfold OneR at h1
   split at h1
   ·rename_i hg
    rw [if_pos (by simp [Region.wanted,hg])]
    exact .inl (op1_sound hdo (step_op1 h1) hi fun s2 v w' e hi' =>by subst e;exact next v w' hi')
   ·rename_i j want hg
    split at h1
    ·rename_i d hd
     obtain ⟨b,hb,h1⟩:=h1
     obtain ⟨g,tr⟩:=hi.tr
     rw [wanted_guard tr.sr hg hd hb]
     rcases h1 with ⟨hbw,h1⟩|⟨hbw,h1⟩
     ·rw [if_pos (by simpa using hbw)]
      exact .inl (op1_sound hdo (step_op1 h1) hi fun s2 v w' e hi' =>by subst e;exact next v w' hi')
     ·rw [if_neg (by simpa using hbw)]
      subst h1
      exact next undef w (inv_junk hi oi.dst hdl)
    ·exact h1.elim
theorem inv_drew {s0 vf0 w0 g0} {s:ASt} {a:Act} {w:World} (hi:Inv nt s0 vf0 w0 g0 s a w):Inv nt s0 vf0 w0 g0 s a { w with drawn:=w.drawn+1 } :=by
 obtain ⟨g,tr⟩:=hi.tr
 refine ⟨hi.size,hi.defers,hi.base,hi.amb,g,⟨?_, ?_,fun b ⟨p,hp⟩=>tr.ow b ⟨p, ?_⟩⟩⟩
 ·exact tr.sr.frame rfl (fun _ _=>rfl) (fun _ _ h=>h) (fun _ _ h=> .inl h) (Nat.le_refl _) (fun _ _ _=>rfl) (fun _ _=>rfl) (fun _ _ _=>rfl)
 ·exact { tr.st with os:=tr.st.os,tape:=tr.st.tape,output:=tr.st.output,size:=tr.st.size,blk:=tr.st.blk,newG:=tr.st.newG,newρ:=tr.st.newρ,cell:=tr.st.cell }
 ·cases p with
  |slot i=>exact hp
  |cell l j=>exact hp
theorem region_sound {s0 vf0 w0 g0} {id:Nat} {draw:Bool} {K:ASt→Prop} {Q:Exit→Act→World→Prop} (hm:P.follows .mixedOrders=true) {s:ASt} {a:Act} {w:World}
  (h:if draw then indepOK P ow nt ops tk=true∧AOpsD P ow ops tk K ops.toList s else AOps P ow nt ops tk K ops.toList s) (hi:Inv nt s0 vf0 w0 g0 s a w)
  (hQ: ∀s a w,K s→Inv nt s0 vf0 w0 g0 s a w→Q .normal a w):(Code.region id ops draw).wp P Q a w:=by
 cases draw with
 |false=>exact wp_region_list (ops_sound hQ _ s a w h hi)
 |true=>
  simp only [if_true] at h
  obtain ⟨s',h1,h2⟩:=opsD_run _ s h.2
  refine wp_region_any hm (any_sound h.1 hQ ops.size _ ((List.range ops.size).filter fun i=> !(Array.replicate ops.size false).getD i true) s s' a _ (by simp) rfl (by
   refine Nat.le_trans (List.length_filter_le _ _) (by simp)) (fun m o ho hl=>by
    simp only [lst,Array.getD_eq_getD_getElem?] at hl
    have:=(Array.getElem?_eq_some_iff.1 ho).1
    rw [Array.getElem?_eq_getElem (by simpa using this)] at hl
    simp at hl) ?_ h2 (inv_drew hi))
  have e1:((List.range ops.size).filter fun i=> !(Array.replicate ops.size false).getD i true)=List.range ops.size:=by
   apply List.filter_eq_self.2
   intro i hi
   have:i<ops.size:=List.mem_range.1 hi
   simp [Array.getD_eq_getD_getElem?,this]
  have e2:(List.range ops.size).filterMap (ops[·]?)=ops.toList:=by
   rw [←Array.length_toList]
   have: ∀l:List Oper,(List.range l.length).filterMap (l[·]?)=l:=by
    intro l
    induction l with
    |nil=>rfl
    |cons x l ih=>
     rw [List.length_cons,List.range_succ_eq_map,List.filterMap_cons_some (b:=x) (by simp),List.filterMap_map]
     congr 1
   simpa using this ops.toList
  rw [e1,e2]
  exact h1
end
end Go.Proofs.YtnibelnjflhkgaaGreatDoor.Ab

/- Rows of operations whose order is drawn, on: any orders, as a tree. No condition. -/
import Derived.Test.YtnibelnjflhkgaaGreatDoorAb29
namespace Go.Proofs.YtnibelnjflhkgaaGreatDoor.Ab
set_option linter.unusedVariables false
set_option linter.unusedSimpArgs false
open Go.RowKit
inductive RT
 |done
 |one (i:Nat) (t:RT)
 |nil
 |alt (i:Nat) (t rest:RT)
section
variable (P:Program) (ow:FuncId→Option Nat) (nt:Nat) (ops:Array Oper) (tk:Nat→Bool)
def AOneD (o:Oper) (K:ASt→Prop) (s:ASt):Prop:=
 match o.guard with
 |none=>AOp1D P ow tk o K s
 |some (j,want)=>
  match (ops[j]?).bind (·.dst) with
  |some d=>match gval (s.fr d) with
   |some q=>(q=some want→AOp1D P ow tk o K s)∧(q≠some want→K (s.put o.dst (.val undef)))
   |none=>False
  |none=>False
def ATree (K:ASt→Prop):RT→ASt→Prop
 | .done,s=>K s
 | .one i t,s=>match ops[i]? with|some o=>AOneD P ow ops tk o (ATree K t) s|none=>False
 | .nil,_=>True
 | .alt i t rest,s=>(match ops[i]? with|some o=>AOneD P ow ops tk o (ATree K t) s|none=>False)∧ATree K rest s
def without (i:Nat) (rem:List Nat):List Nat:=rem.filter (· !=i)
def readyB (rem:List Nat) (i:Nat):Bool:=match ops[i]? with|some o=>o.after.all fun e=> !Region.binds .any e|| !rem.contains e.on|none=>false
def indepB (rem:List Nat) (i:Nat):Bool:=rem.all fun k=>k==i||((ancs ops.toList []).getD k 0).testBit i||(match ops[i]?,ops[k]? with|some oi,some ok=>pairOK P ow ops tk oi ok|_,_=>true)
def inAlt (k:Nat):RT→Bool
 | .alt i _ rest=>i==k||inAlt k rest
 |_=>false
def okG:Bool→List Nat→RT→Bool
 |top,rem, .done=>top&&rem.isEmpty
 |top,rem, .one i t=>top&&rem.contains i&&indepB P ow ops tk rem i&&okG true (without i rem) t
 |top,rem, .nil=> !top
 |top,rem, .alt i t rest=>(!top||(!rem.isEmpty&&rem.all fun k=> !readyB ops rem k||inAlt k (.alt i t rest)))&&okG true (without i rem) t&&okG false rem rest
def mkT:Nat→List Nat→Option RT
 |0,_=>none
 |n+1,rem=>
  if rem.isEmpty then some .done else
  match rem.find? (fun i=>readyB ops rem i&&indepB P ow ops tk rem i) with
  |some i=>(mkT n (without i rem)).map (RT.one i)
  |none=>(rem.filter (readyB ops rem)).foldr (fun i acc=>match mkT n (without i rem),acc with|some t,some r=>some (.alt i t r)|_,_=>none) (some .nil)
def treeOf:Option RT:=
 match mkT P ow ops tk (ops.size+1) (List.range ops.size) with
 |some t=>if backOK 0 ops.toList&&ops.toList.all (dstOK nt)&&okG P ow ops tk true (List.range ops.size) t then some t else none
 |none=>none
inductive RunT (K:ASt→Prop):List Nat→ASt→Prop
 |done (s:ASt) (h:K s):RunT K [] s
 |one (rem:List Nat) (s s1:ASt) (i:Nat) (o:Oper) (hi:i∈rem) (ho:ops[i]? =some o)
   (hp: ∀k∈rem,k≠i→((ancs ops.toList []).getD k 0).testBit i=true∨ ∀ok,ops[k]? =some ok→pairOK P ow ops tk o ok=true) (h1:OneR P ow ops tk o s s1) (h2:RunT K (without i rem) s1):RunT K rem s
 |all (rem:List Nat) (s:ASt) (f:Nat→ASt) (hne:rem≠ []) (h1: ∀i∈rem,readyB ops rem i=true→ ∀o,ops[i]? =some o→OneR P ow ops tk o s (f i)) (h2: ∀i∈rem,readyB ops rem i=true→RunT K (without i rem) (f i)):RunT K rem s
end
section
variable {P:Program} {ow:FuncId→Option Nat} {nt:Nat} {ops:Array Oper} {tk:Nat→Bool} {K:ASt→Prop}
theorem oneD_step {o:Oper} {K:ASt→Prop} {s:ASt} (h:AOneD P ow ops tk o K s): ∃s1,OneR P ow ops tk o s s1∧K s1:=by
 unfold AOneD at h
 split at h
 ·rename_i hg
  obtain ⟨s1,h1,h2⟩:=op1D_step h
  exact ⟨s1,by unfold OneR;rw [hg];exact h1,h2⟩
 ·rename_i j want hg
  split at h
  ·rename_i d hd
   split at h
   ·rename_i b hb
    by_cases hbw:b=some want
    ·obtain ⟨s1,h1,h2⟩:=op1D_step (h.1 hbw)
     exact ⟨s1,by unfold OneR;rw [hg];simp only [hd];exact ⟨b,hb, .inl ⟨hbw,h1⟩⟩,h2⟩
    ·exact ⟨_,by unfold OneR;rw [hg];simp only [hd];exact ⟨b,hb, .inr ⟨hbw,by first|rfl|trivial⟩⟩,h.2 hbw⟩
   ·exact h.elim
  ·exact h.elim
theorem mem_without {i k:Nat} {rem:List Nat} :k∈without i rem↔k∈rem∧k≠i:=by simp [without]
theorem without_comm (i j:Nat) (rem:List Nat):without i (without j rem)=without j (without i rem):=by
 simp only [without,List.filter_filter]
 congr 1;funext x;rw [Bool.and_comm]
theorem tree_run: ∀(t:RT) (rem:List Nat) (s:ASt),ATree P ow ops tk K t s→
  (okG P ow ops tk true rem t=true→RunT P ow ops tk K rem s)∧(okG P ow ops tk false rem t=true→ ∀k,inAlt k t=true→ ∀o,ops[k]? =some o→ ∃s1,OneR P ow ops tk o s s1∧RunT P ow ops tk K (without k rem) s1)
 | .done,rem,s,h=>by
  refine ⟨fun hk=> ?_,fun hk=>by simp [okG] at hk⟩
  simp only [okG,Bool.true_and,List.isEmpty_iff] at hk
  subst hk
  exact .done s h
 | .one i t,rem,s,h=>by
  refine ⟨fun hk=> ?_,fun hk=>by simp [okG] at hk⟩
  simp only [okG,Bool.true_and,Bool.and_eq_true] at hk
  obtain ⟨⟨hi,hp⟩,hk⟩:=hk
  simp only [ATree] at h
  split at h
  ·rename_i o ho
   obtain ⟨s1,h1,h2⟩:=oneD_step h
   refine .one rem s s1 i o (by simpa using hi) ho (fun k hkr hne=> ?_) h1 ((tree_run t _ s1 h2).1 hk)
   have:=List.all_eq_true.1 hp k hkr
   simp only [ho,Bool.or_eq_true,beq_iff_eq] at this
   rcases this with (h3|h3)|h3
   ·exact absurd h3 hne
   ·exact .inl h3
   ·exact .inr fun ok hok=>by simpa [hok] using h3
  ·exact h.elim
 | .nil,rem,s,h=>⟨fun hk=>by simp [okG] at hk,fun hk k hin=>by simp [inAlt] at hin⟩
 | .alt i t rest,rem,s,h=>by
  have hs:okG P ow ops tk true (without i rem) t=true→okG P ow ops tk false rem rest=true→ ∀k,inAlt k (.alt i t rest)=true→ ∀o,ops[k]? =some o→ ∃s1,OneR P ow ops tk o s s1∧RunT P ow ops tk K (without k rem) s1:=by
   intro k1 k2 k hin o ho
   simp only [ATree] at h
   simp only [inAlt,Bool.or_eq_true,beq_iff_eq] at hin
   rcases hin with e|hin
   ·subst e
    rw [ho] at h
    obtain ⟨s1,h1,h2⟩:=oneD_step h.1
    exact ⟨s1,h1,(tree_run t _ s1 h2).1 k1⟩
   ·exact (tree_run rest rem s h.2).2 k2 k hin o ho
  refine ⟨fun hk=> ?_,fun hk=> ?_⟩
  ·simp only [okG,Bool.not_true,Bool.false_or,Bool.and_eq_true,List.all_eq_true] at hk
   obtain ⟨⟨⟨hne,hcov⟩,k1⟩,k2⟩:=hk
   have hall: ∀i' ∈rem,readyB ops rem i' =true→ ∃s1,(∀o,ops[i']? =some o→OneR P ow ops tk o s s1)∧RunT P ow ops tk K (without i' rem) s1:=by
    intro i' hi' hr
    have hr' :=hr
    unfold readyB at hr'
    split at hr'
    ·rename_i o ho
     have hc:=hcov i' hi'
     simp only [hr,Bool.not_true,Bool.false_or] at hc
     obtain ⟨s1,h1,h2⟩:=hs k1 k2 i' hc o ho
     exact ⟨s1,fun o' ho' =>by rw [ho] at ho';cases ho';exact h1,h2⟩
    ·cases hr'
   refine .all rem s (fun i' =>if h:i' ∈rem∧readyB ops rem i' =true then (hall i' h.1 h.2).choose else s) (fun e=>by subst e;simp at hne) (fun i' hi' hr o ho=> ?_) (fun i' hi' hr=> ?_)
   ·rw [dif_pos ⟨hi',hr⟩];exact (hall i' hi' hr).choose_spec.1 o ho
   ·rw [dif_pos ⟨hi',hr⟩];exact (hall i' hi' hr).choose_spec.2
  ·simp only [okG,Bool.not_false,Bool.true_or,Bool.true_and,Bool.and_eq_true] at hk
   exact hs hk.1 hk.2
theorem pull {rem:List Nat} {s:ASt} (h:RunT P ow ops tk K rem s): ∀(j:Nat) (oj:Oper),j∈rem→ops[j]? =some oj→(∀e∈oj.after,Region.binds .any e=true→e.on∉rem)→(∀i,((ancs ops.toList []).getD j 0).testBit i=true→i∉rem)→
  ∃s1,OneR P ow ops tk oj s s1∧RunT P ow ops tk K (without j rem) s1:=by
 induction h with
 |done s h=>intro j oj hj;cases hj
 |one rem s s1 i o hi ho hp h1 h2 ih=>
  intro j oj hj hoj ha hb
  by_cases hij:j=i
  ·subst hij
   rw [ho] at hoj;cases hoj
   exact ⟨s1,h1,h2⟩
  ·have hpr:pairOK P ow ops tk o oj=true:=by
    rcases hp j hj hij with h3|h3
    ·exact absurd hi (hb i h3)
    ·exact h3 oj hoj
   obtain ⟨s2,q1,q2⟩:=ih j oj (mem_without.2 ⟨hj,hij⟩) hoj (fun e he hbd hm=>ha e he hbd (mem_without.1 hm).1) (fun i' hi' hm=>hb i' hi' (mem_without.1 hm).1)
   obtain ⟨t1,r1,r2⟩:=swap h1 q1 hpr
   refine ⟨t1,r1, .one (without j rem) t1 s2 i o (mem_without.2 ⟨hi,fun e=>hij e.symm⟩) ho (fun k hk hne=>hp k (mem_without.1 hk).1 hne) r2 ?_⟩
   rw [without_comm];exact q2
 |all rem s f hne h1 h2 ih=>
  intro j oj hj hoj ha hb
  have hr:readyB ops rem j=true:=by
   unfold readyB;rw [hoj]
   refine Array.all_eq_true_iff_forall_mem.2 fun e he=> ?_
   by_cases hbd:Region.binds .any e=true
   ·have:=ha e he hbd;simp [this]
   ·simp [hbd]
  exact ⟨f j,h1 j hj hr oj hoj,h2 j hj hr⟩
theorem runT_nil {s:ASt} (h:RunT P ow ops tk K [] s):K s:=by
 generalize hr:([]:List Nat)=rem at h
 cases h with
 |done _ h=>exact h
 |one _ _ _ i _ hi=>subst hr;cases hi
 |all _ _ _ hne=>exact absurd hr.symm hne
theorem any_soundT {s0 vf0 w0 g0} {Q:Exit→Act→World→Prop} (hback:backOK 0 ops.toList=true) (hdst:ops.toList.all (dstOK nt)=true) (hQ: ∀s a w,K s→Inv nt s0 vf0 w0 g0 s a w→Q .normal a w):
  ∀(fuel:Nat) (listed:Array Bool) (rem:List Nat) (s:ASt) (a:Act) (w:World),listed.size=ops.size→(∀i,i∈rem↔i<ops.size∧listed.getD i true=false)→rem.length≤fuel→Closed ops (lst listed)→
   RunT P ow ops tk K rem s→Inv nt s0 vf0 w0 g0 s a w→wpAny P .any ops Q fuel listed a w:=by
 intro fuel
 induction fuel with
 |zero=>
  intro listed rem s a w hls hrem hlen hcl hrun hi
  have hnil:rem= []:=List.eq_nil_of_length_eq_zero (by omega)
  subst hnil
  refine ⟨?_,hQ _ a w (runT_nil hrun) hi⟩
  apply List.eq_nil_iff_forall_not_mem.2
  intro j hj
  obtain ⟨h1,o,h2,_⟩:=mem_ready.1 hj
  have:=(hrem j).2 ⟨(Array.getElem?_eq_some_iff.1 h2).1,h1⟩
  cases this
 |succ fuel ih=>
  intro listed rem s a w hls hrem hlen hcl hrun hi
  refine ⟨fun hnone=> ?_,fun i hir=> ?_⟩
  ·have hnil:=rem_nil hls hrem (none_left hback hls hnone)
   subst hnil
   exact hQ _ a w (runT_nil hrun) hi
  ·obtain ⟨hun,oi,hoi,hall⟩:=mem_ready.1 hir
   have hlt:=(Array.getElem?_eq_some_iff.1 hoi).1
   have him:i∈rem:=(hrem i).2 ⟨hlt,hun⟩
   have notrem: ∀k,lst listed k→k∉rem:=fun k hk hm=>by
    obtain ⟨h5,h6⟩:=(hrem k).1 hm
    have hkl:k<listed.size:=by omega
    simp only [lst,Array.getD_eq_getD_getElem?,Array.getElem?_eq_getElem hkl,Option.getD_some] at hk h6
    rw [hk] at h6;cases h6
   obtain ⟨s1,h1,h2⟩:=pull hrun i oi him hoi (fun e he hb=>notrem e.on (hall e he hb)) (fun k hk=>notrem k
    (ancs_spec (L:=lst listed) (k:=k) hcl ops.toList [] (by simp) (by simpa using hback) (by simp) i oi hoi (by simpa using hlt) hall hk))
   refine pick_wp hdst hoi h1 hi fun v w' hi' =>ih _ (without i rem) s1 _ w' (by simpa using hls) (fun j=> ?_) ?_ (closed_set hoi hcl hall) h2 hi'
   ·rw [mem_without,hrem]
    by_cases hji:j=i
    ·subst hji
     have hjl:j<listed.size:=by omega
     simp [hjl]
    ·rw [getD_set_ne true (Ne.symm hji)];simp [hji]
   ·have:(without i rem).length<rem.length:=by
     unfold without
     exact List.length_filter_lt_length_iff_exists.2 ⟨i,him,by simp⟩
    omega
theorem regionT_sound {s0 vf0 w0 g0} {id:Nat} {Q:Exit→Act→World→Prop} (hm:P.follows .mixedOrders=true) {s:ASt} {a:Act} {w:World} {t:RT}
  (h:treeOf P ow nt ops tk=some t) (h1:ATree P ow ops tk K t s) (hi:Inv nt s0 vf0 w0 g0 s a w)
  (hQ: ∀s a w,K s→Inv nt s0 vf0 w0 g0 s a w→Q .normal a w):(Code.region id ops true).wp P Q a w:=by
 unfold treeOf at h
 split at h
 ·rename_i t' ht
  split at h
  ·rename_i hok
   simp only [Option.some.injEq] at h
   subst h
   simp only [Bool.and_eq_true] at hok
   have hun: ∀i,i<ops.size→(Array.replicate ops.size false).getD i true=false:=fun i hi=>by simp [Array.getD_eq_getD_getElem?,hi]
   exact wp_region_any hm (any_soundT hok.1.1 hok.1.2 hQ ops.size _ (List.range ops.size) s a _ (by simp) (fun i=>⟨fun h=>⟨List.mem_range.1 h,hun i (List.mem_range.1 h)⟩,fun h=>List.mem_range.2 h.1⟩) (by simp) (fun m o ho hl=>by
    simp only [lst,Array.getD_eq_getD_getElem?] at hl
    have:=(Array.getElem?_eq_some_iff.1 ho).1
    rw [Array.getElem?_eq_getElem (by simpa using this)] at hl
    simp at hl) ((tree_run t' _ s h1).1 hok.2) (inv_drew hi))
  ·cases h
 ·cases h
end
end Go.Proofs.YtnibelnjflhkgaaGreatDoor.Ab

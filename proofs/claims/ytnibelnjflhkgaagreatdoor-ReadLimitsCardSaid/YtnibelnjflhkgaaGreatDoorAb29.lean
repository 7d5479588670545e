/- Rows of operations whose order is drawn, on: two that touch each other, in either order. No condition. -/
import Derived.Test.YtnibelnjflhkgaaGreatDoorAb18
namespace Go.Proofs.YtnibelnjflhkgaaGreatDoor.Ab
set_option linter.unusedVariables false
set_option linter.unusedSimpArgs false
open Go.RowKit
section
variable {P:Program} {ow:FuncId→Option Nat} {nt:Nat} {ops:Array Oper} {tk:Nat→Bool}
def Good (P:Program) (ow:FuncId→Option Nat) (ops:Array Oper) (tk:Nat→Bool) (bad:Nat→Nat→Prop) (rem:List Nat):Prop:=
 ∀pre i post,rem=pre++i::post→ ∀k∈pre,((ancs ops.toList []).getD i 0).testBit k=true∨(∀ok oi,ops[k]? =some ok→ops[i]? =some oi→pairOK P ow ops tk ok oi=true)∨bad k i
theorem Good.drop {bad:Nat→Nat→Prop} {pre post:List Nat} {i:Nat} (h:Good P ow ops tk bad (pre++i::post)):Good P ow ops tk bad (pre++post):=by
 intro p m q he k hk
 rcases List.append_eq_append_iff.1 he with ⟨a',h1,h2⟩|⟨c',h1,h2⟩
 · -- p = pre ++ a'
  subst h1
  refine h (pre++i::a') m q (by simp [h2]) k ?_
  rcases List.mem_append.1 hk with hk|hk
  ·exact List.mem_append.2 (.inl hk)
  ·exact List.mem_append.2 (.inr (List.mem_cons_of_mem _ hk))
 ·cases c' with
  |nil=>
   simp at h1 h2
   subst h1
   refine h (pre++ [i]) m q (by simp [←h2]) k (List.mem_append.2 (.inl hk))
  |cons c c' =>
   simp at h2
   obtain ⟨rfl,rfl⟩:=h2
   exact h p m (c' ++i::post) (by simp [h1]) k hk
theorem back_lt: ∀(k:Nat) (os:List Oper),backOK k os=true→ ∀j o,os[j]? =some o→ ∀e∈o.after,Region.binds .any e=true→e.on<k+j
 |_, [],_,j,o,hj,_,_,_=>by simp at hj
 |k,o1::os,hb,j,o,hj,e,he,hbd=>by
  simp only [backOK,Bool.and_eq_true] at hb
  cases j with
  |zero=>
   simp at hj;subst hj
   have:=Array.all_eq_true_iff_forall_mem.1 hb.1 e he
   simp only [hbd,Bool.not_true,Bool.false_or,decide_eq_true_eq] at this
   omega
  |succ j=>have:=back_lt (k+1) os hb.2 j o (by simpa using hj) e he hbd;omega
theorem none_left (hback:backOK 0 ops.toList=true) {listed:Array Bool} (hls:listed.size=ops.size) (hnone:Region.ready .any ops listed= []): ∀j,j<ops.size→listed.getD j false=true:=by
 intro j
 induction j using Nat.strongRecOn with
 |_ j ih=>
  intro hj
  have hjl:j<listed.size:=by omega
  by_cases hun:listed.getD j true=false
  ·exfalso
   have ho:ops[j]? =some ops[j]:=Array.getElem?_eq_getElem hj
   have:j∈Region.ready .any ops listed:=mem_ready.2 ⟨hun,ops[j],ho,fun e he hb=>by
    have hlt:=back_lt 0 ops.toList hback j ops[j] (by simp) e he hb
    exact ih e.on (by omega) (by omega)⟩
   rw [hnone] at this;cases this
  ·simp only [Array.getD_eq_getD_getElem?,Array.getElem?_eq_getElem hjl,Option.getD_some] at hun ⊢
   simpa using hun
theorem rem_nil {listed:Array Bool} {rem:List Nat} (hls:listed.size=ops.size) (hrem: ∀i,i∈rem↔i<ops.size∧listed.getD i true=false) (hall: ∀j,j<ops.size→listed.getD j false=true):rem= []:=by
 apply List.eq_nil_iff_forall_not_mem.2
 intro j hj
 obtain ⟨h1,h2⟩:=(hrem j).1 hj
 have h3:=hall j h1
 have hjl:j<listed.size:=by omega
 simp only [Array.getD_eq_getD_getElem?,Array.getElem?_eq_getElem hjl,Option.getD_some] at h2 h3
 rw [h2] at h3;cases h3
theorem closed_set {listed:Array Bool} {i:Nat} {oi:Oper} (hoi:ops[i]? =some oi) (hcl:Closed ops (lst listed)) (hall: ∀e∈oi.after,Region.binds .any e=true→listed.getD e.on false=true):Closed ops (lst (listed.setIfInBounds i true)):=by
 intro m o ho hm e he hb
 simp only [lst] at hm ⊢
 by_cases hmi:m=i
 ·subst hmi
  rw [hoi] at ho;cases ho
  exact getD_set_true (hall e he hb)
 ·rw [getD_set_ne false (Ne.symm hmi)] at hm
  exact getD_set_true (hcl m o ho hm e he hb)
theorem pick_wp {s0 vf0 w0 g0} {Q:Exit→Act→World→Prop} (hdst:ops.toList.all (dstOK nt)=true) {fuel:Nat} {listed:Array Bool} {i:Nat} {oi:Oper} {s s1:ASt} {a:Act} {w:World} (hoi:ops[i]? =some oi) (h1:OneR P ow ops tk oi s s1) (hi:Inv nt s0 vf0 w0 g0 s a w)
  (next: ∀v w',Inv nt s0 vf0 w0 g0 s1 (a.put oi.dst v) w' →wpAny P .any ops Q fuel (listed.setIfInBounds i true) (a.put oi.dst v) w'):
  wpOp P ops Q i (wpAny P .any ops Q fuel (listed.setIfInBounds i true)) a w:=by
 have hdo:dstOK nt oi=true:=List.all_eq_true.1 hdst oi (by simpa using Array.mem_of_getElem? hoi)
 have hdl: ∀d,oi.dst=some d→d<a.tmps.size:=fun d e=>by simp only [dstOK,e] at hdo;rw [hi.size];simpa using hdo
 unfold wpOp
 simp only [hoi]
 unfold OneR at h1
 split at h1
 ·rename_i hg
  rw [if_pos (by simp [Region.wanted,hg])]
  exact .inl (op1_sound hdo (step_op1 h1) hi fun s2 v w' e hi' =>by subst e;exact next v w' hi')
 ·rename_i j want hg
  split at h1
  ·rename_i d hd
   obtain ⟨b,hb,h1⟩:=h1
   obtain ⟨g,tr⟩:=hi.tr
   rw [wanted_guard tr.sr hg hd hb]
   rcases h1 with ⟨hbw,h1⟩|⟨hbw,h1⟩
   ·rw [if_pos (by simpa using hbw)]
    exact .inl (op1_sound hdo (step_op1 h1) hi fun s2 v w' e hi' =>by subst e;exact next v w' hi')
   ·rw [if_neg (by simpa using hbw)]
    subst h1
    exact next undef w (inv_junk hi oi.dst hdl)
  ·exact h1.elim
end
end Go.Proofs.YtnibelnjflhkgaaGreatDoor.Ab

/- Code and functions: from what is shown of abstract states to what a function does. No condition. -/
import Derived.Test.YtnibelnjflhkgaaGreatDoorAb30
namespace Go.Proofs.YtnibelnjflhkgaaGreatDoor.Ab
set_option linter.unusedVariables false
set_option linter.unusedSimpArgs false
open Go.RowKit
inductive AX|normal|ret|exit (id:Nat)
def seqK (K:ASt→Prop) (Q:AX→ASt→Prop):AX→ASt→Prop
 | .normal,s=>K s
 | .ret,s=>Q .ret s
 | .exit id,s=>Q (.exit id) s
def blockK (id:Nat) (Q:AX→ASt→Prop):AX→ASt→Prop
 | .normal,s=>Q .normal s
 | .ret,s=>Q .ret s
 | .exit i,s=>if i=id then Q .normal s else Q (.exit i) s
def ACode (P:Program) (ow:FuncId→Option Nat) (nt:Nat):Code→(AX→ASt→Prop)→ASt→Prop
 | .skip,Q,s=>Q .normal s
 | .label _,Q,s=>Q .normal s
 | .region _ ops draw,Q,s=>
  if draw then (indepOK P ow nt ops (fun d=>(takes ow ops.toList).contains d)=true∧AOpsD P ow ops (fun d=>(takes ow ops.toList).contains d) (Q .normal) ops.toList s)∨
   (∃rt,treeOf P ow nt ops (fun d=>(takes ow ops.toList).contains d)=some rt∧ATree P ow ops (fun d=>(takes ow ops.toList).contains d) (Q .normal) rt s)
  else AOps P ow nt ops (fun d=>(takes ow ops.toList).contains d) (Q .normal) ops.toList s
 | .seq x y,Q,s=>ACode P ow nt x (seqK (ACode P ow nt y Q) Q) s
 | .cond c x y,Q,s=>match evA s c with
  | .bool t=>(t=true→ACode P ow nt x Q s)∧(t=false→ACode P ow nt y Q s)
  |_=>False
 | .block id c,Q,s=>ACode P ow nt c (blockK id Q) s
 | .loop c,Q,s=> ∃I:Nat→ASt→Prop,(∃k,I k s)∧ ∀k t,I k t→ACode P ow nt c (seqK (fun t' => ∃k',k' <k∧I k' t') Q) t
 | .exit id,Q,s=>Q (.exit id) s
 | .ret,Q,s=>Q .ret s
 |_,_,_=>False
theorem wp_loop_idx {P:Program} {c:Code} {Q:Exit→Act→World→Prop} (J:Nat→Act→World→Prop) {n:Nat} {a:Act} {w:World} (h₀:J n a w)
  (round: ∀n a w,J n a w→c.wp P (Exit.then (fun a' w' => ∃n',n' <n∧J n' a' w') Q) a w):(Code.loop c).wp P Q a w:=by
 intro b k cs
 have key: ∀n a w,J n a w→ ∃e a' w',Q e a' w' ∧Arrives P (lone (b.at a (.code c:: .inLoop c::k)) cs w) b k cs e a' w' :=by
  intro n
  induction n using Nat.strongRecOn with
  |_ n ih=>
   intro a w hI
   obtain ⟨e,a₁,w₁,hq,harr⟩:=round n a w hI b (.inLoop c::k) cs
   cases e with
   |normal=>
    obtain ⟨n',hlt,hI₁⟩:=hq
    obtain ⟨e₂,a₂,w₂,hq₂,harr₂⟩:=ih n' hlt a₁ w₁ hI₁
    exact ⟨e₂,a₂,w₂,hq₂, .of_steps (Steps.trans harr (.one step_inLoop)) harr₂⟩
   |exit id=>exact ⟨_,a₁,w₁,hq, .pass (x:= .inLoop c) rfl (fun _ _=> .inl (by simp)) harr⟩
   |goto l=>exact ⟨_,a₁,w₁,hq, .pass (x:= .inLoop c) rfl (fun _ _=> .inl (by simp)) harr⟩
   |ret=>exact ⟨_,a₁,w₁,hq, .pass (x:= .inLoop c) rfl (fun _ _=> .inl (by simp)) harr⟩
   |panic ch=>exact ⟨_,a₁,w₁,hq, .pass (x:= .inLoop c) rfl (fun _ _=> .inl (by simp)) harr⟩
   |outgrown=>exact ⟨_,a₁,w₁,hq, .pass (x:= .inLoop c) rfl (fun _ _=> .inl (by simp)) harr⟩
 obtain ⟨e,a',w',hq,harr⟩:=key _ a w h₀
 exact ⟨e,a',w',hq, .of_steps (.one step_loop) harr⟩
def liftQ (nt:Nat) (s0:ASt) (vf0:Nat→Value) (w0:World) (g0:Gh) (Q:AX→ASt→Prop):Exit→Act→World→Prop
 | .normal,a,w=> ∃s,Q .normal s∧Inv nt s0 vf0 w0 g0 s a w
 | .ret,a,w=> ∃s,Q .ret s∧Inv nt s0 vf0 w0 g0 s a w
 | .exit id,a,w=> ∃s,Q (.exit id) s∧Inv nt s0 vf0 w0 g0 s a w
 |_,_,_=>False
theorem code_sound {P:Program} {ow:FuncId→Option Nat} {nt:Nat} {s0 vf0 w0 g0} (hm:P.follows .mixedOrders=true): ∀(c:Code) (Q:AX→ASt→Prop) (s:ASt) (a:Act) (w:World),
  ACode P ow nt c Q s→Inv nt s0 vf0 w0 g0 s a w→c.wp P (liftQ nt s0 vf0 w0 g0 Q) a w
 | .skip,Q,s,a,w,h,hi=>wp_skip ⟨s,h,hi⟩
 | .label l,Q,s,a,w,h,hi=>wp_label ⟨s,h,hi⟩
 | .region id ops draw,Q,s,a,w,h,hi=>by
  cases draw with
  |false=>exact region_sound (draw:=false) hm h hi fun s a w hq hi=>⟨s,hq,hi⟩
  |true=>
   simp only [ACode,if_true] at h
   rcases h with h|⟨rt,e,h1⟩
   ·exact region_sound (draw:=true) hm (by simpa only [if_true] using h) hi fun s a w hq hi=>⟨s,hq,hi⟩
   ·exact regionT_sound hm e h1 hi fun s a w hq hi=>⟨s,hq,hi⟩
 | .seq x y,Q,s,a,w,h,hi=>wp_seq (wp_mono (code_sound hm x _ s a w h hi) fun e a w hq=>by
   cases e<;>simp only [liftQ,Exit.then] at hq ⊢
   case normal=>obtain ⟨s',hq,hi'⟩:=hq;exact code_sound hm y Q s' a w hq hi'
   case exit id=>exact hq
   case ret=>exact hq)
 | .cond c x y,Q,s,a,w,h,hi=>by
  simp only [ACode] at h
  split at h
  ·rename_i t hc
   obtain ⟨g,tr⟩:=hi.tr
   have hv:=evA_vr tr.sr c
   rw [hc] at hv
   have:a.eval c= .bool t:=by generalize a.eval c=u at hv;cases hv;rfl
   refine wp_cond_split this (fun ht=>code_sound hm x Q s a w (h.1 ht) hi) (fun ht=>code_sound hm y Q s a w (h.2 ht) hi)
  ·exact h.elim
 | .block id c,Q,s,a,w,h,hi=>wp_block (wp_mono (code_sound hm c _ s a w h hi) fun e a w hq=>by
   cases e<;>simp only [liftQ,Exit.inBlock] at hq ⊢
   case normal=>exact hq
   case ret=>exact hq
   case exit i=>
    obtain ⟨s',hq,hi'⟩:=hq
    simp only [blockK] at hq
    split
    ·rename_i e;rw [if_pos e] at hq;exact ⟨s',hq,hi'⟩
    ·rename_i e;rw [if_neg e] at hq;exact ⟨s',hq,hi'⟩)
 | .loop c,Q,s,a,w,h,hi=>by
  obtain ⟨I,⟨k,h0⟩,hr⟩:=h
  refine wp_loop_idx (fun k a w=> ∃s,I k s∧Inv nt s0 vf0 w0 g0 s a w) (n:=k) ⟨s,h0,hi⟩ fun k a w ⟨t,ht,hi'⟩=> ?_
  refine wp_mono (code_sound hm c _ t a w (hr k t ht) hi') fun e a w hq=> ?_
  cases e<;>simp only [liftQ,Exit.then] at hq ⊢
  case normal=>obtain ⟨s',⟨k',hlt,hI⟩,hi2⟩:=hq;exact ⟨k',hlt,s',hI,hi2⟩
  case ret=>exact hq
  case exit i=>exact hq
 | .exit id,Q,s,a,w,h,hi=>wp_exit ⟨s,h,hi⟩
 | .ret,Q,s,a,w,h,hi=>wp_ret ⟨s,h,hi⟩
 | .rangeFunc _ _ _ _,_,_,_,_,h,_=>h.elim
 | .scope _,_,_,_,_,h,_=>h.elim
 | .goto _,_,_,_,_,h,_=>h.elim
 | .refuse _,_,_,_,_,h,_=>h.elim
mutual
def labOK (m:Nat):AV→Bool
 | .sl _ _ xs=>labL m xs
 | .agg cs=>labL m cs
 | .tup cs=>labL m cs
 | .eptr cs=>labL m cs
 | .func _ xs ys=>labL m xs&&labL m ys
 | .ptr l _=>decide (l<m)
 | .hs l _ _ _=>decide (l<m)
 | .mp l=>decide (l<m)
 | .junk=>true
 | .bool _=>true
 | .int _ _=>true
 | .str _=>true
 | .pnil=>true
 | .mnil=>true
 | .fnil=>true
 | .val _=>true
def labL (m:Nat):List AV→Bool
 | []=>true
 |a::as=>labOK m a&&labL m as
end
theorem labL_all {m:Nat} {l:List AV} :labL m l=true↔ ∀a∈l,labOK m a=true:=by
 induction l with
 |nil=>simp [labL]
 |cons a l ih=>simp [labL,ih]
theorem lab_mono {m m' :Nat} {a:AV} (h:labOK m a=true) (hm:m≤m'):labOK m' a=true:=by
 revert h
 refine AV.rec (motive_1:=fun a=>labOK m a=true→labOK m' a=true) (motive_2:=fun l=>labL m l=true→labL m' l=true) ?_ ?_ ?_ ?_ ?_ ?_ ?_ ?_ ?_ ?_ ?_ ?_ ?_ ?_ ?_ ?_ ?_ ?_ a
 all_goals first
  |exact fun _=>rfl
  |exact fun _ _=>rfl
  |exact fun _ _ _=>rfl
  |exact fun fl sz xs ih h=>by simp only [labOK] at h ⊢;exact ih h
  |exact fun cs ih h=>by simp only [labOK] at h ⊢;exact ih h
  |exact fun l o h=>by simp only [labOK,decide_eq_true_eq] at h ⊢;omega
  |exact fun l o len sz h=>by simp only [labOK,decide_eq_true_eq] at h ⊢;omega
  |exact fun l h=>by simp only [labOK,decide_eq_true_eq] at h ⊢;omega
  |exact fun f xs ys h1 h2 h=>by simp only [labOK,Bool.and_eq_true] at h ⊢;exact ⟨h1 h.1,h2 h.2⟩
  |exact fun a as h1 h2 h=>by simp only [labL,Bool.and_eq_true] at h ⊢;exact ⟨h1 h.1,h2 h.2⟩
theorem lab_cells {m:Nat} {a:AV} (h:labOK m a=true):labL m a.cells=true:=by
 cases a<;>simp only [AV.cells,labL,labOK,Bool.and_true] at h ⊢ <;>exact h
theorem lab_flat {m:Nat} {xs:List AV} (h:labL m xs=true):labL m (flat xs)=true:=by
 rw [labL_all] at h ⊢
 intro a ha
 obtain ⟨x,hx,hax⟩:=List.mem_flatMap.1 ha
 exact labL_all.1 (lab_cells (h x hx)) a hax
section
variable {g:Gh} {w:World}
theorem lab_all (hlt:True):(∀ {a v},VR g w a v→labOK g.n a=true)∧(∀ {b o cs},CR g w b o cs→labL g.n cs=true)∧(∀ {cs vs},CL g w cs vs→labL g.n cs=true):=by
 have flatback: ∀ {xs:List AV},labL g.n (flat xs)=true→labL g.n xs=true:=by
  intro xs h
  rw [labL_all] at h ⊢
  intro x hx
  have hc: ∀c∈x.cells,labOK g.n c=true:=fun c hc=>h c (List.mem_flatMap.2 ⟨x,hx,hc⟩)
  cases x with
  |agg cs=>simp only [labOK];exact labL_all.2 (fun c hcc=>hc c (by simpa only [AV.cells] using hcc))
  |_=>exact hc _ (by simp [AV.cells])
 refine ⟨fun h=> ?_,fun h=> ?_,fun h=> ?_⟩
 all_goals first
  |refine VR.rec (motive_1:=fun a v _=>labOK g.n a=true) (motive_2:=fun b o cs _=>labL g.n cs=true) (motive_3:=fun cs vs _=>labL g.n cs=true) (motive_4:=fun cs vs _=>labL g.n cs=true) ?_ ?_ ?_ ?_ ?_ ?_ ?_ ?_ ?_ ?_ ?_ ?_ ?_ ?_ ?_ ?_ ?_ ?_ ?_ ?_ ?_ ?_ ?_ ?_ h
  |refine CR.rec (motive_1:=fun a v _=>labOK g.n a=true) (motive_2:=fun b o cs _=>labL g.n cs=true) (motive_3:=fun cs vs _=>labL g.n cs=true) (motive_4:=fun cs vs _=>labL g.n cs=true) ?_ ?_ ?_ ?_ ?_ ?_ ?_ ?_ ?_ ?_ ?_ ?_ ?_ ?_ ?_ ?_ ?_ ?_ ?_ ?_ ?_ ?_ ?_ ?_ h
  |refine CL.rec (motive_1:=fun a v _=>labOK g.n a=true) (motive_2:=fun b o cs _=>labL g.n cs=true) (motive_3:=fun cs vs _=>labL g.n cs=true) (motive_4:=fun cs vs _=>labL g.n cs=true) ?_ ?_ ?_ ?_ ?_ ?_ ?_ ?_ ?_ ?_ ?_ ?_ ?_ ?_ ?_ ?_ ?_ ?_ ?_ ?_ ?_ ?_ ?_ ?_ h
 all_goals first
  |exact fun _=>rfl
  |exact rfl
  |exact fun _ _=>rfl
  |exact fun fl sz xs b o cap h1 h2 h3 h4 _ h=>by simpa only [labOK] using flatback h
  |exact fun cs vs _ h=>by simpa only [labOK] using h
  |exact fun l o h=>by simpa only [labOK] using decide_eq_true h
  |exact fun cs b o _ h=>by simpa only [labOK] using h
  |exact fun l o len sz cap h h1 h2=>by simpa only [labOK] using decide_eq_true h
  |exact fun (fl:Fl) (sz:Nat) (a:Addr) (cap:Nat) (h1:cap≤maxLen) (h2:fl= .sh∨(fl= .full∧cap=0))=>by simp [labOK,labL]
  |exact fun l h=>by simpa only [labOK] using decide_eq_true h
  |exact fun f xs ys us vs _ _ h h' =>by simp [labOK,h,h']
  |exact fun b o av cs v hG hc h1 _ _ h t=>by simp [labL,h,t]
  |exact fun av cs v vs h1 _ _ h t=>by simp [labL,h,t]
  |exact fun av cs v vs _ _ h t=>by simp [labL,h,t]
theorem drop_all (m:Nat):(∀ {a v},VR g w a v→labOK m a=true→VR { g with n:=m } w a v)∧(∀ {cs vs},CL g w cs vs→labL m cs=true→CL { g with n:=m } w cs vs):=by
 have split2: ∀ {a:AV} {as:List AV},labL m (a::as)=true→labOK m a=true∧labL m as=true:=fun {a as} h=>by simpa [labL] using h
 refine ⟨fun h=> ?_,fun h=> ?_⟩
 all_goals first
  |refine VR.rec (motive_1:=fun a v _=>labOK m a=true→VR { g with n:=m } w a v) (motive_2:=fun b o cs _=>labL m cs=true→CR { g with n:=m } w b o cs) (motive_3:=fun cs vs _=>labL m cs=true→CL { g with n:=m } w cs vs) (motive_4:=fun cs vs _=>labL m cs=true→VL { g with n:=m } w cs vs) ?_ ?_ ?_ ?_ ?_ ?_ ?_ ?_ ?_ ?_ ?_ ?_ ?_ ?_ ?_ ?_ ?_ ?_ ?_ ?_ ?_ ?_ ?_ ?_ h
  |refine CL.rec (motive_1:=fun a v _=>labOK m a=true→VR { g with n:=m } w a v) (motive_2:=fun b o cs _=>labL m cs=true→CR { g with n:=m } w b o cs) (motive_3:=fun cs vs _=>labL m cs=true→CL { g with n:=m } w cs vs) (motive_4:=fun cs vs _=>labL m cs=true→VL { g with n:=m } w cs vs) ?_ ?_ ?_ ?_ ?_ ?_ ?_ ?_ ?_ ?_ ?_ ?_ ?_ ?_ ?_ ?_ ?_ ?_ ?_ ?_ ?_ ?_ ?_ ?_ h
 all_goals first
  |exact fun v _=> .junk v
  |exact fun b _=> .bool b
  |exact fun k n _=> .int k n
  |exact fun l _=> .str l
  |exact fun fl sz _=> .sl0 fl sz
  |exact fun fl sz a cap h1 h2 _=> .sle fl sz a cap h1 h2
  |exact fun fl sz xs b o cap h1 h2 h3 h4 _ h hl=> .sl fl sz xs b o cap h1 h2 h3 h4 (h (lab_flat (by simpa only [labOK] using hl)))
  |exact fun cs vs _ h hl=> .agg cs vs (h (by simpa only [labOK] using hl))
  |exact fun cs vs _ h hl=> .tup cs vs (h (by simpa only [labOK] using hl))
  |exact fun _=> .pnil
  |exact fun l o h hl=> .ptr l o (of_decide_eq_true (by simpa only [labOK] using hl))
  |exact fun cs b o _ h hl=> .eptr cs b o (h (by simpa only [labOK] using hl))
  |exact fun l o len sz cap h h1 h2 hl=> .hs l o len sz cap (of_decide_eq_true (by simpa only [labOK] using hl)) h1 h2
  |exact fun l h hl=> .mp l (of_decide_eq_true (by simpa only [labOK] using hl))
  |exact fun _=> .mnil
  |exact fun f xs ys us vs _ _ h h' hl=> .func f xs ys us vs (h (by simp only [labOK,Bool.and_eq_true] at hl;exact hl.1)) (h' (by simp only [labOK,Bool.and_eq_true] at hl;exact hl.2))
  |exact fun _=> .fnil
  |exact fun v _=> .val v
  |exact fun b o _=> .nil b o
  |exact fun b o av cs v hG hc h1 _ _ h t hl=> .cons b o av cs v hG hc h1 (h (split2 hl).1) (t (split2 hl).2)
  |exact fun _=> .nil
  |exact fun av cs v vs h1 _ _ h t hl=> .cons av cs v vs h1 (h (split2 hl).1) (t (split2 hl).2)
  |exact fun av cs v vs _ _ h t hl=> .cons av cs v vs (h (split2 hl).1) (t (split2 hl).2)
end
end Go.Proofs.YtnibelnjflhkgaaGreatDoor.Ab

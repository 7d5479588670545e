/- The short form says what the long one says. No condition. -/
import Derived.Test.YtnibelnjflhkgaaGreatDoorAb22
namespace Go.Proofs.YtnibelnjflhkgaaGreatDoor.Ab
set_option linter.unusedVariables false
set_option linter.unusedSimpArgs false
open Go.RowKit
section
variable {P:Program} {s:ASt}
theorem evC_cV (x:Operand):evC s (cV x)=evA s x:=by
 cases x<;>first|rfl|skip
theorem evC_cVT (t:TypeId) (x:Operand):evC s (cVT (elT P t) x)=valA P s t x:=by
 cases x<;>first|rfl|skip
theorem evC_cVn (n:Nat) (x:Operand):evC s (cVn n x)=srcOp s n x:=by
 cases x<;>first|rfl|skip
theorem ownV_cVT (n:Option Nat) (x:Operand):ownV? s (cVT n x)=ownSlot s x:=by
 cases x<;>rfl
theorem partB_eq {t:TypeId} {ps:PS} (h:psT P t=some ps) (cs:List AV) (off:Nat):partA P t cs off=partB ps cs off:=by
 unfold psT at h
 unfold partA partB
 split at h
 ·rename_i hag
  split at h
  ·rename_i n hn;simp at h;subst h;simp [hag,hn]
  ·cases h
 ·rename_i hag;simp at h;subst h;simp only [hag];cases cs[off]? <;>rfl
 ·cases h
theorem loadB_eq {t:TypeId} {ps:PS} (h:psT P t=some ps) (hp:Hp) (x:AV):loadA P hp t x=loadB hp ps x:=by
 unfold loadA loadB
 cases x<;>first|rfl|exact partB_eq h _ _|(rename_i l o;cases hb:hp.bk l<;>simp only [hb,partB_eq h])
theorem cvtB_some {a b:TypeId} {x r:AV} (h:cvtB (match intT P a with|some _=>intT P b|none=>none) (strT P a&&strT P b) false x=some r):cvtA P a b x=some r:=by
 cases x<;>simp only [cvtB] at h<;>simp only [cvtA]<;>try (cases h;done)
 case int k n=>
  cases ha:intT P a with
  |none=>simp [ha] at h
  |some k1=>cases hb:intT P b with
   |none=>simp [ha,hb] at h
   |some k2=>simpa [ha,hb] using h
 case str l=>exact h
theorem cvt_none {a b:TypeId} {x:AV} (h:((strT P a&&bytT P b)||(bytT P a&&strT P b))=true):cvtA P a b x=none:=by
 cases hr:cvtA P a b x with
 |none=>rfl
 |some r=>
  exfalso
  simp only [Bool.or_eq_true,Bool.and_eq_true] at h
  rcases h with h|h
  ·exact cvt_two h.1 h.2 hr
  ·obtain ⟨e,he,_⟩:=bytT_und h.1
   cases x<;>simp only [cvtA] at hr<;>try (cases hr;done)
   ·simp [intT,sliceT_und he] at hr
   ·simp [byt_not_str h.1] at hr
theorem idxB_some {t:TypeId} {x i r:AV} (h:idxB (strT P t) (match arrT P t with|some (len,e)=>(match szT P e,psT P e with|some sz,some ps=>some (len,sz,ps)|_,_=>none)|none=>none) x i=some r):indexA P t x i=some r:=by
 cases x<;>cases i<;>simp only [idxB] at h<;>simp only [indexA]<;>try (cases h;done)
 case str.int l k n=>exact h
 case agg.int cs k n=>
  cases ha:arrT P t with
  |none=>simp [ha] at h
  |some p=>
   obtain ⟨len,e⟩:=p
   cases hs:szT P e with
   |none=>simp [ha,hs] at h
   |some sz=>cases hps:psT P e with
    |none=>simp [ha,hs,hps] at h
    |some ps=>simpa [ha,hs,hps,partB_eq hps] using h
theorem iaB_some {t:TypeId} {x i r:AV} (h:iaB (elT P t) (match arrT P t with|some (len,e)=>(match szT P e with|some sz=>some (len,sz)|none=>none)|none=>none) x i=some r):indexAddrA P t x i=some r:=by
 cases x<;>cases i<;>simp only [iaB] at h<;>simp only [indexAddrA]<;>try (cases h;done)
 case sl.int fl sz xs k n=>exact h
 case hs.int l o len sz k n=>exact h
 case ptr.int l o k n=>
  cases ha:arrT P t with
  |none=>simp [ha] at h
  |some p=>
   obtain ⟨len,e⟩:=p
   cases hs:szT P e with
   |none=>simp [ha,hs] at h
   |some sz=>simpa [ha,hs] using h
theorem fillA_weak {pl pl' :Nat→Option (Nat×Nat)} (hw: ∀i x,pl i=some x→pl' i=some x): ∀ {ps:List (Nat×AV)} {cs r:List AV},fillA pl cs ps=some r→fillA pl' cs ps=some r
 | [],cs,r,h=>h
 |(i,a)::ps,cs,r,h=>by
  unfold fillA at h ⊢
  split at h
  ·rename_i off size hpl
   rw [hw i _ hpl]
   simp only
   split at h
   ·rename_i hc;rw [if_pos hc];exact fillA_weak hw h
   ·cases h
  ·cases h
theorem fin_pev {o:Oper} {tk:Nat→Bool} {s' :ASt} {r:Option AV} (h:(match (some (o.dst,r):Option (Option Nat×Option AV)) with|some (d,some r)=>some (s.put d r)|_=>none)=some s') (hr: ∀x,r=some x→pevA P s o.op=some x)
  (hst:stepA P tk o s=match pevA P s o.op with|some r=>some (s.put o.dst r)|none=>stepX P o s):stepA P tk o s=some s' :=by
 cases r with
 |none=>cases h
 |some x=>simp only at h;rw [hst,hr x rfl];exact h
theorem compX_step {o:Oper} {ci:CI} {s' :ASt} (hc:compX P o=some ci) (h:stepC s ci=some s'):stepX P o s=some s' :=by
 unfold compX at hc
 unfold stepX
 split at hc
 ·rename_i k xs hk
  split at hc
  ·rename_i hb
   simp only [Option.some.injEq] at hc;subst hc
   have hm:(xs.map cV).map (evC s)=xs.map (evA s):=by rw [List.map_map];exact List.map_congr_left fun x _=>evC_cV x
   simp only [stepC,hm] at h
   rw [hk]
   simp only
   rw [if_pos hb]
   split at h
   ·rename_i r h' he;rw [he];exact h
   ·cases h
  ·cases hc
 ·cases hc
theorem compOp_step {ow:FuncId→Option Nat} {tk:Nat→Bool} {o:Oper} {ci:CI} {s' :ASt} (hc:compOp P ow tk o=some ci) (h:stepC s ci=some s') (hn: ∀d f xs j,ci≠ .call d f xs j):stepA P tk o s=some s' :=by
 obtain ⟨dst,op,ty,pos,aft,gd⟩:=o
 unfold compOp at hc
 simp only at hc
 have mvw: ∀t,(∀d,dst=some d→d≠t)→dst≠none→ ∀d,dst=some d→stepC s (.mv d t)=some s' →moveSt s true dst t=some s' :=by
  intro t hne hnn d hd h
  subst hd
  unfold moveSt
  simp only [stepC] at h ⊢
  have hdt:=hne d rfl
  by_cases ho:isOwn (s.fr t)=true
  ·simpa [ho,hdt] using h
  ·simpa [ho] using h
 split at hc
 ·rename_i t
  simp only [stepA]
  cases dst with
  |none=>simp only [Option.some.injEq] at hc;subst hc;simpa [stepC,moveSt] using h
  |some d=>
   simp only at hc ⊢
   split at hc
   ·rename_i ht
    rw [ht]
    split at hc
    ·cases hc
    ·rename_i hne;simp only [Option.some.injEq] at hc;subst hc;exact mvw t (fun d' e=>by cases e;exact hne) (by simp) d rfl h
   ·rename_i ht
    simp only [Option.some.injEq] at hc;subst hc
    have:tkm tk d=false:=by simpa using ht
    rw [this]
    simpa [stepC,moveSt] using h
 ·rename_i t
  simp only [stepA]
  cases dst with
  |none=>simp only [Option.some.injEq] at hc;subst hc;simpa [stepC,moveSt] using h
  |some d=>
   simp only at hc ⊢
   split at hc
   ·cases hc
   ·rename_i hne;simp only [Option.some.injEq] at hc;subst hc;exact mvw t (fun d' e=>by cases e;exact hne) (by simp) d rfl h
 iterate 2
  ·rename_i v
   split at hc
   ·rename_i d
    split at hc
    ·rename_i hk;simp only [Option.some.injEq] at hc;subst hc;simpa [stepA,hk,stepC,ASt.put] using h
    ·cases hc
   ·cases hc
 iterate 2
  ·rename_i f
   split at hc
   ·simp only [Option.some.injEq] at hc;subst hc;simpa [stepA,stepC,ASt.put] using h
   ·cases hc
 ·simp only [Option.some.injEq] at hc;subst hc
  simp only [stepC,pevC,evC_cV] at h
  exact fin_pev h (fun x e=>e) rfl
 ·rename_i op t x y yt
  split at hc
  ·rename_i ks hks
   have hx:=compX_step hc h
   have hp:pevA P s (.binOp op t x y yt)=none:=by
    unfold stepX at hx
    split at hx
    ·rename_i k xs hk
     split at hx
     ·split at hx
      ·rename_i r h' he
       have hform: ∃neg ks,k= .eqs neg ks∧xs= [x,y]:=by
        simp only at hk
        cases k with
        |mkm=>obtain ⟨_,e,_⟩:=xkOf_mkm hk;cases e
        |mup st=>obtain ⟨_,_,_,_,_,_,e,_⟩:=xkOf_mup hk;cases e
        |lkp st z ok=>obtain ⟨_,_,_,_,_,e,_⟩:=xkOf_lkp hk;cases e
        |mks zs b=>obtain ⟨_,_,_,_,_,e,_⟩:=xkOf_mks hk;cases e
        |cap=>obtain ⟨_,_,_,e,_⟩:=xkOf_cap hk;cases e
        |sb=>obtain ⟨_,_,_,e,_⟩:=xkOf_sb hk;cases e
        |bs=>obtain ⟨_,_,_,e,_⟩:=xkOf_bs hk;cases e
        |eqs neg ks=>obtain ⟨_,_,_,_,e,e2,_⟩:=xkOf_eqs hk;cases e;exact ⟨neg,ks,rfl,e2⟩
       obtain ⟨neg,ks',rfl,rfl⟩:=hform
       simp only [List.map_cons,List.map_nil] at he
       simp only [pevA]
       cases hx1:evA s x<;>rw [hx1] at he<;>simp only [evX,reduceCtorEq] at he
       cases hy1:evA s y<;>rw [hy1] at he<;>simp only [evX,reduceCtorEq] at he
       rfl
      ·cases hx
     ·cases hx
    ·cases hx
   simp only [stepA,hp]
   exact hx
  ·simp only [Option.some.injEq] at hc;subst hc
   simp only [stepC,pevC,evC_cV] at h
   exact fin_pev h (fun x e=>e) rfl
 ·simp only [Option.some.injEq] at hc;subst hc
  simp only [stepC,pevC,evC_cV] at h
  exact fin_pev h (fun x e=>e) rfl
 ·split at hc
  ·rename_i hq
   have hx:=compX_step hc h
   simp only [stepA,pevA,cvt_none hq]
   exact hx
  ·simp only [Option.some.injEq] at hc;subst hc
   simp only [stepC,pevC,evC_cV] at h
   exact fin_pev h (fun x e=>cvtB_some e) rfl
 ·rename_i t x f
  split at hc
  ·rename_i off ft hf
   split at hc
   ·rename_i ps hps
    simp only [Option.some.injEq] at hc;subst hc
    simp only [stepC,pevC,evC_cV] at h
    refine fin_pev h (fun r e=> ?_) rfl
    simp only [pevA,fieldA]
    split at e
    ·rename_i cs hx;rw [hx];simp only [hf,partB_eq hps];exact e
    ·cases e
   ·cases hc
  ·cases hc
 ·simp only [Option.some.injEq] at hc;subst hc
  simp only [stepC,pevC,evC_cV] at h
  exact fin_pev h (fun x e=>idxB_some e) rfl
 ·simp only [Option.some.injEq] at hc;subst hc
  simp only [stepC,pevC,evC_cV] at h
  exact fin_pev h (fun x e=>iaB_some e) rfl
 ·rename_i t x f
  split at hc
  ·rename_i off ft hf
   split at hc
   ·rename_i m hs
    simp only [Option.some.injEq] at hc;subst hc
    simp only [stepC,pevC,evC_cV] at h
    refine fin_pev h (fun r e=> ?_) rfl
    simp only [pevA,fieldAddrA,hf,hs]
    exact e
   ·cases hc
  ·cases hc
 ·simp only [Option.some.injEq] at hc;subst hc
  simp only [stepC,pevC,evC_cV] at h
  exact fin_pev h (fun x e=>e) rfl
 ·rename_i t x
  split at hc
  ·rename_i el hps
   have hag:aggT P t=some false∧elT P t=el:=by
    unfold psT at hps
    split at hps
    ·split at hps<;>simp at hps
    ·rename_i ha;simp at hps;exact ⟨ha,hps⟩
    ·cases hps
   split at hc
   ·rename_i d
    split at hc
    ·rename_i ht
     simp only [Option.some.injEq] at hc;subst hc
     simp only [stepC,evC_cV, ←loadB_eq hps] at h
     simp only [stepA,ht,hag.1,beq_self_eq_true,Bool.and_self,if_true]
     cases hcell:ownCell s.hp (evA s x) with
     |none=>rw [hcell] at h;simp only at h ⊢;exact h
     |some c=>obtain ⟨l,j,a,cs⟩:=c;rw [hcell] at h;simp only at h ⊢;exact h
    ·rename_i ht
     simp only [Option.some.injEq] at hc;subst hc
     simp only [stepC,pevC,evC_cV, ←loadB_eq hps] at h
     have:tk d=false:=by simpa using ht
     simp only [stepA,this,Bool.false_and,Bool.false_eq_true,if_false]
     cases hr:loadA P s.hp t (evA s x) with
     |none=>rw [hr] at h;cases h
     |some r=>rw [hr] at h;exact h
   ·simp only [Option.some.injEq] at hc;subst hc
    simp only [stepC,pevC,evC_cV, ←loadB_eq hps] at h
    simp only [stepA]
    cases hr:loadA P s.hp t (evA s x) with
    |none=>rw [hr] at h;cases h
    |some r=>rw [hr] at h;exact h
  ·rename_i ps hno hps
   simp only [Option.some.injEq] at hc;subst hc
   simp only [stepC,pevC,evC_cV, ←loadB_eq hps] at h
   have hag:(aggT P t==some false)=false:=by
    unfold psT at hps
    split at hps
    ·rename_i ha;rw [ha];rfl
    ·rename_i ha;simp at hps;subst hps;exact absurd rfl (hno _)
    ·cases hps
   simp only [stepA,hag,Bool.and_false,Bool.false_eq_true,if_false]
   cases dst<;>simp only<;>(cases hr:loadA P s.hp t (evA s x) with
   |none=>rw [hr] at h;cases h
   |some r=>rw [hr] at h;exact h)
  ·cases hc
 ·simp only [Option.some.injEq] at hc;subst hc
  simp only [stepC,pevC,evC_cV] at h
  exact fin_pev h (fun x e=>e) rfl
 ·rename_i t x lo hi mx
  simp only [Option.some.injEq] at hc;subst hc
  have hm: ∀z:Option Operand,(z.map cV).map (evC s)=z.map (evA s):=fun z=>by cases z<;>simp [evC_cV]
  simp only [stepC,pevC,evC_cV,hm] at h
  exact fin_pev h (fun x e=>e) rfl
 ·rename_i t parts
  have hmap:((parts.toList.map fun p=>(p.1,cV p.2)).map fun p=>(p.1,evC s p.2))=parts.toList.map fun p=>(p.1,evA s p.2):=by simp [evC_cV]
  split at hc
  ·rename_i zs hz
   split at hc
   ·rename_i pl hpl
    simp only [Option.some.injEq] at hc;subst hc
    simp only [stepC,pevC,hmap] at h
    refine fin_pev h (fun r e=> ?_) rfl
    simp only [pevA,buildA,hz,hpl];exact e
   ·rename_i hpl
    split at hc
    ·rename_i n hna
     simp only [Option.some.injEq] at hc;subst hc
     simp only [stepC,pevC,hmap] at h
     refine fin_pev h (fun r e=> ?_) rfl
     simp only [pevA,buildA,hz,hpl,hna]
     split at e
     ·rename_i cs hf
      rw [fillA_weak (pl' :=fun i=>some (i * n,n)) (fun i x hx=> ?_) hf]
      ·exact e
      ·rw [List.getElem?_map] at hx
       cases hq:(List.range (zs.length / n))[i]? with
       |none=>rw [hq] at hx;cases hx
       |some k=>
        rw [hq] at hx
        have:=List.getElem?_eq_some_iff.1 hq
        obtain ⟨h1,h2⟩:=this
        simp at h2;subst h2;exact hx
     ·cases e
    ·cases hc
  ·cases hc
 ·rename_i f first cap
  simp only [Option.some.injEq] at hc;subst hc
  have hm: ∀l:List Operand,(l.map cV).map (evC s)=l.map (evA s):=fun l=>by simp [evC_cV]
  simp only [stepC,pevC,hm] at h
  simpa only [stepA,pevA] using h
 ·rename_i t a x
  split at hc
  ·rename_i hd
   split at hc
   ·rename_i n hsz
    simp only [Option.some.injEq] at hc;subst hc
    simp only [stepC,evC_cV,evC_cVT,ownV_cVT] at h
    simp only [stepA,hd,if_true,storeSt]
    split at h
    ·rename_i l o ha
     rw [ha]
     simp only
     split at h
     ·rename_i cs hb;rw [hb,hsz];exact h
     ·cases h
    ·cases h
   ·cases hc
  ·cases hc
 ·rename_i t
  split at hc
  ·rename_i d zs hz
   simp only [Option.some.injEq] at hc;subst hc
   simpa [stepA,hz,stepC] using h
  ·cases hc
 ·rename_i t x
  split at hc
  ·simp only [Option.some.injEq] at hc;subst hc
   simpa only [stepA,stepC,evC_cVT] using h
  ·cases hc
 ·rename_i t len parts
  split at hc
  ·rename_i d e n by_ hr
   split at hc
   ·rename_i hk
    simp only [Option.some.injEq] at hc;subst hc
    have hmap:(parts.toList.map fun p=>cVT (elT P e) p.2).map (evC s)=parts.toList.map fun p=>valA P s e p.2:=by simp [evC_cVT]
    simp only [stepC,hmap] at h
    split at h
    ·rename_i hall
     simp only [stepA,bsA,hr]
     rw [if_pos ⟨hk.1,hall,hk.2.1,hk.2.2⟩]
     exact h
    ·cases h
   ·cases hc
  ·cases hc
 ·rename_i b args ts
  split at hc
  ·rename_i x y t u ha ht
   split at hc
   ·rename_i d e n by_ hr
    split at hc
    ·rename_i hpos
     have main: ∀(xv:V),baseA s n x=baseC s xv→(∀r,appC s d r xv=apOut s d r x)→
       stepC s (.app d xv (cVn n y) n by_ (notInt P u) (notInt P u))=some s' →apSt P s d x y t u=some s' :=by
      intro xv h1 h2 h
      simp only [stepC,evC_cVn] at h
      unfold apSt
      simp only [hr,h1]
      split at h
      ·rename_i fl sz xs ys q1 q2
       have q2' :srcA P n e u (srcOp s n y)=some ys:=q2
       rw [q1,q2']
       simp only
       split at h
       ·rename_i hk
        rw [if_pos ⟨hk.1,hk.2.1,hpos,hk.2.2.1,hk.2.2.2⟩, ←h2]
        exact h
       ·cases h
      ·cases h
     simp only [stepA,ha,ht]
     split at hc
     ·simp only [Option.some.injEq] at hc;subst hc;exact main (.t _) rfl (fun r=>rfl) h
     ·simp only [Option.some.injEq] at hc;subst hc;exact main (.k _) rfl (fun r=>rfl) h
     ·cases hc
    ·cases hc
   ·cases hc
  ·rename_i x t ha ht
   simp only [Option.some.injEq] at hc;subst hc
   simp only [stepC,pevC,evC_cV] at h
   refine fin_pev h (fun r e=> ?_) rfl
   simp only [pevA,ha,ht,List.map_cons,List.map_nil,builtinA]
   unfold lenA
   unfold lenB at e
   split at e
   ·rename_i l hx;rw [hx];exact e
   ·rename_i fl sz xs hx;rw [hx];cases hs:sliceT P t<;>simp [hs] at e ⊢;exact e
   ·rename_i l o ln sz hx;rw [hx];cases hs:sliceT P t<;>simp [hs] at e ⊢;exact e
   ·cases e
  iterate 2
   ·rename_i tt x y ha
    simp only [Option.some.injEq] at hc;subst hc
    simp only [stepC,pevC,evC_cV] at h
    refine fin_pev h (fun r e=> ?_) rfl
    simp only [pevA,ha,List.map_cons,List.map_nil,builtinA]
    exact e
  ·have hx:=compX_step hc h
   simp only [stepA,pevA,builtinA]
   exact hx
  ·cases hc
 iterate 4
  ·have hx:=compX_step hc h
   simp only [stepA,pevA]
   exact hx
 ·simp only [Option.some.injEq] at hc;exact absurd hc.symm (hn _ _ _ _)
 ·cases hc
end
end Go.Proofs.YtnibelnjflhkgaaGreatDoor.Ab

/- Rows of operations whose order is drawn: whatever order comes, the outcome is that of the text. No condition. -/
import Derived.Test.YtnibelnjflhkgaaGreatDoorAb15
namespace Go.Proofs.YtnibelnjflhkgaaGreatDoor.Ab
set_option linter.unusedVariables false
set_option linter.unusedSimpArgs false
open Go.RowKit
def effO:Option Nat→Bool
 |some j=>Nat.ble 100 j
 |none=>false
def cls (P:Program) (ow:FuncId→Option Nat) (tk:Nat→Bool) (o:Oper):Nat:=
 match o.op with
 | .call ⟨.value x,_,_⟩=>if effO (jOf ow x) then 2 else 0
 | .load _ _=>match o.dst with|some d=>if tk d then 2 else 1|none=>1
 | .store _ _ _=>2
 | .alloc _=>2
 | .box _ _=>2
 | .makeMap _ _=>2
 | .mapUpdate _ _ _ _=>2
 | .makeSlice _ _ _=>2
 | .lookup _ _ _ _=>1
 | .convert a b _=>if strT P a&&bytT P b then 2 else if bytT P a&&strT P b then 1 else 0
 |_=>0
def srcOf (ow:FuncId→Option Nat) (tk:Nat→Bool) (o:Oper):Option Nat:=
 match o.op with
 | .move (.tmp t)=>match o.dst with|some d=>if tkm tk d then some t else none|none=>none
 | .assign (.tmp t)=>some t
 | .store _ _ (.tmp t)=>some t
 | .call ⟨.builtin .append,args,_⟩=>match args.toList with| .tmp t::_=>some t|_=>none
 | .call ⟨.value x,args,_⟩=>ownArg (jOf ow x) args.toList
 |_=>none
structure Agree (P:Program) (ow:FuncId→Option Nat) (tk:Nat→Bool) (o:Oper) (s t:ASt):Prop where
 ev: ∀x∈o.op.operands.toList,evA s x=evA t x
 src: ∀k,srcOf ow tk o=some k→s.fr k=t.fr k
 hp:cls P ow tk o≠0→s.hp=t.hp
theorem pevA_congr {P:Program} {s t:ASt} {op:Op} (h: ∀x∈op.operands.toList,evA s x=evA t x) (hp:(∃ty x,op= .load ty x)→s.hp=t.hp):pevA P s op=pevA P t op:=by
 cases op<;>simp only [pevA]<;>simp only [Op.operands] at h
 case pick c x y=>rw [h c (by simp),h x (by simp),h y (by simp)]
 case binOp op ty x y yt=>rw [h x (by simp),h y (by simp)]
 case unOp op ty x=>rw [h x (by simp)]
 case convert a b x=>rw [h x (by simp)]
 case field ty x f=>rw [h x (by simp)]
 case index ty x i=>rw [h x (by simp),h i (by simp)]
 case indexAddr ty x i=>rw [h x (by simp),h i (by simp)]
 case fieldAddr ty x f=>rw [h x (by simp)]
 case extract x i=>rw [h x (by simp)]
 case load ty x=>rw [h x (by simp),hp ⟨ty,x,rfl⟩]
 case nilCheck x=>rw [h x (by simp)]
 case slice ty x lo hi mx=>
  have hm: ∀o:Option Operand,(∀z∈o.toArray.toList,evA s z=evA t z)→o.map (evA s)=o.map (evA t):=by
   intro o ho;cases o with
   |none=>rfl
   |some z=>simp [ho z (by simp)]
  rw [h x (by simp),hm lo (fun z hz=>h z (by simp at hz ⊢;simp [hz])),hm hi (fun z hz=>h z (by simp at hz ⊢;simp [hz])),hm mx (fun z hz=>h z (by simp at hz ⊢;simp [hz]))]
 case build ty parts=>
  congr 1
  refine List.map_congr_left fun p hp=> ?_
  rw [h p.2 (by simp;exact ⟨p.1,by simpa using hp⟩)]
 case makeFunc fn first cap=>
  cases fn<;>simp only [pevA]
  congr 2
  ·exact List.map_congr_left fun x hx=>h x (by simp at hx ⊢;exact .inl hx)
  ·exact List.map_congr_left fun x hx=>h x (by simp at hx ⊢;exact .inr hx)
 case call c=>
  obtain ⟨callee,args,ts⟩:=c
  cases callee<;>simp only
  congr 1
  exact List.map_congr_left fun x hx=>h x (by simp [Call.operands] at hx ⊢;exact hx)
theorem valA_congr {P:Program} {s t:ASt} {ty:TypeId} {x:Operand} (h:evA s x=evA t x):valA P s ty x=valA P t ty x:=by
 cases x with
 |const v=>rfl
 |tmp k=>exact h
 |func f=>rfl
 |global g=>rfl
theorem byt_not_str {P:Program} {t:TypeId} (h:bytT P t=true):strT P t=false:=by
 obtain ⟨e,he,_⟩:=bytT_und h
 simp [strT,sliceT_und he]
theorem cvt_two {P:Program} {a b:TypeId} {x r:AV} (ha:strT P a=true) (hb:bytT P b=true) (h:cvtA P a b x=some r):False:=by
 cases x<;>simp only [cvtA] at h<;>try (cases h;done)
 ·split at h
  ·rename_i h1 _;have:=strT_und ha;simp [intT,this] at h1
  ·cases h
 ·split at h
  ·rename_i h1;rw [byt_not_str hb] at h1;simp at h1
  ·cases h
theorem xk_ops {P:Program} {op:Op} {k:XK} {xs:List Operand} (h:xkOf P op=some (k,xs)):(∀x∈xs,x∈op.operands.toList)∧ ∀(ow:FuncId→Option Nat) (tk:Nat→Bool) (d:Option Tmp) (ty:TypeId) (ps:String) (af:Array Edge) (gd:Option (Nat×Bool)),cls P ow tk ⟨d,op,ty,ps,af,gd⟩=clsX k:=by
 cases k with
 |mkm=>obtain ⟨t,rfl,rfl⟩:=xkOf_mkm h;exact ⟨fun x hx=>(by cases hx),fun _ _ _ _ _ _ _=>rfl⟩
 |mup st=>obtain ⟨t,m,k,v,kt,e,rfl,rfl,_⟩:=xkOf_mup h;exact ⟨fun x hx=>by simpa [Op.operands] using hx,fun _ _ _ _ _ _ _=>rfl⟩
 |lkp st z ok=>obtain ⟨t,m,k,kt,e,rfl,rfl,_⟩:=xkOf_lkp h;exact ⟨fun x hx=>by simpa [Op.operands] using hx,fun _ _ _ _ _ _ _=>rfl⟩
 |mks zs b=>obtain ⟨t,l,c,e,n,rfl,rfl,_⟩:=xkOf_mks h;exact ⟨fun x hx=>by simpa [Op.operands] using hx,fun _ _ _ _ _ _ _=>rfl⟩
 |eqs neg ks=>obtain ⟨t,x,y,yt,rfl,rfl,_⟩:=xkOf_eqs h;exact ⟨fun z hz=>by cases neg<;>simpa [Op.operands] using hz,fun _ _ _ _ _ _ _=>by cases neg<;>rfl⟩
 |sb=>obtain ⟨a,b,x,rfl,rfl,h1,h2⟩:=xkOf_sb h;exact ⟨fun x hx=>by simpa [Op.operands] using hx,fun _ _ _ _ _ _ _=>by simp [cls,clsX,h1,h2]⟩
 |bs=>obtain ⟨a,b,x,rfl,rfl,h1,h2⟩:=xkOf_bs h;exact ⟨fun x hx=>by simpa [Op.operands] using hx,fun _ _ _ _ _ _ _=>by simp [cls,clsX,h1,h2,byt_not_str h1]⟩
 |cap=>obtain ⟨x,t,e,rfl,rfl,_⟩:=xkOf_cap h;exact ⟨fun x hx=>by simpa [Op.operands,Call.operands] using hx,fun _ _ _ _ _ _ _=>rfl⟩
theorem step_local {P:Program} {ow:FuncId→Option Nat} {tk:Nat→Bool} {o:Oper} {s s1 t:ASt} (h:stepA P tk o s=some s1) (ha:Agree P ow tk o s t):
  ∃src v h',(src=none∨src=srcOf ow tk o)∧s1=ASt.put ⟨stripO s.fr src,h'⟩ o.dst v∧(cls P ow tk o≠2→h' =s.hp)∧stepA P tk o t=some (ASt.put ⟨stripO t.fr src,if cls P ow tk o=2 then h' else t.hp⟩ o.dst v):=by
 obtain ⟨dst,op,ty,pos,aft,gd⟩:=o
 have hev:=ha.ev
 have hsrc:=ha.src
 have hhp:=ha.hp
 simp only at hev
 have mv: ∀(take:Bool) (k:Tmp),moveSt s take dst k=some s1→evA s (.tmp k)=evA t (.tmp k)→(take=true→s.fr k=t.fr k)→ ∃src v,(src=none∨(take=true∧src=some k))∧s1=ASt.put ⟨stripO s.fr src,s.hp⟩ dst v∧moveSt t take dst k=some (ASt.put ⟨stripO t.fr src,t.hp⟩ dst v):=by
  intro take k hm he hr
  unfold moveSt at hm ⊢
  cases dst with
  |none=>simp at hm;subst hm;exact ⟨none, .junk, .inl rfl,rfl,rfl⟩
  |some d=>
   simp only at hm ⊢
   split at hm
   ·rename_i hc
    simp at hc
    rw [←hr hc.1]
    simp only [hc,Bool.and_self,if_true]
    split at hm
    ·cases hm
    ·rename_i hne
     simp at hm;subst hm
     exact ⟨some k,s.fr k, .inr (by simp),rfl,by simp [hne,ASt.put,stripO,hr hc.1]⟩
   ·rename_i hc
    simp at hm;subst hm
    have hc' :(take&&isOwn (t.fr k))=false:=by
     cases take with
     |false=>rfl
     |true=>simp at hc ⊢;rw [←hr rfl];exact hc
    refine ⟨none,strip (s.fr k), .inl rfl,rfl, ?_⟩
    rw [hc']
    have he' :strip (s.fr k)=strip (t.fr k):=he
    simp [ASt.put,stripO,he']
 have fin: ∀(v:AV),s1=ASt.put s dst v→cls P ow tk ⟨dst,op,ty,pos,aft,gd⟩≠2→stepA P tk ⟨dst,op,ty,pos,aft,gd⟩ t=some (t.put dst v)→
   ∃src v h',(src=none∨src=srcOf ow tk ⟨dst,op,ty,pos,aft,gd⟩)∧s1=ASt.put ⟨stripO s.fr src,h'⟩ dst v∧(cls P ow tk ⟨dst,op,ty,pos,aft,gd⟩≠2→h' =s.hp)∧stepA P tk ⟨dst,op,ty,pos,aft,gd⟩ t=some (ASt.put ⟨stripO t.fr src,if cls P ow tk ⟨dst,op,ty,pos,aft,gd⟩=2 then h' else t.hp⟩ dst v):=by
  intro v e1 e2 e3
  exact ⟨none,v,s.hp, .inl rfl,e1,fun _=>rfl,by rw [if_neg e2];exact e3⟩
 unfold stepA at h
 simp only at h
 split at h
 ·rename_i k
  obtain ⟨src,v,k1,k2,k3⟩:=mv _ k h (hev _ (by simp [Op.operands])) (fun htk=>hsrc k (by
   simp only [srcOf]
   cases dst with
   |none=>cases htk
   |some d=>simp only at htk ⊢;rw [if_pos htk]))
  refine ⟨src,v,s.hp, ?_,k2,fun _=>rfl,by simpa [stepA,cls] using k3⟩
  rcases k1 with k1|⟨htk,k1⟩
  ·exact .inl k1
  ·right
   rw [k1]
   simp only [srcOf]
   cases dst with
   |none=>cases htk
   |some d=>simp only at htk ⊢;rw [if_pos htk]
 ·rename_i k
  obtain ⟨src,v,k1,k2,k3⟩:=mv true k h (hev _ (by simp [Op.operands])) (fun _=>hsrc k rfl)
  exact ⟨src,v,s.hp,by rcases k1 with k1|⟨_,k1⟩<;>simp [k1,srcOf],k2,fun _=>rfl,by simpa [stepA,cls] using k3⟩
 iterate 2
  ·rename_i v
   split at h
   ·rename_i hk;simp only [Option.some.injEq] at h;exact fin _ h.symm (by simp [cls]) (by simp [stepA,hk])
   ·cases h
 iterate 2
  ·simp only [Option.some.injEq] at h;exact fin _ h.symm (by simp [cls]) (by simp [stepA])
 ·rename_i tt x
  have hx:evA s x=evA t x:=hev x (by simp [Op.operands])
  have hh:s.hp=t.hp:=hhp (by simp only [cls];cases dst with
   |none=>simp
   |some d=>simp only;split<;>simp)
  split at h
  ·rename_i d l j a cs hm
   simp only [Option.some.injEq] at h
   have hmt:=hm
   split at hm
   ·rename_i d'
    split at hm
    ·rename_i hc
     simp only [Bool.and_eq_true,beq_iff_eq] at hc
     split at hm
     ·rename_i c hcell
      simp at hm;obtain ⟨rfl,rfl⟩:=hm
      refine ⟨none,a,s.hp.set l (.cells (cs.set j (strip a))), .inl rfl,by rw [←h];rfl,fun hne=>absurd (by simp [cls,hc.1]) hne, ?_⟩
      simp only [stepA,cls,hc,if_true]
      rw [←hx, ←hh,hcell]
      simp [ASt.put,stripO]
     ·cases hm
    ·cases hm
   ·cases hm
  ·rename_i hm
   split at h
   ·rename_i r hr
    simp only [Option.some.injEq] at h
    refine ⟨none,r,s.hp, .inl rfl,h.symm,fun _=>rfl, ?_⟩
    simp only [stepA]
    rw [←hx, ←hh,hm,hr]
    simp only [ite_self]
    cases dst<;>simp [ASt.put,stripO,hh]
   ·cases h
 ·rename_i tt ad x
  split at h
  ·rename_i hd
   have e1:evA s ad=evA t ad:=hev ad (by simp [Op.operands])
   have e2:evA s x=evA t x:=hev x (by simp [Op.operands])
   have hh:s.hp=t.hp:=hhp (by simp [cls])
   have e3:ownSlot s x=ownSlot t x:=by
    cases x with
    |tmp k=>simp only [ownSlot];rw [hsrc k rfl]
    |_=>rfl
   have e4:valA P s tt x=valA P t tt x:=valA_congr e2
   have hdn:dst=none:=by cases dst<;>simp_all
   subst hdn
   unfold storeSt at h
   split at h
   ·rename_i l of hea
    split at h
    ·rename_i cs n hb hn
     simp only at h
     split at h
     ·rename_i hc
      split at h
      ·rename_i t' hos
       simp only [Option.some.injEq] at h
       have hxt:x= .tmp t' :=by
        cases x with
        |tmp k=>simp only [ownSlot] at hos;split at hos<;>simp at hos;rw [hos]
        |const _=>simp [ownSlot] at hos
        |func _=>simp [ownSlot] at hos
        |global _=>simp [ownSlot] at hos
       subst hxt
       refine ⟨some t', .junk,s.hp.set l (.cells (cs.set of (s.fr t'))), .inr rfl,by rw [←h];rfl,fun hne=>absurd rfl hne, ?_⟩
       simp only [stepA,Option.isNone_none,if_true,storeSt, ←e1,hea, ←hh,hb,hn, ←e4, ←e3,hos,cls,hsrc t' rfl]
       rw [if_pos hc]
       simp [ASt.put,stripO,valA,evA, ←hsrc t' rfl]
      ·rename_i hos
       simp only [Option.some.injEq] at h
       refine ⟨none, .junk,s.hp.set l (.cells (putCells cs of ((valA P s tt x).cells.map strip))), .inl rfl,by rw [←h];rfl,fun hne=>absurd rfl hne, ?_⟩
       simp only [stepA,Option.isNone_none,if_true,storeSt, ←e1,hea, ←hh,hb,hn, ←e4, ←e3,hos,cls]
       rw [if_pos hc]
       simp [ASt.put,stripO]
     ·cases h
    ·cases h
   ·cases h
  ·cases h
 ·rename_i tt
  split at h
  ·rename_i d zs hd
   have hh:s.hp=t.hp:=hhp (by simp [cls])
   simp only [Option.some.injEq] at h
   refine ⟨none, .ptr s.hp.n 0,s.hp.push (.cells zs), .inl rfl,by rw [←h];rfl,fun hne=>absurd rfl hne, ?_⟩
   simp [stepA,hd,ASt.put,stripO, ←hh,cls]
  ·cases h
 ·rename_i tt x
  split at h
  ·rename_i d
   split at h
   ·rename_i hk
    have hh:s.hp=t.hp:=hhp (by simp [cls])
    have e4:valA P s tt x=valA P t tt x:=valA_congr (hev x (by simp [Op.operands]))
    simp only [Option.some.injEq] at h
    refine ⟨none, .ptr s.hp.n 0,s.hp.push (.cells ((valA P s tt x).cells.map strip)), .inl rfl,by rw [←h];rfl,fun hne=>absurd rfl hne, ?_⟩
    simp [stepA, ←e4,hk,ASt.put,stripO, ←hh,cls]
   ·cases h
  ·cases h
 ·rename_i tt len parts
  split at h
  ·rename_i d r hr
   simp only [Option.some.injEq] at h
   have e1:bsA P t tt len parts.toList=bsA P s tt len parts.toList:=by
    unfold bsA
    split
    ·rename_i e n by_ hrow
     have:(parts.toList.map fun p=>valA P t e p.2)=(parts.toList.map fun p=>valA P s e p.2):=List.map_congr_left fun p hp=>(valA_congr (hev p.2 (by simp [Op.operands];exact ⟨p.1,by simpa using hp⟩))).symm
     simp only [this]
    ·rfl
   refine fin r (by rw [←h];rfl) (by simp [cls]) ?_
   simp [stepA,e1,hr,ASt.put]
  ·cases h
 ·rename_i args ts
  split at h
  ·rename_i d x y tt u hl ht
   have e1:args= #[x,y]:=by cases args;simp_all
   subst e1
   have ey:evA s y=evA t y:=hev y (by simp [Op.operands,Call.operands])
   have eb: ∀n,baseA s n x=baseA t n x:=fun n=>by
    cases x with
    |tmp k=>exact hsrc k rfl
    |_=>rfl
   have ey2: ∀n:Nat,srcOp s n y=srcOp t n y:=fun n=>by
    cases y with
    |const v=>rfl
    |tmp k=>exact ey
    |func f=>rfl
    |global g=>rfl
   unfold apSt at h
   split at h
   ·rename_i e n by_ hr
    split at h
    ·rename_i fl sz xs ys hb hs
     split at h
     ·rename_i hc
      have step: ∀src:Option Nat,apSt P t d x y tt u=some ⟨upd (stripO t.fr src) d (.sl (apFl fl ys) n (xs++ys)),t.hp⟩→
        s1=⟨upd (stripO s.fr src) d (.sl (apFl fl ys) n (xs++ys)),s.hp⟩→(src=none∨src=srcOf ow tk ⟨some d, .call ⟨.builtin .append, #[x,y],ts⟩,ty,pos,aft,gd⟩)→
        ∃src v h',(src=none∨src=srcOf ow tk ⟨some d, .call ⟨.builtin .append, #[x,y],ts⟩,ty,pos,aft,gd⟩)∧s1=ASt.put ⟨stripO s.fr src,h'⟩ (some d) v∧(cls P ow tk ⟨some d, .call ⟨.builtin .append, #[x,y],ts⟩,ty,pos,aft,gd⟩≠2→h' =s.hp)∧stepA P tk ⟨some d, .call ⟨.builtin .append, #[x,y],ts⟩,ty,pos,aft,gd⟩ t=some (ASt.put ⟨stripO t.fr src,if cls P ow tk ⟨some d, .call ⟨.builtin .append, #[x,y],ts⟩,ty,pos,aft,gd⟩=2 then h' else t.hp⟩ (some d) v):=fun src q1 q2 q3=>
       ⟨src,_,s.hp,q3,q2,fun _=>rfl,by simp only [stepA,ht];rw [q1,if_neg (by simp [cls])];rfl⟩
      have hap:apSt P t d x y tt u=some (apOut t d (.sl (apFl fl ys) n (xs++ys)) x):=by
       unfold apSt
       simp only [hr]
       rw [←eb,hb]
       rw [←ey2 n,hs]
       simp only []
       rw [if_pos hc]
      cases x with
      |tmp t0=>
       simp only [Option.some.injEq] at h
       exact step (some t0) hap h.symm (.inr rfl)
      |const _=>simp only [Option.some.injEq] at h;exact step none hap h.symm (.inl rfl)
      |func _=>simp [baseA] at hb
      |global _=>simp [baseA] at hb
     ·cases h
    ·cases h
   ·cases h
  ·cases h
 ·rename_i h1 h2 h3 h4 h5 h6 h7 h8 h9 h10 h11 h12
  split at h
  ·rename_i r hr
   simp only [Option.some.injEq] at h
   have hc0:cls P ow tk ⟨dst,op,ty,pos,aft,gd⟩≠2:=by
    cases op
    case call c=>
     obtain ⟨callee,args,ts⟩:=c
     cases callee<;>first|exact (by decide:(0:Nat)≠2)|(simp [pevA] at hr;done)
    case convert a b x=>
     simp only [cls]
     split
     ·rename_i hc;simp only [Bool.and_eq_true] at hc;exact (cvt_two hc.1 hc.2 hr).elim
     ·split<;>simp
    all_goals first|exact (by decide:(0:Nat)≠2)|exact absurd rfl (h7 _ _)|exact absurd rfl (h8 _ _ _)|exact absurd rfl (h9 _)|exact absurd rfl (h10 _ _)|(simp [pevA] at hr;done)
   refine fin r h.symm hc0 ?_
   have e1:pevA P t op=some r:=by rw [←pevA_congr hev (fun ⟨a,b,e⟩=>absurd e (h7 a b))];exact hr
   unfold stepA
   simp only
   split<;>first|exact absurd rfl (h1 _)|exact absurd rfl (h2 _)|exact absurd rfl (h3 _)|exact absurd rfl (h4 _)|exact absurd rfl (h5 _)|exact absurd rfl (h6 _)|exact absurd rfl (h7 _ _)|exact absurd rfl (h8 _ _ _)|exact absurd rfl (h9 _)|exact absurd rfl (h10 _ _)|exact absurd rfl (h11 _ _ _)|exact absurd rfl (h12 _ _)|(rename_i hq;rw [e1] at hq;cases hq;rfl)|(rename_i hq;rw [e1] at hq;cases hq)
  ·rename_i hpn
   have e0:pevA P t op=none:=by
    have hpl:(∃ty x,op= .load ty x)→s.hp=t.hp:=fun ⟨a,b,e⟩=>absurd e (h7 a b)
    rw [←pevA_congr hev hpl];exact hpn
   have hst:stepA P tk ⟨dst,op,ty,pos,aft,gd⟩ t=stepX P ⟨dst,op,ty,pos,aft,gd⟩ t:=by
    unfold stepA
    simp only
    split<;>first|exact absurd rfl (h1 _)|exact absurd rfl (h2 _)|exact absurd rfl (h3 _)|exact absurd rfl (h4 _)|exact absurd rfl (h5 _)|exact absurd rfl (h6 _)|exact absurd rfl (h7 _ _)|exact absurd rfl (h8 _ _ _)|exact absurd rfl (h9 _)|exact absurd rfl (h10 _ _)|exact absurd rfl (h11 _ _ _)|exact absurd rfl (h12 _ _)|(rename_i hq;rw [e0] at hq;cases hq)|rfl
   unfold stepX at h
   simp only at h
   split at h
   ·rename_i k xs hk
    obtain ⟨hops,hcl⟩:=xk_ops hk
    have hcl' :=hcl ow tk dst ty pos aft gd
    split at h
    ·rename_i hc
     split at h
     ·rename_i r h' he
      simp only [Option.some.injEq] at h
      have hxs:xs.map (evA s)=xs.map (evA t):=List.map_congr_left fun x hx=>hev x (hops x hx)
      refine ⟨none,r,h', .inl rfl,h.symm,fun hne=>evX_hp (by rw [←hcl'];exact hne) he, ?_⟩
      rw [hst]
      unfold stepX
      simp only [hk]
      rw [if_pos hc, ←hxs]
      by_cases h0:clsX k=0
      ·rw [evX_free (hp2:=t.hp) h0 he,hcl',if_neg (by rw [h0];simp)];rfl
      ·have hh:s.hp=t.hp:=hhp (by rw [hcl'];exact h0)
       rw [←hh,he]
       by_cases h2:clsX k=2
       ·rw [hcl',if_pos h2];rfl
       ·rw [hcl',if_neg h2,evX_hp h2 he];rfl
     ·cases h
    ·cases h
   ·cases h
end Go.Proofs.YtnibelnjflhkgaaGreatDoor.Ab

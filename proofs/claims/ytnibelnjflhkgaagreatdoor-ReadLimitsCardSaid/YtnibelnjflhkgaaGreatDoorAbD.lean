/- A contract over plain values, turned. No condition. Readable data as abstract values; a contract as a call. No condition. -/
import Derived.Test.YtnibelnjflhkgaaGreatDoorAb25
import Derived.ChangeArms
import Derived.Deep.Slices
import Derived.DataElems
import Derived.WideShapes
import Derived.SizedLaws
import Derived.Below
namespace Go.Proofs.YtnibelnjflhkgaaGreatDoor.Ab
set_option linter.unusedVariables false
set_option linter.unusedSimpArgs false
open Go.RowKit
section
variable {P:Program}
end
end Go.Proofs.YtnibelnjflhkgaaGreatDoor.Ab
namespace Go.Proofs.YtnibelnjflhkgaaGreatDoor.Ab
set_option linter.unusedVariables false
set_option linter.unusedSimpArgs false
open Go Go.RowKit Go.ChangeShapes Go.WideShapes
def g0 (w:World):Gh:=⟨0,fun b _=>b<w.heap.size,fun _=>0⟩
structure AtA (P:Program) (n:Nat) (t:TypeId) (G:AV→Prop):Prop where
 op: ∀ {H:Type} {enc:TypeId×Value→H} {w:World} {base:Nat} {sp:Nat→Bool} {hd:Bool} {cs:List Value} {x:DataW H×List MemPlace},
  DataW.trod enc P w base sp hd n t cs=some x→(∀k∈x.1.weights P t,k≤reachBytes)→ ∃y:AV,CL (g0 w) w y.cells cs∧G y∧cs.length=P.cellsOf t
theorem AtA.imp {P:Program} {n:Nat} {t:TypeId} {G G' :AV→Prop} (h:AtA P n t G) (i: ∀x,G x→G' x):AtA P n t G' :=
 ⟨fun hx hw=>by obtain ⟨y,hk,hg,hl⟩:=h.op hx hw;exact ⟨y,hk,i y hg,hl⟩⟩
def GInt (k:IntKind) (y:AV):Prop:= ∃n:Int,y= .int k n∧(Lit.int k n).wf=true
def GBool (y:AV):Prop:= ∃b:Bool,y= .bool b
def GStr (y:AV):Prop:= ∃s:List UInt8,y= .str s∧s.length≤140737488351232
def GSl (sz B:Nat) (G:AV→Prop) (y:AV):Prop:= ∃xs:List AV,y= .sl .sh sz xs∧xs.length * B≤140737488351232∧xs.length≤9223372036854775807∧ ∀x∈xs,G x
theorem AtA.int {P:Program} {n:Nat} {t:TypeId} {k:IntKind} (ht:P.underlying t=some (.int k)) (hc:P.cellsOf t=1):AtA P n t (GInt k):=
 ⟨fun hx _=>by
  obtain ⟨m,rfl,rfl,hw⟩:=DataW.trod_int ht hx
  exact ⟨.int k m, .cons _ _ _ _ rfl (.int _ _) .nil,⟨m,rfl,hw⟩,hc.symm⟩⟩
theorem AtA.bool {P:Program} {n:Nat} {t:TypeId} (ht:P.underlying t=some .bool) (hc:P.cellsOf t=1):AtA P n t GBool:=
 ⟨fun hx _=>by
  obtain ⟨m,rfl,rfl⟩:=DataW.trod_bool ht hx
  exact ⟨.bool m, .cons _ _ _ _ rfl (.bool _) .nil,⟨m,rfl⟩,hc.symm⟩⟩
theorem AtA.string {P:Program} {n:Nat} {t:TypeId} (ht:P.underlying t=some .string) (hc:P.cellsOf t=1):AtA P n t GStr:=
 ⟨fun hx hw=>by
  obtain ⟨s,rfl,rfl,_⟩:=DataW.trod_string ht hx
  have:=hw s.data.toList.length (by simp [DataW.weights])
  obtain ⟨⟨l⟩⟩:=s
  exact ⟨.str l, .cons _ _ _ _ rfl (.str _) .nil,⟨l,rfl,by simpa [reachBytes] using this⟩,hc.symm⟩⟩
theorem weightsAll_mem {H:Type} {P:Program} {e:TypeId} : ∀ {ds:List (DataW H)} {i:Nat} {d:DataW H},ds[i]? =some d→ ∀k∈d.weights P e,k∈DataW.weightsAll P e ds
 |d0::ds,0,d,h,k,hk=>by
  simp only [List.getElem?_cons_zero,Option.some.injEq] at h
  subst h
  simp only [DataW.weightsAll,List.mem_append]
  exact Or.inl hk
 |d0::ds,i+1,d,h,k,hk=>by
  simp only [List.getElem?_cons_succ] at h
  simp only [DataW.weightsAll,List.mem_append]
  exact Or.inr (weightsAll_mem h k hk)
 | [],_,_,h,_,_=>by simp at h
theorem cell_lt {w:World} {b o:Nat} {v:Value} (h:w.cell? ⟨b,o,none⟩=some v):b<w.heap.size:=by
 unfold World.cell? at h
 split at h
 ·rename_i c e f hb
  exact (Array.getElem?_eq_some_iff.1 hb).1
 ·cases h
theorem cell_plain {w:World} {a:Addr} {v:Value} (h:w.cell? a=some v):a=⟨a.block,a.off,none⟩:=by
 unfold World.cell? at h
 split at h
 ·split at h
  ·cases h
  ·rename_i hs
   cases a with
   |mk b o s=>cases s with
    |none=>rfl
    |some s=>simp at hs
 ·cases h
theorem AtA.slice {P:Program} {n:Nat} {t e:TypeId} {G:AV→Prop} {B sz:Nat} (ht:P.underlying t=some (.slice e)) (hc:P.cellsOf t=1) (hB:P.bytesOf e=B) (hsz:P.cellsOf e=sz) (hpos:0<sz) (h: ∀m,m+1=n→AtA P m e G):
  AtA P n t (GSl sz B G):=
 ⟨@fun H enc w base sp hd cs x hx hw=>by
  rcases DataW.trod_slice ht hx with ⟨rfl,rfl⟩|⟨a,len,cap,elems,rest,m,hm,rfl,rfl,hb,hl,hcap,hlen,hel,_,_⟩
  ·exact ⟨.sl .sh sz [], .cons _ _ _ _ rfl (.sl0 _ _) .nil,⟨[],rfl,by simp,by simp,fun x hx=>by simp at hx⟩,hc.symm⟩
  ·subst hm
   have A:=h m rfl
   have hw1:((elems.map (·.1)).length+(rest.map (·.1)).length) * P.bytesOf e≤reachBytes:=hw _ (by simp [DataW.weights,ht])
   have hwe: ∀(i:Nat) (y:DataW H×List MemPlace),elems[i]? =some y→ ∀k∈y.1.weights P e,k≤reachBytes:=fun i y hi k hk=>hw k (by
    simp only [DataW.weights,ht,List.mem_cons,List.mem_append]
    exact Or.inr (Or.inl (weightsAll_mem (i:=i) (by rw [List.getElem?_map,hi];rfl) k hk)))
   by_cases h0:len=0
   ·subst h0
    exact ⟨.sl .sh sz [], .cons _ _ _ _ rfl (.sle _ _ _ _ hcap (.inl rfl)) .nil,⟨[],rfl,by simp,by simp,fun x hx=>by simp at hx⟩,hc.symm⟩
   have key: ∀m',m' ≤len→ ∃ys:List AV,ys.length=m' ∧(∀y∈ys,G y∧y.cells.length=sz)∧ ∃us,CL (g0 w) w (flat ys) us∧us.length=m' * sz∧ ∀(j:Nat) (v:Value),us[j]? =some v→w.cell? (a.add j)=some v:=by
    intro m'
    induction m' with
    |zero=>exact fun _=>⟨[],rfl,by simp, [], .nil,by simp,by simp⟩
    |succ i ih=>
     intro hi
     obtain ⟨ys,hl1,hys,us,hus,hul,huc⟩:=ih (by omega)
     have hi' :i<elems.length:=by omega
     have he:=hel i (by omega)
     rw [List.getElem?_eq_getElem hi'] at he
     obtain ⟨c,hc1,hc2⟩:=Option.bind_eq_some_iff.1 he
     obtain ⟨y,hk,hg,hcl'⟩:=A.op hc2 (hwe i _ (List.getElem?_eq_getElem hi'))
     obtain ⟨_,hcl,hcell⟩:=World.cells?_some hc1
     have hlc:c.length=sz:=by rw [hcl,hsz]
     refine ⟨ys++ [y],by simp [hl1],fun z hz=> ?_,us++c, ?_, ?_,fun j v hj=> ?_⟩
     ·rcases List.mem_append.1 hz with hz|hz
      ·exact hys z hz
      ·simp at hz;subst hz;exact ⟨hg,by rw [hk.length,hlc]⟩
     ·rw [flat_append]
      exact hus.append (by simpa [flat] using hk)
     ·rw [List.length_append,hul,hlc,Nat.succ_mul]
     ·rcases Nat.lt_or_ge j us.length with h1|h1
      ·rw [List.getElem?_append_left h1] at hj
       exact huc j v hj
      ·rw [List.getElem?_append_right h1] at hj
       have hlt:j-us.length<c.length:=by
        rcases Nat.lt_or_ge (j-us.length) c.length with h2|h2
        ·exact h2
        ·rw [List.getElem?_eq_none h2] at hj;simp at hj
       have:=hcell (j-us.length) (by rw [hsz];omega)
       rw [hj,Addr.add_add,hsz, ←hul] at this
       rwa [show us.length+(j-us.length)=j by omega] at this
   obtain ⟨ys,hl1,hys,us,hus,hul,huc⟩:=key len (Nat.le_refl _)
   have hne:0<us.length:=by rw [hul];exact Nat.mul_pos (by omega) hpos
   have hfirst:=huc 0 us[0] (List.getElem?_eq_getElem hne)
   have ha:a=⟨a.block,a.off,none⟩:=cell_plain (by simpa [Addr.add] using hfirst)
   have hlt:a.block<w.heap.size:=by rw [ha] at hfirst;exact cell_lt (by simpa [Addr.add] using hfirst)
   have hcr:CR (g0 w) w a.block a.off (flat ys):=CR.ofCL hus (fun j v hj=>by
    have:=huc j v hj
    rw [ha,add_mk] at this
    exact this) (fun j hj=>hlt)
   refine ⟨.sl .sh sz ys, .cons _ _ _ _ rfl ?_ .nil,⟨ys,rfl, ?_, ?_,fun y hy=>(hys y hy).1⟩,hc.symm⟩
   ·have:=VR.sl (g:=g0 w) (w:=w) .sh sz ys a.block a.off cap (by omega) hcap (fun e=>by cases e) (fun x hx=>(hys x hx).2) hcr
    rw [←ha,hl1] at this
    exact this
   ·rw [hB] at hw1
    have h2:ys.length≤(elems.map (·.1)).length+(rest.map (·.1)).length:=by simp;omega
    have h3:=Nat.mul_le_mul_right B h2
    have h4:reachBytes=140737488351232:=rfl
    omega
   ·have:=hcap;unfold maxLen at this;omega⟩
structure FsA (P:Program) (n:Nat) (off:Nat) (fs:List Field) (sz:Nat) (G:List AV→Prop):Prop where
 op: ∀ {H:Type} {enc:TypeId×Value→H} {w:World} {base:Nat} {sp:Nat→Bool} {hd:Bool} {cs:List Value} {xs:List (DataW H×List MemPlace)},
  cs.length=off+sz→xs.length=fs.length→(∀(i:Nat) (f:Field),fs[i]? =some f→DataW.trod enc P w base sp hd n f.type ((cs.drop f.offset).take (P.cellsOf f.type))=xs[i]?)→
  (∀k∈DataW.weightsEach P (fs.map (·.type)) (xs.map (·.1)),k≤reachBytes)→ ∃ys:List AV,CL (g0 w) w (flat ys) (cs.drop off)∧G ys
theorem FsA.nil {P:Program} {n off:Nat} :FsA P n off [] 0 (fun ys=>ys= []):=
 ⟨fun hc hl hf hw=>⟨[],by rw [List.drop_eq_nil_of_le (by omega)];exact .nil,rfl⟩⟩
theorem FsA.cons {P:Program} {n off off' sz sz' :Nat} {f:Field} {t:TypeId} {fs:List Field} {G:AV→Prop} {G' :List AV→Prop} (ho:f.offset=off) (ht:f.type=t) (hz:P.cellsOf t=sz) (hn:off+sz=off') (h:AtA P n t G) (hs:FsA P n off' fs sz' G'):
  FsA P n off (f::fs) (sz+sz') (fun ys=> ∃y zs,ys=y::zs∧G y∧G' zs):=by
 subst ho;subst ht;subst hn;subst hz
 exact ⟨fun {H enc w base sp hd cs xs} hc hl hf hw=>by
  match xs,hl with
  |x::xs,hl=>
   have h1:=hf 0 f rfl
   obtain ⟨y,hk,hg,hy⟩:=h.op h1 (fun k hk=>hw k (by
    simp only [List.map_cons,DataW.weightsEach,List.mem_append]
    exact Or.inl hk))
   obtain ⟨ys,hk',hg'⟩:=hs.op (cs:=cs) (xs:=xs) (by omega) (by simpa using hl) (fun i g hi=>by simpa using hf (i+1) g (by simpa using hi)) (fun k hk=>hw k (by
    simp only [List.map_cons,DataW.weightsEach,List.mem_append]
    exact Or.inr hk))
   refine ⟨y::ys, ?_,y,ys,rfl,hg,hg'⟩
   rw [flat_cons]
   have:=hk.append hk'
   rw [←List.drop_drop,List.take_append_drop] at this
   exact this⟩
theorem AtA.struct {P:Program} {n:Nat} {t:TypeId} {fs:Array Field} {sz:Nat} {G:List AV→Prop} (ht:P.underlying t=some (.struct fs)) (hc:P.cellsOf t=sz) (h: ∀m,m+1=n→FsA P m 0 fs.toList sz G):AtA P n t (fun y=> ∃ys,y= .agg (flat ys)∧G ys):=
 ⟨fun hx hw=>by
  obtain ⟨xs,m,rfl,rfl,hl,hlen,hf⟩:=DataW.trod_struct ht hx
  obtain ⟨ys,hk,hg⟩:=(h m rfl).op (by rw [hl,hc];omega) (by simpa using hlen) (fun i f hi=>hf i f (by simpa using hi)) (fun k hk=>hw k (by simpa [DataW.weights,ht] using hk))
  exact ⟨.agg (flat ys),by simpa [AV.cells] using hk,⟨ys,rfl,hg⟩,hl⟩⟩
theorem AtA.arg {H:Type} {enc:TypeId×Value→H} {P:Program} {w:World} {r:Reach} {b0 base:Nat} {sp:Nat→Bool} {hd:Bool} {t:TypeId} {fs:Array Field} {v:Value} {dt:DataW H} {ps:List MemPlace} {G:List AV→Prop}
  (h: ∀n,AtA P n t (fun y=> ∃ys,y= .agg (flat ys)∧G ys)) (ht:P.underlying t=some (.struct fs)) (hv:Value.okWide P w r b0 t v) (hx:DataW.Trod enc P w base sp hd t v dt ps) (hw: ∀k∈dt.weights P t,k≤reachBytes):
  ∃ys:List AV,VR (g0 w) w (.agg (flat ys)) v∧G ys:=by
 obtain ⟨cs,rfl,_⟩:=okWide_struct ht hv
 obtain ⟨fuel,hf⟩:=hx
 obtain ⟨y,hk,⟨ys,rfl,hg⟩,_⟩:=(h fuel).op hf hw
 refine ⟨ys, ?_,hg⟩
 have:=VR.agg (g:=g0 w) (w:=w) (flat ys) cs.toList (by simpa [Value.cells,AV.cells] using hk)
 simpa using this
theorem sized_at {H:Type} {P:Program} {ts:List TypeId} {ds:List (DataW H)} (h:(DataW.weightsEach P ts ds).all (· ≤reachBytes)=true) {j:Nat} {t:TypeId} {d:DataW H} (ht:ts[j]? =some t) (hd:ds[j]? =some d):
  ∀k∈d.weights P t,k≤reachBytes:=fun k hk=>by
 have:=List.all_eq_true.1 h _ (DataW.weights_mem_each ht hd k hk)
 simpa using this
theorem list_of {α:Type} {f:α→AV} {p:α→Prop} : ∀ {xs:List AV},(∀x∈xs, ∃t,x=f t∧p t)→ ∃ts:List α,xs=ts.map f∧ ∀t∈ts,p t
 | [],_=>⟨[],rfl,by simp⟩
 |x::xs,h=>by
  obtain ⟨t,rfl,ht⟩:=h x (by simp)
  obtain ⟨ts,rfl,hts⟩:=list_of (xs:=xs) (fun y hy=>h y (by simp [hy]))
  exact ⟨t::ts,rfl,fun u hu=>by
   rcases List.mem_cons.1 hu with rfl|hu
   ·exact ht
   ·exact hts u hu⟩
theorem call_true {P:Program} {f:FuncId} {a:AV} {v:Value} {W:World} (h:PFn P f [a] (.bool true)) (hno:NotOwn a) (hv:VR (g0 W) W a v) (hab:Amb (g0 W) W):Calls P f #[v] W fun e w' =>e= .returned (.bool true)∧Below W.heap.size W w' :=by
 have S:SR ⟨argsF [a],⟨0,fun _=> .cells []⟩⟩ (argsV [v]) W (g0 W):=
  {n:=rfl
   fr:=fun i=>by
    cases i with
    |zero=>exact hv
    |succ i=>exact .junk _
   bk:=fun l hl=>absurd hl (Nat.not_lt_zero _)
   inj:=fun l l' hl=>absurd hl (Nat.not_lt_zero _)
   G:=fun b o hb=>⟨hb,fun l hl=>absurd hl (Nat.not_lt_zero _)⟩
   tipS:=fun i sz xs b o len cap e1 e2=>by
    cases i with
    |zero=>exact absurd e1 (hno sz xs)
    |succ i=>cases e1
   tipC:=fun l j cs av v hl=>absurd hl (Nat.not_lt_zero _)
   one:=fun p q b hp hq=>by
    cases p with
    |slot i=>
     obtain ⟨sz,xs,o,len,cap,e1,e2⟩:=hp
     cases i with
     |zero=>exact absurd e1 (hno sz xs)
     |succ i=>cases e1
    |cell l j=>exact absurd hp.1 (Nat.not_lt_zero _) }
 refine ((h ⟨0,fun _=> .cells []⟩).2 [v] W (g0 W) rfl S hab).mono ?_
 rintro e w' ⟨v',g',rfl,tr⟩
 have hr:VR g' w' (.bool true) v' :=tr.sr.fr 0
 cases hr
 refine ⟨rfl,tr.st.os,tr.st.tape,tr.st.output,tr.st.size,fun k hk=>tr.st.blk k hk (fun l hl=>absurd hl (Nat.not_lt_zero _)) ?_⟩
 rintro ⟨p,hp⟩
 cases p with
 |slot i=>
  obtain ⟨sz,xs,o,len,cap,e1,e2⟩:=hp
  cases i with
  |zero=>exact absurd e1 (hno sz xs)
  |succ i=>cases e1
 |cell l j=>exact absurd hp.1 (Nat.not_lt_zero _)
end Go.Proofs.YtnibelnjflhkgaaGreatDoor.Ab

/- Terms as they are read: flags. No condition. What the words of a text are like; what a term read is like. No condition. -/
import Derived.Test.YtnibelnjflhkgaaGreatDoorRmB
import Derived.Test.YtnibelnjflhkgaaGreatDoorRdA
import Derived.Test.YtnibelnjflhkgaaGreatDoorAb38
namespace Go.Proofs.YtnibelnjflhkgaaGreatDoor.Ab
set_option linter.unusedVariables false
set_option linter.unusedSimpArgs false
def flT:List T→Fl| []=> .full|_=> .own
def flS:List T→Fl| []=> .full|_=> .sh
mutual
def T.avf:T→AV| .mk k n v l=> .agg [.int .i64 k, .str n, .int .i64 v, .sl (flS l) 4 (avfs l)]
def avfs:List T→List AV| []=> []|t::l=>t.avf::avfs l
end
theorem avfs_map: ∀l,avfs l=l.map T.avf
 | []=>by rw [avfs];rfl
 |t::l=>by rw [avfs,avfs_map l];rfl
theorem avf_mk (k:Int) (n:List UInt8) (v:Int) (l:List T):(T.mk k n v l).avf= .agg [.int .i64 k, .str n, .int .i64 v, .sl (flS l) 4 (l.map T.avf)]:=by rw [T.avf,avfs_map]
theorem strip_flS (l:List T) (xs:List AV):strip (.sl (flS l) 4 xs)= .sl (flS l) 4 xs:=by cases l<;>rfl
theorem strip_flT (l:List T) (xs:List AV):strip (.sl (flT l) 4 xs)= .sl (flS l) 4 xs:=by cases l<;>rfl
theorem isOwn_flS (l:List T) (xs:List AV):isOwn (.sl (flS l) 4 xs)=false:=by cases l<;>rfl
theorem avf_agg (t:T):AV.agg t.avf.cells=t.avf:=by cases t;rw [avf_mk];rfl
theorem strip_avf (t:T):strip t.avf=t.avf:=by cases t;rw [avf_mk];rfl
theorem isOwn_avf (t:T):isOwn t.avf=false:=by cases t;rw [avf_mk];rfl
theorem avf_len (t:T):t.avf.cells.length=4:=by cases t;rw [avf_mk];rfl
theorem avf_take (t:T):List.take 4 t.avf.cells=t.avf.cells:=by cases t;rw [avf_mk];rfl
theorem avf_okc (t:T):okc t.avf=true:=by cases t;rw [avf_mk];rfl
theorem avf_put (a b c d:AV) (t:T):putCells [a,b,c,d] 0 t.avf.cells=t.avf.cells:=by cases t;rw [avf_mk];rfl
theorem avf_cstrip (t:T):t.avf.cells.map strip=t.avf.cells:=by
 cases t;rw [avf_mk];simp only [AV.cells,List.map_cons,List.map_nil,strip_flS];rfl
theorem fk_avf: ∀t:T,fk t.avf=t.av:=by
 refine T.ind fun k n v l ih=> ?_
 rw [avf_mk,av_mk]
 have:fkL (l.map T.avf)=l.map T.av:=by
  rw [fkL_map,List.map_map];exact List.map_congr_left fun x hx=>ih x hx
 simp [fk,fkL,this]
theorem lab_avf (n:Nat): ∀t:T,labOK n t.avf=true:=by
 refine T.ind fun k s v l ih=> ?_
 have: ∀m:List T,(∀x∈m,labOK n x.avf=true)→labL n (m.map T.avf)=true:=by
  intro m
  induction m with
  |nil=>intro _;rfl
  |cons x m ihm=>intro ih;simp [labL,ih x (by simp),ihm (fun y hy=>ih y (by simp [hy]))]
 rw [avf_mk]
 simp [labOK,labL,this l ih]
attribute [go_sem] strip_flS strip_flT isOwn_flS avf_agg strip_avf isOwn_avf avf_len avf_take avf_okc avf_put avf_cstrip
theorem fnf_May (t:T) (ht:t.ok):PFn Tryz.prog 89 [t.avf] (.bool (mayB t)):=pfn_fk (by rw [List.map_cons,List.map_nil,fk_avf];exact fn_May t ht)
theorem fnf_rTerm (t:T) (ht:t.ok):PFn Tryz.prog 102 [t.avf] (.bool (mayB t)):=pfn_fk (by rw [List.map_cons,List.map_nil,fk_avf];exact fn_rTerm t ht)
end Go.Proofs.YtnibelnjflhkgaaGreatDoor.Ab
namespace Go.Proofs.YtnibelnjflhkgaaGreatDoor.Ab
set_option linter.unusedVariables false
set_option linter.unusedSimpArgs false
theorem wordW_ne {s:List UInt8} {e:Int} (h:wordW s= .bad e):e≠0:=by
 unfold wordW at h
 split at h
 ·cases h;decide
 split at h
 ·split at h<;>cases h;decide
 split at h
 ·unfold numW at h;split at h<;>cases h;decide
 split at h
 ·unfold numW at h;split at h<;>cases h;decide
 ·unfold markW at h;split at h<;>cases h;decide
theorem wordW_txt {s:List UInt8} {k:Int} {t:List UInt8} {n:Int} {len:Nat} (h:wordW s= .tok k t n len):t.length≤s.length:=by
 unfold wordW at h
 split at h
 ·cases h
 split at h
 ·split at h<;>cases h;simp;omega
 split at h
 ·unfold numW at h;split at h<;>cases h;simp
 split at h
 ·unfold numW at h;split at h<;>cases h;simp
 ·unfold markW at h;split at h<;>cases h
  rename_i m hm
  have h2:=List.find?_some hm
  exact (List.isPrefixOf_iff_prefix.1 h2).length_le
theorem toksF_end: ∀(f p:Nat) (s:List UInt8) (acc:List Tk),s.length<f→(toksF f p s acc).2.2=0→
  ∃m q,(toksF f p s acc).1=acc++(m++ [⟨5, [],0,q⟩])∧m.length≤s.length∧ ∀t∈m,t.s.length≤s.length
 |0,p,s,acc,hf,h=>by omega
 |f+1,p,s,acc,hf,h=>by
  rw [toksF] at h ⊢
  by_cases hd:s.drop (skipN false s)= []
  ·rw [if_pos hd]
   exact ⟨[],p+skipN false s,rfl,by simp,by simp⟩
  ·rw [if_neg hd] at h ⊢
   cases hw:wordW (s.drop (skipN false s)) with
   |bad e=>rw [hw] at h;exact absurd h (wordW_ne hw)
   |tok k t n len=>
    rw [hw] at h
    simp only at h ⊢
    have h1:=wordW_len hw
    have h2:=wordW_txt hw
    have h3:((s.drop (skipN false s)).drop len).length<s.length:=by simp at h1 ⊢;omega
    obtain ⟨m,q,e1,e2,e3⟩:=toksF_end f _ _ _ (by omega) h
    refine ⟨⟨k,t,n,p+skipN false s⟩::m,q, ?_,by simp only [List.length_cons];omega,fun x hx=> ?_⟩
    ·rw [e1];simp
    ·rcases List.mem_cons.1 hx with rfl|hx
     ·simp only;simp at h2;omega
     ·have:=e3 x hx;omega
structure Wds (ts:List Tk):Prop where
 len:ts.length<1000000000
 nx: ∀i t,ts[i]? =some t→(t.k !=5)=true→i+1<ts.length
 sm: ∀t∈ts,t.s.length<1000000000
 pos:0<ts.length
theorem wds_of {m:List Tk} {q:Nat} (h1:m.length<100000000) (h2: ∀t∈m,t.s.length<1000000000):Wds (m++ [⟨5, [],0,q⟩]) where
 len:=by simp;omega
 nx:=fun i t h hk=>by
  have hi:i<(m++ [(⟨5, [],0,q⟩:Tk)]).length:=(List.getElem?_eq_some_iff.1 h).1
  by_cases e:i<m.length
  ·simp;omega
  ·have:i=m.length:=by simp at hi;omega
   subst this
   simp at h;subst h;simp at hk
 sm:=fun t ht=>by
  rcases List.mem_append.1 ht with h|h
  ·exact h2 t h
  ·simp at h;subst h;simp
 pos:=by simp
theorem toks_wds {s:List UInt8} (h:(toks s).2.2=0):Wds (toks s).1∧(toks s).1.length≤4001:=by
 unfold toks at h ⊢
 by_cases c:s.length>4000
 ·rw [if_pos c] at h;cases h
 ·rw [if_neg c] at h ⊢
  obtain ⟨m,q,e1,e2,e3⟩:=toksF_end (s.length+1) 0 s [] (by omega) h
  rw [e1,List.nil_append]
  exact ⟨wds_of (by omega) (fun t ht=>by have:=e3 t ht;omega),by simp;omega⟩
theorem drop_get {α:Type} {l:List α} {i:Nat} {x:α} (h:l[i]? =some x):l.drop i=x::l.drop (i+1):=by
 obtain ⟨hi,e⟩:=List.getElem?_eq_some_iff.1 h
 rw [List.drop_eq_getElem_cons hi,e]
theorem isM_get {ts:List Tk} {i:Nat} {t:Tk} (h:ts[i]? =some t) (c:List UInt8):isM c (ts.drop i)=(t.k==4&&t.s==c):=by rw [drop_get h];rfl
theorem headP_get {ts:List Tk} {i:Nat} {t:Tk} (h:ts[i]? =some t):headP (ts.drop i)=t.p:=by rw [drop_get h];rfl
end Go.Proofs.YtnibelnjflhkgaaGreatDoor.Ab

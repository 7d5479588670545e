/- Words of a text, as plain data. No condition. Words of a text: the program's small functions. No condition. Words of a text: blanks, numbers, the row of marks. No condition. -/
import Derived.Test.YtnibelnjflhkgaaGreatDoorBsA
import Derived.Test.YtnibelnjflhkgaaGreatDoorShelf
import Derived.Shelf.Strings.Fields
namespace Go.Proofs.YtnibelnjflhkgaaGreatDoor.Ab
set_option linter.unusedVariables false
set_option linter.unusedSimpArgs false
structure Tk where
 k:Int
 s:List UInt8
 n:Int
 p:Nat
def Tk.av (t:Tk):AV:= .agg [.int .i64 t.k, .str t.s, .int .i64 t.n, .int .i64 (t.p:Nat)]
def inR (lo hi c:Int):Bool:=decide (c≥lo)&&decide (c≤hi)
def digB (c:UInt8):Bool:=inR 48 57 (c.toNat:Nat)
def smaB (c:UInt8):Bool:=inR 97 122 (c.toNat:Nat)
def greB (c:UInt8):Bool:=inR 65 90 (c.toNat:Nat)
def innB (c:UInt8):Bool:=smaB c||greB c||digB c||c==95
def blaB (c:UInt8):Bool:=c==32||c==9||c==10||c==13
def spanN (f:UInt8→Bool):List UInt8→Nat
 | []=>0
 |c::s=>if f c then spanN f s+1 else 0
def skipN:Bool→List UInt8→Nat
 |_, []=>0
 |true,c::s=>if c=10 then skipN false s+1 else skipN true s+1
 |false,c::s=>if blaB c then skipN false s+1 else if c=37 then skipN true s+1 else 0
def digV (l:List UInt8):Nat:=l.foldl (fun n c=>10 * n+(c.toNat-48)) 0
def marksL:List (List UInt8):= [[40], [41], [44], [46], [59], [58,45], [60,45], [61,60], [60], [61], [92,61], [38], [124], [64], [92,43]]
inductive Wd|tok (k:Int) (s:List UInt8) (n:Int) (len:Nat)|bad (e:Int)
def pre1 (c:UInt8) (s:List UInt8):Bool:=match s with|d::_=>d==c| []=>false
def digAt (s:List UInt8):Bool:=match s with|d::_=>digB d| []=>false
def numW (sg:Nat) (s:List UInt8):Wd:=
 if digV ((s.drop sg).take (spanN digB (s.drop sg)))>1073741824 then .bad 2
 else .tok 3 [] (if sg=1 then-(digV ((s.drop sg).take (spanN digB (s.drop sg))):Int) else (digV ((s.drop sg).take (spanN digB (s.drop sg))):Int)) (sg+spanN digB (s.drop sg))
def markW (s:List UInt8):Wd:=match marksL.find? (·.isPrefixOf s) with|some m=> .tok 4 m 0 m.length|none=> .bad 4
def wordW (s:List UInt8):Wd:=
 match s with
 | []=> .bad 4
 |c::r=>
  if smaB c||greB c then (if spanN innB (c::r)>16 then .bad 2 else .tok (if greB c then 2 else 1) ((c::r).take (spanN innB (c::r))) 0 (spanN innB (c::r)))
  else if digB c then numW 0 (c::r)
  else if c==45&&digAt r then numW 1 (c::r)
  else markW (c::r)
def toksF:Nat→Nat→List UInt8→List Tk→List Tk×Nat×Int
 |0,_,_,_=>([],0,0)
 |f+1,p,s,acc=>
  if s.drop (skipN false s)= [] then (acc++ [⟨5, [],0,p+skipN false s⟩],0,0)
  else match wordW (s.drop (skipN false s)) with
   | .bad e=>([],p+skipN false s,e)
   | .tok k t n len=>toksF f (p+skipN false s+len) ((s.drop (skipN false s)).drop len) (acc++ [⟨k,t,n,p+skipN false s⟩])
def toks (s:List UInt8):List Tk×Nat×Int:=if s.length>4000 then ([],0,2) else toksF (s.length+1) 0 s []
theorem spanN_le (f:UInt8→Bool): ∀s,spanN f s≤s.length
 | []=>Nat.le_refl _
 |c::s=>by rw [spanN];split<;>simp;exact spanN_le f s
theorem skipN_le: ∀b s,skipN b s≤s.length
 |_, []=>by simp [skipN]
 |true,c::s=>by rw [skipN];split<;>simp<;>exact skipN_le _ s
 |false,c::s=>by
  rw [skipN];split
  ·simp;exact skipN_le _ s
  ·split<;>simp;exact skipN_le _ s
theorem skipN_rem: ∀s,skipN true s=spanN (fun c=>c !=10) s+skipN false (s.drop (spanN (fun c=>c !=10) s))
 | []=>rfl
 |c::s=>by
  by_cases h:c=10
  ·subst h;simp [skipN,spanN,blaB]
  ·have:(c !=10)=true:=by simpa using h
   rw [skipN,if_neg h,spanN,this,if_pos rfl,List.drop_succ_cons,skipN_rem s];omega
theorem spanN_pos {f:UInt8→Bool} {c:UInt8} {s:List UInt8} (h:f c=true):0<spanN f (c::s):=by rw [spanN,h];simp
theorem marks_pos: ∀m∈marksL,0<m.length:=by decide
theorem wordW_len {s:List UInt8} {k:Int} {t:List UInt8} {n:Int} {len:Nat} (h:wordW s= .tok k t n len):0<len∧len≤s.length:=by
 unfold wordW at h
 split at h
 ·cases h
 ·rename_i c r
  split at h
  ·rename_i h1
   split at h
   ·cases h
   ·cases h
    exact ⟨spanN_pos (by simp only [innB,Bool.or_eq_true] at h1 ⊢;exact .inl (.inl h1)),spanN_le _ _⟩
  split at h
  ·rename_i h1
   unfold numW at h
   split at h
   ·cases h
   ·cases h
    have:=spanN_le digB (c::r)
    have:=spanN_pos (f:=digB) (s:=r) h1
    simp only [List.drop_zero];omega
  split at h
  ·rename_i h1
   simp only [Bool.and_eq_true] at h1
   unfold numW at h
   split at h
   ·cases h
   ·cases h
    have:=spanN_le digB r
    simp only [List.drop_succ_cons,List.drop_zero,List.length_cons];omega
  ·unfold markW at h
   split at h
   ·rename_i m hm
    cases h
    have h1:=List.mem_of_find?_eq_some hm
    have h2:=List.find?_some hm
    exact ⟨marks_pos _ h1,(List.isPrefixOf_iff_prefix.1 h2).length_le⟩
   ·cases h
end Go.Proofs.YtnibelnjflhkgaaGreatDoor.Ab
namespace Go.Proofs.YtnibelnjflhkgaaGreatDoor.Ab
set_option linter.unusedVariables false
set_option linter.unusedSimpArgs false
set_option maxRecDepth 10000
theorem c191:compF Tryz.prog ow Tryz.f191=(some (9,([(.t 2)],(.seq (.ops [(none,(.set 2 (.bool false)))]) (.seq (.ops [(none,(.cp 3 0)),(none,(.bin (some 4) .geq (.t 3) (.k (.int .u8 97)) false false)),(none,(.cp 5 4)),((some (5,true)),(.cp 6 0)),((some (5,true)),(.bin (some 7) .leq (.t 6) (.k (.int .u8 122)) false false)),(none,(.pick (some 8) (.t 5) (.t 7) (.k (.bool false)))),(none,(.mv 2 8))]) .ret))))):=by kernel_rfl
theorem c192:compF Tryz.prog ow Tryz.f192=(some (9,([(.t 2)],(.seq (.ops [(none,(.set 2 (.bool false)))]) (.seq (.ops [(none,(.cp 3 0)),(none,(.bin (some 4) .geq (.t 3) (.k (.int .u8 65)) false false)),(none,(.cp 5 4)),((some (5,true)),(.cp 6 0)),((some (5,true)),(.bin (some 7) .leq (.t 6) (.k (.int .u8 90)) false false)),(none,(.pick (some 8) (.t 5) (.t 7) (.k (.bool false)))),(none,(.mv 2 8))]) .ret))))):=by kernel_rfl
theorem c193:compF Tryz.prog ow Tryz.f193=(some (9,([(.t 2)],(.seq (.ops [(none,(.set 2 (.bool false)))]) (.seq (.ops [(none,(.cp 3 0)),(none,(.bin (some 4) .geq (.t 3) (.k (.int .u8 48)) false false)),(none,(.cp 5 4)),((some (5,true)),(.cp 6 0)),((some (5,true)),(.bin (some 7) .leq (.t 6) (.k (.int .u8 57)) false false)),(none,(.pick (some 8) (.t 5) (.t 7) (.k (.bool false)))),(none,(.mv 2 8))]) .ret))))):=by kernel_rfl
theorem c189:compF Tryz.prog ow Tryz.f189=(some (5,([(.t 2)],(.seq (.ops [(none,(.set 2 (.bool false)))]) (.seq (.ops [(none,(.cp 3 0)),(none,(.bin (some 4) .neq (.t 3) (.k (.int .u8 10)) false false)),(none,(.mv 2 4))]) .ret))))):=by kernel_rfl
theorem c223:compF Tryz.prog ow Tryz.f223=(some (5,([(.t 2)],(.seq (.ops [(none,(.set 2 (.bool false)))]) (.seq (.ops [(none,(.cp 3 0)),(none,(.bin (some 4) .eql (.t 3) (.k (.int .u8 45)) false false)),(none,(.mv 2 4))]) .ret))))):=by kernel_rfl
theorem c190:compF Tryz.prog ow Tryz.f190=(some (17,([(.t 2)],(.seq (.ops [(none,(.set 2 (.bool false)))]) (.seq (.ops [(none,(.cp 3 0)),(none,(.call (some 4) (.k (.func 191 [] [])) [(.t 3)] none)),(none,(.cp 5 4)),((some (5,false)),(.cp 6 0)),((some (5,false)),(.call (some 7) (.k (.func 192 [] [])) [(.t 6)] none)),(none,(.pick (some 8) (.t 5) (.k (.bool true)) (.t 7))),(none,(.cp 9 8)),((some (9,false)),(.cp 10 0)),((some (9,false)),(.call (some 11) (.k (.func 193 [] [])) [(.t 10)] none)),(none,(.pick (some 12) (.t 9) (.k (.bool true)) (.t 11))),(none,(.cp 13 12)),((some (13,false)),(.cp 14 0)),((some (13,false)),(.bin (some 15) .eql (.t 14) (.k (.int .u8 95)) false false)),(none,(.pick (some 16) (.t 13) (.k (.bool true)) (.t 15))),(none,(.mv 2 16))]) .ret))))):=by kernel_rfl
theorem c188:compF Tryz.prog ow Tryz.f188=(some (20,([(.t 4)],(.seq (.ops [(none,(.set 4 (.int .i64 0)))]) (.seq (.ops [(none,(.set 5 (.int .i64 0)))]) (.seq (.block 0 (.loop (.seq (.seq (.ops [(none,(.cp 6 5)),(none,(.cp 7 0)),(none,(.len (some 8) (.t 7) true false)),(none,(.bin (some 9) .lss (.t 6) (.t 8) false false)),(none,(.cp 10 9)),((some (10,true)),(.cp 11 1)),((some (10,true)),(.cp 12 0)),((some (10,true)),(.cp 13 5)),((some (10,true)),(.idx (some 14) (.t 12) (.t 13) true none)),((some (10,true)),(.call (some 15) (.t 11) [(.t 14)] none)),(none,(.pick (some 16) (.t 10) (.t 15) (.k (.bool false))))]) (.cond (.t 16) .skip (.exit 0))) (.block 1 (.ops [(none,(.cp 17 5)),(none,(.bin (some 18) .add (.t 17) (.k (.int .i64 1)) false false)),(none,(.mv 5 18))]))))) (.seq (.ops [(none,(.mv 19 5)),(none,(.mv 4 19))]) .ret))))))):=by kernel_rfl
theorem c139:compF Tryz.prog ow Tryz.f139=(some (28,([(.t 2)],(.seq (.ops [(none,(.set 2 (.int .i64 0)))]) (.seq (.ops [(none,(.set 3 (.int .i64 0)))]) (.seq (.block 0 (.loop (.seq (.seq (.ops [(none,(.cp 4 3)),(none,(.cp 5 0)),(none,(.len (some 6) (.t 5) true false)),(none,(.bin (some 7) .lss (.t 4) (.t 6) false false))]) (.cond (.t 7) .skip (.exit 0))) (.block 1 (.seq (.ops [(none,(.cp 8 0)),(none,(.cp 9 3)),(none,(.idx (some 10) (.t 8) (.t 9) true none))]) (.block 2 (.seq (.seq (.ops [(none,(.bin (some 13) .eql (.t 10) (.k (.int .u8 32)) false false)),(none,(.mv 12 13))]) (.cond (.t 12) .skip (.seq (.ops [(none,(.bin (some 14) .eql (.t 10) (.k (.int .u8 9)) false false)),(none,(.mv 12 14))]) (.cond (.t 12) .skip (.seq (.ops [(none,(.bin (some 15) .eql (.t 10) (.k (.int .u8 10)) false false)),(none,(.mv 12 15))]) (.cond (.t 12) .skip (.ops [(none,(.bin (some 16) .eql (.t 10) (.k (.int .u8 13)) false false)),(none,(.mv 12 16))]))))))) (.cond (.t 12) (.ops [(none,(.cp 17 3)),(none,(.bin (some 18) .add (.t 17) (.k (.int .i64 1)) false false)),(none,(.mv 3 18))]) (.seq (.ops [(none,(.bin (some 20) .eql (.t 10) (.k (.int .u8 37)) false false)),(none,(.mv 19 20))]) (.cond (.t 19) (.ops [(none,(.cp 21 3)),(none,(.cp 22 0)),(none,(.cp 23 3)),(none,(.sl (some 24) (.t 22) (some (.t 23)) none none true none)),(none,(.call (some 25) (.k (.func 188 [] [])) [(.t 24),(.k (.func 189 [] []))] none)),(none,(.bin (some 26) .add (.t 21) (.t 25) false false)),(none,(.mv 3 26))]) (.seq (.ops [(none,(.mv 11 3)),(none,(.mv 2 11))]) .ret))))))))))) (.seq (.ops [(none,(.mv 27 3)),(none,(.mv 2 27))]) .ret))))))):=by kernel_rfl
theorem c195:compF Tryz.prog ow Tryz.f195=(some (8,([(.t 4)],(.seq (.ops [(none,(.set 4 (.bool false)))]) (.seq (.ops [(none,(.cp 5 0)),(none,(.cp 6 1)),(none,(.call (some 7) (.k (.func 224 [] [])) [(.t 5),(.t 6)] none)),(none,(.mv 4 7))]) .ret))))):=by kernel_rfl
theorem c224:compF Tryz.prog ow Tryz.f224=(some (18,([(.t 4)],(.seq (.ops [(none,(.set 4 (.bool false)))]) (.seq (.ops [(none,(.cp 5 0)),(none,(.len (some 6) (.t 5) true false)),(none,(.cp 7 1)),(none,(.len (some 8) (.t 7) true false)),(none,(.bin (some 9) .geq (.t 6) (.t 8) false false)),(none,(.cp 10 9)),((some (10,true)),(.cp 11 0)),((some (10,true)),(.cp 12 1)),((some (10,true)),(.len (some 13) (.t 12) true false)),((some (10,true)),(.sl (some 14) (.t 11) none (some (.t 13)) none true none)),((some (10,true)),(.cp 15 1)),((some (10,true)),(.bin (some 16) .eql (.t 14) (.t 15) false false)),(none,(.pick (some 17) (.t 10) (.t 16) (.k (.bool false)))),(none,(.mv 4 17))]) .ret))))):=by kernel_rfl
theorem fnl_small (c:Int):PFn Tryz.prog 191 [.int .u8 c] (.bool (inR 97 122 c)):=by
 intro h
 refine fnC mixed Tryz.func191 c191 (by simp) ?_
 unfold inR
 simp only [go_sem,seval]
 refine cog (fun h1=> ?_) (fun h1=> ?_)
 ·simp only [go_sem,seval,h1]
 ·simp only [go_sem,seval,h1]
theorem fnl_great (c:Int):PFn Tryz.prog 192 [.int .u8 c] (.bool (inR 65 90 c)):=by
 intro h
 refine fnC mixed Tryz.func192 c192 (by simp) ?_
 unfold inR
 simp only [go_sem,seval]
 refine cog (fun h1=> ?_) (fun h1=> ?_)
 ·simp only [go_sem,seval,h1]
 ·simp only [go_sem,seval,h1]
theorem fnl_digit (c:Int):PFn Tryz.prog 193 [.int .u8 c] (.bool (inR 48 57 c)):=by
 intro h
 refine fnC mixed Tryz.func193 c193 (by simp) ?_
 unfold inR
 simp only [go_sem,seval]
 refine cog (fun h1=> ?_) (fun h1=> ?_)
 ·simp only [go_sem,seval,h1]
 ·simp only [go_sem,seval,h1]
theorem u8_eqb (c:UInt8) (k:Nat) (hk:k<256):(((c.toNat:Nat):Int)==(k:Int))=(c==UInt8.ofNat k):=by
 have h:c=UInt8.ofNat k↔c.toNat=k:=by
  constructor
  ·rintro rfl;simp;omega
  ·intro e;rw [←e];simp
 by_cases e:c.toNat=k
 ·rw [h.2 e];simp;omega
 ·have e2: ¬c=UInt8.ofNat k:=fun q=>e (h.1 q)
  have e3:(((c.toNat:Nat):Int)==(k:Int))=false:=by simp;omega
  rw [e3];simpa using e2
theorem fnl_rem (c:UInt8):PFn Tryz.prog 189 [.int .u8 (c.toNat:Nat)] (.bool (c !=10)):=by
 intro h
 refine fnC mixed Tryz.func189 c189 (by simp) ?_
 have e:(((c.toNat:Nat):Int) !=10)=(c !=10):=congrArg Bool.not (u8_eqb c 10 (by omega))
 simp only [go_sem,seval,e]
theorem fnl_min (c:UInt8):PFn Tryz.prog 223 [.int .u8 (c.toNat:Nat)] (.bool (c==45)):=by
 intro h
 refine fnC mixed Tryz.func223 c223 (by simp) ?_
 have e:(((c.toNat:Nat):Int)==45)=(c==45):=u8_eqb c 45 (by omega)
 simp only [go_sem,seval,e]
theorem fnl_inner (c:UInt8):PFn Tryz.prog 190 [.int .u8 (c.toNat:Nat)] (.bool (innB c)):=by
 intro h
 refine fnC mixed Tryz.func190 c190 (by simp) ?_
 have e:(((c.toNat:Nat):Int)==95)=(c==95):=u8_eqb c 95 (by omega)
 have h1:=fnl_small (c.toNat:Nat)
 have h2:=fnl_great (c.toNat:Nat)
 have h3:=fnl_digit (c.toNat:Nat)
 unfold innB smaB greB digB
 generalize inR 97 122 (c.toNat:Nat)=b1 at *
 generalize inR 65 90 (c.toNat:Nat)=b2 at *
 generalize inR 48 57 (c.toNat:Nat)=b3 at *
 simp only [go_sem,seval]
 refine pcall h1 (by simp only [go_sem,seval]) ?_
 cases b1 with
 |true=>simp only [go_sem,seval,Bool.true_or,Bool.or_true,Bool.false_or]
 |false=>
  simp only [go_sem,seval]
  refine pcall h2 (by simp only [go_sem,seval]) ?_
  cases b2 with
  |true=>simp only [go_sem,seval,Bool.true_or,Bool.or_true,Bool.false_or]
  |false=>
   simp only [go_sem,seval]
   refine pcall h3 (by simp only [go_sem,seval]) ?_
   cases b3 with
   |true=>simp only [go_sem,seval,Bool.true_or,Bool.or_true,Bool.false_or]
   |false=>simp only [go_sem,seval,e,Bool.true_or,Bool.or_true,Bool.false_or]
theorem drop_cons {α:Type} {s:List α} {i:Nat} (hi:i<s.length):s.drop i=s[i]::s.drop (i+1):=List.drop_eq_getElem_cons hi
theorem fnl_span (s:List UInt8) (f:FuncId) (p:UInt8→Bool) (hf: ∀c:UInt8,PFn Tryz.prog f [.int .u8 (c.toNat:Nat)] (.bool (p c))) (hs:s.length<1000000000000000):PFn Tryz.prog 188 [.str s, .func f [] []] (.int .i64 (spanN p s:Nat)):=by
 intro h
 refine fnC mixed Tryz.func188 c188 (by simp) ?_
 simp only [go_sem,seval]
 refine cloop (fun k t=> ∃i:Nat,i+k=s.length∧t.fr 0= .str s∧t.fr 1= .func f [] []∧t.fr 5= .int .i64 (i:Nat)∧i+spanN p (s.drop i)=spanN p s∧t.hp=h) s.length ⟨0,by simp,by simp [fr_apply,argsF],by simp [fr_apply,argsF],by simp [fr_apply],by simp,rfl⟩ ?_
 rintro k ⟨F,hp⟩ ⟨i,hk,f0,f1,f5,he,rfl⟩
 simp only at f0 f1 f5
 by_cases hi:i<s.length
 ·have hi' :decide ((i:Int)<(s.length:Int))=true:=decide_eq_true (by omega)
  have hw:IntKind.i64.wrap ((i:Int)+1)=((i+1:Nat):Int):=by rw [wrap64]<;>omega
  have hx:s[i]? =some s[i]:=List.getElem?_eq_getElem hi
  rw [drop_cons hi,spanN] at he
  generalize s[i]=c at hx he
  have hc:=hf c
  simp only [go_sem,seval,f0,f1,f5,hi',hx]
  refine pcall hc (by simp only [go_sem,seval,f0,f1,f5]) ?_
  cases hp1:p c with
  |true=>
   rw [hp1,if_pos rfl] at he
   simp only [go_sem,seval,f0,f1,f5,hw]
   exact ⟨k-1,by omega,i+1,by omega,rfl,by omega⟩
  |false=>
   rw [hp1,if_neg (by simp)] at he
   simp only [go_sem,seval,f0,f1,f5]
   have:spanN p s=i:=by omega
   rw [this]
 ·have hi' :decide ((i:Int)<(s.length:Int))=false:=decide_eq_false (by omega)
  rw [List.drop_eq_nil_of_le (by omega),spanN] at he
  simp only [go_sem,seval,f0,f1,f5,hi']
  have:spanN p s=i:=by omega
  rw [this]
end Go.Proofs.YtnibelnjflhkgaaGreatDoor.Ab
namespace Go.Proofs.YtnibelnjflhkgaaGreatDoor.Ab
set_option linter.unusedVariables false
set_option linter.unusedSimpArgs false
set_option maxRecDepth 10000
theorem c194:compF Tryz.prog ow Tryz.f194=(some (42,([(.c 2 (.agg 4)),(.t 3),(.t 4)],(.seq (.ops [(none,(.alloc 2 [(.int .i64 0),(.str []),(.int .i64 0),(.int .i64 0)])),(none,(.set 3 (.int .i64 0))),(none,(.set 4 (.int .i64 0)))]) (.seq (.ops [(none,(.cp 9 0)),(none,(.sl (some 10) (.t 9) none (some (.k (.int .i64 1))) none true none)),(none,(.call (some 11) (.k (.func 188 [] [])) [(.t 10),(.k (.func 223 [] []))] none)),(none,(.mv 5 11))]) (.seq (.ops [(none,(.cp 12 5)),(none,(.cp 13 0)),(none,(.cp 14 5)),(none,(.sl (some 15) (.t 13) (some (.t 14)) none none true none)),(none,(.call (some 16) (.k (.func 188 [] [])) [(.t 15),(.k (.func 193 [] []))] none)),(none,(.bin (some 17) .add (.t 12) (.t 16) false false)),(none,(.mv 6 17))]) (.seq (.ops [(none,(.set 7 (.int .i64 0)))]) (.seq (.seq (.ops [(none,(.mv 18 5)),(none,(.mv 8 18))]) (.block 0 (.loop (.seq (.seq (.ops [(none,(.cp 19 8)),(none,(.cp 20 6)),(none,(.bin (some 21) .lss (.t 19) (.t 20) false false))]) (.cond (.t 21) .skip (.exit 0))) (.seq (.block 1 (.seq (.ops [(none,(.cp 24 7)),(none,(.bin (some 25) .mul (.k (.int .i64 10)) (.t 24) false false)),(none,(.cp 26 0)),(none,(.cp 27 8)),(none,(.idx (some 28) (.t 26) (.t 27) true none)),(none,(.bin (some 29) .sub (.t 28) (.k (.int .u8 48)) false false)),(none,(.cvt (some 30) (.t 29) (some .i64) false false)),(none,(.bin (some 31) .add (.t 25) (.t 30) false false)),(none,(.mv 7 31))]) (.seq (.ops [(none,(.cp 32 7)),(none,(.bin (some 33) .gtr (.t 32) (.k (.int .i64 1073741824)) false false))]) (.cond (.t 33) (.seq (.ops [(none,(.bld (some 34) [(.int .i64 0),(.str []),(.int .i64 0),(.int .i64 0)] [(0,1),(1,1),(2,1),(3,1)] [])),(none,(.st (.t 2) (.t 34) 4)),(none,(.set 3 (.int .i64 0))),(none,(.set 4 (.int .i64 2)))]) .ret) .skip)))) (.ops [(none,(.cp 22 8)),(none,(.bin (some 23) .add (.t 22) (.k (.int .i64 1)) false false)),(none,(.mv 8 23))])))))) (.seq (.seq (.ops [(none,(.cp 35 5)),(none,(.bin (some 36) .eql (.t 35) (.k (.int .i64 1)) false false))]) (.cond (.t 36) (.ops [(none,(.cp 37 7)),(none,(.un (some 38) .neg (.t 37))),(none,(.mv 7 38))]) .skip)) (.seq (.ops [(none,(.cp 39 7)),(none,(.bld (some 40) [(.int .i64 0),(.str []),(.int .i64 0),(.int .i64 0)] [(0,1),(1,1),(2,1),(3,1)] [(0,(.k (.int .i64 3))),(2,(.t 39))])),(none,(.mv 41 6)),(none,(.st (.t 2) (.t 40) 4)),(none,(.mv 3 41)),(none,(.set 4 (.int .i64 0)))]) .ret)))))))))):=by kernel_rfl
theorem isSp_iff (c:Nat) (h:c<256):Lib.isSp (UInt8.ofNat c)=decide (c=9∨c=10∨c=11∨c=12∨c=13∨c=32):=by
 have key: ∀b:Fin 256,Lib.isSp (UInt8.ofNat b.val)=decide (b.val=9∨b.val=10∨b.val=11∨b.val=12∨b.val=13∨b.val=32):=by decide+kernel
 exact key ⟨c,h⟩
theorem cntF_le: ∀(b:Bool) (l:List UInt8),Lib.cntF b l≤l.length
 |_, []=>Nat.le_refl _
 |b,c::l=>by rw [Lib.cntF];have:=cntF_le (Lib.isSp c) l;simp only [List.length_cons];split<;>omega
theorem fnl_fields (s:List UInt8) (hs:s.length<1000000) (ha: ∀b∈s,b.toNat<128):PFn Tryz.prog 181 [.str s] (.sl .sh 1 ((Lib.fields s).map AV.str)):=by
 intro h
 refine fn_fresh (by kernel_rfl) (fun sz xs e=>by cases e) fun vs w g hvl hsr hab=> ?_
 have h0:=hsr.fr 0
 obtain ⟨v0,rfl⟩: ∃v0,vs= [v0]:=by match vs,hvl with| [a],_=>exact ⟨a,rfl⟩
 have hv0:v0= .string ⟨⟨s⟩⟩:=by
  have h0' :VR g w (.str s) v0:=h0
  cases h0';rfl
 subst hv0
 have hT: ∀c:Nat,c<256→w.cell? ⟨0,c,none⟩=some (.int .u8 (if Lib.isSp (UInt8.ofNat c) then 1 else 0)):=fun c hc=>by
  have:=(hab 0 c (.int .u8 (if c=9∨c=10∨c=11∨c=12∨c=13∨c=32 then 1 else 0)) (by unfold kn;rw [if_pos ⟨rfl,hc⟩])).2
  rw [this,isSp_iff c hc]
  by_cases q:c=9∨c=10∨c=11∨c=12∨c=13∨c=32
  ·rw [if_pos q,if_pos (by simpa using q)]
  ·rw [if_neg q,if_neg (by simpa using q)]
 have hz:(⟨⟨s⟩⟩:ByteArray).size=s.length:=rfl
 have hd:(⟨⟨s⟩⟩:ByteArray).data.toList=s:=rfl
 have hcall:=Any.strings_Fields_core Tryz.lays157 (by kernel_rfl) ⟨⟨s⟩⟩ w (by rw [hz];omega) (fun j b hj=>ha b (List.mem_of_getElem? hj)) hT
 refine hcall.mono ?_
 rintro e w' ⟨rfl,rfl⟩
 rw [hd]
 have hflat:flat ((Lib.fields s).map AV.str)=(Lib.fields s).map AV.str:=by
  unfold flat;induction Lib.fields s with
  |nil=>rfl
  |cons a l ih=>simp only [List.map_cons,List.flatMap_cons,ih];rfl
 have hl:((Lib.fields s).map AV.str).length=(Lib.fields s).length:=by simp
 have hfl:(Lib.fields s).length≤s.length+1:=by rw [Lib.fields_length];have:=cntF_le true s;omega
 refine ⟨_,fun b o=>g.G b o∨(b=w.heap.size∧o<(Lib.fields s).length),rfl,(Go.RowKit.Below.refl _ _).alloc (Nat.le_refl _) _, ?_,fun _ _ h=> .inl h,fun b o hG=> ?_⟩
 ·have hcl: ∀(G:Gh) (w' :World) (xs:List (List UInt8)),CL G w' (xs.map AV.str) (xs.map fun l=>Value.string ⟨l.toArray⟩):=fun G w' xs=>by
   induction xs with
   |nil=>exact .nil
   |cons a l ih=>exact .cons _ _ _ _ rfl (.str a) ih
  have:=VR.sl (g:=⟨g.n,fun b o=>g.G b o∨(b=w.heap.size∧o<(Lib.fields s).length),g.ρ⟩) (w:=w.alloc (.cells ((Lib.fields s).map fun l=>Value.string ⟨l.toArray⟩).toArray 9)) .sh 1 ((Lib.fields s).map AV.str) w.heap.size 0 (Lib.fields s).length (by rw [hl];exact Nat.le_refl _) (by simp only [maxLen];omega) (fun e=>by cases e) (fun x hx=>by obtain ⟨k,_,rfl⟩:=List.mem_map.1 hx;rfl) (by
   rw [hflat]
   refine CR.ofCL (hcl _ _ _) (fun j u hj=> ?_) (fun j hj=> .inr ⟨rfl,by simpa using hj⟩)
   rw [Nat.zero_add,World.cell?_alloc_new]
   simpa using hj)
  rw [hl] at this
  exact this
 ·rcases hG with k|⟨rfl,k⟩
  ·exact .inl k
  ·exact .inr ⟨Nat.le_refl _,by simp⟩
def marksT:List UInt8:= [40,32,41,32,44,32,46,32,59,32,58,45,32,60,45,32,61,60,32,60,32,61,32,92,61,32,38,32,124,32,64,32,92,43]
theorem fnl_marks:PFn Tryz.prog 181 [.str marksT] (.sl .sh 1 (marksL.map AV.str)):=by
 have h:=fnl_fields marksT (by decide) (by decide)
 have e:Lib.fields marksT=marksL:=by decide+kernel
 rw [e] at h;exact h
theorem fnl_passed (s:List UInt8) (hs:s.length<1000000000000000):PFn Tryz.prog 139 [.str s] (.int .i64 (skipN false s:Nat)):=by
 intro h
 refine fnC mixed Tryz.func139 c139 (by simp) ?_
 simp only [go_sem,seval]
 refine cloop (fun k t=> ∃i:Nat,i+k=s.length∧t.fr 0= .str s∧t.fr 3= .int .i64 (i:Nat)∧i+skipN false (s.drop i)=skipN false s∧t.hp=h) s.length ⟨0,by simp,by simp [fr_apply,argsF],by simp [fr_apply],by simp,rfl⟩ ?_
 rintro k ⟨F,hp⟩ ⟨i,hk,f0,f3,he,rfl⟩
 simp only at f0 f3
 by_cases hi:i<s.length
 ·have hi' :decide ((i:Int)<(s.length:Int))=true:=decide_eq_true (by omega)
  have hw:IntKind.i64.wrap ((i:Int)+1)=((i+1:Nat):Int):=by rw [wrap64]<;>omega
  have hx:s[i]? =some s[i]:=List.getElem?_eq_getElem hi
  have hd:=drop_cons hi
  rw [hd,skipN] at he
  generalize s[i]=c at hx he hd
  have q32:=u8_eqb c 32 (by omega)
  have q9:=u8_eqb c 9 (by omega)
  have q10:=u8_eqb c 10 (by omega)
  have q13:=u8_eqb c 13 (by omega)
  have q37:=u8_eqb c 37 (by omega)
  simp only [Int.cast_ofNat_Int,UInt8.reduceOfNat] at q32 q9 q10 q13 q37
  have fin:blaB c=true→i+1+skipN false (s.drop (i+1))=skipN false s:=fun hb=>by rw [if_pos hb] at he;omega
  have hle:i≤s.length:=by omega
  cases b1:(c==32) with
  |true=>
   rw [b1] at q32
   simp only [go_sem,seval,f0,f3,hi',hx,q32,hw]
   exact ⟨k-1,by omega,i+1,by omega,rfl,fin (by unfold blaB;rw [b1];rfl)⟩
  |false=>
  rw [b1] at q32
  cases b2:(c==9) with
  |true=>
   rw [b2] at q9
   simp only [go_sem,seval,f0,f3,hi',hx,q32,q9,hw]
   exact ⟨k-1,by omega,i+1,by omega,rfl,fin (by unfold blaB;rw [b2];simp)⟩
  |false=>
  rw [b2] at q9
  cases b3:(c==10) with
  |true=>
   rw [b3] at q10
   simp only [go_sem,seval,f0,f3,hi',hx,q32,q9,q10,hw]
   exact ⟨k-1,by omega,i+1,by omega,rfl,fin (by unfold blaB;rw [b3];simp)⟩
  |false=>
  rw [b3] at q10
  cases b4:(c==13) with
  |true=>
   rw [b4] at q13
   simp only [go_sem,seval,f0,f3,hi',hx,q32,q9,q10,q13,hw]
   exact ⟨k-1,by omega,i+1,by omega,rfl,fin (by unfold blaB;rw [b4];simp)⟩
  |false=>
  rw [b4] at q13
  have hbl:blaB c=false:=by unfold blaB;rw [b1,b2,b3,b4];rfl
  rw [if_neg (by rw [hbl];simp)] at he
  cases b5:(c==37) with
  |true=>
   rw [b5] at q37
   have hc:c=37:=by simpa using b5
   rw [if_pos hc,skipN_rem] at he
   have hS:=fnl_span (s.drop i) 189 (fun c=>c !=10) fnl_rem (by simp;omega)
   have htk:(s.drop i).take (s.length-i)=s.drop i:=List.take_of_length_le (by simp)
   have hsp:spanN (fun c=>c !=10) (s.drop i)=spanN (fun c=>c !=10) (s.drop (i+1))+1:=by rw [hd,spanN,hc];rfl
   have hsl:=spanN_le (fun c=>c !=10) (s.drop (i+1))
   rw [List.length_drop] at hsl
   rw [hsp] at hS
   rw [List.drop_drop] at he
   generalize spanN (fun c=>c !=10) (s.drop (i+1))=m at *
   have hw2:IntKind.i64.wrap ((i:Int)+((m+1:Nat):Int))=((i+1+m:Nat):Int):=by rw [wrap64]<;>omega
   simp only [go_sem,seval,f0,f3,hi',hx,q32,q9,q10,q13,q37,hle,htk]
   refine pcall hS (by simp only [go_sem,seval]) ?_
   simp only [go_sem,seval,f0,f3,hw2]
   exact ⟨k-(m+1),by omega,i+(1+m),by omega,rfl,by rw [←Nat.add_assoc];omega⟩
  |false=>
   rw [b5] at q37
   have hc: ¬c=37:=by simpa using b5
   rw [if_neg hc] at he
   simp only [go_sem,seval,f0,f3,hi',hx,q32,q9,q10,q13,q37]
   have:skipN false s=i:=by omega
   rw [this]
 ·have hi' :decide ((i:Int)<(s.length:Int))=false:=decide_eq_false (by omega)
  rw [List.drop_eq_nil_of_le (by omega),skipN] at he
  simp only [go_sem,seval,f0,f3,hi']
  have:skipN false s=i:=by omega
  rw [this]
theorem fnl_prefix (s m:List UInt8) (hs:s.length<1000000000000000) (hm:m.length<1000):PFn Tryz.prog 195 [.str s, .str m] (.bool (m.isPrefixOf s)):=by
 intro h
 have hp2:PFn Tryz.prog 224 [.str s, .str m] (.bool (m.isPrefixOf s)):=by
  intro h
  refine fnC mixed Tryz.func224 c224 (by simp) ?_
  by_cases hl:m.length≤s.length
  ·have hl' :decide ((s.length:Int)≥(m.length:Int))=true:=decide_eq_true (by omega)
   have e:(s.take m.length==m)=m.isPrefixOf s:=by
    rw [Bool.eq_iff_iff,beq_iff_eq,List.isPrefixOf_iff_prefix,List.prefix_iff_eq_take]
    exact ⟨fun h=>h.symm,fun h=>h.symm⟩
   simp only [go_sem,seval,hl',hl,Nat.sub_zero,e]
  ·have hl' :decide ((s.length:Int)≥(m.length:Int))=false:=decide_eq_false (by omega)
   have e:m.isPrefixOf s=false:=by
    rw [Bool.eq_false_iff,ne_eq,List.isPrefixOf_iff_prefix]
    exact fun h=>hl h.length_le
   simp only [go_sem,seval,hl',e]
 refine fnC mixed Tryz.func195 c195 (by simp) ?_
 simp only [go_sem,seval]
 refine pcall hp2 (by simp only [go_sem,seval]) ?_
 simp only [go_sem,seval]
def wdA:Wd→List AV
 | .tok k t n len=> [.agg [.int .i64 k, .str t, .int .i64 n, .int .i64 0], .int .i64 (len:Nat), .int .i64 0]
 | .bad e=> [.agg [.int .i64 0, .str [], .int .i64 0, .int .i64 0], .int .i64 0, .int .i64 e]
theorem digV_snoc (l:List UInt8) (c:UInt8):digV (l++ [c])=10 * digV l+(c.toNat-48):=by simp [digV]
theorem digV_app: ∀(l m:List UInt8),digV l≤digV (l++m):=by
 have key: ∀(m:List UInt8) (n:Nat),n≤m.foldl (fun n c=>10 * n+(c.toNat-48)) n:=by
  intro m
  induction m with
  |nil=>intro n;exact Nat.le_refl _
  |cons c m ih=>intro n;have:=ih (10 * n+(c.toNat-48));simp only [List.foldl_cons];omega
 intro l m
 unfold digV
 rw [List.foldl_append]
 exact key m _
theorem digB_iff {c:UInt8} :digB c=true↔48≤c.toNat∧c.toNat≤57:=by unfold digB inR;simp;omega
theorem spanN_all (f:UInt8→Bool): ∀(s:List UInt8) (i:Nat),i<spanN f s→ ∀c,s[i]? =some c→f c=true
 | [],i,h,c,hc=>by simp at hc
 |d::s,i,h,c,hc=>by
  rw [spanN] at h
  split at h
  ·rename_i hd
   cases i with
   |zero=>simp at hc;subst hc;exact hd
   |succ i=>exact spanN_all f s i (by omega) c (by simpa using hc)
  ·omega
set_option maxHeartbeats 1000000 in
theorem fnl_number (s:List UInt8) (hs:s.length<1000000000) (c:UInt8) (r:List UInt8) (he:s=c::r) (sg:Nat) (hsg:sg=if c=45 then 1 else 0):PFn Tryz.prog 194 [.str s] (.tup (wdA (numW sg s))):=by
 intro h
 have hS1:=fnl_span (s.take 1) 223 (fun c=>c==45) fnl_min (by simp;omega)
 have e1:spanN (fun c=>c==45) (s.take 1)=sg:=by
  rw [he,hsg]
  by_cases hc:c=45
  ·simp [hc,spanN]
  ·simp [hc,spanN]
 rw [e1] at hS1
 have hl1:1≤s.length:=by rw [he];simp
 have hsgl:sg≤1:=by rw [hsg];split<;>omega
 have hsl:sg≤s.length:=by omega
 have hS2:=fnl_span (s.drop sg) 193 digB (fun c=>fnl_digit _) (by simp;omega)
 have htk:(s.drop sg).take (s.length-sg)=s.drop sg:=List.take_of_length_le (by simp)
 unfold numW
 have hsp:=spanN_le digB (s.drop sg)
 rw [List.length_drop] at hsp
 have hall:=spanN_all digB (s.drop sg)
 generalize hm:spanN digB (s.drop sg)=m at *
 clear hm e1
 have hw1:IntKind.i64.wrap ((sg:Int)+(m:Int))=((sg+m:Nat):Int):=by rw [wrap64]<;>omega
 refine fnC mixed Tryz.func194 c194 (by simp) ?_
 have p01:natOf (.int .i64 1)=some 1:=rfl
 simp only [go_sem,seval,hl1,Nat.sub_zero,p01]
 refine pcall hS1 (by simp only [go_sem,seval]) ?_
 simp only [go_sem,seval,hsl,htk]
 refine pcall hS2 (by simp only [go_sem,seval]) ?_
 simp only [go_sem,seval,hw1]
 have n0: ¬(h.n=h.n+1):=by omega
 refine cloop (fun k t=> ∃j n:Nat,j+k=m∧n=digV ((s.drop sg).take j)∧n≤1073741824∧t.fr 0= .str s∧t.fr 2= .ptr h.n 0∧t.fr 5= .int .i64 (sg:Nat)∧t.fr 6= .int .i64 ((sg+m:Nat):Int)∧t.fr 7= .int .i64 (n:Nat)∧t.fr 8= .int .i64 ((sg+j:Nat):Int)∧t.hp=⟨h.n+1,updB h.bk h.n (.cells [.int .i64 0, .str [], .int .i64 0, .int .i64 0])⟩) m
  ⟨0,0,by simp,by simp [digV],by omega,by simp [fr_apply,argsF],by simp [fr_apply,argsF],by simp [fr_apply],by simp [fr_apply],by simp [fr_apply],by simp [fr_apply],by simp⟩ ?_
 rintro k ⟨F,hp⟩ ⟨j,n,hk,hn,hn2,f0,f2,f5,f6,f7,f8,rfl⟩
 simp only at f0 f2 f5 f6 f7 f8
 by_cases hj:j<m
 ·have hj' :decide (((sg+j:Nat):Int)<((sg+m:Nat):Int))=true:=decide_eq_true (by omega)
  have hjl:sg+j<s.length:=by omega
  have hx:s[sg+j]? =some s[sg+j]:=List.getElem?_eq_getElem hjl
  have hd:=digB_iff.1 (hall j hj s[sg+j] (by rw [List.getElem?_drop];exact hx))
  have htk1:(s.drop sg).take (j+1)=(s.drop sg).take j++ [s[sg+j]]:=by
   rw [List.take_add_one,List.getElem?_drop,hx];rfl
  have hv:=digV_snoc ((s.drop sg).take j) s[sg+j]
  rw [←htk1, ←hn] at hv
  generalize s[sg+j]=d at hx hd hv
  have w1:IntKind.i64.wrap (10 * (n:Int))=((10 * n:Nat):Int):=by rw [wrap64]<;>omega
  have w2:IntKind.u8.wrap ((d.toNat:Int)-48)=((d.toNat-48:Nat):Int):=by rw [IntKind.wrap_u8];omega
  have w3:IntKind.i64.wrap ((d.toNat-48:Nat):Int)=((d.toNat-48:Nat):Int):=by rw [wrap64]<;>omega
  have w4:IntKind.i64.wrap (((10 * n:Nat):Int)+((d.toNat-48:Nat):Int))=((10 * n+(d.toNat-48):Nat):Int):=by rw [wrap64]<;>omega
  have w5:IntKind.i64.wrap (((sg+j:Nat):Int)+1)=((sg+(j+1):Nat):Int):=by rw [wrap64]<;>omega
  by_cases hbig:10 * n+(d.toNat-48)>1073741824
  ·have hb:decide (((10 * n+(d.toNat-48):Nat):Int)>1073741824)=true:=decide_eq_true (by omega)
   have hbad:digV ((s.drop sg).take m)>1073741824:=by
    have e:(s.drop sg).take m=(s.drop sg).take (j+1)++((s.drop sg).drop (j+1)).take (m-(j+1)):=by
     rw [←List.take_add];congr 1;omega
    have:=digV_app ((s.drop sg).take (j+1)) (((s.drop sg).drop (j+1)).take (m-(j+1)))
    rw [←e] at this
    omega
   rw [if_pos hbad]
   unfold wdA
   simp only [go_sem,seval,f0,f2,f5,f6,f7,f8,hj',hx,w1,w2,w3,w4,hb]
  ·have hb:decide (((10 * n+(d.toNat-48):Nat):Int)>1073741824)=false:=decide_eq_false (by omega)
   simp only [go_sem,seval,f0,f2,f5,f6,f7,f8,hj',hx,w1,w2,w3,w4,w5,hb]
   exact ⟨k-1,by omega,j+1,10 * n+(d.toNat-48),by omega,hv.symm,by omega,rfl,rfl⟩
 ·have hj' :decide (((sg+j:Nat):Int)<((sg+m:Nat):Int))=false:=decide_eq_false (by omega)
  have hjm:j=m:=by omega
  subst hjm
  rw [←hn,if_neg (by omega)]
  by_cases h1:sg=1
  ·have e1:((sg:Int)==1)=true:=by rw [h1];rfl
   have w1:IntKind.i64.wrap (0-(n:Int))= -(n:Int):=by rw [wrap64]<;>omega
   rw [if_pos h1]
   unfold wdA
   simp only [go_sem,seval,f0,f2,f5,f6,f7,f8,hj',e1,w1]
  ·have e1:((sg:Int)==1)=false:=by simp;omega
   rw [if_neg h1]
   unfold wdA
   simp only [go_sem,seval,f0,f2,f5,f6,f7,f8,hj',e1]
end Go.Proofs.YtnibelnjflhkgaaGreatDoor.Ab

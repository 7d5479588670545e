/- The walk over the short form: what unfolds by itself, a call, a loop. No condition. -/
import Derived.Test.YtnibelnjflhkgaaGreatDoorAb24
import Derived.IntWalk
namespace Go.Proofs.YtnibelnjflhkgaaGreatDoor.Ab
set_option linter.unusedVariables false
set_option linter.unusedSimpArgs false
open Go.RowKit
def callA (s:ASt) (fv:V) (xs:List V) (j:Option Nat):Option (FuncId×List AV):=
 match evC s fv with
 | .func f first cap=>some (f,first.map strip++(argsC s j 0 xs++cap.map strip))
 |_=>none
def CCall (P:Program) (d:Option Nat) (fv:V) (xs:List V) (j:Option Nat) (K:ASt→Prop) (s:ASt):Prop:=CI1 P (.call d fv xs j) K s
def CCallD (P:Program) (d:Option Nat) (fv:V) (xs:List V) (j:Option Nat) (K:ASt→Prop) (s:ASt):Prop:=CI1D P (.call d fv xs j) K s
def CLoop (P:Program) (c:CC) (Q:AX→ASt→Prop) (s:ASt):Prop:=CRun P (.loop c) Q s
section
variable {P:Program}
theorem run_call (d:Option Nat) (fv:V) (xs:List V) (j:Option Nat) (K:ASt→Prop) (s:ASt):CI1 P (.call d fv xs j) K s=CCall P d fv xs j K s:=rfl
theorem run_callD (d:Option Nat) (fv:V) (xs:List V) (j:Option Nat) (K:ASt→Prop) (s:ASt):CI1D P (.call d fv xs j) K s=CCallD P d fv xs j K s:=rfl
theorem run_loop (c:CC) (Q:AX→ASt→Prop) (s:ASt):CRun P (.loop c) Q s=CLoop P c Q s:=rfl
theorem ccall {d:Option Nat} {fv:V} {xs:List V} {j:Option Nat} {K:ASt→Prop} {s:ASt} {f:FuncId} {args:List AV} {r:AV} {h' :Hp} (hF:Fn P f args s.hp r h') (ha:callA s fv xs j=some (f,args))
  (hK:K (ASt.put ⟨stripO s.fr (ownArgC j xs),h'⟩ d r)):CCall P d fv xs j K s:=by
 unfold callA at ha
 unfold CCall CI1
 split at ha
 ·rename_i f' first cap hx
  simp only [Option.some.injEq,Prod.mk.injEq] at ha
  obtain ⟨rfl,rfl⟩:=ha
  simp only [hx]
  exact ⟨r,h',by rw [List.append_assoc];exact hF,hK⟩
 ·cases ha
theorem pcall {d:Option Nat} {fv:V} {xs:List V} {j:Option Nat} {K:ASt→Prop} {s:ASt} {f:FuncId} {args:List AV} {r:AV} (hF:PFn P f args r) (ha:callA s fv xs j=some (f,args))
  (hK:K (ASt.put ⟨stripO s.fr (ownArgC j xs),s.hp⟩ d r)):CCall P d fv xs j K s:=ccall (hF s.hp) ha hK
theorem pcallD {d:Option Nat} {fv:V} {xs:List V} {j:Option Nat} {K:ASt→Prop} {s:ASt} {f:FuncId} {args:List AV} {r:AV} (hF:PFn P f args r) (ha:callA s fv xs j=some (f,args))
  (hK:K (ASt.put ⟨stripO s.fr (ownArgC j xs),s.hp⟩ d r)):CCallD P d fv xs j K s:=by
 unfold callA at ha
 unfold CCallD CI1D
 split at ha
 ·rename_i f' first cap hx
  simp only [Option.some.injEq,Prod.mk.injEq] at ha
  obtain ⟨rfl,rfl⟩:=ha
  simp only [hx]
  refine ⟨r,s.hp, ?_,hK⟩
  rw [List.append_assoc]
  unfold CallC
  split
  ·exact hF s.hp
  ·exact ⟨hF,rfl⟩
 ·cases ha
theorem ccallD {d:Option Nat} {fv:V} {xs:List V} {j:Option Nat} {K:ASt→Prop} {s:ASt} {f:FuncId} {args:List AV} {r:AV} {h' :Hp} (hj:effO j=true) (hF:Fn P f args s.hp r h') (ha:callA s fv xs j=some (f,args))
  (hK:K (ASt.put ⟨stripO s.fr (ownArgC j xs),h'⟩ d r)):CCallD P d fv xs j K s:=by
 unfold callA at ha
 unfold CCallD CI1D
 split at ha
 ·rename_i f' first cap hx
  simp only [Option.some.injEq,Prod.mk.injEq] at ha
  obtain ⟨rfl,rfl⟩:=ha
  simp only [hx]
  refine ⟨r,h', ?_,hK⟩
  rw [List.append_assoc]
  unfold CallC
  rw [if_pos hj]
  exact hF
 ·cases ha
theorem cloop {c:CC} {Q:AX→ASt→Prop} {s:ASt} (I:Nat→ASt→Prop) (k:Nat) (h0:I k s) (hr: ∀k t,I k t→CRun P c (seqK (fun t' => ∃k',k' <k∧I k' t') Q) t):CLoop P c Q s:=⟨I,⟨k,h0⟩,hr⟩
theorem fr_apply (f:Nat→AV) (i:Nat) (v:AV) (j:Nat):upd f i v j=if j=i then v else f j:=rfl
theorem bk_apply (f:Nat→Blk) (i:Nat) (v:Blk) (j:Nat):updB f i v j=if j=i then v else f j:=rfl
theorem args0 (a:AV) (l:List AV):argsF (a::l) 0=a:=rfl
theorem args1 (a b:AV) (l:List AV):argsF (a::b::l) 1=b:=rfl
theorem args2 (a b c:AV) (l:List AV):argsF (a::b::c::l) 2=c:=rfl
theorem args3 (a b c d:AV) (l:List AV):argsF (a::b::c::d::l) 3=d:=rfl
theorem args4 (a b c d e:AV) (l:List AV):argsF (a::b::c::d::e::l) 4=e:=rfl
theorem wk_refl (a:AV):Wk a a:= .inl rfl
theorem wrap64 {n:Int} (h1: -9223372036854775808≤n) (h2:n≤9223372036854775807):IntKind.i64.wrap n=n:=IntWalk.i64_in n ⟨h1,h2⟩
theorem wk_bool (a:Bool) (b:AV):Wk (.bool a) b↔b= .bool a:=by simp [Wk,weak1]
theorem wk_int (k:IntKind) (a:Int) (b:AV):Wk (.int k a) b↔b= .int k a:=by simp [Wk,weak1]
theorem wk_str (a:List UInt8) (b:AV):Wk (.str a) b↔b= .str a:=by simp [Wk,weak1]
theorem wk_agg (a:List AV) (b:AV):Wk (.agg a) b↔b= .agg a:=by simp [Wk,weak1]
theorem wk_ptr (l o:Nat) (b:AV):Wk (.ptr l o) b↔b= .ptr l o:=by simp [Wk,weak1]
theorem wk_sl (fl:Fl) (sz:Nat) (xs:List AV) (b:AV):Wk (.sl fl sz xs) b↔(b= .sl fl sz xs∨b= .sl .sh sz xs):=by simp [Wk,weak1]
theorem wk_tup (vs:List AV) (b:AV):Wk (.tup vs) b↔(b= .tup vs∨b= .tup (vs.map weak1)):=by simp [Wk,weak1]
theorem shrink_iff (h:Hp):Shrink h h h↔True:=iff_true_intro (shrink_refl h)
theorem shrink_n {h:Hp} {n:Nat} (hn:h.n≤n):Shrink h ⟨n,h.bk⟩ h↔True:=iff_true_intro ⟨Nat.le_refl _,hn,fun l hl=>⟨rfl, .inl ⟨hl,rfl⟩⟩⟩
theorem shrink_upd {h:Hp} {n i:Nat} {bk:Nat→Blk} {b:Blk} (hi:h.n≤i):Shrink h ⟨n,updB bk i b⟩ h↔Shrink h ⟨n,bk⟩ h:=by
 unfold Shrink
 refine and_congr Iff.rfl (and_congr Iff.rfl (forall_congr' fun l=>imp_congr_right fun hl=> ?_))
 simp only [bk_apply,show l≠i by omega,if_false]
theorem shrink_grow {h hp:Hp} {n:Nat} (h1:Shrink h hp h) (hn:hp.n≤n):Shrink h ⟨n,hp.bk⟩ h:=⟨h1.1,Nat.le_trans h1.2.1 hn,h1.2.2⟩
theorem ret_iff (rs:List RC) (h:Hp) (r:AV) (h' :Hp) (s:ASt):retC rs h r h' s=((∃a,resC s rs=some a∧Wk a r)∧labOK h'.n r=true∧Shrink h s.hp h'):=rfl
end
theorem updB_self (f:Nat→Blk) (i:Nat) (b:Blk) (h:f i=b):updB f i b=f:=by
 funext j;simp only [bk_apply];split
 ·rename_i e;rw [e,h]
 ·rfl
theorem updB_upd (f:Nat→Blk) (i:Nat) (a b:Blk):updB (updB f i a) i b=updB f i b:=by
 funext j;simp only [bk_apply];split<;>rfl
def CNext (o:Option ASt) (K:ASt→Prop):Prop:=match o with|some s=>K s|none=>False
def CIf (P:Program) (v:AV) (a b:CC) (Q:AX→ASt→Prop) (s:ASt):Prop:=match v with| .bool t=>(t=true→CRun P a Q s)∧(t=false→CRun P b Q s)|_=>False
def COg (P:Program) (v:AV) (w:Bool) (ci:CI) (l:List (Option (Nat×Bool)×CI)) (K:ASt→Prop) (s:ASt):Prop:=
 match v with| .bool t=>(t=w→CI1 P ci (COps P K l) s)∧(t= !w→COps P K l (s.put (dstC ci) (.val undef)))| .val (.tuple _)=>COps P K l (s.put (dstC ci) (.val undef))|_=>False
def COgD (P:Program) (v:AV) (w:Bool) (ci:CI) (l:List (Option (Nat×Bool)×CI)) (K:ASt→Prop) (s:ASt):Prop:=
 match v with| .bool t=>(t=w→CI1D P ci (COpsD P K l) s)∧(t= !w→COpsD P K l (s.put (dstC ci) (.val undef)))| .val (.tuple _)=>COpsD P K l (s.put (dstC ci) (.val undef))|_=>False
def COgT (P:Program) (v:AV) (w:Bool) (ci:CI) (K:ASt→Prop) (s:ASt):Prop:=
 match v with| .bool t=>(t=w→CI1D P ci K s)∧(t= !w→K (s.put (dstC ci) (.val undef)))| .val (.tuple _)=>K (s.put (dstC ci) (.val undef))|_=>False
section
variable {P:Program} {Q:AX→ASt→Prop} {K:ASt→Prop} {s:ASt} {l:List (Option (Nat×Bool)×CI)} {ci:CI} {t w:Bool}
theorem if_t (a b:CC):CIf P (.bool true) a b Q s=CRun P a Q s:=by simp [CIf]
theorem if_f (a b:CC):CIf P (.bool false) a b Q s=CRun P b Q s:=by simp [CIf]
theorem og_tt:COg P (.bool true) true ci l K s=CI1 P ci (COps P K l) s:=by simp [COg]
theorem og_ff:COg P (.bool false) false ci l K s=CI1 P ci (COps P K l) s:=by simp [COg]
theorem og_tf:COg P (.bool true) false ci l K s=COps P K l (s.put (dstC ci) (.val undef)):=by simp [COg]
theorem og_ft:COg P (.bool false) true ci l K s=COps P K l (s.put (dstC ci) (.val undef)):=by simp [COg]
theorem ogD_tt:COgD P (.bool true) true ci l K s=CI1D P ci (COpsD P K l) s:=by simp [COgD]
theorem ogD_ff:COgD P (.bool false) false ci l K s=CI1D P ci (COpsD P K l) s:=by simp [COgD]
theorem ogD_tf:COgD P (.bool true) false ci l K s=COpsD P K l (s.put (dstC ci) (.val undef)):=by simp [COgD]
theorem ogD_ft:COgD P (.bool false) true ci l K s=COpsD P K l (s.put (dstC ci) (.val undef)):=by simp [COgD]
theorem og_v (vs:Array Value):COg P (.val (.tuple vs)) w ci l K s=COps P K l (s.put (dstC ci) (.val undef)):=rfl
theorem ogD_v (vs:Array Value):COgD P (.val (.tuple vs)) w ci l K s=COpsD P K l (s.put (dstC ci) (.val undef)):=rfl
theorem ogT_v (vs:Array Value):COgT P (.val (.tuple vs)) w ci K s=K (s.put (dstC ci) (.val undef)):=rfl
theorem cif {a b:CC} (h1:t=true→CRun P a Q s) (h2:t=false→CRun P b Q s):CIf P (.bool t) a b Q s:=⟨h1,h2⟩
theorem cog (h1:t=w→CI1 P ci (COps P K l) s) (h2:t= !w→COps P K l (s.put (dstC ci) (.val undef))):COg P (.bool t) w ci l K s:=⟨h1,h2⟩
end
theorem CNext_congr {o o' :Option ASt} {K:ASt→Prop} (h:o=o'):CNext o K=CNext o' K:=by rw [h]
theorem CNext_some (s:ASt) (K:ASt→Prop):CNext (some s) K=K s:=rfl
def bitI (op:BinOp) (k:IntKind) (a b:Int):Int:=
 match op with
 | .and=>k.wrap ((BitVec.ofInt k.bits a&&&BitVec.ofInt k.bits b).toNat:Int)
 | .or=>k.wrap ((BitVec.ofInt k.bits a|||BitVec.ofInt k.bits b).toNat:Int)
 | .xor=>k.wrap ((BitVec.ofInt k.bits a ^^^ BitVec.ofInt k.bits b).toNat:Int)
 |_=>k.wrap ((BitVec.ofInt k.bits a&&& ~~~ BitVec.ofInt k.bits b).toNat:Int)
theorem intA_and (k:IntKind) (a b:Int):intA .and k a b=some (.int k (bitI .and k a b)):=rfl
theorem intA_or (k:IntKind) (a b:Int):intA .or k a b=some (.int k (bitI .or k a b)):=rfl
theorem intA_xor (k:IntKind) (a b:Int):intA .xor k a b=some (.int k (bitI .xor k a b)):=rfl
theorem intA_andNot (k:IntKind) (a b:Int):intA .andNot k a b=some (.int k (bitI .andNot k a b)):=rfl
theorem ex_some {a r:AV} :(∃x,some a=some x∧Wk x r)=Wk a r:=by simp
def isCall:CI→Bool| .call _ _ _ _=>true|_=>false
section
variable {P:Program} {K:ASt→Prop} {s:ASt}
theorem ops_nil:COps P K [] s=K s:=rfl
theorem ops_cons (ci:CI) (l:List (Option (Nat×Bool)×CI)):COps P K ((none,ci)::l) s=CI1 P ci (COps P K l) s:=rfl
theorem ops_g (d:Nat) (w:Bool) (ci:CI) (l:List (Option (Nat×Bool)×CI)):COps P K ((some (d,w),ci)::l) s=COg P (s.fr d) w ci l K s:=by
 rw [COps];unfold COg
 cases hf:s.fr d<;>simp only [gval,reduceCtorEq,if_false]
 case bool b=>cases b<;>cases w<;>simp
 case val v=>cases v<;>simp [gval]
theorem opsD_nil:COpsD P K [] s=K s:=rfl
theorem opsD_cons (ci:CI) (l:List (Option (Nat×Bool)×CI)):COpsD P K ((none,ci)::l) s=CI1D P ci (COpsD P K l) s:=rfl
theorem opsD_g (d:Nat) (w:Bool) (ci:CI) (l:List (Option (Nat×Bool)×CI)):COpsD P K ((some (d,w),ci)::l) s=COgD P (s.fr d) w ci l K s:=by
 rw [COpsD];unfold COgD
 cases hf:s.fr d<;>simp only [gval,reduceCtorEq,if_false]
 case bool b=>cases b<;>cases w<;>simp
 case val v=>cases v<;>simp [gval]
theorem run_op (ci:CI) (h:isCall ci=false):CI1 P ci K s=CNext (stepC s ci) K:=by cases ci<;>first|rfl|(cases h;done)
theorem run_opD (ci:CI) (h:isCall ci=false):CI1D P ci K s=CNext (stepC s ci) K:=by cases ci<;>first|rfl|(cases h;done)
variable {Q:AX→ASt→Prop} {ci:CI}
theorem run_skip:CRun P .skip Q s=Q .normal s:=rfl
theorem run_ops (l:List (Option (Nat×Bool)×CI)):CRun P (.ops l) Q s=COps P (Q .normal) l s:=rfl
theorem run_opsD (l:List (Option (Nat×Bool)×CI)):CRun P (.opsD l) Q s=COpsD P (Q .normal) l s:=rfl
theorem run_opsT (t:CT):CRun P (.opsT t) Q s=COpsT P (Q .normal) t s:=rfl
theorem opsT_done:COpsT P K .done s=K s:=rfl
theorem opsT_nil:COpsT P K .nil s=True:=rfl
theorem opsT_one (g:Option (Nat×Bool)) (ci:CI) (t:CT):COpsT P K (.one g ci t) s=COneD P g ci (COpsT P K t) s:=rfl
theorem opsT_alt (g:Option (Nat×Bool)) (ci:CI) (t r:CT):COpsT P K (.alt g ci t r) s=(COneD P g ci (COpsT P K t) s∧COpsT P K r s):=rfl
theorem oneD_n (ci:CI):COneD P none ci K s=CI1D P ci K s:=rfl
theorem oneD_g (d:Nat) (w:Bool) (ci:CI):COneD P (some (d,w)) ci K s=COgT P (s.fr d) w ci K s:=by
 unfold COneD COgT;simp only
 cases hf:s.fr d<;>simp only [gval,reduceCtorEq,if_false]
 case bool b=>cases b<;>cases w<;>simp
 case val v=>cases v<;>simp [gval]
theorem ogT_tt:COgT P (.bool true) true ci K s=CI1D P ci K s:=by simp [COgT]
theorem ogT_ff:COgT P (.bool false) false ci K s=CI1D P ci K s:=by simp [COgT]
theorem ogT_tf:COgT P (.bool true) false ci K s=K (s.put (dstC ci) (.val undef)):=by simp [COgT]
theorem ogT_ft:COgT P (.bool false) true ci K s=K (s.put (dstC ci) (.val undef)):=by simp [COgT]
theorem run_seq (a b:CC):CRun P (.seq a b) Q s=CRun P a (seqK (CRun P b Q) Q) s:=rfl
theorem run_cond (c:V) (a b:CC):CRun P (.cond c a b) Q s=CIf P (evC s c) a b Q s:=by rw [CRun];unfold CIf;rfl
theorem run_block (i:Nat) (c:CC):CRun P (.block i c) Q s=CRun P c (blockK i Q) s:=rfl
theorem run_exit (i:Nat):CRun P (.exit i) Q s=Q (.exit i) s:=rfl
theorem run_ret:CRun P .ret Q s=Q .ret s:=rfl
end
theorem seqK_n (R:ASt→Prop) (Q:AX→ASt→Prop) (s:ASt):seqK R Q .normal s=R s:=rfl
theorem seqK_e (R:ASt→Prop) (Q:AX→ASt→Prop) (i:Nat) (s:ASt):seqK R Q (.exit i) s=Q (.exit i) s:=rfl
theorem seqK_r (R:ASt→Prop) (Q:AX→ASt→Prop) (s:ASt):seqK R Q .ret s=Q .ret s:=rfl
attribute [congr] CNext_congr
attribute [go_sem] evX.eq_8 evX.eq_9 evX.eq_10
attribute [go_sem] stepC.eq_1 stepC.eq_2 stepC.eq_3 stepC.eq_4 stepC.eq_5 stepC.eq_6 stepC.eq_7 stepC.eq_8 stepC.eq_9 stepC.eq_10 stepC.eq_11 stepC.eq_12 pevC.eq_1 pevC.eq_2 pevC.eq_3 pevC.eq_4 pevC.eq_5 pevC.eq_6 pevC.eq_7 pevC.eq_8 pevC.eq_9 pevC.eq_10 pevC.eq_11 pevC.eq_12 pevC.eq_13 pevC.eq_14 pevC.eq_15 pevC.eq_16 pevC.eq_17 pevC.eq_18 evC.eq_1 evC.eq_2 blockK.eq_1 blockK.eq_2 blockK.eq_3 endC.eq_1 endC.eq_2 endC.eq_3 strip.eq_1 strip.eq_2 isOwn.eq_1 isOwn.eq_2 binB.eq_1 binB.eq_2 binB.eq_3 binB.eq_4 binB.eq_5 binB.eq_6 binB.eq_7 binB.eq_8 binB.eq_9 binB.eq_10 binB.eq_11 binB.eq_12 intA.eq_1 intA.eq_2 intA.eq_3 intA.eq_4 intA.eq_5 intA_and intA_or intA_xor intA_andNot intA.eq_10 intA.eq_11 intA.eq_12 intA.eq_13 intA.eq_14 intA.eq_15 intA.eq_16 shiftA.eq_1 shiftA.eq_2 shiftA.eq_3 strA.eq_1 strA.eq_2 strA.eq_3 strA.eq_4 strA.eq_5 strA.eq_6 strA.eq_7 strA.eq_8 isShift.eq_1 isShift.eq_2 isShift.eq_3 dstC.eq_1 dstC.eq_2 dstC.eq_3 dstC.eq_4 dstC.eq_5 dstC.eq_6 dstC.eq_7 dstC.eq_8 dstC.eq_9 dstC.eq_10 dstC.eq_11 dstC.eq_12 dstC.eq_13 dstC.eq_14 dstC.eq_15 dstC.eq_16 dstC.eq_17 dstC.eq_18 dstC.eq_19 dstC.eq_20 dstC.eq_21 dstC.eq_22 dstC.eq_23 dstC.eq_24 dstC.eq_25 dstC.eq_26 dstC.eq_27 dstC.eq_28 dstC.eq_29 pickA.eq_1 pickA.eq_2 unA.eq_1 unA.eq_2 unA.eq_3 unA.eq_4 cvtB.eq_1 cvtB.eq_2 cvtB.eq_3 cvtB.eq_4 cvtB.eq_5 partB.eq_1 partB.eq_2 idxB.eq_1 idxB.eq_2 idxB.eq_3 idxB.eq_4 iaB.eq_1 iaB.eq_2 iaB.eq_3 iaB.eq_4 iaB.eq_5 iaB.eq_6 iaB.eq_7 faB.eq_1 faB.eq_2 faB.eq_3 extractA.eq_1 extractA.eq_2 loadB.eq_1 loadB.eq_2 loadB.eq_3 lenB.eq_1 lenB.eq_2 lenB.eq_3 lenB.eq_4 minA.eq_1 minA.eq_2 maxA.eq_1 maxA.eq_2 natOf.eq_1 natOf.eq_2 bndA.eq_1 bndA.eq_2 pieceB.eq_1 fillA.eq_1 fillA.eq_2 okc.eq_1 okc.eq_2 okc.eq_3 okc.eq_4 AV.cells.eq_1 AV.cells.eq_2 nilChkA.eq_1 nilChkA.eq_2 nilChkA.eq_3 ownV?.eq_1 ownV?.eq_2 ownCell.eq_1 ownCell.eq_2 baseC.eq_1 baseC.eq_2 srcC.eq_1 srcC.eq_2 srcC.eq_3 appC.eq_1 appC.eq_2 apFl.eq_1 apFl.eq_2 argC.eq_1 argC.eq_2 argsC.eq_1 argsC.eq_2 ownArgC.eq_1 ownArgC.eq_2 stripO.eq_1 stripO.eq_2 callA.eq_1 resC.eq_1 resC.eq_2 resCL.eq_1 resCL.eq_2 resC1.eq_1 resC1.eq_2 typA.eq_1 typA.eq_2 typA.eq_3 Hp.push.eq_1 Hp.set.eq_1 putCells.eq_1 putCells.eq_2 ASt.put.eq_1 ASt.put.eq_2 labOK.eq_1 labOK.eq_2 labOK.eq_3 labOK.eq_4 labOK.eq_5 labOK.eq_6 labOK.eq_7 labOK.eq_8 labOK.eq_9 labOK.eq_10 labOK.eq_11 labOK.eq_12 labOK.eq_13 labOK.eq_14 labOK.eq_15 labOK.eq_16 labL.eq_1 labL.eq_2 weak1.eq_1 weak1.eq_2 isCall.eq_1 isCall.eq_2 put_hp CNext_some if_t if_f undef og_v ogD_v ogT_v og_tt og_ff og_tf og_ft ogD_tt ogD_ff ogD_tf ogD_ft ex_some ops_nil ops_cons ops_g opsD_nil opsD_cons opsD_g run_op run_opD run_call run_callD run_skip run_ops run_opsD run_opsT opsT_done opsT_nil opsT_one opsT_alt oneD_n oneD_g ogT_tt ogT_ff ogT_tf ogT_ft run_seq run_cond run_block run_exit run_ret run_loop seqK_n seqK_e seqK_r ret_iff wk_bool wk_int wk_str wk_agg wk_ptr wk_sl wk_tup shrink_iff shrink_n shrink_upd fr_apply bk_apply args0 args1 args2 args3 args4 updB_upd
end Go.Proofs.YtnibelnjflhkgaaGreatDoor.Ab

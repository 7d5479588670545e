/- Code in a short form: all that hangs on types is worked out once. No condition. -/
import Derived.Test.YtnibelnjflhkgaaGreatDoorAb21
namespace Go.Proofs.YtnibelnjflhkgaaGreatDoor.Ab
set_option linter.unusedVariables false
set_option linter.unusedSimpArgs false
open Go.RowKit
inductive V|t (n:Nat)|k (a:AV)
inductive PS|agg (n:Nat)|one (el:Option Nat)
inductive CI
 |nop
 |cp (d t:Nat)
 |mv (d t:Nat)
 |set (d:Nat) (a:AV)
 |pick (d:Option Nat) (c x y:V)
 |bin (d:Option Nat) (op:BinOp) (x y:V) (bt pt:Bool)
 |un (d:Option Nat) (op:UnOp) (x:V)
 |cvt (d:Option Nat) (x:V) (ik:Option IntKind) (ss bs:Bool)
 |fld (d:Option Nat) (x:V) (o:Nat) (ps:PS)
 |idx (d:Option Nat) (x i:V) (st:Bool) (ar:Option (Nat×Nat×PS))
 |ia (d:Option Nat) (x i:V) (el:Option Nat) (ar:Option (Nat×Nat))
 |fa (d:Option Nat) (x:V) (o:Nat)
 |ext (d:Option Nat) (x:V) (i:Nat)
 |ld (d:Option Nat) (x:V) (ps:PS)
 |ldT (d:Nat) (x:V) (el:Option Nat)
 |nil (d:Option Nat) (x:V)
 |len (d:Option Nat) (x:V) (st sl:Bool)
 |mn (d:Option Nat) (x y:V)
 |mx (d:Option Nat) (x y:V)
 |sl (d:Option Nat) (x:V) (lo hi mx:Option V) (st:Bool) (el:Option Nat)
 |bld (d:Option Nat) (zs:List AV) (pl:List (Nat×Nat)) (ps:List (Nat×V))
 |mkf (d:Option Nat) (f:FuncId) (xs ys:List V)
 |st (a:V) (x:V) (n:Nat)
 |alloc (d:Nat) (zs:List AV)
 |box (d:Nat) (x:V)
 |bs (d:Nat) (n:Nat) (xs:List V)
 |app (d:Nat) (x y:V) (n by_:Nat) (okl oks:Bool)
 |call (d:Option Nat) (f:V) (xs:List V) (j:Option Nat)
 |x (d:Option Nat) (k:XK) (xs:List V)
def evC (s:ASt):V→AV
 | .t n=>strip (s.fr n)
 | .k a=>a
def partB (ps:PS) (cs:List AV) (off:Nat):Option AV:=
 match ps with
 | .agg n=>if off+n≤cs.length then some (.agg ((cs.drop off).take n)) else none
 | .one el=>match cs[off]? with|some a=>some (typA el (strip a))|none=>none
def binB (bt pt:Bool) (op:BinOp) (x y:AV):Option AV:=
 match x,y with
 | .int k a, .int k' b=>if isShift op then shiftA op k a b else if k=k' then intA op k a b else none
 | .str a, .str b=>strA op a b
 | .bool a, .bool b=>if bt then (match op with| .eql=>some (.bool (a==b))| .neq=>some (.bool (!(a==b)))|_=>none) else none
 | .ptr _ _, .pnil=>if pt then (match op with| .eql=>some (.bool false)| .neq=>some (.bool true)|_=>none) else none
 | .pnil, .pnil=>if pt then (match op with| .eql=>some (.bool true)| .neq=>some (.bool false)|_=>none) else none
 |_,_=>none
def cvtB (ik:Option IntKind) (ss bs:Bool) (x:AV):Option AV:=
 match x with
 | .int _ n=>match ik with|some k=>some (.int k (k.wrap n))|none=>none
 | .str l=>if ss then some (.str l) else none
 | .sl _ _ xs=>if bs then (match bytesOf xs with|some l=>some (.str l)|none=>none) else none
 |_=>none
def idxB (st:Bool) (ar:Option (Nat×Nat×PS)) (x i:AV):Option AV:=
 match x,i with
 | .str l, .int _ n=>if st&&decide (0≤n) then (match l[n.toNat]? with|some c=>some (.int .u8 c.toNat)|none=>none) else none
 | .agg cs, .int _ n=>match ar with
  |some (len,sz,ps)=>if 0≤n∧n<len then partB ps cs (n.toNat * sz) else none
  |none=>none
 |_,_=>none
def iaB (el:Option Nat) (ar:Option (Nat×Nat)) (x i:AV):Option AV:=
 match x,i with
 | .sl _ sz xs, .int _ n=>match el with|some m=>if m=sz∧0≤n then (match xs[n.toNat]? with|some a=>some (.eptr a.cells)|none=>none) else none|none=>none
 | .ptr l o, .int _ n=>match ar with|some (len,sz)=>if 0≤n∧n<len then some (.ptr l (o+n.toNat * sz)) else none|none=>none
 | .hs l o len sz, .int _ n=>match el with|some m=>if m=sz∧0≤n∧n<len then some (.ptr l (o+n.toNat * sz)) else none|none=>none
 |_,_=>none
def faB (off:Nat) (x:AV):Option AV:=
 match x with
 | .ptr l o=>some (.ptr l (o+off))
 | .eptr cs=>if off≤cs.length then some (.eptr (cs.drop off)) else none
 |_=>none
def loadB (hp:Hp) (ps:PS) (x:AV):Option AV:=
 match x with
 | .eptr cs=>partB ps cs 0
 | .ptr l o=>match hp.bk l with| .cells cs=>partB ps cs o|_=>none
 |_=>none
def lenB (st sl:Bool) (x:AV):Option AV:=
 match x with
 | .str l=>if st then some (.int .i64 l.length) else none
 | .sl _ _ xs=>if sl then some (.int .i64 xs.length) else none
 | .hs _ _ len _=>if sl then some (.int .i64 len) else none
 |_=>none
def pieceB (st:Bool) (el:Option Nat) (x:AV) (lo hi mx:Option AV):Option AV:=
 match bndA 0 lo with
 |none=>none
 |some l=>
 match x with
 | .str s=>match mx with
  |some _=>none
  |none=>match bndA s.length hi with
   |some h=>if st=true∧l≤h∧h≤s.length then some (.str ((s.drop l).take (h-l))) else none
   |none=>none
 | .sl fl sz xs=>match bndA xs.length hi with
  |some h=>match mx with
   |none=>if el=some sz∧l≤h∧h≤xs.length then some (.sl .sh sz ((xs.drop l).take (h-l))) else none
   |some a=>match natOf a,hi with
    |some m,some _=>if el=some sz∧l≤h∧h≤m∧m≤xs.length then some (.sl (if m=h then .full else .sh) sz ((xs.drop l).take (h-l))) else none
    |_,_=>none
  |none=>none
 |_=>none
def pevC (s:ASt):CI→Option (Option Nat×Option AV)
 | .pick d c x y=>some (d,pickA (evC s c) (evC s x) (evC s y))
 | .bin d op x y bt pt=>some (d,binB bt pt op (evC s x) (evC s y))
 | .un d op x=>some (d,unA op (evC s x))
 | .cvt d x ik ss bs=>some (d,cvtB ik ss bs (evC s x))
 | .fld d x o ps=>some (d,match evC s x with| .agg cs=>partB ps cs o|_=>none)
 | .idx d x i st ar=>some (d,idxB st ar (evC s x) (evC s i))
 | .ia d x i el ar=>some (d,iaB el ar (evC s x) (evC s i))
 | .fa d x o=>some (d,faB o (evC s x))
 | .ext d x i=>some (d,extractA (evC s x) i)
 | .ld d x ps=>some (d,loadB s.hp ps (evC s x))
 | .nil d x=>some (d,nilChkA (evC s x))
 | .len d x st sl=>some (d,lenB st sl (evC s x))
 | .mn d x y=>some (d,minA (evC s x) (evC s y))
 | .mx d x y=>some (d,maxA (evC s x) (evC s y))
 | .sl d x lo hi mx st el=>some (d,pieceB st el (evC s x) (lo.map (evC s)) (hi.map (evC s)) (mx.map (evC s)))
 | .bld d zs pl ps=>some (d,match fillA (fun i=>pl[i]?) zs (ps.map fun p=>(p.1,evC s p.2)) with|some cs=>some (.agg cs)|none=>none)
 | .mkf d f xs ys=>some (d,some (.func f (xs.map (evC s)) (ys.map (evC s))))
 |_=>none
def ownV? (s:ASt):V→Option Nat
 | .t t=>if isOwn (s.fr t) then some t else none
 |_=>none
def baseC (s:ASt):V→AV
 | .t t=>s.fr t
 | .k a=>a
def srcC (n:Nat) (okl oks:Bool) (y:AV):Option (List AV):=
 match y with
 | .sl _ m ys=>if okl=true∧m=n then some ys else none
 | .str l=>if oks=true∧n=1 then some (bytesA l) else none
 |_=>none
def appC (s:ASt) (d:Nat) (r:AV):V→ASt
 | .t t0=>⟨upd (upd s.fr t0 (strip (s.fr t0))) d r,s.hp⟩
 | .k _=>⟨upd s.fr d r,s.hp⟩
def stepC (s:ASt):CI→Option ASt
 | .nop=>some s
 | .cp d t=>some ⟨upd s.fr d (strip (s.fr t)),s.hp⟩
 | .mv d t=>if isOwn (s.fr t) then some ⟨upd (upd s.fr t (strip (s.fr t))) d (s.fr t),s.hp⟩ else some ⟨upd s.fr d (strip (s.fr t)),s.hp⟩
 | .set d a=>some ⟨upd s.fr d a,s.hp⟩
 | .ldT d x el=>match ownCell s.hp (evC s x) with
  |some (l,j,a,cs)=>some ⟨upd s.fr d a,s.hp.set l (.cells (cs.set j (strip a)))⟩
  |none=>match loadB s.hp (.one el) (evC s x) with|some r=>some ⟨upd s.fr d r,s.hp⟩|none=>none
 | .st a x n=>match evC s a with
  | .ptr l o=>match s.hp.bk l with
   | .cells cs=>
    if okc (evC s x)=true∧(evC s x).cells.length=n∧o+n≤cs.length then
     match ownV? s x with
     |some t' =>some ⟨upd s.fr t' (evC s x),s.hp.set l (.cells (cs.set o (s.fr t')))⟩
     |none=>some ⟨s.fr,s.hp.set l (.cells (putCells cs o ((evC s x).cells.map strip)))⟩
    else none
   |_=>none
  |_=>none
 | .alloc d zs=>some ⟨upd s.fr d (.ptr s.hp.n 0),s.hp.push (.cells zs)⟩
 | .box d x=>if okc (evC s x) then some ⟨upd s.fr d (.ptr s.hp.n 0),s.hp.push (.cells ((evC s x).cells.map strip))⟩ else none
 | .bs d n xs=>if ((xs.map (evC s)).all fun x=>okc x&&(x.cells.length==n))=true then some ⟨upd s.fr d (.sl .own n (xs.map (evC s))),s.hp⟩ else none
 | .app d x y n by_ okl oks=>
  match baseC s x,srcC n okl oks (evC s y) with
  | .sl fl sz xs,some ys=>
   if fl≠ .sh∧sz=n∧(xs.length+ys.length) * by_≤140737488355328∧xs.length+ys.length≤9223372036854775807 then
    some (appC s d (.sl (apFl fl ys) n (xs++ys)) x)
   else none
  |_,_=>none
 | .x d k xs=>match evX k s.hp (xs.map (evC s)) with|some (r,h')=>some (ASt.put ⟨s.fr,h'⟩ d r)|none=>none
 |ci=>match pevC s ci with
  |some (d,some r)=>some (s.put d r)
  |_=>none
def argC (s:ASt) (own:Bool):V→AV
 | .t t=>if own then s.fr t else strip (s.fr t)
 | .k a=>a
def argsC (s:ASt) (j:Option Nat):Nat→List V→List AV
 |_, []=> []
 |k,x::xs=>argC s (j==some k) x::argsC s j (k+1) xs
def ownArgC (j:Option Nat) (xs:List V):Option Nat:=
 match j with
 |some j=>match xs[j]? with|some (.t t)=>some t|_=>none
 |none=>none
def cV:Operand→V
 | .tmp t=> .t t
 | .const v=> .k (if constOK v then strip (constA 0 v) else .junk)
 | .func f=> .k (.func f [] [])
 | .global _=> .k .junk
def cVT (n:Option Nat):Operand→V
 | .const v=> .k (if constOK v then typA n (strip (constA 0 v)) else .junk)
 |x=>cV x
def cVn (n:Nat):Operand→V
 | .const v=> .k (if constOK v then strip (constA n v) else .junk)
 |x=>cV x
def psT (P:Program) (t:TypeId):Option PS:=
 match aggT P t with
 |some true=>match szT P t with|some n=>some (.agg n)|none=>none
 |some false=>some (.one (elT P t))
 |none=>none
section
variable (P:Program) (ow:FuncId→Option Nat) (tk:Nat→Bool)
def compX (o:Oper):Option CI:=
 match xkOf P o.op with
 |some (k,xs)=>if (clsX k !=2||(o.dst.isSome||isMup k))=true then some (.x o.dst k (xs.map cV)) else none
 |none=>none
def compOp (o:Oper):Option CI:=
 match o.op with
 | .move (.tmp t)=>match o.dst with|some d=>if tkm tk d then (if d=t then none else some (.mv d t)) else some (.cp d t)|none=>some .nop
 | .assign (.tmp t)=>match o.dst with|some d=>if d=t then none else some (.mv d t)|none=>some .nop
 | .move (.const v)=>match o.dst with|some d=>if constOK v then some (.set d (constA ((elT P o.type).getD 0) v)) else none|none=>none
 | .assign (.const v)=>match o.dst with|some d=>if constOK v then some (.set d (constA ((elT P o.type).getD 0) v)) else none|none=>none
 | .move (.func f)=>match o.dst with|some d=>some (.set d (.func f [] []))|none=>none
 | .assign (.func f)=>match o.dst with|some d=>some (.set d (.func f [] []))|none=>none
 | .pick c x y=>some (.pick o.dst (cV c) (cV x) (cV y))
 | .binOp op t x y _=>match eqKs P t with
  |some _=>compX P o
  |none=>some (.bin o.dst op (cV x) (cV y) (boolT P t) (ptrT P t))
 | .unOp op _ x=>some (.un o.dst op (cV x))
 | .convert a b x=>if (strT P a&&bytT P b)||(bytT P a&&strT P b) then compX P o else some (.cvt o.dst (cV x) (match intT P a with|some _=>intT P b|none=>none) (strT P a&&strT P b) false)
 | .field t x f=>match fldT P t f with
  |some (off,ft)=>match psT P ft with|some ps=>some (.fld o.dst (cV x) off ps)|none=>none
  |none=>none
 | .index t x i=>some (.idx o.dst (cV x) (cV i) (strT P t) (match arrT P t with|some (len,e)=>(match szT P e,psT P e with|some sz,some ps=>some (len,sz,ps)|_,_=>none)|none=>none))
 | .indexAddr t x i=>some (.ia o.dst (cV x) (cV i) (elT P t) (match arrT P t with|some (len,e)=>(match szT P e with|some sz=>some (len,sz)|none=>none)|none=>none))
 | .fieldAddr t x f=>match fldT P t f with
  |some (off,ft)=>match szT P ft with|some (_+1)=>some (.fa o.dst (cV x) off)|_=>none
  |none=>none
 | .extract x i=>some (.ext o.dst (cV x) i)
 | .load t x=>match psT P t with
  |some (.one el)=>match o.dst with|some d=>if tk d then some (.ldT d (cV x) el) else some (.ld (some d) (cV x) (.one el))|none=>some (.ld none (cV x) (.one el))
  |some ps=>some (.ld o.dst (cV x) ps)
  |none=>none
 | .nilCheck x=>some (.nil o.dst (cV x))
 | .slice t x lo hi mx=>some (.sl o.dst (cV x) (lo.map cV) (hi.map cV) (mx.map cV) (strT P t) (elT P t))
 | .build t parts=>match zeroA P t with
  |some zs=>match stPl P t with
   |some pl=>some (.bld o.dst (zs.map strip) pl (parts.toList.map fun p=>(p.1,cV p.2)))
   |none=>match arPl P t with
    |some n=>some (.bld o.dst (zs.map strip) ((List.range (zs.length / n)).map fun i=>(i * n,n)) (parts.toList.map fun p=>(p.1,cV p.2)))
    |none=>none
  |none=>none
 | .makeFunc (.func f) first cap=>some (.mkf o.dst f (first.toList.map cV) (cap.toList.map cV))
 | .store t a x=>if o.dst.isNone then (match szT P t with|some n=>some (.st (cV a) (cVT (elT P t) x) n)|none=>none) else none
 | .alloc t=>match o.dst,zeroA P t with|some d,some zs=>some (.alloc d zs)|_,_=>none
 | .box t x=>match o.dst with|some d=>some (.box d (cVT (elT P t) x))|none=>none
 | .buildSlice t len parts=>match o.dst,rowT P t with
  |some d,some (e,n,_)=>if parts.toList.map (·.1)=List.range len∧len * n≤16777216∧0<n then some (.bs d n (parts.toList.map fun p=>cVT (elT P e) p.2)) else none
  |_,_=>none
 | .call ⟨.builtin b,args,ts⟩=>
  match b,args.toList,ts.toList with
  | .append, [x,y], [t,u]=>match o.dst,rowT P t with
   |some d,some (_,n,by_)=>if 0<n then (match x with
    | .tmp q=>some (.app d (.t q) (cVn n y) n by_ (notInt P u) (notInt P u))
    | .const v=>some (.app d (.k (constA1 n v)) (cVn n y) n by_ (notInt P u) (notInt P u))
    |_=>none) else none
   |_,_=>none
  | .len, [x], [t]=>some (.len o.dst (cV x) (strT P t) (match sliceT P t with|some _=>true|none=>false))
  | .min, [x,y],_=>some (.mn o.dst (cV x) (cV y))
  | .max, [x,y],_=>some (.mx o.dst (cV x) (cV y))
  | .cap,_,_=>compX P o
  |_,_,_=>none
 | .makeMap _ _=>compX P o
 | .mapUpdate _ _ _ _=>compX P o
 | .lookup _ _ _ _=>compX P o
 | .makeSlice _ _ _=>compX P o
 | .call ⟨.value x,args,ts⟩=>some (.call o.dst (cV x) (args.toList.zipIdx.map fun p=>cVT ((ts.toList[p.2]?).bind (elT P)) p.1) (jOf ow x))
 |_=>none
end
end Go.Proofs.YtnibelnjflhkgaaGreatDoor.Ab

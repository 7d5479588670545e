/- slices.Grow and slices.Concat at patterns. No condition but that the parts are not great. The program's reader: which comparison a mark is, in whatever order the map's entries come. No condition. -/
import Derived.Test.YtnibelnjflhkgaaGreatDoorBsA
import Derived.Test.YtnibelnjflhkgaaGreatDoorGrowA
import Derived.Test.YtnibelnjflhkgaaGreatDoorRfC
import Derived.Test.YtnibelnjflhkgaaGreatDoorAbC
namespace Go.Proofs.YtnibelnjflhkgaaGreatDoor.Ab
set_option linter.unusedVariables false
set_option linter.unusedSimpArgs false
set_option maxRecDepth 10000
open Go.RowKit Go.Shelf
theorem fn_room {P:Program} {f:FuncId} {args:List AV} {h:Hp} {sz:Nat} (he:enterOK P f=true)
  (H: ∀(vs:List Value) (w:World) (g:Gh),vs.length=args.length→SR ⟨argsF args,h⟩ (argsV vs) w g→Amb g w→Calls P f ⟨vs⟩ w (fun e w' => ∃(b cap:Nat) (cur:Array Value) (t:TypeId),e= .returned (.slice (some ⟨b,0,none⟩) 0 cap)∧Below w.heap.size w w' ∧w.heap.size≤b∧w'.heap[b]? =some (.cells cur t (0,0))∧cur.size=cap * sz∧cap≤maxLen)):
  Fn P f args h (.sl .own sz []) h:=by
 refine ⟨he,fun vs w g hl hs hab=> ?_⟩
 refine (H vs w g hl hs hab).mono ?_
 rintro e w' ⟨b,cap,cur,t,rfl,bel,hb,hheap,hcur,hcap⟩
 have hcell: ∀b o,g.G b o→w'.cell? ⟨b,o,none⟩=w.cell? ⟨b,o,none⟩:=fun b o hb=>World.cell?_of_block (a:=⟨b,o,none⟩) (bel.block b (hs.G b o hb).1)
 have ext:Ext g w g w' :=⟨Nat.le_refl _,fun _ _=>rfl,fun _ _ h=>h,hcell⟩
 have hblk: ∀l,l<g.n→w'.heap[g.ρ l]? =w.heap[g.ρ l]? :=fun l hl=>bel.block _ (hs.size_ρ hl)
 have back: ∀p q,Own ⟨argsF [.sl .own sz []],h⟩ (argsV [.slice (some ⟨b,0,none⟩) 0 cap]) w' g p q→(p= .slot 0∧q=b)∨(∃l j,p= .cell l j∧Own ⟨argsF args,h⟩ (argsV vs) w g p q):=by
  intro p q ho
  cases p with
  |slot i=>
   cases i with
   |zero=>
    obtain ⟨sz',xs,o,len,cap',e1,e2⟩:=ho
    left
    have e2' :Value.slice (some ⟨b,0,none⟩) 0 cap= .slice (some ⟨q,o,none⟩) len cap' :=e2
    simp only [Value.slice.injEq,Option.some.injEq,Addr.mk.injEq] at e2'
    exact ⟨rfl,e2'.1.1.symm⟩
   |succ i=>obtain ⟨sz',xs,o,len,cap',e1,e2⟩:=ho;cases e1
  |cell l j=>
   obtain ⟨hl,cs,av,u,h1,h2,h3,h4⟩:=ho
   refine .inr ⟨l,j,rfl,hl,cs,av,u,h1,h2, ?_,h4⟩
   rwa [World.cell?_of_block (a:=⟨g.ρ l,j,none⟩) (hblk l (by rw [hs.n];exact hl))] at h3
 refine ⟨_,g,rfl,⟨hs.n,fun i=> ?_,fun l hl=>BR.mono ext (hblk l hl) (hs.bk l hl),hs.inj,fun b o hG=>⟨Nat.lt_of_lt_of_le (hs.G b o hG).1 bel.size,(hs.G b o hG).2⟩,fun i=> ?_,fun l j cs av u hl h1 h2 h3=> ?_,fun p q c hp hq=> ?_⟩,
  {ext with os:=bel.os,tape:=bel.tape,output:=bel.output,size:=bel.size,blk:=fun k hk _ _=>bel.block k hk,newG:=fun b o hG=> .inl hG,newρ:=fun l h1 h2=>absurd h1 (Nat.not_le.2 h2) },fun c ⟨p,hp⟩=> ?_⟩
 ·cases i with
  |zero=>exact VR.sl .own sz [] b 0 cap (Nat.zero_le _) hcap (fun e=>by cases e) (fun x hx=>by cases hx) (.nil _ _)
  |succ i=>exact VR.junk _
 ·cases i with
  |zero=>
   intro sz' xs q o len cap' e1 e2
   have e1' :AV.sl .own sz []= .sl .own sz' xs:=e1
   have e2' :Value.slice (some ⟨b,0,none⟩) 0 cap= .slice (some ⟨q,o,none⟩) len cap' :=e2
   simp only [AV.sl.injEq,true_and] at e1'
   obtain ⟨rfl,rfl⟩:=e1'
   simp only [Value.slice.injEq,Option.some.injEq,Addr.mk.injEq] at e2'
   obtain ⟨⟨rfl,rfl,_⟩,rfl,rfl⟩:=e2'
   exact ⟨rfl,⟨cur,t,hheap,hcur⟩,fun j _ hG=>by have:=(hs.G _ _ hG).1;omega,fun l hl e=>by have:=hs.size_ρ hl;omega⟩
  |succ i=>exact fun sz xs b o len cap e1 e2=>by cases e1
 ·have h3' :w.cell? ⟨g.ρ l,j,none⟩=some u:=by rwa [World.cell?_of_block (a:=⟨g.ρ l,j,none⟩) (hblk l hl)] at h3
  intro sz' xs q o len cap' e1 e2
  obtain ⟨t1,⟨cur',et,t2,t3⟩,t4,t5⟩:=hs.tipC l j cs av u hl h1 h2 h3' sz' xs q o len cap' e1 e2
  have hb:q<w.heap.size:=(Array.getElem?_eq_some_iff.1 t2).1
  exact ⟨t1,⟨cur',et,(bel.block q hb).trans t2,t3⟩,t4,t5⟩
 ·rcases back p c hp with ⟨rfl,rfl⟩|⟨l,j,rfl,k1⟩
  ·rcases back q _ hq with ⟨rfl,_⟩|⟨l,j,rfl,k2⟩
   ·rfl
   ·have:=(hs.own_lt k2).1;omega
  ·rcases back q _ hq with ⟨rfl,rfl⟩|⟨l',j',rfl,k2⟩
   ·have:=(hs.own_lt k1).1;omega
   ·exact hs.one _ _ c k1 k2
 ·rcases back p c hp with ⟨rfl,rfl⟩|⟨l,j,rfl,k1⟩
  ·exact .inr hb
  ·exact .inl ⟨_,k1⟩
theorem info_pat: ∃i z,Tryz.prog.info? (Tryz.growP_ren.t 25)=some i∧i.zero=some z∧z.cells.size=9∧i.size=9∧i.bytes=144:=by
 have h:((Tryz.prog.info? (Tryz.growP_ren.t 25)).map fun i=>((i.zero.map fun z=>z.cells.size),i.size,i.bytes))=some (some 9,9,144):=by kernel_rfl
 cases hi:Tryz.prog.info? (Tryz.growP_ren.t 25) with
 |none=>rw [hi] at h;cases h
 |some i=>
  rw [hi] at h
  simp only [Option.map_some,Option.some.injEq,Prod.mk.injEq] at h
  cases hz:i.zero with
  |none=>rw [hz] at h;cases h.1
  |some z=>
   rw [hz] at h
   simp only [Option.map_some,Option.some.injEq] at h
   exact ⟨i,z,rfl,hz,h⟩
theorem fn_grow (n:Nat) (h0:0<n) (hn:n<1000000) (h:Hp):Fn Tryz.prog 215 [.sl .full 9 [], .int .i64 (n:Nat)] h (.sl .own 9 []) h:=by
 refine fn_room (by kernel_rfl) fun vs w g hvl hsr hab=> ?_
 obtain ⟨v0,v1,rfl⟩: ∃v0 v1,vs= [v0,v1]:=by match vs,hvl with| [a,b],_=>exact ⟨a,b,rfl⟩
 have h0' :VR g w (.sl .full 9 []) v0:=hsr.fr 0
 have h1' :VR g w (.int .i64 (n:Nat)) v1:=hsr.fr 1
 obtain ⟨base,rfl⟩: ∃base,v0= .slice base 0 0:=by
  cases h0' with
  |sl0=>exact ⟨_,rfl⟩
  |sle _ _ a cap h1 h2=>
   rcases h2 with h2|⟨_,rfl⟩
   ·cases h2
   ·exact ⟨_,rfl⟩
  |sl _ _ _ b o cap k1 k2 k3 k4 k5=>have:=k3 rfl;simp at this;subst this;exact ⟨_,rfl⟩
 obtain rfl:v1= .int .i64 (n:Nat):=by cases h1';rfl
 obtain ⟨i,z,hi,hz,hzs,his,hib⟩:=info_pat
 have hcall:=Any8.slices_Grow_grow Tryz.growP i z hi hz (by omega) base 0 0 n [] w (Nat.le_refl _) (by omega) (by rw [hib];omega) (by omega) (by simp) (fun _=>rfl) (fun a _ j v hj=>by simp at hj)
 refine hcall.mono ?_
 rintro e w' ⟨rfl,rfl⟩
 have hge:0+n≤grownCap w (0+n) 0 (Tryz.growP_ren.t 25):=grownCap_ge w _ _ _
 have hle:=grownCap_le_maxLen w (0+n) 0 (Tryz.growP_ren.t 25) (by unfold maxLen;omega)
 generalize grownCap w (0+n) 0 (Tryz.growP_ren.t 25)=C at *
 refine ⟨w.heap.size,C,([]:List Value).toArray++Builtin.zeroCells z.cells (0+n-0)++Builtin.zeroCells z.cells (C-(0+n)),Tryz.growP_ren.t 25,rfl, ?_,Nat.le_refl _, ?_, ?_,hle⟩
 ·exact ((Below.refl _ _).drew).alloc (Nat.le_refl _) _
 ·exact Array.getElem?_push_size
 ·simp only [Array.size_append,size_zeroCells,hzs]
  simp
  omega
theorem c179:compF Tryz.prog ow Tryz.f179=(some (36,([(.t 2)],(.seq (.ops [(none,(.set 2 (.sl .full 9 [])))]) (.seq (.ops [(none,(.set 3 (.int .i64 0)))]) (.seq (.seq (.ops [(none,(.cp 9 0)),(none,(.len (some 10) (.t 9) false true)),(none,(.set 11 (.int .i64 0)))]) (.block 0 (.loop (.seq (.ops [(none,(.bin (some 12) .lss (.t 11) (.t 10) false false))]) (.seq (.cond (.t 12) .skip (.exit 0)) (.seq (.block 1 (.seq (.ops [(none,(.ia (some 13) (.t 9) (.t 11) (some 1) none)),(none,(.ld (some 14) (.t 13) (.one (some 9)))),(none,(.mv 5 14))]) (.seq (.ops [(none,(.cp 15 3)),(none,(.cp 16 5)),(none,(.len (some 17) (.t 16) false true)),(none,(.bin (some 18) .add (.t 15) (.t 17) false false)),(none,(.mv 3 18))]) (.seq (.ops [(none,(.cp 19 3)),(none,(.bin (some 20) .lss (.t 19) (.k (.int .i64 0)) false false))]) (.cond (.t 20) .bad .skip))))) (.ops [(none,(.bin (some 22) .add (.t 11) (.k (.int .i64 1)) false false)),(none,(.cp 11 22))]))))))) (.seq (.ops [(none,(.cp 23 3)),(none,(.call (some 24) (.k (.func 215 [] [])) [(.k (.sl .full 9 [])),(.t 23)] none)),(none,(.mv 6 24))]) (.seq (.seq (.ops [(none,(.cp 25 0)),(none,(.len (some 26) (.t 25) false true)),(none,(.set 27 (.int .i64 0)))]) (.block 2 (.loop (.seq (.ops [(none,(.bin (some 28) .lss (.t 27) (.t 26) false false))]) (.seq (.cond (.t 28) .skip (.exit 2)) (.seq (.block 3 (.seq (.ops [(none,(.ia (some 29) (.t 25) (.t 27) (some 1) none)),(none,(.ld (some 30) (.t 29) (.one (some 9)))),(none,(.mv 8 30))]) (.ops [(none,(.mv 31 6)),(none,(.cp 32 8)),(none,(.app 33 (.t 31) (.t 32) 9 144 true true)),(none,(.mv 6 33))]))) (.ops [(none,(.bin (some 34) .add (.t 27) (.k (.int .i64 1)) false false)),(none,(.cp 27 34))]))))))) (.seq (.ops [(none,(.mv 35 6)),(none,(.mv 2 35))]) .ret))))))))):=by kernel_rfl
theorem fn_concat (ps:List (List AV)) (hp:ps.length<1000) (h0:0<ps.flatten.length) (hn:ps.flatten.length<1000000) (hL: ∀n,labL n ps.flatten=true):PFn Tryz.prog 179 [.sl .sh 1 (ps.map fun l=> .sl .sh 9 l)] (.sl .sh 9 ps.flatten):=by
 intro h
 refine fnC mixed Tryz.func179 c179 (by simp) ?_
 simp only [go_sem,seval]
 refine cloop (fun k t=> ∃i:Nat,i+k=ps.length∧t.fr 0= .sl .sh 1 (ps.map fun l=> .sl .sh 9 l)∧t.fr 2= .sl .full 9 []∧t.fr 9= .sl .sh 1 (ps.map fun l=> .sl .sh 9 l)∧t.fr 10= .int .i64 (ps.length:Nat)∧t.fr 11= .int .i64 (i:Nat)∧t.fr 3= .int .i64 ((ps.take i).flatten.length:Nat)∧t.hp=h) ps.length ⟨0,by simp [fr_apply,argsF]⟩ ?_
 rintro k ⟨F,hp'⟩ ⟨i,hk,f0,f2,f9,f10,f11,f3,rfl⟩
 simp only at f0 f2 f9 f10 f11 f3
 by_cases hi:i<ps.length
 ·have hi' :decide ((i:Int)<(ps.length:Int))=true:=decide_eq_true (by omega)
  have hx:(ps.map fun l=>AV.sl .sh 9 l)[i]? =some (.sl .sh 9 ps[i]):=by simp [List.getElem?_eq_getElem hi]
  have hw:IntKind.i64.wrap ((i:Int)+1)=((i+1:Nat):Int):=by rw [wrap64]<;>omega
  have htk:ps.take (i+1)=ps.take i++ [ps[i]]:=by rw [List.take_add_one,List.getElem?_eq_getElem hi];rfl
  have ht:(ps.take (i+1)).flatten.length=(ps.take i).flatten.length+ps[i].length:=by rw [htk,List.flatten_append,List.length_append];simp
  have hle:(ps.take (i+1)).flatten.length≤ps.flatten.length:=by
   conv=>rhs;rw [←List.take_append_drop (i+1) ps]
   rw [List.flatten_append,List.length_append];omega
  have hw2:IntKind.i64.wrap (((ps.take i).flatten.length:Int)+(ps[i].length:Int))=(((ps.take i).flatten.length+ps[i].length:Nat):Int):=by rw [wrap64]<;>omega
  have hng:decide ((((ps.take i).flatten.length+ps[i].length:Nat):Int)<0)=false:=decide_eq_false (by omega)
  rw [←ht] at hw2 hng
  simp only [go_sem,seval,f0,f2,f9,f10,f11,f3,hi',hx,hw,hw2,hng]
  exact ⟨k-1,by omega,i+1,by omega,rfl,rfl⟩
 ·have hi' :decide ((i:Int)<(ps.length:Int))=false:=decide_eq_false (by omega)
  have ht:(ps.take i).flatten.length=ps.flatten.length:=by rw [List.take_of_length_le (by omega)]
  rw [ht] at f3
  simp only [go_sem,seval,f0,f2,f9,f10,f11,f3,hi']
  refine ccall (fn_grow ps.flatten.length h0 hn _) (by simp only [go_sem,seval,f3]) ?_
  simp only [go_sem,seval,f0,f2]
  refine cloop (fun k t=> ∃i:Nat,i+k=ps.length∧t.fr 2= .sl .full 9 []∧t.fr 25= .sl .sh 1 (ps.map fun l=> .sl .sh 9 l)∧t.fr 26= .int .i64 (ps.length:Nat)∧t.fr 27= .int .i64 (i:Nat)∧t.fr 6= .sl .own 9 (ps.take i).flatten∧t.hp=hp') ps.length ⟨0,by simp [fr_apply,argsF,f2,f0]⟩ ?_
  clear f0 f2 f9 f10 f11 f3 hi hi' ht hk
  rintro k ⟨F,hp''⟩ ⟨i,hk,f2,f25,f26,f27,f6,rfl⟩
  simp only at f2 f25 f26 f27 f6
  by_cases hi:i<ps.length
  ·have hi' :decide ((i:Int)<(ps.length:Int))=true:=decide_eq_true (by omega)
   have hx:(ps.map fun l=>AV.sl .sh 9 l)[i]? =some (.sl .sh 9 ps[i]):=by simp [List.getElem?_eq_getElem hi]
   have hw:IntKind.i64.wrap ((i:Int)+1)=((i+1:Nat):Int):=by rw [wrap64]<;>omega
   have htk:ps.take (i+1)=ps.take i++ [ps[i]]:=by rw [List.take_add_one,List.getElem?_eq_getElem hi];rfl
   have ht:(ps.take (i+1)).flatten=(ps.take i).flatten++ps[i]:=by rw [htk,List.flatten_append];simp
   have hle:(ps.take (i+1)).flatten.length≤ps.flatten.length:=by
    conv=>rhs;rw [←List.take_append_drop (i+1) ps]
    rw [List.flatten_append,List.length_append];omega
   have hl2:(ps.take i).flatten.length+ps[i].length<1000000:=by rw [ht,List.length_append] at hle;omega
   have a1:((ps.take i).flatten.length+ps[i].length) * 144≤140737488355328:=by omega
   have a2:(ps.take i).flatten.length+ps[i].length≤9223372036854775807:=by omega
   simp only [go_sem,seval,f2,f25,f26,f27,f6,hi',hx,hw,a1,a2]
   exact ⟨k-1,by omega,i+1,by omega,rfl,by rw [ht]⟩
  ·have hi' :decide ((i:Int)<(ps.length:Int))=false:=decide_eq_false (by omega)
   rw [List.take_of_length_le (by omega)] at f6
   simp only [go_sem,seval,f2,f25,f26,f27,f6,hi']
   exact hL _
end Go.Proofs.YtnibelnjflhkgaaGreatDoor.Ab
namespace Go.Proofs.YtnibelnjflhkgaaGreatDoor.Ab
set_option linter.unusedVariables false
set_option linter.unusedSimpArgs false
set_option maxRecDepth 10000
def opEs:List (AV×AV):= [(.int .i64 1, .str [60]),(.int .i64 2, .str [61,60]),(.int .i64 3, .str [61]),(.int .i64 4, .str [92,61])]
def opI (t:Tk):Int:=if (t.k==4)=true then (if t.s= [60] then 1 else if t.s= [61,60] then 2 else if t.s= [61] then 3 else if t.s= [92,61] then 4 else 0) else 0
def opS:Nat→List UInt8|0=> [60]|1=> [61,60]|2=> [61]|_=> [92,61]
theorem opI_hit (t:Tk) (j:Nat) (hj:j<4) (h:(t.k==4&&t.s==opS j)=true):opI t=((j+1:Nat):Int):=by
 simp only [Bool.and_eq_true,beq_iff_eq] at h
 obtain ⟨h1,h2⟩:=h
 unfold opI
 rw [h2,h1]
 rcases j with _|_|_|_|j<;>first|rfl|omega
theorem opI_miss (t:Tk) (h: ∀j,j<4→(t.k==4&&t.s==opS j)=false):opI t=0:=by
 unfold opI
 by_cases hk:(t.k==4)=true
 ·rw [if_pos hk]
  have q: ∀j,j<4→t.s≠opS j:=fun j hj e=>by
   have:=h j hj
   rw [hk,e] at this
   simp at this
  rw [if_neg (show ¬t.s= [60] from q 0 (by omega)),if_neg (show ¬t.s= [61,60] from q 1 (by omega)),if_neg (show ¬t.s= [61] from q 2 (by omega)),if_neg (show ¬t.s= [92,61] from q 3 (by omega))]
 ·rw [if_neg hk]
theorem fnl_op (t:Tk):PFn Tryz.prog 148 [t.av] (.int .i64 (opI t)):=by
 intro h
 refine fn_WP (rs:= [.t 2]) Tryz.func148 rfl rfl (Nat.le_of_ble_eq_true rfl) rfl ?_
 refine WP_seq (WP_of (ow:=ow) mixed (cc:= .ops [(none, .box 1 (.t 0)),(none, .set 2 (.int .i64 0))]) (by kernel_rfl) ?_)
 unfold Tk.av
 simp only [go_sem,seval]
 refine WP_seq (WP_rng (ow:=ow) mixed (es:=opEs) rfl (r5:=5) (r6:=6) (r7:=7) (tk1:=fun _=>false) (tk2:=fun _=>false) (tk3:=fun _=>false)
  (pre:=_) (oR:=_) (l1:= [(none, .x (some 5) .mkm []),(none, .x none (.mup (some .i64)) [.t 5, .k (.int .i64 1), .k (.str [60])]),(none, .x none (.mup (some .i64)) [.t 5, .k (.int .i64 2), .k (.str [61,60])]),(none, .x none (.mup (some .i64)) [.t 5, .k (.int .i64 3), .k (.str [61])]),(none, .x none (.mup (some .i64)) [.t 5, .k (.int .i64 4), .k (.str [92,61])]),(none, .cp 6 5)])
  (l2:= [(none, .ext (some 9) (.t 8) 0)]) (l3:= [(none, .ext (some 11) (.t 10) 0),(none, .ext (some 12) (.t 10) 1),(none, .mv 3 11),(none, .mv 4 12)])
  (ccB:= .seq (.ops [(none, .ld (some 13) (.t 1) (.agg 4)),(none, .cp 14 4),(none, .call (some 15) (.k (.func 95 [] [])) [.t 13, .t 14] none)]) (.cond (.t 15) (.seq (.ops [(none, .mv 16 3),(none, .mv 2 16)]) .ret) .skip))
  (show _= [_,_,_,_,_,_]++ [_] from rfl) rfl rfl rfl (by decide) (by kernel_rfl) (by kernel_rfl) ?_ rfl rfl rfl rfl (by decide) (by kernel_rfl) rfl rfl rfl rfl (by decide) (by kernel_rfl) (by kernel_rfl)
  (fun vit S u=>u.fr 7= .val vit∧u.fr 1= .ptr h.n 0∧u.fr 2= .int .i64 0∧u.hp=⟨h.n+1,updB h.bk h.n (.cells [.int .i64 t.k, .str t.s, .int .i64 t.n, .int .i64 (t.p:Nat)])⟩∧ ∀j,j∈S→j<4→(t.k==4&&t.s==opS j)=false)
  (fun vit S u hu=>hu.1) ?_ ?_ ?_)
 ·exact lit_pre rfl
 ·intro vit
  exact ⟨by simp [upd],by simp [upd],by simp [upd],rfl,fun j hj=>by cases hj⟩
 ·rintro vit S ⟨F,hp⟩ hall ⟨f7,f1,f2,hh,hS⟩
  simp only at f7 f1 f2 hh
  subst hh
  rw [opI_miss t fun j hj=>hS j (hall j (by simpa [opEs] using hj)) hj]
  simp only [go_sem,seval]
  refine WP_of (ow:=ow) mixed (cc:= .seq (.ops [(none, .set 2 (.int .i64 0))]) .ret) (by kernel_rfl) ?_
  simp only [go_sem,seval]
 ·rintro vit S ⟨F,hp⟩ j k v hjS hkv ⟨f7,f1,f2,hh,hS⟩
  simp only at f7 f1 f2 hh
  subst hh
  rcases j with _|_|_|_|j
  ·skip
   simp [opEs] at hkv
   obtain ⟨rfl,rfl⟩:=hkv
   simp only [go_sem,seval,f7,f1,f2]
   refine pcall (fnl_mark t _) (by simp only [go_sem,seval];rfl) ?_
   cases hb:(t.k==4&&t.s==opS 0) with
   |true=>
    have hb' :(t.k==4&&t.s== [60])=true:=hb
    rw [opI_hit t 0 (by omega) hb]
    simp only [go_sem,seval,hb']
   |false=>
    have hb' :(t.k==4&&t.s== [60])=false:=hb
    simp only [go_sem,seval,hb']
    exact ⟨f7,f1,f2,fun j hj hj4=>by rcases List.mem_cons.1 hj with rfl|hj;exact hb;exact hS j hj hj4⟩
  ·skip
   simp [opEs] at hkv
   obtain ⟨rfl,rfl⟩:=hkv
   simp only [go_sem,seval,f7,f1,f2]
   refine pcall (fnl_mark t _) (by simp only [go_sem,seval];rfl) ?_
   cases hb:(t.k==4&&t.s==opS 1) with
   |true=>
    have hb' :(t.k==4&&t.s== [61,60])=true:=hb
    rw [opI_hit t 1 (by omega) hb]
    simp only [go_sem,seval,hb']
   |false=>
    have hb' :(t.k==4&&t.s== [61,60])=false:=hb
    simp only [go_sem,seval,hb']
    exact ⟨f7,f1,f2,fun j hj hj4=>by rcases List.mem_cons.1 hj with rfl|hj;exact hb;exact hS j hj hj4⟩
  ·skip
   simp [opEs] at hkv
   obtain ⟨rfl,rfl⟩:=hkv
   simp only [go_sem,seval,f7,f1,f2]
   refine pcall (fnl_mark t _) (by simp only [go_sem,seval];rfl) ?_
   cases hb:(t.k==4&&t.s==opS 2) with
   |true=>
    have hb' :(t.k==4&&t.s== [61])=true:=hb
    rw [opI_hit t 2 (by omega) hb]
    simp only [go_sem,seval,hb']
   |false=>
    have hb' :(t.k==4&&t.s== [61])=false:=hb
    simp only [go_sem,seval,hb']
    exact ⟨f7,f1,f2,fun j hj hj4=>by rcases List.mem_cons.1 hj with rfl|hj;exact hb;exact hS j hj hj4⟩
  ·skip
   simp [opEs] at hkv
   obtain ⟨rfl,rfl⟩:=hkv
   simp only [go_sem,seval,f7,f1,f2]
   refine pcall (fnl_mark t _) (by simp only [go_sem,seval];rfl) ?_
   cases hb:(t.k==4&&t.s==opS 3) with
   |true=>
    have hb' :(t.k==4&&t.s== [92,61])=true:=hb
    rw [opI_hit t 3 (by omega) hb]
    simp only [go_sem,seval,hb']
   |false=>
    have hb' :(t.k==4&&t.s== [92,61])=false:=hb
    simp only [go_sem,seval,hb']
    exact ⟨f7,f1,f2,fun j hj hj4=>by rcases List.mem_cons.1 hj with rfl|hj;exact hb;exact hS j hj hj4⟩
  ·simp [opEs] at hkv
end Go.Proofs.YtnibelnjflhkgaaGreatDoor.Ab

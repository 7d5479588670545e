/- The program's reader over states: the word behind, a comparison. No condition. The program's reader over states: a guard, in whatever order the map's entries come. No condition. The program's reader over states: a clause. No condition. -/
import Derived.Test.YtnibelnjflhkgaaGreatDoorRoB
namespace Go.Proofs.YtnibelnjflhkgaaGreatDoor.Ab
set_option linter.unusedVariables false
set_option linter.unusedSimpArgs false
set_option maxRecDepth 10000
theorem c197:compF Tryz.prog ow Tryz.f197=(some (21,([(.c 2 (.agg 4))],(.seq (.ops [(none,(.alloc 2 [(.int .i64 0),(.str []),(.int .i64 0),(.int .i64 0)]))]) (.seq (.opsD [(none,(.cp 3 0)),(none,(.nil (some 4) (.t 3))),(none,(.fa (some 5) (.t 4) 0)),(none,(.ld (some 6) (.t 5) (.one (some 4)))),(none,(.cp 7 0)),(none,(.nil (some 8) (.t 7))),(none,(.fa (some 9) (.t 8) 1)),(none,(.ld (some 10) (.t 9) (.one none))),(none,(.bin (some 11) .add (.t 10) (.k (.int .i64 1)) false false)),(none,(.cp 12 0)),(none,(.nil (some 13) (.t 12))),(none,(.fa (some 14) (.t 13) 0)),(none,(.ld (some 15) (.t 14) (.one (some 4)))),(none,(.len (some 16) (.t 15) false true)),(none,(.bin (some 17) .sub (.t 16) (.k (.int .i64 1)) false false)),(none,(.mn (some 18) (.t 11) (.t 17))),(none,(.ia (some 19) (.t 6) (.t 18) (some 4) none)),(none,(.ld (some 20) (.t 19) (.agg 4))),(none,(.st (.t 2) (.t 20) 4))]) .ret))))):=by kernel_rfl
theorem c149:compF Tryz.prog ow Tryz.f149=(some (23,([(.c 4 (.agg 9))],(.seq (.ops [(none,(.box 3 (.t 1))),(none,(.alloc 4 [(.int .i64 0),(.int .i64 0),(.str []),(.int .i64 0),(.sl .full 4 []),(.int .i64 0),(.str []),(.int .i64 0),(.sl .full 4 [])]))]) (.seq (.ops [(none,(.cp 6 0)),(none,(.call (some 7) (.k (.func 48 [] [])) [(.t 6)] none)),(none,(.call (some 8) (.k (.func 148 [] [])) [(.t 7)] none)),(none,(.mv 5 8))]) (.seq (.seq (.ops [(none,(.cp 9 5)),(none,(.bin (some 10) .eql (.t 9) (.k (.int .i64 0)) false false))]) (.cond (.t 10) (.ops [(none,(.cp 11 0)),(none,(.cp 12 0)),(none,(.call (some 13) (.k (.func 48 [] [])) [(.t 12)] none)),(none,(.fld (some 14) (.t 13) 3 (.one none))),(none,(.call (some 15) (.k (.func 99 [] [])) [(.t 11),(.t 14),(.k (.int .i64 4))] none))]) .skip)) (.seq (.ops [(none,(.cp 16 0)),(none,(.call (some 17) (.k (.func 143 [] [])) [(.t 16)] none))]) (.seq (.opsT (.one none (.cp 18 5) (.one none (.cp 20 0) (.alt none (.ld (some 19) (.t 3) (.agg 4)) (.one none (.call (some 21) (.k (.func 62 [] [])) [(.t 20)] (some 100)) (.one none (.bld (some 22) [(.int .i64 0),(.int .i64 0),(.str []),(.int .i64 0),(.sl .full 4 []),(.int .i64 0),(.str []),(.int .i64 0),(.sl .full 4 [])] [(0,1),(1,4),(5,4)] [(0,(.t 18)),(1,(.t 19)),(2,(.t 21))]) (.one none (.st (.t 4) (.t 22) 9) .done))) (.alt none (.call (some 21) (.k (.func 62 [] [])) [(.t 20)] (some 100)) (.one none (.ld (some 19) (.t 3) (.agg 4)) (.one none (.bld (some 22) [(.int .i64 0),(.int .i64 0),(.str []),(.int .i64 0),(.sl .full 4 []),(.int .i64 0),(.str []),(.int .i64 0),(.sl .full 4 [])] [(0,1),(1,4),(5,4)] [(0,(.t 18)),(1,(.t 19)),(2,(.t 21))]) (.one none (.st (.t 4) (.t 22) 9) .done))) .nil))))) .ret)))))))):=by kernel_rfl
structure Gu where
 k:Int
 l:T
 r:T
def Gu.avf (g:Gu):AV:=match g.l,g.r with| .mk a b c d, .mk a' b' c' d' => .agg [.int .i64 g.k, .int .i64 a, .str b, .int .i64 c, .sl (flS d) 4 (d.map T.avf), .int .i64 a', .str b', .int .i64 c', .sl (flS d') 4 (d'.map T.avf)]
theorem lab_avfs (n:Nat) (m:List T):labL n (m.map T.avf)=true:=labL_all.2 fun a ha=>by obtain ⟨p,_,rfl⟩:=List.mem_map.1 ha;exact lab_avf n p
theorem lab_gu (n:Nat) (g:Gu):labOK n g.avf=true:=by
 obtain ⟨k,⟨a,b,c,d⟩,⟨a',b',c',d'⟩⟩:=g
 simp [Gu.avf,labOK,labL,lab_avfs]
theorem gu_agg (g:Gu):AV.agg g.avf.cells=g.avf:=by obtain ⟨k,⟨a,b,c,d⟩,⟨a',b',c',d'⟩⟩:=g;rfl
theorem gu_len (g:Gu):g.avf.cells.length=9:=by obtain ⟨k,⟨a,b,c,d⟩,⟨a',b',c',d'⟩⟩:=g;rfl
theorem gu_take (g:Gu):List.take 9 g.avf.cells=g.avf.cells:=by obtain ⟨k,⟨a,b,c,d⟩,⟨a',b',c',d'⟩⟩:=g;rfl
theorem gu_strip (g:Gu):strip g.avf=g.avf:=by obtain ⟨k,⟨a,b,c,d⟩,⟨a',b',c',d'⟩⟩:=g;rfl
theorem gu_own (g:Gu):isOwn g.avf=false:=by obtain ⟨k,⟨a,b,c,d⟩,⟨a',b',c',d'⟩⟩:=g;rfl
theorem gu_okc (g:Gu):okc g.avf=true:=by obtain ⟨k,⟨a,b,c,d⟩,⟨a',b',c',d'⟩⟩:=g;rfl
theorem gu_put (a b c d e f g h i:AV) (p:Gu):putCells [a,b,c,d,e,f,g,h,i] 0 p.avf.cells=p.avf.cells:=by obtain ⟨k,⟨a,b,c,d⟩,⟨a',b',c',d'⟩⟩:=p;rfl
theorem gu_cstrip (g:Gu):g.avf.cells.map strip=g.avf.cells:=by
 obtain ⟨k,⟨a,b,c,d⟩,⟨a',b',c',d'⟩⟩:=g
 simp only [Gu.avf,AV.cells,List.map_cons,List.map_nil,strip_flS];rfl
attribute [go_sem] gu_agg gu_len gu_take gu_strip gu_own gu_okc gu_put gu_cstrip
def tkN (ts:List Tk) (s:St):Tk:=ts[min (s.i+1) (ts.length-1)]?.getD ⟨5, [],0,0⟩
theorem fx_next {h:Hp} {l:Nat} (hl:l<h.n) {ts:List Tk} (W:Wds ts) {s:St} (hs:SOk ts s) {d:Int} (hb:h.bk l=rdX ts s d):
  Fn Tryz.prog 197 [.ptr l 0] h (.agg [.int .i64 (tkN ts s).k, .str (tkN ts s).s, .int .i64 (tkN ts s).n, .int .i64 ((tkN ts s).p:Nat)]) h:=by
 have hlen:=W.len
 have hpos:=W.pos
 have hi:=hs.1
 have hx0:ts[min (s.i+1) (ts.length-1)]? =some (tkN ts s):=by unfold tkN;rw [List.getElem?_eq_getElem (by omega)];rfl
 have hx:(ts.map Tk.av)[min (s.i+1) (ts.length-1)]? =some (.agg [.int .i64 (tkN ts s).k, .str (tkN ts s).s, .int .i64 (tkN ts s).n, .int .i64 ((tkN ts s).p:Nat)]):=by rw [List.getElem?_map,hx0];rfl
 have n1: ¬(h.n=l):=by omega
 have n2: ¬(l=h.n):=by omega
 have hw1:IntKind.i64.wrap ((s.i:Int)+1)=((s.i+1:Nat):Int):=by rw [wrap64]<;>omega
 have hL:(ts.map Tk.av).length=ts.length:=by simp
 have hw2:IntKind.i64.wrap ((ts.length:Int)-1)=((ts.length-1:Nat):Int):=by rw [wrap64]<;>omega
 have hmn:(if ((ts.length-1:Nat):Int)<((s.i+1:Nat):Int) then ((ts.length-1:Nat):Int) else ((s.i+1:Nat):Int))=((min (s.i+1) (ts.length-1):Nat):Int):=by
  split<;>omega
 have hb2:=hb
 rw [rdX_cells] at hb2
 generalize tkN ts s=t at *
 generalize min (s.i+1) (ts.length-1)=j at *
 rw [←hL] at hw2 hmn
 generalize ts.map Tk.av=L at *
 rw [hL] at hw2 hmn
 refine fnC mixed Tryz.func197 c197 (by simp) ?_
 simp only [go_sem,seval,hb2,hx,n1,n2,hw1,hw2,hmn,hL]
def comparedS (ts:List Tk) (d:Nat) (l:T) (s:St):Gu×St:=
 (⟨opI (tkS ts s),l,(tmS ts d (stepS ts (if opI (tkS ts s)=0 then failS (tkS ts s).p 4 s else s))).1⟩,(tmS ts d (stepS ts (if opI (tkS ts s)=0 then failS (tkS ts s).p 4 s else s))).2)
theorem fx_compared {h:Hp} {l:Nat} (hl:l<h.n) {ts:List Tk} (W:Wds ts) {s:St} (hs:SOk ts s) {d:Nat} (hd:d≤100) (hb:h.bk l=rdX ts s (d:Nat)) (t:T):
  Fn Tryz.prog 149 [.ptr l 0,t.avf] h (comparedS ts d t s).1.avf ⟨h.n,updB h.bk l (rdX ts (comparedS ts d t s).2 (d:Nat))⟩:=by
 have n0: ¬l=h.n:=by omega
 have n1: ¬l=h.n+1:=by omega
 have m0: ¬h.n=l:=by omega
 have m1: ¬h.n+1=l:=by omega
 have p0: ¬h.n=h.n+1:=by omega
 have p1: ¬h.n+1=h.n:=by omega
 unfold comparedS
 generalize htk:tkS ts s=tk
 have hO:=fnl_op tk
 unfold Tk.av at hO
 have hT: ∀H:Hp,l<H.n→H.bk l=rdX ts s d→Fn Tryz.prog 48 [.ptr l 0] H (.agg [.int .i64 tk.k, .str tk.s, .int .i64 tk.n, .int .i64 (tk.p:Nat)]) H:=fun H a b=>htk▸fx_token (h:=H) a hs b
 obtain ⟨a,b,c,e⟩:=t
 rw [avf_mk]
 refine fnC mixed Tryz.func149 c149 (by simp) ?_
 simp only [go_sem,seval]
 refine ccall (hT _ (by simp;omega) (by simp [bk_apply,n0,n1,hb])) (by simp only [go_sem,seval]) ?_
 simp only [go_sem,seval]
 refine pcall hO (by simp only [go_sem,seval]) ?_
 by_cases hc:opI tk=0
 ·have hc' :(opI tk==0)=true:=by simpa using hc
  rw [if_pos hc]
  simp only [go_sem,seval,hc']
  refine ccall (hT _ (by simp;omega) (by simp [bk_apply,n0,n1,hb])) (by simp only [go_sem,seval]) ?_
  simp only [go_sem,seval]
  refine ccall (fx_fail (l:=l) (ts:=ts) (s:=s) (d:=(d:Int)) (by simp;omega) hs (by simp [bk_apply,n0,n1,hb]) tk.p 4) (by simp only [go_sem,seval]) ?_
  simp only [go_sem,seval,n0,n1,m0,m1,p0,p1]
  have h1:SOk ts (failS tk.p 4 s):=failS_ok hs (by decide)
  generalize failS tk.p 4 s=s1 at *
  refine ccall (fx_step (l:=l) (ts:=ts) (s:=s1) (d:=(d:Int)) (by simp;omega) W h1 (by simp [bk_apply,n0,n1])) (by simp only [go_sem,seval]) ?_
  have h2:=stepS_ok W.Nx h1
  generalize stepS ts s1=s2 at *
  simp only [go_sem,seval,n0,n1,m0,m1,p0,p1]
  refine ⟨?_, ?_⟩
  iterate 2
   ·skip
    refine ccallD rfl (fx_term (l:=l) (ts:=ts) (s:=s2) (by simp;omega) W h2 (d:=d) hd (by simp [bk_apply,n0,n1])) (by simp only [go_sem,seval]) ?_
    generalize tmS ts d s2=R
    obtain ⟨⟨a',b',c',e'⟩,s3⟩:=R
    simp only [avf_mk]
    simp only [go_sem,seval,n0,n1,m0,m1,p0,p1]
    exact ⟨rfl,lab_gu _ _,shrink_rX (by simp) (fun q hq hne=>by simp [bk_apply,hne,show q≠h.n by omega,show q≠h.n+1 by omega]) (by simp [bk_apply,n0,n1])⟩
 ·have hc' :(opI tk==0)=false:=by simpa using hc
  rw [if_neg hc]
  simp only [go_sem,seval,hc']
  refine ccall (fx_step (l:=l) (ts:=ts) (s:=s) (d:=(d:Int)) (by simp;omega) W hs (by simp [bk_apply,n0,n1,hb])) (by simp only [go_sem,seval]) ?_
  have h2:=stepS_ok W.Nx hs
  generalize stepS ts s=s2 at *
  simp only [go_sem,seval,n0,n1,m0,m1,p0,p1]
  refine ⟨?_, ?_⟩
  iterate 2
   ·skip
    refine ccallD rfl (fx_term (l:=l) (ts:=ts) (s:=s2) (by simp;omega) W h2 (d:=d) hd (by simp [bk_apply,n0,n1])) (by simp only [go_sem,seval]) ?_
    generalize tmS ts d s2=R
    obtain ⟨⟨a',b',c',e'⟩,s3⟩:=R
    simp only [avf_mk]
    simp only [go_sem,seval,n0,n1,m0,m1,p0,p1]
    exact ⟨rfl,lab_gu _ _,shrink_rX (by simp) (fun q hq hne=>by simp [bk_apply,hne,show q≠h.n by omega,show q≠h.n+1 by omega]) (by simp [bk_apply,n0,n1])⟩
end Go.Proofs.YtnibelnjflhkgaaGreatDoor.Ab
namespace Go.Proofs.YtnibelnjflhkgaaGreatDoor.Ab
set_option linter.unusedVariables false
set_option linter.unusedSimpArgs false
set_option maxRecDepth 10000
def guEs:List (AV×AV):= [(.int .i64 5, .str [107,110,111,119,110]),(.int .i64 6, .str [117,110,107,110,111,119,110])]
def guS:Nat→List UInt8|0=> [107,110,111,119,110]|_=> [117,110,107,110,111,119,110]
def named (ts:List Tk) (s:St):Bool:=(tkN ts s).k==1
def knownG (ts:List Tk) (d:Nat) (k:Int) (s:St):Gu×St:=(⟨k,(tmS ts d (stepS ts s)).1,zT⟩,(tmS ts d (stepS ts s)).2)
def guardS (ts:List Tk) (d:Nat) (s:St):Gu×St:=
 if (named ts s&&isN (tkS ts s) (guS 0))=true then knownG ts d 5 s else if (named ts s&&isN (tkS ts s) (guS 1))=true then knownG ts d 6 s else comparedS ts d (tmS ts d s).1 (tmS ts d s).2
theorem guS_hit (ts:List Tk) (d:Nat) (s:St) (j:Nat) (hj:j<2) (h:(named ts s&&isN (tkS ts s) (guS j))=true):guardS ts d s=knownG ts d ((j+5:Nat):Int) s:=by
 unfold guardS
 rcases j with _|_|j
 ·rw [if_pos h];rfl
 ·have: ¬(named ts s&&isN (tkS ts s) (guS 0))=true:=by
   intro e
   simp only [Bool.and_eq_true] at h e
   obtain ⟨_,h⟩:=h
   obtain ⟨_,e⟩:=e
   unfold isN at h e
   simp only [Bool.and_eq_true,beq_iff_eq] at h e
   have:=e.2.symm.trans h.2
   simp [guS] at this
  rw [if_neg this,if_pos h];rfl
 ·omega
theorem guS_miss (ts:List Tk) (d:Nat) (s:St) (h: ∀j,j<2→(named ts s&&isN (tkS ts s) (guS j))=false):guardS ts d s=comparedS ts d (tmS ts d s).1 (tmS ts d s).2:=by
 unfold guardS
 rw [if_neg (by rw [h 0 (by omega)];simp),if_neg (by rw [h 1 (by omega)];simp)]
theorem fx_guard {h:Hp} {l:Nat} (hl:l<h.n) {ts:List Tk} (W:Wds ts) {s:St} (hs:SOk ts s) {d:Nat} (hd:d≤100) (hb:h.bk l=rdX ts s (d:Nat)):
  Fn Tryz.prog 196 [.ptr l 0] h (guardS ts d s).1.avf ⟨h.n,updB h.bk l (rdX ts (guardS ts d s).2 (d:Nat))⟩:=by
 have n0: ¬l=h.n:=by omega
 have m0: ¬h.n=l:=by omega
 have hNm:=fun c=>fx_name (tkS ts s) c
 unfold Tk.av at hNm
 generalize htk:tkS ts s=tk at hNm
 have hT: ∀H:Hp,l<H.n→H.bk l=rdX ts s d→Fn Tryz.prog 48 [.ptr l 0] H (.agg [.int .i64 tk.k, .str tk.s, .int .i64 tk.n, .int .i64 (tk.p:Nat)]) H:=fun H a b=>htk▸fx_token (h:=H) a hs b
 generalize hnm:named ts s=nm
 have hnm' :((tkN ts s).k==1)=nm:=hnm
 refine fn_WP (rs:= [.c 2 (.agg 9)]) Tryz.func196 rfl rfl (Nat.le_of_ble_eq_true rfl) rfl ?_
 refine WP_seq (WP_of (ow:=ow) mixed (cc:= .ops [(none, .alloc 2 [.int .i64 0, .int .i64 0, .str [], .int .i64 0, .sl .full 4 [], .int .i64 0, .str [], .int .i64 0, .sl .full 4 []])]) (by kernel_rfl) ?_)
 simp only [go_sem,seval]
 refine WP_seq (WP_of (ow:=ow) mixed (cc:= .ops [(none, .cp 6 0),(none, .call (some 7) (.k (.func 197 [] [])) [.t 6] none),(none, .fld (some 8) (.t 7) 0 (.one none)),(none, .bin (some 9) .eql (.t 8) (.k (.int .i64 1)) false false),(none, .mv 3 9)]) (by kernel_rfl) ?_)
 simp only [go_sem,seval]
 refine ccall (fx_next (l:=l) (ts:=ts) (s:=s) (d:=(d:Int)) (by simp;omega) W hs (by simp [bk_apply,n0,hb])) (by simp only [go_sem,seval]) ?_
 simp only [go_sem,seval,hnm']
 refine WP_seq (WP_rng (ow:=ow) mixed (es:=guEs) rfl (r5:=10) (r6:=11) (r7:=12) (tk1:=fun _=>false) (tk2:=fun _=>false) (tk3:=fun _=>false)
  (pre:=_) (oR:=_) (l1:= [(none, .x (some 10) .mkm []),(none, .x none (.mup (some .i64)) [.t 10, .k (.int .i64 5), .k (.str [107,110,111,119,110])]),(none, .x none (.mup (some .i64)) [.t 10, .k (.int .i64 6), .k (.str [117,110,107,110,111,119,110])]),(none, .cp 11 10)])
  (l2:= [(none, .ext (some 14) (.t 13) 0)]) (l3:= [(none, .ext (some 16) (.t 15) 0),(none, .ext (some 17) (.t 15) 1),(none, .mv 4 16),(none, .mv 5 17)])
  (ccB:= .seq (.ops [(none, .cp 18 3),(none, .cp 19 18),(some (19,true), .cp 20 0),(some (19,true), .call (some 21) (.k (.func 48 [] [])) [.t 20] none),(some (19,true), .cp 22 5),(some (19,true), .call (some 23) (.k (.func 145 [] [])) [.t 21, .t 22] none),(none, .pick (some 24) (.t 19) (.t 23) (.k (.bool false)))]) (.cond (.t 24) (.seq (.ops [(none, .cp 25 0),(none, .call (some 26) (.k (.func 143 [] [])) [.t 25] none)]) (.seq (.ops [(none, .cp 27 4),(none, .cp 28 0),(none, .call (some 29) (.k (.func 62 [] [])) [.t 28] (some 100)),(none, .bld (some 30) [.int .i64 0, .int .i64 0, .str [], .int .i64 0, .sl .full 4 [], .int .i64 0, .str [], .int .i64 0, .sl .full 4 []] [(0,1),(1,4),(5,4)] [(0, .t 27),(1, .t 29)]),(none, .st (.t 2) (.t 30) 9)]) .ret)) .skip))
  (show _= [_,_,_,_]++ [_] from rfl) rfl rfl rfl (by decide) (by kernel_rfl) (by kernel_rfl) ?_ rfl rfl rfl rfl (by decide) (by kernel_rfl) rfl rfl rfl rfl (by decide) (by kernel_rfl) (by kernel_rfl)
  (fun vit S u=>u.fr 12= .val vit∧u.fr 0= .ptr l 0∧u.fr 2= .ptr h.n 0∧u.fr 3= .bool nm∧u.hp=⟨h.n+1,updB h.bk h.n (.cells [.int .i64 0, .int .i64 0, .str [], .int .i64 0, .sl .full 4 [], .int .i64 0, .str [], .int .i64 0, .sl .full 4 []])⟩∧ ∀j,j∈S→j<2→(nm&&isN tk (guS j))=false)
  (fun vit S u hu=>hu.1) ?_ ?_ ?_)
 ·exact lit_pre rfl
 ·intro vit
  exact ⟨by simp [upd],by simp [upd,argsF],by simp [upd],by simp [upd],rfl,fun j hj=>by cases hj⟩
 ·rintro vit S ⟨F,hp⟩ hall ⟨f7,f0,f2,f3,hh,hS'⟩
  simp only at f7 f0 f2 f3 hh
  subst hh
  rw [guS_miss ts d s fun j hj=>by rw [hnm,htk];exact hS' j (hall j (by simpa [guEs] using hj)) hj]
  simp only [go_sem,seval]
  refine WP_of (ow:=ow) mixed (cc:= .seq (.ops [(none, .cp 31 0),(none, .cp 32 0),(none, .call (some 33) (.k (.func 62 [] [])) [.t 32] (some 100)),(none, .call (some 34) (.k (.func 149 [] [])) [.t 31, .t 33] (some 100)),(none, .st (.t 2) (.t 34) 9)]) .ret) (by kernel_rfl) ?_
  simp only [go_sem,seval,f0,f2]
  refine ccall (fx_term (l:=l) (ts:=ts) (s:=s) (by simp;omega) W hs (d:=d) hd (by simp [bk_apply,n0,hb])) (by simp only [go_sem,seval,f0]) ?_
  have h1:=tmS_ok (d:=d) W hs
  generalize tmS ts d s=R at *
  obtain ⟨t1,s1⟩:=R
  simp only at h1 ⊢
  simp only [go_sem,seval,f0,f2]
  refine ccall (fx_compared (l:=l) (ts:=ts) (s:=s1) (by simp;omega) W h1 (d:=d) hd (by simp [bk_apply,n0]) t1) (by simp only [go_sem,seval,f0]) ?_
  generalize comparedS ts d t1 s1=R at *
  obtain ⟨gu,s2⟩:=R
  simp only
  simp only [go_sem,seval,f0,f2,n0,m0]
  exact ⟨wk_refl _,lab_gu _ _,shrink_rX (by simp) (fun q hq hne=>by simp [bk_apply,hne,show q≠h.n by omega]) (by simp [bk_apply,n0])⟩
 ·rintro vit S ⟨F,hp⟩ j k v hjS hkv ⟨f7,f0,f2,f3,hh,hS'⟩
  simp only at f7 f0 f2 f3 hh
  subst hh
  rcases j with _|_|j
  ·skip
   simp [guEs] at hkv
   obtain ⟨rfl,rfl⟩:=hkv
   cases nm with
   |false=>
    simp only [go_sem,seval,f7,f0,f2,f3]
    exact fun j hj hj4=>trivial
   |true=>
    simp only [go_sem,seval,f7,f0,f2,f3]
    refine ccall (hT _ (by simp;omega) (by simp [bk_apply,n0,hb])) (by simp only [go_sem,seval,f0]) ?_
    simp only [go_sem,seval,f7,f0,f2,f3]
    refine pcall (hNm _) (by simp only [go_sem,seval];rfl) ?_
    cases hb1:isN tk (guS 0) with
    |true=>
     have hb' :(tk.k==1&&tk.s== [107,110,111,119,110])=true:=hb1
     rw [guS_hit ts d s 0 (by omega) (by rw [hnm,htk,hb1];rfl)]
     unfold knownG
     simp only [go_sem,seval,hb',f7,f0,f2,f3]
     refine ccall (fx_step (l:=l) (ts:=ts) (s:=s) (d:=(d:Int)) (by simp;omega) W hs (by simp [bk_apply,n0,hb])) (by simp only [go_sem,seval,f0]) ?_
     have h2:=stepS_ok W.Nx hs
     generalize stepS ts s=s2 at *
     simp only [go_sem,seval,f0,f2,n0,m0]
     refine ccall (fx_term (l:=l) (ts:=ts) (s:=s2) (by simp;omega) W h2 (d:=d) hd (by simp [bk_apply,n0])) (by simp only [go_sem,seval,f0]) ?_
     generalize tmS ts d s2=R
     obtain ⟨⟨a',b',c',e'⟩,s3⟩:=R
     simp only [avf_mk]
     simp only [go_sem,seval,f0,f2,n0,m0]
     exact ⟨rfl,lab_gu _ _,shrink_rX (by simp) (fun q hq hne=>by simp [bk_apply,hne,show q≠h.n by omega]) (by simp [bk_apply,n0])⟩
    |false=>
     have hb' :(tk.k==1&&tk.s== [107,110,111,119,110])=false:=hb1
     simp only [go_sem,seval,hb',f7,f0,f2,f3]
     exact fun j hj hj4=>by rcases List.mem_cons.1 hj with rfl|hj;exact hb1;simpa using hS' j hj hj4
  ·skip
   simp [guEs] at hkv
   obtain ⟨rfl,rfl⟩:=hkv
   cases nm with
   |false=>
    simp only [go_sem,seval,f7,f0,f2,f3]
    exact fun j hj hj4=>trivial
   |true=>
    simp only [go_sem,seval,f7,f0,f2,f3]
    refine ccall (hT _ (by simp;omega) (by simp [bk_apply,n0,hb])) (by simp only [go_sem,seval,f0]) ?_
    simp only [go_sem,seval,f7,f0,f2,f3]
    refine pcall (hNm _) (by simp only [go_sem,seval];rfl) ?_
    cases hb1:isN tk (guS 1) with
    |true=>
     have hb' :(tk.k==1&&tk.s== [117,110,107,110,111,119,110])=true:=hb1
     rw [guS_hit ts d s 1 (by omega) (by rw [hnm,htk,hb1];rfl)]
     unfold knownG
     simp only [go_sem,seval,hb',f7,f0,f2,f3]
     refine ccall (fx_step (l:=l) (ts:=ts) (s:=s) (d:=(d:Int)) (by simp;omega) W hs (by simp [bk_apply,n0,hb])) (by simp only [go_sem,seval,f0]) ?_
     have h2:=stepS_ok W.Nx hs
     generalize stepS ts s=s2 at *
     simp only [go_sem,seval,f0,f2,n0,m0]
     refine ccall (fx_term (l:=l) (ts:=ts) (s:=s2) (by simp;omega) W h2 (d:=d) hd (by simp [bk_apply,n0])) (by simp only [go_sem,seval,f0]) ?_
     generalize tmS ts d s2=R
     obtain ⟨⟨a',b',c',e'⟩,s3⟩:=R
     simp only [avf_mk]
     simp only [go_sem,seval,f0,f2,n0,m0]
     exact ⟨rfl,lab_gu _ _,shrink_rX (by simp) (fun q hq hne=>by simp [bk_apply,hne,show q≠h.n by omega]) (by simp [bk_apply,n0])⟩
    |false=>
     have hb' :(tk.k==1&&tk.s== [117,110,107,110,111,119,110])=false:=hb1
     simp only [go_sem,seval,hb',f7,f0,f2,f3]
     exact fun j hj hj4=>by rcases List.mem_cons.1 hj with rfl|hj;exact hb1;simpa using hS' j hj hj4
  ·simp [guEs] at hkv
end Go.Proofs.YtnibelnjflhkgaaGreatDoor.Ab
namespace Go.Proofs.YtnibelnjflhkgaaGreatDoor.Ab
set_option linter.unusedVariables false
set_option linter.unusedSimpArgs false
set_option maxRecDepth 10000
theorem c97:compF Tryz.prog ow Tryz.f97=(some (62,([(.c 4 (.agg 6))],(.seq (.ops [(none,(.box 3 (.t 1))),(none,(.alloc 4 [(.int .i64 0),(.str []),(.int .i64 0),(.sl .full 4 []),(.sl .full 4 []),(.sl .full 9 [])]))]) (.seq (.ops [(none,(.ld (some 9) (.t 3) (.agg 4))),(none,(.bld (some 10) [(.int .i64 0),(.str []),(.int .i64 0),(.sl .full 4 []),(.sl .full 4 []),(.sl .full 9 [])] [(0,4),(4,1),(5,1)] [(0,(.t 9))])),(none,(.alloc 5 [(.int .i64 0),(.str []),(.int .i64 0),(.sl .full 4 []),(.sl .full 4 []),(.sl .full 9 [])])),(none,(.st (.t 5) (.t 10) 6))]) (.seq (.seq (.ops [(none,(.cp 11 0)),(none,(.call (some 12) (.k (.func 144 [] [])) [(.t 11),(.k (.str [58,45]))] none)),(none,(.mv 6 12))]) (.block 0 (.loop (.seq (.seq (.ops [(none,(.cp 13 6)),(none,(.cp 14 13)),((some (14,true)),(.cp 15 0)),((some (14,true)),(.call (some 16) (.k (.func 47 [] [])) [(.t 15)] none)),(none,(.pick (some 17) (.t 14) (.t 16) (.k (.bool false))))]) (.cond (.t 17) .skip (.exit 0))) (.seq (.block 1 (.seq (.ops [(none,(.cp 20 0)),(none,(.call (some 21) (.k (.func 48 [] [])) [(.t 20)] none)),(none,(.fld (some 22) (.t 21) 3 (.one none))),(none,(.mv 7 22))]) (.seq (.ops [(none,(.cp 23 0)),(none,(.call (some 24) (.k (.func 62 [] [])) [(.t 23)] (some 100))),(none,(.alloc 8 [(.int .i64 0),(.str []),(.int .i64 0),(.sl .full 4 [])])),(none,(.st (.t 8) (.t 24) 4))]) (.seq (.seq (.ops [(none,(.cp 25 0)),(none,(.call (some 26) (.k (.func 47 [] [])) [(.t 25)] none)),(none,(.cp 27 26)),((some (27,true)),(.cp 28 0)),((some (27,true)),(.call (some 29) (.k (.func 48 [] [])) [(.t 28)] none)),((some (27,true)),(.call (some 30) (.k (.func 148 [] [])) [(.t 29)] none)),((some (27,true)),(.bin (some 31) .neq (.t 30) (.k (.int .i64 0)) false false)),(none,(.pick (some 32) (.t 27) (.t 31) (.k (.bool false))))]) (.cond (.t 32) (.opsT (.one none (.fa (some 33) (.t 5) 5) (.one none (.cp 35 0) (.alt none (.ldT 34 (.t 33) (some 9)) (.one none (.ld (some 36) (.t 8) (.agg 4)) (.one none (.call (some 37) (.k (.func 149 [] [])) [(.t 35),(.t 36)] (some 100)) (.one none (.bs 38 9 [(.t 37)]) (.one none (.app 39 (.t 34) (.t 38) 9 120 true true) (.one none (.fa (some 40) (.t 5) 5) (.one none (.st (.t 40) (.t 39) 1) .done)))))) (.alt none (.ld (some 36) (.t 8) (.agg 4)) (.alt none (.ldT 34 (.t 33) (some 9)) (.one none (.call (some 37) (.k (.func 149 [] [])) [(.t 35),(.t 36)] (some 100)) (.one none (.bs 38 9 [(.t 37)]) (.one none (.app 39 (.t 34) (.t 38) 9 120 true true) (.one none (.fa (some 40) (.t 5) 5) (.one none (.st (.t 40) (.t 39) 1) .done))))) (.alt none (.call (some 37) (.k (.func 149 [] [])) [(.t 35),(.t 36)] (some 100)) (.one none (.ldT 34 (.t 33) (some 9)) (.one none (.bs 38 9 [(.t 37)]) (.one none (.app 39 (.t 34) (.t 38) 9 120 true true) (.one none (.fa (some 40) (.t 5) 5) (.one none (.st (.t 40) (.t 39) 1) .done))))) .nil)) .nil))))) (.ops [(none,(.fa (some 41) (.t 5) 4)),(none,(.ldT 42 (.t 41) (some 4))),(none,(.ld (some 43) (.t 8) (.agg 4))),(none,(.bs 44 4 [(.t 43)])),(none,(.app 45 (.t 42) (.t 44) 4 56 true true)),(none,(.fa (some 46) (.t 5) 4)),(none,(.st (.t 46) (.t 45) 1))]))) (.seq (.ops [(none,(.cp 47 0)),(none,(.fa (some 48) (.t 5) 4)),(none,(.ld (some 49) (.t 48) (.one (some 4)))),(none,(.len (some 50) (.t 49) false true)),(none,(.cp 51 7)),(none,(.call (some 52) (.k (.func 98 [] [])) [(.t 47),(.t 50),(.k (.int .i64 3)),(.t 51)] none))]) (.ops [(none,(.cp 53 0)),(none,(.fa (some 54) (.t 5) 5)),(none,(.ld (some 55) (.t 54) (.one (some 9)))),(none,(.len (some 56) (.t 55) false true)),(none,(.cp 57 7)),(none,(.call (some 58) (.k (.func 98 [] [])) [(.t 53),(.t 56),(.k (.int .i64 4)),(.t 57)] none))])))))) (.ops [(none,(.cp 18 0)),(none,(.call (some 19) (.k (.func 144 [] [])) [(.t 18),(.k (.str [44]))] none)),(none,(.mv 6 19))])))))) (.seq (.ops [(none,(.cp 59 0)),(none,(.call (some 60) (.k (.func 141 [] [])) [(.t 59),(.k (.str [46]))] none))]) (.seq (.ops [(none,(.ld (some 61) (.t 5) (.agg 6))),(none,(.st (.t 4) (.t 61) 6))]) .ret)))))))):=by kernel_rfl
theorem comparedS_ok {ts:List Tk} (W:Wds ts) {s:St} {d:Nat} {t:T} (h:SOk ts s):SOk ts (comparedS ts d t s).2∧s.i≤(comparedS ts d t s).2.i:=by
 unfold comparedS
 have h1:SOk ts (if opI (tkS ts s)=0 then failS (tkS ts s).p 4 s else s)∧(if opI (tkS ts s)=0 then failS (tkS ts s).p 4 s else s).i=s.i:=by
  split
  ·exact ⟨failS_ok h (by decide),failS_i _ _ _⟩
  ·exact ⟨h,rfl⟩
 generalize (if opI (tkS ts s)=0 then failS (tkS ts s).p 4 s else s)=s1 at *
 have:=stepS_i ts s1
 have:=tmS_i ts d (stepS ts s1)
 exact ⟨tmS_ok W (stepS_ok W.Nx h1.1),by simp only;omega⟩
theorem mostS_i (n m:Int) (p:Nat) (s:St):(mostS n m p s).i=s.i:=by
 unfold mostS;split
 ·exact failS_i _ _ _
 ·rfl
def flG:List Gu→Fl| []=> .full|_=> .sh
def flGo:List Gu→Fl| []=> .full|_=> .own
structure Cl where
 h:T
 b:List T
 g:List Gu
def Cl.avf (c:Cl):AV:=match c.h with| .mk a b' c' d=> .agg [.int .i64 a, .str b', .int .i64 c', .sl (flS d) 4 (d.map T.avf), .sl (flS c.b) 4 (c.b.map T.avf), .sl (flG c.g) 9 (c.g.map Gu.avf)]
theorem lab_gus (n:Nat) (m:List Gu):labL n (m.map Gu.avf)=true:=labL_all.2 fun a ha=>by obtain ⟨p,_,rfl⟩:=List.mem_map.1 ha;exact lab_gu n p
theorem lab_cl (n:Nat) (c:Cl):labOK n c.avf=true:=by
 obtain ⟨⟨a,b',c',d⟩,b,g⟩:=c
 simp [Cl.avf,labOK,labL,lab_avfs,lab_gus]
theorem strip_flGo (l:List Gu) (xs:List AV):strip (.sl (flGo l) 9 xs)= .sl (flG l) 9 xs:=by cases l<;>rfl
theorem strip_flG (l:List Gu) (xs:List AV):strip (.sl (flG l) 9 xs)= .sl (flG l) 9 xs:=by cases l<;>rfl
attribute [go_sem] strip_flGo strip_flG
def clB (ts:List Tk) (d:Nat) (b:List T) (g:List Gu) (s:St):List T×List Gu×St:=
 if (tmS ts d s).2.er.isNone=true∧opI (tkS ts (tmS ts d s).2)≠0 then
  (b,g++ [(comparedS ts d (tmS ts d s).1 (tmS ts d s).2).1],(comparedS ts d (tmS ts d s).1 (tmS ts d s).2).2)
 else (b++ [(tmS ts d s).1],g,(tmS ts d s).2)
def clM (ts:List Tk) (p:Nat) (x:List T×List Gu×St):St:=mostS (x.2.1.length:Nat) 4 p (mostS (x.1.length:Nat) 3 p x.2.2)
def clL (ts:List Tk) (d:Nat):Nat→Bool→List T→List Gu→St→List T×List Gu×St
 |0,_,b,g,s=>(b,g,s)
 |m+1,more,b,g,s=>if (more&&s.er.isNone)=true then
   clL ts d m (takeS ts [44] (clM ts (tkS ts s).p (clB ts d b g s))) (clB ts d b g s).1 (clB ts d b g s).2.1 (goS ts [44] (clM ts (tkS ts s).p (clB ts d b g s)))
  else (b,g,s)
def clauseS (ts:List Tk) (d:Nat) (t:T) (s:St):Cl×St:=
 (⟨t,(clL ts d ts.length (takeS ts [58,45] s) [] [] (goS ts [58,45] s)).1,(clL ts d ts.length (takeS ts [58,45] s) [] [] (goS ts [58,45] s)).2.1⟩,needS ts [46] (clL ts d ts.length (takeS ts [58,45] s) [] [] (goS ts [58,45] s)).2.2)
theorem clB_ok {ts:List Tk} (W:Wds ts) {d:Nat} {b:List T} {g:List Gu} {s:St} (h:SOk ts s):SOk ts (clB ts d b g s).2.2∧s.i≤(clB ts d b g s).2.2.i:=by
 have h1:=tmS_ok (d:=d) W h
 have h2:=tmS_i ts d s
 unfold clB;split
 ·obtain ⟨k1,k2⟩:=comparedS_ok (d:=d) (t:=(tmS ts d s).1) W h1
  exact ⟨k1,Nat.le_trans h2 k2⟩
 ·exact ⟨h1,h2⟩
theorem clM_ok {ts:List Tk} {p:Nat} {x:List T×List Gu×St} (h:SOk ts x.2.2):SOk ts (clM ts p x)∧(clM ts p x).i=x.2.2.i:=⟨mostS_ok (mostS_ok h),by unfold clM;rw [mostS_i,mostS_i]⟩
theorem clL_ok {ts:List Tk} (W:Wds ts) (d:Nat): ∀(m:Nat) (more:Bool) (b:List T) (g:List Gu) (s:St),SOk ts s→SOk ts (clL ts d m more b g s).2.2∧s.i≤(clL ts d m more b g s).2.2.i
 |0,_,b,g,s,h=>⟨h,Nat.le_refl _⟩
 |m+1,more,b,g,s,h=>by
  rw [clL];split
  ·obtain ⟨k1,k2⟩:=clB_ok (d:=d) (b:=b) (g:=g) W h
   obtain ⟨k3,k4⟩:=clM_ok (p:=(tkS ts s).p) k1
   obtain ⟨k5,k6⟩:=clL_ok W d m (takeS ts [44] (clM ts (tkS ts s).p (clB ts d b g s))) (clB ts d b g s).1 (clB ts d b g s).2.1 _ (goS_ok (c:= [44]) W.Nx k3)
   have:=goS_i ts [44] (clM ts (tkS ts s).p (clB ts d b g s))
   exact ⟨k5,by omega⟩
  ·exact ⟨h,Nat.le_refl _⟩
set_option maxHeartbeats 4000000 in
theorem fx_clause {h:Hp} {l:Nat} (hl:l<h.n) {ts:List Tk} (W:Wds ts) {s:St} (hs:SOk ts s) {d:Nat} (hd:d≤100) (hb:h.bk l=rdX ts s (d:Nat)) (t:T):
  Fn Tryz.prog 97 [.ptr l 0,t.avf] h (clauseS ts d t s).1.avf ⟨h.n,updB h.bk l (rdX ts (clauseS ts d t s).2 (d:Nat))⟩:=by
 have n0: ¬l=h.n:=by omega
 have n1: ¬l=h.n+1:=by omega
 have n2: ¬l=h.n+2:=by omega
 have m0: ¬h.n=l:=by omega
 have m1: ¬h.n+1=l:=by omega
 have m2: ¬h.n+2=l:=by omega
 have p0: ¬h.n=h.n+1:=by omega
 have p1: ¬h.n+1=h.n:=by omega
 have p2: ¬h.n=h.n+2:=by omega
 have p3: ¬h.n+2=h.n:=by omega
 have p4: ¬h.n+1=h.n+2:=by omega
 have p5: ¬h.n+2=h.n+1:=by omega
 unfold clauseS
 obtain ⟨ta,tb,tc,te⟩:=t
 rw [avf_mk]
 refine fnC mixed Tryz.func97 c97 (by simp) ?_
 simp only [go_sem,seval,n0,n1,n2,m0,m1,m2,p0,p1,p2,p3,p4,p5]
 refine ccall (fx_take (l:=l) (ts:=ts) (s:=s) (d:=(d:Int)) (by simp;omega) W hs (by simp [bk_apply,n0,n1,n2,hb]) [58,45]) (by simp only [go_sem,seval]) ?_
 have h1:=goS_ok (c:= [58,45]) W.Nx hs
 have hmi:takeS ts [58,45] s=true→1≤(goS ts [58,45] s).i:=fun e=>by have:=goS_lt e;omega
 generalize goS ts [58,45] s=s1 at *
 generalize takeS ts [58,45] s=mo at *
 simp only [go_sem,seval]
 generalize hG:clL ts d ts.length mo [] [] s1=G
 refine cloop (fun m u=> ∃(more:Bool) (b:List T) (g:List Gu) (s:St),SOk ts s∧(more=true→ts.length≤m+s.i∧b.length≤s.i∧g.length≤s.i)∧u.fr 0= .ptr l 0∧u.fr 4= .ptr (h.n+1) 0∧u.fr 5= .ptr (h.n+2) 0∧u.fr 6= .bool more∧h.n+3≤u.hp.n∧u.hp.bk l=rdX ts s d∧
  u.hp.bk (h.n+2)= .cells [.int .i64 ta, .str tb, .int .i64 tc, .sl (flS te) 4 (te.map T.avf), .sl (flT b) 4 (b.map T.avf), .sl (flGo g) 9 (g.map Gu.avf)]∧
  u.hp.bk (h.n+1)= .cells [.int .i64 0, .str [], .int .i64 0, .sl .full 4 [], .sl .full 4 [], .sl .full 9 []]∧(∀q,q<h.n→q≠l→u.hp.bk q=h.bk q)∧clL ts d m more b g s=G) ts.length
  ⟨mo, [], [],s1,h1,fun e=>⟨by omega,by simp,by simp⟩,by simp [fr_apply,argsF],by simp [fr_apply],by simp [fr_apply],by simp [fr_apply],by simp,by simp [bk_apply],by simp [bk_apply,m2,flT,flGo],by simp [bk_apply,m1,p4],fun q hq hne=>by simp [bk_apply,hne,show q≠h.n by omega,show q≠h.n+1 by omega,show q≠h.n+2 by omega],hG⟩ ?_
 clear hG h1 hmi
 rintro m ⟨F,hp⟩ ⟨more,b,g,s,hs,hm,f0,f4,f5,f6,hn,hb1,hb3,hb2,hbo,hG⟩
 simp only at f0 f4 f5 f6 hn hb1 hb2 hb3 hbo
 have hi:=hs.1
 have q0: ¬l=hp.n:=by omega
 have q1: ¬hp.n=l:=by omega
 have q2: ¬h.n+1=hp.n:=by omega
 have q3: ¬hp.n=h.n+1:=by omega
 have q4: ¬h.n+2=hp.n:=by omega
 have q5: ¬hp.n=h.n+2:=by omega
 cases more with
 |false=>
  have hG' :(b,g,s)=G:=by rw [←hG];cases m<;>rfl
  subst hG'
  simp only [go_sem,seval,f0,f4,f5,f6]
  refine ccall (fx_need (l:=l) (ts:=ts) (s:=s) (d:=(d:Int)) (by simp only;omega) W hs (by simp only;exact hb1) [46]) (by simp only [go_sem,seval,f0]) ?_
  simp only [go_sem,seval,f0,f4,f5,f6,hb3,hb2,n1,n2,m1,m2,p4,p5]
  exact ⟨rfl,lab_cl _ _,shrink_rX (by simp only;omega) (fun q hq hne=>by simp [bk_apply,hne,show q≠h.n+1 by omega];exact hbo q hq hne) (by simp [bk_apply,n1])⟩
 |true=>
  obtain ⟨hm1,hm2,hm3⟩:=hm rfl
  obtain ⟨m,rfl⟩: ∃m',m=m' +1:=⟨m-1,by omega⟩
  rw [clL] at hG
  simp only [go_sem,seval,f0,f4,f5,f6]
  refine ccall (fx_ok (l:=l) (ts:=ts) (s:=s) (d:=(d:Int)) (by simp only;omega) hs (by simp only;exact hb1)) (by simp only [go_sem,seval,f0]) ?_
  cases hno:s.er.isNone with
  |false=>
   rw [hno,if_neg (by simp)] at hG
   subst hG
   simp only [go_sem,seval,f0,f4,f5,f6]
   refine ccall (fx_need (l:=l) (ts:=ts) (s:=s) (d:=(d:Int)) (by simp only;omega) W hs (by simp only;exact hb1) [46]) (by simp only [go_sem,seval,f0]) ?_
   simp only [go_sem,seval,f0,f4,f5,f6,hb3,hb2,n1,n2,m1,m2,p4,p5]
   exact ⟨rfl,lab_cl _ _,shrink_rX (by simp only;omega) (fun q hq hne=>by simp [bk_apply,hne,show q≠h.n+1 by omega];exact hbo q hq hne) (by simp [bk_apply,n1])⟩
  |true=>
   rw [hno,if_pos (show (true&&true)=true from rfl)] at hG
   have hT: ∀H:Hp,l<H.n→H.bk l=rdX ts s d→Fn Tryz.prog 48 [.ptr l 0] H (.agg [.int .i64 (tkS ts s).k, .str (tkS ts s).s, .int .i64 (tkS ts s).n, .int .i64 ((tkS ts s).p:Nat)]) H:=fun H a b=>fx_token (h:=H) a hs b
   generalize tkS ts s=tk at hT hG
   simp only [go_sem,seval,f0,f4,f5,f6]
   refine ccall (hT _ (by simp only;omega) (by simp only;exact hb1)) (by simp only [go_sem,seval,f0]) ?_
   simp only [go_sem,seval,f0,f4,f5,f6]
   refine ccall (fx_term (l:=l) (ts:=ts) (s:=s) (by simp only;omega) W hs (d:=d) hd (by simp only;exact hb1)) (by simp only [go_sem,seval,f0]) ?_
   have h2:=tmS_ok (d:=d) W hs
   have h2i:=tmS_i ts d s
   unfold clB at hG
   generalize tmS ts d s=R at *
   obtain ⟨⟨a',b',c',e'⟩,s2⟩:=R
   simp only at h2 h2i hG ⊢
   have hbi:b.length<1000000000:=by have:=W.len;omega
   have hgi:g.length<1000000000:=by have:=W.len;omega
   simp only [go_sem,seval,f0,f4,f5,f6,q0,q1,q2,q3,q4,q5]
   refine ccall (fx_ok (l:=l) (ts:=ts) (s:=s2) (d:=(d:Int)) (by simp;omega) h2 (by simp [bk_apply,q0,q1])) (by simp only [go_sem,seval,f0]) ?_
   cases hn2:s2.er.isNone with
   |false=>
    rw [hn2,if_neg (by simp)] at hG
    simp only [avf_mk]
    cases b with
    |nil=>
     have fl0:flT []= .full:=rfl
     rw [fl0] at hb3
     have a1:1 * 56≤140737488355328:=by omega
     have a2:0≤9223372036854775805:=by omega
     simp only [go_sem,seval,f0,f4,f5,f6,hb3,q0,q1,q2,q3,q4,q5,m1,m2,n1,n2,p4,p5,a1,a2]
     have h3:SOk ts (mostS (((([]:List T)++ [T.mk a' b' c' e']).length:Nat):Int) 3 tk.p s2):=mostS_ok h2
     refine ccall (fx_most (l:=l) (ts:=ts) (s:=s2) (d:=(d:Int)) (by simp;omega) h2 (by simp [bk_apply,q0,q1,n1,n2,m2]) (((([]:List T)++ [T.mk a' b' c' e']).length:Nat):Int) 3 tk.p) (by simp only [go_sem,seval]<;>simp) ?_
     simp only [go_sem,seval,f0,f4,f5,f6,q0,q1,q2,q3,q4,q5,m1,m2,n1,n2,p4,p5]
     refine ccall (fx_most (l:=l) (ts:=ts) (s:=mostS (((([]:List T)++ [T.mk a' b' c' e']).length:Nat):Int) 3 tk.p s2) (d:=(d:Int)) (by simp;omega) h3 (by simp [bk_apply,q0,q1,n1,n2,m2]) (((g).length:Nat):Int) 4 tk.p) (by simp only [go_sem,seval]<;>simp) ?_
     have h4:SOk ts (clM ts tk.p (([]:List T)++ [T.mk a' b' c' e'],g,s2)):=(clM_ok (p:=tk.p) (x:=(([]:List T)++ [T.mk a' b' c' e'],g,s2)) h2).1
     have h4i:(clM ts tk.p (([]:List T)++ [T.mk a' b' c' e'],g,s2)).i=(s2).i:=(clM_ok (p:=tk.p) (x:=(([]:List T)++ [T.mk a' b' c' e'],g,s2)) h2).2
     rw [show mostS (((g).length:Nat):Int) 4 tk.p (mostS (((([]:List T)++ [T.mk a' b' c' e']).length:Nat):Int) 3 tk.p s2)=clM ts tk.p (([]:List T)++ [T.mk a' b' c' e'],g,s2) from rfl]
     generalize clM ts tk.p (([]:List T)++ [T.mk a' b' c' e'],g,s2)=s4 at *
     simp only [go_sem,seval,f0,f4,f5,f6,q0,q1,q2,q3,q4,q5,m1,m2,n1,n2,p4,p5]
     refine ccall (fx_take (l:=l) (ts:=ts) (s:=s4) (d:=(d:Int)) (by simp;omega) W h4 (by simp [bk_apply,q0,q1,n1,n2,m2]) [44]) (by simp only [go_sem,seval,f0]) ?_
     have h5:=goS_ok (c:= [44]) W.Nx h4
     have h5i:takeS ts [44] s4=true→s4.i<(goS ts [44] s4).i:=goS_lt
     generalize takeS ts [44] s4=mo2 at *
     generalize goS ts [44] s4=s5 at *
     simp only [go_sem,seval,f0,f4,f5,f6,q0,q1,q2,q3,q4,q5,m1,m2,n1,n2,p4,p5]
     exact ⟨m,by omega,mo2,([]:List T)++ [T.mk a' b' c' e'],g,s5,h5,fun e=>⟨by have:=h5i e;omega,by have:=h5i e;simp at hm2 ⊢;omega,by have:=h5i e;simp at hm3 ⊢;omega⟩,rfl,by omega,rfl,by simp [flT,flGo,avf_mk],hb2,fun q hq hne=>by simp [hne,show q≠h.n+2 by omega,show q≠hp.n by omega];exact hbo q hq hne,hG⟩
    |cons y b=>
     have fl0:flT (y::b)= .own:=rfl
     rw [fl0] at hb3
     have a1:(b.length+2) * 56≤140737488355328:=by simp at hbi;omega
     have a2:b.length≤9223372036854775805:=by simp at hbi;omega
     simp only [go_sem,seval,f0,f4,f5,f6,hb3,q0,q1,q2,q3,q4,q5,m1,m2,n1,n2,p4,p5,a1,a2]
     have h3:SOk ts (mostS ((((y::b)++ [T.mk a' b' c' e']).length:Nat):Int) 3 tk.p s2):=mostS_ok h2
     refine ccall (fx_most (l:=l) (ts:=ts) (s:=s2) (d:=(d:Int)) (by simp;omega) h2 (by simp [bk_apply,q0,q1,n1,n2,m2]) ((((y::b)++ [T.mk a' b' c' e']).length:Nat):Int) 3 tk.p) (by simp only [go_sem,seval]<;>simp) ?_
     simp only [go_sem,seval,f0,f4,f5,f6,q0,q1,q2,q3,q4,q5,m1,m2,n1,n2,p4,p5]
     refine ccall (fx_most (l:=l) (ts:=ts) (s:=mostS ((((y::b)++ [T.mk a' b' c' e']).length:Nat):Int) 3 tk.p s2) (d:=(d:Int)) (by simp;omega) h3 (by simp [bk_apply,q0,q1,n1,n2,m2]) (((g).length:Nat):Int) 4 tk.p) (by simp only [go_sem,seval]<;>simp) ?_
     have h4:SOk ts (clM ts tk.p ((y::b)++ [T.mk a' b' c' e'],g,s2)):=(clM_ok (p:=tk.p) (x:=((y::b)++ [T.mk a' b' c' e'],g,s2)) h2).1
     have h4i:(clM ts tk.p ((y::b)++ [T.mk a' b' c' e'],g,s2)).i=(s2).i:=(clM_ok (p:=tk.p) (x:=((y::b)++ [T.mk a' b' c' e'],g,s2)) h2).2
     rw [show mostS (((g).length:Nat):Int) 4 tk.p (mostS ((((y::b)++ [T.mk a' b' c' e']).length:Nat):Int) 3 tk.p s2)=clM ts tk.p ((y::b)++ [T.mk a' b' c' e'],g,s2) from rfl]
     generalize clM ts tk.p ((y::b)++ [T.mk a' b' c' e'],g,s2)=s4 at *
     simp only [go_sem,seval,f0,f4,f5,f6,q0,q1,q2,q3,q4,q5,m1,m2,n1,n2,p4,p5]
     refine ccall (fx_take (l:=l) (ts:=ts) (s:=s4) (d:=(d:Int)) (by simp;omega) W h4 (by simp [bk_apply,q0,q1,n1,n2,m2]) [44]) (by simp only [go_sem,seval,f0]) ?_
     have h5:=goS_ok (c:= [44]) W.Nx h4
     have h5i:takeS ts [44] s4=true→s4.i<(goS ts [44] s4).i:=goS_lt
     generalize takeS ts [44] s4=mo2 at *
     generalize goS ts [44] s4=s5 at *
     simp only [go_sem,seval,f0,f4,f5,f6,q0,q1,q2,q3,q4,q5,m1,m2,n1,n2,p4,p5]
     exact ⟨m,by omega,mo2,(y::b)++ [T.mk a' b' c' e'],g,s5,h5,fun e=>⟨by have:=h5i e;omega,by have:=h5i e;simp at hm2 ⊢;omega,by have:=h5i e;simp at hm3 ⊢;omega⟩,rfl,by omega,rfl,by simp [flT,flGo,avf_mk],hb2,fun q hq hne=>by simp [hne,show q≠h.n+2 by omega,show q≠hp.n by omega];exact hbo q hq hne,hG⟩
   |true=>
    have hO:=fnl_op (tkS ts s2)
    unfold Tk.av at hO
    have hT2: ∀H:Hp,l<H.n→H.bk l=rdX ts s2 d→Fn Tryz.prog 48 [.ptr l 0] H (.agg [.int .i64 (tkS ts s2).k, .str (tkS ts s2).s, .int .i64 (tkS ts s2).n, .int .i64 ((tkS ts s2).p:Nat)]) H:=fun H a b=>fx_token (h:=H) a h2 b
    generalize htk2:tkS ts s2=tk2 at hO hT2 hG
    simp only [go_sem,seval,f0,f4,f5,f6,q0,q1,q2,q3,q4,q5]
    refine ccall (hT2 _ (by simp;omega) (by simp [bk_apply,q0,q1])) (by simp only [go_sem,seval,f0]) ?_
    simp only [go_sem,seval]
    refine pcall hO (by simp only [go_sem,seval]) ?_
    by_cases hop:opI tk2=0
    ·have hop' :(opI tk2 !=0)=false:=by simpa [bne] using hop
     rw [hn2,if_neg (by simp [hop])] at hG
     simp only [avf_mk]
     cases b with
     |nil=>
      have fl0:flT []= .full:=rfl
      rw [fl0] at hb3
      have a1:1 * 56≤140737488355328:=by omega
      have a2:0≤9223372036854775805:=by omega
      simp only [go_sem,seval,f0,f4,f5,f6,hop']
      simp only [go_sem,seval,f0,f4,f5,f6,hb3,q0,q1,q2,q3,q4,q5,m1,m2,n1,n2,p4,p5,a1,a2]
      have h3:SOk ts (mostS (((([]:List T)++ [T.mk a' b' c' e']).length:Nat):Int) 3 tk.p s2):=mostS_ok h2
      refine ccall (fx_most (l:=l) (ts:=ts) (s:=s2) (d:=(d:Int)) (by simp;omega) h2 (by simp [bk_apply,q0,q1,n1,n2,m2]) (((([]:List T)++ [T.mk a' b' c' e']).length:Nat):Int) 3 tk.p) (by simp only [go_sem,seval]<;>simp) ?_
      simp only [go_sem,seval,f0,f4,f5,f6,q0,q1,q2,q3,q4,q5,m1,m2,n1,n2,p4,p5]
      refine ccall (fx_most (l:=l) (ts:=ts) (s:=mostS (((([]:List T)++ [T.mk a' b' c' e']).length:Nat):Int) 3 tk.p s2) (d:=(d:Int)) (by simp;omega) h3 (by simp [bk_apply,q0,q1,n1,n2,m2]) (((g).length:Nat):Int) 4 tk.p) (by simp only [go_sem,seval]<;>simp) ?_
      have h4:SOk ts (clM ts tk.p (([]:List T)++ [T.mk a' b' c' e'],g,s2)):=(clM_ok (p:=tk.p) (x:=(([]:List T)++ [T.mk a' b' c' e'],g,s2)) h2).1
      have h4i:(clM ts tk.p (([]:List T)++ [T.mk a' b' c' e'],g,s2)).i=(s2).i:=(clM_ok (p:=tk.p) (x:=(([]:List T)++ [T.mk a' b' c' e'],g,s2)) h2).2
      rw [show mostS (((g).length:Nat):Int) 4 tk.p (mostS (((([]:List T)++ [T.mk a' b' c' e']).length:Nat):Int) 3 tk.p s2)=clM ts tk.p (([]:List T)++ [T.mk a' b' c' e'],g,s2) from rfl]
      generalize clM ts tk.p (([]:List T)++ [T.mk a' b' c' e'],g,s2)=s4 at *
      simp only [go_sem,seval,f0,f4,f5,f6,q0,q1,q2,q3,q4,q5,m1,m2,n1,n2,p4,p5]
      refine ccall (fx_take (l:=l) (ts:=ts) (s:=s4) (d:=(d:Int)) (by simp;omega) W h4 (by simp [bk_apply,q0,q1,n1,n2,m2]) [44]) (by simp only [go_sem,seval,f0]) ?_
      have h5:=goS_ok (c:= [44]) W.Nx h4
      have h5i:takeS ts [44] s4=true→s4.i<(goS ts [44] s4).i:=goS_lt
      generalize takeS ts [44] s4=mo2 at *
      generalize goS ts [44] s4=s5 at *
      simp only [go_sem,seval,f0,f4,f5,f6,q0,q1,q2,q3,q4,q5,m1,m2,n1,n2,p4,p5]
      exact ⟨m,by omega,mo2,([]:List T)++ [T.mk a' b' c' e'],g,s5,h5,fun e=>⟨by have:=h5i e;omega,by have:=h5i e;simp at hm2 ⊢;omega,by have:=h5i e;simp at hm3 ⊢;omega⟩,rfl,by omega,rfl,by simp [flT,flGo,avf_mk],hb2,fun q hq hne=>by simp [hne,show q≠h.n+2 by omega,show q≠hp.n by omega];exact hbo q hq hne,hG⟩
     |cons y b=>
      have fl0:flT (y::b)= .own:=rfl
      rw [fl0] at hb3
      have a1:(b.length+2) * 56≤140737488355328:=by simp at hbi;omega
      have a2:b.length≤9223372036854775805:=by simp at hbi;omega
      simp only [go_sem,seval,f0,f4,f5,f6,hop']
      simp only [go_sem,seval,f0,f4,f5,f6,hb3,q0,q1,q2,q3,q4,q5,m1,m2,n1,n2,p4,p5,a1,a2]
      have h3:SOk ts (mostS ((((y::b)++ [T.mk a' b' c' e']).length:Nat):Int) 3 tk.p s2):=mostS_ok h2
      refine ccall (fx_most (l:=l) (ts:=ts) (s:=s2) (d:=(d:Int)) (by simp;omega) h2 (by simp [bk_apply,q0,q1,n1,n2,m2]) ((((y::b)++ [T.mk a' b' c' e']).length:Nat):Int) 3 tk.p) (by simp only [go_sem,seval]<;>simp) ?_
      simp only [go_sem,seval,f0,f4,f5,f6,q0,q1,q2,q3,q4,q5,m1,m2,n1,n2,p4,p5]
      refine ccall (fx_most (l:=l) (ts:=ts) (s:=mostS ((((y::b)++ [T.mk a' b' c' e']).length:Nat):Int) 3 tk.p s2) (d:=(d:Int)) (by simp;omega) h3 (by simp [bk_apply,q0,q1,n1,n2,m2]) (((g).length:Nat):Int) 4 tk.p) (by simp only [go_sem,seval]<;>simp) ?_
      have h4:SOk ts (clM ts tk.p ((y::b)++ [T.mk a' b' c' e'],g,s2)):=(clM_ok (p:=tk.p) (x:=((y::b)++ [T.mk a' b' c' e'],g,s2)) h2).1
      have h4i:(clM ts tk.p ((y::b)++ [T.mk a' b' c' e'],g,s2)).i=(s2).i:=(clM_ok (p:=tk.p) (x:=((y::b)++ [T.mk a' b' c' e'],g,s2)) h2).2
      rw [show mostS (((g).length:Nat):Int) 4 tk.p (mostS ((((y::b)++ [T.mk a' b' c' e']).length:Nat):Int) 3 tk.p s2)=clM ts tk.p ((y::b)++ [T.mk a' b' c' e'],g,s2) from rfl]
      generalize clM ts tk.p ((y::b)++ [T.mk a' b' c' e'],g,s2)=s4 at *
      simp only [go_sem,seval,f0,f4,f5,f6,q0,q1,q2,q3,q4,q5,m1,m2,n1,n2,p4,p5]
      refine ccall (fx_take (l:=l) (ts:=ts) (s:=s4) (d:=(d:Int)) (by simp;omega) W h4 (by simp [bk_apply,q0,q1,n1,n2,m2]) [44]) (by simp only [go_sem,seval,f0]) ?_
      have h5:=goS_ok (c:= [44]) W.Nx h4
      have h5i:takeS ts [44] s4=true→s4.i<(goS ts [44] s4).i:=goS_lt
      generalize takeS ts [44] s4=mo2 at *
      generalize goS ts [44] s4=s5 at *
      simp only [go_sem,seval,f0,f4,f5,f6,q0,q1,q2,q3,q4,q5,m1,m2,n1,n2,p4,p5]
      exact ⟨m,by omega,mo2,(y::b)++ [T.mk a' b' c' e'],g,s5,h5,fun e=>⟨by have:=h5i e;omega,by have:=h5i e;simp at hm2 ⊢;omega,by have:=h5i e;simp at hm3 ⊢;omega⟩,rfl,by omega,rfl,by simp [flT,flGo,avf_mk],hb2,fun q hq hne=>by simp [hne,show q≠h.n+2 by omega,show q≠hp.n by omega];exact hbo q hq hne,hG⟩
    ·have hop' :(opI tk2 !=0)=true:=by simpa [bne] using hop
     have hC:=fun (H:Hp) (a1:l<H.n) (a2:H.bk l=rdX ts s2 (d:Nat))=>fx_compared (h:=H) a1 W h2 hd a2 (T.mk a' b' c' e')
     obtain ⟨k1,k2⟩:=comparedS_ok (d:=d) (t:=T.mk a' b' c' e') W h2
     rw [hn2,if_pos ⟨rfl,hop⟩] at hG
     generalize comparedS ts d (T.mk a' b' c' e') s2=R at *
     obtain ⟨gu,s3⟩:=R
     simp only [avf_mk] at hC hG k1 k2 ⊢
     have hn4:hp.n+1=hp.n+1:=rfl
     cases g with
     |nil=>
      have fl0:flGo []= .full:=rfl
      rw [fl0] at hb3
      have a1:1 * 120≤140737488355328:=by omega
      have a2:0≤9223372036854775805:=by omega
      simp only [go_sem,seval,f0,f4,f5,f6,hop',hb3,q0,q1,q2,q3,q4,q5,m1,m2,n1,n2,p4,p5]
      refine ⟨?_, ?_, ?_⟩
      iterate 3
       ·skip
        refine ccallD rfl (hC _ (by simp;omega) (by simp [bk_apply,q0,q1,n1,n2,m2])) (by simp only [go_sem,seval,f0]) ?_
        simp only [go_sem,seval,f0,f4,f5,f6,hb3,q0,q1,q2,q3,q4,q5,m1,m2,n1,n2,p4,p5,a1,a2]
        have h3:SOk ts (mostS (((b).length:Nat):Int) 3 tk.p s3):=mostS_ok k1
        refine ccall (fx_most (l:=l) (ts:=ts) (s:=s3) (d:=(d:Int)) (by simp;omega) k1 (by simp [bk_apply,q0,q1,n1,n2,m2]) (((b).length:Nat):Int) 3 tk.p) (by simp only [go_sem,seval]<;>simp) ?_
        simp only [go_sem,seval,f0,f4,f5,f6,q0,q1,q2,q3,q4,q5,m1,m2,n1,n2,p4,p5]
        refine ccall (fx_most (l:=l) (ts:=ts) (s:=mostS (((b).length:Nat):Int) 3 tk.p s3) (d:=(d:Int)) (by simp;omega) h3 (by simp [bk_apply,q0,q1,n1,n2,m2]) (((([]:List Gu)++ [gu]).length:Nat):Int) 4 tk.p) (by simp only [go_sem,seval]<;>simp) ?_
        have h4:SOk ts (clM ts tk.p (b,([]:List Gu)++ [gu],s3)):=(clM_ok (p:=tk.p) (x:=(b,([]:List Gu)++ [gu],s3)) k1).1
        have h4i:(clM ts tk.p (b,([]:List Gu)++ [gu],s3)).i=(s3).i:=(clM_ok (p:=tk.p) (x:=(b,([]:List Gu)++ [gu],s3)) k1).2
        rw [show mostS (((([]:List Gu)++ [gu]).length:Nat):Int) 4 tk.p (mostS (((b).length:Nat):Int) 3 tk.p s3)=clM ts tk.p (b,([]:List Gu)++ [gu],s3) from rfl]
        generalize clM ts tk.p (b,([]:List Gu)++ [gu],s3)=s4 at *
        simp only [go_sem,seval,f0,f4,f5,f6,q0,q1,q2,q3,q4,q5,m1,m2,n1,n2,p4,p5]
        refine ccall (fx_take (l:=l) (ts:=ts) (s:=s4) (d:=(d:Int)) (by simp;omega) W h4 (by simp [bk_apply,q0,q1,n1,n2,m2]) [44]) (by simp only [go_sem,seval,f0]) ?_
        have h5:=goS_ok (c:= [44]) W.Nx h4
        have h5i:takeS ts [44] s4=true→s4.i<(goS ts [44] s4).i:=goS_lt
        generalize takeS ts [44] s4=mo2 at *
        generalize goS ts [44] s4=s5 at *
        simp only [go_sem,seval,f0,f4,f5,f6,q0,q1,q2,q3,q4,q5,m1,m2,n1,n2,p4,p5]
        exact ⟨m,by omega,mo2,b,([]:List Gu)++ [gu],s5,h5,fun e=>⟨by have:=h5i e;omega,by have:=h5i e;simp at hm2 ⊢;omega,by have:=h5i e;simp at hm3 ⊢;omega⟩,rfl,by omega,rfl,by simp [flT,flGo,avf_mk],hb2,fun q hq hne=>by simp [hne,show q≠h.n+2 by omega,show q≠hp.n by omega];exact hbo q hq hne,hG⟩
     |cons z g=>
      have fl0:flGo (z::g)= .own:=rfl
      rw [fl0] at hb3
      have a1:(g.length+2) * 120≤140737488355328:=by simp at hgi;omega
      have a2:g.length≤9223372036854775805:=by simp at hgi;omega
      simp only [go_sem,seval,f0,f4,f5,f6,hop',hb3,q0,q1,q2,q3,q4,q5,m1,m2,n1,n2,p4,p5]
      refine ⟨?_, ?_, ?_⟩
      iterate 3
       ·skip
        refine ccallD rfl (hC _ (by simp;omega) (by simp [bk_apply,q0,q1,n1,n2,m2])) (by simp only [go_sem,seval,f0]) ?_
        simp only [go_sem,seval,f0,f4,f5,f6,hb3,q0,q1,q2,q3,q4,q5,m1,m2,n1,n2,p4,p5,a1,a2]
        have h3:SOk ts (mostS (((b).length:Nat):Int) 3 tk.p s3):=mostS_ok k1
        refine ccall (fx_most (l:=l) (ts:=ts) (s:=s3) (d:=(d:Int)) (by simp;omega) k1 (by simp [bk_apply,q0,q1,n1,n2,m2]) (((b).length:Nat):Int) 3 tk.p) (by simp only [go_sem,seval]<;>simp) ?_
        simp only [go_sem,seval,f0,f4,f5,f6,q0,q1,q2,q3,q4,q5,m1,m2,n1,n2,p4,p5]
        refine ccall (fx_most (l:=l) (ts:=ts) (s:=mostS (((b).length:Nat):Int) 3 tk.p s3) (d:=(d:Int)) (by simp;omega) h3 (by simp [bk_apply,q0,q1,n1,n2,m2]) ((((z::g)++ [gu]).length:Nat):Int) 4 tk.p) (by simp only [go_sem,seval]<;>simp) ?_
        have h4:SOk ts (clM ts tk.p (b,(z::g)++ [gu],s3)):=(clM_ok (p:=tk.p) (x:=(b,(z::g)++ [gu],s3)) k1).1
        have h4i:(clM ts tk.p (b,(z::g)++ [gu],s3)).i=(s3).i:=(clM_ok (p:=tk.p) (x:=(b,(z::g)++ [gu],s3)) k1).2
        rw [show mostS ((((z::g)++ [gu]).length:Nat):Int) 4 tk.p (mostS (((b).length:Nat):Int) 3 tk.p s3)=clM ts tk.p (b,(z::g)++ [gu],s3) from rfl]
        generalize clM ts tk.p (b,(z::g)++ [gu],s3)=s4 at *
        simp only [go_sem,seval,f0,f4,f5,f6,q0,q1,q2,q3,q4,q5,m1,m2,n1,n2,p4,p5]
        refine ccall (fx_take (l:=l) (ts:=ts) (s:=s4) (d:=(d:Int)) (by simp;omega) W h4 (by simp [bk_apply,q0,q1,n1,n2,m2]) [44]) (by simp only [go_sem,seval,f0]) ?_
        have h5:=goS_ok (c:= [44]) W.Nx h4
        have h5i:takeS ts [44] s4=true→s4.i<(goS ts [44] s4).i:=goS_lt
        generalize takeS ts [44] s4=mo2 at *
        generalize goS ts [44] s4=s5 at *
        simp only [go_sem,seval,f0,f4,f5,f6,q0,q1,q2,q3,q4,q5,m1,m2,n1,n2,p4,p5]
        exact ⟨m,by omega,mo2,b,(z::g)++ [gu],s5,h5,fun e=>⟨by have:=h5i e;omega,by have:=h5i e;simp at hm2 ⊢;omega,by have:=h5i e;simp at hm3 ⊢;omega⟩,rfl,by omega,rfl,by simp [flT,flGo,avf_mk],hb2,fun q hq hne=>by simp [hne,show q≠h.n+2 by omega,show q≠hp.n by omega];exact hbo q hq hne,hG⟩
end Go.Proofs.YtnibelnjflhkgaaGreatDoor.Ab

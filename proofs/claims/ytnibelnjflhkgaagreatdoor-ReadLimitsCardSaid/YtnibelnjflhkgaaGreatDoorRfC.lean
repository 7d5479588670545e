/- What a term read is like; a term, and a text that is one. No condition. The program's reader: a term, begun, ended, a text that is a term. No condition. The document's reader: a term, the end, a text that is a term. No condition. -/
import Derived.Test.YtnibelnjflhkgaaGreatDoorRfB
namespace Go.Proofs.YtnibelnjflhkgaaGreatDoor.Ab
set_option linter.unusedVariables false
set_option linter.unusedSimpArgs false
theorem shutG_none {k:List UInt8} {x:List T×Nat×Er} {r:List Tk} (h:(shutG k x r).2.2=none):x.2.2=none∧(shutG k x r).1= .mk 3 k 0 x.1:=by
 obtain ⟨l,n,er⟩:=x
 cases er with
 |some e=>cases h
 |none=>
  cases hm:isM [41] r with
  |true=>rw [shutG_t hm];exact ⟨rfl,rfl⟩
  |false=>rw [shutG_f hm] at h;cases h
theorem gTL_ok (z:List T×Nat) (f:Nat) (hf:f<1000000000000000):(∀d ts,(gT z f d ts).2.2=none→(∀k∈ts,k.s.length<1000000000)→(gT z f d ts).1.ok)∧
  (∀d ts,(gL z f d ts).2.2=none→(∀k∈ts,k.s.length<1000000000)→(∀t∈(gL z f d ts).1,t.ok)∧(gL z f d ts).1.length≤f):=by
 induction f with
 |zero=>exact ⟨fun d ts h=>(by rw [gT] at h;cases h),fun d ts h=>(by rw [gL] at h;cases h)⟩
 |succ f ih=>
  have ih:=ih (by omega)
  refine ⟨fun d ts h hs=> ?_,fun d ts h hs=> ?_⟩
  ·cases ts with
   |nil=>rw [gT] at h;cases h
   |cons k r=>
    have hk:=hs k (by simp)
    by_cases c2:k.k=2
    ·rw [gT_var c2,ok_mk];exact ⟨by simp,by omega,by simp⟩
    by_cases c3:k.k=3
    ·rw [gT_num c3,ok_mk];exact ⟨by simp,by simp,by simp⟩
    by_cases c1:k.k=1
    ·cases hm:isM [40] r with
     |false=>rw [gT_atom c1 hm,ok_mk];exact ⟨by simp,by omega,by simp⟩
     |true=>
      by_cases hd:d=100
      ·subst hd;rw [gT_deep c1 hm] at h;cases h
      ·rw [gT_row c1 hm hd] at h ⊢
       obtain ⟨h1,h2⟩:=shutG_none h
       obtain ⟨h3,h4⟩:=ih.2 (d+1) (r.drop 1) h1 (fun k hk=>hs k (List.mem_cons_of_mem _ (List.mem_of_mem_drop hk)))
       rw [h2,ok_mk]
       exact ⟨by omega,by omega,h3⟩
    ·rw [gT_non c1 c2 c3] at h;cases h
  ·cases he:(gT z f d ts).2.2 with
   |some e=>rw [gL_bad he] at h;cases h
   |none=>
    have hT:=ih.1 d ts he hs
    cases hm:isM [44] (ts.drop (gT z f d ts).2.1) with
    |false=>rw [gL_end he hm];exact ⟨fun t ht=>by simp at ht;subst ht;exact hT,by simp⟩
    |true=>
     rw [gL_more he hm] at h ⊢
     obtain ⟨h3,h4⟩:=ih.2 d _ h (fun k hk=>hs k (List.mem_of_mem_drop hk))
     refine ⟨fun t ht=> ?_,by simp only [List.length_cons];omega⟩
     rcases List.mem_cons.1 ht with rfl|ht
     ·exact hT
     ·exact h3 t ht
theorem gTL_z (z z' :List T×Nat) (f:Nat):(∀d ts,(gT z f d ts).2.2=(gT z' f d ts).2.2∧((gT z f d ts).2.2=none→gT z f d ts=gT z' f d ts))∧
  (∀d ts,(gL z f d ts).2.2=(gL z' f d ts).2.2∧((gL z f d ts).2.2=none→gL z f d ts=gL z' f d ts)):=by
 induction f with
 |zero=>exact ⟨fun d ts=>(by rw [gT,gT];exact ⟨rfl,fun _=>rfl⟩),fun d ts=>(by rw [gL,gL];exact ⟨rfl,fun _=>rfl⟩)⟩
 |succ f ih=>
  refine ⟨fun d ts=> ?_,fun d ts=> ?_⟩
  ·cases ts with
   |nil=>rw [gT,gT];exact ⟨rfl,fun _=>rfl⟩
   |cons k r=>
    by_cases c2:k.k=2
    ·rw [gT_var c2,gT_var c2];exact ⟨rfl,fun _=>rfl⟩
    by_cases c3:k.k=3
    ·rw [gT_num c3,gT_num c3];exact ⟨rfl,fun _=>rfl⟩
    by_cases c1:k.k=1
    ·cases hm:isM [40] r with
     |false=>rw [gT_atom c1 hm,gT_atom c1 hm];exact ⟨rfl,fun _=>rfl⟩
     |true=>
      by_cases hd:d=100
      ·subst hd;rw [gT_deep c1 hm,gT_deep c1 hm];exact ⟨rfl,fun h=>by cases h⟩
      ·rw [gT_row c1 hm hd,gT_row c1 hm hd]
       obtain ⟨h1,h2⟩:=ih.2 (d+1) (r.drop 1)
       cases he:(gL z f (d+1) (r.drop 1)).2.2 with
       |some e=>
        have he' :=h1.symm.trans he
        unfold shutG
        rw [he,he']
        exact ⟨rfl,fun h=>by cases h⟩
       |none=>rw [h2 he];exact ⟨rfl,fun _=>rfl⟩
    ·rw [gT_non c1 c2 c3,gT_non c1 c2 c3];exact ⟨rfl,fun _=>rfl⟩
  ·obtain ⟨h1,h2⟩:=ih.1 d ts
   cases he:(gT z f d ts).2.2 with
   |some e=>rw [gL_bad he,gL_bad (h1.symm.trans he)];exact ⟨rfl,fun h=>by cases h⟩
   |none=>
    have e1:=h2 he
    have he' :=h1.symm.trans he
    cases hm:isM [44] (ts.drop (gT z f d ts).2.1) with
    |false=>rw [gL_end he hm,gL_end he' (by rw [←e1];exact hm),e1];exact ⟨rfl,fun _=>rfl⟩
    |true=>
     rw [gL_more he hm,gL_more he' (by rw [←e1];exact hm), ←e1]
     obtain ⟨h3,h4⟩:=ih.2 d (ts.drop ((gT z f d ts).2.1+1))
     exact ⟨h3,fun h=>by rw [h4 h]⟩
def tmG (z:List T×Nat) (f d:Nat) (ts:List Tk):T×Nat×Er:=
 if (gT z f d ts).2.2=none∧mayB (gT z f d ts).1=false then ((gT z f d ts).1,(gT z f d ts).2.1,some (2,headP ts)) else gT z f d ts
theorem tmG_err {z:List T×Nat} {f d:Nat} {ts:List Tk} {x:T} {n:Nat} {e:Int×Nat} (h:gT z f d ts=(x,n,some e)):tmG z f d ts=(x,n,some e):=by
 unfold tmG;rw [h];rfl
theorem tmG_may {z:List T×Nat} {f d:Nat} {ts:List Tk} {x:T} {n:Nat} (h:gT z f d ts=(x,n,none)) (hm:mayB x=true):tmG z f d ts=(x,n,none):=by
 unfold tmG;rw [h];simp [hm]
theorem tmG_not {z:List T×Nat} {f d:Nat} {ts:List Tk} {x:T} {n:Nat} (h:gT z f d ts=(x,n,none)) (hm:mayB x=false):tmG z f d ts=(x,n,some (2,headP ts)):=by
 unfold tmG;rw [h];simp [hm]
theorem tmG_z (z z' :List T×Nat) (f d:Nat) (ts:List Tk):(tmG z f d ts).2.2=(tmG z' f d ts).2.2∧((tmG z f d ts).2.2=none→tmG z f d ts=tmG z' f d ts):=by
 obtain ⟨h1,h2⟩:=(gTL_z z z' f).1 d ts
 obtain ⟨x,n,er,hx⟩: ∃x n er,gT z f d ts=(x,n,er):=⟨_,_,_,rfl⟩
 obtain ⟨x',n',er',hx'⟩: ∃x n er,gT z' f d ts=(x,n,er):=⟨_,_,_,rfl⟩
 rw [hx,hx'] at h1 h2
 simp only at h1 h2
 subst h1
 cases er with
 |some e=>rw [tmG_err hx,tmG_err hx'];exact ⟨rfl,fun h=>by cases h⟩
 |none=>
  have e:=h2 rfl
  cases e
  cases hm:mayB x with
  |true=>rw [tmG_may hx hm,tmG_may hx' hm];exact ⟨rfl,fun _=>rfl⟩
  |false=>rw [tmG_not hx hm,tmG_not hx' hm];exact ⟨rfl,fun _=>rfl⟩
def isE:List Tk→Bool|t::_=>t.k==5| []=>false
def endG (er:Er) (r:List Tk):Er:=match er with|some e=>some e|none=>if isE r then none else some (4,headP r)
theorem isE_get {ts:List Tk} {i:Nat} {t:Tk} (h:ts[i]? =some t):isE (ts.drop i)=(t.k==5):=by rw [drop_get h];rfl
end Go.Proofs.YtnibelnjflhkgaaGreatDoor.Ab
namespace Go.Proofs.YtnibelnjflhkgaaGreatDoor.Ab
set_option linter.unusedVariables false
set_option linter.unusedSimpArgs false
set_option maxRecDepth 10000
theorem c62:compF Tryz.prog ow Tryz.f62=(some (21,([(.c 2 (.agg 4))],(.seq (.ops [(none,(.alloc 2 [(.int .i64 0),(.str []),(.int .i64 0),(.sl .full 4 [])]))]) (.seq (.ops [(none,(.cp 5 0)),(none,(.call (some 6) (.k (.func 48 [] [])) [(.t 5)] none)),(none,(.fld (some 7) (.t 6) 3 (.one none))),(none,(.mv 3 7))]) (.seq (.ops [(none,(.cp 8 0)),(none,(.call (some 9) (.k (.func 112 [] [])) [(.t 8)] (some 100))),(none,(.alloc 4 [(.int .i64 0),(.str []),(.int .i64 0),(.sl .full 4 [])])),(none,(.st (.t 4) (.t 9) 4))]) (.seq (.seq (.ops [(none,(.cp 10 0)),(none,(.call (some 11) (.k (.func 47 [] [])) [(.t 10)] none)),(none,(.cp 12 11)),((some (12,true)),(.ld (some 13) (.t 4) (.agg 4))),((some (12,true)),(.call (some 14) (.k (.func 89 [] [])) [(.t 13)] none)),((some (12,true)),(.un (some 15) .not (.t 14))),(none,(.pick (some 16) (.t 12) (.t 15) (.k (.bool false))))]) (.cond (.t 16) (.ops [(none,(.cp 17 0)),(none,(.cp 18 3)),(none,(.call (some 19) (.k (.func 99 [] [])) [(.t 17),(.t 18),(.k (.int .i64 2))] none))]) .skip)) (.seq (.ops [(none,(.ld (some 20) (.t 4) (.agg 4))),(none,(.st (.t 2) (.t 20) 4))]) .ret)))))))):=by kernel_rfl
theorem c50:compF Tryz.prog ow Tryz.f50=(some (25,([(.t 2),(.t 3)],(.seq (.ops [(none,(.set 2 (.int .i64 0))),(none,(.set 3 (.int .i64 0)))]) (.seq (.seq (.ops [(none,(.cp 4 0)),(none,(.call (some 5) (.k (.func 47 [] [])) [(.t 4)] none)),(none,(.cp 6 5)),((some (6,true)),(.cp 7 0)),((some (6,true)),(.call (some 8) (.k (.func 48 [] [])) [(.t 7)] none)),((some (6,true)),(.fld (some 9) (.t 8) 0 (.one none))),((some (6,true)),(.bin (some 10) .neq (.t 9) (.k (.int .i64 5)) false false)),(none,(.pick (some 11) (.t 6) (.t 10) (.k (.bool false))))]) (.cond (.t 11) (.ops [(none,(.cp 12 0)),(none,(.cp 13 0)),(none,(.call (some 14) (.k (.func 48 [] [])) [(.t 13)] none)),(none,(.fld (some 15) (.t 14) 3 (.one none))),(none,(.call (some 16) (.k (.func 99 [] [])) [(.t 12),(.t 15),(.k (.int .i64 4))] none))]) .skip)) (.seq (.opsD [(none,(.cp 17 0)),(none,(.nil (some 18) (.t 17))),(none,(.fa (some 19) (.t 18) 3)),(none,(.ld (some 20) (.t 19) (.one none))),(none,(.cp 21 0)),(none,(.nil (some 22) (.t 21))),(none,(.fa (some 23) (.t 22) 4)),(none,(.ld (some 24) (.t 23) (.one none))),(none,(.mv 2 20)),(none,(.mv 3 24))]) .ret)))))):=by kernel_rfl
theorem c46:compF Tryz.prog ow Tryz.f46=(some (23,([(.t 2)],(.seq (.ops [(none,(.set 2 .pnil))]) (.seq (.ops [(none,(.cp 7 0)),(none,(.call (some 8) (.k (.func 94 [] [])) [(.t 7)] none)),(none,(.cp 6 8)),(none,(.ext (some 9) (.t 6) 0)),(none,(.ext (some 10) (.t 6) 1)),(none,(.ext (some 11) (.t 6) 2)),(none,(.mv 3 9)),(none,(.mv 4 10)),(none,(.mv 5 11))]) (.seq (.seq (.ops [(none,(.cp 12 5)),(none,(.bin (some 13) .neq (.t 12) (.k (.int .i64 0)) false false))]) (.cond (.t 13) (.seq (.ops [(none,(.bld (some 14) [(.int .i64 0),(.str []),(.int .i64 0),(.int .i64 0)] [(0,1),(1,1),(2,1),(3,1)] [(0,(.k (.int .i64 5)))])),(none,(.bs 15 4 [(.t 14)])),(none,(.cp 16 4)),(none,(.cp 17 5)),(none,(.bld (some 18) [(.sl .full 4 []),(.int .i64 0),(.int .i64 0),(.int .i64 0),(.int .i64 0)] [(0,1),(1,1),(2,1),(3,1),(4,1)] [(0,(.t 15)),(3,(.t 16)),(4,(.t 17))])),(none,(.box 19 (.t 18))),(none,(.mv 2 19))]) .ret) .skip)) (.seq (.ops [(none,(.cp 20 3)),(none,(.bld (some 21) [(.sl .full 4 []),(.int .i64 0),(.int .i64 0),(.int .i64 0),(.int .i64 0)] [(0,1),(1,1),(2,1),(3,1),(4,1)] [(0,(.t 20))])),(none,(.box 22 (.t 21))),(none,(.mv 2 22))]) .ret))))))):=by kernel_rfl
theorem fnl_rterm (f:Nat) (hf0:f<1000000000000000) (h:Hp) (l:Nat) (ts:List Tk) (i d b:Nat) (W:Wds ts) (hl:l<h.n) (hi:i<ts.length) (hf:2 * (ts.length-i)≤f) (hd:d≤100) (hb:h.bk l=rdC .sh ts i d b 0):
  Fn Tryz.prog 62 [.ptr l 0] h (tmG zP f d (ts.drop i)).1.avf ⟨h.n,updB h.bk l (.cells [.sl .sh 4 (ts.map Tk.av), .int .i64 ((i+(tmG zP f d (ts.drop i)).2.1:Nat):Int), .int .i64 (d:Nat), .int .i64 ((erP b (tmG zP f d (ts.drop i)).2.2:Nat):Int), .int .i64 (erE (tmG zP f d (ts.drop i)).2.2)])⟩:=by
 obtain ⟨k,hk⟩: ∃k,ts[i]? =some k:=⟨_,List.getElem?_eq_getElem hi⟩
 have hlen:=W.len
 have n0: ¬l=h.n:=by omega
 have n1: ¬l=h.n+1:=by omega
 have m0: ¬h.n=l:=by omega
 have m1: ¬h.n+1=l:=by omega
 have p0: ¬h.n=h.n+1:=by omega
 have p1: ¬h.n+1=h.n:=by omega
 obtain ⟨x,n,er,hx⟩: ∃x n er,gT zP f d (ts.drop i)=(x,n,er):=⟨_,_,_,rfl⟩
 have hI:=fun (H:Hp) (a1:l<H.n) (a2:H.bk l=rdC .sh ts i (d:Nat) b 0)=>fnl_rinner f H l ts i d b W a1 hi hf hd a2
 rw [hx] at hI
 simp only at hI
 have hne:=(gTL_ne zP f).1 d (ts.drop i)
 have hok:=(gTL_ok zP f hf0).1 d (ts.drop i)
 rw [hx] at hne hok
 simp only at hne hok
 have hhp:=headP_get hk
 cases er with
 |some e=>
  have he0:(erE (some e)==0)=false:=by simpa [erE] using hne e rfl
  rw [tmG_err hx]
  refine fnC mixed Tryz.func62 c62 (by simp) ?_
  simp only [go_sem,seval]
  refine ccall (fnu_token _ l (by simp;omega) ts i d b k hk 0 (by simp [bk_apply,n0,hb])) (by simp only [go_sem,seval]) ?_
  simp only [go_sem,seval]
  refine ccall (hI _ (by simp;omega) (by simp [bk_apply,n0,hb])) (by simp only [go_sem,seval]) ?_
  simp only [go_sem,seval,n0,n1,m0,m1,p0,p1]
  refine ccall (fnu_ok _ l (by simp;omega) ts (i+n) (d:Nat) (erP b (some e)) (erE (some e)) (by simp [bk_apply,n0,n1,rdC])) (by simp only [go_sem,seval]) ?_
  simp only [go_sem,seval,n0,n1,m0,m1,p0,p1,he0]
  exact ⟨wk_refl _,lab_avf _ _,shrink_rdX (by simp) (fun q hq hne=>by simp [bk_apply,hne,show q≠h.n by omega,show q≠h.n+1 by omega]) (by simp [bk_apply,n0,n1,rdC,erE,erP])⟩
 |none=>
  have hm:=fnf_May x (hok rfl (fun k hk=>W.sm k (List.mem_of_mem_drop hk)))
  cases hmb:mayB x with
  |true=>
   rw [hmb] at hm
   rw [tmG_may hx hmb]
   refine fnC mixed Tryz.func62 c62 (by simp) ?_
   simp only [go_sem,seval]
   refine ccall (fnu_token _ l (by simp;omega) ts i d b k hk 0 (by simp [bk_apply,n0,hb])) (by simp only [go_sem,seval]) ?_
   simp only [go_sem,seval]
   refine ccall (hI _ (by simp;omega) (by simp [bk_apply,n0,hb])) (by simp only [go_sem,seval]) ?_
   simp only [go_sem,seval,n0,n1,m0,m1,p0,p1]
   refine ccall (fnu_ok _ l (by simp;omega) ts (i+n) (d:Nat) (erP b none) (erE none) (by simp [bk_apply,n0,n1,rdC])) (by simp only [go_sem,seval]) ?_
   rw [show (erE none==0)=true from rfl]
   simp only [go_sem,seval,n0,n1,m0,m1,p0,p1]
   refine pcall hm (by simp only [go_sem,seval]) ?_
   simp only [go_sem,seval,n0,n1,m0,m1,p0,p1]
   exact ⟨wk_refl _,lab_avf _ _,shrink_rdX (by simp) (fun q hq hne=>by simp [bk_apply,hne,show q≠h.n by omega,show q≠h.n+1 by omega]) (by simp [bk_apply,n0,n1,rdC,erE,erP])⟩
  |false=>
   rw [hmb] at hm
   rw [tmG_not hx hmb,hhp]
   refine fnC mixed Tryz.func62 c62 (by simp) ?_
   simp only [go_sem,seval]
   refine ccall (fnu_token _ l (by simp;omega) ts i d b k hk 0 (by simp [bk_apply,n0,hb])) (by simp only [go_sem,seval]) ?_
   simp only [go_sem,seval]
   refine ccall (hI _ (by simp;omega) (by simp [bk_apply,n0,hb])) (by simp only [go_sem,seval]) ?_
   simp only [go_sem,seval,n0,n1,m0,m1,p0,p1]
   refine ccall (fnu_ok _ l (by simp;omega) ts (i+n) (d:Nat) (erP b none) (erE none) (by simp [bk_apply,n0,n1,rdC])) (by simp only [go_sem,seval]) ?_
   rw [show (erE none==0)=true from rfl]
   simp only [go_sem,seval,n0,n1,m0,m1,p0,p1]
   refine pcall hm (by simp only [go_sem,seval]) ?_
   simp only [go_sem,seval]
   refine ccall (fnu_fail _ l (by simp;omega) ts (i+n) (d:Nat) b k.p 2 (by simp [bk_apply,n0,n1,rdC,erE,erP])) (by simp only [go_sem,seval]) ?_
   simp only [go_sem,seval,n0,n1,m0,m1,p0,p1]
   exact ⟨wk_refl _,lab_avf _ _,shrink_rdX (by simp) (fun q hq hne=>by simp [bk_apply,hne,show q≠h.n by omega,show q≠h.n+1 by omega]) (by simp [bk_apply,n0,n1,rdC,erE,erP])⟩
theorem shrink_self {h:Hp} {l:Nat} {X:Blk} (hb:h.bk l=X):Shrink h h ⟨h.n,updB h.bk l X⟩:=by
 rw [updB_self _ _ _ hb];exact shrink_refl h
theorem fnl_rended (h:Hp) (l:Nat) (hl:l<h.n) (ts:List Tk) (i:Nat) (d:Int) (b:Nat) (er:Er) (hne: ∀e,er=some e→e.1≠0) (k:Tk) (hk:ts[i]? =some k) (hb:h.bk l=rdC .sh ts i d (erP b er) (erE er)):
  Fn Tryz.prog 50 [.ptr l 0] h (.tup [.int .i64 ((erP b (endG er (ts.drop i)):Nat):Int), .int .i64 (erE (endG er (ts.drop i)))]) ⟨h.n,updB h.bk l (.cells [.sl .sh 4 (ts.map Tk.av), .int .i64 (i:Nat), .int .i64 d, .int .i64 ((erP b (endG er (ts.drop i)):Nat):Int), .int .i64 (erE (endG er (ts.drop i)))])⟩:=by
 have hb2:=hb
 unfold rdC at hb2
 have s1:=fun x y=>shrink_rdr h l ts i d x y
 cases er with
 |some e=>
  have he0:(erE (some e)==0)=false:=by simpa [erE] using hne e rfl
  refine fnC mixed Tryz.func50 c50 (by simp) ?_
  simp only [go_sem,seval]
  refine ccall (fnu_ok _ l (by simp;omega) ts i d (erP b (some e)) (erE (some e)) hb) (by simp only [go_sem,seval]) ?_
  simp only [go_sem,seval,he0,hb2]
  exact ⟨rfl,shrink_self hb2⟩
 |none=>
  cases hk5:(k.k==5) with
  |true=>
   have hk5' :(k.k !=5)=false:=by simp [bne,hk5]
   have hE:endG none (ts.drop i)=none:=by simp [endG,isE_get hk,hk5]
   rw [hE]
   refine fnC mixed Tryz.func50 c50 (by simp) ?_
   simp only [go_sem,seval]
   refine ccall (fnu_ok _ l (by simp;omega) ts i d (erP b none) (erE none) hb) (by simp only [go_sem,seval]) ?_
   rw [show (erE none==0)=true from rfl]
   simp only [go_sem,seval]
   refine ccall (fnu_token _ l (by simp;omega) ts i d (erP b none) k hk (erE none) hb) (by simp only [go_sem,seval]) ?_
   simp only [go_sem,seval,hk5',hb2]
   exact shrink_self hb2
  |false=>
   have hk5' :(k.k !=5)=true:=by simp [bne,hk5]
   have hE:endG none (ts.drop i)=some (4,k.p):=by simp [endG,isE_get hk,hk5,headP_get hk]
   rw [hE]
   refine fnC mixed Tryz.func50 c50 (by simp) ?_
   simp only [go_sem,seval]
   refine ccall (fnu_ok _ l (by simp;omega) ts i d (erP b none) (erE none) hb) (by simp only [go_sem,seval]) ?_
   rw [show (erE none==0)=true from rfl]
   simp only [go_sem,seval]
   refine ccall (fnu_token _ l (by simp;omega) ts i d (erP b none) k hk (erE none) hb) (by simp only [go_sem,seval]) ?_
   simp only [go_sem,seval,hk5']
   refine ccall (fnu_token _ l (by simp;omega) ts i d (erP b none) k hk (erE none) hb) (by simp only [go_sem,seval]) ?_
   simp only [go_sem,seval]
   refine ccall (fnu_fail _ l (by simp;omega) ts i d (erP b none) k.p 4 hb) (by simp only [go_sem,seval]) ?_
   simp only [go_sem,seval]
   exact ⟨rfl,s1 k.p 4⟩
theorem shrink_box {h:Hp} {X:List AV} (hX:labL (h.n+1) X=true):Shrink h ⟨h.n+1,updB h.bk h.n (.cells X)⟩ ⟨h.n+1,updB h.bk h.n (.cells X)⟩:=by
 refine ⟨by simp,Nat.le_refl _,fun k hk=>⟨rfl, ?_⟩⟩
 by_cases hkl:k=h.n
 ·right
  simp [bk_apply,hkl,hX]
 ·left
  simp only at hk
  exact ⟨by omega,by simp [bk_apply,hkl]⟩
theorem strip_flK (l:List Tk) (xs:List AV):strip (.sl (flK l) 4 xs)= .sl (flK l) 4 xs:=by cases l<;>rfl
theorem isOwn_flK (l:List Tk) (xs:List AV):isOwn (.sl (flK l) 4 xs)=false:=by cases l<;>rfl
def bgT (s:List UInt8):List Tk:=if (toks s).2.2=0 then (toks s).1 else [⟨5, [],0,0⟩]
def bgE (s:List UInt8):Er:=if (toks s).2.2=0 then none else some ((toks s).2.2,(toks s).2.1)
theorem fnl_begun (s:List UInt8) (hs:s.length<1000000000000000) (h:Hp):Fn Tryz.prog 46 [.str s] h (.ptr h.n 0) ⟨h.n+1,updB h.bk h.n (.cells [.sl .sh 4 ((bgT s).map Tk.av), .int .i64 0, .int .i64 0, .int .i64 ((erP 0 (bgE s):Nat):Int), .int .i64 (erE (bgE s))])⟩:=by
 have hT:=fnl_Tokens s hs
 unfold tkA at hT
 unfold bgT bgE
 refine fnC mixed Tryz.func46 c46 (by simp) ?_
 simp only [go_sem,seval]
 refine pcall hT (by simp only [go_sem,seval]) ?_
 by_cases hc:(toks s).2.2=0
 ·have hc' :((toks s).2.2 !=0)=false:=by simp [hc]
  rw [if_pos hc,if_pos hc]
  have hp:=(toks_wds hc).1.pos
  have hK:flK (toks s).1= .sh:=by
   cases hl:(toks s).1 with
   |nil=>rw [hl] at hp;cases hp
   |cons=>rfl
  rw [hK] at hT ⊢
  simp only [go_sem,seval,hc']
  exact ⟨by simp,shrink_box (lab_rd _ _ _ _ _ _)⟩
 ·have hc' :((toks s).2.2 !=0)=true:=by simpa using hc
  rw [if_neg hc,if_neg hc]
  simp only [go_sem,seval,hc',strip_flK,isOwn_flK]
  exact ⟨by simp,shrink_box (lab_rd (h.n+1) [⟨5, [],0,0⟩] 0 0 (toks s).2.1 (toks s).2.2)⟩
theorem tmG_two (z:List T×Nat) (f d:Nat) (ts:List Tk):(tmG z f d ts).2.1=(gT z f d ts).2.1∧ ∀e,(tmG z f d ts).2.2=some e→e.1≠0:=by
 obtain ⟨x,n,er,hx⟩: ∃x n er,gT z f d ts=(x,n,er):=⟨_,_,_,rfl⟩
 cases er with
 |some e=>
  rw [tmG_err hx,hx]
  refine ⟨rfl,fun e' h=> ?_⟩
  simp only [Option.some.injEq] at h;subst h
  exact (gTL_ne z f).1 d ts _ (by rw [hx])
 |none=>
  cases hm:mayB x with
  |true=>rw [tmG_may hx hm,hx];exact ⟨rfl,fun e h=>by cases h⟩
  |false=>rw [tmG_not hx hm,hx];exact ⟨rfl,fun e h=>by simp only [Option.some.injEq] at h;subst h;exact (by decide:(2:Int)≠0)⟩
theorem endG_ne {er:Er} {r:List Tk} (h: ∀e,er=some e→e.1≠0): ∀e,endG er r=some e→e.1≠0:=by
 intro e he
 cases er with
 |some e' =>exact h e he
 |none=>
  unfold endG at he
  cases hi:isE r with
  |true=>rw [hi] at he;cases he
  |false=>rw [hi] at he;simp only [Bool.false_eq_true,if_false,Option.some.injEq] at he;subst he;exact (by decide:(4:Int)≠0)
end Go.Proofs.YtnibelnjflhkgaaGreatDoor.Ab
namespace Go.Proofs.YtnibelnjflhkgaaGreatDoor.Ab
set_option linter.unusedVariables false
set_option linter.unusedSimpArgs false
set_option maxRecDepth 10000
theorem c53:compF Tryz.prog ow Tryz.f53=(some (30,([(.c 2 (.agg 4))],(.seq (.ops [(none,(.alloc 2 [(.int .i64 0),(.str []),(.int .i64 0),(.sl .full 4 [])]))]) (.seq (.seq (.ops [(none,(.cp 5 0)),(none,(.nil (some 6) (.t 5))),(none,(.fa (some 7) (.t 6) 2)),(none,(.ld (some 8) (.t 7) (.one none))),(none,(.bin (some 9) .neq (.t 8) (.k (.int .i64 0)) false false))]) (.cond (.t 9) (.seq (.ops [(none,(.bld (some 10) [(.int .i64 0),(.str []),(.int .i64 0),(.sl .full 4 [])] [(0,1),(1,1),(2,1),(3,1)] [])),(none,(.st (.t 2) (.t 10) 4))]) .ret) .skip)) (.seq (.ops [(none,(.cp 11 0)),(none,(.call (some 12) (.k (.func 52 [] [])) [(.t 11)] (some 100))),(none,(.fld (some 13) (.t 12) 3 (.one none))),(none,(.mv 3 13))]) (.seq (.ops [(none,(.cp 14 0)),(none,(.call (some 15) (.k (.func 101 [] [])) [(.t 14)] (some 100))),(none,(.alloc 4 [(.int .i64 0),(.str []),(.int .i64 0),(.sl .full 4 [])])),(none,(.st (.t 4) (.t 15) 4))]) (.seq (.seq (.ops [(none,(.cp 16 0)),(none,(.nil (some 17) (.t 16))),(none,(.fa (some 18) (.t 17) 2)),(none,(.ld (some 19) (.t 18) (.one none))),(none,(.bin (some 20) .eql (.t 19) (.k (.int .i64 0)) false false)),(none,(.cp 21 20)),((some (21,true)),(.ld (some 22) (.t 4) (.agg 4))),((some (21,true)),(.call (some 23) (.k (.func 102 [] [])) [(.t 22)] none)),((some (21,true)),(.un (some 24) .not (.t 23))),(none,(.pick (some 25) (.t 21) (.t 24) (.k (.bool false))))]) (.cond (.t 25) (.ops [(none,(.cp 26 0)),(none,(.cp 27 3)),(none,(.call (some 28) (.k (.func 58 [] [])) [(.t 26),(.k (.int .i64 2)),(.t 27)] none))]) .skip)) (.seq (.ops [(none,(.ld (some 29) (.t 4) (.agg 4))),(none,(.st (.t 2) (.t 29) 4))]) .ret))))))))):=by kernel_rfl
theorem c51:compF Tryz.prog ow Tryz.f51=(some (21,([(.t 2),(.t 3),(.t 4)],(.seq (.ops [(none,(.set 2 .pnil)),(none,(.set 3 (.int .i64 0))),(none,(.set 4 (.int .i64 0)))]) (.seq (.ops [(none,(.cp 9 0)),(none,(.call (some 10) (.k (.func 100 [] [])) [(.t 9)] none)),(none,(.cp 8 10)),(none,(.ext (some 11) (.t 8) 0)),(none,(.ext (some 12) (.t 8) 1)),(none,(.ext (some 13) (.t 8) 2)),(none,(.mv 5 11)),(none,(.mv 6 12)),(none,(.mv 7 13))]) (.seq (.seq (.ops [(none,(.cp 14 7)),(none,(.bin (some 15) .neq (.t 14) (.k (.int .i64 0)) false false))]) (.cond (.t 15) (.seq (.ops [(none,(.mv 16 6)),(none,(.mv 17 7)),(none,(.set 2 .pnil)),(none,(.mv 3 16)),(none,(.mv 4 17))]) .ret) .skip)) (.seq (.ops [(none,(.cp 18 5)),(none,(.bld (some 19) [(.sl .full 4 []),(.int .i64 0),(.int .i64 0),(.int .i64 0),(.int .i64 0)] [(0,1),(1,1),(2,1),(3,1),(4,1)] [(0,(.t 18))])),(none,(.box 20 (.t 19))),(none,(.mv 2 20)),(none,(.set 3 (.int .i64 0))),(none,(.set 4 (.int .i64 0)))]) .ret))))))):=by kernel_rfl
theorem fnr_term (f:Nat) (hf0:f<1000000000000000) (h:Hp) (l:Nat) (ts:List Tk) (i d b:Nat) (W:Wds ts) (hl:l<h.n) (hi:i<ts.length) (hf:2 * (ts.length-i)≤f) (hd:d≤100) (hb:h.bk l=rfC ts i 0 b d):
  Fn Tryz.prog 53 [.ptr l 0] h (tmG zR f d (ts.drop i)).1.avf ⟨h.n,updB h.bk l (.cells [.sl .sh 4 (ts.map Tk.av), .int .i64 ((i+(tmG zR f d (ts.drop i)).2.1:Nat):Int), .int .i64 (erE (tmG zR f d (ts.drop i)).2.2), .int .i64 ((erP b (tmG zR f d (ts.drop i)).2.2:Nat):Int), .int .i64 (d:Nat)])⟩:=by
 obtain ⟨k,hk⟩: ∃k,ts[i]? =some k:=⟨_,List.getElem?_eq_getElem hi⟩
 have hlen:=W.len
 have n0: ¬l=h.n:=by omega
 have n1: ¬l=h.n+1:=by omega
 have m0: ¬h.n=l:=by omega
 have m1: ¬h.n+1=l:=by omega
 have p0: ¬h.n=h.n+1:=by omega
 have p1: ¬h.n+1=h.n:=by omega
 have hb2:=hb
 unfold rfC at hb2
 obtain ⟨x,n,er,hx⟩: ∃x n er,gT zR f d (ts.drop i)=(x,n,er):=⟨_,_,_,rfl⟩
 have hI:=fun (H:Hp) (a1:l<H.n) (a2:H.bk l=rfC ts i 0 b (d:Nat))=>fnr_within f H l ts i d b W a1 hi hf hd a2
 rw [hx] at hI
 simp only at hI
 have hne:=(gTL_ne zR f).1 d (ts.drop i)
 have hok:=(gTL_ok zR f hf0).1 d (ts.drop i)
 rw [hx] at hne hok
 simp only at hne hok
 have hhp:=headP_get hk
 cases er with
 |some e=>
  have he0:(erE (some e)==0)=false:=by simpa [erE] using hne e rfl
  rw [tmG_err hx]
  refine fnC mixed Tryz.func53 c53 (by simp) ?_
  simp only [go_sem,seval,hb2,n0,m0]
  refine ccall (fnv_now _ l (by simp;omega) ts i b d k hk 0 (by simp [bk_apply,n0,hb])) (by simp only [go_sem,seval]) ?_
  simp only [go_sem,seval]
  refine ccall (hI _ (by simp;omega) (by simp [bk_apply,n0,hb])) (by simp only [go_sem,seval]) ?_
  simp only [go_sem,seval,n0,n1,m0,m1,p0,p1,he0]
  exact ⟨wk_refl _,lab_avf _ _,shrink_rfX (by simp) (fun q hq hne=>by simp [bk_apply,hne,show q≠h.n by omega,show q≠h.n+1 by omega]) (by simp [bk_apply,n0,n1,rfC,erE,erP])⟩
 |none=>
  have hm:=fnf_rTerm x (hok rfl (fun k hk=>W.sm k (List.mem_of_mem_drop hk)))
  have he0:(erE none==0)=true:=rfl
  cases hmb:mayB x with
  |true=>
   rw [hmb] at hm
   rw [tmG_may hx hmb]
   refine fnC mixed Tryz.func53 c53 (by simp) ?_
   simp only [go_sem,seval,hb2,n0,m0]
   refine ccall (fnv_now _ l (by simp;omega) ts i b d k hk 0 (by simp [bk_apply,n0,hb])) (by simp only [go_sem,seval]) ?_
   simp only [go_sem,seval]
   refine ccall (hI _ (by simp;omega) (by simp [bk_apply,n0,hb])) (by simp only [go_sem,seval]) ?_
   simp only [go_sem,seval,n0,n1,m0,m1,p0,p1,he0]
   refine pcall hm (by simp only [go_sem,seval]) ?_
   simp only [go_sem,seval,n0,n1,m0,m1,p0,p1]
   exact ⟨wk_refl _,lab_avf _ _,shrink_rfX (by simp) (fun q hq hne=>by simp [bk_apply,hne,show q≠h.n by omega,show q≠h.n+1 by omega]) (by simp [bk_apply,n0,n1,rfC,erE,erP])⟩
  |false=>
   rw [hmb] at hm
   rw [tmG_not hx hmb,hhp]
   refine fnC mixed Tryz.func53 c53 (by simp) ?_
   simp only [go_sem,seval,hb2,n0,m0]
   refine ccall (fnv_now _ l (by simp;omega) ts i b d k hk 0 (by simp [bk_apply,n0,hb])) (by simp only [go_sem,seval]) ?_
   simp only [go_sem,seval]
   refine ccall (hI _ (by simp;omega) (by simp [bk_apply,n0,hb])) (by simp only [go_sem,seval]) ?_
   simp only [go_sem,seval,n0,n1,m0,m1,p0,p1,he0]
   refine pcall hm (by simp only [go_sem,seval]) ?_
   simp only [go_sem,seval,n0,n1,m0,m1,p0,p1]
   refine ccall (fnv_fails _ l (by simp;omega) ts (i+n) b (d:Nat) k.p 2 (by simp [bk_apply,n0,n1,rfC,erE,erP])) (by simp only [go_sem,seval]) ?_
   simp only [go_sem,seval,n0,n1,m0,m1,p0,p1]
   exact ⟨wk_refl _,lab_avf _ _,shrink_rfX (by simp) (fun q hq hne=>by simp [bk_apply,hne,show q≠h.n by omega,show q≠h.n+1 by omega]) (by simp [bk_apply,n0,n1,rfC,erE,erP])⟩
theorem fnr_reading (s:List UInt8) (hs:s.length<1000000000000000) (hc:(toks s).2.2=0) (h:Hp):Fn Tryz.prog 51 [.str s] h (.tup [.ptr h.n 0, .int .i64 0, .int .i64 0]) ⟨h.n+1,updB h.bk h.n (.cells [.sl .sh 4 ((toks s).1.map Tk.av), .int .i64 0, .int .i64 0, .int .i64 0, .int .i64 0])⟩:=by
 have hT:=fnr_Tokens s hs
 unfold tkA at hT
 have hp:=(toks_wds hc).1.pos
 have hK:flK (toks s).1= .sh:=by
  cases hl:(toks s).1 with
  |nil=>rw [hl] at hp;cases hp
  |cons=>rfl
 have hc' :((toks s).2.2 !=0)=false:=by simp [hc]
 rw [hK] at hT
 refine fnC mixed Tryz.func51 c51 (by simp) ?_
 simp only [go_sem,seval]
 refine pcall hT (by simp only [go_sem,seval]) ?_
 simp only [go_sem,seval,hc']
 exact ⟨by simp,shrink_box (lab_rf _ _ _ _ _ _)⟩
theorem fnr_readingE (s:List UInt8) (hs:s.length<1000000000000000) (hc:(toks s).2.2≠0):PFn Tryz.prog 51 [.str s] (.tup [.pnil, .int .i64 ((toks s).2.1:Nat), .int .i64 (toks s).2.2]):=by
 have hT:=fnr_Tokens s hs
 unfold tkA at hT
 have hc' :((toks s).2.2 !=0)=true:=by simpa using hc
 intro h
 refine fnC mixed Tryz.func51 c51 (by simp) ?_
 simp only [go_sem,seval]
 refine pcall hT (by simp only [go_sem,seval]) ?_
 simp only [go_sem,seval,hc',strip_flK,isOwn_flK]
end Go.Proofs.YtnibelnjflhkgaaGreatDoor.Ab

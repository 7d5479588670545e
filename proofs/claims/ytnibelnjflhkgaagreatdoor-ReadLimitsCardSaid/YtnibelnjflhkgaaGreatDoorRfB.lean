/- The document's reader: its steps where they are called; a row of terms behind its first one. No condition. The document's reader: a term within a term. No condition. -/
import Derived.Test.YtnibelnjflhkgaaGreatDoorRfA
import Derived.Test.YtnibelnjflhkgaaGreatDoorRd10
namespace Go.Proofs.YtnibelnjflhkgaaGreatDoor.Ab
set_option linter.unusedVariables false
set_option linter.unusedSimpArgs false
set_option maxRecDepth 10000
def zR:List T×Nat:=([.mk 0 [] 0 []],2)
def restG (z:List T×Nat) (f d:Nat) (ts:List Tk) (er:Er):List T×Nat×Er:=
 if er.isSome then ([],0,er) else if isM [44] ts then ((gL z f d (ts.drop 1)).1,1+(gL z f d (ts.drop 1)).2.1,(gL z f d (ts.drop 1)).2.2) else ([],0,none)
theorem gL_rest {z:List T×Nat} {f d:Nat} {ts:List Tk} {x:T} {n:Nat} {er:Er} (h:gT z f d ts=(x,n,er)):
  gL z (f+1) d ts=(x::(restG z f d (ts.drop n) er).1,n+(restG z f d (ts.drop n) er).2.1,(restG z f d (ts.drop n) er).2.2):=by
 cases er with
 |some e=>rw [gL_bad (by rw [h]:(gT z f d ts).2.2=some e),h];rfl
 |none=>
  cases hm:isM [44] (ts.drop n) with
  |false=>rw [gL_end (by rw [h]:(gT z f d ts).2.2=none) (by rw [h];exact hm),h];simp [restG,hm]
  |true=>rw [gL_more (by rw [h]:(gT z f d ts).2.2=none) (by rw [h];exact hm),h];simp [restG,hm,List.drop_drop,Nat.add_assoc]
theorem rest_some {z:List T×Nat} {f d:Nat} {ts:List Tk} (e:Int×Nat):restG z f d ts (some e)=([],0,some e):=rfl
theorem rest_end {z:List T×Nat} {f d:Nat} {ts:List Tk} (h:isM [44] ts=false):restG z f d ts none=([],0,none):=by simp [restG,h]
theorem rest_more {z:List T×Nat} {f d:Nat} {ts:List Tk} (h:isM [44] ts=true):restG z f d ts none=((gL z f d (ts.drop 1)).1,1+(gL z f d (ts.drop 1)).2.1,(gL z f d (ts.drop 1)).2.2):=by simp [restG,h]
theorem lab_rf (n:Nat) (ts:List Tk) (i:Nat) (e:Int) (b:Nat) (d:Int):labL n [.sl .sh 4 (ts.map Tk.av), .int .i64 (i:Nat), .int .i64 e, .int .i64 (b:Nat), .int .i64 d]=true:=by
 have lb:=lab_tks n ts
 simp [labL,labOK]
 simpa [labOK] using lb
theorem shrink_rfX {h hp:Hp} {l:Nat} {ts:List Tk} {i:Nat} {e:Int} {b:Nat} {d:Int} (h1:h.n≤hp.n) (h2: ∀k,k<h.n→k≠l→hp.bk k=h.bk k) (h3:hp.bk l=rfC ts i e b d):
  Shrink h hp ⟨h.n,updB h.bk l (.cells [.sl .sh 4 (ts.map Tk.av), .int .i64 (i:Nat), .int .i64 e, .int .i64 (b:Nat), .int .i64 d])⟩:=shrink_set h1 h2 h3 (lab_rf _ _ _ _ _ _)
section
variable (h:Hp) (l:Nat) (hl:l<h.n) (ts:List Tk) (i:Nat) (b:Nat) (d:Int) (t:Tk) (ht:ts[i]? =some t)
include hl ht
theorem fnv_now (e:Int) (hb:h.bk l=rfC ts i e b d):Fn Tryz.prog 52 [.ptr l 0] h (.agg [.int .i64 t.k, .str t.s, .int .i64 t.n, .int .i64 (t.p:Nat)]) h:=fnr_now h l hl ts i e b d hb t ht
omit ht in
theorem fnv_fails (p:Nat) (e2:Int) (hb:h.bk l=rfC ts i 0 b d):Fn Tryz.prog 58 [.ptr l 0, .int .i64 e2, .int .i64 (p:Nat)] h (.tup []) ⟨h.n,updB h.bk l (.cells [.sl .sh 4 (ts.map Tk.av), .int .i64 (i:Nat), .int .i64 e2, .int .i64 (p:Nat), .int .i64 d])⟩:=fnr_fails h l hl ts i 0 b d hb p e2
theorem fnv_takeF (hi:i<1000000000) (e:Int) (s:List UInt8) (hk:(e==0&&(t.k==4&&t.s==s))=false) (hb:h.bk l=rfC ts i e b d):Fn Tryz.prog 54 [.ptr l 0, .str s] h (.bool false) h:=by
 have:=fnr_take h l hl ts i hi e b d hb t ht s
 rw [hk] at this
 exact this
theorem fnv_takeT (hi:i<1000000000) (s:List UInt8) (hk:(t.k==4&&t.s==s)=true) (hb:h.bk l=rfC ts i 0 b d):Fn Tryz.prog 54 [.ptr l 0, .str s] h (.bool true) ⟨h.n,updB h.bk l (.cells [.sl .sh 4 (ts.map Tk.av), .int .i64 ((i+1:Nat):Int), .int .i64 0, .int .i64 (b:Nat), .int .i64 d])⟩:=by
 have:=fnr_take h l hl ts i hi 0 b d hb t ht s
 rw [hk] at this
 exact this
theorem fnv_mark (s:List UInt8) (c:Bool) (hk:(t.k==4&&t.s==s)=c) (hb:h.bk l=rfC ts i 0 b d):Fn Tryz.prog 103 [.ptr l 0, .str s] h (.bool c) h:=by
 have:=fnr_mark h l hl ts i 0 b d hb t ht s
 rw [hk] at this
 exact this
end
section
variable (h:Hp) (l:Nat) (hl:l<h.n) (ts:List Tk) (i:Nat) (hi:i<1000000000) (d:Nat) (hd:d<1000) (b:Nat) (t:Tk) (ht:ts[i]? =some t)
include hl hi hd ht
theorem fnv_closeE (e:Int) (he:(e==0)=false) (hb:h.bk l=rfC ts i e b ((d+1:Nat):Int)):
  Fn Tryz.prog 153 [.ptr l 0] h (.tup []) ⟨h.n,updB h.bk l (.cells [.sl .sh 4 (ts.map Tk.av), .int .i64 (i:Nat), .int .i64 e, .int .i64 (b:Nat), .int .i64 (d:Nat)])⟩:=by
 have hw:IntKind.i64.wrap (((d+1:Nat):Int)-1)=(d:Int):=by rw [wrap64]<;>omega
 have:=fnr_close h l hl ts i hi e b _ hb t ht
 rw [he,hw] at this;exact this
theorem fnv_closeT (hk:(t.k==4&&t.s== [41])=true) (hb:h.bk l=rfC ts i 0 b ((d+1:Nat):Int)):
  Fn Tryz.prog 153 [.ptr l 0] h (.tup []) ⟨h.n,updB h.bk l (.cells [.sl .sh 4 (ts.map Tk.av), .int .i64 ((i+1:Nat):Int), .int .i64 0, .int .i64 (b:Nat), .int .i64 (d:Nat)])⟩:=by
 have hw:IntKind.i64.wrap (((d+1:Nat):Int)-1)=(d:Int):=by rw [wrap64]<;>omega
 have:=fnr_close h l hl ts i hi 0 b _ hb t ht
 rw [hk,hw] at this;exact this
theorem fnv_closeF (hk:(t.k==4&&t.s== [41])=false) (hb:h.bk l=rfC ts i 0 b ((d+1:Nat):Int)):
  Fn Tryz.prog 153 [.ptr l 0] h (.tup []) ⟨h.n,updB h.bk l (.cells [.sl .sh 4 (ts.map Tk.av), .int .i64 (i:Nat), .int .i64 4, .int .i64 (t.p:Nat), .int .i64 (d:Nat)])⟩:=by
 have hw:IntKind.i64.wrap (((d+1:Nat):Int)-1)=(d:Int):=by rw [wrap64]<;>omega
 have:=fnr_close h l hl ts i hi 0 b _ hb t ht
 rw [hk,hw] at this;exact this
theorem fnv_openD (hd2:d=100) (hm:(t.k==4&&t.s== [40])=true) (hb:h.bk l=rfC ts i 0 b (d:Nat)):
  Fn Tryz.prog 152 [.ptr l 0] h (.tup []) ⟨h.n,updB h.bk l (.cells [.sl .sh 4 (ts.map Tk.av), .int .i64 ((i+1:Nat):Int), .int .i64 2, .int .i64 (t.p:Nat), .int .i64 ((d+1:Nat):Int)])⟩:=by
 have:=fnr_open h l hl ts i hi b d hd hb t ht hm
 rwa [if_pos (by omega)] at this
theorem fnv_open (hd2:d<100) (hm:(t.k==4&&t.s== [40])=true) (hb:h.bk l=rfC ts i 0 b (d:Nat)):
  Fn Tryz.prog 152 [.ptr l 0] h (.tup []) ⟨h.n,updB h.bk l (.cells [.sl .sh 4 (ts.map Tk.av), .int .i64 ((i+1:Nat):Int), .int .i64 0, .int .i64 (b:Nat), .int .i64 ((d+1:Nat):Int)])⟩:=by
 have:=fnr_open h l hl ts i hi b d hd hb t ht hm
 rwa [if_neg (by omega)] at this
end
def WithinOK (m:Nat):Prop:= ∀(H:Hp) (l:Nat) (ts:List Tk) (i d b:Nat),Wds ts→l<H.n→i<ts.length→2 * (ts.length-i)≤m→d≤100→H.bk l=rfC ts i 0 b (d:Nat)→
  Fn Tryz.prog 101 [.ptr l 0] H (gT zR m d (ts.drop i)).1.avf ⟨H.n,updB H.bk l (.cells [.sl .sh 4 (ts.map Tk.av), .int .i64 ((i+(gT zR m d (ts.drop i)).2.1:Nat):Int), .int .i64 (erE (gT zR m d (ts.drop i)).2.2), .int .i64 ((erP b (gT zR m d (ts.drop i)).2.2:Nat):Int), .int .i64 (d:Nat)])⟩
theorem fnr_wl {Q:AX→ASt→Prop} {s0:ASt} (h:Hp) (l:Nat) (hl:l<h.n) (ts:List Tk) (W:Wds ts) (ks:List UInt8) (d b i2 fm:Nat) (hd:d<100) (ih: ∀m,m<fm→WithinOK m) (G:List T×Nat×Er)
  (m0 q0:Nat) (acc0:List T) (er0:Er) (hm0:m0≤fm) (hq0:i2≤q0) (hq1:q0<ts.length) (hq2:2 * (ts.length-q0)≤m0+1) (ha0:acc0≠ []) (ha1:acc0.length≤q0) (hne0: ∀e,er0=some e→e.1≠0)
  (hG0:G=(acc0++(restG zR m0 (d+1) (ts.drop q0) er0).1,q0-i2+(restG zR m0 (d+1) (ts.drop q0) er0).2.1,(restG zR m0 (d+1) (ts.drop q0) er0).2.2))
  (k0:s0.fr 0= .ptr l 0) (k2:s0.fr 2= .ptr h.n 0) (k4:s0.fr 4= .ptr (h.n+2) 0) (kn:s0.hp.n=h.n+3)
  (kb:s0.hp.bk l= .cells [.sl .sh 4 (ts.map Tk.av), .int .i64 (q0:Nat), .int .i64 (erE er0), .int .i64 ((erP b er0:Nat):Int), .int .i64 ((d+1:Nat):Int)])
  (kc:s0.hp.bk (h.n+2)= .cells [.int .i64 3, .str ks, .int .i64 0, .sl .own 4 (acc0.map T.avf)]) (kd:s0.hp.bk h.n= .cells [.int .i64 0, .str [], .int .i64 0, .sl .full 4 []]) (ko: ∀p,p<h.n→p≠l→s0.hp.bk p=h.bk p)
  (hQ: ∀(t:ASt) (acc:List T) (q:Nat) (er:Er),t.fr 0= .ptr l 0→t.fr 2= .ptr h.n 0→t.fr 4= .ptr (h.n+2) 0→t.hp.n=h.n+3→
   t.hp.bk l= .cells [.sl .sh 4 (ts.map Tk.av), .int .i64 (q:Nat), .int .i64 (erE er), .int .i64 ((erP b er:Nat):Int), .int .i64 ((d+1:Nat):Int)]→
   t.hp.bk (h.n+2)= .cells [.int .i64 3, .str ks, .int .i64 0, .sl .own 4 (acc.map T.avf)]→t.hp.bk h.n= .cells [.int .i64 0, .str [], .int .i64 0, .sl .full 4 []]→(∀p,p<h.n→p≠l→t.hp.bk p=h.bk p)→acc≠ []→q<ts.length→i2≤q→(∀e,er=some e→e.1≠0)→G=(acc,q-i2,er)→Q (.exit 1) t):
  CLoop Tryz.prog ((.seq (.seq (.ops [(none,(.cp 62 0)),(none,(.call (some 63) (.k (.func 54 [] [])) [(.t 62),(.k (.str [44]))] none))]) (.cond (.t 63) .skip (.exit 1))) (.block 2 (.opsT (.one none (.fa (some 64) (.t 4) 3) (.one none (.cp 66 0) (.alt none (.ldT 65 (.t 64) (some 4)) (.one none (.call (some 67) (.k (.func 101 [] [])) [(.t 66)] (some 100)) (.one none (.bs 68 4 [(.t 67)]) (.one none (.app 69 (.t 65) (.t 68) 4 56 true true) (.one none (.fa (some 70) (.t 4) 3) (.one none (.st (.t 70) (.t 69) 1) .done))))) (.alt none (.call (some 67) (.k (.func 101 [] [])) [(.t 66)] (some 100)) (.one none (.ldT 65 (.t 64) (some 4)) (.one none (.bs 68 4 [(.t 67)]) (.one none (.app 69 (.t 65) (.t 68) 4 56 true true) (.one none (.fa (some 70) (.t 4) 3) (.one none (.st (.t 70) (.t 69) 1) .done))))) .nil)))))))) Q s0:=by
 have hlen:=W.len
 have n0: ¬l=h.n:=by omega
 have n2: ¬l=h.n+2:=by omega
 have w0: ¬h.n=l:=by omega
 have w2: ¬h.n+2=l:=by omega
 have hd0: ¬h.n=h.n+2:=by omega
 refine cloop (fun m t=> ∃(q:Nat) (acc:List T) (er:Er),m≤fm∧i2≤q∧q<ts.length∧2 * (ts.length-q)≤m+1∧acc≠ []∧acc.length≤q∧(∀e,er=some e→e.1≠0)∧t.fr 0= .ptr l 0∧t.fr 2= .ptr h.n 0∧t.fr 4= .ptr (h.n+2) 0∧t.hp.n=h.n+3∧
  t.hp.bk l= .cells [.sl .sh 4 (ts.map Tk.av), .int .i64 (q:Nat), .int .i64 (erE er), .int .i64 ((erP b er:Nat):Int), .int .i64 ((d+1:Nat):Int)]∧
  t.hp.bk (h.n+2)= .cells [.int .i64 3, .str ks, .int .i64 0, .sl .own 4 (acc.map T.avf)]∧t.hp.bk h.n= .cells [.int .i64 0, .str [], .int .i64 0, .sl .full 4 []]∧(∀p,p<h.n→p≠l→t.hp.bk p=h.bk p)∧
  G=(acc++(restG zR m (d+1) (ts.drop q) er).1,q-i2+(restG zR m (d+1) (ts.drop q) er).2.1,(restG zR m (d+1) (ts.drop q) er).2.2)) m0 ⟨q0,acc0,er0,hm0,hq0,hq1,hq2,ha0,ha1,hne0,k0,k2,k4,kn,kb,kc,kd,ko,hG0⟩ ?_
 clear hG0 k0 k2 k4 kn kb kc kd ko ha0 ha1 hne0 hq0 hq1 hq2 hm0
 rintro m ⟨F,hp⟩ ⟨q,acc,er,hm,hq1,hq2,hq3,ha,ha1,hne,f0,f2,f4,hn,hb1,hb2,hbd,hbo,hE⟩
 simp only at f0 f2 f4 hn hb1 hb2 hbd hbo
 obtain ⟨t4,ht4⟩: ∃t4,ts[q]? =some t4:=⟨_,List.getElem?_eq_getElem (by omega)⟩
 simp only [go_sem,seval,f0,f2,f4]
 cases er with
 |some e=>
  rw [rest_some] at hE
  have he0:(erE (some e)==0)=false:=by simpa [erE] using hne e rfl
  refine ccall (fnv_takeF _ l (by simp only;omega) ts q (erP b (some e)) ((d+1:Nat):Int) t4 ht4 (by omega) (erE (some e)) [44] (by rw [he0];rfl) (by simp only;exact hb1)) (by simp only [go_sem,seval,f0]) ?_
  simp only [go_sem,seval,f0,f2,f4]
  exact hQ ⟨_,_⟩ acc q (some e) (by simp [fr_apply,f0]) (by simp [fr_apply,f2]) (by simp [fr_apply,f4]) hn hb1 hb2 hbd hbo ha hq2 hq1 hne (by rw [hE];simp)
 |none=>
  have hM4:isM [44] (ts.drop q)=(t4.k==4&&t4.s== [44]):=isM_get ht4 _
  cases hc:(t4.k==4&&t4.s== [44]) with
  |false=>
   rw [rest_end (by rw [hM4,hc])] at hE
   refine ccall (fnv_takeF _ l (by simp only;omega) ts q (erP b none) ((d+1:Nat):Int) t4 ht4 (by omega) (erE none) [44] (by rw [hc];rfl) (by simp only;exact hb1)) (by simp only [go_sem,seval,f0]) ?_
   simp only [go_sem,seval,f0,f2,f4]
   exact hQ ⟨_,_⟩ acc q none (by simp [fr_apply,f0]) (by simp [fr_apply,f2]) (by simp [fr_apply,f4]) hn hb1 hb2 hbd hbo ha hq2 hq1 hne (by rw [hE];simp)
  |true=>
   rw [rest_more (by rw [hM4,hc]),List.drop_drop] at hE
   have h5:=W.nx q t4 ht4 (mark_ne5 hc)
   obtain ⟨m,rfl⟩: ∃m',m=m' +1:=⟨m-1,by omega⟩
   obtain ⟨x,n,er,hX⟩: ∃x n er,gT zR m (d+1) (ts.drop (q+1))=(x,n,er):=⟨_,_,_,rfl⟩
   rw [gL_rest hX] at hE
   have hI:=fun (H:Hp) (a1:l<H.n) (a2:H.bk l=rfC ts (q+1) 0 b ((d+1:Nat):Int))=>ih m (by omega) H l ts (q+1) (d+1) b W a1 h5 (by omega) (by omega) a2
   rw [hX] at hI
   simp only at hI
   have hlt:=(gTL_lt zR (by decide) m).1 (d+1) (ts.drop (q+1)) (W.Nx.drop _) (by simp;omega) (by simp;omega)
   have hnz:=(gTL_ne zR m).1 (d+1) (ts.drop (q+1))
   rw [hX] at hlt hnz
   simp only [List.length_drop] at hlt hnz
   refine ccall (fnv_takeT _ l (by simp only;omega) ts q (erP b none) ((d+1:Nat):Int) t4 ht4 (by omega) [44] hc (by simp only;exact hb1)) (by simp only [go_sem,seval,f0]) ?_
   have a1:(acc.length+1) * 56≤140737488355328:=by omega
   have a2:acc.length≤9223372036854775806:=by omega
   simp only [go_sem,seval,f0,f2,f4,hb2,n0,n2,w0,w2,hd0]
   refine ⟨?_, ?_⟩
   iterate 2
    ·skip
     refine ccallD rfl (hI _ (by simp only;omega) (by simp [bk_apply,n0,n2,w0,w2,rfC,erP])) (by simp only [go_sem,seval,f0]) ?_
     simp only [go_sem,seval,f0,f2,f4,hb2,n0,n2,w0,w2,hd0,a1,a2]
     rw [List.drop_drop,Nat.add_assoc] at hE
     exact ⟨m,by omega,q+(1+n),acc++ [x],er,by omega,by omega,by omega,by omega,by simp,by simp;omega,fun e he=>hnz e he,hn,rfl,by simp,hbd,fun p hp hne=>by simp [hne,show p≠h.n+2 by omega];exact hbo p hp hne,
      by rw [hE];simp only [Prod.mk.injEq];exact ⟨by simp,by omega,trivial⟩⟩
end Go.Proofs.YtnibelnjflhkgaaGreatDoor.Ab
namespace Go.Proofs.YtnibelnjflhkgaaGreatDoor.Ab
set_option linter.unusedVariables false
set_option linter.unusedSimpArgs false
set_option maxRecDepth 10000
theorem c101:compF Tryz.prog ow Tryz.f101=(some (79,([(.c 2 (.agg 4))],(.seq (.ops [(none,(.alloc 2 [(.int .i64 0),(.str []),(.int .i64 0),(.sl .full 4 [])]))]) (.seq (.seq (.ops [(none,(.cp 5 0)),(none,(.nil (some 6) (.t 5))),(none,(.fa (some 7) (.t 6) 2)),(none,(.ld (some 8) (.t 7) (.one none))),(none,(.bin (some 9) .neq (.t 8) (.k (.int .i64 0)) false false))]) (.cond (.t 9) (.seq (.ops [(none,(.bld (some 10) [(.int .i64 0),(.str []),(.int .i64 0),(.sl .full 4 [])] [(0,1),(1,1),(2,1),(3,1)] [])),(none,(.st (.t 2) (.t 10) 4))]) .ret) .skip)) (.seq (.ops [(none,(.cp 11 0)),(none,(.call (some 12) (.k (.func 52 [] [])) [(.t 11)] (some 100))),(none,(.alloc 3 [(.int .i64 0),(.str []),(.int .i64 0),(.int .i64 0)])),(none,(.st (.t 3) (.t 12) 4))]) (.seq (.seq (.ops [(none,(.fa (some 13) (.t 3) 0)),(none,(.ld (some 14) (.t 13) (.one none)))]) (.block 0 (.seq (.ops [(none,(.bin (some 16) .eql (.t 14) (.k (.int .i64 2)) false false)),(none,(.mv 15 16))]) (.cond (.t 15) (.seq (.ops [(none,(.cp 17 0)),(none,(.nil (some 18) (.t 17))),(none,(.fa (some 19) (.t 18) 1)),(none,(.ld (some 20) (.t 19) (.one none))),(none,(.bin (some 21) .add (.t 20) (.k (.int .i64 1)) false false)),(none,(.nil (some 22) (.t 17))),(none,(.fa (some 23) (.t 22) 1)),(none,(.st (.t 23) (.t 21) 1))]) (.seq (.ops [(none,(.fa (some 24) (.t 3) 1)),(none,(.ld (some 25) (.t 24) (.one none))),(none,(.bld (some 26) [(.int .i64 0),(.str []),(.int .i64 0),(.sl .full 4 [])] [(0,1),(1,1),(2,1),(3,1)] [(0,(.k (.int .i64 1))),(1,(.t 25))])),(none,(.st (.t 2) (.t 26) 4))]) .ret)) (.seq (.ops [(none,(.bin (some 28) .eql (.t 14) (.k (.int .i64 3)) false false)),(none,(.mv 27 28))]) (.cond (.t 27) (.seq (.ops [(none,(.cp 29 0)),(none,(.nil (some 30) (.t 29))),(none,(.fa (some 31) (.t 30) 1)),(none,(.ld (some 32) (.t 31) (.one none))),(none,(.bin (some 33) .add (.t 32) (.k (.int .i64 1)) false false)),(none,(.nil (some 34) (.t 29))),(none,(.fa (some 35) (.t 34) 1)),(none,(.st (.t 35) (.t 33) 1))]) (.seq (.ops [(none,(.fa (some 36) (.t 3) 2)),(none,(.ld (some 37) (.t 36) (.one none))),(none,(.bld (some 38) [(.int .i64 0),(.str []),(.int .i64 0),(.sl .full 4 [])] [(0,1),(1,1),(2,1),(3,1)] [(0,(.k (.int .i64 2))),(2,(.t 37))])),(none,(.st (.t 2) (.t 38) 4))]) .ret)) (.seq (.ops [(none,(.bin (some 40) .eql (.t 14) (.k (.int .i64 1)) false false)),(none,(.mv 39 40))]) (.cond (.t 39) (.seq (.ops [(none,(.cp 41 0)),(none,(.nil (some 42) (.t 41))),(none,(.fa (some 43) (.t 42) 1)),(none,(.ld (some 44) (.t 43) (.one none))),(none,(.bin (some 45) .add (.t 44) (.k (.int .i64 1)) false false)),(none,(.nil (some 46) (.t 41))),(none,(.fa (some 47) (.t 46) 1)),(none,(.st (.t 47) (.t 45) 1))]) (.seq (.ops [(none,(.fa (some 48) (.t 3) 1)),(none,(.ld (some 49) (.t 48) (.one none))),(none,(.bld (some 50) [(.int .i64 0),(.str []),(.int .i64 0),(.sl .full 4 [])] [(0,1),(1,1),(2,1),(3,1)] [(0,(.k (.int .i64 3))),(1,(.t 49))])),(none,(.alloc 4 [(.int .i64 0),(.str []),(.int .i64 0),(.sl .full 4 [])])),(none,(.st (.t 4) (.t 50) 4))]) (.seq (.seq (.ops [(none,(.cp 51 0)),(none,(.call (some 52) (.k (.func 103 [] [])) [(.t 51),(.k (.str [40]))] none))]) (.cond (.t 52) (.seq (.ops [(none,(.cp 53 0)),(none,(.call (some 54) (.k (.func 152 [] [])) [(.t 53)] none))]) (.seq (.opsT (.one none (.fa (some 55) (.t 4) 3) (.one none (.cp 57 0) (.alt none (.ldT 56 (.t 55) (some 4)) (.one none (.call (some 58) (.k (.func 101 [] [])) [(.t 57)] (some 100)) (.one none (.bs 59 4 [(.t 58)]) (.one none (.app 60 (.t 56) (.t 59) 4 56 true true) (.one none (.fa (some 61) (.t 4) 3) (.one none (.st (.t 61) (.t 60) 1) .done))))) (.alt none (.call (some 58) (.k (.func 101 [] [])) [(.t 57)] (some 100)) (.one none (.ldT 56 (.t 55) (some 4)) (.one none (.bs 59 4 [(.t 58)]) (.one none (.app 60 (.t 56) (.t 59) 4 56 true true) (.one none (.fa (some 61) (.t 4) 3) (.one none (.st (.t 61) (.t 60) 1) .done))))) .nil))))) (.seq (.block 1 (.loop (.seq (.seq (.ops [(none,(.cp 62 0)),(none,(.call (some 63) (.k (.func 54 [] [])) [(.t 62),(.k (.str [44]))] none))]) (.cond (.t 63) .skip (.exit 1))) (.block 2 (.opsT (.one none (.fa (some 64) (.t 4) 3) (.one none (.cp 66 0) (.alt none (.ldT 65 (.t 64) (some 4)) (.one none (.call (some 67) (.k (.func 101 [] [])) [(.t 66)] (some 100)) (.one none (.bs 68 4 [(.t 67)]) (.one none (.app 69 (.t 65) (.t 68) 4 56 true true) (.one none (.fa (some 70) (.t 4) 3) (.one none (.st (.t 70) (.t 69) 1) .done))))) (.alt none (.call (some 67) (.k (.func 101 [] [])) [(.t 66)] (some 100)) (.one none (.ldT 65 (.t 64) (some 4)) (.one none (.bs 68 4 [(.t 67)]) (.one none (.app 69 (.t 65) (.t 68) 4 56 true true) (.one none (.fa (some 70) (.t 4) 3) (.one none (.st (.t 70) (.t 69) 1) .done))))) .nil))))))))) (.ops [(none,(.cp 71 0)),(none,(.call (some 72) (.k (.func 153 [] [])) [(.t 71)] none))])))) .skip)) (.seq (.ops [(none,(.ld (some 73) (.t 4) (.agg 4))),(none,(.st (.t 2) (.t 73) 4))]) .ret)))) .skip)))))))) (.seq (.ops [(none,(.cp 74 0)),(none,(.fa (some 75) (.t 3) 3)),(none,(.ld (some 76) (.t 75) (.one none))),(none,(.call (some 77) (.k (.func 58 [] [])) [(.t 74),(.k (.int .i64 4)),(.t 76)] none))]) (.seq (.ops [(none,(.bld (some 78) [(.int .i64 0),(.str []),(.int .i64 0),(.sl .full 4 [])] [(0,1),(1,1),(2,1),(3,1)] [])),(none,(.st (.t 2) (.t 78) 4))]) .ret))))))))):=by kernel_rfl
theorem fnr_withinE (h:Hp) (l:Nat) (hl:l<h.n) (ts:List Tk) (i:Nat) (e:Int) (he:(e==0)=false) (b:Nat) (d:Int) (hb:h.bk l=rfC ts i e b d):Fn Tryz.prog 101 [.ptr l 0] h (T.mk 0 [] 0 []).avf h:=by
 have he' :(e !=0)=true:=by simpa [bne] using he
 have n0: ¬l=h.n:=by omega
 have n1: ¬h.n=l:=by omega
 unfold rfC at hb
 refine fnC mixed Tryz.func101 c101 (by simp) ?_
 simp only [go_sem,seval,hb,he',n0,n1]
 exact ⟨rfl,lab_avf _ _⟩
theorem fnr_within: ∀f,WithinOK f:=by
 intro f
 induction f using Nat.strongRecOn with
 |ind f ih=>
 intro h l ts i d b W hl hi hf hd hb
 obtain ⟨k,hk⟩: ∃k,ts[i]? =some k:=⟨_,List.getElem?_eq_getElem hi⟩
 have hdk:=drop_get hk
 obtain ⟨f,rfl⟩: ∃f',f=f' +1:=⟨f-1,by omega⟩
 have hlen:=W.len
 have hw:IntKind.i64.wrap ((i:Int)+1)=((i+1:Nat):Int):=by rw [wrap64]<;>omega
 have hb2:=hb
 unfold rfC at hb2
 have n0: ¬l=h.n:=by omega
 have n1: ¬l=h.n+1:=by omega
 have n2: ¬l=h.n+2:=by omega
 have m0: ¬h.n=l:=by omega
 have m1: ¬h.n+1=l:=by omega
 have m2: ¬h.n+2=l:=by omega
 have p0: ¬h.n=h.n+1:=by omega
 have p1: ¬h.n+1=h.n:=by omega
 have p2: ¬h.n=h.n+2:=by omega
 have p3: ¬h.n+2=h.n:=by omega
 have p4: ¬h.n+1=h.n+2:=by omega
 have p5: ¬h.n+2=h.n+1:=by omega
 by_cases c2:k.k=2
 ·have e2:(k.k==2)=true:=by rw [c2];rfl
  rw [hdk,gT_var c2]
  refine fnC mixed Tryz.func101 c101 (by simp) ?_
  simp only [go_sem,seval,hb2,n0,m0]
  refine ccall (fnv_now _ l (by simp;omega) ts i b d k hk 0 (by simp [bk_apply,n0,hb])) (by simp only [go_sem,seval]) ?_
  simp only [go_sem,seval,n0,n1,m0,m1,p0,p1]
  simp only [go_sem,seval,e2,hb2,hw,n0,n1,m0,m1,p0,p1]
  exact ⟨rfl,lab_avf _ _,shrink_rfX (by simp) (fun q hq hne=>by simp [bk_apply,hne,show q≠h.n by omega,show q≠h.n+1 by omega,show q≠h.n+2 by omega]) (by simp [bk_apply,n0,n1,n2,rfC,erE,erP])⟩
 have e2:(k.k==2)=false:=by simpa using c2
 by_cases c3:k.k=3
 ·have e3:(k.k==3)=true:=by rw [c3];rfl
  rw [hdk,gT_num c3]
  refine fnC mixed Tryz.func101 c101 (by simp) ?_
  simp only [go_sem,seval,hb2,n0,m0]
  refine ccall (fnv_now _ l (by simp;omega) ts i b d k hk 0 (by simp [bk_apply,n0,hb])) (by simp only [go_sem,seval]) ?_
  simp only [go_sem,seval,n0,n1,m0,m1,p0,p1]
  simp only [go_sem,seval,e2,e3,hb2,hw,n0,n1,m0,m1,p0,p1]
  exact ⟨rfl,lab_avf _ _,shrink_rfX (by simp) (fun q hq hne=>by simp [bk_apply,hne,show q≠h.n by omega,show q≠h.n+1 by omega,show q≠h.n+2 by omega]) (by simp [bk_apply,n0,n1,n2,rfC,erE,erP])⟩
 have e3:(k.k==3)=false:=by simpa using c3
 by_cases c1:k.k=1
 ·have e1:(k.k==1)=true:=by rw [c1];rfl
  have k5:(k.k !=5)=true:=by rw [c1];rfl
  have hi1:=W.nx i k hk k5
  obtain ⟨t2,ht2⟩: ∃t2,ts[i+1]? =some t2:=⟨_,List.getElem?_eq_getElem hi1⟩
  cases hm:(t2.k==4&&t2.s== [40]) with
  |false=>
   rw [hdk,gT_atom c1 (by rw [isM_get ht2,hm])]
   refine fnC mixed Tryz.func101 c101 (by simp) ?_
   simp only [go_sem,seval,hb2,n0,m0]
   refine ccall (fnv_now _ l (by simp;omega) ts i b d k hk 0 (by simp [bk_apply,n0,hb])) (by simp only [go_sem,seval]) ?_
   simp only [go_sem,seval,n0,n1,m0,m1,p0,p1]
   simp only [go_sem,seval,e1,e2,e3,hb2,hw,n0,n1,n2,m0,m1,m2,p0,p1,p2,p3,p4,p5]
   refine ccall (fnv_mark _ l (by simp;omega) ts (i+1) b d t2 ht2 [40] _ hm (by simp [bk_apply,n0,n1,n2,rfC])) (by simp only [go_sem,seval]) ?_
   simp only [go_sem,seval,n0,n1,n2,m0,m1,m2,p0,p1,p2,p3,p4,p5]
   exact ⟨rfl,lab_avf _ _,shrink_rfX (by simp) (fun q hq hne=>by simp [bk_apply,hne,show q≠h.n by omega,show q≠h.n+1 by omega,show q≠h.n+2 by omega]) (by simp [bk_apply,n0,n1,n2,rfC,erE,erP])⟩
  |true=>
   have hi2:=W.nx (i+1) t2 ht2 (mark_ne5 hm)
   obtain ⟨t3,ht3⟩: ∃t3,ts[i+1+1]? =some t3:=⟨_,List.getElem?_eq_getElem hi2⟩
   by_cases hd' :d=100
   ·rw [hdk,gT_deep2 hd' c1 (by rw [isM_get ht2,hm]),headP_get ht2]
    refine fnC mixed Tryz.func101 c101 (by simp) ?_
    simp only [go_sem,seval,hb2,n0,m0]
    refine ccall (fnv_now _ l (by simp;omega) ts i b d k hk 0 (by simp [bk_apply,n0,hb])) (by simp only [go_sem,seval]) ?_
    simp only [go_sem,seval,n0,n1,m0,m1,p0,p1]
    simp only [go_sem,seval,e1,e2,e3,hb2,hw,n0,n1,n2,m0,m1,m2,p0,p1,p2,p3,p4,p5]
    refine ccall (fnv_mark _ l (by simp;omega) ts (i+1) b d t2 ht2 [40] _ hm (by simp [bk_apply,n0,n1,n2,rfC])) (by simp only [go_sem,seval]) ?_
    simp only [go_sem,seval,n0,n1,n2,m0,m1,m2,p0,p1,p2,p3,p4,p5]
    refine ccall (fnv_openD _ l (by simp;omega) ts (i+1) (by omega) d (by omega) b t2 ht2 hd' hm (by simp [bk_apply,n0,n1,n2,rfC])) (by simp only [go_sem,seval]) ?_
    simp only [go_sem,seval,n0,n1,n2,m0,m1,m2,p0,p1,p2,p3,p4,p5]
    have a1:1 * 56≤140737488355328:=by omega
    have a2:0≤9223372036854775805:=by omega
    refine ⟨?_, ?_⟩
    iterate 2
     ·skip
      refine ccallD rfl (fnr_withinE _ l (by simp;omega) ts (i+1+1) 2 rfl t2.p ((d+1:Nat):Int) (by simp [bk_apply,n0,n1,n2,m0,m1,m2,rfC]<;>omega)) (by simp only [go_sem,seval]) ?_
      simp only [go_sem,seval,n0,n1,n2,m0,m1,m2,p0,p1,p2,p3,p4,p5,a1,a2]
      refine cloop (fun _ t=>t.fr 0= .ptr l 0∧t.fr 2= .ptr h.n 0∧t.fr 4= .ptr (h.n+2) 0∧t.hp.n=h.n+3∧t.hp.bk l= .cells [.sl .sh 4 (ts.map Tk.av), .int .i64 ((i+1+1:Nat):Int), .int .i64 2, .int .i64 (t2.p:Nat), .int .i64 ((d+1:Nat):Int)]∧
       t.hp.bk (h.n+2)= .cells [.int .i64 3, .str k.s, .int .i64 0, .sl .own 4 [(T.mk 0 [] 0 []).avf]]∧t.hp.bk h.n= .cells [.int .i64 0, .str [], .int .i64 0, .sl .full 4 []]∧(∀q,q<h.n→q≠l→t.hp.bk q=h.bk q)) 0 (by
        simp [fr_apply,argsF,bk_apply,n0,n1,n2,m0,m1,m2,p0,p1,p2,p3,p4,p5];exact ⟨by omega,fun q hq hne=>by simp [hne,show q≠h.n by omega,show q≠h.n+1 by omega,show q≠h.n+2 by omega]⟩) ?_
      rintro _ ⟨F,hp⟩ ⟨f0,f2,f4,hn,hb1,hb3,hbd,hbo⟩
      simp only at f0 f2 f4 hn hb1 hb3 hbd hbo
      simp only [go_sem,seval,f0,f2,f4]
      refine ccall (fnv_takeF _ l (by simp only;omega) ts (i+1+1) t2.p ((d+1:Nat):Int) t3 ht3 (by omega) 2 [44] rfl (by simp only;exact hb1)) (by simp only [go_sem,seval,f0]) ?_
      simp only [go_sem,seval,f0,f2,f4]
      refine ccall (fnv_closeE _ l (by simp only;omega) ts (i+1+1) (by omega) d (by omega) t2.p t3 ht3 2 rfl (by simp only;exact hb1)) (by simp only [go_sem,seval,f0]) ?_
      simp only [go_sem,seval,f0,f2,f4,hb3,hbd,n0,n2,m0,m2,p2,p3]
      exact ⟨rfl,lab_avf _ _,shrink_rfX (by simp only;omega) (fun q hq hne=>by simp only [bk_apply,hne,show q≠h.n by omega,show q≠h.n+2 by omega,if_false];exact hbo q hq hne) (by simp [bk_apply,n0,n2,rfC,erE,erP,zR])⟩
   ·have hdd:d<100:=by omega
    rw [hdk,gT_row c1 (by rw [isM_get ht2,hm]) hd']
    refine fnC mixed Tryz.func101 c101 (by simp) ?_
    simp only [go_sem,seval,hb2,n0,m0]
    refine ccall (fnv_now _ l (by simp;omega) ts i b d k hk 0 (by simp [bk_apply,n0,hb])) (by simp only [go_sem,seval]) ?_
    simp only [go_sem,seval,n0,n1,m0,m1,p0,p1]
    simp only [go_sem,seval,e1,e2,e3,hb2,hw,n0,n1,n2,m0,m1,m2,p0,p1,p2,p3,p4,p5]
    refine ccall (fnv_mark _ l (by simp;omega) ts (i+1) b d t2 ht2 [40] _ hm (by simp [bk_apply,n0,n1,n2,rfC])) (by simp only [go_sem,seval]) ?_
    simp only [go_sem,seval,n0,n1,n2,m0,m1,m2,p0,p1,p2,p3,p4,p5]
    refine ccall (fnv_open _ l (by simp;omega) ts (i+1) (by omega) d (by omega) b t2 ht2 hdd hm (by simp [bk_apply,n0,n1,n2,rfC])) (by simp only [go_sem,seval]) ?_
    simp only [go_sem,seval,n0,n1,n2,m0,m1,m2,p0,p1,p2,p3,p4,p5]
    rw [List.drop_drop]
    obtain ⟨G,hG⟩: ∃G,gL zR f (d+1) (ts.drop (i+1+1))=G:=⟨_,rfl⟩
    rw [hG]
    obtain ⟨f,rfl⟩: ∃f',f=f' +1:=⟨f-1,by omega⟩
    obtain ⟨x,n,er,hX⟩: ∃x n er,gT zR f (d+1) (ts.drop (i+1+1))=(x,n,er):=⟨_,_,_,rfl⟩
    have hE:=hG
    rw [gL_rest hX,List.drop_drop] at hE
    have hI:=fun (H:Hp) (a1:l<H.n) (a2:H.bk l=rfC ts (i+1+1) 0 b ((d+1:Nat):Int))=>ih f (by omega) H l ts (i+1+1) (d+1) b W a1 hi2 (by omega) (by omega) a2
    rw [hX] at hI
    simp only at hI
    have hlt:=(gTL_lt zR (by decide) f).1 (d+1) (ts.drop (i+1+1)) (W.Nx.drop _) (by simp;omega) (by simp;omega)
    have hnz:=(gTL_ne zR f).1 (d+1) (ts.drop (i+1+1))
    rw [hX] at hlt hnz
    simp only [List.length_drop] at hlt hnz
    have a1:1 * 56≤140737488355328:=by omega
    have a2:0≤9223372036854775805:=by omega
    refine ⟨?_, ?_⟩
    iterate 2
     ·skip
      refine ccallD rfl (hI _ (by simp;omega) (by simp [bk_apply,n0,n1,n2,m0,m1,m2,rfC]<;>omega)) (by simp only [go_sem,seval]) ?_
      simp only [go_sem,seval,n0,n1,n2,m0,m1,m2,p0,p1,p2,p3,p4,p5,a1,a2]
      refine fnr_wl h l hl ts W k.s d b (i+1+1) (f+1) hdd (fun m hm=>ih m (by omega)) G f (i+1+1+n) [x] er (by omega) (by omega) (by omega) (by omega) (by simp) (by simp;omega) (fun e he=>hnz e he)
       (by rw [←hE];simp only [Prod.mk.injEq];exact ⟨by simp,by omega,trivial⟩) (by simp [fr_apply,argsF]) (by simp [fr_apply,argsF]) (by simp [fr_apply,argsF]) (by simp) (by simp [bk_apply,n0,n1,n2,m0,m1,m2,Nat.add_assoc]) (by simp [bk_apply,n0,n1,n2,m0,m1,m2,p0,p1,p2,p3,p4,p5]) (by simp [bk_apply,n0,n1,n2,m0,m1,m2,p0,p1,p2,p3,p4,p5])
       (fun p hp hne=>by simp [bk_apply,hne,show p≠h.n by omega,show p≠h.n+1 by omega,show p≠h.n+2 by omega]) ?_
      rintro ⟨F,hp⟩ acc q er f0 f2 f4 hn hb1 hb3 hbd hbo hac hq hq2 hne hE2
      simp only at f0 f2 f4 hn hb1 hb3 hbd hbo
      obtain ⟨t4,ht4⟩: ∃t4,ts[q]? =some t4:=⟨_,List.getElem?_eq_getElem hq⟩
      have hC4:isM [41] (ts.drop q)=(t4.k==4&&t4.s== [41]):=isM_get ht4 _
      have hP4:headP (ts.drop q)=t4.p:=headP_get ht4
      have hRR:(ts.drop (i+2)).drop (q-(i+1+1))=ts.drop q:=by rw [List.drop_drop];congr 1;omega
      have hfl:flS acc= .sh:=by cases acc with|nil=>exact absurd rfl hac|cons=>rfl
      simp only [go_sem,seval,f0,f2,f4]
      cases er with
      |some e=>
       have he0:(erE (some e)==0)=false:=by simpa [erE] using hne e rfl
       refine ccall (fnv_closeE _ l (by simp only;omega) ts q (by omega) d (by omega) (erP b (some e)) t4 ht4 (erE (some e)) he0 (by simp only;exact hb1)) (by simp only [go_sem,seval,f0]) ?_
       simp only [go_sem,seval,f0,f2,f4,hb3,hbd,n0,n2,m0,m2,p2,p3]
       rw [hE2,shutG_e]
       have hidx:i+(q-(i+1+1)+2)=q:=by omega
       simp only [hidx]
       exact ⟨by rw [avf_mk,hfl],lab_avf _ _,shrink_rfX (by simp only;omega) (fun p hp hne=>by simp only [bk_apply,hne,show p≠h.n by omega,show p≠h.n+2 by omega,if_false];exact hbo p hp hne) (by simp [bk_apply,n0,n2,rfC,erE,erP])⟩
      |none=>
       cases hc2:(t4.k==4&&t4.s== [41]) with
       |true=>
        refine ccall (fnv_closeT _ l (by simp only;omega) ts q (by omega) d (by omega) (erP b none) t4 ht4 hc2 (by simp only;exact hb1)) (by simp only [go_sem,seval,f0]) ?_
        simp only [go_sem,seval,f0,f2,f4,hb3,hbd,n0,n2,m0,m2,p2,p3]
        rw [hE2,shutG_t (by simp only;rw [hRR,hC4,hc2])]
        have hidx:i+(q-(i+1+1)+3)=q+1:=by omega
        simp only [hidx]
        exact ⟨by rw [avf_mk,hfl],lab_avf _ _,shrink_rfX (by simp only;omega) (fun p hp hne=>by simp only [bk_apply,hne,show p≠h.n by omega,show p≠h.n+2 by omega,if_false];exact hbo p hp hne) (by simp [bk_apply,n0,n2,rfC,erE,erP])⟩
       |false=>
        refine ccall (fnv_closeF _ l (by simp only;omega) ts q (by omega) d (by omega) (erP b none) t4 ht4 hc2 (by simp only;exact hb1)) (by simp only [go_sem,seval,f0]) ?_
        simp only [go_sem,seval,f0,f2,f4,hb3,hbd,n0,n2,m0,m2,p2,p3]
        rw [hE2,shutG_f (by simp only;rw [hRR,hC4,hc2])]
        have hidx:i+(q-(i+1+1)+2)=q:=by omega
        simp only [hidx,hRR,hP4]
        exact ⟨by rw [avf_mk,hfl],lab_avf _ _,shrink_rfX (by simp only;omega) (fun p hp hne=>by simp only [bk_apply,hne,show p≠h.n by omega,show p≠h.n+2 by omega,if_false];exact hbo p hp hne) (by simp [bk_apply,n0,n2,rfC,erE,erP])⟩
 have e1:(k.k==1)=false:=by simpa using c1
 rw [hdk,gT_non c1 c2 c3]
 refine fnC mixed Tryz.func101 c101 (by simp) ?_
 simp only [go_sem,seval,hb2,n0,m0]
 refine ccall (fnv_now _ l (by simp;omega) ts i b d k hk 0 (by simp [bk_apply,n0,hb])) (by simp only [go_sem,seval]) ?_
 simp only [go_sem,seval,n0,n1,m0,m1,p0,p1]
 simp only [go_sem,seval,e1,e2,e3]
 refine ccall (fnv_fails _ l (by simp;omega) ts i b d k.p 4 (by simp [bk_apply,n0,n1,hb])) (by simp only [go_sem,seval]) ?_
 simp only [go_sem,seval,n0,n1,m0,m1,p0,p1]
 exact ⟨rfl,lab_avf _ _,shrink_rfX (by simp) (fun q hq hne=>by simp [bk_apply,hne,show q≠h.n by omega,show q≠h.n+1 by omega,show q≠h.n+2 by omega]) (by simp [bk_apply,n0,n1,n2,rfC,erE,erP])⟩
end Go.Proofs.YtnibelnjflhkgaaGreatDoor.Ab

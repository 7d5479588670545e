/- The document's reader over states: ReadProgram. No condition. -/
import Derived.Test.YtnibelnjflhkgaaGreatDoorRpE
namespace Go.Proofs.YtnibelnjflhkgaaGreatDoor.Ab
set_option linter.unusedVariables false
set_option linter.unusedSimpArgs false
set_option maxRecDepth 10000
theorem c17:compF Tryz.prog ow Tryz.f17=(some (128,([(.c 2 (.agg 2)),(.t 3),(.t 4)],(.seq (.ops [(none,(.alloc 2 [(.sl .full 6 []),(.sl .full 16 [])])),(none,(.set 3 (.int .i64 0))),(none,(.set 4 (.int .i64 0)))]) (.seq (.ops [(none,(.cp 15 0)),(none,(.call (some 16) (.k (.func 51 [] [])) [(.t 15)] none)),(none,(.cp 14 16)),(none,(.ext (some 17) (.t 14) 0)),(none,(.ext (some 18) (.t 14) 1)),(none,(.ext (some 19) (.t 14) 2)),(none,(.mv 5 17)),(none,(.mv 6 18)),(none,(.mv 7 19))]) (.seq (.seq (.ops [(none,(.cp 20 7)),(none,(.bin (some 21) .neq (.t 20) (.k (.int .i64 0)) false false))]) (.cond (.t 21) (.seq (.ops [(none,(.bld (some 22) [(.sl .full 6 []),(.sl .full 16 [])] [(0,1),(1,1)] [])),(none,(.mv 23 6)),(none,(.mv 24 7)),(none,(.st (.t 2) (.t 22) 2)),(none,(.mv 3 23)),(none,(.mv 4 24))]) .ret) .skip)) (.seq (.ops [(none,(.alloc 8 [(.sl .full 6 []),(.sl .full 16 [])]))]) (.seq (.block 0 (.loop (.seq (.seq (.ops [(none,(.cp 25 5)),(none,(.nil (some 26) (.t 25))),(none,(.fa (some 27) (.t 26) 2)),(none,(.ld (some 28) (.t 27) (.one none))),(none,(.bin (some 29) .eql (.t 28) (.k (.int .i64 0)) false false)),(none,(.cp 30 29)),((some (30,true)),(.cp 31 5)),((some (30,true)),(.call (some 32) (.k (.func 52 [] [])) [(.t 31)] (some 100))),((some (30,true)),(.fld (some 33) (.t 32) 0 (.one none))),((some (30,true)),(.bin (some 34) .neq (.t 33) (.k (.int .i64 5)) false false)),(none,(.pick (some 35) (.t 30) (.t 34) (.k (.bool false))))]) (.cond (.t 35) .skip (.exit 0))) (.block 1 (.seq (.ops [(none,(.cp 36 5)),(none,(.call (some 37) (.k (.func 52 [] [])) [(.t 36)] (some 100))),(none,(.fld (some 38) (.t 37) 3 (.one none))),(none,(.mv 9 38))]) (.seq (.ops [(none,(.cp 39 5)),(none,(.call (some 40) (.k (.func 53 [] [])) [(.t 39)] none)),(none,(.alloc 10 [(.int .i64 0),(.str []),(.int .i64 0),(.sl .full 4 [])])),(none,(.st (.t 10) (.t 40) 4))]) (.seq (.seq (.ops [(none,(.cp 41 5)),(none,(.call (some 42) (.k (.func 54 [] [])) [(.t 41),(.k (.str [60,45]))] none))]) (.cond (.t 42) (.seq (.ops [(none,(.cp 44 5)),(none,(.ld (some 45) (.t 10) (.agg 4))),(none,(.call (some 46) (.k (.func 55 [] [])) [(.t 44),(.t 45)] none)),(none,(.cp 43 46)),(none,(.ext (some 47) (.t 43) 0)),(none,(.ext (some 48) (.t 43) 1)),(none,(.alloc 11 [(.int .i64 0),(.str []),(.int .i64 0),(.sl .full 4 []),(.int .i64 0),(.int .i64 0),(.str []),(.int .i64 0),(.sl .full 4 []),(.int .i64 0),(.sl .full 9 []),(.sl .full 9 []),(.sl .full 9 []),(.sl .full 9 []),(.int .i64 0),(.int .i64 0)])),(none,(.st (.t 11) (.t 47) 16)),(none,(.mv 12 48))]) (.seq (.ops [(none,(.cp 49 5)),(none,(.call (some 50) (.k (.func 56 [] [])) [(.t 49),(.k (.int .i64 4)),(.k (.str [46]))] none))]) (.seq (.seq (.ops [(none,(.cp 51 5)),(none,(.nil (some 52) (.t 51))),(none,(.fa (some 53) (.t 52) 2)),(none,(.ld (some 54) (.t 53) (.one none))),(none,(.bin (some 55) .eql (.t 54) (.k (.int .i64 0)) false false)),(none,(.cp 56 55)),((some (56,true)),(.fa (some 57) (.t 11) 4)),((some (56,true)),(.ld (some 58) (.t 57) (.agg 9))),((some (56,true)),(.call (some 59) (.k (.func 57 [] [])) [(.t 58)] none)),(none,(.pick (some 60) (.t 56) (.t 59) (.k (.bool false))))]) (.cond (.t 60) (.ops [(none,(.cp 61 5)),(none,(.cp 62 12)),(none,(.call (some 63) (.k (.func 58 [] [])) [(.t 61),(.k (.int .i64 2)),(.t 62)] none))]) .skip)) (.seq (.seq (.ops [(none,(.cp 64 5)),(none,(.nil (some 65) (.t 64))),(none,(.fa (some 66) (.t 65) 2)),(none,(.ld (some 67) (.t 66) (.one none))),(none,(.bin (some 68) .eql (.t 67) (.k (.int .i64 0)) false false)),(none,(.cp 69 68)),((some (69,true)),(.fa (some 70) (.t 8) 1)),((some (69,true)),(.ld (some 71) (.t 70) (.one (some 16)))),((some (69,true)),(.len (some 72) (.t 71) false true)),((some (69,true)),(.bin (some 73) .eql (.t 72) (.k (.int .i64 20)) false false)),(none,(.pick (some 74) (.t 69) (.t 73) (.k (.bool false))))]) (.cond (.t 74) (.ops [(none,(.cp 75 5)),(none,(.cp 76 9)),(none,(.call (some 77) (.k (.func 58 [] [])) [(.t 75),(.k (.int .i64 2)),(.t 76)] none))]) .skip)) (.seq (.ops [(none,(.fa (some 78) (.t 8) 1)),(none,(.ldT 79 (.t 78) (some 16))),(none,(.ld (some 80) (.t 11) (.agg 16))),(none,(.bs 81 16 [(.t 80)])),(none,(.app 82 (.t 79) (.t 81) 16 240 true true)),(none,(.fa (some 83) (.t 8) 1)),(none,(.st (.t 83) (.t 82) 1))]) (.exit 1)))))) .skip)) (.seq (.ops [(none,(.ld (some 84) (.t 10) (.agg 4))),(none,(.bld (some 85) [(.int .i64 0),(.str []),(.int .i64 0),(.sl .full 4 []),(.sl .full 4 []),(.sl .full 9 [])] [(0,4),(4,1),(5,1)] [(0,(.t 84))])),(none,(.alloc 13 [(.int .i64 0),(.str []),(.int .i64 0),(.sl .full 4 []),(.sl .full 4 []),(.sl .full 9 [])])),(none,(.st (.t 13) (.t 85) 6))]) (.seq (.seq (.ops [(none,(.cp 86 5)),(none,(.call (some 87) (.k (.func 54 [] [])) [(.t 86),(.k (.str [58,45]))] none))]) (.cond (.t 87) (.ops [(none,(.cp 88 5)),(none,(.ld (some 89) (.t 10) (.agg 4))),(none,(.call (some 90) (.k (.func 59 [] [])) [(.t 88),(.t 89)] none)),(none,(.st (.t 13) (.t 90) 6))]) .skip)) (.seq (.ops [(none,(.cp 91 5)),(none,(.call (some 92) (.k (.func 56 [] [])) [(.t 91),(.k (.int .i64 4)),(.k (.str [46]))] none))]) (.seq (.seq (.ops [(none,(.cp 93 5)),(none,(.nil (some 94) (.t 93))),(none,(.fa (some 95) (.t 94) 2)),(none,(.ld (some 96) (.t 95) (.one none))),(none,(.bin (some 97) .eql (.t 96) (.k (.int .i64 0)) false false)),(none,(.cp 98 97)),((some (98,true)),(.fa (some 99) (.t 8) 0)),((some (98,true)),(.ld (some 100) (.t 99) (.one (some 6)))),((some (98,true)),(.len (some 101) (.t 100) false true)),((some (98,true)),(.bin (some 102) .eql (.t 101) (.k (.int .i64 30)) false false)),(none,(.pick (some 103) (.t 98) (.t 102) (.k (.bool false))))]) (.cond (.t 103) (.ops [(none,(.cp 104 5)),(none,(.cp 105 9)),(none,(.call (some 106) (.k (.func 58 [] [])) [(.t 104),(.k (.int .i64 2)),(.t 105)] none))]) .skip)) (.ops [(none,(.fa (some 107) (.t 8) 0)),(none,(.ldT 108 (.t 107) (some 6))),(none,(.ld (some 109) (.t 13) (.agg 6))),(none,(.bs 110 6 [(.t 109)])),(none,(.app 111 (.t 108) (.t 110) 6 104 true true)),(none,(.fa (some 112) (.t 8) 0)),(none,(.st (.t 112) (.t 111) 1))])))))))))))) (.seq (.seq (.ops [(none,(.cp 113 5)),(none,(.nil (some 114) (.t 113))),(none,(.fa (some 115) (.t 114) 2)),(none,(.ld (some 116) (.t 115) (.one none))),(none,(.bin (some 117) .neq (.t 116) (.k (.int .i64 0)) false false))]) (.cond (.t 117) (.seq (.opsT (.one none (.bld (some 118) [(.sl .full 6 []),(.sl .full 16 [])] [(0,1),(1,1)] []) (.one none (.cp 119 5) (.one none (.nil (some 120) (.t 119)) (.one none (.fa (some 121) (.t 120) 3) (.one none (.cp 123 5) (.one none (.nil (some 124) (.t 123)) (.one none (.fa (some 125) (.t 124) 2) (.alt none (.ld (some 122) (.t 121) (.one none)) (.alt none (.ld (some 126) (.t 125) (.one none)) (.one none (.st (.t 2) (.t 118) 2) (.one none (.mv 3 122) (.one none (.mv 4 126) .done))) (.alt none (.st (.t 2) (.t 118) 2) (.one none (.ld (some 126) (.t 125) (.one none)) (.one none (.mv 3 122) (.one none (.mv 4 126) .done))) .nil)) (.alt none (.ld (some 126) (.t 125) (.one none)) (.alt none (.ld (some 122) (.t 121) (.one none)) (.one none (.st (.t 2) (.t 118) 2) (.one none (.mv 3 122) (.one none (.mv 4 126) .done))) (.alt none (.st (.t 2) (.t 118) 2) (.one none (.ld (some 122) (.t 121) (.one none)) (.one none (.mv 3 122) (.one none (.mv 4 126) .done))) .nil)) (.alt none (.st (.t 2) (.t 118) 2) (.one none (.ld (some 122) (.t 121) (.one none)) (.one none (.ld (some 126) (.t 125) (.one none)) (.one none (.mv 3 122) (.one none (.mv 4 126) .done)))) .nil))))))))))) .ret) .skip)) (.seq (.ops [(none,(.ld (some 127) (.t 8) (.agg 2))),(none,(.st (.t 2) (.t 127) 2)),(none,(.set 3 (.int .i64 0))),(none,(.set 4 (.int .i64 0)))]) .ret)))))))))):=by kernel_rfl
theorem er_of_cells {e:Er} (h: ∀v,e=some v→v.1≠0):(erE e !=0)= !e.isNone:=by have:=erE_z h;rw [bne,this]
set_option maxHeartbeats 8000000 in
theorem fnr_readProgram (s:List UInt8) (hs:s.length<1000000000000000):PFn Tryz.prog 17 [.str s] (.tup [(rdPF s).1.avf, .int .i64 ((rdPF s).2.1:Nat), .int .i64 (rdPF s).2.2]):=by
 intro h
 have p0: ¬h.n=h.n+1:=by omega
 have p1: ¬h.n+1=h.n:=by omega
 have p2: ¬h.n=h.n+2:=by omega
 have p3: ¬h.n+2=h.n:=by omega
 have p4: ¬h.n+1=h.n+2:=by omega
 have p5: ¬h.n+2=h.n+1:=by omega
 unfold rdPF
 refine fnC mixed Tryz.func17 c17 (by simp) ?_
 simp only [go_sem,seval]
 by_cases hc:(toks s).2.2=0
 ·rw [if_pos hc]
  refine ccall (fnr_reading s hs hc _) (by simp only [go_sem,seval]) ?_
  obtain ⟨W,hl⟩:=toks_wds hc
  generalize (toks s).1=ts at *
  have hp:=W.pos
  have hL:=W.len
  simp only [go_sem,seval]
  have hk0:FOk ts (⟨⟨0,none⟩,0⟩:Sf):=⟨⟨hp,fun e he=>by cases he⟩,fun _=>⟨0,by omega,rfl⟩⟩
  have hkE:=prF_ok W ts.length [] [] _ hk0
  generalize hG:prF ts ts.length [] [] ⟨⟨0,none⟩,0⟩=G
  rw [hG] at hkE
  refine cloop (fun m u=> ∃(cs:List Cl) (rs:List Ru) (x:Sf),FOk ts x∧(x.s.er=none→ts.length≤m+x.s.i∧cs.length≤x.s.i∧rs.length≤x.s.i)∧u.fr 2= .ptr h.n 0∧u.fr 5= .ptr (h.n+1) 0∧u.fr 8= .ptr (h.n+2) 0∧h.n+3≤u.hp.n∧u.hp.bk (h.n+1)=rfX ts x.s x.d∧
   u.hp.bk (h.n+2)= .cells [.sl (flCo cs) 6 (cs.map Cl.avf), .sl (flRo rs) 16 (rs.map Ru.avf)]∧u.hp.bk h.n= .cells [.sl .full 6 [], .sl .full 16 []]∧(∀q,q<h.n→u.hp.bk q=h.bk q)∧prF ts m cs rs x=G) ts.length
   ⟨[], [],⟨⟨0,none⟩,0⟩,hk0,fun _=>⟨by simp,by simp,by simp⟩,by simp [fr_apply,argsF],by simp [fr_apply,argsF],by simp [fr_apply],by simp,by simp [bk_apply,p4,rfX,rfC,erE,erP],by simp [bk_apply,flCo,flRo],by simp [bk_apply,p0,p2],fun q hq=>by simp [bk_apply,show q≠h.n by omega,show q≠h.n+1 by omega,show q≠h.n+2 by omega],hG⟩ ?_
  clear hG hk0
  rintro m ⟨F,hp'⟩ ⟨cs,rs,x,hx,hm,f2,f5,f8,hn,hb1,hb2,hb3,hbo,hG⟩
  simp only at f2 f5 f8 hn hb1 hb2 hb3 hbo
  have hi:=hx.1.1
  have hz:=erE_z hx.1.2
  have hz' :=er_of_cells hx.1.2
  have hrf:rfX ts x.s x.d= .cells [.sl .sh 4 (ts.map Tk.av), .int .i64 (x.s.i:Nat), .int .i64 (erE x.s.er), .int .i64 ((erP 0 x.s.er:Nat):Int), .int .i64 x.d]:=rfl
  have hb1' :=hb1.trans hrf
  cases hno:x.s.er.isNone with
  |false=>
   have hG' :(cs,rs,x)=G:=by rw [←hG];cases m with|zero=>rfl|succ m=>rw [prF,if_neg (by simp [hno])]
   rw [hno] at hz hz'
   subst hG'
   simp only [go_sem,seval,f2,f5,f8,hb1',hz,hz',hb2,hb3]
   obtain ⟨⟨i,er⟩,d⟩:=x
   cases er with
   |none=>cases hno
   |some e=>refine ⟨⟨?_, ?_⟩,⟨?_, ?_⟩, ?_⟩<;>exact ⟨rfl,lab_pr _ ⟨[], []⟩,shrink_oldq (by simp only;omega) hbo⟩
  |true=>
   rw [hno] at hz hz'
   have hse:x.s.er=none:=by simpa using hno
   obtain ⟨hm1,hm2,hm3⟩:=hm hse
   obtain ⟨m,rfl⟩: ∃m',m=m' +1:=⟨m-1,by omega⟩
   rw [prF] at hG
   have hT:=fun (H:Hp) (b1:h.n+1<H.n) (b2:H.bk (h.n+1)=rfX ts x.s x.d)=>fy_now (h:=H) b1 hx.1 b2
   cases hk5:((tkS ts x.s).k !=5) with
   |false=>
    rw [hno,hk5,if_neg (by simp)] at hG
    subst hG
    simp only [go_sem,seval,f2,f5,f8,hb1',hz,hz']
    refine ccall (hT _ (by simp only;omega) (by simp only;exact hb1)) (by simp only [go_sem,seval,f5]) ?_
    simp only [go_sem,seval,f2,f5,f8,hk5,hb1',hz,hz',hb2,hb3]
    simp only [hse]
    exact ⟨rfl,lab_pr _ ⟨cs,rs⟩,shrink_oldq (by simp only;omega) hbo⟩
   |true=>
    rw [hno,hk5,if_pos (show (true&&true)=true from rfl)] at hG
    simp only [go_sem,seval,f2,f5,f8,hb1',hz,hz']
    refine ccall (hT _ (by simp only;omega) (by simp only;exact hb1)) (by simp only [go_sem,seval,f5]) ?_
    simp only [go_sem,seval,f2,f5,f8,hk5]
    refine ccall (hT _ (by simp only;omega) (by simp only;exact hb1)) (by simp only [go_sem,seval,f5]) ?_
    have q0: ¬h.n+1=hp'.n:=by omega
    have q1: ¬hp'.n=h.n+1:=by omega
    have q2: ¬h.n+2=hp'.n:=by omega
    have q3: ¬hp'.n=h.n+2:=by omega
    have q4: ¬h.n=hp'.n:=by omega
    have q5: ¬hp'.n=h.n:=by omega
    have r0: ¬h.n+1=hp'.n+1:=by omega
    have r1: ¬hp'.n+1=h.n+1:=by omega
    have r2: ¬h.n+2=hp'.n+1:=by omega
    have r3: ¬hp'.n+1=h.n+2:=by omega
    have r4: ¬h.n=hp'.n+1:=by omega
    have r5: ¬hp'.n+1=h.n:=by omega
    have r6: ¬hp'.n=hp'.n+1:=by omega
    have r7: ¬hp'.n+1=hp'.n:=by omega
    have kI:=itemF_ok W (cs:=cs) (rs:=rs) hx
    have kl:=itemF_len ts cs rs x
    generalize hIt:itemF ts cs rs x=It at *
    unfold itemF at hIt
    generalize (tkS ts x.s).p=at0 at *
    have hM:=fun (H:Hp) (b1:h.n+1<H.n) (b2:H.bk (h.n+1)=rfX ts x.s x.d)=>fy_term (h:=H) b1 W hx b2
    have h1:=hx.to (tmF_ok W hx) (fun e=>tmF_st (x:=x) e)
    generalize tmF ts x=R at *
    obtain ⟨⟨a',b',c',e'⟩,s1⟩:=R
    simp only [avf_mk] at h1 hM hIt
    simp only [go_sem,seval,f2,f5,f8,q0,q1,q2,q3,q4,q5,r0,r1,r2,r3,r4,r5,r6,r7,p4,p5]
    refine ccall (hM _ (by simp only;omega) (by simp only;exact hb1)) (by simp only [go_sem,seval,f5]) ?_
    simp only [go_sem,seval,f2,f5,f8,q0,q1,q2,q3,q4,q5,r0,r1,r2,r3,r4,r5,r6,r7,p4,p5]
    refine ccall (fy_take (l:=h.n+1) (ts:=ts) (s:=s1) (d:=x.d) (by simp;omega) h1.1 (by simp [bk_apply,q0]) W [60,45]) (by simp only [go_sem,seval,f5]) ?_
    cases ht:takeS ts [60,45] s1 with
    |true=>
     rw [if_pos ht] at hIt
     unfold itRF at hIt
     have h2:=h1.to (goS_ok (c:= [60,45]) W.Nx h1.1) (fun e=>goS_st e)
     simp only at h2
     generalize goS ts [60,45] s1=s2 at *
     have hR:=fun (H:Hp) (b1:h.n+1<H.n) (b2:H.bk (h.n+1)=rfX ts s2 x.d)=>fy_rule (h:=H) b1 W h2 b2 (T.mk a' b' c' e')
     obtain ⟨k1,k2,k3⟩:=ruleF_ok W (t:=T.mk a' b' c' e') h2
     have kg:=fun e=>ruleF_gg W (t:=T.mk a' b' c' e') h2 e
     simp only [avf_mk] at hR
     generalize ruleF ts (T.mk a' b' c' e') ⟨s2,x.d⟩=R at *
     obtain ⟨⟨⟨ha,hb_,hc_,he_⟩,⟨k,⟨tk,tn,tv,tl⟩,rel,pl,pr,pc⟩,gs,wi,pol⟩,⟨s3,d3⟩⟩:=R
     simp only at k1 k2 k3 kg hR hIt
     have hru:(Ru.mk (.mk ha hb_ hc_ he_) (.mk k (.mk tk tn tv tl) rel pl pr pc) gs wi pol).avf= .agg [.int .i64 ha, .str hb_, .int .i64 hc_, .sl (flS he_) 4 (he_.map T.avf), .int .i64 k, .int .i64 tk, .str tn, .int .i64 tv, .sl (flS tl) 4 (tl.map T.avf), .int .i64 rel, .sl (flP pl) 9 (pl.map Pn.avf), .sl (flP pr) 9 (pr.map Pn.avf), .sl (flP pc) 9 (pc.map Pn.avf), .sl (flG gs) 9 (gs.map Gu.avf), .int .i64 wi, .int .i64 pol]:=rfl
     rw [hru] at hR
     generalize (tkS ts s2).p=from0 at *
     simp only [go_sem,seval,f2,f5,f8,q0,q1,q2,q3,q4,q5,r0,r1,r2,r3,r4,r5,r6,r7,p4,p5]
     refine ccall (hR _ (by simp;omega) (by simp [bk_apply,q0])) (by simp only [go_sem,seval,f5]) ?_
     simp only [go_sem,seval,f2,f5,f8,q0,q1,q2,q3,q4,q5,r0,r1,r2,r3,r4,r5,r6,r7,p4,p5]
     refine ccall (fy_must (l:=h.n+1) (ts:=ts) (s:=s3) (d:=d3) (by simp;omega) k1.1 (by simp [bk_apply,q0,q4]) W 4 [46]) (by simp only [go_sem,seval,f5]) ?_
     rw [needK_4]
     have h4:=needS_ok (c:= [46]) W.Nx k1.1
     have h4g:=fun e=>kg (needS_st (ts:=ts) (c:= [46]) e)
     generalize needS ts [46] s3=s4 at *
     have hz4:=erE_z h4.2
     have hrf4:rfX ts s4 d3= .cells [.sl .sh 4 (ts.map Tk.av), .int .i64 (s4.i:Nat), .int .i64 (erE s4.er), .int .i64 ((erP 0 s4.er:Nat):Int), .int .i64 d3]:=rfl
     cases hn4:s4.er.isNone with
     |false=>
      rw [hn4] at hz4 hIt
      rw [show (false&&muchP (Pn.mk k (T.mk tk tn tv tl) rel pl pr pc))=false from rfl,show limF false from0 s4=s4 from rfl,hn4,show (false&&((rs.length:Int)==20))=false from rfl,show limF false at0 s4=s4 from rfl] at hIt
      simp only [go_sem,seval,f2,f5,f8,hrf4,hz4,hb2,q0,q1,q2,q3,q4,q5,r0,r1,r2,r3,r4,r5,r6,r7,p4,p5]
      rw [←hrf4]
      have hrl:rs.length<1000000000:=by omega
      cases rs with
      |nil=>
       have a1:1 * 240≤140737488355328:=by omega
       have a2:0≤9223372036854775805:=by omega
       simp only [go_sem,seval,hb2,flRo,flR,f2,f5,f8,q0,q1,q2,q3,q4,q5,r0,r1,r2,r3,r4,r5,r6,r7,p4,p5,a1,a2]
       subst hIt
       exact ⟨m,by omega,cs, []++ [(Ru.mk (.mk ha hb_ hc_ he_) (.mk k (.mk tk tn tv tl) rel pl pr pc) gs wi pol)],⟨s4,d3⟩,kI.1,fun e=>by obtain ⟨_,_,a⟩:=kI.2 e;simp at a kl ⊢;exact ⟨by omega,by omega,by omega⟩,by omega,by first|rfl|trivial,by simp [flRo,hru],hb3,fun q hq=>by simp [show q≠h.n+1 by omega,show q≠h.n+2 by omega,show q≠hp'.n by omega,show q≠hp'.n+1 by omega];exact hbo q hq,hG⟩
      |cons y rs=>
       have a1:(rs.length+2) * 240≤140737488355328:=by simp at hrl;omega
       have a2:rs.length≤9223372036854775805:=by simp at hrl;omega
       simp only [go_sem,seval,hb2,flRo,flR,f2,f5,f8,q0,q1,q2,q3,q4,q5,r0,r1,r2,r3,r4,r5,r6,r7,p4,p5,a1,a2]
       subst hIt
       exact ⟨m,by omega,cs,(y::rs)++ [(Ru.mk (.mk ha hb_ hc_ he_) (.mk k (.mk tk tn tv tl) rel pl pr pc) gs wi pol)],⟨s4,d3⟩,kI.1,fun e=>by obtain ⟨_,_,a⟩:=kI.2 e;simp at a kl hm3 ⊢;exact ⟨by omega,by omega,by omega⟩,by omega,by first|rfl|trivial,by simp [flRo,hru],hb3,fun q hq=>by simp [show q≠h.n+1 by omega,show q≠h.n+2 by omega,show q≠hp'.n by omega,show q≠hp'.n+1 by omega];exact hbo q hq,hG⟩
     |true=>
      have hse4:s4.er=none:=by simpa using hn4
      have hMu:PFn Tryz.prog 57 [(Pn.mk k (T.mk tk tn tv tl) rel pl pr pc).avf] (.bool (muchP (Pn.mk k (T.mk tk tn tv tl) rel pl pr pc))):=fy_much _ (h4g hse4)
      simp only [pavf_mk] at hMu
      rw [hn4] at hz4 hIt
      simp only [go_sem,seval,f2,f5,f8,hrf4,hz4,q0,q1,q2,q3,q4,q5,r0,r1,r2,r3,r4,r5,r6,r7,p4,p5]
      rw [←hrf4]
      refine pcall hMu (by simp only [go_sem,seval]) ?_
      cases hmu:muchP (Pn.mk k (T.mk tk tn tv tl) rel pl pr pc) with
      |true=>
       rw [hmu,show (true&&true)=true from rfl,show limF true from0 s4=failS from0 2 s4 from rfl] at hIt
       have hn5:(failS from0 2 s4).er.isNone=false:=by
        cases h:(failS from0 2 s4).er with
        |none=>exact (failS_no h).elim
        |some _=>rfl
       have h5:=failS_ok (ts:=ts) (p:=from0) (e:=2) h4 (by decide)
       have hz5:=erE_z h5.2
       rw [hn5] at hz5
       rw [hn5,show (false&&((rs.length:Int)==20))=false from rfl] at hIt
       simp only [go_sem,seval,f2,f5,f8,q0,q1,q2,q3,q4,q5,r0,r1,r2,r3,r4,r5,r6,r7,p4,p5]
       refine ccall (fy_fails (l:=h.n+1) (ts:=ts) (s:=s4) (d:=d3) (by simp;omega) h4 (by simp [bk_apply,q0,q4]) from0 2) (by simp only [go_sem,seval,f5]) ?_
       generalize failS from0 2 s4=s5 at *
       rw [show limF false at0 s5=s5 from rfl] at hIt
       have hrf5:rfX ts s5 d3= .cells [.sl .sh 4 (ts.map Tk.av), .int .i64 (s5.i:Nat), .int .i64 (erE s5.er), .int .i64 ((erP 0 s5.er:Nat):Int), .int .i64 d3]:=rfl
       simp only [go_sem,seval,f2,f5,f8,hrf5,hz5,hb2,q0,q1,q2,q3,q4,q5,r0,r1,r2,r3,r4,r5,r6,r7,p4,p5]
       rw [←hrf5]
       have hrl:rs.length<1000000000:=by omega
       cases rs with
       |nil=>
        have a1:1 * 240≤140737488355328:=by omega
        have a2:0≤9223372036854775805:=by omega
        simp only [go_sem,seval,hb2,flRo,flR,f2,f5,f8,q0,q1,q2,q3,q4,q5,r0,r1,r2,r3,r4,r5,r6,r7,p4,p5,a1,a2]
        subst hIt
        exact ⟨m,by omega,cs, []++ [(Ru.mk (.mk ha hb_ hc_ he_) (.mk k (.mk tk tn tv tl) rel pl pr pc) gs wi pol)],⟨s5,d3⟩,kI.1,fun e=>by obtain ⟨_,_,a⟩:=kI.2 e;simp at a kl ⊢;exact ⟨by omega,by omega,by omega⟩,by omega,by first|rfl|trivial,by simp [flRo,hru],hb3,fun q hq=>by simp [show q≠h.n+1 by omega,show q≠h.n+2 by omega,show q≠hp'.n by omega,show q≠hp'.n+1 by omega];exact hbo q hq,hG⟩
       |cons y rs=>
        have a1:(rs.length+2) * 240≤140737488355328:=by simp at hrl;omega
        have a2:rs.length≤9223372036854775805:=by simp at hrl;omega
        simp only [go_sem,seval,hb2,flRo,flR,f2,f5,f8,q0,q1,q2,q3,q4,q5,r0,r1,r2,r3,r4,r5,r6,r7,p4,p5,a1,a2]
        subst hIt
        exact ⟨m,by omega,cs,(y::rs)++ [(Ru.mk (.mk ha hb_ hc_ he_) (.mk k (.mk tk tn tv tl) rel pl pr pc) gs wi pol)],⟨s5,d3⟩,kI.1,fun e=>by obtain ⟨_,_,a⟩:=kI.2 e;simp at a kl hm3 ⊢;exact ⟨by omega,by omega,by omega⟩,by omega,by first|rfl|trivial,by simp [flRo,hru],hb3,fun q hq=>by simp [show q≠h.n+1 by omega,show q≠h.n+2 by omega,show q≠hp'.n by omega,show q≠hp'.n+1 by omega];exact hbo q hq,hG⟩
      |false=>
       rw [hmu,show (true&&false)=false from rfl,show limF false from0 s4=s4 from rfl,hn4] at hIt
       cases hq:((rs.length:Int)==20) with
       |true=>
        rw [hq,show (true&&true)=true from rfl,show limF true at0 s4=failS at0 2 s4 from rfl] at hIt
        simp only [go_sem,seval,f2,f5,f8,hrf4,hz4,hb2,List.length_map,hq,q0,q1,q2,q3,q4,q5,r0,r1,r2,r3,r4,r5,r6,r7,p4,p5]
        rw [←hrf4]
        refine ccall (fy_fails (l:=h.n+1) (ts:=ts) (s:=s4) (d:=d3) (by simp;omega) h4 (by simp [bk_apply,q0,q4]) at0 2) (by simp only [go_sem,seval,f5]) ?_
        generalize failS at0 2 s4=s5 at *
        simp only [go_sem,seval,f2,f5,f8,hb2,q0,q1,q2,q3,q4,q5,r0,r1,r2,r3,r4,r5,r6,r7,p4,p5]
        have hrl:rs.length<1000000000:=by omega
        cases rs with
        |nil=>
         have a1:1 * 240≤140737488355328:=by omega
         have a2:0≤9223372036854775805:=by omega
         simp only [go_sem,seval,hb2,flRo,flR,f2,f5,f8,q0,q1,q2,q3,q4,q5,r0,r1,r2,r3,r4,r5,r6,r7,p4,p5,a1,a2]
         subst hIt
         exact ⟨m,by omega,cs, []++ [(Ru.mk (.mk ha hb_ hc_ he_) (.mk k (.mk tk tn tv tl) rel pl pr pc) gs wi pol)],⟨s5,d3⟩,kI.1,fun e=>by obtain ⟨_,_,a⟩:=kI.2 e;simp at a kl ⊢;exact ⟨by omega,by omega,by omega⟩,by omega,by first|rfl|trivial,by simp [flRo,hru],hb3,fun q hq=>by simp [show q≠h.n+1 by omega,show q≠h.n+2 by omega,show q≠hp'.n by omega,show q≠hp'.n+1 by omega];exact hbo q hq,hG⟩
        |cons y rs=>
         have a1:(rs.length+2) * 240≤140737488355328:=by simp at hrl;omega
         have a2:rs.length≤9223372036854775805:=by simp at hrl;omega
         simp only [go_sem,seval,hb2,flRo,flR,f2,f5,f8,q0,q1,q2,q3,q4,q5,r0,r1,r2,r3,r4,r5,r6,r7,p4,p5,a1,a2]
         subst hIt
         exact ⟨m,by omega,cs,(y::rs)++ [(Ru.mk (.mk ha hb_ hc_ he_) (.mk k (.mk tk tn tv tl) rel pl pr pc) gs wi pol)],⟨s5,d3⟩,kI.1,fun e=>by obtain ⟨_,_,a⟩:=kI.2 e;simp at a kl hm3 ⊢;exact ⟨by omega,by omega,by omega⟩,by omega,by first|rfl|trivial,by simp [flRo,hru],hb3,fun q hq=>by simp [show q≠h.n+1 by omega,show q≠h.n+2 by omega,show q≠hp'.n by omega,show q≠hp'.n+1 by omega];exact hbo q hq,hG⟩
       |false=>
        rw [hq,show (true&&false)=false from rfl,show limF false at0 s4=s4 from rfl] at hIt
        simp only [go_sem,seval,f2,f5,f8,hrf4,hz4,hb2,List.length_map,hq,q0,q1,q2,q3,q4,q5,r0,r1,r2,r3,r4,r5,r6,r7,p4,p5]
        rw [←hrf4]
        have hrl:rs.length<1000000000:=by omega
        cases rs with
        |nil=>
         have a1:1 * 240≤140737488355328:=by omega
         have a2:0≤9223372036854775805:=by omega
         simp only [go_sem,seval,hb2,flRo,flR,f2,f5,f8,q0,q1,q2,q3,q4,q5,r0,r1,r2,r3,r4,r5,r6,r7,p4,p5,a1,a2]
         subst hIt
         exact ⟨m,by omega,cs, []++ [(Ru.mk (.mk ha hb_ hc_ he_) (.mk k (.mk tk tn tv tl) rel pl pr pc) gs wi pol)],⟨s4,d3⟩,kI.1,fun e=>by obtain ⟨_,_,a⟩:=kI.2 e;simp at a kl ⊢;exact ⟨by omega,by omega,by omega⟩,by omega,by first|rfl|trivial,by simp [flRo,hru],hb3,fun q hq=>by simp [show q≠h.n+1 by omega,show q≠h.n+2 by omega,show q≠hp'.n by omega,show q≠hp'.n+1 by omega];exact hbo q hq,hG⟩
        |cons y rs=>
         have a1:(rs.length+2) * 240≤140737488355328:=by simp at hrl;omega
         have a2:rs.length≤9223372036854775805:=by simp at hrl;omega
         simp only [go_sem,seval,hb2,flRo,flR,f2,f5,f8,q0,q1,q2,q3,q4,q5,r0,r1,r2,r3,r4,r5,r6,r7,p4,p5,a1,a2]
         subst hIt
         exact ⟨m,by omega,cs,(y::rs)++ [(Ru.mk (.mk ha hb_ hc_ he_) (.mk k (.mk tk tn tv tl) rel pl pr pc) gs wi pol)],⟨s4,d3⟩,kI.1,fun e=>by obtain ⟨_,_,a⟩:=kI.2 e;simp at a kl hm3 ⊢;exact ⟨by omega,by omega,by omega⟩,by omega,by first|rfl|trivial,by simp [flRo,hru],hb3,fun q hq=>by simp [show q≠h.n+1 by omega,show q≠h.n+2 by omega,show q≠hp'.n by omega,show q≠hp'.n+1 by omega];exact hbo q hq,hG⟩
    |false=>
     rw [if_neg (by simp [ht])] at hIt
     rw [show goS ts [60,45] s1=s1 by unfold goS;rw [if_neg (by simp [ht])]]
     unfold itCF at hIt
     simp only [go_sem,seval,f2,f5,f8,q0,q1,q2,q3,q4,q5,r0,r1,r2,r3,r4,r5,r6,r7,p4,p5]
     refine ccall (fy_take (l:=h.n+1) (ts:=ts) (s:=s1) (d:=x.d) (by simp;omega) h1.1 (by simp [bk_apply,q0,q4]) W [58,45]) (by simp only [go_sem,seval,f5]) ?_
     simp only at hIt
     cases ht2:takeS ts [58,45] s1 with
     |true=>
      rw [if_pos ht2] at hIt
      have h2:=h1.to (goS_ok (c:= [58,45]) W.Nx h1.1) (fun e=>goS_st e)
      simp only at h2
      generalize goS ts [58,45] s1=s2 at *
      have hC:=fun (H:Hp) (b1:h.n+1<H.n) (b2:H.bk (h.n+1)=rfX ts s2 x.d)=>fy_clause (h:=H) b1 W h2 b2 (T.mk a' b' c' e')
      obtain ⟨k1,k2,k3⟩:=clauseF_ok W (t:=T.mk a' b' c' e') h2
      simp only [avf_mk] at hC
      generalize clauseF ts (T.mk a' b' c' e') ⟨s2,x.d⟩=R at *
      obtain ⟨⟨⟨ca,cb,cc,ce⟩,cbd,cg⟩,s3⟩:=R
      simp only at k1 k2 k3 hC hIt
      have hcl:(Cl.mk (.mk ca cb cc ce) cbd cg).avf= .agg [.int .i64 ca, .str cb, .int .i64 cc, .sl (flS ce) 4 (ce.map T.avf), .sl (flS cbd) 4 (cbd.map T.avf), .sl (flG cg) 9 (cg.map Gu.avf)]:=rfl
      rw [hcl] at hC
      simp only [go_sem,seval,f2,f5,f8,q0,q1,q2,q3,q4,q5,r0,r1,r2,r3,r4,r5,r6,r7,p4,p5]
      refine ccall (hC _ (by simp;omega) (by simp [bk_apply,q0,q4])) (by simp only [go_sem,seval,f5]) ?_
      simp only [go_sem,seval,f2,f5,f8,q0,q1,q2,q3,q4,q5,r0,r1,r2,r3,r4,r5,r6,r7,p4,p5]
      refine ccall (fy_must (l:=h.n+1) (ts:=ts) (s:=s3) (d:=x.d) (by simp;omega) k1 (by simp [bk_apply,q0,q4]) W 4 [46]) (by simp only [go_sem,seval,f5]) ?_
      rw [needK_4]
      have h4:=needS_ok (c:= [46]) W.Nx k1
      generalize needS ts [46] s3=s4 at *
      have hz4:=erE_z h4.2
      have hrf4:rfX ts s4 x.d= .cells [.sl .sh 4 (ts.map Tk.av), .int .i64 (s4.i:Nat), .int .i64 (erE s4.er), .int .i64 ((erP 0 s4.er:Nat):Int), .int .i64 x.d]:=rfl
      cases hn4:s4.er.isNone with
      |false=>
       rw [hn4] at hz4 hIt
       rw [show (false&&((cs.length:Int)==30))=false from rfl,show limF false at0 s4=s4 from rfl] at hIt
       simp only [go_sem,seval,f2,f5,f8,hrf4,hz4,hb2,q0,q1,q2,q3,q4,q5,r0,r1,r2,r3,r4,r5,r6,r7,p4,p5]
       rw [←hrf4]
       have hrl:cs.length<1000000000:=by omega
       cases cs with
       |nil=>
        have a1:1 * 104≤140737488355328:=by omega
        have a2:0≤9223372036854775805:=by omega
        simp only [go_sem,seval,hb2,flCo,flC,f2,f5,f8,q0,q1,q2,q3,q4,q5,r0,r1,r2,r3,r4,r5,r6,r7,p4,p5,a1,a2]
        subst hIt
        exact ⟨m,by omega, []++ [(Cl.mk (.mk ca cb cc ce) cbd cg)],rs,⟨s4,x.d⟩,kI.1,fun e=>by obtain ⟨_,_,a⟩:=kI.2 e;simp at a kl ⊢;exact ⟨by omega,by omega,by omega⟩,by omega,by first|rfl|trivial,by simp [flCo,hcl],hb3,fun q hq=>by simp [show q≠h.n+1 by omega,show q≠h.n+2 by omega,show q≠hp'.n by omega,show q≠hp'.n+1 by omega];exact hbo q hq,hG⟩
       |cons y cs=>
        have a1:(cs.length+2) * 104≤140737488355328:=by simp at hrl;omega
        have a2:cs.length≤9223372036854775805:=by simp at hrl;omega
        simp only [go_sem,seval,hb2,flCo,flC,f2,f5,f8,q0,q1,q2,q3,q4,q5,r0,r1,r2,r3,r4,r5,r6,r7,p4,p5,a1,a2]
        subst hIt
        exact ⟨m,by omega,(y::cs)++ [(Cl.mk (.mk ca cb cc ce) cbd cg)],rs,⟨s4,x.d⟩,kI.1,fun e=>by obtain ⟨_,_,a⟩:=kI.2 e;simp at a kl hm2 ⊢;exact ⟨by omega,by omega,by omega⟩,by omega,by first|rfl|trivial,by simp [flCo,hcl],hb3,fun q hq=>by simp [show q≠h.n+1 by omega,show q≠h.n+2 by omega,show q≠hp'.n by omega,show q≠hp'.n+1 by omega];exact hbo q hq,hG⟩
      |true=>
       rw [hn4] at hz4 hIt
       cases hq:((cs.length:Int)==30) with
       |true=>
        rw [hq,show (true&&true)=true from rfl,show limF true at0 s4=failS at0 2 s4 from rfl] at hIt
        simp only [go_sem,seval,f2,f5,f8,hrf4,hz4,hb2,List.length_map,hq,q0,q1,q2,q3,q4,q5,r0,r1,r2,r3,r4,r5,r6,r7,p4,p5]
        rw [←hrf4]
        refine ccall (fy_fails (l:=h.n+1) (ts:=ts) (s:=s4) (d:=x.d) (by simp;omega) h4 (by simp [bk_apply,q0,q4]) at0 2) (by simp only [go_sem,seval,f5]) ?_
        generalize failS at0 2 s4=s5 at *
        simp only [go_sem,seval,f2,f5,f8,hb2,q0,q1,q2,q3,q4,q5,r0,r1,r2,r3,r4,r5,r6,r7,p4,p5]
        have hrl:cs.length<1000000000:=by omega
        cases cs with
        |nil=>
         have a1:1 * 104≤140737488355328:=by omega
         have a2:0≤9223372036854775805:=by omega
         simp only [go_sem,seval,hb2,flCo,flC,f2,f5,f8,q0,q1,q2,q3,q4,q5,r0,r1,r2,r3,r4,r5,r6,r7,p4,p5,a1,a2]
         subst hIt
         exact ⟨m,by omega, []++ [(Cl.mk (.mk ca cb cc ce) cbd cg)],rs,⟨s5,x.d⟩,kI.1,fun e=>by obtain ⟨_,_,a⟩:=kI.2 e;simp at a kl ⊢;exact ⟨by omega,by omega,by omega⟩,by omega,by first|rfl|trivial,by simp [flCo,hcl],hb3,fun q hq=>by simp [show q≠h.n+1 by omega,show q≠h.n+2 by omega,show q≠hp'.n by omega,show q≠hp'.n+1 by omega];exact hbo q hq,hG⟩
        |cons y cs=>
         have a1:(cs.length+2) * 104≤140737488355328:=by simp at hrl;omega
         have a2:cs.length≤9223372036854775805:=by simp at hrl;omega
         simp only [go_sem,seval,hb2,flCo,flC,f2,f5,f8,q0,q1,q2,q3,q4,q5,r0,r1,r2,r3,r4,r5,r6,r7,p4,p5,a1,a2]
         subst hIt
         exact ⟨m,by omega,(y::cs)++ [(Cl.mk (.mk ca cb cc ce) cbd cg)],rs,⟨s5,x.d⟩,kI.1,fun e=>by obtain ⟨_,_,a⟩:=kI.2 e;simp at a kl hm2 ⊢;exact ⟨by omega,by omega,by omega⟩,by omega,by first|rfl|trivial,by simp [flCo,hcl],hb3,fun q hq=>by simp [show q≠h.n+1 by omega,show q≠h.n+2 by omega,show q≠hp'.n by omega,show q≠hp'.n+1 by omega];exact hbo q hq,hG⟩
       |false=>
        rw [hq,show (true&&false)=false from rfl,show limF false at0 s4=s4 from rfl] at hIt
        simp only [go_sem,seval,f2,f5,f8,hrf4,hz4,hb2,List.length_map,hq,q0,q1,q2,q3,q4,q5,r0,r1,r2,r3,r4,r5,r6,r7,p4,p5]
        rw [←hrf4]
        have hrl:cs.length<1000000000:=by omega
        cases cs with
        |nil=>
         have a1:1 * 104≤140737488355328:=by omega
         have a2:0≤9223372036854775805:=by omega
         simp only [go_sem,seval,hb2,flCo,flC,f2,f5,f8,q0,q1,q2,q3,q4,q5,r0,r1,r2,r3,r4,r5,r6,r7,p4,p5,a1,a2]
         subst hIt
         exact ⟨m,by omega, []++ [(Cl.mk (.mk ca cb cc ce) cbd cg)],rs,⟨s4,x.d⟩,kI.1,fun e=>by obtain ⟨_,_,a⟩:=kI.2 e;simp at a kl ⊢;exact ⟨by omega,by omega,by omega⟩,by omega,by first|rfl|trivial,by simp [flCo,hcl],hb3,fun q hq=>by simp [show q≠h.n+1 by omega,show q≠h.n+2 by omega,show q≠hp'.n by omega,show q≠hp'.n+1 by omega];exact hbo q hq,hG⟩
        |cons y cs=>
         have a1:(cs.length+2) * 104≤140737488355328:=by simp at hrl;omega
         have a2:cs.length≤9223372036854775805:=by simp at hrl;omega
         simp only [go_sem,seval,hb2,flCo,flC,f2,f5,f8,q0,q1,q2,q3,q4,q5,r0,r1,r2,r3,r4,r5,r6,r7,p4,p5,a1,a2]
         subst hIt
         exact ⟨m,by omega,(y::cs)++ [(Cl.mk (.mk ca cb cc ce) cbd cg)],rs,⟨s4,x.d⟩,kI.1,fun e=>by obtain ⟨_,_,a⟩:=kI.2 e;simp at a kl hm2 ⊢;exact ⟨by omega,by omega,by omega⟩,by omega,by first|rfl|trivial,by simp [flCo,hcl],hb3,fun q hq=>by simp [show q≠h.n+1 by omega,show q≠h.n+2 by omega,show q≠hp'.n by omega,show q≠hp'.n+1 by omega];exact hbo q hq,hG⟩
     |false=>
      rw [if_neg (by simp [ht2])] at hIt
      rw [show goS ts [58,45] s1=s1 by unfold goS;rw [if_neg (by simp [ht2])]]
      have k1:=h1.1
      simp only at k1 hIt
      have hcl:(Cl.mk (.mk a' b' c' e') [] []).avf= .agg [.int .i64 a', .str b', .int .i64 c', .sl (flS e') 4 (e'.map T.avf), .sl .full 4 [], .sl .full 9 []]:=rfl
      generalize s1=s3 at *
      simp only [go_sem,seval,f2,f5,f8,q0,q1,q2,q3,q4,q5,r0,r1,r2,r3,r4,r5,r6,r7,p4,p5]
      refine ccall (fy_must (l:=h.n+1) (ts:=ts) (s:=s3) (d:=x.d) (by simp;omega) k1 (by simp [bk_apply,q0,q4]) W 4 [46]) (by simp only [go_sem,seval,f5]) ?_
      rw [needK_4]
      have h4:=needS_ok (c:= [46]) W.Nx k1
      generalize needS ts [46] s3=s4 at *
      have hz4:=erE_z h4.2
      have hrf4:rfX ts s4 x.d= .cells [.sl .sh 4 (ts.map Tk.av), .int .i64 (s4.i:Nat), .int .i64 (erE s4.er), .int .i64 ((erP 0 s4.er:Nat):Int), .int .i64 x.d]:=rfl
      cases hn4:s4.er.isNone with
      |false=>
       rw [hn4] at hz4 hIt
       rw [show (false&&((cs.length:Int)==30))=false from rfl,show limF false at0 s4=s4 from rfl] at hIt
       simp only [go_sem,seval,f2,f5,f8,hrf4,hz4,hb2,q0,q1,q2,q3,q4,q5,r0,r1,r2,r3,r4,r5,r6,r7,p4,p5]
       rw [←hrf4]
       have hrl:cs.length<1000000000:=by omega
       cases cs with
       |nil=>
        have a1:1 * 104≤140737488355328:=by omega
        have a2:0≤9223372036854775805:=by omega
        simp only [go_sem,seval,hb2,flCo,flC,f2,f5,f8,q0,q1,q2,q3,q4,q5,r0,r1,r2,r3,r4,r5,r6,r7,p4,p5,a1,a2]
        subst hIt
        exact ⟨m,by omega, []++ [(Cl.mk (.mk a' b' c' e') [] [])],rs,⟨s4,x.d⟩,kI.1,fun e=>by obtain ⟨_,_,a⟩:=kI.2 e;simp at a kl ⊢;exact ⟨by omega,by omega,by omega⟩,by omega,by first|rfl|trivial,by simp [flCo,hcl],hb3,fun q hq=>by simp [show q≠h.n+1 by omega,show q≠h.n+2 by omega,show q≠hp'.n by omega,show q≠hp'.n+1 by omega];exact hbo q hq,hG⟩
       |cons y cs=>
        have a1:(cs.length+2) * 104≤140737488355328:=by simp at hrl;omega
        have a2:cs.length≤9223372036854775805:=by simp at hrl;omega
        simp only [go_sem,seval,hb2,flCo,flC,f2,f5,f8,q0,q1,q2,q3,q4,q5,r0,r1,r2,r3,r4,r5,r6,r7,p4,p5,a1,a2]
        subst hIt
        exact ⟨m,by omega,(y::cs)++ [(Cl.mk (.mk a' b' c' e') [] [])],rs,⟨s4,x.d⟩,kI.1,fun e=>by obtain ⟨_,_,a⟩:=kI.2 e;simp at a kl hm2 ⊢;exact ⟨by omega,by omega,by omega⟩,by omega,by first|rfl|trivial,by simp [flCo,hcl],hb3,fun q hq=>by simp [show q≠h.n+1 by omega,show q≠h.n+2 by omega,show q≠hp'.n by omega,show q≠hp'.n+1 by omega];exact hbo q hq,hG⟩
      |true=>
       rw [hn4] at hz4 hIt
       cases hq:((cs.length:Int)==30) with
       |true=>
        rw [hq,show (true&&true)=true from rfl,show limF true at0 s4=failS at0 2 s4 from rfl] at hIt
        simp only [go_sem,seval,f2,f5,f8,hrf4,hz4,hb2,List.length_map,hq,q0,q1,q2,q3,q4,q5,r0,r1,r2,r3,r4,r5,r6,r7,p4,p5]
        rw [←hrf4]
        refine ccall (fy_fails (l:=h.n+1) (ts:=ts) (s:=s4) (d:=x.d) (by simp;omega) h4 (by simp [bk_apply,q0,q4]) at0 2) (by simp only [go_sem,seval,f5]) ?_
        generalize failS at0 2 s4=s5 at *
        simp only [go_sem,seval,f2,f5,f8,hb2,q0,q1,q2,q3,q4,q5,r0,r1,r2,r3,r4,r5,r6,r7,p4,p5]
        have hrl:cs.length<1000000000:=by omega
        cases cs with
        |nil=>
         have a1:1 * 104≤140737488355328:=by omega
         have a2:0≤9223372036854775805:=by omega
         simp only [go_sem,seval,hb2,flCo,flC,f2,f5,f8,q0,q1,q2,q3,q4,q5,r0,r1,r2,r3,r4,r5,r6,r7,p4,p5,a1,a2]
         subst hIt
         exact ⟨m,by omega, []++ [(Cl.mk (.mk a' b' c' e') [] [])],rs,⟨s5,x.d⟩,kI.1,fun e=>by obtain ⟨_,_,a⟩:=kI.2 e;simp at a kl ⊢;exact ⟨by omega,by omega,by omega⟩,by omega,by first|rfl|trivial,by simp [flCo,hcl],hb3,fun q hq=>by simp [show q≠h.n+1 by omega,show q≠h.n+2 by omega,show q≠hp'.n by omega,show q≠hp'.n+1 by omega];exact hbo q hq,hG⟩
        |cons y cs=>
         have a1:(cs.length+2) * 104≤140737488355328:=by simp at hrl;omega
         have a2:cs.length≤9223372036854775805:=by simp at hrl;omega
         simp only [go_sem,seval,hb2,flCo,flC,f2,f5,f8,q0,q1,q2,q3,q4,q5,r0,r1,r2,r3,r4,r5,r6,r7,p4,p5,a1,a2]
         subst hIt
         exact ⟨m,by omega,(y::cs)++ [(Cl.mk (.mk a' b' c' e') [] [])],rs,⟨s5,x.d⟩,kI.1,fun e=>by obtain ⟨_,_,a⟩:=kI.2 e;simp at a kl hm2 ⊢;exact ⟨by omega,by omega,by omega⟩,by omega,by first|rfl|trivial,by simp [flCo,hcl],hb3,fun q hq=>by simp [show q≠h.n+1 by omega,show q≠h.n+2 by omega,show q≠hp'.n by omega,show q≠hp'.n+1 by omega];exact hbo q hq,hG⟩
       |false=>
        rw [hq,show (true&&false)=false from rfl,show limF false at0 s4=s4 from rfl] at hIt
        simp only [go_sem,seval,f2,f5,f8,hrf4,hz4,hb2,List.length_map,hq,q0,q1,q2,q3,q4,q5,r0,r1,r2,r3,r4,r5,r6,r7,p4,p5]
        rw [←hrf4]
        have hrl:cs.length<1000000000:=by omega
        cases cs with
        |nil=>
         have a1:1 * 104≤140737488355328:=by omega
         have a2:0≤9223372036854775805:=by omega
         simp only [go_sem,seval,hb2,flCo,flC,f2,f5,f8,q0,q1,q2,q3,q4,q5,r0,r1,r2,r3,r4,r5,r6,r7,p4,p5,a1,a2]
         subst hIt
         exact ⟨m,by omega, []++ [(Cl.mk (.mk a' b' c' e') [] [])],rs,⟨s4,x.d⟩,kI.1,fun e=>by obtain ⟨_,_,a⟩:=kI.2 e;simp at a kl ⊢;exact ⟨by omega,by omega,by omega⟩,by omega,by first|rfl|trivial,by simp [flCo,hcl],hb3,fun q hq=>by simp [show q≠h.n+1 by omega,show q≠h.n+2 by omega,show q≠hp'.n by omega,show q≠hp'.n+1 by omega];exact hbo q hq,hG⟩
        |cons y cs=>
         have a1:(cs.length+2) * 104≤140737488355328:=by simp at hrl;omega
         have a2:cs.length≤9223372036854775805:=by simp at hrl;omega
         simp only [go_sem,seval,hb2,flCo,flC,f2,f5,f8,q0,q1,q2,q3,q4,q5,r0,r1,r2,r3,r4,r5,r6,r7,p4,p5,a1,a2]
         subst hIt
         exact ⟨m,by omega,(y::cs)++ [(Cl.mk (.mk a' b' c' e') [] [])],rs,⟨s4,x.d⟩,kI.1,fun e=>by obtain ⟨_,_,a⟩:=kI.2 e;simp at a kl hm2 ⊢;exact ⟨by omega,by omega,by omega⟩,by omega,by first|rfl|trivial,by simp [flCo,hcl],hb3,fun q hq=>by simp [show q≠h.n+1 by omega,show q≠h.n+2 by omega,show q≠hp'.n by omega,show q≠hp'.n+1 by omega];exact hbo q hq,hG⟩
 ·rw [if_neg hc]
  have he1:((toks s).2.2 !=0)=true:=by simpa using hc
  refine pcall (fnr_readingE s hs hc) (by simp only [go_sem,seval]) ?_
  simp only [go_sem,seval,he1]
  exact ⟨rfl,lab_pr _ ⟨[], []⟩⟩
end Go.Proofs.YtnibelnjflhkgaaGreatDoor.Ab

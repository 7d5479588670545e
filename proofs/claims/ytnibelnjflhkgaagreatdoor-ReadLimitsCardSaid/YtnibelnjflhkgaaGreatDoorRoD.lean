/- The program's reader over states: a rule's guards. No condition. The program's reader over states: pure: an error stays; a pattern without an error is whole. No condition. The program's reader over states: a rule. No condition. -/
import Derived.Test.YtnibelnjflhkgaaGreatDoorRoC
namespace Go.Proofs.YtnibelnjflhkgaaGreatDoor.Ab
set_option linter.unusedVariables false
set_option linter.unusedSimpArgs false
set_option maxRecDepth 10000
theorem c146:compF Tryz.prog ow Tryz.f146=(some (49,([(.t 4)],(.seq (.ops [(none,(.set 4 (.bool false)))]) (.seq (.ops [(none,(.cp 7 0)),(none,(.call (some 8) (.k (.func 142 [] [])) [(.t 7),(.k (.str [119,104,101,114,101]))] none))]) (.seq (.block 0 (.loop (.seq (.seq (.ops [(none,(.cp 9 0)),(none,(.call (some 10) (.k (.func 47 [] [])) [(.t 9)] none))]) (.cond (.t 10) .skip (.exit 0))) (.block 1 (.seq (.ops [(none,(.cp 11 0)),(none,(.call (some 12) (.k (.func 48 [] [])) [(.t 11)] none)),(none,(.fld (some 13) (.t 12) 3 (.one none))),(none,(.mv 5 13))]) (.seq (.opsT (.one none (.cp 14 1) (.one none (.cp 15 1) (.one none (.nil (some 16) (.t 15)) (.one none (.fa (some 17) (.t 16) 13) (.one none (.cp 19 0) (.alt none (.ldT 18 (.t 17) (some 9)) (.one none (.call (some 20) (.k (.func 196 [] [])) [(.t 19)] (some 100)) (.one none (.bs 21 9 [(.t 20)]) (.one none (.app 22 (.t 18) (.t 21) 9 120 true true) (.one none (.nil (some 23) (.t 14)) (.one none (.fa (some 24) (.t 23) 13) (.one none (.st (.t 24) (.t 22) 1) .done)))))) (.alt none (.call (some 20) (.k (.func 196 [] [])) [(.t 19)] (some 100)) (.one none (.ldT 18 (.t 17) (some 9)) (.one none (.bs 21 9 [(.t 20)]) (.one none (.app 22 (.t 18) (.t 21) 9 120 true true) (.one none (.nil (some 23) (.t 14)) (.one none (.fa (some 24) (.t 23) 13) (.one none (.st (.t 24) (.t 22) 1) .done)))))) .nil)))))))) (.seq (.ops [(none,(.cp 25 0)),(none,(.cp 26 1)),(none,(.nil (some 27) (.t 26))),(none,(.fa (some 28) (.t 27) 13)),(none,(.ld (some 29) (.t 28) (.one (some 9)))),(none,(.len (some 30) (.t 29) false true)),(none,(.cp 31 5)),(none,(.call (some 32) (.k (.func 98 [] [])) [(.t 25),(.t 30),(.k (.int .i64 4)),(.t 31)] none))]) (.seq (.seq (.ops [(none,(.cp 33 0)),(none,(.call (some 34) (.k (.func 144 [] [])) [(.t 33),(.k (.str [44]))] none)),(none,(.un (some 35) .not (.t 34)))]) (.cond (.t 35) (.seq (.ops [(none,(.set 4 (.bool false)))]) .ret) .skip)) (.seq (.ops [(none,(.cp 36 0)),(none,(.call (some 37) (.k (.func 48 [] [])) [(.t 36)] none)),(none,(.alloc 6 [(.int .i64 0),(.str []),(.int .i64 0),(.int .i64 0)])),(none,(.st (.t 6) (.t 37) 4))]) (.seq (.ops [(none,(.ld (some 38) (.t 6) (.agg 4))),(none,(.call (some 39) (.k (.func 145 [] [])) [(.t 38),(.k (.str [114,101,99,101,110,116]))] none)),(none,(.cp 40 39)),((some (40,false)),(.ld (some 41) (.t 6) (.agg 4))),((some (40,false)),(.call (some 42) (.k (.func 145 [] [])) [(.t 41),(.k (.str [102,105,114,115,116]))] none)),(none,(.pick (some 43) (.t 40) (.k (.bool true)) (.t 42))),(none,(.cp 44 43)),((some (44,true)),(.cp 45 0)),((some (44,true)),(.call (some 46) (.k (.func 197 [] [])) [(.t 45)] none)),((some (44,true)),(.call (some 47) (.k (.func 95 [] [])) [(.t 46),(.k (.str [46]))] none)),(none,(.pick (some 48) (.t 44) (.t 47) (.k (.bool false))))]) (.cond (.t 48) (.seq (.ops [(none,(.set 4 (.bool true)))]) .ret) .skip))))))))))) (.seq (.ops [(none,(.set 4 (.bool false)))]) .ret))))))):=by kernel_rfl
def whereT:List UInt8:= [119,104,101,114,101]
def poC (ts:List Tk) (s:St):Bool:=(isN (tkS ts s) (poS 0)||isN (tkS ts s) (poS 1))&&isS (tkN ts s) [46]
def gsB (ts:List Tk) (d:Nat) (gs:List Gu) (s:St):List Gu×St:=
 (gs++ [(guardS ts d s).1],mostS ((gs++ [(guardS ts d s).1]).length:Nat) 4 (tkS ts s).p (guardS ts d s).2)
def gsL (ts:List Tk) (d:Nat):Nat→List Gu→St→Bool×List Gu×St
 |0,gs,s=>(false,gs,s)
 |m+1,gs,s=>if s.er.isNone=true then
   (if takeS ts [44] (gsB ts d gs s).2=true then (if poC ts (goS ts [44] (gsB ts d gs s).2)=true then (true,(gsB ts d gs s).1,goS ts [44] (gsB ts d gs s).2) else gsL ts d m (gsB ts d gs s).1 (goS ts [44] (gsB ts d gs s).2))
   else (false,(gsB ts d gs s).1,(gsB ts d gs s).2))
  else (false,gs,s)
def guardsS (ts:List Tk) (d:Nat) (s:St):Bool×List Gu×St:=gsL ts d ts.length [] (wordS ts whereT s)
theorem guardS_ok {ts:List Tk} (W:Wds ts) {d:Nat} {s:St} (h:SOk ts s):SOk ts (guardS ts d s).2∧s.i≤(guardS ts d s).2.i:=by
 have kn: ∀k,SOk ts (knownG ts d k s).2∧s.i≤(knownG ts d k s).2.i:=fun k=>by
  have:=stepS_i ts s
  have:=tmS_i ts d (stepS ts s)
  exact ⟨tmS_ok W (stepS_ok W.Nx h),by unfold knownG;simp only;omega⟩
 unfold guardS;split
 ·exact kn 5
 split
 ·exact kn 6
 ·have h1:=tmS_ok (d:=d) W h
  have h2:=tmS_i ts d s
  obtain ⟨k1,k2⟩:=comparedS_ok (d:=d) (t:=(tmS ts d s).1) W h1
  exact ⟨k1,by omega⟩
theorem gsB_ok {ts:List Tk} (W:Wds ts) {d:Nat} {gs:List Gu} {s:St} (h:SOk ts s):SOk ts (gsB ts d gs s).2∧s.i≤(gsB ts d gs s).2.i:=by
 obtain ⟨k1,k2⟩:=guardS_ok (d:=d) W h
 exact ⟨mostS_ok k1,by unfold gsB;rw [mostS_i];exact k2⟩
theorem gsL_ok {ts:List Tk} (W:Wds ts) (d:Nat): ∀(m:Nat) (gs:List Gu) (s:St),SOk ts s→SOk ts (gsL ts d m gs s).2.2∧s.i≤(gsL ts d m gs s).2.2.i
 |0,gs,s,h=>⟨h,Nat.le_refl _⟩
 |m+1,gs,s,h=>by
  rw [gsL];split
  ·obtain ⟨k1,k2⟩:=gsB_ok (d:=d) (gs:=gs) W h
   have k3:=goS_ok (c:= [44]) W.Nx k1
   have k4:=goS_i ts [44] (gsB ts d gs s).2
   split
   ·split
    ·exact ⟨k3,by simp only;omega⟩
    ·obtain ⟨k5,k6⟩:=gsL_ok W d m (gsB ts d gs s).1 _ k3
     exact ⟨k5,by omega⟩
   ·exact ⟨k1,k2⟩
  ·exact ⟨h,Nat.le_refl _⟩
theorem wordS_i (ts:List Tk) (c:List UInt8) (s:St):s.i≤(wordS ts c s).i:=by
 unfold wordS
 split
 ·exact stepS_i _ _
 ·have:=stepS_i ts (failS (tkS ts s).p 4 s)
  rwa [failS_i] at this
theorem shrink_two {h hp:Hp} {l x:Nat} (hlx:l≠x) {ts:List Tk} {s:St} {d:Int} {X:List AV} (h1:h.n≤hp.n) (h2: ∀k,k<h.n→k≠l→k≠x→hp.bk k=h.bk k) (h3:hp.bk l=rdX ts s d) (h4:hp.bk x= .cells X) (hX:labL h.n X=true):
  Shrink h hp ⟨h.n,updB (updB h.bk x (.cells X)) l (rdX ts s d)⟩:=by
 refine ⟨Nat.le_refl _,h1,fun k hk=> ?_⟩
 simp only [bk_apply] at hk ⊢
 by_cases e1:k=l
 ·subst e1
  simp only [if_true]
  refine ⟨h3.symm, .inr ?_⟩
  rw [h3];exact lab_rd _ _ _ _ _ _
 ·by_cases e2:k=x
  ·subst e2
   simp only [e1,if_true,if_false]
   refine ⟨h4.symm, .inr ?_⟩
   rw [h4];exact hX
  ·simp only [e1,e2,if_false]
   exact ⟨(h2 k hk e1 e2).symm, .inl ⟨hk,h2 k hk e1 e2⟩⟩
set_option maxHeartbeats 4000000 in
theorem fx_guards {h:Hp} {l x:Nat} (hl:l<h.n) (hx:x<h.n) (hlx:l≠x) {ts:List Tk} (W:Wds ts) {s:St} (hs:SOk ts s) {d:Nat} (hd:d≤100) (hb:h.bk l=rdX ts s (d:Nat)) (c0 c1 c2 c3 c4 c5 c6 c7 c8 c9 c10 c11 c12 c14 c15:AV) (hbx:h.bk x= .cells [c0,c1,c2,c3,c4,c5,c6,c7,c8,c9,c10,c11,c12, .sl .full 9 [],c14,c15]) (hlab: ∀gs:List Gu,labL h.n [c0,c1,c2,c3,c4,c5,c6,c7,c8,c9,c10,c11,c12, .sl (flGo gs) 9 (gs.map Gu.avf),c14,c15]=true):
  Fn Tryz.prog 146 [.ptr l 0, .ptr x 0] h (.bool (guardsS ts d s).1) ⟨h.n,updB (updB h.bk x (.cells [c0,c1,c2,c3,c4,c5,c6,c7,c8,c9,c10,c11,c12, .sl (flGo (guardsS ts d s).2.1) 9 ((guardsS ts d s).2.1.map Gu.avf),c14,c15])) l (rdX ts (guardsS ts d s).2.2 (d:Nat))⟩:=by
 have hxl: ¬x=l:=fun e=>hlx e.symm
 have hlx' : ¬l=x:=hlx
 have q00: ¬l=h.n:=by omega
 refine fnC mixed Tryz.func146 c146 (by simp) ?_
 simp only [go_sem,seval]
 refine ccall (fx_word (l:=l) (ts:=ts) (s:=s) (d:=(d:Int)) hl W hs hb whereT) (by simp only [go_sem,seval];try rfl) ?_
 unfold guardsS
 have h1:=wordS_ok (c:=whereT) W.Nx hs
 have h1i:=wordS_i ts whereT s
 generalize wordS ts whereT s=s1 at *
 simp only [go_sem,seval]
 generalize hG:gsL ts d ts.length [] s1=G
 refine cloop (fun m u=> ∃(gs:List Gu) (s:St),SOk ts s∧ts.length≤m+s.i∧gs.length≤s.i∧u.fr 0= .ptr l 0∧u.fr 1= .ptr x 0∧h.n≤u.hp.n∧u.hp.bk l=rdX ts s d∧
  u.hp.bk x= .cells [c0,c1,c2,c3,c4,c5,c6,c7,c8,c9,c10,c11,c12, .sl (flGo gs) 9 (gs.map Gu.avf),c14,c15]∧(∀q,q<h.n→q≠l→q≠x→u.hp.bk q=h.bk q)∧gsL ts d m gs s=G) ts.length
  ⟨[],s1,h1,by omega,by simp,by simp [fr_apply,argsF],by simp [fr_apply,argsF],by simp,by simp [bk_apply],by simp [bk_apply,hxl,hbx,flGo],fun q hq hne hne2=>by simp [bk_apply,hne,hne2],hG⟩ ?_
 clear hG h1 h1i hbx
 rintro m ⟨F,hp⟩ ⟨gs,s,hs,hm,hgl,f0,f1,hn,hb1,hb2,hbo,hG⟩
 simp only at f0 f1 hn hb1 hb2 hbo
 have hi:=hs.1
 obtain ⟨m,rfl⟩: ∃m',m=m' +1:=⟨m-1,by omega⟩
 rw [gsL] at hG
 simp only [go_sem,seval,f0,f1]
 refine ccall (fx_ok (l:=l) (ts:=ts) (s:=s) (d:=(d:Int)) (by simp only;omega) hs (by simp only;exact hb1)) (by simp only [go_sem,seval,f0]) ?_
 cases hno:s.er.isNone with
 |false=>
  rw [hno,if_neg (by simp)] at hG
  subst hG
  simp only [go_sem,seval,f0,f1]
  exact shrink_two hlx (by first|omega|(simp only;omega)) hbo hb1 hb2 (hlab gs)
 |true=>
  rw [hno,if_pos rfl] at hG
  have hT: ∀H:Hp,l<H.n→H.bk l=rdX ts s d→Fn Tryz.prog 48 [.ptr l 0] H (.agg [.int .i64 (tkS ts s).k, .str (tkS ts s).s, .int .i64 (tkS ts s).n, .int .i64 ((tkS ts s).p:Nat)]) H:=fun H a b=>fx_token (h:=H) a hs b
  simp only [go_sem,seval,f0,f1]
  refine ccall (hT _ (by simp only;omega) (by simp only;exact hb1)) (by simp only [go_sem,seval,f0]) ?_
  obtain ⟨k1,k2⟩:=guardS_ok (d:=d) W hs
  have hGu:=fun (H:Hp) (a1:l<H.n) (a2:H.bk l=rdX ts s (d:Nat))=>fx_guard (h:=H) a1 W hs hd a2
  unfold gsB at hG
  generalize guardS ts d s=R at *
  obtain ⟨gu,s2⟩:=R
  simp only at hGu k1 k2 hG
  have hgb:gs.length<1000000000:=by have:=W.len;omega
  cases gs with
  |nil=>
   have fl0:flGo []= .full:=rfl
   rw [fl0] at hb2
   have a1:1 * 120≤140737488355328:=by omega
   have a2:0≤9223372036854775805:=by omega
   simp only [go_sem,seval,f0,f1,hb2,hxl,hlx']
   refine ⟨?_, ?_⟩
   iterate 2
    ·skip
     refine ccallD rfl (hGu _ (by simp only;omega) (by simp [bk_apply,hxl,hlx',hb1])) (by simp only [go_sem,seval,f0]) ?_
     simp only [go_sem,seval,f0,f1,hb2,hxl,hlx',a1,a2]
     refine ccall (fx_most (l:=l) (ts:=ts) (s:=s2) (d:=(d:Int)) (by simp;omega) k1 (by simp [bk_apply,hxl,hlx']) (((([]:List Gu)++ [gu]).length:Nat):Int) 4 (tkS ts s).p) (by simp only [go_sem,seval]<;>simp) ?_
     have h4:SOk ts (mostS (((([]:List Gu)++ [gu]).length:Nat):Int) 4 (tkS ts s).p s2):=mostS_ok k1
     have h4i:(mostS (((([]:List Gu)++ [gu]).length:Nat):Int) 4 (tkS ts s).p s2).i=s2.i:=mostS_i _ _ _ _
     generalize mostS (((([]:List Gu)++ [gu]).length:Nat):Int) 4 (tkS ts s).p s2=s4 at *
     simp only [go_sem,seval,f0,f1,hxl,hlx']
     refine ccall (fx_take (l:=l) (ts:=ts) (s:=s4) (d:=(d:Int)) (by simp;omega) W h4 (by simp [bk_apply,hxl,hlx']) [44]) (by simp only [go_sem,seval,f0]) ?_
     cases ht:takeS ts [44] s4 with
     |false=>
      rw [if_neg (by simp [ht])] at hG
      subst hG
      rw [show goS ts [44] s4=s4 by unfold goS;rw [if_neg (by simp [ht])]]
      simp only [go_sem,seval,f0,f1,hxl,hlx']
      exact shrink_two hlx (by first|omega|(simp only;omega)) (fun q hq e1 e2=>by simp [bk_apply,e1,e2];exact hbo q hq e1 e2) (by simp [bk_apply]) (by simp [bk_apply,hxl,flGo]) (hlab (([]:List Gu)++ [gu]))
     |true=>
      rw [if_pos ht] at hG
      have h5:=goS_ok (c:= [44]) W.Nx h4
      have h5i:=goS_lt ht
      generalize goS ts [44] s4=s5 at *
      have hT5: ∀H:Hp,l<H.n→H.bk l=rdX ts s5 d→Fn Tryz.prog 48 [.ptr l 0] H (.agg [.int .i64 (tkS ts s5).k, .str (tkS ts s5).s, .int .i64 (tkS ts s5).n, .int .i64 ((tkS ts s5).p:Nat)]) H:=fun H a b=>fx_token (h:=H) a h5 b
      have hN5: ∀H:Hp,l<H.n→H.bk l=rdX ts s5 d→Fn Tryz.prog 197 [.ptr l 0] H (.agg [.int .i64 (tkN ts s5).k, .str (tkN ts s5).s, .int .i64 (tkN ts s5).n, .int .i64 ((tkN ts s5).p:Nat)]) H:=fun H a b=>fx_next (h:=H) a W h5 b
      have hNm:=fun c=>fx_name (tkS ts s5) c
      have hMk:=fnl_mark (tkN ts s5) [46]
      unfold Tk.av at hNm hMk
      unfold poC at hG
      have r0: ¬l=hp.n:=by omega
      have r1: ¬hp.n=l:=by omega
      have r2: ¬x=hp.n:=by omega
      have r3: ¬hp.n=x:=by omega
      simp only [go_sem,seval,f0,f1,hxl,hlx']
      refine ccall (hT5 _ (by simp;omega) (by simp [bk_apply,hxl,hlx'])) (by simp only [go_sem,seval,f0]) ?_
      simp only [go_sem,seval,f0,f1,hxl,hlx',r0,r1,r2,r3]
      refine pcall (hNm _) (by simp only [go_sem,seval];rfl) ?_
      generalize htk5:tkS ts s5=tk5 at *
      generalize htn5:tkN ts s5=tn5 at *
      cases n1:(tk5.k==1&&tk5.s== [114,101,99,101,110,116]) with
      |true=>
       have n1' :isN tk5 (poS 0)=true:=n1
       simp only [go_sem,seval,f0,f1,hxl,hlx',r0,r1,r2,r3]
       refine ccall (hN5 _ (by simp;omega) (by simp [bk_apply,hxl,hlx',r0,r1])) (by simp only [go_sem,seval,f0]) ?_
       simp only [go_sem,seval]
       refine pcall hMk (by simp only [go_sem,seval]) ?_
       cases n3:(tn5.k==4&&tn5.s== [46]) with
       |true=>
        have n3' :isS tn5 [46]=true:=n3
        rw [n1',n3',if_pos (by simp)] at hG
        subst hG
        simp only [go_sem,seval,f0,f1,hxl,hlx',r0,r1,r2,r3]
        exact shrink_two hlx (by first|omega|(simp only;omega)) (fun q hq e1 e2=>by simp [bk_apply,e1,e2,show q≠hp.n by omega];exact hbo q hq e1 e2) (by simp [bk_apply,r0]) (by simp [bk_apply,hxl,r2,flGo]) (hlab (([]:List Gu)++ [gu]))
       |false=>
        have n3' :isS tn5 [46]=false:=n3
        rw [n1',n3',if_neg (by simp)] at hG
        simp only [go_sem,seval,f0,f1,hxl,hlx',r0,r1,r2,r3]
        exact ⟨m,by omega,([]:List Gu)++ [gu],s5,h5,by omega,by simp at hgl ⊢;omega,by omega,rfl,by simp [flGo],fun q hq e1 e2=>by simp [e1,e2,show q≠hp.n by omega];exact hbo q hq e1 e2,hG⟩
      |false=>
       have n1' :isN tk5 (poS 0)=false:=n1
       simp only [go_sem,seval,f0,f1,hxl,hlx',r0,r1,r2,r3]
       refine pcall (hNm _) (by simp only [go_sem,seval];rfl) ?_
       cases n2:(tk5.k==1&&tk5.s== [102,105,114,115,116]) with
       |true=>
        have n2' :isN tk5 (poS 1)=true:=n2
        simp only [go_sem,seval,f0,f1,hxl,hlx',r0,r1,r2,r3]
        refine ccall (hN5 _ (by simp;omega) (by simp [bk_apply,hxl,hlx',r0,r1])) (by simp only [go_sem,seval,f0]) ?_
        simp only [go_sem,seval]
        refine pcall hMk (by simp only [go_sem,seval]) ?_
        cases n3:(tn5.k==4&&tn5.s== [46]) with
        |true=>
         have n3' :isS tn5 [46]=true:=n3
         rw [n1',n2',n3',if_pos (by simp)] at hG
         subst hG
         simp only [go_sem,seval,f0,f1,hxl,hlx',r0,r1,r2,r3]
         exact shrink_two hlx (by first|omega|(simp only;omega)) (fun q hq e1 e2=>by simp [bk_apply,e1,e2,show q≠hp.n by omega];exact hbo q hq e1 e2) (by simp [bk_apply,r0]) (by simp [bk_apply,hxl,r2,flGo]) (hlab (([]:List Gu)++ [gu]))
        |false=>
         have n3' :isS tn5 [46]=false:=n3
         rw [n1',n2',n3',if_neg (by simp)] at hG
         simp only [go_sem,seval,f0,f1,hxl,hlx',r0,r1,r2,r3]
         exact ⟨m,by omega,([]:List Gu)++ [gu],s5,h5,by omega,by simp at hgl ⊢;omega,by omega,rfl,by simp [flGo],fun q hq e1 e2=>by simp [e1,e2,show q≠hp.n by omega];exact hbo q hq e1 e2,hG⟩
       |false=>
        have n2' :isN tk5 (poS 1)=false:=n2
        rw [n1',n2',if_neg (by simp)] at hG
        simp only [go_sem,seval,f0,f1,hxl,hlx',r0,r1,r2,r3]
        exact ⟨m,by omega,([]:List Gu)++ [gu],s5,h5,by omega,by simp at hgl ⊢;omega,by omega,rfl,by simp [flGo],fun q hq e1 e2=>by simp [e1,e2,show q≠hp.n by omega];exact hbo q hq e1 e2,hG⟩
  |cons z gs=>
   have fl0:flGo (z::gs)= .own:=rfl
   rw [fl0] at hb2
   have a1:(gs.length+2) * 120≤140737488355328:=by simp at hgb;omega
   have a2:gs.length≤9223372036854775805:=by simp at hgb;omega
   simp only [go_sem,seval,f0,f1,hb2,hxl,hlx']
   refine ⟨?_, ?_⟩
   iterate 2
    ·skip
     refine ccallD rfl (hGu _ (by simp only;omega) (by simp [bk_apply,hxl,hlx',hb1])) (by simp only [go_sem,seval,f0]) ?_
     simp only [go_sem,seval,f0,f1,hb2,hxl,hlx',a1,a2]
     refine ccall (fx_most (l:=l) (ts:=ts) (s:=s2) (d:=(d:Int)) (by simp;omega) k1 (by simp [bk_apply,hxl,hlx']) ((((z::gs)++ [gu]).length:Nat):Int) 4 (tkS ts s).p) (by simp only [go_sem,seval]<;>simp) ?_
     have h4:SOk ts (mostS ((((z::gs)++ [gu]).length:Nat):Int) 4 (tkS ts s).p s2):=mostS_ok k1
     have h4i:(mostS ((((z::gs)++ [gu]).length:Nat):Int) 4 (tkS ts s).p s2).i=s2.i:=mostS_i _ _ _ _
     generalize mostS ((((z::gs)++ [gu]).length:Nat):Int) 4 (tkS ts s).p s2=s4 at *
     simp only [go_sem,seval,f0,f1,hxl,hlx']
     refine ccall (fx_take (l:=l) (ts:=ts) (s:=s4) (d:=(d:Int)) (by simp;omega) W h4 (by simp [bk_apply,hxl,hlx']) [44]) (by simp only [go_sem,seval,f0]) ?_
     cases ht:takeS ts [44] s4 with
     |false=>
      rw [if_neg (by simp [ht])] at hG
      subst hG
      rw [show goS ts [44] s4=s4 by unfold goS;rw [if_neg (by simp [ht])]]
      simp only [go_sem,seval,f0,f1,hxl,hlx']
      exact shrink_two hlx (by first|omega|(simp only;omega)) (fun q hq e1 e2=>by simp [bk_apply,e1,e2];exact hbo q hq e1 e2) (by simp [bk_apply]) (by simp [bk_apply,hxl,flGo]) (hlab ((z::gs)++ [gu]))
     |true=>
      rw [if_pos ht] at hG
      have h5:=goS_ok (c:= [44]) W.Nx h4
      have h5i:=goS_lt ht
      generalize goS ts [44] s4=s5 at *
      have hT5: ∀H:Hp,l<H.n→H.bk l=rdX ts s5 d→Fn Tryz.prog 48 [.ptr l 0] H (.agg [.int .i64 (tkS ts s5).k, .str (tkS ts s5).s, .int .i64 (tkS ts s5).n, .int .i64 ((tkS ts s5).p:Nat)]) H:=fun H a b=>fx_token (h:=H) a h5 b
      have hN5: ∀H:Hp,l<H.n→H.bk l=rdX ts s5 d→Fn Tryz.prog 197 [.ptr l 0] H (.agg [.int .i64 (tkN ts s5).k, .str (tkN ts s5).s, .int .i64 (tkN ts s5).n, .int .i64 ((tkN ts s5).p:Nat)]) H:=fun H a b=>fx_next (h:=H) a W h5 b
      have hNm:=fun c=>fx_name (tkS ts s5) c
      have hMk:=fnl_mark (tkN ts s5) [46]
      unfold Tk.av at hNm hMk
      unfold poC at hG
      have r0: ¬l=hp.n:=by omega
      have r1: ¬hp.n=l:=by omega
      have r2: ¬x=hp.n:=by omega
      have r3: ¬hp.n=x:=by omega
      simp only [go_sem,seval,f0,f1,hxl,hlx']
      refine ccall (hT5 _ (by simp;omega) (by simp [bk_apply,hxl,hlx'])) (by simp only [go_sem,seval,f0]) ?_
      simp only [go_sem,seval,f0,f1,hxl,hlx',r0,r1,r2,r3]
      refine pcall (hNm _) (by simp only [go_sem,seval];rfl) ?_
      generalize htk5:tkS ts s5=tk5 at *
      generalize htn5:tkN ts s5=tn5 at *
      cases n1:(tk5.k==1&&tk5.s== [114,101,99,101,110,116]) with
      |true=>
       have n1' :isN tk5 (poS 0)=true:=n1
       simp only [go_sem,seval,f0,f1,hxl,hlx',r0,r1,r2,r3]
       refine ccall (hN5 _ (by simp;omega) (by simp [bk_apply,hxl,hlx',r0,r1])) (by simp only [go_sem,seval,f0]) ?_
       simp only [go_sem,seval]
       refine pcall hMk (by simp only [go_sem,seval]) ?_
       cases n3:(tn5.k==4&&tn5.s== [46]) with
       |true=>
        have n3' :isS tn5 [46]=true:=n3
        rw [n1',n3',if_pos (by simp)] at hG
        subst hG
        simp only [go_sem,seval,f0,f1,hxl,hlx',r0,r1,r2,r3]
        exact shrink_two hlx (by first|omega|(simp only;omega)) (fun q hq e1 e2=>by simp [bk_apply,e1,e2,show q≠hp.n by omega];exact hbo q hq e1 e2) (by simp [bk_apply,r0]) (by simp [bk_apply,hxl,r2,flGo]) (hlab ((z::gs)++ [gu]))
       |false=>
        have n3' :isS tn5 [46]=false:=n3
        rw [n1',n3',if_neg (by simp)] at hG
        simp only [go_sem,seval,f0,f1,hxl,hlx',r0,r1,r2,r3]
        exact ⟨m,by omega,(z::gs)++ [gu],s5,h5,by omega,by simp at hgl ⊢;omega,by omega,rfl,by simp [flGo],fun q hq e1 e2=>by simp [e1,e2,show q≠hp.n by omega];exact hbo q hq e1 e2,hG⟩
      |false=>
       have n1' :isN tk5 (poS 0)=false:=n1
       simp only [go_sem,seval,f0,f1,hxl,hlx',r0,r1,r2,r3]
       refine pcall (hNm _) (by simp only [go_sem,seval];rfl) ?_
       cases n2:(tk5.k==1&&tk5.s== [102,105,114,115,116]) with
       |true=>
        have n2' :isN tk5 (poS 1)=true:=n2
        simp only [go_sem,seval,f0,f1,hxl,hlx',r0,r1,r2,r3]
        refine ccall (hN5 _ (by simp;omega) (by simp [bk_apply,hxl,hlx',r0,r1])) (by simp only [go_sem,seval,f0]) ?_
        simp only [go_sem,seval]
        refine pcall hMk (by simp only [go_sem,seval]) ?_
        cases n3:(tn5.k==4&&tn5.s== [46]) with
        |true=>
         have n3' :isS tn5 [46]=true:=n3
         rw [n1',n2',n3',if_pos (by simp)] at hG
         subst hG
         simp only [go_sem,seval,f0,f1,hxl,hlx',r0,r1,r2,r3]
         exact shrink_two hlx (by first|omega|(simp only;omega)) (fun q hq e1 e2=>by simp [bk_apply,e1,e2,show q≠hp.n by omega];exact hbo q hq e1 e2) (by simp [bk_apply,r0]) (by simp [bk_apply,hxl,r2,flGo]) (hlab ((z::gs)++ [gu]))
        |false=>
         have n3' :isS tn5 [46]=false:=n3
         rw [n1',n2',n3',if_neg (by simp)] at hG
         simp only [go_sem,seval,f0,f1,hxl,hlx',r0,r1,r2,r3]
         exact ⟨m,by omega,(z::gs)++ [gu],s5,h5,by omega,by simp at hgl ⊢;omega,by omega,rfl,by simp [flGo],fun q hq e1 e2=>by simp [e1,e2,show q≠hp.n by omega];exact hbo q hq e1 e2,hG⟩
       |false=>
        have n2' :isN tk5 (poS 1)=false:=n2
        rw [n1',n2',if_neg (by simp)] at hG
        simp only [go_sem,seval,f0,f1,hxl,hlx',r0,r1,r2,r3]
        exact ⟨m,by omega,(z::gs)++ [gu],s5,h5,by omega,by simp at hgl ⊢;omega,by omega,rfl,by simp [flGo],fun q hq e1 e2=>by simp [e1,e2,show q≠hp.n by omega];exact hbo q hq e1 e2,hG⟩
end Go.Proofs.YtnibelnjflhkgaaGreatDoor.Ab
namespace Go.Proofs.YtnibelnjflhkgaaGreatDoor.Ab
set_option linter.unusedVariables false
set_option linter.unusedSimpArgs false
theorem failS_st {p:Nat} {e:Int} {s:St} (h:(failS p e s).er=none):s.er=none:=by obtain ⟨i,er⟩:=s;cases er<;>simp [failS] at h ⊢
theorem failS_no {p:Nat} {e:Int} {s:St} (h:(failS p e s).er=none):False:=by obtain ⟨i,er⟩:=s;cases er<;>simp [failS] at h
theorem stepS_st {ts:List Tk} {s:St} (h:(stepS ts s).er=none):s.er=none:=by obtain ⟨i,er⟩:=s;cases er<;>simp [stepS] at h ⊢
theorem goS_st {ts:List Tk} {c:List UInt8} {s:St} (h:(goS ts c s).er=none):s.er=none:=by
 unfold goS at h
 split at h
 ·rename_i hh;unfold takeS at hh;simp at hh;exact hh.1
 ·exact h
theorem needS_st {ts:List Tk} {c:List UInt8} {s:St} (h:(needS ts c s).er=none):s.er=none:=by obtain ⟨i,er⟩:=s;cases er<;>simp [needS] at h ⊢
theorem wordS_st {ts:List Tk} {c:List UInt8} {s:St} (h:(wordS ts c s).er=none):s.er=none:=by
 have h1:=stepS_st h
 split at h1
 ·exact h1
 ·exact failS_st h1
theorem mostS_st {n m:Int} {p:Nat} {s:St} (h:(mostS n m p s).er=none):s.er=none:=by
 unfold mostS at h;split at h
 ·exact failS_st h
 ·exact h
theorem openS_st {ts:List Tk} {d:Nat} {s:St} (h:(openS ts d s).er=none):s.er=none:=by
 have h1:=needS_st h
 split at h1
 ·exact failS_st h1
 ·exact h1
theorem tmS_st {ts:List Tk} {d:Nat} {s:St} (h:(tmS ts d s).2.er=none):s.er=none:=by obtain ⟨i,er⟩:=s;cases er<;>simp [tmS] at h ⊢
def Ge (g:St→Pn×St):Prop:= ∀s,(g s).2.er=none→s.er=none∧(g s).1.good
theorem within_ge {pat:Nat→St→Pn×St} {ts:List Tk} {d:Nat} (hp:d<100→Ge (pat (d+1))) (hd:d≤100):Ge (withinW pat ts d):=by
 intro s h
 unfold withinW at h ⊢
 by_cases e:(openS ts d s).er.isNone=true
 ·rw [if_pos e] at h ⊢
  have hd' :d<100:=by
   rcases Nat.lt_or_ge d 100 with h1|h1
   ·exact h1
   ·have:d=100:=by omega
    subst this;rw [openS_deep] at e;cases e
  obtain ⟨k1,k2⟩:=hp hd' _ (needS_st h)
  exact ⟨openS_st k1,k2⟩
 ·rw [if_neg e] at h
  have:=needS_st h
  rw [this] at e;simp at e
theorem one_ge {pat:Nat→St→Pn×St} {ts:List Tk} {d:Nat} (hp:d<100→Ge (pat (d+1))) (hd:d≤100):Ge (oneW pat ts d):=by
 intro s h
 unfold oneW at h ⊢
 split at h
 ·rename_i e;rw [if_pos e];exact within_ge hp hd s h
 ·rename_i e;rw [if_neg e];exact ⟨tmS_st h, .t _ _⟩
theorem loopW_ge {ts:List Tk} {c:List UInt8} {body:Pn→St→Pn×St} (hb: ∀p s,p.good→(body p s).2.er=none→s.er=none∧(body p s).1.good): ∀(m:Nat) (p:Pn) (s:St),(s.er=none→p.good)→(loopW ts c body m p s).2.er=none→s.er=none∧(loopW ts c body m p s).1.good
 |0,p,s,hp,h=>⟨h,hp h⟩
 |m+1,p,s,hp,h=>by
  rw [loopW] at h ⊢
  by_cases e:takeS ts c s=true
  ·rw [if_pos e] at h ⊢
   have hs:s.er=none:=by unfold takeS at e;simp at e;exact e.1
   obtain ⟨k1,k2⟩:=loopW_ge hb m _ _ (fun h' =>(hb p _ (hp hs) h').2) h
   exact ⟨hs,k2⟩
  ·rw [if_neg e] at h ⊢;exact ⟨h,hp h⟩
theorem rowB_ge {pat:Nat→St→Pn×St} {ts:List Tk} {d:Nat} (hw:Ge (withinW pat ts d)) (ho:Ge (oneW pat ts d)) (p:Pn) (s:St) (hp:p.good) (h:(rowB pat ts d p s).2.er=none):s.er=none∧(rowB pat ts d p s).1.good:=by
 unfold rowB at h ⊢
 split at h
 ·rename_i e;rw [if_pos e]
  obtain ⟨k1,k2⟩:=ho _ h
  obtain ⟨k3,k4⟩:=hw _ (needS_st k1)
  exact ⟨goS_st k3, .tri _ _ _ _ _ _ (by decide) hp k2 k4⟩
 ·rename_i e;rw [if_neg e]
  obtain ⟨k1,k2⟩:=ho _ h
  exact ⟨goS_st k1, .two _ _ _ _ _ (by decide) hp k2⟩
theorem row_ge {pat:Nat→St→Pn×St} {ts:List Tk} {d:Nat} (hw:Ge (withinW pat ts d)) (ho:Ge (oneW pat ts d)):Ge (rowW pat ts d):=by
 intro s h
 obtain ⟨k1,k2⟩:=loopW_ge (rowB_ge hw ho) _ _ _ (fun h' =>(ho s h').2) h
 exact ⟨(ho s k1).1,k2⟩
theorem pair_ge {row:St→Pn×St} {ts:List Tk} (hr:Ge row):Ge (pairW row ts):=by
 intro s h
 unfold pairW at h ⊢
 split at h
 ·rename_i e;rw [if_pos e]
  have hs:(row s).2.er=none:=by unfold takeS at e;simp at e;exact e.1
  obtain ⟨k1,k2⟩:=hr s hs
  refine ⟨k1, ?_⟩
  unfold pairB at h ⊢
  exact .two _ _ _ _ _ (by decide) k2 (hr _ h).2
 ·rename_i e;rw [if_neg e];exact hr s h
theorem chain_ge {part:St→Pn×St} {kind:Int} (hk:kind≠1) {c:List UInt8} {ts:List Tk} (hp:Ge part):Ge (chainW part kind c ts):=by
 intro s h
 obtain ⟨k1,k2⟩:=loopW_ge (body:=chainB part kind) (fun p s hg h' =>⟨(hp s h').1, .two _ _ _ _ _ hk hg (hp s h').2⟩) _ _ _ (fun h' =>(hp s h').2) h
 exact ⟨(hp s k1).1,k2⟩
theorem patN_ge (ts:List Tk): ∀(n d:Nat),d≤100→100<d+n→Ge (patN ts n d)
 |0,d,h1,h2=>by omega
 |n+1,d,h1,h2=>by
  have ih:d<100→Ge (patN ts n (d+1)):=fun h=>patN_ge ts n (d+1) (by omega) (by omega)
  exact chain_ge (by decide) (chain_ge (by decide) (pair_ge (row_ge (within_ge ih h1) (one_ge ih h1))))
theorem gsL_st {ts:List Tk} {d:Nat} : ∀(m:Nat) (gs:List Gu) (s:St),(gsL ts d m gs s).2.2.er=none→s.er=none
 |0,gs,s,h=>h
 |m+1,gs,s,h=>by
  rw [gsL] at h;split at h
  ·rename_i e;simpa using e
  ·exact h
theorem guardsS_st {ts:List Tk} {d:Nat} {s:St} (h:(guardsS ts d s).2.2.er=none):s.er=none:=wordS_st (gsL_st _ _ _ h)
theorem policyS_st {ts:List Tk} {s:St} (h:(policyS ts s).2.er=none):s.er=none:=by
 unfold policyS at h;split at h
 ·exact stepS_st h
 split at h
 ·exact stepS_st h
 ·exact h
theorem askS_st {p:Pn} {k:Nat} {s:St} (h:(askS p k s).er=none):s.er=none:=by
 unfold askS at h;split at h
 ·exact failS_st h
 ·exact h
end Go.Proofs.YtnibelnjflhkgaaGreatDoor.Ab
namespace Go.Proofs.YtnibelnjflhkgaaGreatDoor.Ab
set_option linter.unusedVariables false
set_option linter.unusedSimpArgs false
set_option maxRecDepth 10000
theorem c96:compF Tryz.prog ow Tryz.f96=(some (71,([(.c 4 (.agg 16))],(.seq (.ops [(none,(.box 3 (.t 1))),(none,(.alloc 4 [(.int .i64 0),(.str []),(.int .i64 0),(.sl .full 4 []),(.int .i64 0),(.int .i64 0),(.str []),(.int .i64 0),(.sl .full 4 []),(.int .i64 0),(.sl .full 9 []),(.sl .full 9 []),(.sl .full 9 []),(.sl .full 9 []),(.int .i64 0),(.int .i64 0)]))]) (.seq (.ops [(none,(.ld (some 8) (.t 3) (.agg 4))),(none,(.bld (some 9) [(.int .i64 0),(.str []),(.int .i64 0),(.sl .full 4 []),(.int .i64 0),(.int .i64 0),(.str []),(.int .i64 0),(.sl .full 4 []),(.int .i64 0),(.sl .full 9 []),(.sl .full 9 []),(.sl .full 9 []),(.sl .full 9 []),(.int .i64 0),(.int .i64 0)] [(0,4),(4,9),(13,1),(14,1),(15,1)] [(0,(.t 8))])),(none,(.alloc 5 [(.int .i64 0),(.str []),(.int .i64 0),(.sl .full 4 []),(.int .i64 0),(.int .i64 0),(.str []),(.int .i64 0),(.sl .full 4 []),(.int .i64 0),(.sl .full 9 []),(.sl .full 9 []),(.sl .full 9 []),(.sl .full 9 []),(.int .i64 0),(.int .i64 0)])),(none,(.st (.t 5) (.t 9) 16))]) (.seq (.ops [(none,(.cp 10 0)),(none,(.call (some 11) (.k (.func 141 [] [])) [(.t 10),(.k (.str [60,45]))] none))]) (.seq (.ops [(none,(.cp 12 0)),(none,(.call (some 13) (.k (.func 48 [] [])) [(.t 12)] none)),(none,(.fld (some 14) (.t 13) 3 (.one none))),(none,(.mv 6 14))]) (.seq (.ops [(none,(.cp 15 0)),(none,(.call (some 16) (.k (.func 92 [] [])) [(.t 15)] none)),(none,(.fa (some 17) (.t 5) 4)),(none,(.st (.t 17) (.t 16) 9))]) (.seq (.ops [(none,(.cp 18 0)),(none,(.call (some 19) (.k (.func 141 [] [])) [(.t 18),(.k (.str [44]))] none))]) (.seq (.ops [(none,(.cp 20 0)),(none,(.call (some 21) (.k (.func 142 [] [])) [(.t 20),(.k (.str [119,105,116,104,105,110]))] none))]) (.seq (.seq (.ops [(none,(.cp 22 0)),(none,(.call (some 23) (.k (.func 48 [] [])) [(.t 22)] none)),(none,(.fld (some 24) (.t 23) 2 (.one none))),(none,(.fa (some 25) (.t 5) 14)),(none,(.st (.t 25) (.t 24) 1))]) (.seq (.ops [(none,(.cp 26 0)),(none,(.call (some 27) (.k (.func 48 [] [])) [(.t 26)] none)),(none,(.fld (some 28) (.t 27) 0 (.one none))),(none,(.bin (some 29) .neq (.t 28) (.k (.int .i64 3)) false false))]) (.cond (.t 29) (.ops [(none,(.cp 30 0)),(none,(.cp 31 0)),(none,(.call (some 32) (.k (.func 48 [] [])) [(.t 31)] none)),(none,(.fld (some 33) (.t 32) 3 (.one none))),(none,(.call (some 34) (.k (.func 99 [] [])) [(.t 30),(.t 33),(.k (.int .i64 4))] none))]) .skip))) (.seq (.ops [(none,(.cp 35 0)),(none,(.call (some 36) (.k (.func 143 [] [])) [(.t 35)] none))]) (.seq (.ops [(none,(.cp 37 0)),(none,(.call (some 38) (.k (.func 144 [] [])) [(.t 37),(.k (.str [44]))] none)),(none,(.mv 7 38))]) (.seq (.seq (.ops [(none,(.cp 39 7)),(none,(.cp 40 39)),((some (40,true)),(.cp 41 0)),((some (40,true)),(.call (some 42) (.k (.func 48 [] [])) [(.t 41)] none)),((some (40,true)),(.call (some 43) (.k (.func 145 [] [])) [(.t 42),(.k (.str [119,104,101,114,101]))] none)),(none,(.pick (some 44) (.t 40) (.t 43) (.k (.bool false))))]) (.cond (.t 44) (.ops [(none,(.cp 45 0)),(none,(.call (some 46) (.k (.func 146 [] [])) [(.t 45),(.t 5)] none)),(none,(.mv 7 46))]) .skip)) (.seq (.seq (.ops [(none,(.cp 47 7)),(none,(.cp 48 47)),((some (48,true)),(.cp 49 0)),((some (48,true)),(.call (some 50) (.k (.func 47 [] [])) [(.t 49)] none)),(none,(.pick (some 51) (.t 48) (.t 50) (.k (.bool false))))]) (.cond (.t 51) (.seq (.ops [(none,(.cp 52 0)),(none,(.call (some 53) (.k (.func 147 [] [])) [(.t 52)] none)),(none,(.fa (some 54) (.t 5) 15)),(none,(.st (.t 54) (.t 53) 1))]) (.seq (.ops [(none,(.fa (some 55) (.t 5) 15)),(none,(.ld (some 56) (.t 55) (.one none))),(none,(.bin (some 57) .eql (.t 56) (.k (.int .i64 0)) false false))]) (.cond (.t 57) (.ops [(none,(.cp 58 0)),(none,(.cp 59 0)),(none,(.call (some 60) (.k (.func 48 [] [])) [(.t 59)] none)),(none,(.fld (some 61) (.t 60) 3 (.one none))),(none,(.call (some 62) (.k (.func 99 [] [])) [(.t 58),(.t 61),(.k (.int .i64 4))] none))]) .skip))) .skip)) (.seq (.ops [(none,(.cp 63 0)),(none,(.call (some 64) (.k (.func 141 [] [])) [(.t 63),(.k (.str [46]))] none))]) (.seq (.ops [(none,(.cp 65 0)),(none,(.fa (some 66) (.t 5) 4)),(none,(.ld (some 67) (.t 66) (.agg 9))),(none,(.cp 68 6)),(none,(.call (some 69) (.k (.func 93 [] [])) [(.t 65),(.t 67),(.t 68)] none))]) (.seq (.ops [(none,(.ld (some 70) (.t 5) (.agg 16))),(none,(.st (.t 4) (.t 70) 16))]) .ret)))))))))))))))))):=by kernel_rfl
structure Ru where
 h:T
 b:Pn
 g:List Gu
 w:Int
 p:Int
def Ru.avf (r:Ru):AV:=match r.h,r.b with
 | .mk a b' c d, .mk k (.mk tk tn tv tl) rel pl pr pc=> .agg [.int .i64 a, .str b', .int .i64 c, .sl (flS d) 4 (d.map T.avf), .int .i64 k, .int .i64 tk, .str tn, .int .i64 tv, .sl (flS tl) 4 (tl.map T.avf), .int .i64 rel, .sl (flP pl) 9 (pl.map Pn.avf), .sl (flP pr) 9 (pr.map Pn.avf), .sl (flP pc) 9 (pc.map Pn.avf), .sl (flG r.g) 9 (r.g.map Gu.avf), .int .i64 r.w, .int .i64 r.p]
theorem lab_pavfs (n:Nat) (m:List Pn):labL n (m.map Pn.avf)=true:=labL_all.2 fun a ha=>by obtain ⟨p,_,rfl⟩:=List.mem_map.1 ha;exact lab_pavf n p
theorem lab_ru (n:Nat) (r:Ru):labOK n r.avf=true:=by
 obtain ⟨⟨a,b',c,d⟩,⟨k,⟨tk,tn,tv,tl⟩,rel,pl,pr,pc⟩,g,w,p⟩:=r
 simp [Ru.avf,labOK,labL,lab_avfs,lab_gus,lab_pavfs]
def withinT:List UInt8:= [119,105,116,104,105,110]
def ruM (ts:List Tk) (s:St):St:=wordS ts withinT (needS ts [44] s)
def ruN (ts:List Tk) (s:St):St:=stepS ts (if ((tkS ts s).k !=3)=true then failS (tkS ts s).p 4 s else s)
def ruG (ts:List Tk) (d:Nat) (s:St):Bool×List Gu×St:=
 if (takeS ts [44] s&&isN (tkS ts (goS ts [44] s)) whereT)=true then guardsS ts d (goS ts [44] s) else (takeS ts [44] s, [],goS ts [44] s)
def ruP (ts:List Tk) (x:Bool×List Gu×St):Int×St:=
 if (x.1&&x.2.2.er.isNone)=true then ((policyS ts x.2.2).1,if (policyS ts x.2.2).1=0 then failS (tkS ts (policyS ts x.2.2).2).p 4 (policyS ts x.2.2).2 else (policyS ts x.2.2).2) else (0,x.2.2)
def ruE (ts:List Tk) (d:Nat) (t:T) (k:Nat) (x:Pn×St):Ru×St:=
 (⟨t,x.1,(ruG ts d (ruN ts (ruM ts x.2))).2.1,(tkS ts (ruM ts x.2)).n,(ruP ts (ruG ts d (ruN ts (ruM ts x.2)))).1⟩,askS x.1 k (needS ts [46] (ruP ts (ruG ts d (ruN ts (ruM ts x.2)))).2))
def ruleS (ts:List Tk) (d:Nat) (t:T) (s:St):Ru×St:=
 ruE ts d t (tkS ts (needS ts [60,45] s)).p (patN ts 101 d (needS ts [60,45] s))
theorem askS_ok {ts:List Tk} {p:Pn} {k:Nat} {s:St} (h:SOk ts s):SOk ts (askS p k s):=by
 unfold askS;split
 ·exact failS_ok h (by decide)
 ·exact h
theorem askS_i (p:Pn) (k:Nat) (s:St):(askS p k s).i=s.i:=by
 unfold askS;split
 ·exact failS_i _ _ _
 ·rfl
theorem ruM_ok {ts:List Tk} (W:Wds ts) {s:St} (h:SOk ts s):SOk ts (ruM ts s)∧s.i≤(ruM ts s).i:=
 ⟨wordS_ok W.Nx (needS_ok W.Nx h),Nat.le_trans (needS_i _ _ _) (wordS_i _ _ _)⟩
theorem ruN_ok {ts:List Tk} (W:Wds ts) {s:St} (h:SOk ts s):SOk ts (ruN ts s)∧s.i≤(ruN ts s).i:=by
 unfold ruN
 have h1:SOk ts (if ((tkS ts s).k !=3)=true then failS (tkS ts s).p 4 s else s)∧(if ((tkS ts s).k !=3)=true then failS (tkS ts s).p 4 s else s).i=s.i:=by
  split
  ·exact ⟨failS_ok h (by decide),failS_i _ _ _⟩
  ·exact ⟨h,rfl⟩
 generalize (if ((tkS ts s).k !=3)=true then failS (tkS ts s).p 4 s else s)=s1 at *
 have:=stepS_i ts s1
 exact ⟨stepS_ok W.Nx h1.1,by omega⟩
theorem guardsS_ok {ts:List Tk} (W:Wds ts) {d:Nat} {s:St} (h:SOk ts s):SOk ts (guardsS ts d s).2.2∧s.i≤(guardsS ts d s).2.2.i:=by
 have h1:=wordS_ok (c:=whereT) W.Nx h
 have h2:=wordS_i ts whereT s
 obtain ⟨k1,k2⟩:=gsL_ok W d ts.length [] _ h1
 exact ⟨k1,Nat.le_trans h2 k2⟩
theorem ruG_ok {ts:List Tk} (W:Wds ts) {d:Nat} {s:St} (h:SOk ts s):SOk ts (ruG ts d s).2.2∧s.i≤(ruG ts d s).2.2.i:=by
 have h1:=goS_ok (c:= [44]) W.Nx h
 have h2:=goS_i ts [44] s
 unfold ruG;split
 ·obtain ⟨k1,k2⟩:=guardsS_ok (d:=d) W h1
  exact ⟨k1,Nat.le_trans h2 k2⟩
 ·exact ⟨h1,h2⟩
theorem policyS_ok {ts:List Tk} (W:Wds ts) {s:St} (h:SOk ts s):SOk ts (policyS ts s).2∧s.i≤(policyS ts s).2.i:=by
 have:=stepS_i ts s
 unfold policyS;split
 ·exact ⟨stepS_ok W.Nx h,this⟩
 split
 ·exact ⟨stepS_ok W.Nx h,this⟩
 ·exact ⟨h,Nat.le_refl _⟩
theorem ruP_ok {ts:List Tk} (W:Wds ts) {x:Bool×List Gu×St} (h:SOk ts x.2.2):SOk ts (ruP ts x).2∧x.2.2.i≤(ruP ts x).2.i:=by
 obtain ⟨h1,h2⟩:=policyS_ok W h
 unfold ruP;split
 ·simp only;split
  ·exact ⟨failS_ok h1 (by decide),by rw [failS_i];exact h2⟩
  ·exact ⟨h1,h2⟩
 ·exact ⟨h,Nat.le_refl _⟩
theorem ruleS_ok {ts:List Tk} (W:Wds ts) {d:Nat} (hd:d≤100) {t:T} {s:St} (h:SOk ts s):SOk ts (ruleS ts d t s).2∧s.i≤(ruleS ts d t s).2.i:=by
 have h1:=needS_ok (c:= [60,45]) W.Nx h
 have h2:=needS_i ts [60,45] s
 obtain ⟨k1,k2⟩:=(patN_all W 101 d hd (by omega)).1 _ h1
 obtain ⟨k3,k4⟩:=ruM_ok W k1
 obtain ⟨k5,k6⟩:=ruN_ok W k3
 obtain ⟨k7,k8⟩:=ruG_ok (d:=d) W k5
 obtain ⟨k9,k10⟩:=ruP_ok W k7
 have k11:=needS_ok (c:= [46]) W.Nx k9
 have k12:=needS_i ts [46] (ruP ts (ruG ts d (ruN ts (ruM ts (patN ts 101 d (needS ts [60,45] s)).2)))).2
 refine ⟨askS_ok k11, ?_⟩
 unfold ruleS ruE
 simp only [askS_i]
 omega
theorem ruN_st {ts:List Tk} {s:St} (h:(ruN ts s).er=none):s.er=none:=by
 have h1:=stepS_st h
 split at h1
 ·exact failS_st h1
 ·exact h1
theorem ruM_st {ts:List Tk} {s:St} (h:(ruM ts s).er=none):s.er=none:=needS_st (wordS_st h)
set_option maxHeartbeats 4000000 in
theorem fx_rule {h:Hp} {l:Nat} (hl:l<h.n) {ts:List Tk} (W:Wds ts) {s:St} (hs:SOk ts s) {d:Nat} (hd:d≤100) (hb:h.bk l=rdX ts s (d:Nat)) (t:T):
  Fn Tryz.prog 96 [.ptr l 0,t.avf] h (ruleS ts d t s).1.avf ⟨h.n,updB h.bk l (rdX ts (ruleS ts d t s).2 (d:Nat))⟩:=by
 have n0: ¬l=h.n:=by omega
 have n1: ¬l=h.n+1:=by omega
 have n2: ¬l=h.n+2:=by omega
 have m0: ¬h.n=l:=by omega
 have m1: ¬h.n+1=l:=by omega
 have m2: ¬h.n+2=l:=by omega
 have p0: ¬h.n=h.n+1:=by omega
 have p1: ¬h.n+1=h.n:=by omega
 have p2: ¬h.n=h.n+2:=by omega
 have p3: ¬h.n+2=h.n:=by omega
 have p4: ¬h.n+1=h.n+2:=by omega
 have p5: ¬h.n+2=h.n+1:=by omega
 obtain ⟨ta,tb,tc,te⟩:=t
 rw [avf_mk]
 refine fnC mixed Tryz.func96 c96 (by simp) ?_
 simp only [go_sem,seval,n0,n1,n2,m0,m1,m2,p0,p1,p2,p3,p4,p5]
 refine ccall (fx_need (l:=l) (ts:=ts) (s:=s) (d:=(d:Int)) (by simp;omega) W hs (by simp [bk_apply,n0,n1,n2,hb]) [60,45]) (by simp only [go_sem,seval]) ?_
 unfold ruleS
 have h1:=needS_ok (c:= [60,45]) W.Nx hs
 generalize needS ts [60,45] s=s1 at *
 simp only [go_sem,seval,n0,n1,n2,m0,m1,m2,p0,p1,p2,p3,p4,p5]
 refine ccall (fx_token (l:=l) (ts:=ts) (s:=s1) (d:=(d:Int)) (by simp;omega) h1 (by simp [bk_apply,n0,n1,n2])) (by simp only [go_sem,seval]) ?_
 generalize (tkS ts s1).p=at0
 simp only [go_sem,seval,n0,n1,n2,m0,m1,m2,p0,p1,p2,p3,p4,p5]
 obtain ⟨pg,pf⟩:=patN_all W 101 d hd (by omega)
 refine ccall (pf _ l s1 (by simp;omega) h1 (by simp [bk_apply,n0,n1,n2])) (by simp only [go_sem,seval]) ?_
 have h2:=(pg s1 h1).1
 have he2:=fun e=>(patN_ge ts 101 d hd (by omega) s1 e).2
 generalize patN ts 101 d s1=R at *
 obtain ⟨⟨k,⟨tk,tn,tv,tl⟩,rel,pl,pr,pc⟩,s2⟩:=R
 simp only [pavf_mk] at h2 he2 ⊢
 simp only [go_sem,seval,n0,n1,n2,m0,m1,m2,p0,p1,p2,p3,p4,p5]
 refine ccall (fx_need (l:=l) (ts:=ts) (s:=s2) (d:=(d:Int)) (by simp;omega) W h2 (by simp [bk_apply,n0,n1,n2,m2]) [44]) (by simp only [go_sem,seval]) ?_
 have h3:=needS_ok (c:= [44]) W.Nx h2
 simp only [go_sem,seval,n0,n1,n2,m0,m1,m2,p0,p1,p2,p3,p4,p5]
 refine ccall (fx_word (l:=l) (ts:=ts) (s:=needS ts [44] s2) (d:=(d:Int)) (by simp;omega) W h3 (by simp [bk_apply,n0,n1,n2,m2]) withinT) (by simp only [go_sem,seval];try rfl) ?_
 unfold ruE
 simp only
 have h4:=(ruM_ok W h2).1
 have he4:=fun e=>he2 (ruM_st (ts:=ts) e)
 rw [show wordS ts withinT (needS ts [44] s2)=ruM ts s2 from rfl]
 generalize ruM ts s2=s4 at *
 simp only [go_sem,seval,n0,n1,n2,m0,m1,m2,p0,p1,p2,p3,p4,p5]
 refine ccall (fx_token (l:=l) (ts:=ts) (s:=s4) (d:=(d:Int)) (by simp;omega) h4 (by simp [bk_apply,n0,n1,n2,m2])) (by simp only [go_sem,seval]) ?_
 simp only [go_sem,seval,n0,n1,n2,m0,m1,m2,p0,p1,p2,p3,p4,p5]
 refine ccall (fx_token (l:=l) (ts:=ts) (s:=s4) (d:=(d:Int)) (by simp;omega) h4 (by simp [bk_apply,n0,n1,n2,m2])) (by simp only [go_sem,seval]) ?_
 have h5:=(ruN_ok W h4).1
 have he5:=fun e=>he4 (ruN_st (ts:=ts) e)
 cases hk:((tkS ts s4).k !=3) with
 |true=>
  have hf:=failS_ok (ts:=ts) (p:=(tkS ts s4).p) (e:=4) h4 (by decide)
  have hn:ruN ts s4=stepS ts (failS (tkS ts s4).p 4 s4):=by unfold ruN;rw [if_pos hk]
  simp only [go_sem,seval,hk,n0,n1,n2,m0,m1,m2,p0,p1,p2,p3,p4,p5]
  refine ccall (fx_token (l:=l) (ts:=ts) (s:=s4) (d:=(d:Int)) (by simp;omega) h4 (by simp [bk_apply,n0,n1,n2,m2])) (by simp only [go_sem,seval]) ?_
  simp only [go_sem,seval,n0,n1,n2,m0,m1,m2,p0,p1,p2,p3,p4,p5]
  refine ccall (fx_fail (l:=l) (ts:=ts) (s:=s4) (d:=(d:Int)) (by simp;omega) h4 (by simp [bk_apply,n0,n1,n2,m2]) (tkS ts s4).p 4) (by simp only [go_sem,seval]) ?_
  simp only [go_sem,seval,n0,n1,n2,m0,m1,m2,p0,p1,p2,p3,p4,p5]
  refine ccall (fx_step (l:=l) (ts:=ts) (s:=failS (tkS ts s4).p 4 s4) (d:=(d:Int)) (by simp;omega) W hf (by simp [bk_apply,n0,n1,n2,m2])) (by simp only [go_sem,seval]) ?_
  rw [←hn]
  clear hn hk
  generalize hs5:ruN ts s4=s5 at *
  generalize (tkS ts s4).n=wi at *
  simp only [go_sem,seval,n0,n1,n2,m0,m1,m2,p0,p1,p2,p3,p4,p5]
  refine ccall (fx_take (l:=l) (ts:=ts) (s:=s5) (d:=(d:Int)) (by simp;omega) W h5 (by simp [bk_apply,n0,n1,n2,m2]) [44]) (by simp only [go_sem,seval]) ?_
  have h6:=goS_ok (c:= [44]) W.Nx h5
  have he6:=fun e=>he5 (goS_st (ts:=ts) (c:= [44]) e)
  unfold ruG
  generalize takeS ts [44] s5=mo at *
  generalize goS ts [44] s5=s6 at *
  cases mo with
  |false=>
   rw [show (false&&isN (tkS ts s6) whereT)=false from rfl,if_neg (by simp)]
   simp only [go_sem,seval,n0,n1,n2,m0,m1,m2,p0,p1,p2,p3,p4,p5]
   unfold ruP
   simp only
   rw [show (false&&s6.er.isNone)=false from rfl,if_neg (by simp)]
   have h8:=h6
   have he8:=he6
   generalize s6=s8 at *
   obtain ⟨gs,hgs⟩: ∃gs:List Gu,([]:List Gu)=gs:=⟨_,rfl⟩
   rw [hgs]
   refine ccall (fx_need (l:=l) (ts:=ts) (s:=s8) (d:=(d:Int)) (by simp;omega) W h8 (by simp [bk_apply,n0,n1,n2,m2]) [46]) (by simp only [go_sem,seval]) ?_
   have h9:=needS_ok (c:= [46]) W.Nx h8
   have he9:=fun e=>he8 (needS_st (ts:=ts) (c:= [46]) e)
   generalize needS ts [46] s8=s9 at *
   simp only [go_sem,seval,n0,n1,n2,m0,m1,m2,p0,p1,p2,p3,p4,p5]
   refine ccall (fx_asked (l:=l) (ts:=ts) (s:=s9) (d:=(d:Int)) (by simp;omega) h9 (by simp [bk_apply,n0,n1,n2,m2]) (Pn.mk k (T.mk tk tn tv tl) rel pl pr pc) he9 at0) (by simp only [pavf_mk];simp only [go_sem,seval]) ?_
   simp only [go_sem,seval,n0,n1,n2,m0,m1,m2,p0,p1,p2,p3,p4,p5]
   exact ⟨by first|rfl|(rw [←hgs];rfl),lab_ru _ _,shrink_rX (by simp) (fun q hq hne=>by simp [bk_apply,hne,show q≠h.n by omega,show q≠h.n+1 by omega,show q≠h.n+2 by omega]) (by simp [bk_apply,n0,n1,n2])⟩
  |true=>
   simp only [go_sem,seval,n0,n1,n2,m0,m1,m2,p0,p1,p2,p3,p4,p5]
   refine ccall (fx_token (l:=l) (ts:=ts) (s:=s6) (d:=(d:Int)) (by simp;omega) h6 (by simp [bk_apply,n0,n1,n2,m2])) (by simp only [go_sem,seval]) ?_
   have hNm:=fx_name (tkS ts s6) whereT
   unfold Tk.av at hNm
   simp only [go_sem,seval,n0,n1,n2,m0,m1,m2,p0,p1,p2,p3,p4,p5]
   refine pcall hNm (by simp only [go_sem,seval];rfl) ?_
   rw [show isN (tkS ts s6) whereT=((tkS ts s6).k==1&&(tkS ts s6).s==whereT) from rfl]
   cases hw:((tkS ts s6).k==1&&(tkS ts s6).s==whereT) with
   |false=>
    rw [if_neg (by simp)]
    simp only [go_sem,seval,n0,n1,n2,m0,m1,m2,p0,p1,p2,p3,p4,p5]
    unfold ruP
    simp only
    have h7:=h6
    have he7:=he6
    generalize s6=s7 at *
    obtain ⟨gs,hgs⟩: ∃gs:List Gu,([]:List Gu)=gs:=⟨_,rfl⟩
    rw [hgs]
    refine ccall (fx_ok (l:=l) (ts:=ts) (s:=s7) (d:=(d:Int)) (by simp;omega) h7 (by simp [bk_apply,n0,n1,n2,m2])) (by simp only [go_sem,seval]) ?_
    cases hno:s7.er.isNone with
    |false=>
     rw [if_neg (by simp)]
     simp only [go_sem,seval,n0,n1,n2,m0,m1,m2,p0,p1,p2,p3,p4,p5]
     have h8:=h7
     have he8:=he7
     generalize s7=s8 at *
     refine ccall (fx_need (l:=l) (ts:=ts) (s:=s8) (d:=(d:Int)) (by simp;omega) W h8 (by simp [bk_apply,n0,n1,n2,m2]) [46]) (by simp only [go_sem,seval]) ?_
     have h9:=needS_ok (c:= [46]) W.Nx h8
     have he9:=fun e=>he8 (needS_st (ts:=ts) (c:= [46]) e)
     generalize needS ts [46] s8=s9 at *
     simp only [go_sem,seval,n0,n1,n2,m0,m1,m2,p0,p1,p2,p3,p4,p5]
     refine ccall (fx_asked (l:=l) (ts:=ts) (s:=s9) (d:=(d:Int)) (by simp;omega) h9 (by simp [bk_apply,n0,n1,n2,m2]) (Pn.mk k (T.mk tk tn tv tl) rel pl pr pc) he9 at0) (by simp only [pavf_mk];simp only [go_sem,seval]) ?_
     simp only [go_sem,seval,n0,n1,n2,m0,m1,m2,p0,p1,p2,p3,p4,p5]
     exact ⟨by first|rfl|(rw [←hgs];rfl),lab_ru _ _,shrink_rX (by simp) (fun q hq hne=>by simp [bk_apply,hne,show q≠h.n by omega,show q≠h.n+1 by omega,show q≠h.n+2 by omega]) (by simp [bk_apply,n0,n1,n2])⟩
    |true=>
     rw [if_pos (by simp)]
     simp only
     simp only [go_sem,seval,n0,n1,n2,m0,m1,m2,p0,p1,p2,p3,p4,p5]
     refine ccall (fx_policy (l:=l) (ts:=ts) (s:=s7) (d:=(d:Int)) (by simp;omega) W h7 (by simp [bk_apply,n0,n1,n2,m2])) (by simp only [go_sem,seval]) ?_
     have hp8:=(policyS_ok W h7).1
     have hep8:=fun e=>he7 (policyS_st (ts:=ts) e)
     generalize policyS ts s7=R at *
     obtain ⟨po,s8'⟩:=R
     simp only at hp8 hep8 ⊢
     by_cases hpo:po=0
     ·have hpo' :(po==0)=true:=by simp [hpo]
      rw [if_pos hpo]
      simp only [go_sem,seval,hpo',n0,n1,n2,m0,m1,m2,p0,p1,p2,p3,p4,p5]
      refine ccall (fx_token (l:=l) (ts:=ts) (s:=s8') (d:=(d:Int)) (by simp;omega) hp8 (by simp [bk_apply,n0,n1,n2,m2])) (by simp only [go_sem,seval]) ?_
      simp only [go_sem,seval,n0,n1,n2,m0,m1,m2,p0,p1,p2,p3,p4,p5]
      refine ccall (fx_fail (l:=l) (ts:=ts) (s:=s8') (d:=(d:Int)) (by simp;omega) hp8 (by simp [bk_apply,n0,n1,n2,m2]) (tkS ts s8').p 4) (by simp only [go_sem,seval]) ?_
      simp only [go_sem,seval,n0,n1,n2,m0,m1,m2,p0,p1,p2,p3,p4,p5]
      have h8:=failS_ok (ts:=ts) (p:=(tkS ts s8').p) (e:=4) hp8 (by decide)
      have he8:=fun e=>hep8 (failS_st (p:=(tkS ts s8').p) (e:=4) e)
      generalize failS (tkS ts s8').p 4 s8' =s8 at *
      refine ccall (fx_need (l:=l) (ts:=ts) (s:=s8) (d:=(d:Int)) (by simp;omega) W h8 (by simp [bk_apply,n0,n1,n2,m2]) [46]) (by simp only [go_sem,seval]) ?_
      have h9:=needS_ok (c:= [46]) W.Nx h8
      have he9:=fun e=>he8 (needS_st (ts:=ts) (c:= [46]) e)
      generalize needS ts [46] s8=s9 at *
      simp only [go_sem,seval,n0,n1,n2,m0,m1,m2,p0,p1,p2,p3,p4,p5]
      refine ccall (fx_asked (l:=l) (ts:=ts) (s:=s9) (d:=(d:Int)) (by simp;omega) h9 (by simp [bk_apply,n0,n1,n2,m2]) (Pn.mk k (T.mk tk tn tv tl) rel pl pr pc) he9 at0) (by simp only [pavf_mk];simp only [go_sem,seval]) ?_
      simp only [go_sem,seval,n0,n1,n2,m0,m1,m2,p0,p1,p2,p3,p4,p5]
      exact ⟨by first|rfl|(rw [←hgs];rfl),lab_ru _ _,shrink_rX (by simp) (fun q hq hne=>by simp [bk_apply,hne,show q≠h.n by omega,show q≠h.n+1 by omega,show q≠h.n+2 by omega]) (by simp [bk_apply,n0,n1,n2])⟩
     ·have hpo' :(po==0)=false:=by simp [hpo]
      rw [if_neg hpo]
      simp only [go_sem,seval,hpo',n0,n1,n2,m0,m1,m2,p0,p1,p2,p3,p4,p5]
      have h8:=hp8
      have he8:=hep8
      generalize s8' =s8 at *
      refine ccall (fx_need (l:=l) (ts:=ts) (s:=s8) (d:=(d:Int)) (by simp;omega) W h8 (by simp [bk_apply,n0,n1,n2,m2]) [46]) (by simp only [go_sem,seval]) ?_
      have h9:=needS_ok (c:= [46]) W.Nx h8
      have he9:=fun e=>he8 (needS_st (ts:=ts) (c:= [46]) e)
      generalize needS ts [46] s8=s9 at *
      simp only [go_sem,seval,n0,n1,n2,m0,m1,m2,p0,p1,p2,p3,p4,p5]
      refine ccall (fx_asked (l:=l) (ts:=ts) (s:=s9) (d:=(d:Int)) (by simp;omega) h9 (by simp [bk_apply,n0,n1,n2,m2]) (Pn.mk k (T.mk tk tn tv tl) rel pl pr pc) he9 at0) (by simp only [pavf_mk];simp only [go_sem,seval]) ?_
      simp only [go_sem,seval,n0,n1,n2,m0,m1,m2,p0,p1,p2,p3,p4,p5]
      exact ⟨by first|rfl|(rw [←hgs];rfl),lab_ru _ _,shrink_rX (by simp) (fun q hq hne=>by simp [bk_apply,hne,show q≠h.n by omega,show q≠h.n+1 by omega,show q≠h.n+2 by omega]) (by simp [bk_apply,n0,n1,n2])⟩
   |true=>
    rw [if_pos rfl]
    simp only [go_sem,seval,n0,n1,n2,m0,m1,m2,p0,p1,p2,p3,p4,p5]
    refine ccall (fx_guards (l:=l) (x:=h.n+2) (ts:=ts) (s:=s6) (by simp;omega) (by simp) n2 W h6 (d:=d) hd (by simp [bk_apply,n0,n1,n2,m2]) (.int .i64 ta) (.str tb) (.int .i64 tc) (.sl (flS te) 4 (te.map T.avf)) (.int .i64 k) (.int .i64 tk) (.str tn) (.int .i64 tv) (.sl (flS tl) 4 (tl.map T.avf)) (.int .i64 rel) (.sl (flP pl) 9 (pl.map Pn.avf)) (.sl (flP pr) 9 (pr.map Pn.avf)) (.sl (flP pc) 9 (pc.map Pn.avf)) (.int .i64 wi) (.int .i64 0) (by simp [bk_apply,n0,n1,n2,m2]) (fun gs=>by simp [labL,labOK,lab_avfs,lab_gus,lab_pavfs])) (by simp only [go_sem,seval]) ?_
    have h7:=(guardsS_ok (d:=d) W h6).1
    have he7:=fun e=>he6 (guardsS_st (ts:=ts) (d:=d) e)
    generalize guardsS ts d s6=R at *
    obtain ⟨mo2,gs,s7⟩:=R
    unfold ruP
    simp only at h7 he7 ⊢
    simp only [go_sem,seval,n0,n1,n2,m0,m1,m2,p0,p1,p2,p3,p4,p5]
    cases mo2 with
    |false=>
     rw [show (false&&s7.er.isNone)=false from rfl,if_neg (by simp)]
     simp only [go_sem,seval,n0,n1,n2,m0,m1,m2,p0,p1,p2,p3,p4,p5]
     have h8:=h7
     have he8:=he7
     generalize s7=s8 at *
     have hgs:0=0:=rfl
     refine ccall (fx_need (l:=l) (ts:=ts) (s:=s8) (d:=(d:Int)) (by simp;omega) W h8 (by simp [bk_apply,n0,n1,n2,m2]) [46]) (by simp only [go_sem,seval]) ?_
     have h9:=needS_ok (c:= [46]) W.Nx h8
     have he9:=fun e=>he8 (needS_st (ts:=ts) (c:= [46]) e)
     generalize needS ts [46] s8=s9 at *
     simp only [go_sem,seval,n0,n1,n2,m0,m1,m2,p0,p1,p2,p3,p4,p5]
     refine ccall (fx_asked (l:=l) (ts:=ts) (s:=s9) (d:=(d:Int)) (by simp;omega) h9 (by simp [bk_apply,n0,n1,n2,m2]) (Pn.mk k (T.mk tk tn tv tl) rel pl pr pc) he9 at0) (by simp only [pavf_mk];simp only [go_sem,seval]) ?_
     simp only [go_sem,seval,n0,n1,n2,m0,m1,m2,p0,p1,p2,p3,p4,p5]
     exact ⟨by first|rfl|(rw [←hgs];rfl),lab_ru _ _,shrink_rX (by simp) (fun q hq hne=>by simp [bk_apply,hne,show q≠h.n by omega,show q≠h.n+1 by omega,show q≠h.n+2 by omega]) (by simp [bk_apply,n0,n1,n2])⟩
    |true=>
     simp only [go_sem,seval,n0,n1,n2,m0,m1,m2,p0,p1,p2,p3,p4,p5]
     have hgs:0=0:=rfl
     refine ccall (fx_ok (l:=l) (ts:=ts) (s:=s7) (d:=(d:Int)) (by simp;omega) h7 (by simp [bk_apply,n0,n1,n2,m2])) (by simp only [go_sem,seval]) ?_
     cases hno:s7.er.isNone with
     |false=>
      rw [if_neg (by simp)]
      simp only [go_sem,seval,n0,n1,n2,m0,m1,m2,p0,p1,p2,p3,p4,p5]
      have h8:=h7
      have he8:=he7
      generalize s7=s8 at *
      refine ccall (fx_need (l:=l) (ts:=ts) (s:=s8) (d:=(d:Int)) (by simp;omega) W h8 (by simp [bk_apply,n0,n1,n2,m2]) [46]) (by simp only [go_sem,seval]) ?_
      have h9:=needS_ok (c:= [46]) W.Nx h8
      have he9:=fun e=>he8 (needS_st (ts:=ts) (c:= [46]) e)
      generalize needS ts [46] s8=s9 at *
      simp only [go_sem,seval,n0,n1,n2,m0,m1,m2,p0,p1,p2,p3,p4,p5]
      refine ccall (fx_asked (l:=l) (ts:=ts) (s:=s9) (d:=(d:Int)) (by simp;omega) h9 (by simp [bk_apply,n0,n1,n2,m2]) (Pn.mk k (T.mk tk tn tv tl) rel pl pr pc) he9 at0) (by simp only [pavf_mk];simp only [go_sem,seval]) ?_
      simp only [go_sem,seval,n0,n1,n2,m0,m1,m2,p0,p1,p2,p3,p4,p5]
      exact ⟨by first|rfl|(rw [←hgs];rfl),lab_ru _ _,shrink_rX (by simp) (fun q hq hne=>by simp [bk_apply,hne,show q≠h.n by omega,show q≠h.n+1 by omega,show q≠h.n+2 by omega]) (by simp [bk_apply,n0,n1,n2])⟩
     |true=>
      rw [if_pos (by simp)]
      simp only
      simp only [go_sem,seval,n0,n1,n2,m0,m1,m2,p0,p1,p2,p3,p4,p5]
      refine ccall (fx_policy (l:=l) (ts:=ts) (s:=s7) (d:=(d:Int)) (by simp;omega) W h7 (by simp [bk_apply,n0,n1,n2,m2])) (by simp only [go_sem,seval]) ?_
      have hp8:=(policyS_ok W h7).1
      have hep8:=fun e=>he7 (policyS_st (ts:=ts) e)
      generalize policyS ts s7=R at *
      obtain ⟨po,s8'⟩:=R
      simp only at hp8 hep8 ⊢
      by_cases hpo:po=0
      ·have hpo' :(po==0)=true:=by simp [hpo]
       rw [if_pos hpo]
       simp only [go_sem,seval,hpo',n0,n1,n2,m0,m1,m2,p0,p1,p2,p3,p4,p5]
       refine ccall (fx_token (l:=l) (ts:=ts) (s:=s8') (d:=(d:Int)) (by simp;omega) hp8 (by simp [bk_apply,n0,n1,n2,m2])) (by simp only [go_sem,seval]) ?_
       simp only [go_sem,seval,n0,n1,n2,m0,m1,m2,p0,p1,p2,p3,p4,p5]
       refine ccall (fx_fail (l:=l) (ts:=ts) (s:=s8') (d:=(d:Int)) (by simp;omega) hp8 (by simp [bk_apply,n0,n1,n2,m2]) (tkS ts s8').p 4) (by simp only [go_sem,seval]) ?_
       simp only [go_sem,seval,n0,n1,n2,m0,m1,m2,p0,p1,p2,p3,p4,p5]
       have h8:=failS_ok (ts:=ts) (p:=(tkS ts s8').p) (e:=4) hp8 (by decide)
       have he8:=fun e=>hep8 (failS_st (p:=(tkS ts s8').p) (e:=4) e)
       generalize failS (tkS ts s8').p 4 s8' =s8 at *
       refine ccall (fx_need (l:=l) (ts:=ts) (s:=s8) (d:=(d:Int)) (by simp;omega) W h8 (by simp [bk_apply,n0,n1,n2,m2]) [46]) (by simp only [go_sem,seval]) ?_
       have h9:=needS_ok (c:= [46]) W.Nx h8
       have he9:=fun e=>he8 (needS_st (ts:=ts) (c:= [46]) e)
       generalize needS ts [46] s8=s9 at *
       simp only [go_sem,seval,n0,n1,n2,m0,m1,m2,p0,p1,p2,p3,p4,p5]
       refine ccall (fx_asked (l:=l) (ts:=ts) (s:=s9) (d:=(d:Int)) (by simp;omega) h9 (by simp [bk_apply,n0,n1,n2,m2]) (Pn.mk k (T.mk tk tn tv tl) rel pl pr pc) he9 at0) (by simp only [pavf_mk];simp only [go_sem,seval]) ?_
       simp only [go_sem,seval,n0,n1,n2,m0,m1,m2,p0,p1,p2,p3,p4,p5]
       exact ⟨by first|rfl|(rw [←hgs];rfl),lab_ru _ _,shrink_rX (by simp) (fun q hq hne=>by simp [bk_apply,hne,show q≠h.n by omega,show q≠h.n+1 by omega,show q≠h.n+2 by omega]) (by simp [bk_apply,n0,n1,n2])⟩
      ·have hpo' :(po==0)=false:=by simp [hpo]
       rw [if_neg hpo]
       simp only [go_sem,seval,hpo',n0,n1,n2,m0,m1,m2,p0,p1,p2,p3,p4,p5]
       have h8:=hp8
       have he8:=hep8
       generalize s8' =s8 at *
       refine ccall (fx_need (l:=l) (ts:=ts) (s:=s8) (d:=(d:Int)) (by simp;omega) W h8 (by simp [bk_apply,n0,n1,n2,m2]) [46]) (by simp only [go_sem,seval]) ?_
       have h9:=needS_ok (c:= [46]) W.Nx h8
       have he9:=fun e=>he8 (needS_st (ts:=ts) (c:= [46]) e)
       generalize needS ts [46] s8=s9 at *
       simp only [go_sem,seval,n0,n1,n2,m0,m1,m2,p0,p1,p2,p3,p4,p5]
       refine ccall (fx_asked (l:=l) (ts:=ts) (s:=s9) (d:=(d:Int)) (by simp;omega) h9 (by simp [bk_apply,n0,n1,n2,m2]) (Pn.mk k (T.mk tk tn tv tl) rel pl pr pc) he9 at0) (by simp only [pavf_mk];simp only [go_sem,seval]) ?_
       simp only [go_sem,seval,n0,n1,n2,m0,m1,m2,p0,p1,p2,p3,p4,p5]
       exact ⟨by first|rfl|(rw [←hgs];rfl),lab_ru _ _,shrink_rX (by simp) (fun q hq hne=>by simp [bk_apply,hne,show q≠h.n by omega,show q≠h.n+1 by omega,show q≠h.n+2 by omega]) (by simp [bk_apply,n0,n1,n2])⟩
 |false=>
  have hn:ruN ts s4=stepS ts s4:=by unfold ruN;rw [if_neg (by simp [hk])]
  simp only [go_sem,seval,hk,n0,n1,n2,m0,m1,m2,p0,p1,p2,p3,p4,p5]
  refine ccall (fx_step (l:=l) (ts:=ts) (s:=s4) (d:=(d:Int)) (by simp;omega) W h4 (by simp [bk_apply,n0,n1,n2,m2])) (by simp only [go_sem,seval]) ?_
  rw [←hn]
  clear hn hk
  generalize hs5:ruN ts s4=s5 at *
  generalize (tkS ts s4).n=wi at *
  simp only [go_sem,seval,n0,n1,n2,m0,m1,m2,p0,p1,p2,p3,p4,p5]
  refine ccall (fx_take (l:=l) (ts:=ts) (s:=s5) (d:=(d:Int)) (by simp;omega) W h5 (by simp [bk_apply,n0,n1,n2,m2]) [44]) (by simp only [go_sem,seval]) ?_
  have h6:=goS_ok (c:= [44]) W.Nx h5
  have he6:=fun e=>he5 (goS_st (ts:=ts) (c:= [44]) e)
  unfold ruG
  generalize takeS ts [44] s5=mo at *
  generalize goS ts [44] s5=s6 at *
  cases mo with
  |false=>
   rw [show (false&&isN (tkS ts s6) whereT)=false from rfl,if_neg (by simp)]
   simp only [go_sem,seval,n0,n1,n2,m0,m1,m2,p0,p1,p2,p3,p4,p5]
   unfold ruP
   simp only
   rw [show (false&&s6.er.isNone)=false from rfl,if_neg (by simp)]
   have h8:=h6
   have he8:=he6
   generalize s6=s8 at *
   obtain ⟨gs,hgs⟩: ∃gs:List Gu,([]:List Gu)=gs:=⟨_,rfl⟩
   rw [hgs]
   refine ccall (fx_need (l:=l) (ts:=ts) (s:=s8) (d:=(d:Int)) (by simp;omega) W h8 (by simp [bk_apply,n0,n1,n2,m2]) [46]) (by simp only [go_sem,seval]) ?_
   have h9:=needS_ok (c:= [46]) W.Nx h8
   have he9:=fun e=>he8 (needS_st (ts:=ts) (c:= [46]) e)
   generalize needS ts [46] s8=s9 at *
   simp only [go_sem,seval,n0,n1,n2,m0,m1,m2,p0,p1,p2,p3,p4,p5]
   refine ccall (fx_asked (l:=l) (ts:=ts) (s:=s9) (d:=(d:Int)) (by simp;omega) h9 (by simp [bk_apply,n0,n1,n2,m2]) (Pn.mk k (T.mk tk tn tv tl) rel pl pr pc) he9 at0) (by simp only [pavf_mk];simp only [go_sem,seval]) ?_
   simp only [go_sem,seval,n0,n1,n2,m0,m1,m2,p0,p1,p2,p3,p4,p5]
   exact ⟨by first|rfl|(rw [←hgs];rfl),lab_ru _ _,shrink_rX (by simp) (fun q hq hne=>by simp [bk_apply,hne,show q≠h.n by omega,show q≠h.n+1 by omega,show q≠h.n+2 by omega]) (by simp [bk_apply,n0,n1,n2])⟩
  |true=>
   simp only [go_sem,seval,n0,n1,n2,m0,m1,m2,p0,p1,p2,p3,p4,p5]
   refine ccall (fx_token (l:=l) (ts:=ts) (s:=s6) (d:=(d:Int)) (by simp;omega) h6 (by simp [bk_apply,n0,n1,n2,m2])) (by simp only [go_sem,seval]) ?_
   have hNm:=fx_name (tkS ts s6) whereT
   unfold Tk.av at hNm
   simp only [go_sem,seval,n0,n1,n2,m0,m1,m2,p0,p1,p2,p3,p4,p5]
   refine pcall hNm (by simp only [go_sem,seval];rfl) ?_
   rw [show isN (tkS ts s6) whereT=((tkS ts s6).k==1&&(tkS ts s6).s==whereT) from rfl]
   cases hw:((tkS ts s6).k==1&&(tkS ts s6).s==whereT) with
   |false=>
    rw [if_neg (by simp)]
    simp only [go_sem,seval,n0,n1,n2,m0,m1,m2,p0,p1,p2,p3,p4,p5]
    unfold ruP
    simp only
    have h7:=h6
    have he7:=he6
    generalize s6=s7 at *
    obtain ⟨gs,hgs⟩: ∃gs:List Gu,([]:List Gu)=gs:=⟨_,rfl⟩
    rw [hgs]
    refine ccall (fx_ok (l:=l) (ts:=ts) (s:=s7) (d:=(d:Int)) (by simp;omega) h7 (by simp [bk_apply,n0,n1,n2,m2])) (by simp only [go_sem,seval]) ?_
    cases hno:s7.er.isNone with
    |false=>
     rw [if_neg (by simp)]
     simp only [go_sem,seval,n0,n1,n2,m0,m1,m2,p0,p1,p2,p3,p4,p5]
     have h8:=h7
     have he8:=he7
     generalize s7=s8 at *
     refine ccall (fx_need (l:=l) (ts:=ts) (s:=s8) (d:=(d:Int)) (by simp;omega) W h8 (by simp [bk_apply,n0,n1,n2,m2]) [46]) (by simp only [go_sem,seval]) ?_
     have h9:=needS_ok (c:= [46]) W.Nx h8
     have he9:=fun e=>he8 (needS_st (ts:=ts) (c:= [46]) e)
     generalize needS ts [46] s8=s9 at *
     simp only [go_sem,seval,n0,n1,n2,m0,m1,m2,p0,p1,p2,p3,p4,p5]
     refine ccall (fx_asked (l:=l) (ts:=ts) (s:=s9) (d:=(d:Int)) (by simp;omega) h9 (by simp [bk_apply,n0,n1,n2,m2]) (Pn.mk k (T.mk tk tn tv tl) rel pl pr pc) he9 at0) (by simp only [pavf_mk];simp only [go_sem,seval]) ?_
     simp only [go_sem,seval,n0,n1,n2,m0,m1,m2,p0,p1,p2,p3,p4,p5]
     exact ⟨by first|rfl|(rw [←hgs];rfl),lab_ru _ _,shrink_rX (by simp) (fun q hq hne=>by simp [bk_apply,hne,show q≠h.n by omega,show q≠h.n+1 by omega,show q≠h.n+2 by omega]) (by simp [bk_apply,n0,n1,n2])⟩
    |true=>
     rw [if_pos (by simp)]
     simp only
     simp only [go_sem,seval,n0,n1,n2,m0,m1,m2,p0,p1,p2,p3,p4,p5]
     refine ccall (fx_policy (l:=l) (ts:=ts) (s:=s7) (d:=(d:Int)) (by simp;omega) W h7 (by simp [bk_apply,n0,n1,n2,m2])) (by simp only [go_sem,seval]) ?_
     have hp8:=(policyS_ok W h7).1
     have hep8:=fun e=>he7 (policyS_st (ts:=ts) e)
     generalize policyS ts s7=R at *
     obtain ⟨po,s8'⟩:=R
     simp only at hp8 hep8 ⊢
     by_cases hpo:po=0
     ·have hpo' :(po==0)=true:=by simp [hpo]
      rw [if_pos hpo]
      simp only [go_sem,seval,hpo',n0,n1,n2,m0,m1,m2,p0,p1,p2,p3,p4,p5]
      refine ccall (fx_token (l:=l) (ts:=ts) (s:=s8') (d:=(d:Int)) (by simp;omega) hp8 (by simp [bk_apply,n0,n1,n2,m2])) (by simp only [go_sem,seval]) ?_
      simp only [go_sem,seval,n0,n1,n2,m0,m1,m2,p0,p1,p2,p3,p4,p5]
      refine ccall (fx_fail (l:=l) (ts:=ts) (s:=s8') (d:=(d:Int)) (by simp;omega) hp8 (by simp [bk_apply,n0,n1,n2,m2]) (tkS ts s8').p 4) (by simp only [go_sem,seval]) ?_
      simp only [go_sem,seval,n0,n1,n2,m0,m1,m2,p0,p1,p2,p3,p4,p5]
      have h8:=failS_ok (ts:=ts) (p:=(tkS ts s8').p) (e:=4) hp8 (by decide)
      have he8:=fun e=>hep8 (failS_st (p:=(tkS ts s8').p) (e:=4) e)
      generalize failS (tkS ts s8').p 4 s8' =s8 at *
      refine ccall (fx_need (l:=l) (ts:=ts) (s:=s8) (d:=(d:Int)) (by simp;omega) W h8 (by simp [bk_apply,n0,n1,n2,m2]) [46]) (by simp only [go_sem,seval]) ?_
      have h9:=needS_ok (c:= [46]) W.Nx h8
      have he9:=fun e=>he8 (needS_st (ts:=ts) (c:= [46]) e)
      generalize needS ts [46] s8=s9 at *
      simp only [go_sem,seval,n0,n1,n2,m0,m1,m2,p0,p1,p2,p3,p4,p5]
      refine ccall (fx_asked (l:=l) (ts:=ts) (s:=s9) (d:=(d:Int)) (by simp;omega) h9 (by simp [bk_apply,n0,n1,n2,m2]) (Pn.mk k (T.mk tk tn tv tl) rel pl pr pc) he9 at0) (by simp only [pavf_mk];simp only [go_sem,seval]) ?_
      simp only [go_sem,seval,n0,n1,n2,m0,m1,m2,p0,p1,p2,p3,p4,p5]
      exact ⟨by first|rfl|(rw [←hgs];rfl),lab_ru _ _,shrink_rX (by simp) (fun q hq hne=>by simp [bk_apply,hne,show q≠h.n by omega,show q≠h.n+1 by omega,show q≠h.n+2 by omega]) (by simp [bk_apply,n0,n1,n2])⟩
     ·have hpo' :(po==0)=false:=by simp [hpo]
      rw [if_neg hpo]
      simp only [go_sem,seval,hpo',n0,n1,n2,m0,m1,m2,p0,p1,p2,p3,p4,p5]
      have h8:=hp8
      have he8:=hep8
      generalize s8' =s8 at *
      refine ccall (fx_need (l:=l) (ts:=ts) (s:=s8) (d:=(d:Int)) (by simp;omega) W h8 (by simp [bk_apply,n0,n1,n2,m2]) [46]) (by simp only [go_sem,seval]) ?_
      have h9:=needS_ok (c:= [46]) W.Nx h8
      have he9:=fun e=>he8 (needS_st (ts:=ts) (c:= [46]) e)
      generalize needS ts [46] s8=s9 at *
      simp only [go_sem,seval,n0,n1,n2,m0,m1,m2,p0,p1,p2,p3,p4,p5]
      refine ccall (fx_asked (l:=l) (ts:=ts) (s:=s9) (d:=(d:Int)) (by simp;omega) h9 (by simp [bk_apply,n0,n1,n2,m2]) (Pn.mk k (T.mk tk tn tv tl) rel pl pr pc) he9 at0) (by simp only [pavf_mk];simp only [go_sem,seval]) ?_
      simp only [go_sem,seval,n0,n1,n2,m0,m1,m2,p0,p1,p2,p3,p4,p5]
      exact ⟨by first|rfl|(rw [←hgs];rfl),lab_ru _ _,shrink_rX (by simp) (fun q hq hne=>by simp [bk_apply,hne,show q≠h.n by omega,show q≠h.n+1 by omega,show q≠h.n+2 by omega]) (by simp [bk_apply,n0,n1,n2])⟩
   |true=>
    rw [if_pos rfl]
    simp only [go_sem,seval,n0,n1,n2,m0,m1,m2,p0,p1,p2,p3,p4,p5]
    refine ccall (fx_guards (l:=l) (x:=h.n+2) (ts:=ts) (s:=s6) (by simp;omega) (by simp) n2 W h6 (d:=d) hd (by simp [bk_apply,n0,n1,n2,m2]) (.int .i64 ta) (.str tb) (.int .i64 tc) (.sl (flS te) 4 (te.map T.avf)) (.int .i64 k) (.int .i64 tk) (.str tn) (.int .i64 tv) (.sl (flS tl) 4 (tl.map T.avf)) (.int .i64 rel) (.sl (flP pl) 9 (pl.map Pn.avf)) (.sl (flP pr) 9 (pr.map Pn.avf)) (.sl (flP pc) 9 (pc.map Pn.avf)) (.int .i64 wi) (.int .i64 0) (by simp [bk_apply,n0,n1,n2,m2]) (fun gs=>by simp [labL,labOK,lab_avfs,lab_gus,lab_pavfs])) (by simp only [go_sem,seval]) ?_
    have h7:=(guardsS_ok (d:=d) W h6).1
    have he7:=fun e=>he6 (guardsS_st (ts:=ts) (d:=d) e)
    generalize guardsS ts d s6=R at *
    obtain ⟨mo2,gs,s7⟩:=R
    unfold ruP
    simp only at h7 he7 ⊢
    simp only [go_sem,seval,n0,n1,n2,m0,m1,m2,p0,p1,p2,p3,p4,p5]
    cases mo2 with
    |false=>
     rw [show (false&&s7.er.isNone)=false from rfl,if_neg (by simp)]
     simp only [go_sem,seval,n0,n1,n2,m0,m1,m2,p0,p1,p2,p3,p4,p5]
     have h8:=h7
     have he8:=he7
     generalize s7=s8 at *
     have hgs:0=0:=rfl
     refine ccall (fx_need (l:=l) (ts:=ts) (s:=s8) (d:=(d:Int)) (by simp;omega) W h8 (by simp [bk_apply,n0,n1,n2,m2]) [46]) (by simp only [go_sem,seval]) ?_
     have h9:=needS_ok (c:= [46]) W.Nx h8
     have he9:=fun e=>he8 (needS_st (ts:=ts) (c:= [46]) e)
     generalize needS ts [46] s8=s9 at *
     simp only [go_sem,seval,n0,n1,n2,m0,m1,m2,p0,p1,p2,p3,p4,p5]
     refine ccall (fx_asked (l:=l) (ts:=ts) (s:=s9) (d:=(d:Int)) (by simp;omega) h9 (by simp [bk_apply,n0,n1,n2,m2]) (Pn.mk k (T.mk tk tn tv tl) rel pl pr pc) he9 at0) (by simp only [pavf_mk];simp only [go_sem,seval]) ?_
     simp only [go_sem,seval,n0,n1,n2,m0,m1,m2,p0,p1,p2,p3,p4,p5]
     exact ⟨by first|rfl|(rw [←hgs];rfl),lab_ru _ _,shrink_rX (by simp) (fun q hq hne=>by simp [bk_apply,hne,show q≠h.n by omega,show q≠h.n+1 by omega,show q≠h.n+2 by omega]) (by simp [bk_apply,n0,n1,n2])⟩
    |true=>
     simp only [go_sem,seval,n0,n1,n2,m0,m1,m2,p0,p1,p2,p3,p4,p5]
     have hgs:0=0:=rfl
     refine ccall (fx_ok (l:=l) (ts:=ts) (s:=s7) (d:=(d:Int)) (by simp;omega) h7 (by simp [bk_apply,n0,n1,n2,m2])) (by simp only [go_sem,seval]) ?_
     cases hno:s7.er.isNone with
     |false=>
      rw [if_neg (by simp)]
      simp only [go_sem,seval,n0,n1,n2,m0,m1,m2,p0,p1,p2,p3,p4,p5]
      have h8:=h7
      have he8:=he7
      generalize s7=s8 at *
      refine ccall (fx_need (l:=l) (ts:=ts) (s:=s8) (d:=(d:Int)) (by simp;omega) W h8 (by simp [bk_apply,n0,n1,n2,m2]) [46]) (by simp only [go_sem,seval]) ?_
      have h9:=needS_ok (c:= [46]) W.Nx h8
      have he9:=fun e=>he8 (needS_st (ts:=ts) (c:= [46]) e)
      generalize needS ts [46] s8=s9 at *
      simp only [go_sem,seval,n0,n1,n2,m0,m1,m2,p0,p1,p2,p3,p4,p5]
      refine ccall (fx_asked (l:=l) (ts:=ts) (s:=s9) (d:=(d:Int)) (by simp;omega) h9 (by simp [bk_apply,n0,n1,n2,m2]) (Pn.mk k (T.mk tk tn tv tl) rel pl pr pc) he9 at0) (by simp only [pavf_mk];simp only [go_sem,seval]) ?_
      simp only [go_sem,seval,n0,n1,n2,m0,m1,m2,p0,p1,p2,p3,p4,p5]
      exact ⟨by first|rfl|(rw [←hgs];rfl),lab_ru _ _,shrink_rX (by simp) (fun q hq hne=>by simp [bk_apply,hne,show q≠h.n by omega,show q≠h.n+1 by omega,show q≠h.n+2 by omega]) (by simp [bk_apply,n0,n1,n2])⟩
     |true=>
      rw [if_pos (by simp)]
      simp only
      simp only [go_sem,seval,n0,n1,n2,m0,m1,m2,p0,p1,p2,p3,p4,p5]
      refine ccall (fx_policy (l:=l) (ts:=ts) (s:=s7) (d:=(d:Int)) (by simp;omega) W h7 (by simp [bk_apply,n0,n1,n2,m2])) (by simp only [go_sem,seval]) ?_
      have hp8:=(policyS_ok W h7).1
      have hep8:=fun e=>he7 (policyS_st (ts:=ts) e)
      generalize policyS ts s7=R at *
      obtain ⟨po,s8'⟩:=R
      simp only at hp8 hep8 ⊢
      by_cases hpo:po=0
      ·have hpo' :(po==0)=true:=by simp [hpo]
       rw [if_pos hpo]
       simp only [go_sem,seval,hpo',n0,n1,n2,m0,m1,m2,p0,p1,p2,p3,p4,p5]
       refine ccall (fx_token (l:=l) (ts:=ts) (s:=s8') (d:=(d:Int)) (by simp;omega) hp8 (by simp [bk_apply,n0,n1,n2,m2])) (by simp only [go_sem,seval]) ?_
       simp only [go_sem,seval,n0,n1,n2,m0,m1,m2,p0,p1,p2,p3,p4,p5]
       refine ccall (fx_fail (l:=l) (ts:=ts) (s:=s8') (d:=(d:Int)) (by simp;omega) hp8 (by simp [bk_apply,n0,n1,n2,m2]) (tkS ts s8').p 4) (by simp only [go_sem,seval]) ?_
       simp only [go_sem,seval,n0,n1,n2,m0,m1,m2,p0,p1,p2,p3,p4,p5]
       have h8:=failS_ok (ts:=ts) (p:=(tkS ts s8').p) (e:=4) hp8 (by decide)
       have he8:=fun e=>hep8 (failS_st (p:=(tkS ts s8').p) (e:=4) e)
       generalize failS (tkS ts s8').p 4 s8' =s8 at *
       refine ccall (fx_need (l:=l) (ts:=ts) (s:=s8) (d:=(d:Int)) (by simp;omega) W h8 (by simp [bk_apply,n0,n1,n2,m2]) [46]) (by simp only [go_sem,seval]) ?_
       have h9:=needS_ok (c:= [46]) W.Nx h8
       have he9:=fun e=>he8 (needS_st (ts:=ts) (c:= [46]) e)
       generalize needS ts [46] s8=s9 at *
       simp only [go_sem,seval,n0,n1,n2,m0,m1,m2,p0,p1,p2,p3,p4,p5]
       refine ccall (fx_asked (l:=l) (ts:=ts) (s:=s9) (d:=(d:Int)) (by simp;omega) h9 (by simp [bk_apply,n0,n1,n2,m2]) (Pn.mk k (T.mk tk tn tv tl) rel pl pr pc) he9 at0) (by simp only [pavf_mk];simp only [go_sem,seval]) ?_
       simp only [go_sem,seval,n0,n1,n2,m0,m1,m2,p0,p1,p2,p3,p4,p5]
       exact ⟨by first|rfl|(rw [←hgs];rfl),lab_ru _ _,shrink_rX (by simp) (fun q hq hne=>by simp [bk_apply,hne,show q≠h.n by omega,show q≠h.n+1 by omega,show q≠h.n+2 by omega]) (by simp [bk_apply,n0,n1,n2])⟩
      ·have hpo' :(po==0)=false:=by simp [hpo]
       rw [if_neg hpo]
       simp only [go_sem,seval,hpo',n0,n1,n2,m0,m1,m2,p0,p1,p2,p3,p4,p5]
       have h8:=hp8
       have he8:=hep8
       generalize s8' =s8 at *
       refine ccall (fx_need (l:=l) (ts:=ts) (s:=s8) (d:=(d:Int)) (by simp;omega) W h8 (by simp [bk_apply,n0,n1,n2,m2]) [46]) (by simp only [go_sem,seval]) ?_
       have h9:=needS_ok (c:= [46]) W.Nx h8
       have he9:=fun e=>he8 (needS_st (ts:=ts) (c:= [46]) e)
       generalize needS ts [46] s8=s9 at *
       simp only [go_sem,seval,n0,n1,n2,m0,m1,m2,p0,p1,p2,p3,p4,p5]
       refine ccall (fx_asked (l:=l) (ts:=ts) (s:=s9) (d:=(d:Int)) (by simp;omega) h9 (by simp [bk_apply,n0,n1,n2,m2]) (Pn.mk k (T.mk tk tn tv tl) rel pl pr pc) he9 at0) (by simp only [pavf_mk];simp only [go_sem,seval]) ?_
       simp only [go_sem,seval,n0,n1,n2,m0,m1,m2,p0,p1,p2,p3,p4,p5]
       exact ⟨by first|rfl|(rw [←hgs];rfl),lab_ru _ _,shrink_rX (by simp) (fun q hq hne=>by simp [bk_apply,hne,show q≠h.n by omega,show q≠h.n+1 by omega,show q≠h.n+2 by omega]) (by simp [bk_apply,n0,n1,n2])⟩
end Go.Proofs.YtnibelnjflhkgaaGreatDoor.Ab

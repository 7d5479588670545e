/- The document: a comparison's mark; how many terms a pattern has, how deep it is. No condition. The document's reader over states: comparisons, guards. No condition. -/
import Derived.Test.YtnibelnjflhkgaaGreatDoorRpA
namespace Go.Proofs.YtnibelnjflhkgaaGreatDoor.Ab
set_option linter.unusedVariables false
set_option linter.unusedSimpArgs false
set_option maxRecDepth 10000
theorem c157:compF Tryz.prog ow Tryz.f157=(some (12,([(.t 2)],(.seq (.ops [(none,(.set 2 (.int .i64 0)))]) (.seq (.seq (.ops [(none,(.cp 3 0))]) (.block 0 (.seq (.ops [(none,(.bin (some 5) .eql (.t 3) (.k (.str [60])) false false)),(none,(.mv 4 5))]) (.cond (.t 4) (.seq (.ops [(none,(.set 2 (.int .i64 1)))]) .ret) (.seq (.ops [(none,(.bin (some 7) .eql (.t 3) (.k (.str [61,60])) false false)),(none,(.mv 6 7))]) (.cond (.t 6) (.seq (.ops [(none,(.set 2 (.int .i64 2)))]) .ret) (.seq (.ops [(none,(.bin (some 9) .eql (.t 3) (.k (.str [61])) false false)),(none,(.mv 8 9))]) (.cond (.t 8) (.seq (.ops [(none,(.set 2 (.int .i64 3)))]) .ret) (.seq (.ops [(none,(.bin (some 11) .eql (.t 3) (.k (.str [92,61])) false false)),(none,(.mv 10 11))]) (.cond (.t 10) (.seq (.ops [(none,(.set 2 (.int .i64 4)))]) .ret) .skip)))))))))) (.seq (.ops [(none,(.set 2 (.int .i64 0)))]) .ret)))))):=by kernel_rfl
theorem c84:compF Tryz.prog ow Tryz.f84=(some (56,([(.t 2)],(.seq (.ops [(none,(.box 1 (.t 0))),(none,(.set 2 (.int .i64 0)))]) (.seq (.seq (.ops [(none,(.fa (some 7) (.t 1) 0)),(none,(.ld (some 8) (.t 7) (.one none))),(none,(.bin (some 9) .eql (.t 8) (.k (.int .i64 1)) false false))]) (.cond (.t 9) (.seq (.ops [(none,(.set 2 (.int .i64 1)))]) .ret) .skip)) (.seq (.ops [(none,(.set 3 (.int .i64 0)))]) (.seq (.seq (.ops [(none,(.set 4 (.int .i64 0)))]) (.block 0 (.loop (.seq (.seq (.ops [(none,(.cp 10 4)),(none,(.fa (some 11) (.t 1) 6)),(none,(.ld (some 12) (.t 11) (.one (some 9)))),(none,(.len (some 13) (.t 12) false true)),(none,(.bin (some 14) .lss (.t 10) (.t 13) false false))]) (.cond (.t 14) .skip (.exit 0))) (.seq (.block 1 (.ops [(none,(.cp 17 3)),(none,(.fa (some 18) (.t 1) 6)),(none,(.ld (some 19) (.t 18) (.one (some 9)))),(none,(.cp 20 4)),(none,(.ia (some 21) (.t 19) (.t 20) (some 9) none)),(none,(.ld (some 22) (.t 21) (.agg 9))),(none,(.call (some 23) (.k (.func 84 [] [])) [(.t 22)] none)),(none,(.bin (some 24) .add (.t 17) (.t 23) false false)),(none,(.mv 3 24))])) (.ops [(none,(.cp 15 4)),(none,(.bin (some 16) .add (.t 15) (.k (.int .i64 1)) false false)),(none,(.mv 4 16))])))))) (.seq (.seq (.ops [(none,(.set 5 (.int .i64 0)))]) (.block 2 (.loop (.seq (.seq (.ops [(none,(.cp 25 5)),(none,(.fa (some 26) (.t 1) 7)),(none,(.ld (some 27) (.t 26) (.one (some 9)))),(none,(.len (some 28) (.t 27) false true)),(none,(.bin (some 29) .lss (.t 25) (.t 28) false false))]) (.cond (.t 29) .skip (.exit 2))) (.seq (.block 3 (.ops [(none,(.cp 32 3)),(none,(.fa (some 33) (.t 1) 7)),(none,(.ld (some 34) (.t 33) (.one (some 9)))),(none,(.cp 35 5)),(none,(.ia (some 36) (.t 34) (.t 35) (some 9) none)),(none,(.ld (some 37) (.t 36) (.agg 9))),(none,(.call (some 38) (.k (.func 84 [] [])) [(.t 37)] none)),(none,(.bin (some 39) .add (.t 32) (.t 38) false false)),(none,(.mv 3 39))])) (.ops [(none,(.cp 30 5)),(none,(.bin (some 31) .add (.t 30) (.k (.int .i64 1)) false false)),(none,(.mv 5 31))])))))) (.seq (.seq (.ops [(none,(.set 6 (.int .i64 0)))]) (.block 4 (.loop (.seq (.seq (.ops [(none,(.cp 40 6)),(none,(.fa (some 41) (.t 1) 8)),(none,(.ld (some 42) (.t 41) (.one (some 9)))),(none,(.len (some 43) (.t 42) false true)),(none,(.bin (some 44) .lss (.t 40) (.t 43) false false))]) (.cond (.t 44) .skip (.exit 4))) (.seq (.block 5 (.ops [(none,(.cp 47 3)),(none,(.fa (some 48) (.t 1) 8)),(none,(.ld (some 49) (.t 48) (.one (some 9)))),(none,(.cp 50 6)),(none,(.ia (some 51) (.t 49) (.t 50) (some 9) none)),(none,(.ld (some 52) (.t 51) (.agg 9))),(none,(.call (some 53) (.k (.func 84 [] [])) [(.t 52)] none)),(none,(.bin (some 54) .add (.t 47) (.t 53) false false)),(none,(.mv 3 54))])) (.ops [(none,(.cp 45 6)),(none,(.bin (some 46) .add (.t 45) (.k (.int .i64 1)) false false)),(none,(.mv 6 46))])))))) (.seq (.ops [(none,(.mv 55 3)),(none,(.mv 2 55))]) .ret)))))))))):=by kernel_rfl
theorem c108:compF Tryz.prog ow Tryz.f108=(some (54,([(.t 2)],(.seq (.ops [(none,(.box 1 (.t 0))),(none,(.set 2 (.int .i64 0)))]) (.seq (.ops [(none,(.set 3 (.int .i64 0)))]) (.seq (.seq (.ops [(none,(.set 4 (.int .i64 0)))]) (.block 0 (.loop (.seq (.seq (.ops [(none,(.cp 7 4)),(none,(.fa (some 8) (.t 1) 6)),(none,(.ld (some 9) (.t 8) (.one (some 9)))),(none,(.len (some 10) (.t 9) false true)),(none,(.bin (some 11) .lss (.t 7) (.t 10) false false))]) (.cond (.t 11) .skip (.exit 0))) (.seq (.block 1 (.ops [(none,(.cp 14 3)),(none,(.fa (some 15) (.t 1) 6)),(none,(.ld (some 16) (.t 15) (.one (some 9)))),(none,(.cp 17 4)),(none,(.ia (some 18) (.t 16) (.t 17) (some 9) none)),(none,(.ld (some 19) (.t 18) (.agg 9))),(none,(.call (some 20) (.k (.func 108 [] [])) [(.t 19)] none)),(none,(.mx (some 21) (.t 14) (.t 20))),(none,(.mv 3 21))])) (.ops [(none,(.cp 12 4)),(none,(.bin (some 13) .add (.t 12) (.k (.int .i64 1)) false false)),(none,(.mv 4 13))])))))) (.seq (.seq (.ops [(none,(.set 5 (.int .i64 0)))]) (.block 2 (.loop (.seq (.seq (.ops [(none,(.cp 22 5)),(none,(.fa (some 23) (.t 1) 7)),(none,(.ld (some 24) (.t 23) (.one (some 9)))),(none,(.len (some 25) (.t 24) false true)),(none,(.bin (some 26) .lss (.t 22) (.t 25) false false))]) (.cond (.t 26) .skip (.exit 2))) (.seq (.block 3 (.ops [(none,(.cp 29 3)),(none,(.fa (some 30) (.t 1) 7)),(none,(.ld (some 31) (.t 30) (.one (some 9)))),(none,(.cp 32 5)),(none,(.ia (some 33) (.t 31) (.t 32) (some 9) none)),(none,(.ld (some 34) (.t 33) (.agg 9))),(none,(.call (some 35) (.k (.func 108 [] [])) [(.t 34)] none)),(none,(.mx (some 36) (.t 29) (.t 35))),(none,(.mv 3 36))])) (.ops [(none,(.cp 27 5)),(none,(.bin (some 28) .add (.t 27) (.k (.int .i64 1)) false false)),(none,(.mv 5 28))])))))) (.seq (.seq (.ops [(none,(.set 6 (.int .i64 0)))]) (.block 4 (.loop (.seq (.seq (.ops [(none,(.cp 37 6)),(none,(.fa (some 38) (.t 1) 8)),(none,(.ld (some 39) (.t 38) (.one (some 9)))),(none,(.len (some 40) (.t 39) false true)),(none,(.bin (some 41) .lss (.t 37) (.t 40) false false))]) (.cond (.t 41) .skip (.exit 4))) (.seq (.block 5 (.ops [(none,(.cp 44 3)),(none,(.fa (some 45) (.t 1) 8)),(none,(.ld (some 46) (.t 45) (.one (some 9)))),(none,(.cp 47 6)),(none,(.ia (some 48) (.t 46) (.t 47) (some 9) none)),(none,(.ld (some 49) (.t 48) (.agg 9))),(none,(.call (some 50) (.k (.func 108 [] [])) [(.t 49)] none)),(none,(.mx (some 51) (.t 44) (.t 50))),(none,(.mv 3 51))])) (.ops [(none,(.cp 42 6)),(none,(.bin (some 43) .add (.t 42) (.k (.int .i64 1)) false false)),(none,(.mv 6 43))])))))) (.seq (.ops [(none,(.cp 52 3)),(none,(.bin (some 53) .add (.t 52) (.k (.int .i64 1)) false false)),(none,(.mv 2 53))]) .ret))))))))):=by kernel_rfl
theorem c57:compF Tryz.prog ow Tryz.f57=(some (11,([(.t 2)],(.seq (.ops [(none,(.box 1 (.t 0))),(none,(.set 2 (.bool false)))]) (.seq (.ops [(none,(.ld (some 3) (.t 1) (.agg 9))),(none,(.call (some 4) (.k (.func 84 [] [])) [(.t 3)] none)),(none,(.bin (some 5) .gtr (.t 4) (.k (.int .i64 12)) false false)),(none,(.cp 6 5)),((some (6,false)),(.ld (some 7) (.t 1) (.agg 9))),((some (6,false)),(.call (some 8) (.k (.func 108 [] [])) [(.t 7)] none)),((some (6,false)),(.bin (some 9) .gtr (.t 8) (.k (.int .i64 8)) false false)),(none,(.pick (some 10) (.t 6) (.k (.bool true)) (.t 9))),(none,(.mv 2 10))]) .ret))))):=by kernel_rfl
def opD (s:List UInt8):Int:=if s= [60] then 1 else if s= [61,60] then 2 else if s= [61] then 3 else if s= [92,61] then 4 else 0
theorem fy_op (s:List UInt8):PFn Tryz.prog 157 [.str s] (.int .i64 (opD s)):=by
 intro h
 refine fnC mixed Tryz.func157 c157 (by simp) ?_
 unfold opD
 by_cases e1:s= [60]
 ·have f1:(s== [60])=true:=by rw [e1];rfl
  rw [if_pos e1]
  simp only [go_sem,seval,f1]
 have f1:(s== [60])=false:=by simpa using e1
 rw [if_neg e1]
 by_cases e2:s= [61,60]
 ·have f2:(s== [61,60])=true:=by rw [e2];rfl
  rw [if_pos e2]
  simp only [go_sem,seval,f1,f2]
 have f2:(s== [61,60])=false:=by simpa using e2
 rw [if_neg e2]
 by_cases e3:s= [61]
 ·have f3:(s== [61])=true:=by rw [e3];rfl
  rw [if_pos e3]
  simp only [go_sem,seval,f1,f2,f3]
 have f3:(s== [61])=false:=by simpa using e3
 rw [if_neg e3]
 by_cases e4:s= [92,61]
 ·have f4:(s== [92,61])=true:=by rw [e4];rfl
  rw [if_pos e4]
  simp only [go_sem,seval,f1,f2,f3,f4]
 have f4:(s== [92,61])=false:=by simpa using e4
 rw [if_neg e4]
 simp only [go_sem,seval,f1,f2,f3,f4]
set_option maxHeartbeats 1000000 in
theorem fy_partsL (k:Int) (t:T) (rel:Int) (l r c:List Pn) (hk:k≠1) (hl:l.length<1000) (hr:r.length<1000) (hc:c.length<1000) (il: ∀x∈l,PFn Tryz.prog 84 [x.av] (.int .i64 (nP x))) (ir: ∀x∈r,PFn Tryz.prog 84 [x.av] (.int .i64 (nP x))) (ic: ∀x∈c,PFn Tryz.prog 84 [x.av] (.int .i64 (nP x))):
  PFn Tryz.prog 84 [(Pn.mk k t rel l r c).av] (.int .i64 (nP (.mk k t rel l r c))):=by
 intro h
 have hk' :(k==1)=false:=by simpa using hk
 obtain ⟨tk,tn,tv,tl⟩:=t
 rw [nP,if_neg hk,pav_mk]
 generalize hG:nPs c (nPs r (nPs l 0))=G
 refine fnC mixed Tryz.func84 c84 (by simp) ?_
 simp only [go_sem,seval,hk']
 refine cloop (fun m t=> ∃(i:Nat) (n:Int),i+m=l.length∧t.fr 1= .ptr h.n 0∧t.fr 4= .int .i64 (i:Nat)∧t.fr 3= .int .i64 n∧nPs c (nPs r (nPs (l.drop i) n))=G∧h.n+1≤t.hp.n∧t.hp.bk h.n= .cells [.int .i64 k, .int .i64 tk, .str tn, .int .i64 tv, .sl .sh 4 (tl.map T.av), .int .i64 rel, .sl .sh 9 (l.map Pn.av), .sl .sh 9 (r.map Pn.av), .sl .sh 9 (c.map Pn.av)]∧ ∀q,q<h.n→t.hp.bk q=h.bk q) l.length
  ⟨0,0,by simp,by simp [fr_apply],by simp [fr_apply],by simp [fr_apply],hG,by simp,by simp [bk_apply],fun q hq=>by simp [bk_apply,show q≠h.n by omega]⟩ ?_
 clear hG
 rintro m ⟨F,hp⟩ ⟨i,n,hm,f1,fi,f3,hG,hn,hb,ho⟩
 simp only at f1 fi f3 hn hb ho
 by_cases hi:i<l.length
 ·have hi' :decide ((i:Int)<(l.length:Int))=true:=decide_eq_true (by omega)
  have hw:IntKind.i64.wrap ((i:Int)+1)=((i+1:Nat):Int):=by rw [wrap64]<;>omega
  have hx:(l.map Pn.av)[i]? =some l[i].av:=by rw [List.getElem?_map,List.getElem?_eq_getElem hi];rfl
  have hI:=il l[i] (List.getElem_mem hi)
  rw [List.drop_eq_getElem_cons hi,nPs] at hG
  generalize l[i]=x at *
  simp only [go_sem,seval,f1,fi,f3,hb,hi',hx]
  refine pcall hI (by simp only [go_sem,seval]) ?_
  simp only [go_sem,seval,f1,fi,f3,hw]
  exact ⟨m-1,by omega,i+1,_,by omega,rfl,rfl,hG,hn,hb,ho⟩
 have hi' :decide ((i:Int)<(l.length:Int))=false:=decide_eq_false (by omega)
 rw [List.drop_eq_nil_of_le (by omega),nPs] at hG
 simp only [go_sem,seval,f1,fi,f3,hb,hi']
 refine cloop (fun m t=> ∃(i:Nat) (n:Int),i+m=r.length∧t.fr 1= .ptr h.n 0∧t.fr 5= .int .i64 (i:Nat)∧t.fr 3= .int .i64 n∧nPs c (nPs (r.drop i) n)=G∧h.n+1≤t.hp.n∧t.hp.bk h.n= .cells [.int .i64 k, .int .i64 tk, .str tn, .int .i64 tv, .sl .sh 4 (tl.map T.av), .int .i64 rel, .sl .sh 9 (l.map Pn.av), .sl .sh 9 (r.map Pn.av), .sl .sh 9 (c.map Pn.av)]∧ ∀q,q<h.n→t.hp.bk q=h.bk q) r.length
  ⟨0,n,by simp,by simp [fr_apply,f1],by simp [fr_apply],by simp [fr_apply,f3],hG,hn,hb,ho⟩ ?_
 clear hG f1 f3 hn hb ho hm hi hi' fi
 clear n i m F hp
 rintro m ⟨F,hp⟩ ⟨i,n,hm,f1,fi,f3,hG,hn,hb,ho⟩
 simp only at f1 fi f3 hn hb ho
 by_cases hi:i<r.length
 ·have hi' :decide ((i:Int)<(r.length:Int))=true:=decide_eq_true (by omega)
  have hw:IntKind.i64.wrap ((i:Int)+1)=((i+1:Nat):Int):=by rw [wrap64]<;>omega
  have hx:(r.map Pn.av)[i]? =some r[i].av:=by rw [List.getElem?_map,List.getElem?_eq_getElem hi];rfl
  have hI:=ir r[i] (List.getElem_mem hi)
  rw [List.drop_eq_getElem_cons hi,nPs] at hG
  generalize r[i]=x at *
  simp only [go_sem,seval,f1,fi,f3,hb,hi',hx]
  refine pcall hI (by simp only [go_sem,seval]) ?_
  simp only [go_sem,seval,f1,fi,f3,hw]
  exact ⟨m-1,by omega,i+1,_,by omega,rfl,rfl,hG,hn,hb,ho⟩
 have hi' :decide ((i:Int)<(r.length:Int))=false:=decide_eq_false (by omega)
 rw [List.drop_eq_nil_of_le (by omega),nPs] at hG
 simp only [go_sem,seval,f1,fi,f3,hb,hi']
 refine cloop (fun m t=> ∃(i:Nat) (n:Int),i+m=c.length∧t.fr 1= .ptr h.n 0∧t.fr 6= .int .i64 (i:Nat)∧t.fr 3= .int .i64 n∧nPs (c.drop i) n=G∧h.n+1≤t.hp.n∧t.hp.bk h.n= .cells [.int .i64 k, .int .i64 tk, .str tn, .int .i64 tv, .sl .sh 4 (tl.map T.av), .int .i64 rel, .sl .sh 9 (l.map Pn.av), .sl .sh 9 (r.map Pn.av), .sl .sh 9 (c.map Pn.av)]∧ ∀q,q<h.n→t.hp.bk q=h.bk q) c.length
  ⟨0,n,by simp,by simp [fr_apply,f1],by simp [fr_apply],by simp [fr_apply,f3],hG,hn,hb,ho⟩ ?_
 clear hG f1 f3 hn hb ho hm hi hi' fi
 clear n i m F hp
 rintro m ⟨F,hp⟩ ⟨i,n,hm,f1,fi,f3,hG,hn,hb,ho⟩
 simp only at f1 fi f3 hn hb ho
 by_cases hi:i<c.length
 ·have hi' :decide ((i:Int)<(c.length:Int))=true:=decide_eq_true (by omega)
  have hw:IntKind.i64.wrap ((i:Int)+1)=((i+1:Nat):Int):=by rw [wrap64]<;>omega
  have hx:(c.map Pn.av)[i]? =some c[i].av:=by rw [List.getElem?_map,List.getElem?_eq_getElem hi];rfl
  have hI:=ic c[i] (List.getElem_mem hi)
  rw [List.drop_eq_getElem_cons hi,nPs] at hG
  generalize c[i]=x at *
  simp only [go_sem,seval,f1,fi,f3,hb,hi',hx]
  refine pcall hI (by simp only [go_sem,seval]) ?_
  simp only [go_sem,seval,f1,fi,f3,hw]
  exact ⟨m-1,by omega,i+1,_,by omega,rfl,rfl,hG,hn,hb,ho⟩
 have hi' :decide ((i:Int)<(c.length:Int))=false:=decide_eq_false (by omega)
 rw [List.drop_eq_nil_of_le (by omega),nPs] at hG
 simp only [go_sem,seval,f1,fi,f3,hb,hi']
 subst hG
 exact ⟨rfl,shrink_oldq (by omega) ho⟩
set_option maxHeartbeats 1000000 in
theorem fy_deepL (k:Int) (t:T) (rel:Int) (l r c:List Pn) (hl:l.length<1000) (hr:r.length<1000) (hc:c.length<1000) (il: ∀x∈l,PFn Tryz.prog 108 [x.av] (.int .i64 (dP x))) (ir: ∀x∈r,PFn Tryz.prog 108 [x.av] (.int .i64 (dP x))) (ic: ∀x∈c,PFn Tryz.prog 108 [x.av] (.int .i64 (dP x))):
  PFn Tryz.prog 108 [(Pn.mk k t rel l r c).av] (.int .i64 (IntKind.i64.wrap (dPs c (dPs r (dPs l 0))+1))):=by
 intro h
 obtain ⟨tk,tn,tv,tl⟩:=t
 rw [pav_mk]
 generalize hG:dPs c (dPs r (dPs l 0))=G
 refine fnC mixed Tryz.func108 c108 (by simp) ?_
 simp only [go_sem,seval]
 refine cloop (fun m t=> ∃(i:Nat) (n:Int),i+m=l.length∧t.fr 1= .ptr h.n 0∧t.fr 4= .int .i64 (i:Nat)∧t.fr 3= .int .i64 n∧dPs c (dPs r (dPs (l.drop i) n))=G∧h.n+1≤t.hp.n∧t.hp.bk h.n= .cells [.int .i64 k, .int .i64 tk, .str tn, .int .i64 tv, .sl .sh 4 (tl.map T.av), .int .i64 rel, .sl .sh 9 (l.map Pn.av), .sl .sh 9 (r.map Pn.av), .sl .sh 9 (c.map Pn.av)]∧ ∀q,q<h.n→t.hp.bk q=h.bk q) l.length
  ⟨0,0,by simp,by simp [fr_apply],by simp [fr_apply],by simp [fr_apply],hG,by simp,by simp [bk_apply],fun q hq=>by simp [bk_apply,show q≠h.n by omega]⟩ ?_
 clear hG
 rintro m ⟨F,hp⟩ ⟨i,n,hm,f1,fi,f3,hG,hn,hb,ho⟩
 simp only at f1 fi f3 hn hb ho
 by_cases hi:i<l.length
 ·have hi' :decide ((i:Int)<(l.length:Int))=true:=decide_eq_true (by omega)
  have hw:IntKind.i64.wrap ((i:Int)+1)=((i+1:Nat):Int):=by rw [wrap64]<;>omega
  have hx:(l.map Pn.av)[i]? =some l[i].av:=by rw [List.getElem?_map,List.getElem?_eq_getElem hi];rfl
  have hI:=il l[i] (List.getElem_mem hi)
  rw [List.drop_eq_getElem_cons hi,dPs] at hG
  generalize l[i]=x at *
  simp only [go_sem,seval,f1,fi,f3,hb,hi',hx]
  refine pcall hI (by simp only [go_sem,seval]) ?_
  simp only [go_sem,seval,f1,fi,f3,hw]
  exact ⟨m-1,by omega,i+1,_,by omega,rfl,rfl,hG,hn,hb,ho⟩
 have hi' :decide ((i:Int)<(l.length:Int))=false:=decide_eq_false (by omega)
 rw [List.drop_eq_nil_of_le (by omega),dPs] at hG
 simp only [go_sem,seval,f1,fi,f3,hb,hi']
 refine cloop (fun m t=> ∃(i:Nat) (n:Int),i+m=r.length∧t.fr 1= .ptr h.n 0∧t.fr 5= .int .i64 (i:Nat)∧t.fr 3= .int .i64 n∧dPs c (dPs (r.drop i) n)=G∧h.n+1≤t.hp.n∧t.hp.bk h.n= .cells [.int .i64 k, .int .i64 tk, .str tn, .int .i64 tv, .sl .sh 4 (tl.map T.av), .int .i64 rel, .sl .sh 9 (l.map Pn.av), .sl .sh 9 (r.map Pn.av), .sl .sh 9 (c.map Pn.av)]∧ ∀q,q<h.n→t.hp.bk q=h.bk q) r.length
  ⟨0,n,by simp,by simp [fr_apply,f1],by simp [fr_apply],by simp [fr_apply,f3],hG,hn,hb,ho⟩ ?_
 clear hG f1 f3 hn hb ho hm hi hi' fi
 clear n i m F hp
 rintro m ⟨F,hp⟩ ⟨i,n,hm,f1,fi,f3,hG,hn,hb,ho⟩
 simp only at f1 fi f3 hn hb ho
 by_cases hi:i<r.length
 ·have hi' :decide ((i:Int)<(r.length:Int))=true:=decide_eq_true (by omega)
  have hw:IntKind.i64.wrap ((i:Int)+1)=((i+1:Nat):Int):=by rw [wrap64]<;>omega
  have hx:(r.map Pn.av)[i]? =some r[i].av:=by rw [List.getElem?_map,List.getElem?_eq_getElem hi];rfl
  have hI:=ir r[i] (List.getElem_mem hi)
  rw [List.drop_eq_getElem_cons hi,dPs] at hG
  generalize r[i]=x at *
  simp only [go_sem,seval,f1,fi,f3,hb,hi',hx]
  refine pcall hI (by simp only [go_sem,seval]) ?_
  simp only [go_sem,seval,f1,fi,f3,hw]
  exact ⟨m-1,by omega,i+1,_,by omega,rfl,rfl,hG,hn,hb,ho⟩
 have hi' :decide ((i:Int)<(r.length:Int))=false:=decide_eq_false (by omega)
 rw [List.drop_eq_nil_of_le (by omega),dPs] at hG
 simp only [go_sem,seval,f1,fi,f3,hb,hi']
 refine cloop (fun m t=> ∃(i:Nat) (n:Int),i+m=c.length∧t.fr 1= .ptr h.n 0∧t.fr 6= .int .i64 (i:Nat)∧t.fr 3= .int .i64 n∧dPs (c.drop i) n=G∧h.n+1≤t.hp.n∧t.hp.bk h.n= .cells [.int .i64 k, .int .i64 tk, .str tn, .int .i64 tv, .sl .sh 4 (tl.map T.av), .int .i64 rel, .sl .sh 9 (l.map Pn.av), .sl .sh 9 (r.map Pn.av), .sl .sh 9 (c.map Pn.av)]∧ ∀q,q<h.n→t.hp.bk q=h.bk q) c.length
  ⟨0,n,by simp,by simp [fr_apply,f1],by simp [fr_apply],by simp [fr_apply,f3],hG,hn,hb,ho⟩ ?_
 clear hG f1 f3 hn hb ho hm hi hi' fi
 clear n i m F hp
 rintro m ⟨F,hp⟩ ⟨i,n,hm,f1,fi,f3,hG,hn,hb,ho⟩
 simp only at f1 fi f3 hn hb ho
 by_cases hi:i<c.length
 ·have hi' :decide ((i:Int)<(c.length:Int))=true:=decide_eq_true (by omega)
  have hw:IntKind.i64.wrap ((i:Int)+1)=((i+1:Nat):Int):=by rw [wrap64]<;>omega
  have hx:(c.map Pn.av)[i]? =some c[i].av:=by rw [List.getElem?_map,List.getElem?_eq_getElem hi];rfl
  have hI:=ic c[i] (List.getElem_mem hi)
  rw [List.drop_eq_getElem_cons hi,dPs] at hG
  generalize c[i]=x at *
  simp only [go_sem,seval,f1,fi,f3,hb,hi',hx]
  refine pcall hI (by simp only [go_sem,seval]) ?_
  simp only [go_sem,seval,f1,fi,f3,hw]
  exact ⟨m-1,by omega,i+1,_,by omega,rfl,rfl,hG,hn,hb,ho⟩
 have hi' :decide ((i:Int)<(c.length:Int))=false:=decide_eq_false (by omega)
 rw [List.drop_eq_nil_of_le (by omega),dPs] at hG
 simp only [go_sem,seval,f1,fi,f3,hb,hi']
 subst hG
 exact ⟨rfl,shrink_oldq (by omega) ho⟩
theorem fy_parts (p:Pn) (hp:p.good):PFn Tryz.prog 84 [p.av] (.int .i64 (nP p)):=by
 induction hp with
 |t t rel=>
  intro h
  obtain ⟨tk,tn,tv,tl⟩:=t
  rw [nP,if_pos rfl,pav_mk]
  refine fnC mixed Tryz.func84 c84 (by simp) ?_
  simp only [go_sem,seval]
 |two k t rel a b hk ha hb iha ihb=>exact fy_partsL k t rel [a] [b] [] hk (by simp) (by simp) (by simp) (fun x hx=>by simp at hx;subst hx;exact iha) (fun x hx=>by simp at hx;subst hx;exact ihb) (fun x hx=>by simp at hx)
 |tri k t rel a b c hk ha hb hc iha ihb ihc=>exact fy_partsL k t rel [a] [b] [c] hk (by simp) (by simp) (by simp) (fun x hx=>by simp at hx;subst hx;exact iha) (fun x hx=>by simp at hx;subst hx;exact ihb) (fun x hx=>by simp at hx;subst hx;exact ihc)
theorem fy_deep (p:Pn) (hp:p.good):PFn Tryz.prog 108 [p.av] (.int .i64 (dP p)):=by
 induction hp with
 |t t rel=>have:=fy_deepL 1 t rel [] [] [] (by simp) (by simp) (by simp) (fun x hx=>by simp at hx) (fun x hx=>by simp at hx) (fun x hx=>by simp at hx);exact this
 |two k t rel a b hk ha hb iha ihb=>
  rw [dP,if_neg hk]
  exact fy_deepL k t rel [a] [b] [] (by simp) (by simp) (by simp) (fun x hx=>by simp at hx;subst hx;exact iha) (fun x hx=>by simp at hx;subst hx;exact ihb) (fun x hx=>by simp at hx)
 |tri k t rel a b c hk ha hb hc iha ihb ihc=>
  rw [dP,if_neg hk]
  exact fy_deepL k t rel [a] [b] [c] (by simp) (by simp) (by simp) (fun x hx=>by simp at hx;subst hx;exact iha) (fun x hx=>by simp at hx;subst hx;exact ihb) (fun x hx=>by simp at hx;subst hx;exact ihc)
theorem fy_much (p:Pn) (hp:p.good):PFn Tryz.prog 57 [p.avf] (.bool (decide (nP p>12)||decide (dP p>8))):=by
 refine pfn_fk ?_
 rw [List.map_cons,List.map_nil,fk_pavf]
 intro h
 refine fnC mixed Tryz.func57 c57 (by simp) ?_
 simp only [go_sem,seval]
 refine pcall (fy_parts p hp) (by simp only [go_sem,seval]) ?_
 cases h1:decide (nP p>12) with
 |true=>
  simp only [go_sem,seval,h1]
  rfl
 |false=>
  simp only [go_sem,seval,h1]
  refine pcall (fy_deep p hp) (by simp only [go_sem,seval]) ?_
  simp only [go_sem,seval]
  rfl
end Go.Proofs.YtnibelnjflhkgaaGreatDoor.Ab
namespace Go.Proofs.YtnibelnjflhkgaaGreatDoor.Ab
set_option linter.unusedVariables false
set_option linter.unusedSimpArgs false
set_option maxRecDepth 10000
theorem c109:compF Tryz.prog ow Tryz.f109=(some (43,([(.c 4 (.agg 9)),(.t 5)],(.seq (.ops [(none,(.box 3 (.t 1))),(none,(.alloc 4 [(.int .i64 0),(.int .i64 0),(.str []),(.int .i64 0),(.sl .full 4 []),(.int .i64 0),(.str []),(.int .i64 0),(.sl .full 4 [])])),(none,(.set 5 (.bool false)))]) (.seq (.seq (.ops [(none,(.cp 7 0)),(none,(.nil (some 8) (.t 7))),(none,(.fa (some 9) (.t 8) 2)),(none,(.ld (some 10) (.t 9) (.one none))),(none,(.bin (some 11) .neq (.t 10) (.k (.int .i64 0)) false false)),(none,(.cp 12 11)),((some (12,false)),(.cp 13 0)),((some (12,false)),(.call (some 14) (.k (.func 52 [] [])) [(.t 13)] (some 100))),((some (12,false)),(.fld (some 15) (.t 14) 0 (.one none))),((some (12,false)),(.bin (some 16) .neq (.t 15) (.k (.int .i64 4)) false false)),(none,(.pick (some 17) (.t 12) (.k (.bool true)) (.t 16))),(none,(.cp 18 17)),((some (18,false)),(.cp 19 0)),((some (18,false)),(.call (some 20) (.k (.func 52 [] [])) [(.t 19)] (some 100))),((some (18,false)),(.fld (some 21) (.t 20) 1 (.one none))),((some (18,false)),(.call (some 22) (.k (.func 157 [] [])) [(.t 21)] none)),((some (18,false)),(.bin (some 23) .eql (.t 22) (.k (.int .i64 0)) false false)),(none,(.pick (some 24) (.t 18) (.k (.bool true)) (.t 23)))]) (.cond (.t 24) (.seq (.ops [(none,(.bld (some 25) [(.int .i64 0),(.int .i64 0),(.str []),(.int .i64 0),(.sl .full 4 []),(.int .i64 0),(.str []),(.int .i64 0),(.sl .full 4 [])] [(0,1),(1,4),(5,4)] [])),(none,(.st (.t 4) (.t 25) 9)),(none,(.set 5 (.bool false)))]) .ret) .skip)) (.seq (.opsT (.one none (.cp 26 0) (.alt none (.call (some 27) (.k (.func 52 [] [])) [(.t 26)] (some 100)) (.one none (.fld (some 28) (.t 27) 1 (.one none)) (.one none (.call (some 29) (.k (.func 157 [] [])) [(.t 28)] none) (.alt none (.ld (some 30) (.t 3) (.agg 4)) (.one none (.bld (some 31) [(.int .i64 0),(.int .i64 0),(.str []),(.int .i64 0),(.sl .full 4 []),(.int .i64 0),(.str []),(.int .i64 0),(.sl .full 4 [])] [(0,1),(1,4),(5,4)] [(0,(.t 29)),(1,(.t 30))]) (.one none (.alloc 6 [(.int .i64 0),(.int .i64 0),(.str []),(.int .i64 0),(.sl .full 4 []),(.int .i64 0),(.str []),(.int .i64 0),(.sl .full 4 [])]) (.one none (.st (.t 6) (.t 31) 9) .done))) (.alt none (.alloc 6 [(.int .i64 0),(.int .i64 0),(.str []),(.int .i64 0),(.sl .full 4 []),(.int .i64 0),(.str []),(.int .i64 0),(.sl .full 4 [])]) (.one none (.ld (some 30) (.t 3) (.agg 4)) (.one none (.bld (some 31) [(.int .i64 0),(.int .i64 0),(.str []),(.int .i64 0),(.sl .full 4 []),(.int .i64 0),(.str []),(.int .i64 0),(.sl .full 4 [])] [(0,1),(1,4),(5,4)] [(0,(.t 29)),(1,(.t 30))]) (.one none (.st (.t 6) (.t 31) 9) .done))) .nil)))) (.alt none (.ld (some 30) (.t 3) (.agg 4)) (.alt none (.call (some 27) (.k (.func 52 [] [])) [(.t 26)] (some 100)) (.one none (.fld (some 28) (.t 27) 1 (.one none)) (.one none (.call (some 29) (.k (.func 157 [] [])) [(.t 28)] none) (.one none (.bld (some 31) [(.int .i64 0),(.int .i64 0),(.str []),(.int .i64 0),(.sl .full 4 []),(.int .i64 0),(.str []),(.int .i64 0),(.sl .full 4 [])] [(0,1),(1,4),(5,4)] [(0,(.t 29)),(1,(.t 30))]) (.one none (.alloc 6 [(.int .i64 0),(.int .i64 0),(.str []),(.int .i64 0),(.sl .full 4 []),(.int .i64 0),(.str []),(.int .i64 0),(.sl .full 4 [])]) (.one none (.st (.t 6) (.t 31) 9) .done))))) (.alt none (.alloc 6 [(.int .i64 0),(.int .i64 0),(.str []),(.int .i64 0),(.sl .full 4 []),(.int .i64 0),(.str []),(.int .i64 0),(.sl .full 4 [])]) (.one none (.call (some 27) (.k (.func 52 [] [])) [(.t 26)] (some 100)) (.one none (.fld (some 28) (.t 27) 1 (.one none)) (.one none (.call (some 29) (.k (.func 157 [] [])) [(.t 28)] none) (.one none (.bld (some 31) [(.int .i64 0),(.int .i64 0),(.str []),(.int .i64 0),(.sl .full 4 []),(.int .i64 0),(.str []),(.int .i64 0),(.sl .full 4 [])] [(0,1),(1,4),(5,4)] [(0,(.t 29)),(1,(.t 30))]) (.one none (.st (.t 6) (.t 31) 9) .done))))) .nil)) (.alt none (.alloc 6 [(.int .i64 0),(.int .i64 0),(.str []),(.int .i64 0),(.sl .full 4 []),(.int .i64 0),(.str []),(.int .i64 0),(.sl .full 4 [])]) (.alt none (.call (some 27) (.k (.func 52 [] [])) [(.t 26)] (some 100)) (.one none (.fld (some 28) (.t 27) 1 (.one none)) (.one none (.call (some 29) (.k (.func 157 [] [])) [(.t 28)] none) (.one none (.ld (some 30) (.t 3) (.agg 4)) (.one none (.bld (some 31) [(.int .i64 0),(.int .i64 0),(.str []),(.int .i64 0),(.sl .full 4 []),(.int .i64 0),(.str []),(.int .i64 0),(.sl .full 4 [])] [(0,1),(1,4),(5,4)] [(0,(.t 29)),(1,(.t 30))]) (.one none (.st (.t 6) (.t 31) 9) .done))))) (.alt none (.ld (some 30) (.t 3) (.agg 4)) (.one none (.call (some 27) (.k (.func 52 [] [])) [(.t 26)] (some 100)) (.one none (.fld (some 28) (.t 27) 1 (.one none)) (.one none (.call (some 29) (.k (.func 157 [] [])) [(.t 28)] none) (.one none (.bld (some 31) [(.int .i64 0),(.int .i64 0),(.str []),(.int .i64 0),(.sl .full 4 []),(.int .i64 0),(.str []),(.int .i64 0),(.sl .full 4 [])] [(0,1),(1,4),(5,4)] [(0,(.t 29)),(1,(.t 30))]) (.one none (.st (.t 6) (.t 31) 9) .done))))) .nil)) .nil))))) (.seq (.ops [(none,(.cp 32 0)),(none,(.nil (some 33) (.t 32))),(none,(.fa (some 34) (.t 33) 1)),(none,(.ld (some 35) (.t 34) (.one none))),(none,(.bin (some 36) .add (.t 35) (.k (.int .i64 1)) false false)),(none,(.nil (some 37) (.t 32))),(none,(.fa (some 38) (.t 37) 1)),(none,(.st (.t 38) (.t 36) 1))]) (.seq (.ops [(none,(.cp 39 0)),(none,(.call (some 40) (.k (.func 53 [] [])) [(.t 39)] none)),(none,(.fa (some 41) (.t 6) 5)),(none,(.st (.t 41) (.t 40) 4))]) (.seq (.ops [(none,(.ld (some 42) (.t 6) (.agg 9))),(none,(.st (.t 4) (.t 42) 9)),(none,(.set 5 (.bool true)))]) .ret))))))))):=by kernel_rfl
theorem c106:compF Tryz.prog ow Tryz.f106=(some (68,([(.c 2 (.agg 9))],(.seq (.ops [(none,(.alloc 2 [(.int .i64 0),(.int .i64 0),(.str []),(.int .i64 0),(.sl .full 4 []),(.int .i64 0),(.str []),(.int .i64 0),(.sl .full 4 [])]))]) (.seq (.seq (.ops [(none,(.cp 7 0)),(none,(.nil (some 8) (.t 7))),(none,(.fa (some 9) (.t 8) 2)),(none,(.ld (some 10) (.t 9) (.one none))),(none,(.bin (some 11) .neq (.t 10) (.k (.int .i64 0)) false false))]) (.cond (.t 11) (.seq (.ops [(none,(.bld (some 12) [(.int .i64 0),(.int .i64 0),(.str []),(.int .i64 0),(.sl .full 4 []),(.int .i64 0),(.str []),(.int .i64 0),(.sl .full 4 [])] [(0,1),(1,4),(5,4)] [])),(none,(.st (.t 2) (.t 12) 9))]) .ret) .skip)) (.seq (.ops [(none,(.set 3 (.int .i64 0)))]) (.seq (.seq (.ops [(none,(.cp 13 0)),(none,(.call (some 14) (.k (.func 105 [] [])) [(.t 13),(.k (.int .i64 1)),(.k (.str [107,110,111,119,110]))] none))]) (.cond (.t 14) (.ops [(none,(.set 3 (.int .i64 5)))]) .skip)) (.seq (.seq (.ops [(none,(.cp 15 0)),(none,(.call (some 16) (.k (.func 105 [] [])) [(.t 15),(.k (.int .i64 1)),(.k (.str [117,110,107,110,111,119,110]))] none))]) (.cond (.t 16) (.ops [(none,(.set 3 (.int .i64 6)))]) .skip)) (.seq (.seq (.opsD [(none,(.cp 17 3)),(none,(.bin (some 18) .neq (.t 17) (.k (.int .i64 0)) false false)),(none,(.cp 19 18)),((some (19,true)),(.cp 20 0)),((some (19,true)),(.nil (some 21) (.t 20))),((some (19,true)),(.fa (some 22) (.t 21) 0)),((some (19,true)),(.ld (some 23) (.t 22) (.one (some 4)))),((some (19,true)),(.cp 24 0)),((some (19,true)),(.nil (some 25) (.t 24))),((some (19,true)),(.fa (some 26) (.t 25) 1)),((some (19,true)),(.ld (some 27) (.t 26) (.one none))),((some (19,true)),(.bin (some 28) .add (.t 27) (.k (.int .i64 1)) false false)),((some (19,true)),(.ia (some 29) (.t 23) (.t 28) (some 4) none)),((some (19,true)),(.fa (some 30) (.t 29) 0)),((some (19,true)),(.ld (some 31) (.t 30) (.one none))),((some (19,true)),(.bin (some 32) .eql (.t 31) (.k (.int .i64 1)) false false)),(none,(.pick (some 33) (.t 19) (.t 32) (.k (.bool false))))]) (.cond (.t 33) (.seq (.ops [(none,(.cp 34 0)),(none,(.nil (some 35) (.t 34))),(none,(.fa (some 36) (.t 35) 1)),(none,(.ld (some 37) (.t 36) (.one none))),(none,(.bin (some 38) .add (.t 37) (.k (.int .i64 1)) false false)),(none,(.nil (some 39) (.t 34))),(none,(.fa (some 40) (.t 39) 1)),(none,(.st (.t 40) (.t 38) 1))]) (.seq (.ops [(none,(.cp 41 3)),(none,(.cp 42 0)),(none,(.call (some 43) (.k (.func 53 [] [])) [(.t 42)] none)),(none,(.bld (some 44) [(.int .i64 0),(.int .i64 0),(.str []),(.int .i64 0),(.sl .full 4 []),(.int .i64 0),(.str []),(.int .i64 0),(.sl .full 4 [])] [(0,1),(1,4),(5,4)] [(0,(.t 41)),(1,(.t 43))])),(none,(.st (.t 2) (.t 44) 9))]) .ret)) .skip)) (.seq (.ops [(none,(.cp 45 0)),(none,(.call (some 46) (.k (.func 53 [] [])) [(.t 45)] none)),(none,(.alloc 4 [(.int .i64 0),(.str []),(.int .i64 0),(.sl .full 4 [])])),(none,(.st (.t 4) (.t 46) 4))]) (.seq (.ops [(none,(.cp 48 0)),(none,(.ld (some 49) (.t 4) (.agg 4))),(none,(.call (some 50) (.k (.func 109 [] [])) [(.t 48),(.t 49)] none)),(none,(.cp 47 50)),(none,(.ext (some 51) (.t 47) 0)),(none,(.ext (some 52) (.t 47) 1)),(none,(.alloc 5 [(.int .i64 0),(.int .i64 0),(.str []),(.int .i64 0),(.sl .full 4 []),(.int .i64 0),(.str []),(.int .i64 0),(.sl .full 4 [])])),(none,(.st (.t 5) (.t 51) 9)),(none,(.mv 6 52))]) (.seq (.seq (.ops [(none,(.cp 53 6)),(none,(.un (some 54) .not (.t 53))),(none,(.cp 55 54)),((some (55,true)),(.cp 56 0)),((some (55,true)),(.nil (some 57) (.t 56))),((some (55,true)),(.fa (some 58) (.t 57) 2)),((some (55,true)),(.ld (some 59) (.t 58) (.one none))),((some (55,true)),(.bin (some 60) .eql (.t 59) (.k (.int .i64 0)) false false)),(none,(.pick (some 61) (.t 55) (.t 60) (.k (.bool false))))]) (.cond (.t 61) (.ops [(none,(.cp 62 0)),(none,(.cp 63 0)),(none,(.call (some 64) (.k (.func 52 [] [])) [(.t 63)] (some 100))),(none,(.fld (some 65) (.t 64) 3 (.one none))),(none,(.call (some 66) (.k (.func 58 [] [])) [(.t 62),(.k (.int .i64 4)),(.t 65)] none))]) .skip)) (.seq (.ops [(none,(.ld (some 67) (.t 5) (.agg 9))),(none,(.st (.t 2) (.t 67) 9))]) .ret))))))))))))):=by kernel_rfl
def zGu:Gu:=⟨0,zT,zT⟩
def compareF (ts:List Tk) (t:T) (x:Sf):Gu×Bool×St:=
 if (x.s.er.isNone&&((tkS ts x.s).k==4&& !(opD (tkS ts x.s).s==0)))=true then
  (⟨opD (tkS ts x.s).s,t,(tmF ts ⟨⟨x.s.i+1,x.s.er⟩,x.d⟩).1⟩,true,(tmF ts ⟨⟨x.s.i+1,x.s.er⟩,x.d⟩).2)
 else (zGu,false,x.s)
theorem next_ok {ts:List Tk} (W:Wds ts) {x:Sf} (hx:FOk ts x) (hk:((tkS ts x.s).k !=5)=true):FOk ts ⟨⟨x.s.i+1,x.s.er⟩,x.d⟩:=
 hx.to ⟨W.Nx x.s.i _ (tkS_get hx.1) hk,hx.1.2⟩ (fun e=>e)
set_option maxHeartbeats 4000000 in
theorem fy_compare {h:Hp} {l:Nat} (hl:l<h.n) {ts:List Tk} (W:Wds ts) {x:Sf} (hx:FOk ts x) (hb:h.bk l=rfX ts x.s x.d) (t:T):
  Fn Tryz.prog 109 [.ptr l 0,t.avf] h (.tup [(compareF ts t x).1.avf, .bool (compareF ts t x).2.1]) ⟨h.n,updB h.bk l (rfX ts (compareF ts t x).2.2 x.d)⟩:=by
 have n0: ¬l=h.n:=by omega
 have n1: ¬l=h.n+1:=by omega
 have n2: ¬l=h.n+2:=by omega
 have m0: ¬h.n=l:=by omega
 have m1: ¬h.n+1=l:=by omega
 have m2: ¬h.n+2=l:=by omega
 have p0: ¬h.n=h.n+1:=by omega
 have p1: ¬h.n+1=h.n:=by omega
 have p2: ¬h.n=h.n+2:=by omega
 have p3: ¬h.n+2=h.n:=by omega
 have p4: ¬h.n+1=h.n+2:=by omega
 have p5: ¬h.n+2=h.n+1:=by omega
 have hrf:h.bk l= .cells [.sl .sh 4 (ts.map Tk.av), .int .i64 (x.s.i:Nat), .int .i64 (erE x.s.er), .int .i64 ((erP 0 x.s.er:Nat):Int), .int .i64 x.d]:=hb
 have hz:=erE_z hx.1.2
 have hi1:=hx.1.1
 have hL:=W.len
 have hw:IntKind.i64.wrap ((x.s.i:Int)+1)=((x.s.i+1:Nat):Int):=by rw [wrap64]<;>omega
 obtain ⟨ta,tb,tc,te⟩:=t
 rw [avf_mk]
 have hT: ∀H:Hp,l<H.n→H.bk l=rfX ts x.s x.d→Fn Tryz.prog 52 [.ptr l 0] H (.agg [.int .i64 (tkS ts x.s).k, .str (tkS ts x.s).s, .int .i64 (tkS ts x.s).n, .int .i64 ((tkS ts x.s).p:Nat)]) H:=fun H a b=>fy_now (h:=H) a hx.1 b
 have hO:=fy_op (tkS ts x.s).s
 have hN:=fun h=>next_ok W hx h
 refine fnC mixed Tryz.func109 c109 (by simp) ?_
 unfold compareF
 generalize htk:tkS ts x.s=tk at *
 cases hn:x.s.er.isNone with
 |false=>
  rw [hn] at hz
  have hz' :(erE x.s.er !=0)=true:=by simp [bne,hz]
  rw [if_neg (by simp)]
  simp only [go_sem,seval,hrf,hz',n0,m0,n1,m1,p0,p1]
  exact ⟨rfl,lab_gu _ zGu,shrink_rY (by simp) (fun q hq hne=>by simp [bk_apply,hne,show q≠h.n by omega,show q≠h.n+1 by omega]) (by simp [bk_apply,n0,n1,hb])⟩
 |true=>
  rw [hn] at hz
  have hz' :(erE x.s.er !=0)=false:=by simp [bne,hz]
  simp only [go_sem,seval,hrf,hz',n0,m0,n1,m1,p0,p1]
  refine ccall (hT _ (by simp;omega) (by simp [bk_apply,n0,n1,hb])) (by simp only [go_sem,seval]) ?_
  cases hk:(tk.k==4) with
  |false=>
   have hk' :(tk.k !=4)=true:=by simp [bne,hk]
   rw [if_neg (by simp)]
   simp only [go_sem,seval,hk',n0,m0,n1,m1,p0,p1]
   exact ⟨rfl,lab_gu _ zGu,shrink_rY (by simp) (fun q hq hne=>by simp [bk_apply,hne,show q≠h.n by omega,show q≠h.n+1 by omega]) (by simp [bk_apply,n0,n1,hb])⟩
  |true=>
   have hk' :(tk.k !=4)=false:=by simp [bne,hk]
   have hk5:(tk.k !=5)=true:=by have:=eq_of_beq hk;rw [this];rfl
   simp only [go_sem,seval,hk',n0,m0,n1,m1,p0,p1]
   refine ccall (hT _ (by simp;omega) (by simp [bk_apply,n0,n1,hb])) (by simp only [go_sem,seval]) ?_
   simp only [go_sem,seval,n0,m0,n1,m1,p0,p1]
   refine pcall hO (by simp only [go_sem,seval]) ?_
   cases ho:(opD tk.s==0) with
   |true=>
    rw [if_neg (by simp)]
    simp only [go_sem,seval,ho,n0,m0,n1,m1,p0,p1]
    exact ⟨rfl,lab_gu _ zGu,shrink_rY (by simp) (fun q hq hne=>by simp [bk_apply,hne,show q≠h.n by omega,show q≠h.n+1 by omega]) (by simp [bk_apply,n0,n1,hb])⟩
   |false=>
    rw [if_pos (by simp)]
    have hN1:=hN hk5
    have hrf2:rfX ts ⟨x.s.i+1,x.s.er⟩ x.d= .cells [.sl .sh 4 (ts.map Tk.av), .int .i64 ((x.s.i+1:Nat):Int), .int .i64 (erE x.s.er), .int .i64 ((erP 0 x.s.er:Nat):Int), .int .i64 x.d]:=rfl
    have hM:=fun (H:Hp) (b1:l<H.n) (b2:H.bk l=rfX ts ⟨x.s.i+1,x.s.er⟩ x.d)=>fy_term (h:=H) b1 W hN1 b2
    simp only at hM
    generalize tmF ts ⟨⟨x.s.i+1,x.s.er⟩,x.d⟩=R at *
    obtain ⟨⟨ra,rb,rc,re⟩,s2⟩:=R
    simp only [avf_mk] at hM ⊢
    simp only [go_sem,seval,ho,n0,m0,n1,m1,p0,p1]
    refine ⟨?_,⟨?_, ?_⟩, ?_, ?_⟩
    ·skip
     refine ccallD rfl (hT _ (by simp;omega) (by simp [bk_apply,n0,n1,n2,hb])) (by simp only [go_sem,seval]) ?_
     simp only [go_sem,seval,n0,m0,n1,m1,p0,p1]
     refine pcallD hO (by simp only [go_sem,seval]) ?_
     simp only [go_sem,seval,hrf,hw,n0,n1,n2,m0,m1,m2,p0,p1,p2,p3,p4,p5]
     refine ⟨?_, ?_⟩
     iterate 2
      ·skip
       rw [←hrf2]
       refine ccall (hM _ (by simp;omega) (by simp [bk_apply,n0,n1,n2,m0,m1,m2])) (by simp only [go_sem,seval]) ?_
       simp only [go_sem,seval,n0,n1,n2,m0,m1,m2,p0,p1,p2,p3,p4,p5]
       exact ⟨rfl,lab_gu _ ⟨opD tk.s,T.mk ta tb tc te,T.mk ra rb rc re⟩,shrink_rY (by simp) (fun q hq hne=>by simp [bk_apply,hne,show q≠h.n by omega,show q≠h.n+1 by omega,show q≠h.n+2 by omega]) (by simp [bk_apply,n0,n1,n2])⟩
    iterate 4
     ·skip
      refine ccallD rfl (hT _ (by simp;omega) (by simp [bk_apply,n0,n1,n2,hb])) (by simp only [go_sem,seval]) ?_
      simp only [go_sem,seval,n0,m0,n1,m1,p0,p1]
      refine pcallD hO (by simp only [go_sem,seval]) ?_
      simp only [go_sem,seval,hrf,hw,n0,n1,n2,m0,m1,m2,p0,p1,p2,p3,p4,p5]
      rw [←hrf2]
      refine ccall (hM _ (by simp;omega) (by simp [bk_apply,n0,n1,n2,m0,m1,m2])) (by simp only [go_sem,seval]) ?_
      simp only [go_sem,seval,n0,n1,n2,m0,m1,m2,p0,p1,p2,p3,p4,p5]
      exact ⟨rfl,lab_gu _ ⟨opD tk.s,T.mk ta tb tc te,T.mk ra rb rc re⟩,shrink_rY (by simp) (fun q hq hne=>by simp [bk_apply,hne,show q≠h.n by omega,show q≠h.n+1 by omega,show q≠h.n+2 by omega]) (by simp [bk_apply,n0,n1,n2])⟩
def tkR (ts:List Tk) (s:St):Tk:=ts[s.i+1]?.getD ⟨5, [],0,0⟩
theorem tkR_get {ts:List Tk} (W:Wds ts) {s:St} (h:SOk ts s) (hk:((tkS ts s).k !=5)=true):ts[s.i+1]? =some (tkR ts s):=by
 have:=W.Nx s.i _ (tkS_get h) hk
 unfold tkR;rw [List.getElem?_eq_getElem this];rfl
def kiD (ts:List Tk) (s:St):Int:=if isN (tkS ts s) (guS 1)=true then 6 else if isN (tkS ts s) (guS 0)=true then 5 else 0
def endF (ts:List Tk) (ok:Bool) (s:St):St:=if (!ok&&s.er.isNone)=true then failS (tkS ts s).p 4 s else s
def guardF (ts:List Tk) (x:Sf):Gu×St:=
 if x.s.er.isNone=true then
  (if (!(kiD ts x.s==0)&&(tkR ts x.s).k==1)=true then (⟨kiD ts x.s,(tmF ts ⟨⟨x.s.i+1,x.s.er⟩,x.d⟩).1,zT⟩,(tmF ts ⟨⟨x.s.i+1,x.s.er⟩,x.d⟩).2)
  else ((compareF ts (tmF ts x).1 ⟨(tmF ts x).2,x.d⟩).1,endF ts (compareF ts (tmF ts x).1 ⟨(tmF ts x).2,x.d⟩).2.1 (compareF ts (tmF ts x).1 ⟨(tmF ts x).2,x.d⟩).2.2))
 else (zGu,x.s)
theorem compareF_ok {ts:List Tk} (W:Wds ts) {t:T} {x:Sf} (hx:FOk ts x):SOk ts (compareF ts t x).2.2∧x.s.i≤(compareF ts t x).2.2.i∧((compareF ts t x).2.2.er=none→x.s.er=none):=by
 unfold compareF;split
 ·rename_i e
  have hk:((tkS ts x.s).k !=5)=true:=by simp at e;rw [e.2.1];rfl
  have h1:=next_ok W hx hk
  have h2:=tmF_i ts ⟨⟨x.s.i+1,x.s.er⟩,x.d⟩
  exact ⟨tmF_ok W h1,by simp only at h2 ⊢;omega,fun e=>tmF_st (x:=⟨⟨x.s.i+1,x.s.er⟩,x.d⟩) e⟩
 ·exact ⟨hx.1,Nat.le_refl _,fun e=>e⟩
theorem endF_ok {ts:List Tk} {ok:Bool} {s:St} (h:SOk ts s):SOk ts (endF ts ok s)∧(endF ts ok s).i=s.i∧((endF ts ok s).er=none→s.er=none):=by
 unfold endF;split
 ·exact ⟨failS_ok h (by decide),failS_i _ _ _,fun e=>failS_st e⟩
 ·exact ⟨h,rfl,fun e=>e⟩
theorem kiD_k {ts:List Tk} {s:St} (h:(kiD ts s==0)=false):((tkS ts s).k !=5)=true:=by
 unfold kiD isN at h
 split at h
 ·rename_i e;simp at e;rw [e.1];rfl
 split at h
 ·rename_i e;simp at e;rw [e.1];rfl
 ·cases h
theorem guardF_ok {ts:List Tk} (W:Wds ts) {x:Sf} (hx:FOk ts x):SOk ts (guardF ts x).2∧x.s.i≤(guardF ts x).2.i∧((guardF ts x).2.er=none→x.s.er=none):=by
 unfold guardF;split
 ·rename_i e0
  have e0' :x.s.er=none:=by simpa using e0
  split
  ·rename_i e
   simp only [Bool.and_eq_true,Bool.not_eq_true'] at e
   have h1:=next_ok W hx (kiD_k e.1)
   have h2:=tmF_i ts ⟨⟨x.s.i+1,x.s.er⟩,x.d⟩
   exact ⟨tmF_ok W h1,by simp only at h2 ⊢;omega,fun _=>e0'⟩
  ·have h1:=tmF_ok W hx
   have h2:=tmF_i ts x
   obtain ⟨k1,k2,k3⟩:=compareF_ok W (t:=(tmF ts x).1) (hx.to h1 (fun e=>tmF_st e))
   obtain ⟨k4,k5,k6⟩:=endF_ok (ok:=(compareF ts (tmF ts x).1 ⟨(tmF ts x).2,x.d⟩).2.1) k1
   exact ⟨k4,by simp only at k2 ⊢;omega,fun _=>e0'⟩
 ·exact ⟨hx.1,Nat.le_refl _,fun e=>e⟩
set_option maxHeartbeats 4000000 in
theorem fy_guard {h:Hp} {l:Nat} (hl:l<h.n) {ts:List Tk} (W:Wds ts) {x:Sf} (hx:FOk ts x) (hb:h.bk l=rfX ts x.s x.d):
  Fn Tryz.prog 106 [.ptr l 0] h (guardF ts x).1.avf ⟨h.n,updB h.bk l (rfX ts (guardF ts x).2 x.d)⟩:=by
 have n0: ¬l=h.n:=by omega
 have n1: ¬l=h.n+1:=by omega
 have n2: ¬l=h.n+2:=by omega
 have m0: ¬h.n=l:=by omega
 have m1: ¬h.n+1=l:=by omega
 have m2: ¬h.n+2=l:=by omega
 have p0: ¬h.n=h.n+1:=by omega
 have p1: ¬h.n+1=h.n:=by omega
 have p2: ¬h.n=h.n+2:=by omega
 have p3: ¬h.n+2=h.n:=by omega
 have p4: ¬h.n+1=h.n+2:=by omega
 have p5: ¬h.n+2=h.n+1:=by omega
 have hrf:h.bk l= .cells [.sl .sh 4 (ts.map Tk.av), .int .i64 (x.s.i:Nat), .int .i64 (erE x.s.er), .int .i64 ((erP 0 x.s.er:Nat):Int), .int .i64 x.d]:=hb
 have hz:=erE_z hx.1.2
 have hi1:=hx.1.1
 have hL:=W.len
 have hw:IntKind.i64.wrap ((x.s.i:Int)+1)=((x.s.i+1:Nat):Int):=by rw [wrap64]<;>omega
 refine fnC mixed Tryz.func106 c106 (by simp) ?_
 unfold guardF
 cases hn:x.s.er.isNone with
 |false=>
  rw [hn] at hz
  have hz' :(erE x.s.er !=0)=true:=by simp [bne,hz]
  rw [if_neg (by simp)]
  simp only [go_sem,seval,hrf,hz',n0,m0]
  exact ⟨rfl,lab_gu _ zGu,shrink_rY (by simp) (fun q hq hne=>by simp [bk_apply,hne,show q≠h.n by omega]) (by simp [bk_apply,n0,hb])⟩
 |true=>
  rw [hn] at hz
  have hz' :(erE x.s.er !=0)=false:=by simp [bne,hz]
  rw [if_pos rfl]
  have hI:=fun (H:Hp) (a1:l<H.n) (a2:H.bk l=rfX ts x.s x.d) (c:List UInt8)=>fy_is (h:=H) a1 hx.1 a2 1 c
  rw [hn] at hI
  simp only [Bool.true_and] at hI
  have hR:=fun h=>tkR_get W hx.1 (kiD_k h)
  have hN:=fun h=>next_ok W hx (kiD_k h)
  have hT:=fun (H:Hp) (b1:l<H.n) (b2:H.bk l=rfX ts x.s x.d)=>fy_term (h:=H) b1 W hx b2
  have h2:=tmF_ok W hx
  have h2' :=hx.to h2 (fun e=>tmF_st e)
  simp only [go_sem,seval,hrf,hz',n0,m0]
  refine ccall (hI _ (by simp;omega) (by simp [bk_apply,n0,hb]) (guS 0)) (by simp only [go_sem,seval];try rfl) ?_
  unfold kiD
  unfold kiD at hR hN
  rw [show ((tkS ts x.s).k==1&&(tkS ts x.s).s==guS 0)=isN (tkS ts x.s) (guS 0) from rfl]
  cases c0:isN (tkS ts x.s) (guS 0) with
  |true=>
   simp only [go_sem,seval,n0,m0]
   refine ccall (hI _ (by simp;omega) (by simp [bk_apply,n0,hb]) (guS 1)) (by simp only [go_sem,seval];try rfl) ?_
   rw [show ((tkS ts x.s).k==1&&(tkS ts x.s).s==guS 1)=isN (tkS ts x.s) (guS 1) from rfl]
   cases c1:isN (tkS ts x.s) (guS 1) with
   |true=>
    rw [c1,if_pos rfl] at hR hN
    simp only [if_true]
    have hR1:=hR rfl
    have hN1:=hN rfl
    have hxe:(ts.map Tk.av)[x.s.i+1]? =some (.agg [.int .i64 (tkR ts x.s).k, .str (tkR ts x.s).s, .int .i64 (tkR ts x.s).n, .int .i64 ((tkR ts x.s).p:Nat)]):=by rw [List.getElem?_map,hR1];rfl
    cases hc:((tkR ts x.s).k==1) with
    |false=>
     rw [if_neg (by simp)]
     simp only [go_sem,seval,hrf,hw,hxe,hc,n0,m0]
     refine ccall (hT _ (by simp;omega) (by simp [bk_apply,n0,n1,n2,m0,m1,m2,hb])) (by simp only [go_sem,seval]) ?_
     clear hT hI hR hN
     generalize tmF ts x=R at *
     obtain ⟨⟨ra,rb,rc,re⟩,s2⟩:=R
     simp only [avf_mk] at h2 h2' ⊢
     have hC:=fun (H:Hp) (b1:l<H.n) (b2:H.bk l=rfX ts s2 x.d)=>fy_compare (h:=H) b1 W (x:=⟨s2,x.d⟩) h2' b2 (T.mk ra rb rc re)
     obtain ⟨k1,k2,k3⟩:=compareF_ok W (t:=T.mk ra rb rc re) h2'
     simp only [avf_mk] at hC
     generalize compareF ts (T.mk ra rb rc re) ⟨s2,x.d⟩=R at *
     obtain ⟨⟨gk,⟨ga,gb,gc,ge⟩,⟨ga',gb',gc',ge'⟩⟩,ok,s3⟩:=R
     simp only at k1 k2 k3 hC ⊢
     have hga:(Gu.mk gk (.mk ga gb gc ge) (.mk ga' gb' gc' ge')).avf= .agg [.int .i64 gk, .int .i64 ga, .str gb, .int .i64 gc, .sl (flS ge) 4 (ge.map T.avf), .int .i64 ga', .str gb', .int .i64 gc', .sl (flS ge') 4 (ge'.map T.avf)]:=rfl
     rw [hga] at hC
     simp only [go_sem,seval,n0,n1,n2,m0,m1,m2,p0,p1,p2,p3,p4,p5]
     refine ccall (hC _ (by simp;omega) (by simp [bk_apply,n0,n1,n2,m0,m1,m2,hb])) (by simp only [go_sem,seval]) ?_
     have hz3:=erE_z k1.2
     have hrf3:rfX ts s3 x.d= .cells [.sl .sh 4 (ts.map Tk.av), .int .i64 (s3.i:Nat), .int .i64 (erE s3.er), .int .i64 ((erP 0 s3.er:Nat):Int), .int .i64 x.d]:=rfl
     unfold endF
     cases ok with
     |true=>
      simp only [Bool.not_true,Bool.false_and,Bool.false_eq_true,if_false]
      simp only [go_sem,seval,n0,n1,n2,m0,m1,m2,p0,p1,p2,p3,p4,p5]
      exact ⟨rfl,lab_gu _ _,shrink_rY (by simp) (fun q hq hne=>by simp [bk_apply,hne,show q≠h.n by omega,show q≠h.n+1 by omega,show q≠h.n+2 by omega]) (by simp [bk_apply,n0,n1,n2])⟩
     |false=>
      simp only [Bool.not_false,Bool.true_and]
      cases hn3:s3.er.isNone with
      |false=>
       rw [hn3] at hz3
       rw [if_neg (by simp)]
       simp only [go_sem,seval,hrf3,hz3,n0,n1,n2,m0,m1,m2,p0,p1,p2,p3,p4,p5]
       rw [←hrf3]
       exact ⟨rfl,lab_gu _ _,shrink_rY (by simp) (fun q hq hne=>by simp [bk_apply,hne,show q≠h.n by omega,show q≠h.n+1 by omega,show q≠h.n+2 by omega]) (by simp [bk_apply,n0,n1,n2])⟩
      |true=>
       rw [hn3] at hz3
       rw [if_pos rfl]
       simp only [go_sem,seval,hrf3,hz3,n0,n1,n2,m0,m1,m2,p0,p1,p2,p3,p4,p5]
       rw [←hrf3]
       refine ccall (fy_now (l:=l) (ts:=ts) (s:=s3) (d:=x.d) (by simp;omega) k1 (by simp [bk_apply,n0,n1,n2])) (by simp only [go_sem,seval]) ?_
       simp only [go_sem,seval,n0,n1,n2,m0,m1,m2,p0,p1,p2,p3,p4,p5]
       refine ccall (fy_fails (l:=l) (ts:=ts) (s:=s3) (d:=x.d) (by simp;omega) k1 (by simp [bk_apply,n0,n1,n2]) (tkS ts s3).p 4) (by simp only [go_sem,seval]) ?_
       simp only [go_sem,seval,n0,n1,n2,m0,m1,m2,p0,p1,p2,p3,p4,p5]
       exact ⟨rfl,lab_gu _ _,shrink_rY (by simp) (fun q hq hne=>by simp [bk_apply,hne,show q≠h.n by omega,show q≠h.n+1 by omega,show q≠h.n+2 by omega]) (by simp [bk_apply,n0,n1,n2])⟩
    |true=>
     rw [if_pos (by simp)]
     have hrf2:rfX ts ⟨x.s.i+1,x.s.er⟩ x.d= .cells [.sl .sh 4 (ts.map Tk.av), .int .i64 ((x.s.i+1:Nat):Int), .int .i64 (erE x.s.er), .int .i64 ((erP 0 x.s.er:Nat):Int), .int .i64 x.d]:=rfl
     have hM:=fun (H:Hp) (b1:l<H.n) (b2:H.bk l=rfX ts ⟨x.s.i+1,x.s.er⟩ x.d)=>fy_term (h:=H) b1 W hN1 b2
     simp only at hM
     generalize tmF ts ⟨⟨x.s.i+1,x.s.er⟩,x.d⟩=R at *
     obtain ⟨⟨ra,rb,rc,re⟩,s2⟩:=R
     simp only [avf_mk] at hM ⊢
     simp only [go_sem,seval,hrf,hw,hxe,hc,n0,m0]
     rw [←hrf2]
     refine ccall (hM _ (by simp;omega) (by simp [bk_apply,n0,n1,n2,m0,m1,m2])) (by simp only [go_sem,seval]) ?_
     simp only [go_sem,seval,n0,n1,n2,m0,m1,m2,p0,p1,p2,p3,p4,p5]
     exact ⟨rfl,lab_gu _ _,shrink_rY (by simp) (fun q hq hne=>by simp [bk_apply,hne,show q≠h.n by omega,show q≠h.n+1 by omega,show q≠h.n+2 by omega]) (by simp [bk_apply,n0,n1,n2])⟩
   |false=>
    rw [c0,c1,if_neg (by simp),if_pos rfl] at hR hN
    simp only [if_true,Bool.false_eq_true,if_false]
    have hR1:=hR rfl
    have hN1:=hN rfl
    have hxe:(ts.map Tk.av)[x.s.i+1]? =some (.agg [.int .i64 (tkR ts x.s).k, .str (tkR ts x.s).s, .int .i64 (tkR ts x.s).n, .int .i64 ((tkR ts x.s).p:Nat)]):=by rw [List.getElem?_map,hR1];rfl
    cases hc:((tkR ts x.s).k==1) with
    |false=>
     rw [if_neg (by simp)]
     simp only [go_sem,seval,hrf,hw,hxe,hc,n0,m0]
     refine ccall (hT _ (by simp;omega) (by simp [bk_apply,n0,n1,n2,m0,m1,m2,hb])) (by simp only [go_sem,seval]) ?_
     clear hT hI hR hN
     generalize tmF ts x=R at *
     obtain ⟨⟨ra,rb,rc,re⟩,s2⟩:=R
     simp only [avf_mk] at h2 h2' ⊢
     have hC:=fun (H:Hp) (b1:l<H.n) (b2:H.bk l=rfX ts s2 x.d)=>fy_compare (h:=H) b1 W (x:=⟨s2,x.d⟩) h2' b2 (T.mk ra rb rc re)
     obtain ⟨k1,k2,k3⟩:=compareF_ok W (t:=T.mk ra rb rc re) h2'
     simp only [avf_mk] at hC
     generalize compareF ts (T.mk ra rb rc re) ⟨s2,x.d⟩=R at *
     obtain ⟨⟨gk,⟨ga,gb,gc,ge⟩,⟨ga',gb',gc',ge'⟩⟩,ok,s3⟩:=R
     simp only at k1 k2 k3 hC ⊢
     have hga:(Gu.mk gk (.mk ga gb gc ge) (.mk ga' gb' gc' ge')).avf= .agg [.int .i64 gk, .int .i64 ga, .str gb, .int .i64 gc, .sl (flS ge) 4 (ge.map T.avf), .int .i64 ga', .str gb', .int .i64 gc', .sl (flS ge') 4 (ge'.map T.avf)]:=rfl
     rw [hga] at hC
     simp only [go_sem,seval,n0,n1,n2,m0,m1,m2,p0,p1,p2,p3,p4,p5]
     refine ccall (hC _ (by simp;omega) (by simp [bk_apply,n0,n1,n2,m0,m1,m2,hb])) (by simp only [go_sem,seval]) ?_
     have hz3:=erE_z k1.2
     have hrf3:rfX ts s3 x.d= .cells [.sl .sh 4 (ts.map Tk.av), .int .i64 (s3.i:Nat), .int .i64 (erE s3.er), .int .i64 ((erP 0 s3.er:Nat):Int), .int .i64 x.d]:=rfl
     unfold endF
     cases ok with
     |true=>
      simp only [Bool.not_true,Bool.false_and,Bool.false_eq_true,if_false]
      simp only [go_sem,seval,n0,n1,n2,m0,m1,m2,p0,p1,p2,p3,p4,p5]
      exact ⟨rfl,lab_gu _ _,shrink_rY (by simp) (fun q hq hne=>by simp [bk_apply,hne,show q≠h.n by omega,show q≠h.n+1 by omega,show q≠h.n+2 by omega]) (by simp [bk_apply,n0,n1,n2])⟩
     |false=>
      simp only [Bool.not_false,Bool.true_and]
      cases hn3:s3.er.isNone with
      |false=>
       rw [hn3] at hz3
       rw [if_neg (by simp)]
       simp only [go_sem,seval,hrf3,hz3,n0,n1,n2,m0,m1,m2,p0,p1,p2,p3,p4,p5]
       rw [←hrf3]
       exact ⟨rfl,lab_gu _ _,shrink_rY (by simp) (fun q hq hne=>by simp [bk_apply,hne,show q≠h.n by omega,show q≠h.n+1 by omega,show q≠h.n+2 by omega]) (by simp [bk_apply,n0,n1,n2])⟩
      |true=>
       rw [hn3] at hz3
       rw [if_pos rfl]
       simp only [go_sem,seval,hrf3,hz3,n0,n1,n2,m0,m1,m2,p0,p1,p2,p3,p4,p5]
       rw [←hrf3]
       refine ccall (fy_now (l:=l) (ts:=ts) (s:=s3) (d:=x.d) (by simp;omega) k1 (by simp [bk_apply,n0,n1,n2])) (by simp only [go_sem,seval]) ?_
       simp only [go_sem,seval,n0,n1,n2,m0,m1,m2,p0,p1,p2,p3,p4,p5]
       refine ccall (fy_fails (l:=l) (ts:=ts) (s:=s3) (d:=x.d) (by simp;omega) k1 (by simp [bk_apply,n0,n1,n2]) (tkS ts s3).p 4) (by simp only [go_sem,seval]) ?_
       simp only [go_sem,seval,n0,n1,n2,m0,m1,m2,p0,p1,p2,p3,p4,p5]
       exact ⟨rfl,lab_gu _ _,shrink_rY (by simp) (fun q hq hne=>by simp [bk_apply,hne,show q≠h.n by omega,show q≠h.n+1 by omega,show q≠h.n+2 by omega]) (by simp [bk_apply,n0,n1,n2])⟩
    |true=>
     rw [if_pos (by simp)]
     have hrf2:rfX ts ⟨x.s.i+1,x.s.er⟩ x.d= .cells [.sl .sh 4 (ts.map Tk.av), .int .i64 ((x.s.i+1:Nat):Int), .int .i64 (erE x.s.er), .int .i64 ((erP 0 x.s.er:Nat):Int), .int .i64 x.d]:=rfl
     have hM:=fun (H:Hp) (b1:l<H.n) (b2:H.bk l=rfX ts ⟨x.s.i+1,x.s.er⟩ x.d)=>fy_term (h:=H) b1 W hN1 b2
     simp only at hM
     generalize tmF ts ⟨⟨x.s.i+1,x.s.er⟩,x.d⟩=R at *
     obtain ⟨⟨ra,rb,rc,re⟩,s2⟩:=R
     simp only [avf_mk] at hM ⊢
     simp only [go_sem,seval,hrf,hw,hxe,hc,n0,m0]
     rw [←hrf2]
     refine ccall (hM _ (by simp;omega) (by simp [bk_apply,n0,n1,n2,m0,m1,m2])) (by simp only [go_sem,seval]) ?_
     simp only [go_sem,seval,n0,n1,n2,m0,m1,m2,p0,p1,p2,p3,p4,p5]
     exact ⟨rfl,lab_gu _ _,shrink_rY (by simp) (fun q hq hne=>by simp [bk_apply,hne,show q≠h.n by omega,show q≠h.n+1 by omega,show q≠h.n+2 by omega]) (by simp [bk_apply,n0,n1,n2])⟩
  |false=>
   simp only [go_sem,seval,n0,m0]
   refine ccall (hI _ (by simp;omega) (by simp [bk_apply,n0,hb]) (guS 1)) (by simp only [go_sem,seval];try rfl) ?_
   rw [show ((tkS ts x.s).k==1&&(tkS ts x.s).s==guS 1)=isN (tkS ts x.s) (guS 1) from rfl]
   cases c1:isN (tkS ts x.s) (guS 1) with
   |true=>
    rw [c1,if_pos rfl] at hR hN
    simp only [if_true,Bool.false_eq_true,if_false]
    have hR1:=hR rfl
    have hN1:=hN rfl
    have hxe:(ts.map Tk.av)[x.s.i+1]? =some (.agg [.int .i64 (tkR ts x.s).k, .str (tkR ts x.s).s, .int .i64 (tkR ts x.s).n, .int .i64 ((tkR ts x.s).p:Nat)]):=by rw [List.getElem?_map,hR1];rfl
    cases hc:((tkR ts x.s).k==1) with
    |false=>
     rw [if_neg (by simp)]
     simp only [go_sem,seval,hrf,hw,hxe,hc,n0,m0]
     refine ccall (hT _ (by simp;omega) (by simp [bk_apply,n0,n1,n2,m0,m1,m2,hb])) (by simp only [go_sem,seval]) ?_
     clear hT hI hR hN
     generalize tmF ts x=R at *
     obtain ⟨⟨ra,rb,rc,re⟩,s2⟩:=R
     simp only [avf_mk] at h2 h2' ⊢
     have hC:=fun (H:Hp) (b1:l<H.n) (b2:H.bk l=rfX ts s2 x.d)=>fy_compare (h:=H) b1 W (x:=⟨s2,x.d⟩) h2' b2 (T.mk ra rb rc re)
     obtain ⟨k1,k2,k3⟩:=compareF_ok W (t:=T.mk ra rb rc re) h2'
     simp only [avf_mk] at hC
     generalize compareF ts (T.mk ra rb rc re) ⟨s2,x.d⟩=R at *
     obtain ⟨⟨gk,⟨ga,gb,gc,ge⟩,⟨ga',gb',gc',ge'⟩⟩,ok,s3⟩:=R
     simp only at k1 k2 k3 hC ⊢
     have hga:(Gu.mk gk (.mk ga gb gc ge) (.mk ga' gb' gc' ge')).avf= .agg [.int .i64 gk, .int .i64 ga, .str gb, .int .i64 gc, .sl (flS ge) 4 (ge.map T.avf), .int .i64 ga', .str gb', .int .i64 gc', .sl (flS ge') 4 (ge'.map T.avf)]:=rfl
     rw [hga] at hC
     simp only [go_sem,seval,n0,n1,n2,m0,m1,m2,p0,p1,p2,p3,p4,p5]
     refine ccall (hC _ (by simp;omega) (by simp [bk_apply,n0,n1,n2,m0,m1,m2,hb])) (by simp only [go_sem,seval]) ?_
     have hz3:=erE_z k1.2
     have hrf3:rfX ts s3 x.d= .cells [.sl .sh 4 (ts.map Tk.av), .int .i64 (s3.i:Nat), .int .i64 (erE s3.er), .int .i64 ((erP 0 s3.er:Nat):Int), .int .i64 x.d]:=rfl
     unfold endF
     cases ok with
     |true=>
      simp only [Bool.not_true,Bool.false_and,Bool.false_eq_true,if_false]
      simp only [go_sem,seval,n0,n1,n2,m0,m1,m2,p0,p1,p2,p3,p4,p5]
      exact ⟨rfl,lab_gu _ _,shrink_rY (by simp) (fun q hq hne=>by simp [bk_apply,hne,show q≠h.n by omega,show q≠h.n+1 by omega,show q≠h.n+2 by omega]) (by simp [bk_apply,n0,n1,n2])⟩
     |false=>
      simp only [Bool.not_false,Bool.true_and]
      cases hn3:s3.er.isNone with
      |false=>
       rw [hn3] at hz3
       rw [if_neg (by simp)]
       simp only [go_sem,seval,hrf3,hz3,n0,n1,n2,m0,m1,m2,p0,p1,p2,p3,p4,p5]
       rw [←hrf3]
       exact ⟨rfl,lab_gu _ _,shrink_rY (by simp) (fun q hq hne=>by simp [bk_apply,hne,show q≠h.n by omega,show q≠h.n+1 by omega,show q≠h.n+2 by omega]) (by simp [bk_apply,n0,n1,n2])⟩
      |true=>
       rw [hn3] at hz3
       rw [if_pos rfl]
       simp only [go_sem,seval,hrf3,hz3,n0,n1,n2,m0,m1,m2,p0,p1,p2,p3,p4,p5]
       rw [←hrf3]
       refine ccall (fy_now (l:=l) (ts:=ts) (s:=s3) (d:=x.d) (by simp;omega) k1 (by simp [bk_apply,n0,n1,n2])) (by simp only [go_sem,seval]) ?_
       simp only [go_sem,seval,n0,n1,n2,m0,m1,m2,p0,p1,p2,p3,p4,p5]
       refine ccall (fy_fails (l:=l) (ts:=ts) (s:=s3) (d:=x.d) (by simp;omega) k1 (by simp [bk_apply,n0,n1,n2]) (tkS ts s3).p 4) (by simp only [go_sem,seval]) ?_
       simp only [go_sem,seval,n0,n1,n2,m0,m1,m2,p0,p1,p2,p3,p4,p5]
       exact ⟨rfl,lab_gu _ _,shrink_rY (by simp) (fun q hq hne=>by simp [bk_apply,hne,show q≠h.n by omega,show q≠h.n+1 by omega,show q≠h.n+2 by omega]) (by simp [bk_apply,n0,n1,n2])⟩
    |true=>
     rw [if_pos (by simp)]
     have hrf2:rfX ts ⟨x.s.i+1,x.s.er⟩ x.d= .cells [.sl .sh 4 (ts.map Tk.av), .int .i64 ((x.s.i+1:Nat):Int), .int .i64 (erE x.s.er), .int .i64 ((erP 0 x.s.er:Nat):Int), .int .i64 x.d]:=rfl
     have hM:=fun (H:Hp) (b1:l<H.n) (b2:H.bk l=rfX ts ⟨x.s.i+1,x.s.er⟩ x.d)=>fy_term (h:=H) b1 W hN1 b2
     simp only at hM
     generalize tmF ts ⟨⟨x.s.i+1,x.s.er⟩,x.d⟩=R at *
     obtain ⟨⟨ra,rb,rc,re⟩,s2⟩:=R
     simp only [avf_mk] at hM ⊢
     simp only [go_sem,seval,hrf,hw,hxe,hc,n0,m0]
     rw [←hrf2]
     refine ccall (hM _ (by simp;omega) (by simp [bk_apply,n0,n1,n2,m0,m1,m2])) (by simp only [go_sem,seval]) ?_
     simp only [go_sem,seval,n0,n1,n2,m0,m1,m2,p0,p1,p2,p3,p4,p5]
     exact ⟨rfl,lab_gu _ _,shrink_rY (by simp) (fun q hq hne=>by simp [bk_apply,hne,show q≠h.n by omega,show q≠h.n+1 by omega,show q≠h.n+2 by omega]) (by simp [bk_apply,n0,n1,n2])⟩
   |false=>
    simp only [Bool.false_eq_true,if_false]
    rw [if_neg (by simp)]
    simp only [go_sem,seval,n0,m0]
    refine ccall (hT _ (by simp;omega) (by simp [bk_apply,n0,n1,n2,m0,m1,m2,hb])) (by simp only [go_sem,seval]) ?_
    clear hT hI hR hN
    generalize tmF ts x=R at *
    obtain ⟨⟨ra,rb,rc,re⟩,s2⟩:=R
    simp only [avf_mk] at h2 h2' ⊢
    have hC:=fun (H:Hp) (b1:l<H.n) (b2:H.bk l=rfX ts s2 x.d)=>fy_compare (h:=H) b1 W (x:=⟨s2,x.d⟩) h2' b2 (T.mk ra rb rc re)
    obtain ⟨k1,k2,k3⟩:=compareF_ok W (t:=T.mk ra rb rc re) h2'
    simp only [avf_mk] at hC
    generalize compareF ts (T.mk ra rb rc re) ⟨s2,x.d⟩=R at *
    obtain ⟨⟨gk,⟨ga,gb,gc,ge⟩,⟨ga',gb',gc',ge'⟩⟩,ok,s3⟩:=R
    simp only at k1 k2 k3 hC ⊢
    have hga:(Gu.mk gk (.mk ga gb gc ge) (.mk ga' gb' gc' ge')).avf= .agg [.int .i64 gk, .int .i64 ga, .str gb, .int .i64 gc, .sl (flS ge) 4 (ge.map T.avf), .int .i64 ga', .str gb', .int .i64 gc', .sl (flS ge') 4 (ge'.map T.avf)]:=rfl
    rw [hga] at hC
    simp only [go_sem,seval,n0,n1,n2,m0,m1,m2,p0,p1,p2,p3,p4,p5]
    refine ccall (hC _ (by simp;omega) (by simp [bk_apply,n0,n1,n2,m0,m1,m2,hb])) (by simp only [go_sem,seval]) ?_
    have hz3:=erE_z k1.2
    have hrf3:rfX ts s3 x.d= .cells [.sl .sh 4 (ts.map Tk.av), .int .i64 (s3.i:Nat), .int .i64 (erE s3.er), .int .i64 ((erP 0 s3.er:Nat):Int), .int .i64 x.d]:=rfl
    unfold endF
    cases ok with
    |true=>
     simp only [Bool.not_true,Bool.false_and,Bool.false_eq_true,if_false]
     simp only [go_sem,seval,n0,n1,n2,m0,m1,m2,p0,p1,p2,p3,p4,p5]
     exact ⟨rfl,lab_gu _ _,shrink_rY (by simp) (fun q hq hne=>by simp [bk_apply,hne,show q≠h.n by omega,show q≠h.n+1 by omega,show q≠h.n+2 by omega]) (by simp [bk_apply,n0,n1,n2])⟩
    |false=>
     simp only [Bool.not_false,Bool.true_and]
     cases hn3:s3.er.isNone with
     |false=>
      rw [hn3] at hz3
      rw [if_neg (by simp)]
      simp only [go_sem,seval,hrf3,hz3,n0,n1,n2,m0,m1,m2,p0,p1,p2,p3,p4,p5]
      rw [←hrf3]
      exact ⟨rfl,lab_gu _ _,shrink_rY (by simp) (fun q hq hne=>by simp [bk_apply,hne,show q≠h.n by omega,show q≠h.n+1 by omega,show q≠h.n+2 by omega]) (by simp [bk_apply,n0,n1,n2])⟩
     |true=>
      rw [hn3] at hz3
      rw [if_pos rfl]
      simp only [go_sem,seval,hrf3,hz3,n0,n1,n2,m0,m1,m2,p0,p1,p2,p3,p4,p5]
      rw [←hrf3]
      refine ccall (fy_now (l:=l) (ts:=ts) (s:=s3) (d:=x.d) (by simp;omega) k1 (by simp [bk_apply,n0,n1,n2])) (by simp only [go_sem,seval]) ?_
      simp only [go_sem,seval,n0,n1,n2,m0,m1,m2,p0,p1,p2,p3,p4,p5]
      refine ccall (fy_fails (l:=l) (ts:=ts) (s:=s3) (d:=x.d) (by simp;omega) k1 (by simp [bk_apply,n0,n1,n2]) (tkS ts s3).p 4) (by simp only [go_sem,seval]) ?_
      simp only [go_sem,seval,n0,n1,n2,m0,m1,m2,p0,p1,p2,p3,p4,p5]
      exact ⟨rfl,lab_gu _ _,shrink_rY (by simp) (fun q hq hne=>by simp [bk_apply,hne,show q≠h.n by omega,show q≠h.n+1 by omega,show q≠h.n+2 by omega]) (by simp [bk_apply,n0,n1,n2])⟩
end Go.Proofs.YtnibelnjflhkgaaGreatDoor.Ab

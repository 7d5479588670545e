/- The document's reader over states: a clause. No condition. The document's reader over states: a policy that ends an item. No condition. -/
import Derived.Test.YtnibelnjflhkgaaGreatDoorRpC
namespace Go.Proofs.YtnibelnjflhkgaaGreatDoor.Ab
set_option linter.unusedVariables false
set_option linter.unusedSimpArgs false
set_option maxRecDepth 10000
theorem c59:compF Tryz.prog ow Tryz.f59=(some (59,([(.c 4 (.agg 6))],(.seq (.ops [(none,(.box 3 (.t 1))),(none,(.alloc 4 [(.int .i64 0),(.str []),(.int .i64 0),(.sl .full 4 []),(.sl .full 4 []),(.sl .full 9 [])]))]) (.seq (.ops [(none,(.ld (some 10) (.t 3) (.agg 4))),(none,(.bld (some 11) [(.int .i64 0),(.str []),(.int .i64 0),(.sl .full 4 []),(.sl .full 4 []),(.sl .full 9 [])] [(0,4),(4,1),(5,1)] [(0,(.t 10))])),(none,(.alloc 5 [(.int .i64 0),(.str []),(.int .i64 0),(.sl .full 4 []),(.sl .full 4 []),(.sl .full 9 [])])),(none,(.st (.t 5) (.t 11) 6))]) (.block 0 (.loop (.block 1 (.seq (.ops [(none,(.cp 12 0)),(none,(.call (some 13) (.k (.func 52 [] [])) [(.t 12)] (some 100))),(none,(.fld (some 14) (.t 13) 3 (.one none))),(none,(.mv 6 14))]) (.seq (.ops [(none,(.cp 15 0)),(none,(.call (some 16) (.k (.func 53 [] [])) [(.t 15)] none)),(none,(.alloc 7 [(.int .i64 0),(.str []),(.int .i64 0),(.sl .full 4 [])])),(none,(.st (.t 7) (.t 16) 4))]) (.seq (.ops [(none,(.cp 18 0)),(none,(.ld (some 19) (.t 7) (.agg 4))),(none,(.call (some 20) (.k (.func 109 [] [])) [(.t 18),(.t 19)] none)),(none,(.cp 17 20)),(none,(.ext (some 21) (.t 17) 0)),(none,(.ext (some 22) (.t 17) 1)),(none,(.alloc 8 [(.int .i64 0),(.int .i64 0),(.str []),(.int .i64 0),(.sl .full 4 []),(.int .i64 0),(.str []),(.int .i64 0),(.sl .full 4 [])])),(none,(.st (.t 8) (.t 21) 9)),(none,(.mv 9 22))]) (.seq (.seq (.ops [(none,(.cp 23 0)),(none,(.nil (some 24) (.t 23))),(none,(.fa (some 25) (.t 24) 2)),(none,(.ld (some 26) (.t 25) (.one none))),(none,(.bin (some 27) .neq (.t 26) (.k (.int .i64 0)) false false))]) (.cond (.t 27) (.seq (.ops [(none,(.ld (some 28) (.t 5) (.agg 6))),(none,(.st (.t 4) (.t 28) 6))]) .ret) .skip)) (.seq (.seq (.ops [(none,(.cp 29 9))]) (.cond (.t 29) (.ops [(none,(.fa (some 30) (.t 5) 5)),(none,(.ldT 31 (.t 30) (some 9))),(none,(.ld (some 32) (.t 8) (.agg 9))),(none,(.bs 33 9 [(.t 32)])),(none,(.app 34 (.t 31) (.t 33) 9 120 true true)),(none,(.fa (some 35) (.t 5) 5)),(none,(.st (.t 35) (.t 34) 1))]) (.ops [(none,(.fa (some 36) (.t 5) 4)),(none,(.ldT 37 (.t 36) (some 4))),(none,(.ld (some 38) (.t 7) (.agg 4))),(none,(.bs 39 4 [(.t 38)])),(none,(.app 40 (.t 37) (.t 39) 4 56 true true)),(none,(.fa (some 41) (.t 5) 4)),(none,(.st (.t 41) (.t 40) 1))]))) (.seq (.seq (.ops [(none,(.fa (some 42) (.t 5) 4)),(none,(.ld (some 43) (.t 42) (.one (some 4)))),(none,(.len (some 44) (.t 43) false true)),(none,(.bin (some 45) .gtr (.t 44) (.k (.int .i64 3)) false false)),(none,(.cp 46 45)),((some (46,false)),(.fa (some 47) (.t 5) 5)),((some (46,false)),(.ld (some 48) (.t 47) (.one (some 9)))),((some (46,false)),(.len (some 49) (.t 48) false true)),((some (46,false)),(.bin (some 50) .gtr (.t 49) (.k (.int .i64 4)) false false)),(none,(.pick (some 51) (.t 46) (.k (.bool true)) (.t 50)))]) (.cond (.t 51) (.ops [(none,(.cp 52 0)),(none,(.cp 53 6)),(none,(.call (some 54) (.k (.func 58 [] [])) [(.t 52),(.k (.int .i64 2)),(.t 53)] none))]) .skip)) (.seq (.ops [(none,(.cp 55 0)),(none,(.call (some 56) (.k (.func 54 [] [])) [(.t 55),(.k (.str [44]))] none)),(none,(.un (some 57) .not (.t 56)))]) (.cond (.t 57) (.seq (.ops [(none,(.ld (some 58) (.t 5) (.agg 6))),(none,(.st (.t 4) (.t 58) 6))]) .ret) .skip)))))))))))))))):=by kernel_rfl
def limF (b:Bool) (p:Nat) (s:St):St:=if b=true then failS p 2 s else s
def ckB (b:List T) (t:T) (ok:Bool):List T:=if ok=true then b else b++ [t]
def ckG (g:List Gu) (u:Gu) (ok:Bool):List Gu:=if ok=true then g++ [u] else g
def ckE (b:List T) (g:List Gu):Bool:=decide ((b.length:Int)>3)||decide ((g.length:Int)>4)
def ckL (ts:List Tk) (d:Int):Nat→List T→List Gu→St→List T×List Gu×St
 |0,b,g,s=>(b,g,s)
 |m+1,b,g,s=>
  match tmF ts ⟨s,d⟩ with
  |(t,s1)=>match compareF ts t ⟨s1,d⟩ with
   |(u,ok,s2)=>if s2.er.isNone=true then
     (if takeS ts [44] (limF (ckE (ckB b t ok) (ckG g u ok)) (tkS ts s).p s2)=true then
      ckL ts d m (ckB b t ok) (ckG g u ok) (goS ts [44] (limF (ckE (ckB b t ok) (ckG g u ok)) (tkS ts s).p s2))
     else (ckB b t ok,ckG g u ok,limF (ckE (ckB b t ok) (ckG g u ok)) (tkS ts s).p s2))
    else (b,g,s2)
def clauseF (ts:List Tk) (t:T) (x:Sf):Cl×St:=(⟨t,(ckL ts x.d ts.length [] [] x.s).1,(ckL ts x.d ts.length [] [] x.s).2.1⟩,(ckL ts x.d ts.length [] [] x.s).2.2)
theorem limF_ok {ts:List Tk} {b:Bool} {p:Nat} {s:St} (h:SOk ts s):SOk ts (limF b p s)∧(limF b p s).i=s.i∧((limF b p s).er=none→s.er=none):=by
 unfold limF;split
 ·exact ⟨failS_ok h (by decide),failS_i _ _ _,fun e=>failS_st e⟩
 ·exact ⟨h,rfl,fun e=>e⟩
theorem ckL_ok {ts:List Tk} (W:Wds ts) {d:Int} : ∀(m:Nat) (b:List T) (g:List Gu) (s:St),FOk ts ⟨s,d⟩→SOk ts (ckL ts d m b g s).2.2∧s.i≤(ckL ts d m b g s).2.2.i∧((ckL ts d m b g s).2.2.er=none→s.er=none)
 |0,b,g,s,h=>⟨h.1,Nat.le_refl _,fun e=>e⟩
 |m+1,b,g,s,h=>by
  have h1:=tmF_ok W h
  have h2:=tmF_i ts ⟨s,d⟩
  have h3:=fun e=>tmF_st (ts:=ts) (x:=⟨s,d⟩) e
  rw [ckL]
  generalize tmF ts ⟨s,d⟩=R at *
  obtain ⟨t,s1⟩:=R
  simp only at h1 h2 h3 ⊢
  have h4:FOk ts ⟨s1,d⟩:=h.to h1 h3
  obtain ⟨k1,k2,k3⟩:=compareF_ok W (t:=t) h4
  generalize compareF ts t ⟨s1,d⟩=R at *
  obtain ⟨u,ok,s2⟩:=R
  simp only at k1 k2 k3 ⊢
  have h2' :s.i≤s1.i:=h2
  have k2' :s1.i≤s2.i:=k2
  split
  ·obtain ⟨k4,k5,k6⟩:=limF_ok (b:=ckE (ckB b t ok) (ckG g u ok)) (p:=(tkS ts s).p) k1
   generalize limF (ckE (ckB b t ok) (ckG g u ok)) (tkS ts s).p s2=s3 at *
   split
   ·have k7:=goS_ok (c:= [44]) W.Nx k4
    have k8:=goS_i ts [44] s3
    obtain ⟨k9,k10,k11⟩:=ckL_ok (d:=d) W m (ckB b t ok) (ckG g u ok) _ (h4.to k7 (fun e=>k3 (k6 (goS_st e))))
    exact ⟨k9,by omega,fun e=>h3 (k3 (k6 (goS_st (k11 e))))⟩
   ·exact ⟨k4,by simp only;omega,fun e=>h3 (k3 (k6 e))⟩
  ·exact ⟨k1,by simp only;omega,fun e=>h3 (k3 e)⟩
theorem clauseF_ok {ts:List Tk} (W:Wds ts) {t:T} {x:Sf} (h:FOk ts x):SOk ts (clauseF ts t x).2∧x.s.i≤(clauseF ts t x).2.i∧((clauseF ts t x).2.er=none→x.s.er=none):=ckL_ok W _ _ _ _ h
set_option maxHeartbeats 4000000 in
theorem fy_clause {h:Hp} {l:Nat} (hl:l<h.n) {ts:List Tk} (W:Wds ts) {x:Sf} (hx:FOk ts x) (hb:h.bk l=rfX ts x.s x.d) (t:T):
  Fn Tryz.prog 59 [.ptr l 0,t.avf] h (clauseF ts t x).1.avf ⟨h.n,updB h.bk l (rfX ts (clauseF ts t x).2 x.d)⟩:=by
 have n0: ¬l=h.n:=by omega
 have n1: ¬l=h.n+1:=by omega
 have n2: ¬l=h.n+2:=by omega
 have m0: ¬h.n=l:=by omega
 have m1: ¬h.n+1=l:=by omega
 have m2: ¬h.n+2=l:=by omega
 have p0: ¬h.n=h.n+1:=by omega
 have p1: ¬h.n+1=h.n:=by omega
 have p2: ¬h.n=h.n+2:=by omega
 have p3: ¬h.n+2=h.n:=by omega
 have p4: ¬h.n+1=h.n+2:=by omega
 have p5: ¬h.n+2=h.n+1:=by omega
 unfold clauseF
 obtain ⟨ta,tb,tc,te⟩:=t
 rw [avf_mk]
 refine fnC mixed Tryz.func59 c59 (by simp) ?_
 obtain ⟨s,d⟩:=x
 simp only at hb ⊢
 have hi0:=hx.1.1
 generalize hG:ckL ts d ts.length [] [] s=G
 simp only [go_sem,seval,n0,n1,n2,m0,m1,m2,p0,p1,p2,p3,p4,p5]
 refine cloop (fun m u=> ∃(b:List T) (g:List Gu) (s:St),FOk ts ⟨s,d⟩∧ts.length≤m+s.i∧b.length≤s.i∧g.length≤s.i∧u.fr 0= .ptr l 0∧u.fr 4= .ptr (h.n+1) 0∧u.fr 5= .ptr (h.n+2) 0∧h.n+3≤u.hp.n∧u.hp.bk l=rfX ts s d∧
  u.hp.bk (h.n+2)= .cells [.int .i64 ta, .str tb, .int .i64 tc, .sl (flS te) 4 (te.map T.avf), .sl (flT b) 4 (b.map T.avf), .sl (flGo g) 9 (g.map Gu.avf)]∧
  u.hp.bk (h.n+1)= .cells [.int .i64 0, .str [], .int .i64 0, .sl .full 4 [], .sl .full 4 [], .sl .full 9 []]∧(∀q,q<h.n→q≠l→u.hp.bk q=h.bk q)∧ckL ts d m b g s=G) ts.length
  ⟨[], [],s,hx,by simp only at hi0;omega,by simp,by simp,by simp [fr_apply,argsF],by simp [fr_apply],by simp [fr_apply],by simp,by simp [bk_apply,n0,n1,n2,hb],by simp [bk_apply,m2,flT,flGo],by simp [bk_apply,m1,p4],fun q hq hne=>by simp [bk_apply,hne,show q≠h.n by omega,show q≠h.n+1 by omega,show q≠h.n+2 by omega],hG⟩ ?_
 clear hG hi0 hb hx
 rintro m ⟨F,hp⟩ ⟨b,g,s,hx,hm,hbl,hgl,f0,f4,f5,hn,hb1,hb3,hb2,hbo,hG⟩
 simp only at f0 f4 f5 hn hb1 hb2 hb3 hbo
 have hi:s.i<ts.length:=hx.1.1
 obtain ⟨m,rfl⟩: ∃m',m=m' +1:=⟨m-1,by omega⟩
 have q0: ¬l=hp.n:=by omega
 have q1: ¬hp.n=l:=by omega
 have q2: ¬h.n+1=hp.n:=by omega
 have q3: ¬hp.n=h.n+1:=by omega
 have q4: ¬h.n+2=hp.n:=by omega
 have q5: ¬hp.n=h.n+2:=by omega
 have r0: ¬l=hp.n+1:=by omega
 have r1: ¬hp.n+1=l:=by omega
 have r2: ¬h.n+1=hp.n+1:=by omega
 have r3: ¬hp.n+1=h.n+1:=by omega
 have r4: ¬h.n+2=hp.n+1:=by omega
 have r5: ¬hp.n+1=h.n+2:=by omega
 have r6: ¬hp.n=hp.n+1:=by omega
 have r7: ¬hp.n+1=hp.n:=by omega
 have hL:=W.len
 have hbi:b.length<1000000000:=by omega
 have hgi:g.length<1000000000:=by omega
 rw [ckL] at hG
 simp only [go_sem,seval,f0,f4,f5]
 refine ccall (fy_now (l:=l) (ts:=ts) (s:=s) (d:=d) (by simp only;omega) hx.1 (by simp only;exact hb1)) (by simp only [go_sem,seval,f0]) ?_
 generalize (tkS ts s).p=at0 at hG
 simp only [go_sem,seval,f0,f4,f5]
 refine ccall (fy_term (l:=l) (ts:=ts) (x:=⟨s,d⟩) (by simp only;omega) W hx (by simp only;exact hb1)) (by simp only [go_sem,seval,f0]) ?_
 have h1:=tmF_ok W hx
 have h2:=tmF_i ts ⟨s,d⟩
 have h3:=hx.to h1 (fun e=>tmF_st (x:=⟨s,d⟩) e)
 generalize tmF ts ⟨s,d⟩=R at *
 obtain ⟨⟨a',b',c',e'⟩,s1⟩:=R
 simp only at h1 h2 h3 hG ⊢
 have hC:=fun (H:Hp) (b1:l<H.n) (b2:H.bk l=rfX ts s1 d)=>fy_compare (h:=H) b1 W (x:=⟨s1,d⟩) h3 b2 (T.mk a' b' c' e')
 obtain ⟨k1,k2,k3⟩:=compareF_ok W (t:=T.mk a' b' c' e') h3
 simp only [avf_mk] at hC ⊢
 generalize compareF ts (T.mk a' b' c' e') ⟨s1,d⟩=R at *
 obtain ⟨u,ok,s2⟩:=R
 simp only at k1 k2 k3 hC hG
 simp only [go_sem,seval,f0,f4,f5,q0,q1,q2,q3,q4,q5]
 refine ccall (hC _ (by simp;omega) (by simp [bk_apply,q0,q1])) (by simp only [go_sem,seval,f0]) ?_
 have hz:=erE_z k1.2
 have hrf:rfX ts s2 d= .cells [.sl .sh 4 (ts.map Tk.av), .int .i64 (s2.i:Nat), .int .i64 (erE s2.er), .int .i64 ((erP 0 s2.er:Nat):Int), .int .i64 d]:=rfl
 cases hn2:s2.er.isNone with
 |false=>
  rw [hn2] at hz
  have hz' :(erE s2.er !=0)=true:=by simp [bne,hz]
  rw [hn2,if_neg (by simp)] at hG
  subst hG
  simp only [go_sem,seval,f0,f4,f5,n1,n2,m1,m2,q0,q1,q2,q3,q4,q5,r0,r1,r2,r3,r4,r5,r6,r7,hrf,hz',hb3,hb2,p4,p5]
  rw [←hrf]
  exact ⟨rfl,lab_cl _ _,shrink_rY (by simp;omega) (fun q hq hne=>by simp [bk_apply,hne,show q≠h.n+1 by omega,show q≠hp.n by omega,show q≠hp.n+1 by omega];exact hbo q hq hne) (by simp [bk_apply,n1,q0,r0])⟩
 |true=>
  rw [hn2] at hz
  have hz' :(erE s2.er !=0)=false:=by simp [bne,hz]
  rw [hn2,if_pos rfl] at hG
  have hck: ∀(X:List T) (Y:List Gu) (v:Bool),(decide ((X.length:Int)>3)||decide ((Y.length:Int)>4))=v→ckE X Y=v:=fun X Y v h=>h
  cases ok with
  |false=>
   rw [show ckG g u false=g from rfl,show ckB b (T.mk a' b' c' e') false=b++ [T.mk a' b' c' e'] from rfl] at hG
   cases b with
   |nil=>
    have fl0:flT []= .full:=rfl
    rw [fl0] at hb3
    have a1:1 * 56≤140737488355328:=by omega
    have a2:0≤9223372036854775805:=by omega
    have a3:decide ((1:Int)>3)=false:=by decide
    obtain ⟨bn,hbn⟩: ∃bn:List T,bn= []++ [T.mk a' b' c' e']:=⟨_,rfl⟩
    obtain ⟨gn,hgn⟩: ∃gn:List Gu,gn=g:=⟨_,rfl⟩
    have h2' :s.i≤s1.i:=h2
    have k2' :s1.i≤s2.i:=k2
    have hbl' :bn.length≤s2.i+1:=by
     have:=congrArg List.length hbn
     try simp only [List.length_append,List.length_cons,List.length_nil] at this
     try simp only [List.length_cons] at hbl
     omega
    have hgl' :gn.length≤s2.i+1:=by
     have:=congrArg List.length hgn
     try simp only [List.length_append,List.length_cons,List.length_nil] at this
     try simp only [List.length_cons] at hgl
     omega
    rw [←hbn, ←hgn] at hG
    cases c2:decide ((g.length:Int)>4) with
    |true=>
     have hE:ckE bn gn=true:=hck _ _ _ (by rw [hbn,hgn,c2];simp)
     simp only [go_sem,seval,f0,f4,f5,n1,n2,m1,m2,q0,q1,q2,q3,q4,q5,r0,r1,r2,r3,r4,r5,r6,r7,hrf,hz',hb3,hb2,p4,p5,List.length_append,List.length_map,List.length_cons,List.length_nil,Nat.zero_add,a1,a2,a3,c2]
     rw [hE,show limF true at0 s2=failS at0 2 s2 from rfl] at hG
     rw [←hrf]
     refine ccall (fy_fails (l:=l) (ts:=ts) (s:=s2) (d:=d) (by simp;omega) k1 (by simp [bk_apply,q0,r0,n1,n2]) at0 2) (by simp only [go_sem,seval]) ?_
     have k4:=failS_ok (ts:=ts) (p:=at0) (e:=2) k1 (by decide)
     have k5:(failS at0 2 s2).i=s2.i:=failS_i _ _ _
     have k6:=fun e=>failS_st (p:=at0) (e:=2) (s:=s2) e
     generalize failS at0 2 s2=s4 at *
     simp only [go_sem,seval,f0,f4,f5,n1,n2,m1,m2,q0,q1,q2,q3,q4,q5,r0,r1,r2,r3,r4,r5,r6,r7]
     refine ccall (fy_take (l:=l) (ts:=ts) (s:=s4) (d:=d) (by simp;omega) k4 (by simp [bk_apply,q0,r0,n1,n2]) W [44]) (by simp only [go_sem,seval,f0]) ?_
     cases ht:takeS ts [44] s4 with
     |false=>
      rw [if_neg (by simp [ht])] at hG
      subst hG
      rw [show goS ts [44] s4=s4 by unfold goS;rw [if_neg (by simp [ht])]]
      simp only [go_sem,seval,f0,f4,f5,n1,n2,m1,m2,q0,q1,q2,q3,q4,q5,r0,r1,r2,r3,r4,r5,r6,r7,hb2,p4,p5]
      exact ⟨by rw [hbn,hgn];simp [Cl.avf,flT,flS,flG,flGo,avf_mk],lab_cl _ _,shrink_rY (by simp;omega) (fun q hq hne=>by simp [bk_apply,hne,show q≠h.n+1 by omega,show q≠h.n+2 by omega,show q≠hp.n by omega,show q≠hp.n+1 by omega];exact hbo q hq hne) (by simp [bk_apply,n1,n2,q0,r0])⟩
     |true=>
      have hlt:=goS_lt ht
      have k7:=h3.to (goS_ok (c:= [44]) W.Nx k4) (fun e=>k3 (k6 (goS_st e)))
      rw [if_pos ht] at hG
      generalize goS ts [44] s4=s5 at *
      simp only [go_sem,seval,f0,f4,f5,n1,n2,m1,m2,q0,q1,q2,q3,q4,q5,r0,r1,r2,r3,r4,r5,r6,r7]
      exact ⟨m,by omega,bn,gn,s5,k7,by omega,by omega,by omega,by omega,rfl,by rw [hbn,hgn];simp [flT,flGo,avf_mk],hb2,fun q hq hne=>by simp [hne,show q≠h.n+2 by omega,show q≠hp.n by omega,show q≠hp.n+1 by omega];exact hbo q hq hne,hG⟩
    |false=>
     have hE:ckE bn gn=false:=hck _ _ _ (by rw [hbn,hgn,c2];rfl)
     simp only [go_sem,seval,f0,f4,f5,n1,n2,m1,m2,q0,q1,q2,q3,q4,q5,r0,r1,r2,r3,r4,r5,r6,r7,hrf,hz',hb3,hb2,p4,p5,List.length_append,List.length_map,List.length_cons,List.length_nil,Nat.zero_add,a1,a2,a3,c2]
     rw [hE,show limF false at0 s2=s2 from rfl] at hG
     rw [←hrf]
     have k4:=k1
     have k5:s2.i=s2.i:=rfl
     have k6:=fun (e:s2.er=none)=>e
     generalize hs4:s2=s4 at k4 hG ⊢
     rw [hs4] at k5 k6
     have k5:s4.i=s2.i:=by rw [hs4]
     have k6:s4.er=none→s2.er=none:=fun e=>by rw [hs4];exact e
     refine ccall (fy_take (l:=l) (ts:=ts) (s:=s4) (d:=d) (by simp;omega) k4 (by simp [bk_apply,q0,r0,n1,n2]) W [44]) (by simp only [go_sem,seval,f0]) ?_
     cases ht:takeS ts [44] s4 with
     |false=>
      rw [if_neg (by simp [ht])] at hG
      subst hG
      rw [show goS ts [44] s4=s4 by unfold goS;rw [if_neg (by simp [ht])]]
      simp only [go_sem,seval,f0,f4,f5,n1,n2,m1,m2,q0,q1,q2,q3,q4,q5,r0,r1,r2,r3,r4,r5,r6,r7,hb2,p4,p5]
      exact ⟨by rw [hbn,hgn];simp [Cl.avf,flT,flS,flG,flGo,avf_mk],lab_cl _ _,shrink_rY (by simp;omega) (fun q hq hne=>by simp [bk_apply,hne,show q≠h.n+1 by omega,show q≠h.n+2 by omega,show q≠hp.n by omega,show q≠hp.n+1 by omega];exact hbo q hq hne) (by simp [bk_apply,n1,n2,q0,r0])⟩
     |true=>
      have hlt:=goS_lt ht
      have k7:=h3.to (goS_ok (c:= [44]) W.Nx k4) (fun e=>k3 (k6 (goS_st e)))
      rw [if_pos ht] at hG
      generalize goS ts [44] s4=s5 at *
      simp only [go_sem,seval,f0,f4,f5,n1,n2,m1,m2,q0,q1,q2,q3,q4,q5,r0,r1,r2,r3,r4,r5,r6,r7]
      exact ⟨m,by omega,bn,gn,s5,k7,by omega,by omega,by omega,by omega,rfl,by rw [hbn,hgn];simp [flT,flGo,avf_mk],hb2,fun q hq hne=>by simp [hne,show q≠h.n+2 by omega,show q≠hp.n by omega,show q≠hp.n+1 by omega];exact hbo q hq hne,hG⟩
   |cons y b=>
    have fl0:flT (y::b)= .own:=rfl
    rw [fl0] at hb3
    have a1:(b.length+2) * 56≤140737488355328:=by simp at hbi;omega
    have a2:b.length≤9223372036854775805:=by simp at hbi;omega
    obtain ⟨bn,hbn⟩: ∃bn:List T,bn=(y::b)++ [T.mk a' b' c' e']:=⟨_,rfl⟩
    obtain ⟨gn,hgn⟩: ∃gn:List Gu,gn=g:=⟨_,rfl⟩
    have e0:bn.length=b.length+2:=by rw [hbn];simp
    have h2' :s.i≤s1.i:=h2
    have k2' :s1.i≤s2.i:=k2
    have hbl' :bn.length≤s2.i+1:=by
     have:=congrArg List.length hbn
     try simp only [List.length_append,List.length_cons,List.length_nil] at this
     try simp only [List.length_cons] at hbl
     omega
    have hgl' :gn.length≤s2.i+1:=by
     have:=congrArg List.length hgn
     try simp only [List.length_append,List.length_cons,List.length_nil] at this
     try simp only [List.length_cons] at hgl
     omega
    rw [←hbn, ←hgn] at hG
    cases c1:decide (((b.length+2:Nat):Int)>3) with
    |true=>
     have hE:ckE bn gn=true:=hck _ _ _ (by rw [e0,c1];rfl)
     simp only [go_sem,seval,f0,f4,f5,n1,n2,m1,m2,q0,q1,q2,q3,q4,q5,r0,r1,r2,r3,r4,r5,r6,r7,hrf,hz',hb3,hb2,p4,p5,List.length_append,List.length_map,List.length_cons,List.length_nil,Nat.zero_add,a1,a2,c1]
     rw [hE,show limF true at0 s2=failS at0 2 s2 from rfl] at hG
     rw [←hrf]
     refine ccall (fy_fails (l:=l) (ts:=ts) (s:=s2) (d:=d) (by simp;omega) k1 (by simp [bk_apply,q0,r0,n1,n2]) at0 2) (by simp only [go_sem,seval]) ?_
     have k4:=failS_ok (ts:=ts) (p:=at0) (e:=2) k1 (by decide)
     have k5:(failS at0 2 s2).i=s2.i:=failS_i _ _ _
     have k6:=fun e=>failS_st (p:=at0) (e:=2) (s:=s2) e
     generalize failS at0 2 s2=s4 at *
     simp only [go_sem,seval,f0,f4,f5,n1,n2,m1,m2,q0,q1,q2,q3,q4,q5,r0,r1,r2,r3,r4,r5,r6,r7]
     refine ccall (fy_take (l:=l) (ts:=ts) (s:=s4) (d:=d) (by simp;omega) k4 (by simp [bk_apply,q0,r0,n1,n2]) W [44]) (by simp only [go_sem,seval,f0]) ?_
     cases ht:takeS ts [44] s4 with
     |false=>
      rw [if_neg (by simp [ht])] at hG
      subst hG
      rw [show goS ts [44] s4=s4 by unfold goS;rw [if_neg (by simp [ht])]]
      simp only [go_sem,seval,f0,f4,f5,n1,n2,m1,m2,q0,q1,q2,q3,q4,q5,r0,r1,r2,r3,r4,r5,r6,r7,hb2,p4,p5]
      exact ⟨by rw [hbn,hgn];simp [Cl.avf,flT,flS,flG,flGo,avf_mk],lab_cl _ _,shrink_rY (by simp;omega) (fun q hq hne=>by simp [bk_apply,hne,show q≠h.n+1 by omega,show q≠h.n+2 by omega,show q≠hp.n by omega,show q≠hp.n+1 by omega];exact hbo q hq hne) (by simp [bk_apply,n1,n2,q0,r0])⟩
     |true=>
      have hlt:=goS_lt ht
      have k7:=h3.to (goS_ok (c:= [44]) W.Nx k4) (fun e=>k3 (k6 (goS_st e)))
      rw [if_pos ht] at hG
      generalize goS ts [44] s4=s5 at *
      simp only [go_sem,seval,f0,f4,f5,n1,n2,m1,m2,q0,q1,q2,q3,q4,q5,r0,r1,r2,r3,r4,r5,r6,r7]
      exact ⟨m,by omega,bn,gn,s5,k7,by omega,by omega,by omega,by omega,rfl,by rw [hbn,hgn];simp [flT,flGo,avf_mk],hb2,fun q hq hne=>by simp [hne,show q≠h.n+2 by omega,show q≠hp.n by omega,show q≠hp.n+1 by omega];exact hbo q hq hne,hG⟩
    |false=>
     cases c2:decide ((g.length:Int)>4) with
     |true=>
      have hE:ckE bn gn=true:=hck _ _ _ (by rw [hgn,c2];simp)
      simp only [go_sem,seval,f0,f4,f5,n1,n2,m1,m2,q0,q1,q2,q3,q4,q5,r0,r1,r2,r3,r4,r5,r6,r7,hrf,hz',hb3,hb2,p4,p5,List.length_append,List.length_map,List.length_cons,List.length_nil,Nat.zero_add,a1,a2,c1,c2]
      rw [hE,show limF true at0 s2=failS at0 2 s2 from rfl] at hG
      rw [←hrf]
      refine ccall (fy_fails (l:=l) (ts:=ts) (s:=s2) (d:=d) (by simp;omega) k1 (by simp [bk_apply,q0,r0,n1,n2]) at0 2) (by simp only [go_sem,seval]) ?_
      have k4:=failS_ok (ts:=ts) (p:=at0) (e:=2) k1 (by decide)
      have k5:(failS at0 2 s2).i=s2.i:=failS_i _ _ _
      have k6:=fun e=>failS_st (p:=at0) (e:=2) (s:=s2) e
      generalize failS at0 2 s2=s4 at *
      simp only [go_sem,seval,f0,f4,f5,n1,n2,m1,m2,q0,q1,q2,q3,q4,q5,r0,r1,r2,r3,r4,r5,r6,r7]
      refine ccall (fy_take (l:=l) (ts:=ts) (s:=s4) (d:=d) (by simp;omega) k4 (by simp [bk_apply,q0,r0,n1,n2]) W [44]) (by simp only [go_sem,seval,f0]) ?_
      cases ht:takeS ts [44] s4 with
      |false=>
       rw [if_neg (by simp [ht])] at hG
       subst hG
       rw [show goS ts [44] s4=s4 by unfold goS;rw [if_neg (by simp [ht])]]
       simp only [go_sem,seval,f0,f4,f5,n1,n2,m1,m2,q0,q1,q2,q3,q4,q5,r0,r1,r2,r3,r4,r5,r6,r7,hb2,p4,p5]
       exact ⟨by rw [hbn,hgn];simp [Cl.avf,flT,flS,flG,flGo,avf_mk],lab_cl _ _,shrink_rY (by simp;omega) (fun q hq hne=>by simp [bk_apply,hne,show q≠h.n+1 by omega,show q≠h.n+2 by omega,show q≠hp.n by omega,show q≠hp.n+1 by omega];exact hbo q hq hne) (by simp [bk_apply,n1,n2,q0,r0])⟩
      |true=>
       have hlt:=goS_lt ht
       have k7:=h3.to (goS_ok (c:= [44]) W.Nx k4) (fun e=>k3 (k6 (goS_st e)))
       rw [if_pos ht] at hG
       generalize goS ts [44] s4=s5 at *
       simp only [go_sem,seval,f0,f4,f5,n1,n2,m1,m2,q0,q1,q2,q3,q4,q5,r0,r1,r2,r3,r4,r5,r6,r7]
       exact ⟨m,by omega,bn,gn,s5,k7,by omega,by omega,by omega,by omega,rfl,by rw [hbn,hgn];simp [flT,flGo,avf_mk],hb2,fun q hq hne=>by simp [hne,show q≠h.n+2 by omega,show q≠hp.n by omega,show q≠hp.n+1 by omega];exact hbo q hq hne,hG⟩
     |false=>
      have hE:ckE bn gn=false:=hck _ _ _ (by rw [e0,hgn,c1,c2];rfl)
      simp only [go_sem,seval,f0,f4,f5,n1,n2,m1,m2,q0,q1,q2,q3,q4,q5,r0,r1,r2,r3,r4,r5,r6,r7,hrf,hz',hb3,hb2,p4,p5,List.length_append,List.length_map,List.length_cons,List.length_nil,Nat.zero_add,a1,a2,c1,c2]
      rw [hE,show limF false at0 s2=s2 from rfl] at hG
      rw [←hrf]
      have k4:=k1
      have k5:s2.i=s2.i:=rfl
      have k6:=fun (e:s2.er=none)=>e
      generalize hs4:s2=s4 at k4 hG ⊢
      rw [hs4] at k5 k6
      have k5:s4.i=s2.i:=by rw [hs4]
      have k6:s4.er=none→s2.er=none:=fun e=>by rw [hs4];exact e
      refine ccall (fy_take (l:=l) (ts:=ts) (s:=s4) (d:=d) (by simp;omega) k4 (by simp [bk_apply,q0,r0,n1,n2]) W [44]) (by simp only [go_sem,seval,f0]) ?_
      cases ht:takeS ts [44] s4 with
      |false=>
       rw [if_neg (by simp [ht])] at hG
       subst hG
       rw [show goS ts [44] s4=s4 by unfold goS;rw [if_neg (by simp [ht])]]
       simp only [go_sem,seval,f0,f4,f5,n1,n2,m1,m2,q0,q1,q2,q3,q4,q5,r0,r1,r2,r3,r4,r5,r6,r7,hb2,p4,p5]
       exact ⟨by rw [hbn,hgn];simp [Cl.avf,flT,flS,flG,flGo,avf_mk],lab_cl _ _,shrink_rY (by simp;omega) (fun q hq hne=>by simp [bk_apply,hne,show q≠h.n+1 by omega,show q≠h.n+2 by omega,show q≠hp.n by omega,show q≠hp.n+1 by omega];exact hbo q hq hne) (by simp [bk_apply,n1,n2,q0,r0])⟩
      |true=>
       have hlt:=goS_lt ht
       have k7:=h3.to (goS_ok (c:= [44]) W.Nx k4) (fun e=>k3 (k6 (goS_st e)))
       rw [if_pos ht] at hG
       generalize goS ts [44] s4=s5 at *
       simp only [go_sem,seval,f0,f4,f5,n1,n2,m1,m2,q0,q1,q2,q3,q4,q5,r0,r1,r2,r3,r4,r5,r6,r7]
       exact ⟨m,by omega,bn,gn,s5,k7,by omega,by omega,by omega,by omega,rfl,by rw [hbn,hgn];simp [flT,flGo,avf_mk],hb2,fun q hq hne=>by simp [hne,show q≠h.n+2 by omega,show q≠hp.n by omega,show q≠hp.n+1 by omega];exact hbo q hq hne,hG⟩
  |true=>
   rw [show ckG g u true=g++ [u] from rfl,show ckB b (T.mk a' b' c' e') true=b from rfl] at hG
   cases g with
   |nil=>
    have fl0:flGo []= .full:=rfl
    rw [fl0] at hb3
    have a1:1 * 120≤140737488355328:=by omega
    have a2:0≤9223372036854775805:=by omega
    have a3:decide ((1:Int)>4)=false:=by decide
    obtain ⟨bn,hbn⟩: ∃bn:List T,bn=b:=⟨_,rfl⟩
    obtain ⟨gn,hgn⟩: ∃gn:List Gu,gn= []++ [u]:=⟨_,rfl⟩
    have h2' :s.i≤s1.i:=h2
    have k2' :s1.i≤s2.i:=k2
    have hbl' :bn.length≤s2.i+1:=by
     have:=congrArg List.length hbn
     try simp only [List.length_append,List.length_cons,List.length_nil] at this
     try simp only [List.length_cons] at hbl
     omega
    have hgl' :gn.length≤s2.i+1:=by
     have:=congrArg List.length hgn
     try simp only [List.length_append,List.length_cons,List.length_nil] at this
     try simp only [List.length_cons] at hgl
     omega
    rw [←hbn, ←hgn] at hG
    cases c1:decide ((b.length:Int)>3) with
    |true=>
     have hE:ckE bn gn=true:=hck _ _ _ (by rw [hbn,c1];rfl)
     simp only [go_sem,seval,f0,f4,f5,n1,n2,m1,m2,q0,q1,q2,q3,q4,q5,r0,r1,r2,r3,r4,r5,r6,r7,hrf,hz',hb3,hb2,p4,p5,List.length_append,List.length_map,List.length_cons,List.length_nil,Nat.zero_add,a1,a2,a3,c1]
     rw [hE,show limF true at0 s2=failS at0 2 s2 from rfl] at hG
     rw [←hrf]
     refine ccall (fy_fails (l:=l) (ts:=ts) (s:=s2) (d:=d) (by simp;omega) k1 (by simp [bk_apply,q0,r0,n1,n2]) at0 2) (by simp only [go_sem,seval]) ?_
     have k4:=failS_ok (ts:=ts) (p:=at0) (e:=2) k1 (by decide)
     have k5:(failS at0 2 s2).i=s2.i:=failS_i _ _ _
     have k6:=fun e=>failS_st (p:=at0) (e:=2) (s:=s2) e
     generalize failS at0 2 s2=s4 at *
     simp only [go_sem,seval,f0,f4,f5,n1,n2,m1,m2,q0,q1,q2,q3,q4,q5,r0,r1,r2,r3,r4,r5,r6,r7]
     refine ccall (fy_take (l:=l) (ts:=ts) (s:=s4) (d:=d) (by simp;omega) k4 (by simp [bk_apply,q0,r0,n1,n2]) W [44]) (by simp only [go_sem,seval,f0]) ?_
     cases ht:takeS ts [44] s4 with
     |false=>
      rw [if_neg (by simp [ht])] at hG
      subst hG
      rw [show goS ts [44] s4=s4 by unfold goS;rw [if_neg (by simp [ht])]]
      simp only [go_sem,seval,f0,f4,f5,n1,n2,m1,m2,q0,q1,q2,q3,q4,q5,r0,r1,r2,r3,r4,r5,r6,r7,hb2,p4,p5]
      exact ⟨by rw [hbn,hgn];simp [Cl.avf,flT,flS,flG,flGo,avf_mk],lab_cl _ _,shrink_rY (by simp;omega) (fun q hq hne=>by simp [bk_apply,hne,show q≠h.n+1 by omega,show q≠h.n+2 by omega,show q≠hp.n by omega,show q≠hp.n+1 by omega];exact hbo q hq hne) (by simp [bk_apply,n1,n2,q0,r0])⟩
     |true=>
      have hlt:=goS_lt ht
      have k7:=h3.to (goS_ok (c:= [44]) W.Nx k4) (fun e=>k3 (k6 (goS_st e)))
      rw [if_pos ht] at hG
      generalize goS ts [44] s4=s5 at *
      simp only [go_sem,seval,f0,f4,f5,n1,n2,m1,m2,q0,q1,q2,q3,q4,q5,r0,r1,r2,r3,r4,r5,r6,r7]
      exact ⟨m,by omega,bn,gn,s5,k7,by omega,by omega,by omega,by omega,rfl,by rw [hbn,hgn];simp [flT,flGo,avf_mk],hb2,fun q hq hne=>by simp [hne,show q≠h.n+2 by omega,show q≠hp.n by omega,show q≠hp.n+1 by omega];exact hbo q hq hne,hG⟩
    |false=>
     have hE:ckE bn gn=false:=hck _ _ _ (by rw [hbn,hgn,c1];rfl)
     simp only [go_sem,seval,f0,f4,f5,n1,n2,m1,m2,q0,q1,q2,q3,q4,q5,r0,r1,r2,r3,r4,r5,r6,r7,hrf,hz',hb3,hb2,p4,p5,List.length_append,List.length_map,List.length_cons,List.length_nil,Nat.zero_add,a1,a2,a3,c1]
     rw [hE,show limF false at0 s2=s2 from rfl] at hG
     rw [←hrf]
     have k4:=k1
     have k5:s2.i=s2.i:=rfl
     have k6:=fun (e:s2.er=none)=>e
     generalize hs4:s2=s4 at k4 hG ⊢
     rw [hs4] at k5 k6
     have k5:s4.i=s2.i:=by rw [hs4]
     have k6:s4.er=none→s2.er=none:=fun e=>by rw [hs4];exact e
     refine ccall (fy_take (l:=l) (ts:=ts) (s:=s4) (d:=d) (by simp;omega) k4 (by simp [bk_apply,q0,r0,n1,n2]) W [44]) (by simp only [go_sem,seval,f0]) ?_
     cases ht:takeS ts [44] s4 with
     |false=>
      rw [if_neg (by simp [ht])] at hG
      subst hG
      rw [show goS ts [44] s4=s4 by unfold goS;rw [if_neg (by simp [ht])]]
      simp only [go_sem,seval,f0,f4,f5,n1,n2,m1,m2,q0,q1,q2,q3,q4,q5,r0,r1,r2,r3,r4,r5,r6,r7,hb2,p4,p5]
      exact ⟨by rw [hbn,hgn];simp [Cl.avf,flT,flS,flG,flGo,avf_mk],lab_cl _ _,shrink_rY (by simp;omega) (fun q hq hne=>by simp [bk_apply,hne,show q≠h.n+1 by omega,show q≠h.n+2 by omega,show q≠hp.n by omega,show q≠hp.n+1 by omega];exact hbo q hq hne) (by simp [bk_apply,n1,n2,q0,r0])⟩
     |true=>
      have hlt:=goS_lt ht
      have k7:=h3.to (goS_ok (c:= [44]) W.Nx k4) (fun e=>k3 (k6 (goS_st e)))
      rw [if_pos ht] at hG
      generalize goS ts [44] s4=s5 at *
      simp only [go_sem,seval,f0,f4,f5,n1,n2,m1,m2,q0,q1,q2,q3,q4,q5,r0,r1,r2,r3,r4,r5,r6,r7]
      exact ⟨m,by omega,bn,gn,s5,k7,by omega,by omega,by omega,by omega,rfl,by rw [hbn,hgn];simp [flT,flGo,avf_mk],hb2,fun q hq hne=>by simp [hne,show q≠h.n+2 by omega,show q≠hp.n by omega,show q≠hp.n+1 by omega];exact hbo q hq hne,hG⟩
   |cons z g=>
    have fl0:flGo (z::g)= .own:=rfl
    rw [fl0] at hb3
    have a1:(g.length+2) * 120≤140737488355328:=by simp at hgi;omega
    have a2:g.length≤9223372036854775805:=by simp at hgi;omega
    obtain ⟨bn,hbn⟩: ∃bn:List T,bn=b:=⟨_,rfl⟩
    obtain ⟨gn,hgn⟩: ∃gn:List Gu,gn=(z::g)++ [u]:=⟨_,rfl⟩
    have e0:gn.length=g.length+2:=by rw [hgn];simp
    have h2' :s.i≤s1.i:=h2
    have k2' :s1.i≤s2.i:=k2
    have hbl' :bn.length≤s2.i+1:=by
     have:=congrArg List.length hbn
     try simp only [List.length_append,List.length_cons,List.length_nil] at this
     try simp only [List.length_cons] at hbl
     omega
    have hgl' :gn.length≤s2.i+1:=by
     have:=congrArg List.length hgn
     try simp only [List.length_append,List.length_cons,List.length_nil] at this
     try simp only [List.length_cons] at hgl
     omega
    rw [←hbn, ←hgn] at hG
    cases c1:decide ((b.length:Int)>3) with
    |true=>
     have hE:ckE bn gn=true:=hck _ _ _ (by rw [hbn,c1];rfl)
     simp only [go_sem,seval,f0,f4,f5,n1,n2,m1,m2,q0,q1,q2,q3,q4,q5,r0,r1,r2,r3,r4,r5,r6,r7,hrf,hz',hb3,hb2,p4,p5,List.length_append,List.length_map,List.length_cons,List.length_nil,Nat.zero_add,a1,a2,c1]
     rw [hE,show limF true at0 s2=failS at0 2 s2 from rfl] at hG
     rw [←hrf]
     refine ccall (fy_fails (l:=l) (ts:=ts) (s:=s2) (d:=d) (by simp;omega) k1 (by simp [bk_apply,q0,r0,n1,n2]) at0 2) (by simp only [go_sem,seval]) ?_
     have k4:=failS_ok (ts:=ts) (p:=at0) (e:=2) k1 (by decide)
     have k5:(failS at0 2 s2).i=s2.i:=failS_i _ _ _
     have k6:=fun e=>failS_st (p:=at0) (e:=2) (s:=s2) e
     generalize failS at0 2 s2=s4 at *
     simp only [go_sem,seval,f0,f4,f5,n1,n2,m1,m2,q0,q1,q2,q3,q4,q5,r0,r1,r2,r3,r4,r5,r6,r7]
     refine ccall (fy_take (l:=l) (ts:=ts) (s:=s4) (d:=d) (by simp;omega) k4 (by simp [bk_apply,q0,r0,n1,n2]) W [44]) (by simp only [go_sem,seval,f0]) ?_
     cases ht:takeS ts [44] s4 with
     |false=>
      rw [if_neg (by simp [ht])] at hG
      subst hG
      rw [show goS ts [44] s4=s4 by unfold goS;rw [if_neg (by simp [ht])]]
      simp only [go_sem,seval,f0,f4,f5,n1,n2,m1,m2,q0,q1,q2,q3,q4,q5,r0,r1,r2,r3,r4,r5,r6,r7,hb2,p4,p5]
      exact ⟨by rw [hbn,hgn];simp [Cl.avf,flT,flS,flG,flGo,avf_mk],lab_cl _ _,shrink_rY (by simp;omega) (fun q hq hne=>by simp [bk_apply,hne,show q≠h.n+1 by omega,show q≠h.n+2 by omega,show q≠hp.n by omega,show q≠hp.n+1 by omega];exact hbo q hq hne) (by simp [bk_apply,n1,n2,q0,r0])⟩
     |true=>
      have hlt:=goS_lt ht
      have k7:=h3.to (goS_ok (c:= [44]) W.Nx k4) (fun e=>k3 (k6 (goS_st e)))
      rw [if_pos ht] at hG
      generalize goS ts [44] s4=s5 at *
      simp only [go_sem,seval,f0,f4,f5,n1,n2,m1,m2,q0,q1,q2,q3,q4,q5,r0,r1,r2,r3,r4,r5,r6,r7]
      exact ⟨m,by omega,bn,gn,s5,k7,by omega,by omega,by omega,by omega,rfl,by rw [hbn,hgn];simp [flT,flGo,avf_mk],hb2,fun q hq hne=>by simp [hne,show q≠h.n+2 by omega,show q≠hp.n by omega,show q≠hp.n+1 by omega];exact hbo q hq hne,hG⟩
    |false=>
     cases c2:decide (((g.length+2:Nat):Int)>4) with
     |true=>
      have hE:ckE bn gn=true:=hck _ _ _ (by rw [e0,c2];simp)
      simp only [go_sem,seval,f0,f4,f5,n1,n2,m1,m2,q0,q1,q2,q3,q4,q5,r0,r1,r2,r3,r4,r5,r6,r7,hrf,hz',hb3,hb2,p4,p5,List.length_append,List.length_map,List.length_cons,List.length_nil,Nat.zero_add,a1,a2,c1,c2]
      rw [hE,show limF true at0 s2=failS at0 2 s2 from rfl] at hG
      rw [←hrf]
      refine ccall (fy_fails (l:=l) (ts:=ts) (s:=s2) (d:=d) (by simp;omega) k1 (by simp [bk_apply,q0,r0,n1,n2]) at0 2) (by simp only [go_sem,seval]) ?_
      have k4:=failS_ok (ts:=ts) (p:=at0) (e:=2) k1 (by decide)
      have k5:(failS at0 2 s2).i=s2.i:=failS_i _ _ _
      have k6:=fun e=>failS_st (p:=at0) (e:=2) (s:=s2) e
      generalize failS at0 2 s2=s4 at *
      simp only [go_sem,seval,f0,f4,f5,n1,n2,m1,m2,q0,q1,q2,q3,q4,q5,r0,r1,r2,r3,r4,r5,r6,r7]
      refine ccall (fy_take (l:=l) (ts:=ts) (s:=s4) (d:=d) (by simp;omega) k4 (by simp [bk_apply,q0,r0,n1,n2]) W [44]) (by simp only [go_sem,seval,f0]) ?_
      cases ht:takeS ts [44] s4 with
      |false=>
       rw [if_neg (by simp [ht])] at hG
       subst hG
       rw [show goS ts [44] s4=s4 by unfold goS;rw [if_neg (by simp [ht])]]
       simp only [go_sem,seval,f0,f4,f5,n1,n2,m1,m2,q0,q1,q2,q3,q4,q5,r0,r1,r2,r3,r4,r5,r6,r7,hb2,p4,p5]
       exact ⟨by rw [hbn,hgn];simp [Cl.avf,flT,flS,flG,flGo,avf_mk],lab_cl _ _,shrink_rY (by simp;omega) (fun q hq hne=>by simp [bk_apply,hne,show q≠h.n+1 by omega,show q≠h.n+2 by omega,show q≠hp.n by omega,show q≠hp.n+1 by omega];exact hbo q hq hne) (by simp [bk_apply,n1,n2,q0,r0])⟩
      |true=>
       have hlt:=goS_lt ht
       have k7:=h3.to (goS_ok (c:= [44]) W.Nx k4) (fun e=>k3 (k6 (goS_st e)))
       rw [if_pos ht] at hG
       generalize goS ts [44] s4=s5 at *
       simp only [go_sem,seval,f0,f4,f5,n1,n2,m1,m2,q0,q1,q2,q3,q4,q5,r0,r1,r2,r3,r4,r5,r6,r7]
       exact ⟨m,by omega,bn,gn,s5,k7,by omega,by omega,by omega,by omega,rfl,by rw [hbn,hgn];simp [flT,flGo,avf_mk],hb2,fun q hq hne=>by simp [hne,show q≠h.n+2 by omega,show q≠hp.n by omega,show q≠hp.n+1 by omega];exact hbo q hq hne,hG⟩
     |false=>
      have hE:ckE bn gn=false:=hck _ _ _ (by rw [e0,hbn,c1,c2];rfl)
      simp only [go_sem,seval,f0,f4,f5,n1,n2,m1,m2,q0,q1,q2,q3,q4,q5,r0,r1,r2,r3,r4,r5,r6,r7,hrf,hz',hb3,hb2,p4,p5,List.length_append,List.length_map,List.length_cons,List.length_nil,Nat.zero_add,a1,a2,c1,c2]
      rw [hE,show limF false at0 s2=s2 from rfl] at hG
      rw [←hrf]
      have k4:=k1
      have k5:s2.i=s2.i:=rfl
      have k6:=fun (e:s2.er=none)=>e
      generalize hs4:s2=s4 at k4 hG ⊢
      rw [hs4] at k5 k6
      have k5:s4.i=s2.i:=by rw [hs4]
      have k6:s4.er=none→s2.er=none:=fun e=>by rw [hs4];exact e
      refine ccall (fy_take (l:=l) (ts:=ts) (s:=s4) (d:=d) (by simp;omega) k4 (by simp [bk_apply,q0,r0,n1,n2]) W [44]) (by simp only [go_sem,seval,f0]) ?_
      cases ht:takeS ts [44] s4 with
      |false=>
       rw [if_neg (by simp [ht])] at hG
       subst hG
       rw [show goS ts [44] s4=s4 by unfold goS;rw [if_neg (by simp [ht])]]
       simp only [go_sem,seval,f0,f4,f5,n1,n2,m1,m2,q0,q1,q2,q3,q4,q5,r0,r1,r2,r3,r4,r5,r6,r7,hb2,p4,p5]
       exact ⟨by rw [hbn,hgn];simp [Cl.avf,flT,flS,flG,flGo,avf_mk],lab_cl _ _,shrink_rY (by simp;omega) (fun q hq hne=>by simp [bk_apply,hne,show q≠h.n+1 by omega,show q≠h.n+2 by omega,show q≠hp.n by omega,show q≠hp.n+1 by omega];exact hbo q hq hne) (by simp [bk_apply,n1,n2,q0,r0])⟩
      |true=>
       have hlt:=goS_lt ht
       have k7:=h3.to (goS_ok (c:= [44]) W.Nx k4) (fun e=>k3 (k6 (goS_st e)))
       rw [if_pos ht] at hG
       generalize goS ts [44] s4=s5 at *
       simp only [go_sem,seval,f0,f4,f5,n1,n2,m1,m2,q0,q1,q2,q3,q4,q5,r0,r1,r2,r3,r4,r5,r6,r7]
       exact ⟨m,by omega,bn,gn,s5,k7,by omega,by omega,by omega,by omega,rfl,by rw [hbn,hgn];simp [flT,flGo,avf_mk],hb2,fun q hq hne=>by simp [hne,show q≠h.n+2 by omega,show q≠hp.n by omega,show q≠hp.n+1 by omega];exact hbo q hq hne,hG⟩
end Go.Proofs.YtnibelnjflhkgaaGreatDoor.Ab
namespace Go.Proofs.YtnibelnjflhkgaaGreatDoor.Ab
set_option linter.unusedVariables false
set_option linter.unusedSimpArgs false
set_option maxRecDepth 10000
theorem c107:compF Tryz.prog ow Tryz.f107=(some (56,([(.t 4)],(.seq (.ops [(none,(.set 4 (.bool false)))]) (.seq (.seq (.ops [(none,(.cp 6 0)),(none,(.nil (some 7) (.t 6))),(none,(.fa (some 8) (.t 7) 2)),(none,(.ld (some 9) (.t 8) (.one none))),(none,(.bin (some 10) .neq (.t 9) (.k (.int .i64 0)) false false)),(none,(.cp 11 10)),((some (11,false)),(.cp 12 0)),((some (11,false)),(.call (some 13) (.k (.func 52 [] [])) [(.t 12)] (some 100))),((some (11,false)),(.fld (some 14) (.t 13) 0 (.one none))),((some (11,false)),(.bin (some 15) .neq (.t 14) (.k (.int .i64 1)) false false)),(none,(.pick (some 16) (.t 11) (.k (.bool true)) (.t 15)))]) (.cond (.t 16) (.seq (.ops [(none,(.set 4 (.bool false)))]) .ret) .skip)) (.seq (.opsT (.one none (.cp 17 0) (.one none (.nil (some 18) (.t 17)) (.one none (.fa (some 19) (.t 18) 0) (.one none (.cp 21 0) (.one none (.nil (some 22) (.t 21)) (.one none (.fa (some 23) (.t 22) 1) (.alt none (.ld (some 20) (.t 19) (.one (some 4))) (.alt none (.ld (some 24) (.t 23) (.one none)) (.one none (.bin (some 25) .add (.t 24) (.k (.int .i64 1)) false false) (.one none (.ia (some 26) (.t 20) (.t 25) (some 4) none) (.alt none (.ld (some 27) (.t 26) (.agg 4)) (.one none (.alloc 5 [(.int .i64 0),(.str []),(.int .i64 0),(.int .i64 0)]) (.one none (.st (.t 5) (.t 27) 4) .done)) (.alt none (.alloc 5 [(.int .i64 0),(.str []),(.int .i64 0),(.int .i64 0)]) (.one none (.ld (some 27) (.t 26) (.agg 4)) (.one none (.st (.t 5) (.t 27) 4) .done)) .nil)))) (.alt none (.alloc 5 [(.int .i64 0),(.str []),(.int .i64 0),(.int .i64 0)]) (.one none (.ld (some 24) (.t 23) (.one none)) (.one none (.bin (some 25) .add (.t 24) (.k (.int .i64 1)) false false) (.one none (.ia (some 26) (.t 20) (.t 25) (some 4) none) (.one none (.ld (some 27) (.t 26) (.agg 4)) (.one none (.st (.t 5) (.t 27) 4) .done))))) .nil)) (.alt none (.ld (some 24) (.t 23) (.one none)) (.one none (.bin (some 25) .add (.t 24) (.k (.int .i64 1)) false false) (.alt none (.ld (some 20) (.t 19) (.one (some 4))) (.one none (.ia (some 26) (.t 20) (.t 25) (some 4) none) (.alt none (.ld (some 27) (.t 26) (.agg 4)) (.one none (.alloc 5 [(.int .i64 0),(.str []),(.int .i64 0),(.int .i64 0)]) (.one none (.st (.t 5) (.t 27) 4) .done)) (.alt none (.alloc 5 [(.int .i64 0),(.str []),(.int .i64 0),(.int .i64 0)]) (.one none (.ld (some 27) (.t 26) (.agg 4)) (.one none (.st (.t 5) (.t 27) 4) .done)) .nil))) (.alt none (.alloc 5 [(.int .i64 0),(.str []),(.int .i64 0),(.int .i64 0)]) (.one none (.ld (some 20) (.t 19) (.one (some 4))) (.one none (.ia (some 26) (.t 20) (.t 25) (some 4) none) (.one none (.ld (some 27) (.t 26) (.agg 4)) (.one none (.st (.t 5) (.t 27) 4) .done)))) .nil))) (.alt none (.alloc 5 [(.int .i64 0),(.str []),(.int .i64 0),(.int .i64 0)]) (.one none (.ld (some 20) (.t 19) (.one (some 4))) (.one none (.ld (some 24) (.t 23) (.one none)) (.one none (.bin (some 25) .add (.t 24) (.k (.int .i64 1)) false false) (.one none (.ia (some 26) (.t 20) (.t 25) (some 4) none) (.one none (.ld (some 27) (.t 26) (.agg 4)) (.one none (.st (.t 5) (.t 27) 4) .done)))))) .nil)))))))))) (.seq (.seq (.ops [(none,(.fa (some 28) (.t 5) 0)),(none,(.ld (some 29) (.t 28) (.one none))),(none,(.bin (some 30) .neq (.t 29) (.k (.int .i64 4)) false false)),(none,(.cp 31 30)),((some (31,false)),(.fa (some 32) (.t 5) 1)),((some (31,false)),(.ld (some 33) (.t 32) (.one none))),((some (31,false)),(.bin (some 34) .neq (.t 33) (.k (.str [46])) false false)),(none,(.pick (some 35) (.t 31) (.k (.bool true)) (.t 34)))]) (.cond (.t 35) (.seq (.ops [(none,(.set 4 (.bool false)))]) .ret) .skip)) (.seq (.seq (.ops [(none,(.cp 36 0)),(none,(.call (some 37) (.k (.func 52 [] [])) [(.t 36)] (some 100))),(none,(.fld (some 38) (.t 37) 1 (.one none)))]) (.block 0 (.seq (.ops [(none,(.bin (some 40) .eql (.t 38) (.k (.str [114,101,99,101,110,116])) false false)),(none,(.mv 39 40))]) (.cond (.t 39) (.ops [(none,(.cp 41 1)),(none,(.nil (some 42) (.t 41))),(none,(.fa (some 43) (.t 42) 15)),(none,(.st (.t 43) (.k (.int .i64 1)) 1))]) (.seq (.ops [(none,(.bin (some 45) .eql (.t 38) (.k (.str [102,105,114,115,116])) false false)),(none,(.mv 44 45))]) (.cond (.t 44) (.ops [(none,(.cp 46 1)),(none,(.nil (some 47) (.t 46))),(none,(.fa (some 48) (.t 47) 15)),(none,(.st (.t 48) (.k (.int .i64 2)) 1))]) (.seq (.ops [(none,(.set 4 (.bool false)))]) .ret))))))) (.seq (.ops [(none,(.cp 49 0)),(none,(.nil (some 50) (.t 49))),(none,(.fa (some 51) (.t 50) 1)),(none,(.ld (some 52) (.t 51) (.one none))),(none,(.bin (some 53) .add (.t 52) (.k (.int .i64 1)) false false)),(none,(.nil (some 54) (.t 49))),(none,(.fa (some 55) (.t 54) 1)),(none,(.st (.t 55) (.t 53) 1))]) (.seq (.ops [(none,(.set 4 (.bool true)))]) .ret)))))))))):=by kernel_rfl
theorem shrink_twoY {h hp:Hp} {l x:Nat} (hlx:l≠x) {ts:List Tk} {s:St} {d:Int} {X:List AV} (h1:h.n≤hp.n) (h2: ∀k,k<h.n→k≠l→k≠x→hp.bk k=h.bk k) (h3:hp.bk l=rfX ts s d) (h4:hp.bk x= .cells X) (hX:labL h.n X=true):
  Shrink h hp ⟨h.n,updB (updB h.bk x (.cells X)) l (rfX ts s d)⟩:=by
 refine ⟨Nat.le_refl _,h1,fun k hk=> ?_⟩
 simp only [bk_apply] at hk ⊢
 by_cases e1:k=l
 ·subst e1
  simp only [if_true]
  refine ⟨h3.symm, .inr ?_⟩
  rw [h3];exact lab_rf _ _ _ _ _ _
 ·by_cases e2:k=x
  ·subst e2
   simp only [e1,if_true,if_false]
   refine ⟨h4.symm, .inr ?_⟩
   rw [h4];exact hX
  ·simp only [e1,e2,if_false]
   exact ⟨(h2 k hk e1 e2).symm, .inl ⟨hk,h2 k hk e1 e2⟩⟩
def polT (c:List UInt8):Int:=if c=poS 0 then 1 else if c=poS 1 then 2 else 0
def polK (ts:List Tk) (s:St):Int:=if (s.er.isNone&&((tkS ts s).k==1&&isS (tkR ts s) [46]))=true then polT (tkS ts s).s else 0
set_option maxHeartbeats 4000000 in
theorem fy_policy {h:Hp} {l x:Nat} (hl:l<h.n) (hx:x<h.n) (hlx:l≠x) {ts:List Tk} (W:Wds ts) {s:St} (hs:SOk ts s) {d:Int} (hb:h.bk l=rfX ts s d) (c0 c1 c2 c3 c4 c5 c6 c7 c8 c9 c10 c11 c12 c13 c14 c15:AV) (hbx:h.bk x= .cells [c0,c1,c2,c3,c4,c5,c6,c7,c8,c9,c10,c11,c12,c13,c14,c15]) (hlab: ∀k:Int,labL h.n [c0,c1,c2,c3,c4,c5,c6,c7,c8,c9,c10,c11,c12,c13,c14, .int .i64 k]=true):
  Fn Tryz.prog 107 [.ptr l 0, .ptr x 0] h (.bool (!(polK ts s==0))) (if (polK ts s==0)=true then h else ⟨h.n,updB (updB h.bk x (.cells [c0,c1,c2,c3,c4,c5,c6,c7,c8,c9,c10,c11,c12,c13,c14, .int .i64 (polK ts s)])) l (rfX ts ⟨s.i+1,s.er⟩ d)⟩):=by
 have hxl: ¬x=l:=fun e=>hlx e.symm
 have hlx' : ¬l=x:=hlx
 have n0: ¬l=h.n:=by omega
 have m0: ¬h.n=l:=by omega
 have n1: ¬x=h.n:=by omega
 have m1: ¬h.n=x:=by omega
 have hrf:h.bk l= .cells [.sl .sh 4 (ts.map Tk.av), .int .i64 (s.i:Nat), .int .i64 (erE s.er), .int .i64 ((erP 0 s.er:Nat):Int), .int .i64 d]:=hb
 have hz:=erE_z hs.2
 have hi1:=hs.1
 have hL:=W.len
 have hw:IntKind.i64.wrap ((s.i:Int)+1)=((s.i+1:Nat):Int):=by rw [wrap64]<;>omega
 have hT: ∀H:Hp,l<H.n→H.bk l=rfX ts s d→Fn Tryz.prog 52 [.ptr l 0] H (.agg [.int .i64 (tkS ts s).k, .str (tkS ts s).s, .int .i64 (tkS ts s).n, .int .i64 ((tkS ts s).p:Nat)]) H:=fun H a b=>fy_now (h:=H) a hs b
 have hR:=fun h=>tkR_get W hs h
 refine fnC mixed Tryz.func107 c107 (by simp) ?_
 unfold polK
 cases hn:s.er.isNone with
 |false=>
  rw [hn] at hz
  have hz' :(erE s.er !=0)=true:=by simp [bne,hz]
  rw [if_neg (by simp)]
  simp only [go_sem,seval,hrf,hz',n0,m0]
 |true=>
  rw [hn] at hz
  have hz' :(erE s.er !=0)=false:=by simp [bne,hz]
  simp only [go_sem,seval,hrf,hz',n0,m0]
  refine ccall (hT _ (by simp;omega) (by simp [hb])) (by simp only [go_sem,seval]) ?_
  cases hk:((tkS ts s).k==1) with
  |false=>
   have hk' :((tkS ts s).k !=1)=true:=by simp [bne,hk]
   rw [if_neg (by simp)]
   simp only [go_sem,seval,hk',n0,m0]
  |true=>
   have hk' :((tkS ts s).k !=1)=false:=by simp [bne,hk]
   have hk5:((tkS ts s).k !=5)=true:=by have:=eq_of_beq hk;rw [this];rfl
   have hR1:=hR hk5
   have hxe:(ts.map Tk.av)[s.i+1]? =some (.agg [.int .i64 (tkR ts s).k, .str (tkR ts s).s, .int .i64 (tkR ts s).n, .int .i64 ((tkR ts s).p:Nat)]):=by rw [List.getElem?_map,hR1];rfl
   unfold isS
   cases c1:((tkR ts s).k==4) with
   |false=>
    have c1' :((tkR ts s).k !=4)=true:=by simp [bne,c1]
    rw [if_neg (by simp)]
    simp only [go_sem,seval,hk',hrf,hw,hxe,c1',n0,m0,n1,m1]
   |true=>
    have c1' :((tkR ts s).k !=4)=false:=by simp [bne,c1]
    cases c2:((tkR ts s).s== [46]) with
    |false=>
     have c2' :(!((tkR ts s).s== [46]))=true:=by rw [c2];rfl
     rw [if_neg (by simp)]
     simp only [go_sem,seval,hk',hrf,hw,hxe,c1',c2',n0,m0,n1,m1]
    |true=>
     have c2' :(!((tkR ts s).s== [46]))=false:=by rw [c2];rfl
     rw [if_pos (by simp)]
     unfold polT
     by_cases g0:(tkS ts s).s=poS 0
     ·have g0' :((tkS ts s).s== [114,101,99,101,110,116])=true:=by rw [g0];rfl
      rw [if_pos g0,if_neg (by simp)]
      simp only [go_sem,seval,hk',hrf,hw,hxe,c1',c2',n0,m0,n1,m1]
      refine ⟨⟨⟨?_, ?_⟩, ?_⟩,⟨⟨?_, ?_⟩, ?_⟩, ?_⟩
      iterate 7
       ·skip
        refine ccall (hT _ (by simp;omega) (by simp [bk_apply,n0,hb])) (by simp only [go_sem,seval]) ?_
        simp only [go_sem,seval,g0',hrf,hw,hbx,hxl,hlx',n0,m0,n1,m1]
        first|done|exact ⟨rfl,shrink_twoY hlx (by simp) (fun q hq e1 e2=>by simp [bk_apply,e1,e2,show q≠h.n by omega]) (by simp [bk_apply,hxl,hlx'];rfl) (by simp [bk_apply,hxl]) (hlab _)⟩|exact shrink_twoY hlx (by simp) (fun q hq e1 e2=>by simp [bk_apply,e1,e2,show q≠h.n by omega]) (by simp [bk_apply,hxl,hlx'];rfl) (by simp [bk_apply,hxl]) (hlab _)
     have g0' :((tkS ts s).s== [114,101,99,101,110,116])=false:=by simpa [poS] using g0
     rw [if_neg g0]
     by_cases g1:(tkS ts s).s=poS 1
     ·have g1' :((tkS ts s).s== [102,105,114,115,116])=true:=by rw [g1];rfl
      rw [if_pos g1,if_neg (by simp)]
      simp only [go_sem,seval,hk',hrf,hw,hxe,c1',c2',n0,m0,n1,m1]
      refine ⟨⟨⟨?_, ?_⟩, ?_⟩,⟨⟨?_, ?_⟩, ?_⟩, ?_⟩
      iterate 7
       ·skip
        refine ccall (hT _ (by simp;omega) (by simp [bk_apply,n0,hb])) (by simp only [go_sem,seval]) ?_
        simp only [go_sem,seval,g0',g1',hrf,hw,hbx,hxl,hlx',n0,m0,n1,m1]
        first|done|exact ⟨rfl,shrink_twoY hlx (by simp) (fun q hq e1 e2=>by simp [bk_apply,e1,e2,show q≠h.n by omega]) (by simp [bk_apply,hxl,hlx'];rfl) (by simp [bk_apply,hxl]) (hlab _)⟩|exact shrink_twoY hlx (by simp) (fun q hq e1 e2=>by simp [bk_apply,e1,e2,show q≠h.n by omega]) (by simp [bk_apply,hxl,hlx'];rfl) (by simp [bk_apply,hxl]) (hlab _)
     have g1' :((tkS ts s).s== [102,105,114,115,116])=false:=by simpa [poS] using g1
     rw [if_neg g1,if_pos (show ((0:Int)==0)=true from rfl)]
     simp only [go_sem,seval,hk',hrf,hw,hxe,c1',c2',n0,m0,n1,m1]
     refine ⟨⟨⟨?_, ?_⟩, ?_⟩,⟨⟨?_, ?_⟩, ?_⟩, ?_⟩
     iterate 7
      ·skip
       refine ccall (hT _ (by simp;omega) (by simp [bk_apply,n0,hb])) (by simp only [go_sem,seval]) ?_
       simp only [go_sem,seval,g0',g1',n0,m0]
       first|done|exact ⟨rfl,shrink_oldq (by simp) (fun q hq=>by simp [bk_apply,show q≠h.n by omega])⟩|exact shrink_oldq (by simp) (fun q hq=>by simp [bk_apply,show q≠h.n by omega])
end Go.Proofs.YtnibelnjflhkgaaGreatDoor.Ab

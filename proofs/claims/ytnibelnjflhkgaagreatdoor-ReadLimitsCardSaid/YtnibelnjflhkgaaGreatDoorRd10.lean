/- The program's reader: a term within a term. No condition. -/
import Derived.Test.YtnibelnjflhkgaaGreatDoorRdB
namespace Go.Proofs.YtnibelnjflhkgaaGreatDoor.Ab
set_option linter.unusedVariables false
set_option linter.unusedSimpArgs false
set_option maxRecDepth 10000
theorem c112:compF Tryz.prog ow Tryz.f112=(some (56,([(.c 2 (.agg 4))],(.seq (.ops [(none,(.alloc 2 [(.int .i64 0),(.str []),(.int .i64 0),(.sl .full 4 [])]))]) (.seq (.ops [(none,(.cp 4 0)),(none,(.call (some 5) (.k (.func 48 [] [])) [(.t 4)] none)),(none,(.alloc 3 [(.int .i64 0),(.str []),(.int .i64 0),(.int .i64 0)])),(none,(.st (.t 3) (.t 5) 4))]) (.seq (.seq (.ops [(none,(.fa (some 6) (.t 3) 0)),(none,(.ld (some 7) (.t 6) (.one none)))]) (.block 0 (.seq (.ops [(none,(.bin (some 13) .eql (.t 7) (.k (.int .i64 2)) false false)),(none,(.mv 12 13))]) (.cond (.t 12) (.ops [(none,(.fa (some 14) (.t 3) 1)),(none,(.ld (some 15) (.t 14) (.one none))),(none,(.bld (some 16) [(.int .i64 0),(.str []),(.int .i64 0),(.sl .full 4 [])] [(0,1),(1,1),(2,1),(3,1)] [(0,(.k (.int .i64 1))),(1,(.t 15))])),(none,(.st (.t 2) (.t 16) 4))]) (.seq (.ops [(none,(.bin (some 18) .eql (.t 7) (.k (.int .i64 3)) false false)),(none,(.mv 17 18))]) (.cond (.t 17) (.ops [(none,(.fa (some 19) (.t 3) 2)),(none,(.ld (some 20) (.t 19) (.one none))),(none,(.bld (some 21) [(.int .i64 0),(.str []),(.int .i64 0),(.sl .full 4 [])] [(0,1),(1,1),(2,1),(3,1)] [(0,(.k (.int .i64 2))),(2,(.t 20))])),(none,(.st (.t 2) (.t 21) 4))]) (.seq (.ops [(none,(.bin (some 23) .eql (.t 7) (.k (.int .i64 1)) false false)),(none,(.mv 22 23))]) (.cond (.t 22) (.ops [(none,(.fa (some 24) (.t 3) 1)),(none,(.ld (some 25) (.t 24) (.one none))),(none,(.bld (some 26) [(.int .i64 0),(.str []),(.int .i64 0),(.sl .full 4 [])] [(0,1),(1,1),(2,1),(3,1)] [(0,(.k (.int .i64 3))),(1,(.t 25))])),(none,(.st (.t 2) (.t 26) 4))]) (.ops [(none,(.cp 8 0)),(none,(.fa (some 9) (.t 3) 3)),(none,(.ld (some 10) (.t 9) (.one none))),(none,(.call (some 11) (.k (.func 99 [] [])) [(.t 8),(.t 10),(.k (.int .i64 4))] none))]))))))))) (.seq (.ops [(none,(.cp 27 0)),(none,(.call (some 28) (.k (.func 143 [] [])) [(.t 27)] none))]) (.seq (.seq (.ops [(none,(.fa (some 29) (.t 2) 0)),(none,(.ld (some 30) (.t 29) (.one none))),(none,(.bin (some 31) .neq (.t 30) (.k (.int .i64 3)) false false)),(none,(.cp 32 31)),((some (32,false)),(.cp 33 0)),((some (32,false)),(.call (some 34) (.k (.func 48 [] [])) [(.t 33)] none)),((some (32,false)),(.call (some 35) (.k (.func 95 [] [])) [(.t 34),(.k (.str [40]))] none)),((some (32,false)),(.un (some 36) .not (.t 35))),(none,(.pick (some 37) (.t 32) (.k (.bool true)) (.t 36)))]) (.cond (.t 37) (.seq (.ops [(none,(.ld (some 38) (.t 2) (.agg 4))),(none,(.st (.t 2) (.t 38) 4))]) .ret) .skip)) (.seq (.ops [(none,(.cp 39 0)),(none,(.call (some 40) (.k (.func 159 [] [])) [(.t 39)] none))]) (.seq (.block 1 (.loop (.seq (.seq (.ops [(none,(.cp 41 0)),(none,(.call (some 42) (.k (.func 47 [] [])) [(.t 41)] none))]) (.cond (.t 42) .skip (.exit 1))) (.block 2 (.seq (.opsT (.one none (.fa (some 43) (.t 2) 3) (.one none (.cp 45 0) (.alt none (.ldT 44 (.t 43) (some 4)) (.one none (.call (some 46) (.k (.func 112 [] [])) [(.t 45)] (some 100)) (.one none (.bs 47 4 [(.t 46)]) (.one none (.app 48 (.t 44) (.t 47) 4 56 true true) (.one none (.fa (some 49) (.t 2) 3) (.one none (.st (.t 49) (.t 48) 1) .done))))) (.alt none (.call (some 46) (.k (.func 112 [] [])) [(.t 45)] (some 100)) (.one none (.ldT 44 (.t 43) (some 4)) (.one none (.bs 47 4 [(.t 46)]) (.one none (.app 48 (.t 44) (.t 47) 4 56 true true) (.one none (.fa (some 49) (.t 2) 3) (.one none (.st (.t 49) (.t 48) 1) .done))))) .nil))))) (.seq (.ops [(none,(.cp 50 0)),(none,(.call (some 51) (.k (.func 144 [] [])) [(.t 50),(.k (.str [44]))] none)),(none,(.un (some 52) .not (.t 51)))]) (.cond (.t 52) (.exit 1) .skip))))))) (.seq (.ops [(none,(.cp 53 0)),(none,(.call (some 54) (.k (.func 160 [] [])) [(.t 53)] none))]) (.seq (.ops [(none,(.ld (some 55) (.t 2) (.agg 4))),(none,(.st (.t 2) (.t 55) 4))]) .ret)))))))))))):=by kernel_rfl
def zP:List T×Nat:=([],1)
theorem gT_deep2 {z:List T×Nat} {f d:Nat} {k:Tk} {r:List Tk} (hd:d=100) (h:k.k=1) (hm:isM [40] r=true):gT z (f+1) d (k::r)=(.mk 3 k.s 0 z.1,z.2,some (2,headP r)):=by subst hd;exact gT_deep h hm
theorem fnu_openD (h:Hp) (l:Nat) (hl:l<h.n) (ts:List Tk) (i:Nat) (hi:i<1000000000) (d:Nat) (hd:d=100) (b:Nat) (t:Tk) (ht:ts[i]? =some t) (hm:(t.k==4&&t.s== [40])=true) (hb:h.bk l=rdC .sh ts i (d:Nat) b 0):
  Fn Tryz.prog 159 [.ptr l 0] h (.tup []) ⟨h.n,updB h.bk l (.cells [.sl .sh 4 (ts.map Tk.av), .int .i64 (i:Nat), .int .i64 ((d+1:Nat):Int), .int .i64 (t.p:Nat), .int .i64 2])⟩:=by
 have:=fnl_ropen h l hl ts i hi d (by omega) b hb t ht hm
 rwa [if_pos hd] at this
theorem fnu_open (h:Hp) (l:Nat) (hl:l<h.n) (ts:List Tk) (i:Nat) (hi:i<1000000000) (d:Nat) (hd:d<1000) (hd2:d≠100) (b:Nat) (t:Tk) (ht:ts[i]? =some t) (hm:(t.k==4&&t.s== [40])=true) (hb:h.bk l=rdC .sh ts i (d:Nat) b 0):
  Fn Tryz.prog 159 [.ptr l 0] h (.tup []) ⟨h.n,updB h.bk l (.cells [.sl .sh 4 (ts.map Tk.av), .int .i64 ((i+1:Nat):Int), .int .i64 ((d+1:Nat):Int), .int .i64 (b:Nat), .int .i64 0])⟩:=by
 have:=fnl_ropen h l hl ts i hi d hd b hb t ht hm
 rwa [if_neg hd2] at this
section
variable (h:Hp) (l:Nat) (hl:l<h.n) (ts:List Tk) (i:Nat) (hi:i<1000000000) (d:Nat) (hd:d<1000) (b:Nat) (t:Tk) (ht:ts[i]? =some t)
include hl hi hd ht
theorem fnu_closeE (e:Int) (he:(e==0)=false) (hb:h.bk l=rdC .sh ts i ((d+1:Nat):Int) b e):
  Fn Tryz.prog 160 [.ptr l 0] h (.tup []) ⟨h.n,updB h.bk l (.cells [.sl .sh 4 (ts.map Tk.av), .int .i64 (i:Nat), .int .i64 (d:Nat), .int .i64 (b:Nat), .int .i64 e])⟩:=by
 have:=fnl_rclose h l hl ts i hi d hd b e hb t ht
 rw [he] at this;exact this
theorem fnu_closeT (hk:(t.k==4&&t.s== [41])=true) (hb:h.bk l=rdC .sh ts i ((d+1:Nat):Int) b 0):
  Fn Tryz.prog 160 [.ptr l 0] h (.tup []) ⟨h.n,updB h.bk l (.cells [.sl .sh 4 (ts.map Tk.av), .int .i64 ((i+1:Nat):Int), .int .i64 (d:Nat), .int .i64 (b:Nat), .int .i64 0])⟩:=by
 have:=fnl_rclose h l hl ts i hi d hd b 0 hb t ht
 rw [hk] at this;exact this
theorem fnu_closeF (hk:(t.k==4&&t.s== [41])=false) (hb:h.bk l=rdC .sh ts i ((d+1:Nat):Int) b 0):
  Fn Tryz.prog 160 [.ptr l 0] h (.tup []) ⟨h.n,updB h.bk l (.cells [.sl .sh 4 (ts.map Tk.av), .int .i64 (i:Nat), .int .i64 (d:Nat), .int .i64 (t.p:Nat), .int .i64 4])⟩:=by
 have:=fnl_rclose h l hl ts i hi d hd b 0 hb t ht
 rw [hk] at this;exact this
end
theorem shutG_e (k:List UInt8) (l:List T) (n:Nat) (e:Int×Nat) (r:List Tk):shutG k (l,n,some e) r=(.mk 3 k 0 l,n+2,some e):=rfl
theorem shutG_t {k:List UInt8} {l:List T} {n:Nat} {r:List Tk} (h:isM [41] r=true):shutG k (l,n,none) r=(.mk 3 k 0 l,n+3,none):=by simp [shutG,h]
theorem shutG_f {k:List UInt8} {l:List T} {n:Nat} {r:List Tk} (h:isM [41] r=false):shutG k (l,n,none) r=(.mk 3 k 0 l,n+2,some (4,headP r)):=by simp [shutG,h]
theorem Wds.Nx {ts:List Tk} (W:Wds ts):Nx ts:=W.nx
theorem fnl_rinner: ∀(f:Nat) (h:Hp) (l:Nat) (ts:List Tk) (i d b:Nat),Wds ts→l<h.n→i<ts.length→2 * (ts.length-i)≤f→d≤100→h.bk l=rdC .sh ts i d b 0→
  Fn Tryz.prog 112 [.ptr l 0] h (gT zP f d (ts.drop i)).1.avf ⟨h.n,updB h.bk l (.cells [.sl .sh 4 (ts.map Tk.av), .int .i64 ((i+(gT zP f d (ts.drop i)).2.1:Nat):Int), .int .i64 (d:Nat), .int .i64 ((erP b (gT zP f d (ts.drop i)).2.2:Nat):Int), .int .i64 (erE (gT zP f d (ts.drop i)).2.2)])⟩:=by
 intro f
 induction f using Nat.strongRecOn with
 |ind f ih=>
 intro h l ts i d b W hl hi hf hd hb
 obtain ⟨k,hk⟩: ∃k,ts[i]? =some k:=⟨_,List.getElem?_eq_getElem hi⟩
 have hdk:=drop_get hk
 obtain ⟨f,rfl⟩: ∃f',f=f' +1:=⟨f-1,by omega⟩
 have hlen:=W.len
 have n0: ¬l=h.n:=by omega
 have n1: ¬l=h.n+1:=by omega
 have m0: ¬h.n=l:=by omega
 have m1: ¬h.n+1=l:=by omega
 have p0: ¬h.n=h.n+1:=by omega
 have p1: ¬h.n+1=h.n:=by omega
 by_cases c2:k.k=2
 ·have e2:(k.k==2)=true:=by rw [c2];rfl
  have k5:(k.k !=5)=true:=by rw [c2];rfl
  rw [hdk,gT_var c2]
  refine fnC mixed Tryz.func112 c112 (by simp) ?_
  simp only [go_sem,seval]
  refine ccall (fnu_token _ l (by simp;omega) ts i d b k hk 0 (by simp [bk_apply,n0,hb])) (by simp only [go_sem,seval]) ?_
  simp only [go_sem,seval,n0,n1,m0,m1,p0,p1]
  simp only [go_sem,seval,e2]
  refine ccall (fnu_step _ l (by simp;omega) ts i d b k hk (by omega) k5 (by simp [bk_apply,n0,n1,hb])) (by simp only [go_sem,seval]) ?_
  simp only [go_sem,seval,n0,n1,m0,m1,p0,p1]
  exact ⟨rfl,lab_avf _ _,shrink_rdX (by simp) (fun q hq hne=>by simp [bk_apply,hne,show q≠h.n by omega,show q≠h.n+1 by omega]) (by simp [bk_apply,n0,n1,rdC,erE,erP])⟩
 have e2:(k.k==2)=false:=by simpa using c2
 by_cases c3:k.k=3
 ·have e3:(k.k==3)=true:=by rw [c3];rfl
  have k5:(k.k !=5)=true:=by rw [c3];rfl
  rw [hdk,gT_num c3]
  refine fnC mixed Tryz.func112 c112 (by simp) ?_
  simp only [go_sem,seval]
  refine ccall (fnu_token _ l (by simp;omega) ts i d b k hk 0 (by simp [bk_apply,n0,hb])) (by simp only [go_sem,seval]) ?_
  simp only [go_sem,seval,n0,n1,m0,m1,p0,p1]
  simp only [go_sem,seval,e2,e3]
  refine ccall (fnu_step _ l (by simp;omega) ts i d b k hk (by omega) k5 (by simp [bk_apply,n0,n1,hb])) (by simp only [go_sem,seval]) ?_
  simp only [go_sem,seval,n0,n1,m0,m1,p0,p1]
  exact ⟨rfl,lab_avf _ _,shrink_rdX (by simp) (fun q hq hne=>by simp [bk_apply,hne,show q≠h.n by omega,show q≠h.n+1 by omega]) (by simp [bk_apply,n0,n1,rdC,erE,erP])⟩
 have e3:(k.k==3)=false:=by simpa using c3
 by_cases c1:k.k=1
 ·have e1:(k.k==1)=true:=by rw [c1];rfl
  have k5:(k.k !=5)=true:=by rw [c1];rfl
  have hi1:=W.nx i k hk k5
  obtain ⟨t2,ht2⟩: ∃t2,ts[i+1]? =some t2:=⟨_,List.getElem?_eq_getElem hi1⟩
  have hM:=fnl_mark t2 [40]
  unfold Tk.av at hM
  cases hm:(t2.k==4&&t2.s== [40]) with
  |false=>
   rw [hdk,gT_atom c1 (by rw [isM_get ht2,hm])]
   rw [hm] at hM
   refine fnC mixed Tryz.func112 c112 (by simp) ?_
   simp only [go_sem,seval]
   refine ccall (fnu_token _ l (by simp;omega) ts i d b k hk 0 (by simp [bk_apply,n0,hb])) (by simp only [go_sem,seval]) ?_
   simp only [go_sem,seval,n0,n1,m0,m1,p0,p1]
   simp only [go_sem,seval,e1,e2,e3]
   refine ccall (fnu_step _ l (by simp;omega) ts i d b k hk (by omega) k5 (by simp [bk_apply,n0,n1,hb])) (by simp only [go_sem,seval]) ?_
   simp only [go_sem,seval,n0,n1,m0,m1,p0,p1]
   refine ccall (fnu_token _ l (by simp;omega) ts (i+1) d b t2 ht2 0 (by simp [bk_apply,n0,n1,rdC])) (by simp only [go_sem,seval]) ?_
   simp only [go_sem,seval]
   refine pcall hM (by simp only [go_sem,seval]) ?_
   simp only [go_sem,seval,n0,n1,m0,m1,p0,p1]
   exact ⟨rfl,lab_avf _ _,shrink_rdX (by simp) (fun q hq hne=>by simp [bk_apply,hne,show q≠h.n by omega,show q≠h.n+1 by omega]) (by simp [bk_apply,n0,n1,rdC,erE,erP])⟩
  |true=>
   have hi2:=W.nx (i+1) t2 ht2 (mark_ne5 hm)
   obtain ⟨t3,ht3⟩: ∃t3,ts[i+2]? =some t3:=⟨_,List.getElem?_eq_getElem hi2⟩
   rw [hm] at hM
   by_cases hd' :d=100
   ·rw [hdk,gT_deep2 hd' c1 (by rw [isM_get ht2,hm]),headP_get ht2]
    refine fnC mixed Tryz.func112 c112 (by simp) ?_
    simp only [go_sem,seval]
    refine ccall (fnu_token _ l (by simp;omega) ts i d b k hk 0 (by simp [bk_apply,n0,hb])) (by simp only [go_sem,seval]) ?_
    simp only [go_sem,seval,n0,n1,m0,m1,p0,p1]
    simp only [go_sem,seval,e1,e2,e3]
    refine ccall (fnu_step _ l (by simp;omega) ts i d b k hk (by omega) k5 (by simp [bk_apply,n0,n1,hb])) (by simp only [go_sem,seval]) ?_
    simp only [go_sem,seval,n0,n1,m0,m1,p0,p1]
    refine ccall (fnu_token _ l (by simp;omega) ts (i+1) d b t2 ht2 0 (by simp [bk_apply,n0,n1,rdC])) (by simp only [go_sem,seval]) ?_
    simp only [go_sem,seval]
    refine pcall hM (by simp only [go_sem,seval]) ?_
    simp only [go_sem,seval,n0,n1,m0,m1,p0,p1]
    refine ccall (fnu_openD _ l (by simp;omega) ts (i+1) (by omega) d hd' b t2 ht2 hm (by simp [bk_apply,n0,n1,rdC])) (by simp only [go_sem,seval]) ?_
    simp only [go_sem,seval,n0,n1,m0,m1,p0,p1]
    refine cloop (fun _ t=>t.fr 0= .ptr l 0∧t.fr 2= .ptr h.n 0∧t.hp.n=h.n+2∧t.hp.bk l= .cells [.sl .sh 4 (ts.map Tk.av), .int .i64 ((i+1:Nat):Int), .int .i64 ((d+1:Nat):Int), .int .i64 (t2.p:Nat), .int .i64 2]∧
     t.hp.bk h.n= .cells [.int .i64 3, .str k.s, .int .i64 0, .sl .full 4 []]∧(∀q,q<h.n→q≠l→t.hp.bk q=h.bk q)) 0 (by
      simp [fr_apply,argsF,bk_apply,n0,n1,m0,m1,p0,p1];exact fun q hq hne=>by simp [hne,show q≠h.n by omega,show q≠h.n+1 by omega]) ?_
    rintro _ ⟨F,hp⟩ ⟨f0,f2,hn,hb1,hb2,hbo⟩
    simp only at f0 f2 hn hb1 hb2 hbo
    simp only [go_sem,seval,f0,f2]
    refine ccall (fnu_ok _ l (by simp only;omega) ts (i+1) ((d+1:Nat):Int) t2.p 2 (by simp only;exact hb1)) (by simp only [go_sem,seval,f0]) ?_
    simp only [go_sem,seval,f0,f2]
    refine ccall (fnu_closeE _ l (by simp only;omega) ts (i+1) (by omega) d (by omega) t2.p t2 ht2 2 rfl (by simp only;exact hb1)) (by simp only [go_sem,seval,f0]) ?_
    simp only [go_sem,seval,f0,f2,hb2,n0,m0]
    exact ⟨rfl,lab_avf _ _,shrink_rdX (by simp only;omega) (fun q hq hne=>by simp only [bk_apply,hne,show q≠h.n by omega,if_false];exact hbo q hq hne) (by simp [bk_apply,n0,rdC,erE,erP,zP])⟩
   ·rw [hdk,gT_row c1 (by rw [isM_get ht2,hm]) hd']
    refine fnC mixed Tryz.func112 c112 (by simp) ?_
    simp only [go_sem,seval]
    refine ccall (fnu_token _ l (by simp;omega) ts i d b k hk 0 (by simp [bk_apply,n0,hb])) (by simp only [go_sem,seval]) ?_
    simp only [go_sem,seval,n0,n1,m0,m1,p0,p1]
    simp only [go_sem,seval,e1,e2,e3]
    refine ccall (fnu_step _ l (by simp;omega) ts i d b k hk (by omega) k5 (by simp [bk_apply,n0,n1,hb])) (by simp only [go_sem,seval]) ?_
    simp only [go_sem,seval,n0,n1,m0,m1,p0,p1]
    refine ccall (fnu_token _ l (by simp;omega) ts (i+1) d b t2 ht2 0 (by simp [bk_apply,n0,n1,rdC])) (by simp only [go_sem,seval]) ?_
    simp only [go_sem,seval]
    refine pcall hM (by simp only [go_sem,seval]) ?_
    simp only [go_sem,seval,n0,n1,m0,m1,p0,p1]
    refine ccall (fnu_open _ l (by simp;omega) ts (i+1) (by omega) d (by omega) hd' b t2 ht2 hm (by simp [bk_apply,n0,n1,rdC])) (by simp only [go_sem,seval]) ?_
    simp only [go_sem,seval,n0,n1,m0,m1,p0,p1]
    rw [List.drop_drop]
    obtain ⟨G,hG⟩: ∃G,gL zP f (d+1) (ts.drop (i+1+1))=G:=⟨_,rfl⟩
    rw [hG]
    refine cloop (fun m t=> ∃(q:Nat) (acc:List T),acc.length≤q∧i+1+1≤q∧q<ts.length∧2 * (ts.length-q)+1≤m∧m≤f∧t.fr 0= .ptr l 0∧t.fr 2= .ptr h.n 0∧t.hp.n=h.n+2∧
     t.hp.bk l= .cells [.sl .sh 4 (ts.map Tk.av), .int .i64 (q:Nat), .int .i64 ((d+1:Nat):Int), .int .i64 (b:Nat), .int .i64 0]∧
     t.hp.bk h.n= .cells [.int .i64 3, .str k.s, .int .i64 0, .sl (flT acc) 4 (acc.map T.avf)]∧(∀q,q<h.n→q≠l→t.hp.bk q=h.bk q)∧
     G=(acc++(gL zP m (d+1) (ts.drop q)).1,q-(i+1+1)+(gL zP m (d+1) (ts.drop q)).2.1,(gL zP m (d+1) (ts.drop q)).2.2)) f ⟨i+1+1, [],by
      simp [fr_apply,argsF,bk_apply,n0,n1,m0,m1,p0,p1,flT,hG];exact ⟨by omega,by omega,by omega,fun q hq hne=>by simp [hne,show q≠h.n by omega,show q≠h.n+1 by omega]⟩⟩ ?_
    rintro m ⟨F,hp⟩ ⟨q,acc,hac,hq1,hq2,hq3,hq4,f0,f2,hn,hb1,hb2,hbo,hE⟩
    simp only at f0 f2 hn hb1 hb2 hbo
    obtain ⟨m,rfl⟩: ∃m',m=m' +1:=⟨m-1,by omega⟩
    obtain ⟨x,n,er,hX⟩: ∃x n er,gT zP m (d+1) (ts.drop q)=(x,n,er):=⟨_,_,_,rfl⟩
    have hI:=fun (H:Hp) (a1:l<H.n) (a2:H.bk l=rdC .sh ts q ((d+1:Nat):Int) b 0)=>ih m (by omega) H l ts q (d+1) b W a1 hq2 (by omega) (by omega) a2
    rw [hX] at hI
    simp only at hI
    have hlt:=(gTL_lt zP (by decide) m).1 (d+1) (ts.drop q) (W.Nx.drop q) (by simp;omega) (by simp;omega)
    rw [hX] at hlt
    simp only [List.length_drop] at hlt
    obtain ⟨t4,ht4⟩: ∃t4,ts[q+n]? =some t4:=⟨_,List.getElem?_eq_getElem (by omega)⟩
    have hM4:isM [44] ((ts.drop q).drop n)=(t4.k==4&&t4.s== [44]):=by rw [List.drop_drop,isM_get ht4]
    have hC4:isM [41] (ts.drop (q+n))=(t4.k==4&&t4.s== [41]):=isM_get ht4 _
    have hP4:headP (ts.drop (q+n))=t4.p:=headP_get ht4
    simp only [go_sem,seval,f0,f2]
    refine ccall (fnu_ok _ l (by simp only;omega) ts q ((d+1:Nat):Int) b 0 (by simp only;exact hb1)) (by simp only [go_sem,seval,f0]) ?_
    cases acc with
    |nil=>
     have fl0:flT []= .full:=rfl
     rw [fl0] at hb2
     have a1:1 * 56≤140737488355328:=by omega
     have a2:0≤9223372036854775805:=by omega
     simp only [go_sem,seval,f0,f2,hb1,hb2,n0,m0]
     refine ⟨?_, ?_⟩
     iterate 2
      ·skip
       refine ccallD rfl (hI _ (by simp only;omega) (by simp only [bk_apply,n0,if_false];exact hb1)) (by simp only [go_sem,seval,f0]) ?_
       simp only [go_sem,seval,f0,f2,hb2,n0,m0,a1,a2]
       cases er with
       |some e=>
        have he0:(erE (some e)==0)=false:=by
         have:=(gTL_ne zP m).1 (d+1) (ts.drop q) e (by rw [hX])
         simpa [erE] using this
        have hE2:G=(_,_,_):=hE
        rw [gL_bad (by rw [hX]:(gT zP m (d+1) (ts.drop q)).2.2=some e),hX] at hE2
        simp only at hE2
        refine ccall (fnu_takeF _ l (by simp only;omega) ts (q+n) ((d+1:Nat):Int) (erP b (some e)) t4 ht4 (by omega) (erE (some e)) [44] (by rw [he0];rfl) (by simp [bk_apply,rdC,n0,m0])) (by simp only [go_sem,seval,f0]) ?_
        simp only [go_sem,seval,f0,f2]
        refine ccall (fnu_closeE _ l (by simp only;omega) ts (q+n) (by omega) d (by omega) (erP b (some e)) t4 ht4 (erE (some e)) he0 (by simp [bk_apply,rdC,n0,m0])) (by simp only [go_sem,seval,f0]) ?_
        simp only [go_sem,seval,f0,f2,hb2,n0,m0]
        rw [hE2,shutG_e]
        have hidx:i+(q-(i+1+1)+n+2)=q+n:=by omega
        simp only [hidx]
        exact ⟨by rw [avf_mk];first|rfl|simp [flS],lab_avf _ _,shrink_rdX (by simp only;omega) (fun p hp hne=>by simp only [bk_apply,hne,show p≠h.n by omega,if_false];exact hbo p hp hne) (by simp [bk_apply,n0,rdC])⟩
       |none=>
        have hE2:G=(_,_,_):=hE
        cases hc:(t4.k==4&&t4.s== [44]) with
        |true=>
         rw [gL_more (by rw [hX]:(gT zP m (d+1) (ts.drop q)).2.2=none) (by rw [hX,hM4,hc]),hX] at hE2
         simp only [List.drop_drop] at hE2
         have h5:=W.nx (q+n) t4 ht4 (mark_ne5 hc)
         refine ccall (fnu_takeT _ l (by simp only;omega) ts (q+n) ((d+1:Nat):Int) (erP b none) t4 ht4 (by omega) [44] hc (by simp [bk_apply,rdC,n0,m0,erE])) (by simp only [go_sem,seval,f0]) ?_
         simp only [go_sem,seval,f0,f2,n0,m0]
         first
          |exact ⟨m,by omega,q+(n+1),(y::acc)++ [x],by simp at hac ⊢;omega,by omega,by omega,by omega,by omega,hn,rfl,by simp [flT],fun p hp hne=>by simp [hne,show p≠h.n by omega];exact hbo p hp hne,by rw [hE2];simp only [Prod.mk.injEq];exact ⟨by simp,by omega,trivial⟩⟩
          |exact ⟨m,by omega,q+(n+1), []++ [x],by simp at hac ⊢;omega,by omega,by omega,by omega,by omega,hn,rfl,by simp [flT],fun p hp hne=>by simp [hne,show p≠h.n by omega];exact hbo p hp hne,by rw [hE2];simp only [Prod.mk.injEq];exact ⟨by simp,by omega,trivial⟩⟩
        |false=>
         rw [gL_end (by rw [hX]:(gT zP m (d+1) (ts.drop q)).2.2=none) (by rw [hX,hM4,hc]),hX] at hE2
         simp only at hE2
         refine ccall (fnu_takeF _ l (by simp only;omega) ts (q+n) ((d+1:Nat):Int) (erP b none) t4 ht4 (by omega) (erE none) [44] (by rw [hc];rfl) (by simp [bk_apply,rdC,n0,m0])) (by simp only [go_sem,seval,f0]) ?_
         simp only [go_sem,seval,f0,f2]
         have hRR:(ts.drop (i+1+1)).drop (q-(i+1+1)+n)=ts.drop (q+n):=by rw [List.drop_drop];congr 1;omega
         cases hc2:(t4.k==4&&t4.s== [41]) with
         |true=>
          refine ccall (fnu_closeT _ l (by simp only;omega) ts (q+n) (by omega) d (by omega) (erP b none) t4 ht4 hc2 (by simp [bk_apply,rdC,n0,m0,erE])) (by simp only [go_sem,seval,f0]) ?_
          simp only [go_sem,seval,f0,f2,hb2,n0,m0]
          rw [hE2,shutG_t (by simp only;rw [hRR,hC4,hc2])]
          have hidx:i+(q-(i+1+1)+n+3)=q+n+1:=by omega
          simp only [hidx]
          exact ⟨by rw [avf_mk];first|rfl|simp [flS],lab_avf _ _,shrink_rdX (by simp only;omega) (fun p hp hne=>by simp only [bk_apply,hne,show p≠h.n by omega,if_false];exact hbo p hp hne) (by simp [bk_apply,n0,rdC,erE,erP]<;>omega)⟩
         |false=>
          refine ccall (fnu_closeF _ l (by simp only;omega) ts (q+n) (by omega) d (by omega) (erP b none) t4 ht4 hc2 (by simp [bk_apply,rdC,n0,m0,erE])) (by simp only [go_sem,seval,f0]) ?_
          simp only [go_sem,seval,f0,f2,hb2,n0,m0]
          rw [hE2,shutG_f (by simp only;rw [hRR,hC4,hc2])]
          have hidx:i+(q-(i+1+1)+n+2)=q+n:=by omega
          simp only [hidx,hRR,hP4]
          exact ⟨by rw [avf_mk];first|rfl|simp [flS],lab_avf _ _,shrink_rdX (by simp only;omega) (fun p hp hne=>by simp only [bk_apply,hne,show p≠h.n by omega,if_false];exact hbo p hp hne) (by simp [bk_apply,n0,rdC,erE,erP])⟩
    |cons y acc=>
     have fl0:flT (y::acc)= .own:=rfl
     rw [fl0] at hb2
     have a1:(acc.length+2) * 56≤140737488355328:=by simp at hac;omega
     have a2:acc.length≤9223372036854775805:=by simp at hac;omega
     simp only [go_sem,seval,f0,f2,hb1,hb2,n0,m0]
     refine ⟨?_, ?_⟩
     iterate 2
      ·skip
       refine ccallD rfl (hI _ (by simp only;omega) (by simp only [bk_apply,n0,if_false];exact hb1)) (by simp only [go_sem,seval,f0]) ?_
       simp only [go_sem,seval,f0,f2,hb2,n0,m0,a1,a2]
       cases er with
       |some e=>
        have he0:(erE (some e)==0)=false:=by
         have:=(gTL_ne zP m).1 (d+1) (ts.drop q) e (by rw [hX])
         simpa [erE] using this
        have hE2:G=(_,_,_):=hE
        rw [gL_bad (by rw [hX]:(gT zP m (d+1) (ts.drop q)).2.2=some e),hX] at hE2
        simp only at hE2
        refine ccall (fnu_takeF _ l (by simp only;omega) ts (q+n) ((d+1:Nat):Int) (erP b (some e)) t4 ht4 (by omega) (erE (some e)) [44] (by rw [he0];rfl) (by simp [bk_apply,rdC,n0,m0])) (by simp only [go_sem,seval,f0]) ?_
        simp only [go_sem,seval,f0,f2]
        refine ccall (fnu_closeE _ l (by simp only;omega) ts (q+n) (by omega) d (by omega) (erP b (some e)) t4 ht4 (erE (some e)) he0 (by simp [bk_apply,rdC,n0,m0])) (by simp only [go_sem,seval,f0]) ?_
        simp only [go_sem,seval,f0,f2,hb2,n0,m0]
        rw [hE2,shutG_e]
        have hidx:i+(q-(i+1+1)+n+2)=q+n:=by omega
        simp only [hidx]
        exact ⟨by rw [avf_mk];first|rfl|simp [flS],lab_avf _ _,shrink_rdX (by simp only;omega) (fun p hp hne=>by simp only [bk_apply,hne,show p≠h.n by omega,if_false];exact hbo p hp hne) (by simp [bk_apply,n0,rdC])⟩
       |none=>
        have hE2:G=(_,_,_):=hE
        cases hc:(t4.k==4&&t4.s== [44]) with
        |true=>
         rw [gL_more (by rw [hX]:(gT zP m (d+1) (ts.drop q)).2.2=none) (by rw [hX,hM4,hc]),hX] at hE2
         simp only [List.drop_drop] at hE2
         have h5:=W.nx (q+n) t4 ht4 (mark_ne5 hc)
         refine ccall (fnu_takeT _ l (by simp only;omega) ts (q+n) ((d+1:Nat):Int) (erP b none) t4 ht4 (by omega) [44] hc (by simp [bk_apply,rdC,n0,m0,erE])) (by simp only [go_sem,seval,f0]) ?_
         simp only [go_sem,seval,f0,f2,n0,m0]
         first
          |exact ⟨m,by omega,q+(n+1),(y::acc)++ [x],by simp at hac ⊢;omega,by omega,by omega,by omega,by omega,hn,rfl,by simp [flT],fun p hp hne=>by simp [hne,show p≠h.n by omega];exact hbo p hp hne,by rw [hE2];simp only [Prod.mk.injEq];exact ⟨by simp,by omega,trivial⟩⟩
          |exact ⟨m,by omega,q+(n+1), []++ [x],by simp at hac ⊢;omega,by omega,by omega,by omega,by omega,hn,rfl,by simp [flT],fun p hp hne=>by simp [hne,show p≠h.n by omega];exact hbo p hp hne,by rw [hE2];simp only [Prod.mk.injEq];exact ⟨by simp,by omega,trivial⟩⟩
        |false=>
         rw [gL_end (by rw [hX]:(gT zP m (d+1) (ts.drop q)).2.2=none) (by rw [hX,hM4,hc]),hX] at hE2
         simp only at hE2
         refine ccall (fnu_takeF _ l (by simp only;omega) ts (q+n) ((d+1:Nat):Int) (erP b none) t4 ht4 (by omega) (erE none) [44] (by rw [hc];rfl) (by simp [bk_apply,rdC,n0,m0])) (by simp only [go_sem,seval,f0]) ?_
         simp only [go_sem,seval,f0,f2]
         have hRR:(ts.drop (i+1+1)).drop (q-(i+1+1)+n)=ts.drop (q+n):=by rw [List.drop_drop];congr 1;omega
         cases hc2:(t4.k==4&&t4.s== [41]) with
         |true=>
          refine ccall (fnu_closeT _ l (by simp only;omega) ts (q+n) (by omega) d (by omega) (erP b none) t4 ht4 hc2 (by simp [bk_apply,rdC,n0,m0,erE])) (by simp only [go_sem,seval,f0]) ?_
          simp only [go_sem,seval,f0,f2,hb2,n0,m0]
          rw [hE2,shutG_t (by simp only;rw [hRR,hC4,hc2])]
          have hidx:i+(q-(i+1+1)+n+3)=q+n+1:=by omega
          simp only [hidx]
          exact ⟨by rw [avf_mk];first|rfl|simp [flS],lab_avf _ _,shrink_rdX (by simp only;omega) (fun p hp hne=>by simp only [bk_apply,hne,show p≠h.n by omega,if_false];exact hbo p hp hne) (by simp [bk_apply,n0,rdC,erE,erP]<;>omega)⟩
         |false=>
          refine ccall (fnu_closeF _ l (by simp only;omega) ts (q+n) (by omega) d (by omega) (erP b none) t4 ht4 hc2 (by simp [bk_apply,rdC,n0,m0,erE])) (by simp only [go_sem,seval,f0]) ?_
          simp only [go_sem,seval,f0,f2,hb2,n0,m0]
          rw [hE2,shutG_f (by simp only;rw [hRR,hC4,hc2])]
          have hidx:i+(q-(i+1+1)+n+2)=q+n:=by omega
          simp only [hidx,hRR,hP4]
          exact ⟨by rw [avf_mk];first|rfl|simp [flS],lab_avf _ _,shrink_rdX (by simp only;omega) (fun p hp hne=>by simp only [bk_apply,hne,show p≠h.n by omega,if_false];exact hbo p hp hne) (by simp [bk_apply,n0,rdC,erE,erP])⟩
 have e1:(k.k==1)=false:=by simpa using c1
 rw [hdk,gT_non c1 c2 c3]
 refine fnC mixed Tryz.func112 c112 (by simp) ?_
 simp only [go_sem,seval]
 refine ccall (fnu_token _ l (by simp;omega) ts i d b k hk 0 (by simp [bk_apply,n0,hb])) (by simp only [go_sem,seval]) ?_
 simp only [go_sem,seval,n0,n1,m0,m1,p0,p1]
 simp only [go_sem,seval,e1,e2,e3]
 refine ccall (fnu_fail _ l (by simp;omega) ts i d b k.p 4 (by simp [bk_apply,n0,n1,hb])) (by simp only [go_sem,seval]) ?_
 simp only [go_sem,seval,n0,n1,m0,m1,p0,p1]
 refine ccall (fnu_step5 _ l (by simp;omega) ts i d k.p k hk (by omega) 4 rfl (by simp [bk_apply,n0,n1,rdC])) (by simp only [go_sem,seval]) ?_
 simp only [go_sem,seval,n0,n1,m0,m1,p0,p1]
 exact ⟨rfl,lab_avf _ _,shrink_rdX (by simp) (fun q hq hne=>by simp [bk_apply,hne,show q≠h.n by omega,show q≠h.n+1 by omega]) (by simp [bk_apply,n0,n1,rdC,erE,erP])⟩
end Go.Proofs.YtnibelnjflhkgaaGreatDoor.Ab

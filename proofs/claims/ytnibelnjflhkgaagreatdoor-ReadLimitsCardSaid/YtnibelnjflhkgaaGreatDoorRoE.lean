/- The program's reader over states: an item. No condition. The program's reader over states: read.Program. No condition. The layer of reading: a rule is read: by what the reader tells of any text. No condition. -/
import Derived.Test.YtnibelnjflhkgaaGreatDoorRoD
import Derived.Test.YtnibelnjflhkgaaGreatDoorLr0
namespace Go.Proofs.YtnibelnjflhkgaaGreatDoor.Ab
set_option linter.unusedVariables false
set_option linter.unusedSimpArgs false
set_option maxRecDepth 10000
theorem c49:compF Tryz.prog ow Tryz.f49=(some (58,([],(.seq (.ops [(none,(.cp 6 0)),(none,(.call (some 7) (.k (.func 48 [] [])) [(.t 6)] none)),(none,(.fld (some 8) (.t 7) 3 (.one none))),(none,(.mv 4 8))]) (.seq (.ops [(none,(.cp 9 0)),(none,(.call (some 10) (.k (.func 62 [] [])) [(.t 9)] (some 100))),(none,(.alloc 5 [(.int .i64 0),(.str []),(.int .i64 0),(.sl .full 4 [])])),(none,(.st (.t 5) (.t 10) 4))]) (.seq (.seq (.ops [(none,(.cp 11 0)),(none,(.call (some 12) (.k (.func 47 [] [])) [(.t 11)] none)),(none,(.cp 13 12)),((some (13,true)),(.cp 14 0)),((some (13,true)),(.call (some 15) (.k (.func 48 [] [])) [(.t 14)] none)),((some (13,true)),(.call (some 16) (.k (.func 95 [] [])) [(.t 15),(.k (.str [60,45]))] none)),(none,(.pick (some 17) (.t 13) (.t 16) (.k (.bool false))))]) (.cond (.t 17) (.opsT (.one none (.cp 18 1) (.one none (.cp 19 1) (.one none (.nil (some 20) (.t 19)) (.one none (.fa (some 21) (.t 20) 1) (.one none (.cp 23 0) (.alt none (.ldT 22 (.t 21) (some 16)) (.one none (.ld (some 24) (.t 5) (.agg 4)) (.one none (.call (some 25) (.k (.func 96 [] [])) [(.t 23),(.t 24)] (some 100)) (.one none (.bs 26 16 [(.t 25)]) (.one none (.app 27 (.t 22) (.t 26) 16 240 true true) (.one none (.nil (some 28) (.t 18)) (.one none (.fa (some 29) (.t 28) 1) (.one none (.st (.t 29) (.t 27) 1) .done))))))) (.alt none (.ld (some 24) (.t 5) (.agg 4)) (.alt none (.ldT 22 (.t 21) (some 16)) (.one none (.call (some 25) (.k (.func 96 [] [])) [(.t 23),(.t 24)] (some 100)) (.one none (.bs 26 16 [(.t 25)]) (.one none (.app 27 (.t 22) (.t 26) 16 240 true true) (.one none (.nil (some 28) (.t 18)) (.one none (.fa (some 29) (.t 28) 1) (.one none (.st (.t 29) (.t 27) 1) .done)))))) (.alt none (.call (some 25) (.k (.func 96 [] [])) [(.t 23),(.t 24)] (some 100)) (.one none (.ldT 22 (.t 21) (some 16)) (.one none (.bs 26 16 [(.t 25)]) (.one none (.app 27 (.t 22) (.t 26) 16 240 true true) (.one none (.nil (some 28) (.t 18)) (.one none (.fa (some 29) (.t 28) 1) (.one none (.st (.t 29) (.t 27) 1) .done)))))) .nil)) .nil)))))))) (.opsT (.one none (.cp 30 1) (.one none (.cp 31 1) (.one none (.nil (some 32) (.t 31)) (.one none (.fa (some 33) (.t 32) 0) (.one none (.cp 35 0) (.alt none (.ldT 34 (.t 33) (some 6)) (.one none (.ld (some 36) (.t 5) (.agg 4)) (.one none (.call (some 37) (.k (.func 97 [] [])) [(.t 35),(.t 36)] (some 100)) (.one none (.bs 38 6 [(.t 37)]) (.one none (.app 39 (.t 34) (.t 38) 6 104 true true) (.one none (.nil (some 40) (.t 30)) (.one none (.fa (some 41) (.t 40) 0) (.one none (.st (.t 41) (.t 39) 1) .done))))))) (.alt none (.ld (some 36) (.t 5) (.agg 4)) (.alt none (.ldT 34 (.t 33) (some 6)) (.one none (.call (some 37) (.k (.func 97 [] [])) [(.t 35),(.t 36)] (some 100)) (.one none (.bs 38 6 [(.t 37)]) (.one none (.app 39 (.t 34) (.t 38) 6 104 true true) (.one none (.nil (some 40) (.t 30)) (.one none (.fa (some 41) (.t 40) 0) (.one none (.st (.t 41) (.t 39) 1) .done)))))) (.alt none (.call (some 37) (.k (.func 97 [] [])) [(.t 35),(.t 36)] (some 100)) (.one none (.ldT 34 (.t 33) (some 6)) (.one none (.bs 38 6 [(.t 37)]) (.one none (.app 39 (.t 34) (.t 38) 6 104 true true) (.one none (.nil (some 40) (.t 30)) (.one none (.fa (some 41) (.t 40) 0) (.one none (.st (.t 41) (.t 39) 1) .done)))))) .nil)) .nil)))))))))) (.seq (.ops [(none,(.cp 42 0)),(none,(.cp 43 1)),(none,(.nil (some 44) (.t 43))),(none,(.fa (some 45) (.t 44) 1)),(none,(.ld (some 46) (.t 45) (.one (some 16)))),(none,(.len (some 47) (.t 46) false true)),(none,(.cp 48 4)),(none,(.call (some 49) (.k (.func 98 [] [])) [(.t 42),(.t 47),(.k (.int .i64 20)),(.t 48)] none))]) (.ops [(none,(.cp 50 0)),(none,(.cp 51 1)),(none,(.nil (some 52) (.t 51))),(none,(.fa (some 53) (.t 52) 0)),(none,(.ld (some 54) (.t 53) (.one (some 6)))),(none,(.len (some 55) (.t 54) false true)),(none,(.cp 56 4)),(none,(.call (some 57) (.k (.func 98 [] [])) [(.t 50),(.t 55),(.k (.int .i64 30)),(.t 56)] none))])))))))):=by kernel_rfl
theorem cl_agg (c:Cl):AV.agg c.avf.cells=c.avf:=by obtain ⟨⟨a,b',c,d⟩,b,g⟩:=c;rfl
theorem cl_len (c:Cl):c.avf.cells.length=6:=by obtain ⟨⟨a,b',c,d⟩,b,g⟩:=c;rfl
theorem cl_take (c:Cl):List.take 6 c.avf.cells=c.avf.cells:=by obtain ⟨⟨a,b',c,d⟩,b,g⟩:=c;rfl
theorem cl_strip (c:Cl):strip c.avf=c.avf:=by obtain ⟨⟨a,b',c,d⟩,b,g⟩:=c;rfl
theorem cl_own (c:Cl):isOwn c.avf=false:=by obtain ⟨⟨a,b',c,d⟩,b,g⟩:=c;rfl
theorem cl_okc (c:Cl):okc c.avf=true:=by obtain ⟨⟨a,b',c,d⟩,b,g⟩:=c;rfl
theorem cl_cstrip (c:Cl):c.avf.cells.map strip=c.avf.cells:=by obtain ⟨⟨a,b',c,d⟩,b,g⟩:=c;simp only [Cl.avf,AV.cells,List.map_cons,List.map_nil,strip_flG,strip_flS];rfl
theorem ru_agg (c:Ru):AV.agg c.avf.cells=c.avf:=by obtain ⟨⟨a,b',c,d⟩,⟨k,⟨tk,tn,tv,tl⟩,rel,pl,pr,pc⟩,g,w,p⟩:=c;rfl
theorem ru_len (c:Ru):c.avf.cells.length=16:=by obtain ⟨⟨a,b',c,d⟩,⟨k,⟨tk,tn,tv,tl⟩,rel,pl,pr,pc⟩,g,w,p⟩:=c;rfl
theorem ru_take (c:Ru):List.take 16 c.avf.cells=c.avf.cells:=by obtain ⟨⟨a,b',c,d⟩,⟨k,⟨tk,tn,tv,tl⟩,rel,pl,pr,pc⟩,g,w,p⟩:=c;rfl
theorem ru_strip (c:Ru):strip c.avf=c.avf:=by obtain ⟨⟨a,b',c,d⟩,⟨k,⟨tk,tn,tv,tl⟩,rel,pl,pr,pc⟩,g,w,p⟩:=c;rfl
theorem ru_own (c:Ru):isOwn c.avf=false:=by obtain ⟨⟨a,b',c,d⟩,⟨k,⟨tk,tn,tv,tl⟩,rel,pl,pr,pc⟩,g,w,p⟩:=c;rfl
theorem ru_okc (c:Ru):okc c.avf=true:=by obtain ⟨⟨a,b',c,d⟩,⟨k,⟨tk,tn,tv,tl⟩,rel,pl,pr,pc⟩,g,w,p⟩:=c;rfl
theorem ru_cstrip (c:Ru):c.avf.cells.map strip=c.avf.cells:=by obtain ⟨⟨a,b',c,d⟩,⟨k,⟨tk,tn,tv,tl⟩,rel,pl,pr,pc⟩,g,w,p⟩:=c;simp only [Ru.avf,AV.cells,List.map_cons,List.map_nil,strip_flG,strip_flS,strip_flP];rfl
attribute [go_sem] cl_agg cl_len cl_take cl_strip cl_own cl_okc cl_cstrip ru_agg ru_len ru_take ru_strip ru_own ru_okc ru_cstrip
def flCo:List Cl→Fl| []=> .full|_=> .own
def flRo:List Ru→Fl| []=> .full|_=> .own
def flC:List Cl→Fl| []=> .full|_=> .sh
def flR:List Ru→Fl| []=> .full|_=> .sh
theorem strip_flCo (l:List Cl) (xs:List AV):strip (.sl (flCo l) 6 xs)= .sl (flC l) 6 xs:=by cases l<;>rfl
theorem strip_flC (l:List Cl) (xs:List AV):strip (.sl (flC l) 6 xs)= .sl (flC l) 6 xs:=by cases l<;>rfl
theorem strip_flRo (l:List Ru) (xs:List AV):strip (.sl (flRo l) 16 xs)= .sl (flR l) 16 xs:=by cases l<;>rfl
theorem strip_flR (l:List Ru) (xs:List AV):strip (.sl (flR l) 16 xs)= .sl (flR l) 16 xs:=by cases l<;>rfl
attribute [go_sem] strip_flCo strip_flC strip_flRo strip_flR
def itB (ts:List Tk) (d:Nat) (cs:List Cl) (rs:List Ru) (s:St):List Cl×List Ru×St:=
 if ((tmS ts d s).2.er.isNone&&isS (tkS ts (tmS ts d s).2) [60,45])=true then (cs,rs++ [(ruleS ts d (tmS ts d s).1 (tmS ts d s).2).1],(ruleS ts d (tmS ts d s).1 (tmS ts d s).2).2)
 else (cs++ [(clauseS ts d (tmS ts d s).1 (tmS ts d s).2).1],rs,(clauseS ts d (tmS ts d s).1 (tmS ts d s).2).2)
def itM (p:Nat) (x:List Cl×List Ru×St):St:=mostS (x.1.length:Nat) 30 p (mostS (x.2.1.length:Nat) 20 p x.2.2)
def itemS (ts:List Tk) (d:Nat) (cs:List Cl) (rs:List Ru) (s:St):List Cl×List Ru×St:=
 ((itB ts d cs rs s).1,(itB ts d cs rs s).2.1,itM (tkS ts s).p (itB ts d cs rs s))
theorem clauseS_ok {ts:List Tk} (W:Wds ts) {d:Nat} {t:T} {s:St} (h:SOk ts s):SOk ts (clauseS ts d t s).2∧s.i≤(clauseS ts d t s).2.i:=by
 have h1:=goS_ok (c:= [58,45]) W.Nx h
 have h2:=goS_i ts [58,45] s
 obtain ⟨k1,k2⟩:=clL_ok W d ts.length (takeS ts [58,45] s) [] [] _ h1
 have k3:=needS_i ts [46] (clL ts d ts.length (takeS ts [58,45] s) [] [] (goS ts [58,45] s)).2.2
 exact ⟨needS_ok W.Nx k1,by unfold clauseS;simp only;omega⟩
theorem itB_ok {ts:List Tk} (W:Wds ts) {d:Nat} (hd:d≤100) {cs:List Cl} {rs:List Ru} {s:St} (h:SOk ts s):SOk ts (itB ts d cs rs s).2.2∧s.i≤(itB ts d cs rs s).2.2.i:=by
 have h1:=tmS_ok (d:=d) W h
 have h2:=tmS_i ts d s
 unfold itB;split
 ·obtain ⟨k1,k2⟩:=ruleS_ok W hd (t:=(tmS ts d s).1) h1
  exact ⟨k1,Nat.le_trans h2 k2⟩
 ·obtain ⟨k1,k2⟩:=clauseS_ok W (d:=d) (t:=(tmS ts d s).1) h1
  exact ⟨k1,Nat.le_trans h2 k2⟩
theorem itM_ok {ts:List Tk} {p:Nat} {x:List Cl×List Ru×St} (h:SOk ts x.2.2):SOk ts (itM p x):=mostS_ok (mostS_ok h)
theorem itM_i (p:Nat) (x:List Cl×List Ru×St):(itM p x).i=x.2.2.i:=by unfold itM;rw [mostS_i,mostS_i]
theorem itemS_ok {ts:List Tk} (W:Wds ts) {d:Nat} (hd:d≤100) {cs:List Cl} {rs:List Ru} {s:St} (h:SOk ts s):SOk ts (itemS ts d cs rs s).2.2∧s.i≤(itemS ts d cs rs s).2.2.i:=by
 obtain ⟨k1,k2⟩:=itB_ok W hd (cs:=cs) (rs:=rs) h
 exact ⟨itM_ok k1,by unfold itemS;simp only;rw [itM_i];exact k2⟩
theorem lab_crs (n:Nat) (cs:List Cl) (rs:List Ru):labL n [.sl (flCo cs) 6 (cs.map Cl.avf), .sl (flRo rs) 16 (rs.map Ru.avf)]=true:=by
 have h1:labL n (cs.map Cl.avf)=true:=labL_all.2 fun a ha=>by obtain ⟨p,_,rfl⟩:=List.mem_map.1 ha;exact lab_cl n p
 have h2:labL n (rs.map Ru.avf)=true:=labL_all.2 fun a ha=>by obtain ⟨p,_,rfl⟩:=List.mem_map.1 ha;exact lab_ru n p
 simp [labL,labOK,h1,h2]
set_option maxHeartbeats 4000000 in
theorem fx_item {h:Hp} {l x:Nat} (hl:l<h.n) (hx:x<h.n) (hlx:l≠x) {ts:List Tk} (W:Wds ts) {s:St} (hs:SOk ts s) {d:Nat} (hd:d≤100) (hb:h.bk l=rdX ts s (d:Nat)) (cs:List Cl) (rs:List Ru) (hcl:cs.length<1000000000) (hrl:rs.length<1000000000)
  (hbx:h.bk x= .cells [.sl (flCo cs) 6 (cs.map Cl.avf), .sl (flRo rs) 16 (rs.map Ru.avf)]):
  Fn Tryz.prog 49 [.ptr l 0, .ptr x 0] h (.tup []) ⟨h.n,updB (updB h.bk x (.cells [.sl (flCo (itemS ts d cs rs s).1) 6 ((itemS ts d cs rs s).1.map Cl.avf), .sl (flRo (itemS ts d cs rs s).2.1) 16 ((itemS ts d cs rs s).2.1.map Ru.avf)])) l (rdX ts (itemS ts d cs rs s).2.2 (d:Nat))⟩:=by
 have hxl: ¬x=l:=fun e=>hlx e.symm
 have hlx' : ¬l=x:=hlx
 have n0: ¬l=h.n:=by omega
 have m0: ¬h.n=l:=by omega
 have n1: ¬x=h.n:=by omega
 have m1: ¬h.n=x:=by omega
 refine fnC mixed Tryz.func49 c49 (by simp) ?_
 simp only [go_sem,seval]
 refine ccall (fx_token (l:=l) (ts:=ts) (s:=s) (d:=(d:Int)) hl hs hb) (by simp only [go_sem,seval]) ?_
 unfold itemS
 generalize (tkS ts s).p=at0
 simp only [go_sem,seval]
 refine ccall (fx_term (l:=l) (ts:=ts) (s:=s) (by simp;omega) W hs (d:=d) hd (by simp [hb])) (by simp only [go_sem,seval]) ?_
 have h1:=tmS_ok (d:=d) W hs
 unfold itB
 generalize tmS ts d s=R at *
 obtain ⟨⟨a',b',c',e'⟩,s1⟩:=R
 simp only [avf_mk] at h1 ⊢
 simp only [go_sem,seval,n0,n1,m0,m1,hxl,hlx']
 refine ccall (fx_ok (l:=l) (ts:=ts) (s:=s1) (d:=(d:Int)) (by simp;omega) h1 (by simp [bk_apply,n0])) (by simp only [go_sem,seval]) ?_
 cases hno:s1.er.isNone with
 |false=>
  rw [if_neg (by simp)]
  simp only [go_sem,seval,hno,n0,n1,m0,m1,hxl,hlx']
  have hC:=fun (H:Hp) (a1:l<H.n) (a2:H.bk l=rdX ts s1 (d:Nat))=>fx_clause (h:=H) a1 W h1 hd a2 (T.mk a' b' c' e')
  have h2:=(clauseS_ok W (d:=d) (t:=T.mk a' b' c' e') h1).1
  generalize clauseS ts d (T.mk a' b' c' e') s1=R at *
  obtain ⟨z,s2⟩:=R
  simp only [avf_mk] at hC h2 ⊢
  cases cs with
  |nil=>
   have fl0:flCo []= .full:=rfl
   rw [fl0] at hbx
   have a1:1 * 104≤140737488355328:=by omega
   have a2:0≤9223372036854775805:=by omega
   simp only [go_sem,seval,hbx,n0,n1,m0,m1,hxl,hlx']
   refine ⟨?_, ?_, ?_⟩
   iterate 3
    ·skip
     refine ccallD rfl (hC _ (by simp;omega) (by simp [bk_apply,n0,n1,m0,m1,hxl,hlx'])) (by simp only [go_sem,seval]) ?_
     simp only [go_sem,seval,hbx,n0,n1,m0,m1,hxl,hlx',a1,a2]
     have h3:SOk ts (mostS ((rs.length:Nat):Int) 20 at0 s2):=mostS_ok h2
     refine ccall (fx_most (l:=l) (ts:=ts) (s:=s2) (d:=(d:Int)) (by simp;omega) h2 (by simp [bk_apply,n0,n1,m0,m1,hxl,hlx']) ((rs.length:Nat):Int) 20 at0) (by simp only [go_sem,seval]<;>simp) ?_
     unfold itM
     simp only
     generalize mostS ((rs.length:Nat):Int) 20 at0 s2=s3 at *
     have hM4:=fun (H:Hp) (a:l<H.n) (b:H.bk l=rdX ts s3 (d:Int))=>fx_most (h:=H) a h3 b ((([z]:List Cl).length:Nat):Int) 30 at0
     generalize mostS ((([z]:List Cl).length:Nat):Int) 30 at0 s3=s4 at *
     simp only [go_sem,seval,n0,n1,m0,m1,hxl,hlx']
     refine ccall (hM4 _ (by simp;omega) (by simp [bk_apply,n0,n1,m0,m1,hxl,hlx'])) (by simp only [go_sem,seval]<;>simp) ?_
     simp only [go_sem,seval,n0,n1,m0,m1,hxl,hlx']
     exact shrink_two hlx (by simp) (fun q hq e1 e2=>by simp [bk_apply,e1,e2,show q≠h.n by omega]) (by simp [bk_apply,n0]) (by simp [bk_apply,hxl,n1,flCo,flRo]) (lab_crs _ _ _)
  |cons y cs=>
   have fl0:flCo (y::cs)= .own:=rfl
   rw [fl0] at hbx
   have a1:(cs.length+2) * 104≤140737488355328:=by simp at hcl;omega
   have a2:cs.length≤9223372036854775805:=by simp at hcl;omega
   simp only [go_sem,seval,hbx,n0,n1,m0,m1,hxl,hlx']
   refine ⟨?_, ?_, ?_⟩
   iterate 3
    ·skip
     refine ccallD rfl (hC _ (by simp;omega) (by simp [bk_apply,n0,n1,m0,m1,hxl,hlx'])) (by simp only [go_sem,seval]) ?_
     simp only [go_sem,seval,hbx,n0,n1,m0,m1,hxl,hlx',a1,a2]
     have h3:SOk ts (mostS ((rs.length:Nat):Int) 20 at0 s2):=mostS_ok h2
     refine ccall (fx_most (l:=l) (ts:=ts) (s:=s2) (d:=(d:Int)) (by simp;omega) h2 (by simp [bk_apply,n0,n1,m0,m1,hxl,hlx']) ((rs.length:Nat):Int) 20 at0) (by simp only [go_sem,seval]<;>simp) ?_
     unfold itM
     simp only
     generalize mostS ((rs.length:Nat):Int) 20 at0 s2=s3 at *
     have hM4:=fun (H:Hp) (a:l<H.n) (b:H.bk l=rdX ts s3 (d:Int))=>fx_most (h:=H) a h3 b (((y::(cs++ [z])).length:Nat):Int) 30 at0
     generalize mostS (((y::(cs++ [z])).length:Nat):Int) 30 at0 s3=s4 at *
     simp only [go_sem,seval,n0,n1,m0,m1,hxl,hlx']
     refine ccall (hM4 _ (by simp;omega) (by simp [bk_apply,n0,n1,m0,m1,hxl,hlx'])) (by simp only [go_sem,seval]<;>simp) ?_
     simp only [go_sem,seval,n0,n1,m0,m1,hxl,hlx']
     exact shrink_two hlx (by simp) (fun q hq e1 e2=>by simp [bk_apply,e1,e2,show q≠h.n by omega]) (by simp [bk_apply,n0]) (by simp [bk_apply,hxl,n1,flCo,flRo]) (lab_crs _ _ _)
 |true=>
  have hMk:=fnl_mark (tkS ts s1) [60,45]
  unfold Tk.av at hMk
  simp only [go_sem,seval,hno,n0,n1,m0,m1,hxl,hlx']
  refine ccall (fx_token (l:=l) (ts:=ts) (s:=s1) (d:=(d:Int)) (by simp;omega) h1 (by simp [bk_apply,n0])) (by simp only [go_sem,seval]) ?_
  simp only [go_sem,seval,n0,n1,m0,m1,hxl,hlx']
  refine pcall hMk (by simp only [go_sem,seval]) ?_
  rw [show isS (tkS ts s1) [60,45]=((tkS ts s1).k==4&&(tkS ts s1).s== [60,45]) from rfl]
  cases hm:((tkS ts s1).k==4&&(tkS ts s1).s== [60,45]) with
  |false=>
   rw [if_neg (by simp)]
   simp only [go_sem,seval,n0,n1,m0,m1,hxl,hlx']
   have hC:=fun (H:Hp) (a1:l<H.n) (a2:H.bk l=rdX ts s1 (d:Nat))=>fx_clause (h:=H) a1 W h1 hd a2 (T.mk a' b' c' e')
   have h2:=(clauseS_ok W (d:=d) (t:=T.mk a' b' c' e') h1).1
   generalize clauseS ts d (T.mk a' b' c' e') s1=R at *
   obtain ⟨z,s2⟩:=R
   simp only [avf_mk] at hC h2 ⊢
   cases cs with
   |nil=>
    have fl0:flCo []= .full:=rfl
    rw [fl0] at hbx
    have a1:1 * 104≤140737488355328:=by omega
    have a2:0≤9223372036854775805:=by omega
    simp only [go_sem,seval,hbx,n0,n1,m0,m1,hxl,hlx']
    refine ⟨?_, ?_, ?_⟩
    iterate 3
     ·skip
      refine ccallD rfl (hC _ (by simp;omega) (by simp [bk_apply,n0,n1,m0,m1,hxl,hlx'])) (by simp only [go_sem,seval]) ?_
      simp only [go_sem,seval,hbx,n0,n1,m0,m1,hxl,hlx',a1,a2]
      have h3:SOk ts (mostS ((rs.length:Nat):Int) 20 at0 s2):=mostS_ok h2
      refine ccall (fx_most (l:=l) (ts:=ts) (s:=s2) (d:=(d:Int)) (by simp;omega) h2 (by simp [bk_apply,n0,n1,m0,m1,hxl,hlx']) ((rs.length:Nat):Int) 20 at0) (by simp only [go_sem,seval]<;>simp) ?_
      unfold itM
      simp only
      generalize mostS ((rs.length:Nat):Int) 20 at0 s2=s3 at *
      have hM4:=fun (H:Hp) (a:l<H.n) (b:H.bk l=rdX ts s3 (d:Int))=>fx_most (h:=H) a h3 b ((([z]:List Cl).length:Nat):Int) 30 at0
      generalize mostS ((([z]:List Cl).length:Nat):Int) 30 at0 s3=s4 at *
      simp only [go_sem,seval,n0,n1,m0,m1,hxl,hlx']
      refine ccall (hM4 _ (by simp;omega) (by simp [bk_apply,n0,n1,m0,m1,hxl,hlx'])) (by simp only [go_sem,seval]<;>simp) ?_
      simp only [go_sem,seval,n0,n1,m0,m1,hxl,hlx']
      exact shrink_two hlx (by simp) (fun q hq e1 e2=>by simp [bk_apply,e1,e2,show q≠h.n by omega]) (by simp [bk_apply,n0]) (by simp [bk_apply,hxl,n1,flCo,flRo]) (lab_crs _ _ _)
   |cons y cs=>
    have fl0:flCo (y::cs)= .own:=rfl
    rw [fl0] at hbx
    have a1:(cs.length+2) * 104≤140737488355328:=by simp at hcl;omega
    have a2:cs.length≤9223372036854775805:=by simp at hcl;omega
    simp only [go_sem,seval,hbx,n0,n1,m0,m1,hxl,hlx']
    refine ⟨?_, ?_, ?_⟩
    iterate 3
     ·skip
      refine ccallD rfl (hC _ (by simp;omega) (by simp [bk_apply,n0,n1,m0,m1,hxl,hlx'])) (by simp only [go_sem,seval]) ?_
      simp only [go_sem,seval,hbx,n0,n1,m0,m1,hxl,hlx',a1,a2]
      have h3:SOk ts (mostS ((rs.length:Nat):Int) 20 at0 s2):=mostS_ok h2
      refine ccall (fx_most (l:=l) (ts:=ts) (s:=s2) (d:=(d:Int)) (by simp;omega) h2 (by simp [bk_apply,n0,n1,m0,m1,hxl,hlx']) ((rs.length:Nat):Int) 20 at0) (by simp only [go_sem,seval]<;>simp) ?_
      unfold itM
      simp only
      generalize mostS ((rs.length:Nat):Int) 20 at0 s2=s3 at *
      have hM4:=fun (H:Hp) (a:l<H.n) (b:H.bk l=rdX ts s3 (d:Int))=>fx_most (h:=H) a h3 b (((y::(cs++ [z])).length:Nat):Int) 30 at0
      generalize mostS (((y::(cs++ [z])).length:Nat):Int) 30 at0 s3=s4 at *
      simp only [go_sem,seval,n0,n1,m0,m1,hxl,hlx']
      refine ccall (hM4 _ (by simp;omega) (by simp [bk_apply,n0,n1,m0,m1,hxl,hlx'])) (by simp only [go_sem,seval]<;>simp) ?_
      simp only [go_sem,seval,n0,n1,m0,m1,hxl,hlx']
      exact shrink_two hlx (by simp) (fun q hq e1 e2=>by simp [bk_apply,e1,e2,show q≠h.n by omega]) (by simp [bk_apply,n0]) (by simp [bk_apply,hxl,n1,flCo,flRo]) (lab_crs _ _ _)
  |true=>
   rw [if_pos (by simp)]
   simp only [go_sem,seval,n0,n1,m0,m1,hxl,hlx']
   have hC:=fun (H:Hp) (a1:l<H.n) (a2:H.bk l=rdX ts s1 (d:Nat))=>fx_rule (h:=H) a1 W h1 hd a2 (T.mk a' b' c' e')
   have h2:=(ruleS_ok W hd (t:=T.mk a' b' c' e') h1).1
   generalize ruleS ts d (T.mk a' b' c' e') s1=R at *
   obtain ⟨z,s2⟩:=R
   simp only [avf_mk] at hC h2 ⊢
   cases rs with
   |nil=>
    have fl0:flRo []= .full:=rfl
    rw [fl0] at hbx
    have a1:1 * 240≤140737488355328:=by omega
    have a2:0≤9223372036854775805:=by omega
    simp only [go_sem,seval,hbx,n0,n1,m0,m1,hxl,hlx']
    refine ⟨?_, ?_, ?_⟩
    iterate 3
     ·skip
      refine ccallD rfl (hC _ (by simp;omega) (by simp [bk_apply,n0,n1,m0,m1,hxl,hlx'])) (by simp only [go_sem,seval]) ?_
      simp only [go_sem,seval,hbx,n0,n1,m0,m1,hxl,hlx',a1,a2]
      have h3:SOk ts (mostS ((([z]:List Ru).length:Nat):Int) 20 at0 s2):=mostS_ok h2
      refine ccall (fx_most (l:=l) (ts:=ts) (s:=s2) (d:=(d:Int)) (by simp;omega) h2 (by simp [bk_apply,n0,n1,m0,m1,hxl,hlx']) ((([z]:List Ru).length:Nat):Int) 20 at0) (by simp only [go_sem,seval]<;>simp) ?_
      unfold itM
      simp only
      generalize mostS ((([z]:List Ru).length:Nat):Int) 20 at0 s2=s3 at *
      have hM4:=fun (H:Hp) (a:l<H.n) (b:H.bk l=rdX ts s3 (d:Int))=>fx_most (h:=H) a h3 b ((cs.length:Nat):Int) 30 at0
      generalize mostS ((cs.length:Nat):Int) 30 at0 s3=s4 at *
      simp only [go_sem,seval,n0,n1,m0,m1,hxl,hlx']
      refine ccall (hM4 _ (by simp;omega) (by simp [bk_apply,n0,n1,m0,m1,hxl,hlx'])) (by simp only [go_sem,seval]<;>simp) ?_
      simp only [go_sem,seval,n0,n1,m0,m1,hxl,hlx']
      exact shrink_two hlx (by simp) (fun q hq e1 e2=>by simp [bk_apply,e1,e2,show q≠h.n by omega]) (by simp [bk_apply,n0]) (by simp [bk_apply,hxl,n1,flCo,flRo]) (lab_crs _ _ _)
   |cons y rs=>
    have fl0:flRo (y::rs)= .own:=rfl
    rw [fl0] at hbx
    have a1:(rs.length+2) * 240≤140737488355328:=by simp at hrl;omega
    have a2:rs.length≤9223372036854775805:=by simp at hrl;omega
    simp only [go_sem,seval,hbx,n0,n1,m0,m1,hxl,hlx']
    refine ⟨?_, ?_, ?_⟩
    iterate 3
     ·skip
      refine ccallD rfl (hC _ (by simp;omega) (by simp [bk_apply,n0,n1,m0,m1,hxl,hlx'])) (by simp only [go_sem,seval]) ?_
      simp only [go_sem,seval,hbx,n0,n1,m0,m1,hxl,hlx',a1,a2]
      have h3:SOk ts (mostS (((y::(rs++ [z])).length:Nat):Int) 20 at0 s2):=mostS_ok h2
      refine ccall (fx_most (l:=l) (ts:=ts) (s:=s2) (d:=(d:Int)) (by simp;omega) h2 (by simp [bk_apply,n0,n1,m0,m1,hxl,hlx']) (((y::(rs++ [z])).length:Nat):Int) 20 at0) (by simp only [go_sem,seval]<;>simp) ?_
      unfold itM
      simp only
      generalize mostS (((y::(rs++ [z])).length:Nat):Int) 20 at0 s2=s3 at *
      have hM4:=fun (H:Hp) (a:l<H.n) (b:H.bk l=rdX ts s3 (d:Int))=>fx_most (h:=H) a h3 b ((cs.length:Nat):Int) 30 at0
      generalize mostS ((cs.length:Nat):Int) 30 at0 s3=s4 at *
      simp only [go_sem,seval,n0,n1,m0,m1,hxl,hlx']
      refine ccall (hM4 _ (by simp;omega) (by simp [bk_apply,n0,n1,m0,m1,hxl,hlx'])) (by simp only [go_sem,seval]<;>simp) ?_
      simp only [go_sem,seval,n0,n1,m0,m1,hxl,hlx']
      exact shrink_two hlx (by simp) (fun q hq e1 e2=>by simp [bk_apply,e1,e2,show q≠h.n by omega]) (by simp [bk_apply,n0]) (by simp [bk_apply,hxl,n1,flCo,flRo]) (lab_crs _ _ _)
end Go.Proofs.YtnibelnjflhkgaaGreatDoor.Ab
namespace Go.Proofs.YtnibelnjflhkgaaGreatDoor.Ab
set_option linter.unusedVariables false
set_option linter.unusedSimpArgs false
set_option maxRecDepth 10000
theorem c16:compF Tryz.prog ow Tryz.f16=(some (29,([(.c 2 (.agg 2)),(.t 3),(.t 4)],(.seq (.ops [(none,(.alloc 2 [(.sl .full 6 []),(.sl .full 16 [])])),(none,(.set 3 (.int .i64 0))),(none,(.set 4 (.int .i64 0)))]) (.seq (.ops [(none,(.cp 6 0)),(none,(.call (some 7) (.k (.func 46 [] [])) [(.t 6)] none)),(none,(.mv 5 7))]) (.seq (.block 0 (.loop (.seq (.seq (.ops [(none,(.cp 8 5)),(none,(.call (some 9) (.k (.func 47 [] [])) [(.t 8)] none)),(none,(.cp 10 9)),((some (10,true)),(.cp 11 5)),((some (10,true)),(.call (some 12) (.k (.func 48 [] [])) [(.t 11)] none)),((some (10,true)),(.fld (some 13) (.t 12) 0 (.one none))),((some (10,true)),(.bin (some 14) .neq (.t 13) (.k (.int .i64 5)) false false)),(none,(.pick (some 15) (.t 10) (.t 14) (.k (.bool false))))]) (.cond (.t 15) .skip (.exit 0))) (.block 1 (.ops [(none,(.cp 16 5)),(none,(.call (some 17) (.k (.func 49 [] [])) [(.t 16),(.t 2)] none))]))))) (.seq (.seq (.ops [(none,(.cp 19 5)),(none,(.call (some 20) (.k (.func 50 [] [])) [(.t 19)] none)),(none,(.cp 18 20)),(none,(.ext (some 21) (.t 18) 0)),(none,(.ext (some 22) (.t 18) 1)),(none,(.mv 3 21)),(none,(.mv 4 22))]) (.seq (.ops [(none,(.cp 23 4)),(none,(.bin (some 24) .neq (.t 23) (.k (.int .i64 0)) false false))]) (.cond (.t 24) (.seq (.ops [(none,(.bld (some 25) [(.sl .full 6 []),(.sl .full 16 [])] [(0,1),(1,1)] [])),(none,(.mv 26 3)),(none,(.mv 27 4)),(none,(.st (.t 2) (.t 25) 2)),(none,(.mv 3 26)),(none,(.mv 4 27))]) .ret) .skip))) (.seq (.ops [(none,(.ld (some 28) (.t 2) (.agg 2))),(none,(.st (.t 2) (.t 28) 2)),(none,(.set 3 (.int .i64 0))),(none,(.set 4 (.int .i64 0)))]) .ret)))))))):=by kernel_rfl
theorem needS_lt {ts:List Tk} {c:List UInt8} {s:St} (h:(needS ts c s).er=none):s.i<(needS ts c s).i:=by
 obtain ⟨i,er⟩:=s
 cases er with
 |some e=>simp [needS] at h
 |none=>
  unfold needS at h ⊢
  simp only at h ⊢
  split at h
  ·rename_i e;rw [if_pos e];simp
  ·simp at h
theorem clauseS_lt {ts:List Tk} (W:Wds ts) {d:Nat} {t:T} {s:St} (hs:SOk ts s) (h:(clauseS ts d t s).2.er=none):s.i<(clauseS ts d t s).2.i:=by
 have h1:=goS_ok (c:= [58,45]) W.Nx hs
 have h2:=goS_i ts [58,45] s
 obtain ⟨k1,k2⟩:=clL_ok W d ts.length (takeS ts [58,45] s) [] [] _ h1
 have k3:=needS_lt (ts:=ts) (c:= [46]) (s:=(clL ts d ts.length (takeS ts [58,45] s) [] [] (goS ts [58,45] s)).2.2) h
 unfold clauseS;simp only;omega
theorem ruleS_lt {ts:List Tk} (W:Wds ts) {d:Nat} (hd:d≤100) {t:T} {s:St} (hs:SOk ts s) (h:(ruleS ts d t s).2.er=none):s.i<(ruleS ts d t s).2.i:=by
 have h1:=needS_ok (c:= [60,45]) W.Nx hs
 have h2:=needS_i ts [60,45] s
 obtain ⟨k1,k2⟩:=(patN_all W 101 d hd (by omega)).1 _ h1
 obtain ⟨k3,k4⟩:=ruM_ok W k1
 obtain ⟨k5,k6⟩:=ruN_ok W k3
 obtain ⟨k7,k8⟩:=ruG_ok (d:=d) W k5
 obtain ⟨k9,k10⟩:=ruP_ok W k7
 have k12:=needS_lt (ts:=ts) (c:= [46]) (askS_st h)
 unfold ruleS ruE
 simp only [askS_i]
 omega
theorem itemS_lt {ts:List Tk} (W:Wds ts) {d:Nat} (hd:d≤100) {cs:List Cl} {rs:List Ru} {s:St} (hs:SOk ts s) (h:(itemS ts d cs rs s).2.2.er=none):s.i<(itemS ts d cs rs s).2.2.i:=by
 have h1:(itB ts d cs rs s).2.2.er=none:=mostS_st (mostS_st h)
 have h2:=tmS_ok (d:=d) W hs
 have h3:=tmS_i ts d s
 unfold itemS;simp only;rw [itM_i]
 unfold itB at h1 ⊢
 split at h1
 ·rename_i e;rw [if_pos e];have:=ruleS_lt W hd (t:=(tmS ts d s).1) h2 h1;simp only;omega
 ·rename_i e;rw [if_neg e];have:=clauseS_lt W (t:=(tmS ts d s).1) h2 h1;simp only;omega
theorem itemS_len (ts:List Tk) (d:Nat) (cs:List Cl) (rs:List Ru) (s:St):(itemS ts d cs rs s).1.length≤cs.length+1∧(itemS ts d cs rs s).2.1.length≤rs.length+1:=by
 unfold itemS itB;simp only;split<;>simp
def prL (ts:List Tk) (d:Nat):Nat→List Cl→List Ru→St→List Cl×List Ru×St
 |0,cs,rs,s=>(cs,rs,s)
 |m+1,cs,rs,s=>if (s.er.isNone&&(tkS ts s).k !=5)=true then prL ts d m (itemS ts d cs rs s).1 (itemS ts d cs rs s).2.1 (itemS ts d cs rs s).2.2 else (cs,rs,s)
structure Pr where
 c:List Cl
 r:List Ru
def Pr.avf (p:Pr):AV:= .agg [.sl (flC p.c) 6 (p.c.map Cl.avf), .sl (flR p.r) 16 (p.r.map Ru.avf)]
def rdPO (x:List Cl×List Ru×St) (er:Er):Pr×Nat×Int:=match er with|some e=>(⟨[], []⟩,e.2,e.1)|none=>(⟨x.1,x.2.1⟩,0,0)
def rdP (s:List UInt8):Pr×Nat×Int:=
 if (toks s).2.2=0 then rdPO (prL (toks s).1 0 (toks s).1.length [] [] ⟨0,none⟩) (endG (prL (toks s).1 0 (toks s).1.length [] [] ⟨0,none⟩).2.2.er ((toks s).1.drop (prL (toks s).1 0 (toks s).1.length [] [] ⟨0,none⟩).2.2.i))
 else (⟨[], []⟩,(toks s).2.1,(toks s).2.2)
theorem prL_ok {ts:List Tk} (W:Wds ts) {d:Nat} (hd:d≤100): ∀(m:Nat) (cs:List Cl) (rs:List Ru) (s:St),SOk ts s→SOk ts (prL ts d m cs rs s).2.2
 |0,cs,rs,s,h=>h
 |m+1,cs,rs,s,h=>by
  rw [prL];split
  ·exact prL_ok W hd m _ _ _ (itemS_ok W hd h).1
  ·exact h
theorem lab_pr (n:Nat) (p:Pr):labOK n p.avf=true:=by
 have h1:labL n (p.c.map Cl.avf)=true:=labL_all.2 fun a ha=>by obtain ⟨p,_,rfl⟩:=List.mem_map.1 ha;exact lab_cl n p
 have h2:labL n (p.r.map Ru.avf)=true:=labL_all.2 fun a ha=>by obtain ⟨p,_,rfl⟩:=List.mem_map.1 ha;exact lab_ru n p
 simp [Pr.avf,labL,labOK,h1,h2]
set_option maxHeartbeats 4000000 in
theorem fnl_readProgram (s:List UInt8) (hs:s.length<1000000000000000):PFn Tryz.prog 16 [.str s] (.tup [(rdP s).1.avf, .int .i64 ((rdP s).2.1:Nat), .int .i64 (rdP s).2.2]):=by
 intro h
 have n0: ¬h.n=h.n+1:=by omega
 have n1: ¬h.n+1=h.n:=by omega
 unfold rdP
 refine fnC mixed Tryz.func16 c16 (by simp) ?_
 simp only [go_sem,seval]
 refine ccall (fnl_begun s hs _) (by simp only [go_sem,seval]) ?_
 by_cases hc:(toks s).2.2=0
 ·rw [if_pos hc,show bgT s=(toks s).1 from if_pos hc,show bgE s=none from if_pos hc]
  obtain ⟨W,hl⟩:=toks_wds hc
  generalize (toks s).1=ts at *
  have hp:=W.pos
  simp only [go_sem,seval]
  have hk0:=prL_ok W (by omega:0≤100) ts.length [] [] ⟨0,none⟩ ⟨hp,fun e he=>by cases he⟩
  generalize hG:prL ts 0 ts.length [] [] ⟨0,none⟩=G
  rw [hG] at hk0
  refine cloop (fun m u=> ∃(cs:List Cl) (rs:List Ru) (s:St),SOk ts s∧(s.er=none→ts.length≤m+s.i∧cs.length≤s.i∧rs.length≤s.i)∧u.fr 2= .ptr h.n 0∧u.fr 5= .ptr (h.n+1) 0∧h.n+2≤u.hp.n∧u.hp.bk (h.n+1)=rdX ts s ((0:Nat):Int)∧
   u.hp.bk h.n= .cells [.sl (flCo cs) 6 (cs.map Cl.avf), .sl (flRo rs) 16 (rs.map Ru.avf)]∧(∀q,q<h.n→u.hp.bk q=h.bk q)∧prL ts 0 m cs rs s=G) ts.length
   ⟨[], [],⟨0,none⟩,⟨hp,fun e he=>by cases he⟩,fun _=>⟨by simp,by simp,by simp⟩,by simp [fr_apply,argsF],by simp [fr_apply,argsF],by simp,by simp [bk_apply,rdX,rdC,erE,erP],by simp [bk_apply,n0,flCo,flRo],fun q hq=>by simp [bk_apply,show q≠h.n by omega,show q≠h.n+1 by omega],hG⟩ ?_
  clear hG
  rintro m ⟨F,hp⟩ ⟨cs,rs,s,hs,hm,f2,f5,hn,hb1,hb2,hbo,hG⟩
  simp only at f2 f5 hn hb1 hb2 hbo
  have hi:=hs.1
  simp only [go_sem,seval,f2,f5]
  refine ccall (fx_ok (l:=h.n+1) (ts:=ts) (s:=s) (d:=((0:Nat):Int)) (by simp only;omega) hs (by simp only;exact hb1)) (by simp only [go_sem,seval,f5]) ?_
  cases hno:s.er.isNone with
  |false=>
   have hG' :(cs,rs,s)=G:=by rw [←hG];cases m with|zero=>rfl|succ m=>rw [prL,if_neg (by simp [hno])]
   simp only [go_sem,seval,f2,f5]
   subst hG'
   refine ccall (fnl_rended _ (h.n+1) (by simp;omega) ts s.i ((0:Nat):Int) 0 s.er hs.2 _ (tkS_get hs) (by simp [hb1,rdX])) (by simp only [go_sem,seval,f5]) ?_
   simp only
   cases he:endG s.er (ts.drop s.i) with
   |some e=>
    have he0:(erE (some e) !=0)=true:=by simpa [erE] using endG_ne hs.2 e he
    simp only [go_sem,seval,he0,n0,n1,f2,f5,hb2]
    exact ⟨rfl,lab_pr _ _,shrink_oldq (by simp only;omega) hbo⟩
   |none=>
    simp only [go_sem,seval,n0,n1,show (erE none !=0)=false from rfl,f2,f5,hb2]
    exact ⟨rfl,lab_pr _ _,shrink_oldq (by simp only;omega) hbo⟩
  |true=>
   have hse:s.er=none:=by simpa using hno
   obtain ⟨hm1,hm2,hm3⟩:=hm hse
   obtain ⟨m,rfl⟩: ∃m',m=m' +1:=⟨m-1,by omega⟩
   rw [prL] at hG
   have hT:=fx_token (h:=hp) (l:=h.n+1) (ts:=ts) (s:=s) (d:=((0:Nat):Int)) (by omega) hs hb1
   cases hk5:((tkS ts s).k !=5) with
   |false=>
    rw [hno,hk5,if_neg (by simp)] at hG
    have hG' :=hG
    simp only [go_sem,seval,f2,f5]
    refine ccall hT (by simp only [go_sem,seval,f5]) ?_
    simp only [go_sem,seval,f2,f5,hk5]
    subst hG'
    refine ccall (fnl_rended _ (h.n+1) (by simp;omega) ts s.i ((0:Nat):Int) 0 s.er hs.2 _ (tkS_get hs) (by simp [hb1,rdX])) (by simp only [go_sem,seval,f5]) ?_
    simp only
    cases he:endG s.er (ts.drop s.i) with
    |some e=>
     have he0:(erE (some e) !=0)=true:=by simpa [erE] using endG_ne hs.2 e he
     simp only [go_sem,seval,he0,n0,n1,f2,f5,hb2]
     exact ⟨rfl,lab_pr _ _,shrink_oldq (by simp only;omega) hbo⟩
    |none=>
     simp only [go_sem,seval,n0,n1,show (erE none !=0)=false from rfl,f2,f5,hb2]
     exact ⟨rfl,lab_pr _ _,shrink_oldq (by simp only;omega) hbo⟩
   |true=>
    rw [hno,hk5,if_pos (show (true&&true)=true from rfl)] at hG
    simp only [go_sem,seval,f2,f5]
    refine ccall hT (by simp only [go_sem,seval,f5]) ?_
    simp only [go_sem,seval,f2,f5,hk5]
    have hL:=W.len
    refine ccall (fx_item (l:=h.n+1) (x:=h.n) (ts:=ts) (s:=s) (by simp;omega) (by simp;omega) (by omega) W hs (d:=0) (by omega) (by simp [hb1]) cs rs (by omega) (by omega) (by simp [hb2])) (by simp only [go_sem,seval,f2,f5]) ?_
    simp only [go_sem,seval,f2,f5]
    obtain ⟨k1,k2⟩:=itemS_len ts 0 cs rs s
    have k3:=(itemS_ok W (by omega:0≤100) (cs:=cs) (rs:=rs) hs).1
    have k4:=fun e=>itemS_lt W (by omega:0≤100) (cs:=cs) (rs:=rs) hs e
    exact ⟨m,by omega,(itemS ts 0 cs rs s).1,(itemS ts 0 cs rs s).2.1,(itemS ts 0 cs rs s).2.2,k3,fun e=>by have:=k4 e;exact ⟨by omega,by omega,by omega⟩,by omega,rfl,rfl,fun q hq=>by simp [show q≠h.n by omega,show q≠h.n+1 by omega];exact hbo q hq,hG⟩
 ·rw [if_neg hc,show bgT s= [⟨5, [],0,0⟩] from if_neg hc,show bgE s=some ((toks s).2.2,(toks s).2.1) from if_neg hc]
  have he0:(erE (some ((toks s).2.2,(toks s).2.1))==0)=false:=by simpa [erE] using hc
  have he1:((toks s).2.2 !=0)=true:=by simpa using hc
  simp only [go_sem,seval]
  refine cloop (fun m u=>m=0∧u.fr 2= .ptr h.n 0∧u.fr 5= .ptr (h.n+1) 0∧h.n+2≤u.hp.n∧u.hp.bk h.n= .cells [.sl .full 6 [], .sl .full 16 []]∧u.hp.bk (h.n+1)=rdC .sh [⟨5, [],0,0⟩] 0 ((0:Nat):Int) (erP 0 (some ((toks s).2.2,(toks s).2.1))) (erE (some ((toks s).2.2,(toks s).2.1)))∧(∀q,q<h.n→u.hp.bk q=h.bk q)) 0
   ⟨rfl,by simp [fr_apply,argsF],by simp [fr_apply,argsF],by simp,by simp [bk_apply,n0],by simp [bk_apply,rdC],fun q hq=>by simp [bk_apply,show q≠h.n by omega,show q≠h.n+1 by omega]⟩ ?_
  rintro m ⟨F,hp⟩ ⟨rfl,f2,f5,hn,hb2,hb1,hbo⟩
  simp only at f2 f5 hn hb1 hb2 hbo
  simp only [go_sem,seval,f2,f5]
  refine ccall (fnu_ok _ (h.n+1) (by simp;omega) [⟨5, [],0,0⟩] 0 ((0:Nat):Int) (erP 0 (some ((toks s).2.2,(toks s).2.1))) (erE (some ((toks s).2.2,(toks s).2.1))) hb1) (by simp only [go_sem,seval,f5]) ?_
  rw [he0]
  simp only [go_sem,seval,f2,f5]
  refine ccall (fnl_rended _ (h.n+1) (by simp;omega) [⟨5, [],0,0⟩] 0 ((0:Nat):Int) 0 (some ((toks s).2.2,(toks s).2.1)) (fun e he=>by cases he;exact hc) ⟨5, [],0,0⟩ rfl (by simp [hb1])) (by simp only [go_sem,seval,f5]) ?_
  rw [show List.drop 0 [(⟨5, [],0,0⟩:Tk)]= [⟨5, [],0,0⟩] from rfl,show endG (some ((toks s).2.2,(toks s).2.1)) [⟨5, [],0,0⟩]=some ((toks s).2.2,(toks s).2.1) from rfl]
  have he2:(erE (some ((toks s).2.2,(toks s).2.1)) !=0)=true:=by simpa [erE] using hc
  simp only [go_sem,seval,he2,n0,n1,f2,f5,hb2]
  exact ⟨rfl,lab_pr _ ⟨[], []⟩,shrink_oldq (by simp only;omega) hbo⟩
end Go.Proofs.YtnibelnjflhkgaaGreatDoor.Ab
namespace Go.Proofs.YtnibelnjflhkgaaGreatDoor.Ab
set_option linter.unusedVariables false
set_option linter.unusedSimpArgs false
set_option maxRecDepth 100000
theorem c20:compF Tryz.prog ow Tryz.f20=(some (35,([(.t 0)],(.seq (.ops [(none,(.set 0 (.bool false)))]) (.seq (.ops [(none,(.call (some 5) (.k (.func 16 [] [])) [(.k (.str [97,32,60,45,32,98,32,59,32,99,44,32,119,105,116,104,105,110,32,53,46]))] none)),(none,(.cp 4 5)),(none,(.ext (some 6) (.t 4) 0)),(none,(.ext (some 7) (.t 4) 1)),(none,(.ext (some 8) (.t 4) 2)),(none,(.alloc 1 [(.sl .full 6 []),(.sl .full 16 [])])),(none,(.st (.t 1) (.t 6) 2)),(none,(.mv 2 7)),(none,(.mv 3 8))]) (.seq (.ops [(none,(.cp 9 3)),(none,(.call (some 10) (.k (.func 18 [] [])) [(.t 9)] none)),(none,(.bin (some 11) .eql (.t 10) (.k (.int .i64 0)) false false)),(none,(.cp 12 11)),((some (12,true)),(.fa (some 13) (.t 1) 1)),((some (12,true)),(.ld (some 14) (.t 13) (.one (some 16)))),((some (12,true)),(.len (some 15) (.t 14) false true)),((some (12,true)),(.bin (some 16) .eql (.t 15) (.k (.int .i64 1)) false false)),(none,(.pick (some 17) (.t 12) (.t 16) (.k (.bool false)))),(none,(.cp 18 17)),((some (18,true)),(.fa (some 19) (.t 1) 1)),((some (18,true)),(.ld (some 20) (.t 19) (.one (some 16)))),((some (18,true)),(.ia (some 21) (.t 20) (.k (.int .i64 0)) (some 16) none)),((some (18,true)),(.fa (some 22) (.t 21) 14)),((some (18,true)),(.ld (some 23) (.t 22) (.one none))),((some (18,true)),(.bin (some 24) .eql (.t 23) (.k (.int .i64 5)) false false)),(none,(.pick (some 25) (.t 18) (.t 24) (.k (.bool false)))),(none,(.cp 26 25)),((some (26,true)),(.fa (some 27) (.t 1) 1)),((some (26,true)),(.ld (some 28) (.t 27) (.one (some 16)))),((some (26,true)),(.ia (some 29) (.t 28) (.k (.int .i64 0)) (some 16) none)),((some (26,true)),(.fa (some 30) (.t 29) 4)),((some (26,true)),(.fa (some 31) (.t 30) 0)),((some (26,true)),(.ld (some 32) (.t 31) (.one none))),((some (26,true)),(.bin (some 33) .eql (.t 32) (.k (.int .i64 2)) false false)),(none,(.pick (some 34) (.t 26) (.t 33) (.k (.bool false)))),(none,(.mv 0 34))]) .ret)))))):=by kernel_rfl
theorem shrink_old {h hp:Hp} (h1:h.n≤hp.n) (h2: ∀q,q<h.n→hp.bk q=h.bk q):Shrink h hp h:=⟨Nat.le_refl _,h1,fun k hk=>⟨(h2 k hk).symm, .inl ⟨hk,h2 k hk⟩⟩⟩
def wkS:List UInt8:= [97,32,60,45,32,98,32,59,32,99,44,32,119,105,116,104,105,110,32,53,46]
def wkT (c:UInt8):T:= .mk 3 [c] 0 []
def wkP:Pr×Nat×Int:=(⟨[], [⟨wkT 97, .mk 2 zT 0 [.mk 1 (wkT 98) 0 [] [] []] [.mk 1 (wkT 99) 0 [] [] []] [], [],5,0⟩]⟩,0,0)
theorem wk_rd:rdP wkS=wkP:=by kernel_rfl
theorem fn5_wakes:PFn Tryz.prog 20 [] (.bool true):=by
 intro h
 have hR:PFn Tryz.prog 16 [.str [97,32,60,45,32,98,32,59,32,99,44,32,119,105,116,104,105,110,32,53,46]] (.tup [.agg [.sl .full 6 [], .sl .sh 16 [.agg [.int .i64 3, .str [97], .int .i64 0, .sl .full 4 [], .int .i64 2, .int .i64 0, .str [], .int .i64 0, .sl .full 4 [], .int .i64 0, .sl .sh 9 [(Pn.mk 1 (wkT 98) 0 [] [] []).avf], .sl .sh 9 [(Pn.mk 1 (wkT 99) 0 [] [] []).avf], .sl .full 9 [], .sl .full 9 [], .int .i64 5, .int .i64 0]]], .int .i64 0, .int .i64 0]):=by
  have:=fnl_readProgram wkS (by decide)
  rw [wk_rd] at this
  exact this
 generalize (Pn.mk 1 (wkT 98) 0 [] [] []).avf=u1 at hR
 generalize (Pn.mk 1 (wkT 99) 0 [] [] []).avf=u2 at hR
 have hN:=fn5_num 0
 refine fnC mixed Tryz.func20 c20 (by simp) ?_
 simp only [go_sem,seval]
 refine pcall hR (by simp only [go_sem,seval]) ?_
 simp only [go_sem,seval]
 refine pcall hN (by simp only [go_sem,seval]) ?_
 simp only [go_sem,seval]
end Go.Proofs.YtnibelnjflhkgaaGreatDoor.Ab

/- Words of a text: the document's way; small functions, inner loops. No condition. Words of a text: the document's inner loops. No condition. Words of a text: the document's digits and marks. No condition. Words of a text: the document's marks. No condition. Words of a text: all of them, the document's way. No condition. -/
import Derived.Test.YtnibelnjflhkgaaGreatDoorLxB
namespace Go.Proofs.YtnibelnjflhkgaaGreatDoor.Ab
set_option linter.unusedVariables false
set_option linter.unusedSimpArgs false
set_option maxRecDepth 10000
theorem c151:compF Tryz.prog ow Tryz.f151=(some (9,([(.t 2)],(.seq (.ops [(none,(.set 2 (.bool false)))]) (.seq (.ops [(none,(.cp 3 0)),(none,(.bin (some 4) .geq (.t 3) (.k (.int .u8 48)) false false)),(none,(.cp 5 4)),((some (5,true)),(.cp 6 0)),((some (5,true)),(.bin (some 7) .leq (.t 6) (.k (.int .u8 57)) false false)),(none,(.pick (some 8) (.t 5) (.t 7) (.k (.bool false)))),(none,(.mv 2 8))]) .ret))))):=by kernel_rfl
theorem c150:compF Tryz.prog ow Tryz.f150=(some (25,([(.t 2)],(.seq (.ops [(none,(.set 2 (.bool false)))]) (.seq (.ops [(none,(.cp 3 0)),(none,(.bin (some 4) .geq (.t 3) (.k (.int .u8 97)) false false)),(none,(.cp 5 4)),((some (5,true)),(.cp 6 0)),((some (5,true)),(.bin (some 7) .leq (.t 6) (.k (.int .u8 122)) false false)),(none,(.pick (some 8) (.t 5) (.t 7) (.k (.bool false)))),(none,(.cp 9 8)),((some (9,false)),(.cp 10 0)),((some (9,false)),(.bin (some 11) .geq (.t 10) (.k (.int .u8 65)) false false)),((some (9,false)),(.cp 12 11)),((some (12,true)),(.cp 13 0)),((some (12,true)),(.bin (some 14) .leq (.t 13) (.k (.int .u8 90)) false false)),((some (9,false)),(.pick (some 15) (.t 12) (.t 14) (.k (.bool false)))),(none,(.pick (some 16) (.t 9) (.k (.bool true)) (.t 15))),(none,(.cp 17 16)),((some (17,false)),(.cp 18 0)),((some (17,false)),(.call (some 19) (.k (.func 151 [] [])) [(.t 18)] none)),(none,(.pick (some 20) (.t 17) (.k (.bool true)) (.t 19))),(none,(.cp 21 20)),((some (21,false)),(.cp 22 0)),((some (21,false)),(.bin (some 23) .eql (.t 22) (.k (.int .u8 95)) false false)),(none,(.pick (some 24) (.t 21) (.k (.bool true)) (.t 23))),(none,(.mv 2 24))]) .ret))))):=by kernel_rfl
theorem fnr_digit (c:Int):PFn Tryz.prog 151 [.int .u8 c] (.bool (inR 48 57 c)):=by
 intro h
 refine fnC mixed Tryz.func151 c151 (by simp) ?_
 unfold inR
 simp only [go_sem,seval]
 refine cog (fun h1=> ?_) (fun h1=> ?_)
 ·simp only [go_sem,seval,h1]
 ·simp only [go_sem,seval,h1]
theorem fnr_letter (c:UInt8):PFn Tryz.prog 150 [.int .u8 (c.toNat:Nat)] (.bool (innB c)):=by
 intro h
 have e:(((c.toNat:Nat):Int)==95)=(c==95):=u8_eqb c 95 (by omega)
 have hD:=fnr_digit (c.toNat:Nat)
 unfold innB smaB greB digB
 generalize inR 48 57 (c.toNat:Nat)=b3 at *
 unfold inR
 refine fnC mixed Tryz.func150 c150 (by simp) ?_
 simp only [go_sem,seval]
 cases h1:decide ((c.toNat:Int)≥97) with
 |true=>
  simp only [go_sem,seval,h1]
  cases h2:decide ((c.toNat:Int)≤122) with
  |true=>simp only [go_sem,seval,h2,Bool.true_or]
  |false=>
   have g:decide ((c.toNat:Int)≤90)=false:=by simp at h1 h2 ⊢;omega
   have g2:decide ((c.toNat:Int)≥65)=true:=by simp at h1 h2 ⊢;omega
   simp only [go_sem,seval,h2,g,g2,Bool.false_or]
   refine pcall hD (by simp only [go_sem,seval]) ?_
   cases b3 with
   |true=>simp only [go_sem,seval,Bool.true_or]
   |false=>simp only [go_sem,seval,e,Bool.false_or]
 |false=>
  simp only [go_sem,seval,h1,Bool.false_or]
  cases h2:decide ((c.toNat:Int)≥65) with
  |true=>
   simp only [go_sem,seval,h2]
   cases h3:decide ((c.toNat:Int)≤90) with
   |true=>simp only [go_sem,seval,h3,Bool.true_or]
   |false=>
    simp only [go_sem,seval,h3,Bool.false_or]
    refine pcall hD (by simp only [go_sem,seval]) ?_
    cases b3 with
    |true=>simp only [go_sem,seval,Bool.true_or]
    |false=>simp only [go_sem,seval,e,Bool.false_or]
  |false=>
   simp only [go_sem,seval,h2,Bool.false_or]
   refine pcall hD (by simp only [go_sem,seval]) ?_
   cases b3 with
   |true=>simp only [go_sem,seval,Bool.true_or]
   |false=>simp only [go_sem,seval,e,Bool.false_or]
def marksR:List (List UInt8):= [[58,45], [60,45], [61,60], [92,61], [92,43], [40], [41], [44], [46], [59], [60], [61], [38], [124], [64]]
theorem pre_1 (a c:UInt8) (r:List UInt8): [a].isPrefixOf (c::r)=(a==c):=by simp [List.isPrefixOf]
theorem pre_2 (a b c:UInt8) (r:List UInt8): [a,b].isPrefixOf (c::r)=(a==c&& [b].isPrefixOf r):=by simp [List.isPrefixOf]
theorem marks_same (s:List UInt8):marksR.find? (·.isPrefixOf s)=marksL.find? (·.isPrefixOf s):=by
 cases s with
 |nil=>rfl
 |cons c r=>
  unfold marksR marksL
  simp only [List.find?_cons,pre_1,pre_2,List.find?_nil]
  generalize [45].isPrefixOf r=x1
  generalize [60].isPrefixOf r=x2
  generalize [61].isPrefixOf r=x3
  generalize [43].isPrefixOf r=x4
  by_cases c1:c=58
  ·subst c1;cases x1<;>rfl
  by_cases c2:c=60
  ·subst c2;cases x1<;>rfl
  by_cases c3:c=61
  ·subst c3;cases x2<;>rfl
  by_cases c4:c=92
  ·subst c4;cases x3<;>cases x4<;>rfl
  have e1:(58==c)=false:=by simpa using fun h=>c1 h.symm
  have e2:(60==c)=false:=by simpa using fun h=>c2 h.symm
  have e3:(61==c)=false:=by simpa using fun h=>c3 h.symm
  have e4:(92==c)=false:=by simpa using fun h=>c4 h.symm
  simp only [e1,e2,e3,e4,Bool.false_and]
theorem toksF_skip (f p n:Nat) (s:List UInt8) (acc:List Tk) (h:skipN false s=n+skipN false (s.drop n)):toksF (f+1) p s acc=toksF (f+1) (p+n) (s.drop n) acc:=by
 rw [toksF_succ,toksF_succ,h,List.drop_drop]
 congr 1
 omega
theorem skip_bla {c:UInt8} {r:List UInt8} (h:blaB c=true):skipN false (c::r)=1+skipN false ((c::r).drop 1):=by rw [skipN,if_pos h];simp;omega
theorem skip_rem {r:List UInt8} :skipN false (37::r)=spanN (fun c=>c !=10) (37::r)+skipN false ((37::r).drop (spanN (fun c=>c !=10) (37::r))):=by
 have e:spanN (fun c=>c !=10) (37::r)=spanN (fun c=>c !=10) r+1:=by rw [spanN];rfl
 rw [e,List.drop_succ_cons,skipN,if_neg (by decide),if_pos rfl,skipN_rem];omega
theorem toksF_tok (f p:Nat) (c:UInt8) (r:List UInt8) (acc:List Tk) (h1:blaB c=false) (h2:c≠37):toksF (f+1) p (c::r) acc=toksG f p (c::r) acc:=by
 rw [toksF_succ]
 have:skipN false (c::r)=0:=by rw [skipN,if_neg (by rw [h1];simp),if_neg h2]
 rw [this];rfl
end Go.Proofs.YtnibelnjflhkgaaGreatDoor.Ab
namespace Go.Proofs.YtnibelnjflhkgaaGreatDoor.Ab
set_option linter.unusedVariables false
set_option linter.unusedSimpArgs false
set_option maxRecDepth 10000
theorem fnr_l2 {Q:AX→ASt→Prop} {s0:ASt} (s:List UInt8) (hs:s.length<1000000000) (p:Nat) (hp:p≤s.length) (v5 v6:AV) (h0:s0.fr 0= .str s) (h5:s0.fr 5=v5) (h6:s0.fr 6=v6) (h7:s0.fr 7= .int .i64 (p:Nat))
  (hQ: ∀t:ASt,t.hp=s0.hp→t.fr 0= .str s→t.fr 5=v5→t.fr 6=v6→t.fr 7= .int .i64 ((p+spanN (fun c=>c !=10) (s.drop p):Nat):Int)→Q (.exit 2) t):CLoop Tryz.prog ((.seq (.seq (.ops [(none,(.cp 43 7)),(none,(.cp 44 0)),(none,(.len (some 45) (.t 44) true false)),(none,(.bin (some 46) .lss (.t 43) (.t 45) false false)),(none,(.cp 47 46)),((some (47,true)),(.cp 48 0)),((some (47,true)),(.cp 49 7)),((some (47,true)),(.idx (some 50) (.t 48) (.t 49) true none)),((some (47,true)),(.bin (some 51) .neq (.t 50) (.k (.int .u8 10)) false false)),(none,(.pick (some 52) (.t 47) (.t 51) (.k (.bool false))))]) (.cond (.t 52) .skip (.exit 2))) (.block 3 (.ops [(none,(.cp 53 7)),(none,(.bin (some 54) .add (.t 53) (.k (.int .i64 1)) false false)),(none,(.mv 7 54))])))) Q s0:=by
 refine cloop (fun k t=> ∃i:Nat,i+k=s.length∧t.fr 0= .str s∧t.fr 5=v5∧t.fr 6=v6∧t.fr 7= .int .i64 (i:Nat)∧i+spanN (fun c=>c !=10) (s.drop i)=p+spanN (fun c=>c !=10) (s.drop p)∧t.hp=s0.hp) (s.length-p) ⟨p,by omega,h0,h5,h6,h7,rfl,rfl⟩ ?_
 clear h0 h5 h6 h7
 rintro k ⟨F,hp'⟩ ⟨i,hk,f0,f5,f6,f7,he,rfl⟩
 simp only at f0 f5 f6 f7
 by_cases hi:i<s.length
 ·have hi' :decide ((i:Int)<(s.length:Int))=true:=decide_eq_true (by omega)
  have hw:IntKind.i64.wrap ((i:Int)+1)=((i+1:Nat):Int):=by rw [wrap64]<;>omega
  have hx:s[i]? =some s[i]:=List.getElem?_eq_getElem hi
  rw [drop_cons hi,spanN] at he
  generalize s[i]=c at hx he
  have e:(((c.toNat:Nat):Int) !=10)=(c !=10):=congrArg Bool.not (u8_eqb c 10 (by omega))
  cases hc:(c !=10) with
  |true=>
   rw [hc] at e
   rw [hc,if_pos rfl] at he
   simp only [go_sem,seval,f0,f5,f6,f7,hi',hx,e,hw]
   exact ⟨k-1,by omega,i+1,by omega,rfl,by omega⟩
  |false=>
   rw [hc] at e
   rw [hc,if_neg (by simp)] at he
   simp only [go_sem,seval,f0,f5,f6,f7,hi',hx,e]
   exact hQ ⟨_,_⟩ rfl (by simp [fr_apply,f0]) (by simp [fr_apply,f5]) (by simp [fr_apply,f6]) (by simp [fr_apply,f7];omega)
 ·have hi' :decide ((i:Int)<(s.length:Int))=false:=decide_eq_false (by omega)
  rw [List.drop_eq_nil_of_le (by omega),spanN] at he
  simp only [go_sem,seval,f0,f5,f6,f7,hi']
  exact hQ ⟨_,_⟩ rfl (by simp [fr_apply,f0]) (by simp [fr_apply,f5]) (by simp [fr_apply,f6]) (by simp [fr_apply,f7];omega)
theorem fnr_l7 {Q:AX→ASt→Prop} {s0:ASt} (s:List UInt8) (hs:s.length<1000000000) (p:Nat) (hp:p≤s.length) (v5 v6 v7 v8 v10:AV) (h0:s0.fr 0= .str s) (h5:s0.fr 5=v5) (h6:s0.fr 6=v6) (h7:s0.fr 7=v7) (h8:s0.fr 8=v8) (h10:s0.fr 10=v10) (h9:s0.fr 9= .int .i64 (p:Nat))
  (hQ: ∀t:ASt,t.hp=s0.hp→t.fr 0= .str s→t.fr 5=v5→t.fr 6=v6→t.fr 7=v7→t.fr 8=v8→t.fr 10=v10→t.fr 9= .int .i64 ((p+spanN innB (s.drop p):Nat):Int)→Q (.exit 7) t):CLoop Tryz.prog ((.seq (.seq (.ops [(none,(.cp 118 9)),(none,(.cp 119 0)),(none,(.len (some 120) (.t 119) true false)),(none,(.bin (some 121) .lss (.t 118) (.t 120) false false)),(none,(.cp 122 121)),((some (122,true)),(.cp 123 0)),((some (122,true)),(.cp 124 9)),((some (122,true)),(.idx (some 125) (.t 123) (.t 124) true none)),((some (122,true)),(.call (some 126) (.k (.func 150 [] [])) [(.t 125)] none)),(none,(.pick (some 127) (.t 122) (.t 126) (.k (.bool false))))]) (.cond (.t 127) .skip (.exit 7))) (.block 8 (.ops [(none,(.cp 128 9)),(none,(.bin (some 129) .add (.t 128) (.k (.int .i64 1)) false false)),(none,(.mv 9 129))])))) Q s0:=by
 refine cloop (fun k t=> ∃i:Nat,i+k=s.length∧t.fr 0= .str s∧t.fr 5=v5∧t.fr 6=v6∧t.fr 7=v7∧t.fr 8=v8∧t.fr 10=v10∧t.fr 9= .int .i64 (i:Nat)∧i+spanN innB (s.drop i)=p+spanN innB (s.drop p)∧t.hp=s0.hp) (s.length-p) ⟨p,by omega,h0,h5,h6,h7,h8,h10,h9,rfl,rfl⟩ ?_
 clear h0 h5 h6 h7 h8 h9 h10
 rintro k ⟨F,hp'⟩ ⟨i,hk,f0,f5,f6,f7,f8,f10,f9,he,rfl⟩
 simp only at f0 f5 f6 f7 f8 f9 f10
 by_cases hi:i<s.length
 ·have hi' :decide ((i:Int)<(s.length:Int))=true:=decide_eq_true (by omega)
  have hw:IntKind.i64.wrap ((i:Int)+1)=((i+1:Nat):Int):=by rw [wrap64]<;>omega
  have hx:s[i]? =some s[i]:=List.getElem?_eq_getElem hi
  rw [drop_cons hi,spanN] at he
  generalize s[i]=c at hx he
  have hL:=fnr_letter c
  simp only [go_sem,seval,f0,f5,f6,f7,f8,f9,f10,hi',hx]
  refine pcall hL (by simp only [go_sem,seval]) ?_
  rcases Bool.eq_false_or_eq_true (innB c) with hc|hc
  ·rw [hc,if_pos rfl] at he
   simp only [go_sem,seval,f0,f5,f6,f7,f8,f9,f10,hc,hw]
   exact ⟨k-1,by omega,i+1,by omega,rfl,by omega⟩
  ·rw [hc,if_neg (by simp)] at he
   simp only [go_sem,seval,f0,f5,f6,f7,f8,f9,f10,hc]
   exact hQ ⟨_,_⟩ rfl (by simp [fr_apply,f0]) (by simp [fr_apply,f5]) (by simp [fr_apply,f6]) (by simp [fr_apply,f7]) (by simp [fr_apply,f8]) (by simp [fr_apply,f10]) (by simp [fr_apply,f9];omega)
 ·have hi' :decide ((i:Int)<(s.length:Int))=false:=decide_eq_false (by omega)
  rw [List.drop_eq_nil_of_le (by omega),spanN] at he
  simp only [go_sem,seval,f0,f5,f6,f7,f8,f9,f10,hi']
  exact hQ ⟨_,_⟩ rfl (by simp [fr_apply,f0]) (by simp [fr_apply,f5]) (by simp [fr_apply,f6]) (by simp [fr_apply,f7]) (by simp [fr_apply,f8]) (by simp [fr_apply,f10]) (by simp [fr_apply,f9];omega)
end Go.Proofs.YtnibelnjflhkgaaGreatDoor.Ab
namespace Go.Proofs.YtnibelnjflhkgaaGreatDoor.Ab
set_option linter.unusedVariables false
set_option linter.unusedSimpArgs false
set_option maxRecDepth 10000
theorem spanN_stop (f:UInt8→Bool): ∀(s:List UInt8) (c:UInt8),s[spanN f s]? =some c→f c=false
 | [],c,h=>by simp at h
 |d::s,c,h=>by
  rw [spanN] at h
  split at h
  ·exact spanN_stop f s c (by simpa using h)
  ·rename_i hd
   simp at h;subst h;simpa using hd
def digW (v:Nat) (l:List UInt8):Nat:=l.foldl (fun n c=>10 * n+(c.toNat-48)) v
theorem digW_snoc (v:Nat) (l:List UInt8) (c:UInt8):digW v (l++ [c])=10 * digW v l+(c.toNat-48):=by simp [digW]
theorem digW_0 (l:List UInt8):digW 0 l=digV l:=rfl
theorem digW_cons (c:UInt8) (l:List UInt8):digW (c.toNat-48) l=digV (c::l):=by simp [digW,digV]
set_option maxHeartbeats 1000000 in
theorem fnr_l9 {Q:AX→ASt→Prop} {s0:ASt} (s:List UInt8) (hs:s.length<1000000000) (p v:Nat) (hp:p≤s.length) (hv:v≤9) (v5 v6 v7 v8 v10:AV) (h0:s0.fr 0= .str s) (h5:s0.fr 5=v5) (h6:s0.fr 6=v6) (h7:s0.fr 7=v7) (h8:s0.fr 8=v8) (h10:s0.fr 10=v10) (h9:s0.fr 9= .int .i64 (p:Nat)) (h11:s0.fr 11= .int .i64 (v:Nat))
  (hQ: ∀t:ASt,t.hp=s0.hp→t.fr 0= .str s→t.fr 5=v5→t.fr 6=v6→t.fr 7=v7→t.fr 8=v8→t.fr 10=v10→t.fr 9= .int .i64 ((p+spanN digB (s.drop p):Nat):Int)→t.fr 11= .int .i64 ((min (digW v ((s.drop p).take (spanN digB (s.drop p)))) 1073741825:Nat):Int)→Q (.exit 9) t):CLoop Tryz.prog ((.seq (.seq (.ops [(none,(.cp 172 9)),(none,(.cp 173 0)),(none,(.len (some 174) (.t 173) true false)),(none,(.bin (some 175) .lss (.t 172) (.t 174) false false)),(none,(.cp 176 175)),((some (176,true)),(.cp 177 0)),((some (176,true)),(.cp 178 9)),((some (176,true)),(.idx (some 179) (.t 177) (.t 178) true none)),((some (176,true)),(.call (some 180) (.k (.func 151 [] [])) [(.t 179)] none)),(none,(.pick (some 181) (.t 176) (.t 180) (.k (.bool false))))]) (.cond (.t 181) .skip (.exit 9))) (.block 10 (.seq (.ops [(none,(.cp 182 11)),(none,(.bin (some 183) .mul (.k (.int .i64 10)) (.t 182) false false)),(none,(.cp 184 0)),(none,(.cp 185 9)),(none,(.idx (some 186) (.t 184) (.t 185) true none)),(none,(.bin (some 187) .sub (.t 186) (.k (.int .u8 48)) false false)),(none,(.cvt (some 188) (.t 187) (some .i64) false false)),(none,(.bin (some 189) .add (.t 183) (.t 188) false false)),(none,(.mn (some 190) (.t 189) (.k (.int .i64 1073741825)))),(none,(.mv 11 190))]) (.ops [(none,(.cp 191 9)),(none,(.bin (some 192) .add (.t 191) (.k (.int .i64 1)) false false)),(none,(.mv 9 192))]))))) Q s0:=by
 have hsp:=spanN_le digB (s.drop p)
 rw [List.length_drop] at hsp
 have hall:=spanN_all digB (s.drop p)
 have hstop: ∀c,s[p+spanN digB (s.drop p)]? =some c→digB c=false:=fun c hc=>spanN_stop digB (s.drop p) c (by rw [List.getElem?_drop];exact hc)
 generalize spanN digB (s.drop p)=m at *
 refine cloop (fun k t=> ∃(j n:Nat),j+k=m∧n=min (digW v ((s.drop p).take j)) 1073741825∧t.fr 0= .str s∧t.fr 5=v5∧t.fr 6=v6∧t.fr 7=v7∧t.fr 8=v8∧t.fr 10=v10∧t.fr 9= .int .i64 ((p+j:Nat):Int)∧t.fr 11= .int .i64 (n:Nat)∧t.hp=s0.hp) m ⟨0,v,by omega,by simp [digW];omega,h0,h5,h6,h7,h8,h10,h9,h11,rfl⟩ ?_
 clear h0 h5 h6 h7 h8 h9 h10 h11
 rintro k ⟨F,hp'⟩ ⟨j,n,hk,hn,f0,f5,f6,f7,f8,f10,f9,f11,rfl⟩
 simp only at f0 f5 f6 f7 f8 f9 f10 f11
 by_cases hi:p+j<s.length
 ·have hi' :decide (((p+j:Nat):Int)<(s.length:Int))=true:=decide_eq_true (by omega)
  have hw:IntKind.i64.wrap (((p+j:Nat):Int)+1)=((p+(j+1):Nat):Int):=by rw [wrap64]<;>omega
  have hx:s[p+j]? =some s[p+j]:=List.getElem?_eq_getElem hi
  by_cases hj:j<m
  ·have hdg:=hall j hj s[p+j] (by rw [List.getElem?_drop];exact hx)
   have hd:=digB_iff.1 hdg
   have htk1:(s.drop p).take (j+1)=(s.drop p).take j++ [s[p+j]]:=by
    rw [List.take_add_one,List.getElem?_drop,hx];rfl
   have hvv:=digW_snoc v ((s.drop p).take j) s[p+j]
   rw [←htk1] at hvv
   generalize s[p+j]=d at hx hd hvv hdg
   have hD:PFn Tryz.prog 151 [.int .u8 (d.toNat:Nat)] (.bool (digB d)):=fnr_digit _
   rw [hdg] at hD
   have w1:IntKind.i64.wrap (10 * (n:Int))=((10 * n:Nat):Int):=by rw [wrap64]<;>omega
   have w2:IntKind.u8.wrap ((d.toNat:Int)-48)=((d.toNat-48:Nat):Int):=by rw [IntKind.wrap_u8];omega
   have w3:IntKind.i64.wrap ((d.toNat-48:Nat):Int)=((d.toNat-48:Nat):Int):=by rw [wrap64]<;>omega
   have w4:IntKind.i64.wrap (((10 * n:Nat):Int)+((d.toNat-48:Nat):Int))=((10 * n+(d.toNat-48):Nat):Int):=by rw [wrap64]<;>omega
   have w5:(if (1073741825:Int)<((10 * n+(d.toNat-48):Nat):Int) then (1073741825:Int) else ((10 * n+(d.toNat-48):Nat):Int))=((min (digW v ((s.drop p).take (j+1))) 1073741825:Nat):Int):=by
    rw [hvv]
    split<;>omega
   simp only [go_sem,seval,f0,f5,f6,f7,f8,f9,f10,f11,hi',hx]
   refine pcall hD (by simp only [go_sem,seval]) ?_
   simp only [go_sem,seval,f0,f5,f6,f7,f8,f9,f10,f11,hx,w1,w2,w3,w4,w5,hw]
   exact ⟨k-1,by omega,j+1,_,by omega,rfl,rfl,rfl⟩
  ·have hjm:j=m:=by omega
   subst hjm
   have hdg:=hstop _ hx
   generalize s[p+j]=d at hx hdg
   have hD:PFn Tryz.prog 151 [.int .u8 (d.toNat:Nat)] (.bool (digB d)):=fnr_digit _
   rw [hdg] at hD
   simp only [go_sem,seval,f0,f5,f6,f7,f8,f9,f10,f11,hi',hx]
   refine pcall hD (by simp only [go_sem,seval]) ?_
   simp only [go_sem,seval,f0,f5,f6,f7,f8,f9,f10,f11]
   exact hQ ⟨_,_⟩ rfl (by simp [fr_apply,f0]) (by simp [fr_apply,f5]) (by simp [fr_apply,f6]) (by simp [fr_apply,f7]) (by simp [fr_apply,f8]) (by simp [fr_apply,f10]) (by simp [fr_apply,f9]) (by simp only [fr_apply,Nat.reduceEqDiff,if_false,f11,hn])
 ·have hi' :decide (((p+j:Nat):Int)<(s.length:Int))=false:=decide_eq_false (by omega)
  have hjm:j=m:=by omega
  subst hjm
  simp only [go_sem,seval,f0,f5,f6,f7,f8,f9,f10,f11,hi']
  exact hQ ⟨_,_⟩ rfl (by simp [fr_apply,f0]) (by simp [fr_apply,f5]) (by simp [fr_apply,f6]) (by simp [fr_apply,f7]) (by simp [fr_apply,f8]) (by simp [fr_apply,f10]) (by simp [fr_apply,f9]) (by simp only [fr_apply,Nat.reduceEqDiff,if_false,f11,hn])
end Go.Proofs.YtnibelnjflhkgaaGreatDoor.Ab
namespace Go.Proofs.YtnibelnjflhkgaaGreatDoor.Ab
set_option linter.unusedVariables false
set_option linter.unusedSimpArgs false
set_option maxRecDepth 10000
theorem pre_eq (s m:List UInt8) (p:Nat) (h:p+m.length≤s.length):((s.drop p).take m.length==m)=m.isPrefixOf (s.drop p):=by
 rw [Bool.eq_iff_iff,beq_iff_eq,List.isPrefixOf_iff_prefix,List.prefix_iff_eq_take]
 exact ⟨fun h=>h.symm,fun h=>h.symm⟩
theorem pre_no (s m:List UInt8) (p:Nat) (hp:p≤s.length) (h: ¬p+m.length≤s.length):m.isPrefixOf (s.drop p)=false:=by
 rw [Bool.eq_false_iff,ne_eq,List.isPrefixOf_iff_prefix]
 intro g
 have:=g.length_le
 rw [List.length_drop] at this
 omega
set_option maxHeartbeats 1000000 in
theorem fnr_l5 {Q:AX→ASt→Prop} {s0:ASt} (s:List UInt8) (hs:s.length<1000000000) (p:Nat) (hp:p≤s.length) (v5 v8:AV) (b:Nat) (h0:s0.fr 0= .str s) (h5:s0.fr 5=v5) (h6:s0.fr 6= .sl .own 1 (marksR.map AV.str)) (h7:s0.fr 7= .int .i64 (p:Nat)) (h8:s0.fr 8=v8) (h9:s0.fr 9= .int .i64 (p:Nat)) (h10:s0.fr 10= .ptr b 0) (h12:s0.fr 12= .int .i64 0) (hb:s0.hp.bk b= .cells [.int .i64 0, .str [], .int .i64 0, .int .i64 (p:Nat)])
  (hQ0:marksR.find? (·.isPrefixOf (s.drop p))=none→ ∀t:ASt,t.hp=s0.hp→t.fr 0= .str s→t.fr 5=v5→t.fr 6= .sl .own 1 (marksR.map AV.str)→t.fr 7= .int .i64 (p:Nat)→t.fr 8=v8→t.fr 9= .int .i64 (p:Nat)→t.fr 10= .ptr b 0→Q (.exit 5) t)
  (hQ1: ∀m,marksR.find? (·.isPrefixOf (s.drop p))=some m→ ∀t:ASt,t.hp=⟨s0.hp.n,updB s0.hp.bk b (.cells [.int .i64 4, .str m, .int .i64 0, .int .i64 (p:Nat)])⟩→t.fr 0= .str s→t.fr 5=v5→t.fr 6= .sl .own 1 (marksR.map AV.str)→t.fr 7= .int .i64 (p:Nat)→t.fr 8=v8→t.fr 9= .int .i64 ((p+m.length:Nat):Int)→t.fr 10= .ptr b 0→Q (.exit 5) t):CLoop Tryz.prog ((.seq (.seq (.ops [(none,(.cp 58 12)),(none,(.cp 59 6)),(none,(.len (some 60) (.t 59) false true)),(none,(.bin (some 61) .lss (.t 58) (.t 60) false false)),(none,(.cp 62 61)),((some (62,true)),(.fa (some 63) (.t 10) 0)),((some (62,true)),(.ld (some 64) (.t 63) (.one none))),((some (62,true)),(.bin (some 65) .eql (.t 64) (.k (.int .i64 0)) false false)),(none,(.pick (some 66) (.t 62) (.t 65) (.k (.bool false))))]) (.cond (.t 66) .skip (.exit 5))) (.seq (.block 6 (.seq (.ops [(none,(.cp 69 6)),(none,(.cp 70 12)),(none,(.ia (some 71) (.t 69) (.t 70) (some 1) none)),(none,(.ld (some 72) (.t 71) (.one none))),(none,(.len (some 73) (.t 72) true false)),(none,(.mv 13 73))]) (.seq (.opsD [(none,(.cp 74 7)),(none,(.cp 75 13)),(none,(.bin (some 76) .add (.t 74) (.t 75) false false)),(none,(.cp 77 0)),(none,(.len (some 78) (.t 77) true false)),(none,(.bin (some 79) .leq (.t 76) (.t 78) false false)),(none,(.cp 80 79)),((some (80,true)),(.cp 81 0)),((some (80,true)),(.cp 82 7)),((some (80,true)),(.cp 83 7)),((some (80,true)),(.cp 84 13)),((some (80,true)),(.bin (some 85) .add (.t 83) (.t 84) false false)),((some (80,true)),(.sl (some 86) (.t 81) (some (.t 82)) (some (.t 85)) none true none)),((some (80,true)),(.cp 87 6)),((some (80,true)),(.cp 88 12)),((some (80,true)),(.ia (some 89) (.t 87) (.t 88) (some 1) none)),((some (80,true)),(.ld (some 90) (.t 89) (.one none))),((some (80,true)),(.bin (some 91) .eql (.t 86) (.t 90) false false)),(none,(.pick (some 92) (.t 80) (.t 91) (.k (.bool false))))]) (.cond (.t 92) (.opsT (.one none (.cp 93 6) (.one none (.cp 94 12) (.one none (.ia (some 95) (.t 93) (.t 94) (some 1) none) (.one none (.cp 97 7) (.one none (.cp 98 13) (.one none (.bin (some 99) .add (.t 97) (.t 98) false false) (.one none (.fa (some 100) (.t 10) 0) (.alt none (.ld (some 96) (.t 95) (.one none)) (.one none (.st (.t 100) (.k (.int .i64 4)) 1) (.one none (.fa (some 101) (.t 10) 1) (.one none (.st (.t 101) (.t 96) 1) (.one none (.mv 9 99) .done)))) (.alt none (.st (.t 100) (.k (.int .i64 4)) 1) (.one none (.ld (some 96) (.t 95) (.one none)) (.one none (.fa (some 101) (.t 10) 1) (.one none (.st (.t 101) (.t 96) 1) (.one none (.mv 9 99) .done)))) .nil)))))))))) .skip)))) (.ops [(none,(.cp 67 12)),(none,(.bin (some 68) .add (.t 67) (.k (.int .i64 1)) false false)),(none,(.mv 12 68))])))) Q s0:=by
 have hl:marksR.length=15:=rfl
 refine cloop (fun k t=> ∃i:Nat,i+k=15∧t.fr 0= .str s∧t.fr 5=v5∧t.fr 6= .sl .own 1 (marksR.map AV.str)∧t.fr 7= .int .i64 (p:Nat)∧t.fr 8=v8∧t.fr 10= .ptr b 0∧t.fr 12= .int .i64 (i:Nat)∧
   ((marksR.find? (·.isPrefixOf (s.drop p))=(marksR.drop i).find? (·.isPrefixOf (s.drop p))∧t.fr 9= .int .i64 (p:Nat)∧t.hp=s0.hp)
    ∨ ∃m,marksR.find? (·.isPrefixOf (s.drop p))=some m∧t.fr 9= .int .i64 ((p+m.length:Nat):Int)∧t.hp=⟨s0.hp.n,updB s0.hp.bk b (.cells [.int .i64 4, .str m, .int .i64 0, .int .i64 (p:Nat)])⟩)) 15 ⟨0,rfl,h0,h5,h6,h7,h8,h10,h12, .inl ⟨rfl,h9,rfl⟩⟩ ?_
 clear h0 h5 h6 h7 h8 h9 h10 h12
 obtain ⟨F0,⟨hn,hbk⟩⟩:=s0
 simp only at hb
 rintro k ⟨F,hp'⟩ ⟨i,hk,f0,f5,f6,f7,f8,f10,f12,hor⟩
 simp only at f0 f5 f6 f7 f8 f10 f12 hor
 by_cases hi:i<15
 ·have hi' :decide ((i:Int)<15)=true:=decide_eq_true (by omega)
  have hw:IntKind.i64.wrap ((i:Int)+1)=((i+1:Nat):Int):=by rw [wrap64]<;>omega
  rcases hor with ⟨hf,f9,rfl⟩|⟨m,hf,f9,rfl⟩
  ·have hx:marksR[i]? =some marksR[i]:=List.getElem?_eq_getElem (by rw [hl];exact hi)
   have hml: ∀m∈marksR,m.length≤2:=by decide
   have hm2:=hml marksR[i] (List.getElem_mem _)
   have hdr:marksR.drop i=marksR[i]::marksR.drop (i+1):=List.drop_eq_getElem_cons (by rw [hl];exact hi)
   rw [hdr,List.find?_cons] at hf
   clear hdr
   generalize marksR[i]=m at hx hf hm2
   have hx' :(marksR.map AV.str)[i]? =some (.str m):=by rw [List.getElem?_map,hx];rfl
   have w1:IntKind.i64.wrap ((p:Int)+(m.length:Int))=((p+m.length:Nat):Int):=by rw [wrap64]<;>omega
   by_cases hl2:p+m.length≤s.length
   ·have hl2' :decide (((p+m.length:Nat):Int)≤(s.length:Int))=true:=decide_eq_true (by omega)
    have e:=pre_eq s m p hl2
    rcases Bool.eq_false_or_eq_true (m.isPrefixOf (s.drop p)) with hm|hm
    ·rw [hm] at e hf
     simp only [go_sem,seval,f0,f5,f6,f7,f8,f9,f10,f12,hb,hl,hi',hx',w1,hl2',hl2,Nat.add_sub_cancel_left,e,hw]
     exact ⟨⟨k-1,by omega,i+1,by omega,rfl, .inr ⟨m,hf,rfl,rfl⟩⟩,⟨k-1,by omega,i+1,by omega,rfl, .inr ⟨m,hf,rfl,rfl⟩⟩⟩
    ·rw [hm] at e hf
     simp only [go_sem,seval,f0,f5,f6,f7,f8,f9,f10,f12,hb,hl,hi',hx',w1,hl2',hl2,Nat.add_sub_cancel_left,e,hw]
     exact ⟨k-1,by omega,i+1,by omega,rfl, .inl hf⟩
   ·have hl2' :decide (((p+m.length:Nat):Int)≤(s.length:Int))=false:=decide_eq_false (by omega)
    have e:=pre_no s m p hp hl2
    rw [e] at hf
    simp only [go_sem,seval,f0,f5,f6,f7,f8,f9,f10,f12,hb,hl,hi',hx',w1,hl2',hw]
    exact ⟨k-1,by omega,i+1,by omega,rfl, .inl hf⟩
  ·simp only [go_sem,seval,f0,f5,f6,f7,f8,f9,f10,f12,hb,hl,hi']
   exact hQ1 m hf ⟨_,_⟩ rfl (by simp [fr_apply,f0]) (by simp [fr_apply,f5]) (by simp [fr_apply,f6]) (by simp [fr_apply,f7]) (by simp [fr_apply,f8]) (by simp [fr_apply,f9]) (by simp [fr_apply,f10])
 ·have hi' :decide ((i:Int)<15)=false:=decide_eq_false (by omega)
  have e15:i=15:=by omega
  subst e15
  rcases hor with ⟨hf,f9,rfl⟩|⟨m,hf,f9,rfl⟩
  ·simp only [go_sem,seval,f0,f5,f6,f7,f8,f9,f10,f12,hb,hl,hi']
   exact hQ0 hf ⟨_,_⟩ rfl (by simp [fr_apply,f0]) (by simp [fr_apply,f5]) (by simp [fr_apply,f6]) (by simp [fr_apply,f7]) (by simp [fr_apply,f8]) (by simp [fr_apply,f9]) (by simp [fr_apply,f10])
  ·simp only [go_sem,seval,f0,f5,f6,f7,f8,f9,f10,f12,hb,hl,hi']
   exact hQ1 m hf ⟨_,_⟩ rfl (by simp [fr_apply,f0]) (by simp [fr_apply,f5]) (by simp [fr_apply,f6]) (by simp [fr_apply,f7]) (by simp [fr_apply,f8]) (by simp [fr_apply,f9]) (by simp [fr_apply,f10])
end Go.Proofs.YtnibelnjflhkgaaGreatDoor.Ab
namespace Go.Proofs.YtnibelnjflhkgaaGreatDoor.Ab
set_option linter.unusedVariables false
set_option linter.unusedSimpArgs false
set_option maxRecDepth 10000
theorem c100:compF Tryz.prog ow Tryz.f100=(some (214,([(.t 2),(.t 3),(.t 4)],(.seq (.ops [(none,(.set 2 (.sl .full 4 []))),(none,(.set 3 (.int .i64 0))),(none,(.set 4 (.int .i64 0)))]) (.seq (.seq (.ops [(none,(.cp 14 0)),(none,(.len (some 15) (.t 14) true false)),(none,(.bin (some 16) .gtr (.t 15) (.k (.int .i64 4000)) false false))]) (.cond (.t 16) (.seq (.ops [(none,(.set 2 (.sl .full 4 []))),(none,(.set 3 (.int .i64 0))),(none,(.set 4 (.int .i64 2)))]) .ret) .skip)) (.seq (.ops [(none,(.set 5 (.sl .full 4 [])))]) (.seq (.ops [(none,(.bs 17 1 [(.k (.str [58,45])),(.k (.str [60,45])),(.k (.str [61,60])),(.k (.str [92,61])),(.k (.str [92,43])),(.k (.str [40])),(.k (.str [41])),(.k (.str [44])),(.k (.str [46])),(.k (.str [59])),(.k (.str [60])),(.k (.str [61])),(.k (.str [38])),(.k (.str [124])),(.k (.str [64]))])),(none,(.mv 6 17))]) (.seq (.seq (.ops [(none,(.set 7 (.int .i64 0)))]) (.block 0 (.loop (.seq (.seq (.ops [(none,(.cp 18 7)),(none,(.cp 19 0)),(none,(.len (some 20) (.t 19) true false)),(none,(.bin (some 21) .lss (.t 18) (.t 20) false false))]) (.cond (.t 21) .skip (.exit 0))) (.block 1 (.seq (.ops [(none,(.cp 22 0)),(none,(.cp 23 7)),(none,(.idx (some 24) (.t 22) (.t 23) true none)),(none,(.mv 8 24))]) (.seq (.seq (.ops [(none,(.cp 25 8)),(none,(.bin (some 26) .eql (.t 25) (.k (.int .u8 32)) false false)),(none,(.cp 27 26)),((some (27,false)),(.cp 28 8)),((some (27,false)),(.bin (some 29) .eql (.t 28) (.k (.int .u8 9)) false false)),(none,(.pick (some 30) (.t 27) (.k (.bool true)) (.t 29))),(none,(.cp 31 30)),((some (31,false)),(.cp 32 8)),((some (31,false)),(.bin (some 33) .eql (.t 32) (.k (.int .u8 10)) false false)),(none,(.pick (some 34) (.t 31) (.k (.bool true)) (.t 33))),(none,(.cp 35 34)),((some (35,false)),(.cp 36 8)),((some (35,false)),(.bin (some 37) .eql (.t 36) (.k (.int .u8 13)) false false)),(none,(.pick (some 38) (.t 35) (.k (.bool true)) (.t 37)))]) (.cond (.t 38) (.seq (.ops [(none,(.cp 39 7)),(none,(.bin (some 40) .add (.t 39) (.k (.int .i64 1)) false false)),(none,(.mv 7 40))]) (.exit 1)) .skip)) (.seq (.seq (.ops [(none,(.cp 41 8)),(none,(.bin (some 42) .eql (.t 41) (.k (.int .u8 37)) false false))]) (.cond (.t 42) (.seq (.block 2 (.loop (.seq (.seq (.ops [(none,(.cp 43 7)),(none,(.cp 44 0)),(none,(.len (some 45) (.t 44) true false)),(none,(.bin (some 46) .lss (.t 43) (.t 45) false false)),(none,(.cp 47 46)),((some (47,true)),(.cp 48 0)),((some (47,true)),(.cp 49 7)),((some (47,true)),(.idx (some 50) (.t 48) (.t 49) true none)),((some (47,true)),(.bin (some 51) .neq (.t 50) (.k (.int .u8 10)) false false)),(none,(.pick (some 52) (.t 47) (.t 51) (.k (.bool false))))]) (.cond (.t 52) .skip (.exit 2))) (.block 3 (.ops [(none,(.cp 53 7)),(none,(.bin (some 54) .add (.t 53) (.k (.int .i64 1)) false false)),(none,(.mv 7 54))]))))) (.exit 1)) .skip)) (.seq (.ops [(none,(.mv 55 7)),(none,(.mv 9 55))]) (.seq (.ops [(none,(.cp 56 7)),(none,(.bld (some 57) [(.int .i64 0),(.str []),(.int .i64 0),(.int .i64 0)] [(0,1),(1,1),(2,1),(3,1)] [(3,(.t 56))])),(none,(.alloc 10 [(.int .i64 0),(.str []),(.int .i64 0),(.int .i64 0)])),(none,(.st (.t 10) (.t 57) 4))]) (.seq (.block 4 (.seq (.ops [(none,(.cp 107 8)),(none,(.call (some 108) (.k (.func 150 [] [])) [(.t 107)] none)),(none,(.cp 109 108)),((some (109,true)),(.cp 110 8)),((some (109,true)),(.call (some 111) (.k (.func 151 [] [])) [(.t 110)] none)),((some (109,true)),(.un (some 112) .not (.t 111))),(none,(.pick (some 113) (.t 109) (.t 112) (.k (.bool false)))),(none,(.cp 114 113)),((some (114,true)),(.cp 115 8)),((some (114,true)),(.bin (some 116) .neq (.t 115) (.k (.int .u8 95)) false false)),(none,(.pick (some 117) (.t 114) (.t 116) (.k (.bool false)))),(none,(.mv 106 117))]) (.cond (.t 106) (.seq (.block 7 (.loop (.seq (.seq (.ops [(none,(.cp 118 9)),(none,(.cp 119 0)),(none,(.len (some 120) (.t 119) true false)),(none,(.bin (some 121) .lss (.t 118) (.t 120) false false)),(none,(.cp 122 121)),((some (122,true)),(.cp 123 0)),((some (122,true)),(.cp 124 9)),((some (122,true)),(.idx (some 125) (.t 123) (.t 124) true none)),((some (122,true)),(.call (some 126) (.k (.func 150 [] [])) [(.t 125)] none)),(none,(.pick (some 127) (.t 122) (.t 126) (.k (.bool false))))]) (.cond (.t 127) .skip (.exit 7))) (.block 8 (.ops [(none,(.cp 128 9)),(none,(.bin (some 129) .add (.t 128) (.k (.int .i64 1)) false false)),(none,(.mv 9 129))]))))) (.seq (.opsD [(none,(.cp 130 0)),(none,(.cp 131 7)),(none,(.cp 132 9)),(none,(.sl (some 133) (.t 130) (some (.t 131)) (some (.t 132)) none true none)),(none,(.fa (some 134) (.t 10) 0)),(none,(.st (.t 134) (.k (.int .i64 1)) 1)),(none,(.fa (some 135) (.t 10) 1)),(none,(.st (.t 135) (.t 133) 1))]) (.seq (.seq (.ops [(none,(.cp 136 8)),(none,(.bin (some 137) .leq (.t 136) (.k (.int .u8 90)) false false))]) (.cond (.t 137) (.ops [(none,(.fa (some 138) (.t 10) 0)),(none,(.st (.t 138) (.k (.int .i64 2)) 1))]) .skip)) (.seq (.ops [(none,(.cp 139 9)),(none,(.cp 140 7)),(none,(.bin (some 141) .sub (.t 139) (.t 140) false false)),(none,(.bin (some 142) .gtr (.t 141) (.k (.int .i64 16)) false false))]) (.cond (.t 142) (.seq (.ops [(none,(.mv 143 7)),(none,(.set 2 (.sl .full 4 []))),(none,(.mv 3 143)),(none,(.set 4 (.int .i64 2)))]) .ret) .skip))))) (.seq (.ops [(none,(.cp 145 8)),(none,(.call (some 146) (.k (.func 151 [] [])) [(.t 145)] none)),(none,(.cp 147 146)),((some (147,false)),(.cp 148 8)),((some (147,false)),(.bin (some 149) .eql (.t 148) (.k (.int .u8 45)) false false)),((some (147,false)),(.cp 150 149)),((some (150,true)),(.cp 151 7)),((some (150,true)),(.bin (some 152) .add (.t 151) (.k (.int .i64 1)) false false)),((some (150,true)),(.cp 153 0)),((some (150,true)),(.len (some 154) (.t 153) true false)),((some (150,true)),(.bin (some 155) .lss (.t 152) (.t 154) false false)),((some (147,false)),(.pick (some 156) (.t 150) (.t 155) (.k (.bool false)))),((some (147,false)),(.cp 157 156)),((some (157,true)),(.cp 158 0)),((some (157,true)),(.cp 159 7)),((some (157,true)),(.bin (some 160) .add (.t 159) (.k (.int .i64 1)) false false)),((some (157,true)),(.idx (some 161) (.t 158) (.t 160) true none)),((some (157,true)),(.call (some 162) (.k (.func 151 [] [])) [(.t 161)] none)),((some (147,false)),(.pick (some 163) (.t 157) (.t 162) (.k (.bool false)))),(none,(.pick (some 164) (.t 147) (.k (.bool true)) (.t 163))),(none,(.mv 144 164))]) (.cond (.t 144) (.seq (.ops [(none,(.cp 165 9)),(none,(.bin (some 166) .add (.t 165) (.k (.int .i64 1)) false false)),(none,(.mv 9 166))]) (.seq (.ops [(none,(.set 11 (.int .i64 0)))]) (.seq (.seq (.ops [(none,(.cp 167 8)),(none,(.call (some 168) (.k (.func 151 [] [])) [(.t 167)] none))]) (.cond (.t 168) (.ops [(none,(.cp 169 8)),(none,(.bin (some 170) .sub (.t 169) (.k (.int .u8 48)) false false)),(none,(.cvt (some 171) (.t 170) (some .i64) false false)),(none,(.mv 11 171))]) .skip)) (.seq (.block 9 (.loop (.seq (.seq (.ops [(none,(.cp 172 9)),(none,(.cp 173 0)),(none,(.len (some 174) (.t 173) true false)),(none,(.bin (some 175) .lss (.t 172) (.t 174) false false)),(none,(.cp 176 175)),((some (176,true)),(.cp 177 0)),((some (176,true)),(.cp 178 9)),((some (176,true)),(.idx (some 179) (.t 177) (.t 178) true none)),((some (176,true)),(.call (some 180) (.k (.func 151 [] [])) [(.t 179)] none)),(none,(.pick (some 181) (.t 176) (.t 180) (.k (.bool false))))]) (.cond (.t 181) .skip (.exit 9))) (.block 10 (.seq (.ops [(none,(.cp 182 11)),(none,(.bin (some 183) .mul (.k (.int .i64 10)) (.t 182) false false)),(none,(.cp 184 0)),(none,(.cp 185 9)),(none,(.idx (some 186) (.t 184) (.t 185) true none)),(none,(.bin (some 187) .sub (.t 186) (.k (.int .u8 48)) false false)),(none,(.cvt (some 188) (.t 187) (some .i64) false false)),(none,(.bin (some 189) .add (.t 183) (.t 188) false false)),(none,(.mn (some 190) (.t 189) (.k (.int .i64 1073741825)))),(none,(.mv 11 190))]) (.ops [(none,(.cp 191 9)),(none,(.bin (some 192) .add (.t 191) (.k (.int .i64 1)) false false)),(none,(.mv 9 192))])))))) (.seq (.seq (.ops [(none,(.cp 193 11)),(none,(.bin (some 194) .gtr (.t 193) (.k (.int .i64 1073741824)) false false))]) (.cond (.t 194) (.seq (.ops [(none,(.mv 195 7)),(none,(.set 2 (.sl .full 4 []))),(none,(.mv 3 195)),(none,(.set 4 (.int .i64 2)))]) .ret) .skip)) (.seq (.seq (.ops [(none,(.cp 196 8)),(none,(.bin (some 197) .eql (.t 196) (.k (.int .u8 45)) false false))]) (.cond (.t 197) (.ops [(none,(.cp 198 11)),(none,(.un (some 199) .neg (.t 198))),(none,(.mv 11 199))]) .skip)) (.ops [(none,(.cp 200 11)),(none,(.fa (some 201) (.t 10) 0)),(none,(.st (.t 201) (.k (.int .i64 3)) 1)),(none,(.fa (some 202) (.t 10) 2)),(none,(.st (.t 202) (.t 200) 1))]))))))) (.seq (.seq (.ops [(none,(.set 12 (.int .i64 0)))]) (.block 5 (.loop (.seq (.seq (.ops [(none,(.cp 58 12)),(none,(.cp 59 6)),(none,(.len (some 60) (.t 59) false true)),(none,(.bin (some 61) .lss (.t 58) (.t 60) false false)),(none,(.cp 62 61)),((some (62,true)),(.fa (some 63) (.t 10) 0)),((some (62,true)),(.ld (some 64) (.t 63) (.one none))),((some (62,true)),(.bin (some 65) .eql (.t 64) (.k (.int .i64 0)) false false)),(none,(.pick (some 66) (.t 62) (.t 65) (.k (.bool false))))]) (.cond (.t 66) .skip (.exit 5))) (.seq (.block 6 (.seq (.ops [(none,(.cp 69 6)),(none,(.cp 70 12)),(none,(.ia (some 71) (.t 69) (.t 70) (some 1) none)),(none,(.ld (some 72) (.t 71) (.one none))),(none,(.len (some 73) (.t 72) true false)),(none,(.mv 13 73))]) (.seq (.opsD [(none,(.cp 74 7)),(none,(.cp 75 13)),(none,(.bin (some 76) .add (.t 74) (.t 75) false false)),(none,(.cp 77 0)),(none,(.len (some 78) (.t 77) true false)),(none,(.bin (some 79) .leq (.t 76) (.t 78) false false)),(none,(.cp 80 79)),((some (80,true)),(.cp 81 0)),((some (80,true)),(.cp 82 7)),((some (80,true)),(.cp 83 7)),((some (80,true)),(.cp 84 13)),((some (80,true)),(.bin (some 85) .add (.t 83) (.t 84) false false)),((some (80,true)),(.sl (some 86) (.t 81) (some (.t 82)) (some (.t 85)) none true none)),((some (80,true)),(.cp 87 6)),((some (80,true)),(.cp 88 12)),((some (80,true)),(.ia (some 89) (.t 87) (.t 88) (some 1) none)),((some (80,true)),(.ld (some 90) (.t 89) (.one none))),((some (80,true)),(.bin (some 91) .eql (.t 86) (.t 90) false false)),(none,(.pick (some 92) (.t 80) (.t 91) (.k (.bool false))))]) (.cond (.t 92) (.opsT (.one none (.cp 93 6) (.one none (.cp 94 12) (.one none (.ia (some 95) (.t 93) (.t 94) (some 1) none) (.one none (.cp 97 7) (.one none (.cp 98 13) (.one none (.bin (some 99) .add (.t 97) (.t 98) false false) (.one none (.fa (some 100) (.t 10) 0) (.alt none (.ld (some 96) (.t 95) (.one none)) (.one none (.st (.t 100) (.k (.int .i64 4)) 1) (.one none (.fa (some 101) (.t 10) 1) (.one none (.st (.t 101) (.t 96) 1) (.one none (.mv 9 99) .done)))) (.alt none (.st (.t 100) (.k (.int .i64 4)) 1) (.one none (.ld (some 96) (.t 95) (.one none)) (.one none (.fa (some 101) (.t 10) 1) (.one none (.st (.t 101) (.t 96) 1) (.one none (.mv 9 99) .done)))) .nil)))))))))) .skip)))) (.ops [(none,(.cp 67 12)),(none,(.bin (some 68) .add (.t 67) (.k (.int .i64 1)) false false)),(none,(.mv 12 68))])))))) (.seq (.ops [(none,(.fa (some 102) (.t 10) 0)),(none,(.ld (some 103) (.t 102) (.one none))),(none,(.bin (some 104) .eql (.t 103) (.k (.int .i64 0)) false false))]) (.cond (.t 104) (.seq (.ops [(none,(.mv 105 7)),(none,(.set 2 (.sl .full 4 []))),(none,(.mv 3 105)),(none,(.set 4 (.int .i64 4)))]) .ret) .skip)))))))) (.seq (.ops [(none,(.mv 203 5)),(none,(.ld (some 204) (.t 10) (.agg 4))),(none,(.bs 205 4 [(.t 204)])),(none,(.app 206 (.t 203) (.t 205) 4 40 true true)),(none,(.mv 5 206))]) (.ops [(none,(.mv 207 9)),(none,(.mv 7 207))]))))))))))))) (.seq (.ops [(none,(.mv 208 5)),(none,(.cp 209 0)),(none,(.len (some 210) (.t 209) true false)),(none,(.bld (some 211) [(.int .i64 0),(.str []),(.int .i64 0),(.int .i64 0)] [(0,1),(1,1),(2,1),(3,1)] [(0,(.k (.int .i64 5))),(3,(.t 210))])),(none,(.bs 212 4 [(.t 211)])),(none,(.app 213 (.t 208) (.t 212) 4 40 true true)),(none,(.mv 2 213)),(none,(.set 3 (.int .i64 0))),(none,(.set 4 (.int .i64 0)))]) .ret))))))))):=by kernel_rfl
theorem word_name {c:UInt8} {r:List UInt8} (h:(smaB c||greB c)=true):wordW (c::r)=(if spanN innB (c::r)>16 then .bad 2 else .tok (if greB c then 2 else 1) ((c::r).take (spanN innB (c::r))) 0 (spanN innB (c::r))):=by
 simp only [wordW,h,if_true]
theorem word_num {c:UInt8} {r:List UInt8} (h:(smaB c||greB c)=false) (hd:digB c=true):wordW (c::r)=numW 0 (c::r):=by
 simp only [wordW,h,hd,if_true,Bool.false_eq_true,if_false]
theorem word_neg {c:UInt8} {r:List UInt8} (h:(smaB c||greB c)=false) (hd:digB c=false) (hg:(c==45&&digAt r)=true):wordW (c::r)=numW 1 (c::r):=by
 simp only [wordW,h,hd,hg,if_true,Bool.false_eq_true,if_false]
theorem word_mark {c:UInt8} {r:List UInt8} (h:(smaB c||greB c)=false) (hd:digB c=false) (hg:(c==45&&digAt r)=false):wordW (c::r)=markW (c::r):=by
 simp only [wordW,h,hd,hg,Bool.false_eq_true,if_false]
theorem let_name {c:UInt8} (h:(smaB c||greB c)=true):innB c=true∧digB c=false∧(((c.toNat:Nat):Int) !=95)=true∧decide (((c.toNat:Nat):Int)≤90)=greB c∧blaB c=false:=by
 have hb: ∀k:UInt8,k.toNat<65→(c==k)=false:=by
  intro k hk
  simp only [smaB,greB,inR,Bool.or_eq_true,Bool.and_eq_true,decide_eq_true_eq] at h
  simp only [beq_eq_false_iff_ne,ne_eq]
  rintro rfl;omega
 refine ⟨by simp [innB,h], ?_, ?_, ?_, ?_⟩
 ·simp only [smaB,greB,digB,inR,Bool.or_eq_true,Bool.and_eq_true,decide_eq_true_eq] at h ⊢
  simp;omega
 ·simp only [smaB,greB,inR,Bool.or_eq_true,Bool.and_eq_true,decide_eq_true_eq] at h
  simp;omega
 ·simp only [smaB,greB,inR,Bool.or_eq_true,Bool.and_eq_true,decide_eq_true_eq] at h ⊢
  rw [Bool.eq_iff_iff];simp;omega
 ·simp [blaB,hb 32 (by decide),hb 9 (by decide),hb 10 (by decide),hb 13 (by decide)]
theorem num_0 {c:UInt8} {r:List UInt8} (h:digB c=true):numW 0 (c::r)=(if digW (c.toNat-48) (r.take (spanN digB r))>1073741824 then .bad 2 else .tok 3 [] (digW (c.toNat-48) (r.take (spanN digB r)):Int) (spanN digB r+1)):=by
 unfold numW
 simp only [List.drop_zero,spanN,h,if_true,List.take_succ_cons, ←digW_cons,Nat.zero_add,Nat.zero_ne_one,if_false]
theorem num_1 {c:UInt8} {r:List UInt8} :numW 1 (c::r)=(if digW 0 (r.take (spanN digB r))>1073741824 then .bad 2 else .tok 3 [] (-(digW 0 (r.take (spanN digB r)):Int)) (spanN digB r+1)):=by
 unfold numW
 simp only [List.drop_succ_cons,List.drop_zero,digW_0,if_true,Nat.add_comm 1]
 rfl
theorem inn_no {c:UInt8} (h:(smaB c||greB c)=false):innB c=(digB c||c==95):=by simp [innB,h]
set_option maxHeartbeats 1000000 in
theorem fnr_Tokens (s:List UInt8) (hs:s.length<1000000000000000):PFn Tryz.prog 100 [.str s] (.tup (tkA (toks s))):=by
 intro h
 refine fnC mixed Tryz.func100 c100 (by simp) ?_
 unfold toks
 by_cases hbig:s.length>4000
 ·have hb:decide ((s.length:Int)>4000)=true:=decide_eq_true (by omega)
  rw [if_pos hbig]
  unfold tkA
  simp only [go_sem,seval,hb]
  exact .inl rfl
 have hb:decide ((s.length:Int)>4000)=false:=decide_eq_false (by omega)
 rw [if_neg hbig]
 generalize hR:toksF (s.length+1) 0 s []=R
 simp only [go_sem,seval,hb]
 refine cloop (fun k t=> ∃(p f:Nat) (acc:List Tk),p+k=s.length∧k≤f∧acc.length≤p∧t.fr 0= .str s∧t.fr 5= .sl (flL acc) 4 (acc.map Tk.av)∧t.fr 6= .sl .own 1 (marksR.map AV.str)∧t.fr 7= .int .i64 (p:Nat)∧toksF (f+1) p (s.drop p) acc=R∧h.n≤t.hp.n∧Shrink h t.hp h) s.length ⟨0,s.length, [],by omega,by omega,by simp,by simp [fr_apply,argsF],by simp [fr_apply,flL],by simp [fr_apply,marksR],by simp [fr_apply],hR,by simp,shrink_refl h⟩ ?_
 clear hR
 rintro k ⟨F,hp⟩ ⟨p,f,acc,hk,hf,hal,f0,f5,f6,f7,hR,hn,hsh⟩
 simp only at f0 f5 f6 f7 hn hsh
 by_cases hi:p<s.length
 ·have hi' :decide ((p:Int)<(s.length:Int))=true:=decide_eq_true (by omega)
  have hw:IntKind.i64.wrap ((p:Int)+1)=((p+1:Nat):Int):=by rw [wrap64]<;>omega
  have hx:s[p]? =some s[p]:=List.getElem?_eq_getElem hi
  have hd:=drop_cons hi
  generalize s[p]=c at hx hd
  have e32:(((c.toNat:Nat):Int)==32)=(c==32):=u8_eqb c 32 (by omega)
  have e9:(((c.toNat:Nat):Int)==9)=(c==9):=u8_eqb c 9 (by omega)
  have e10:(((c.toNat:Nat):Int)==10)=(c==10):=u8_eqb c 10 (by omega)
  have e13:(((c.toNat:Nat):Int)==13)=(c==13):=u8_eqb c 13 (by omega)
  have e37:(((c.toNat:Nat):Int)==37)=(c==37):=u8_eqb c 37 (by omega)
  have e45:(((c.toNat:Nat):Int)==45)=(c==45):=u8_eqb c 45 (by omega)
  have e95:(((c.toNat:Nat):Int) !=95)=(c !=95):=congrArg Bool.not (u8_eqb c 95 (by omega))
  have ebl:blaB c=(c==32||c==9||c==10||c==13):=rfl
  rcases Bool.eq_false_or_eq_true (blaB c) with hbl|hbl
  ·have hR1:toksF (f+1) (p+1) (s.drop (p+1)) acc=R:=by
    rw [←hR,toksF_skip f p 1 (s.drop p) acc (by rw [hd];exact skip_bla hbl),List.drop_drop]
   cases h1:(c==32) with
   |true=>
    simp only [go_sem,seval,f0,f5,f6,f7,hi',hx,e32,h1,hw]
    exact ⟨k-1,by omega,p+1,f,acc,by omega,by omega,by omega,rfl,rfl,hR1,hn,hsh⟩
   |false=>
    cases h2:(c==9) with
    |true=>
     simp only [go_sem,seval,f0,f5,f6,f7,hi',hx,e32,e9,h1,h2,hw]
     exact ⟨k-1,by omega,p+1,f,acc,by omega,by omega,by omega,rfl,rfl,hR1,hn,hsh⟩
    |false=>
     cases h3:(c==10) with
     |true=>
      simp only [go_sem,seval,f0,f5,f6,f7,hi',hx,e32,e9,e10,h1,h2,h3,hw]
      exact ⟨k-1,by omega,p+1,f,acc,by omega,by omega,by omega,rfl,rfl,hR1,hn,hsh⟩
     |false=>
      have h4:(c==13)=true:=by rw [ebl,h1,h2,h3] at hbl;simpa using hbl
      simp only [go_sem,seval,f0,f5,f6,f7,hi',hx,e32,e9,e10,e13,h1,h2,h3,h4,hw]
      exact ⟨k-1,by omega,p+1,f,acc,by omega,by omega,by omega,rfl,rfl,hR1,hn,hsh⟩
  obtain ⟨h1,h2,h3,h4⟩:(c==32)=false∧(c==9)=false∧(c==10)=false∧(c==13)=false:=by
   rw [ebl] at hbl;simpa [Bool.or_eq_false_iff,and_assoc] using hbl
  cases h37:(c==37) with
  |true=>
   have hc37:c=37:=by simpa using h37
   have hR1:toksF (f+1) (p+spanN (fun c=>c !=10) (s.drop p)) (s.drop (p+spanN (fun c=>c !=10) (s.drop p))) acc=R:=by
    rw [←hR,toksF_skip f p (spanN (fun c=>c !=10) (s.drop p)) (s.drop p) acc (by rw [hd,hc37];exact skip_rem),List.drop_drop]
   have hs1:=spanN_le (fun c=>c !=10) (s.drop p)
   have hs2:0<spanN (fun c=>c !=10) (s.drop p):=by rw [hd,hc37];exact spanN_pos rfl
   rw [List.length_drop] at hs1
   simp only [go_sem,seval,f0,f5,f6,f7,hi',hx,e32,e9,e10,e13,e37,h1,h2,h3,h4,h37]
   refine fnr_l2 s (by omega) p (by omega) (.sl (flL acc) 4 (acc.map Tk.av)) (.sl .own 1 (marksR.map AV.str)) (by simp [fr_apply,f0]) (by simp [fr_apply,f5]) (by simp [fr_apply,f6]) (by simp [fr_apply,f7]) ?_
   rintro ⟨F2,hp2⟩ rfl g0 g5 g6 g7
   simp only at g0 g5 g6 g7
   generalize spanN (fun c=>c !=10) (s.drop p)=q at *
   simp only [go_sem,seval,g0,g5,g6,g7]
   exact ⟨k-q,by omega,p+q,f,acc,by omega,by omega,by omega,rfl,rfl,hR1,hn,hsh⟩
  |false=>
   obtain ⟨f,rfl⟩: ∃f',f=f' +1:=⟨f-1,by omega⟩
   rw [hd,toksF_tok (f+1) p c _ acc hbl (by simpa using h37), ←hd] at hR
   have hne: ¬s.drop p= []:=fun e=>by rw [e] at hd;cases hd
   rw [toksG,if_neg hne] at hR
   have hL:=fnr_letter c
   have hD:PFn Tryz.prog 151 [.int .u8 (c.toNat:Nat)] (.bool (digB c)):=fnr_digit _
   have hsg:=shrink_grow (n:=hp.n+1) hsh (by omega)
   have b1:(acc.length+1) * 40≤140737488355328:=by omega
   have b2:acc.length≤9223372036854775806:=by omega
   have b3:1 * 40≤140737488355328:=by omega
   cases hnm:(smaB c||greB c) with
   |true=>
    obtain ⟨hi1,hi2,hi3,hi4, -⟩:=let_name hnm
    rw [hi1] at hL
    rw [hi2] at hD
    rw [hd,word_name hnm, ←hd] at hR
    simp only [go_sem,seval,f0,f5,f6,f7,hi',hx,e32,e9,e10,e13,e37,h1,h2,h3,h4,h37]
    refine pcall hL (by simp only [go_sem,seval]) ?_
    simp only [go_sem,seval]
    refine pcall hD (by simp only [go_sem,seval]) ?_
    simp only [go_sem,seval,hi3]
    have hs1:=spanN_le innB (s.drop p)
    have hs2:0<spanN innB (s.drop p):=by rw [hd];exact spanN_pos hi1
    rw [List.length_drop] at hs1
    refine fnr_l7 s (by omega) p (by omega) (.sl (flL acc) 4 (acc.map Tk.av)) (.sl .own 1 (marksR.map AV.str)) (.int .i64 (p:Nat)) (.int .u8 (c.toNat:Nat)) (.ptr hp.n 0) (by simp [fr_apply,f0]) (by simp [fr_apply,f5]) (by simp [fr_apply,f6]) (by simp [fr_apply,f7]) (by simp [fr_apply]) (by simp [fr_apply]) (by simp [fr_apply]) ?_
    rintro ⟨F2,hp2⟩ rfl g0 g5 g6 g7 g8 g10 g9
    simp only at g0 g5 g6 g7 g8 g10 g9
    generalize spanN innB (s.drop p)=q at *
    have a1:p+q≤s.length:=by omega
    have w1:IntKind.i64.wrap (((p+q:Nat):Int)-(p:Int))=(q:Int):=by rw [wrap64]<;>omega
    by_cases hq:q>16
    ·have hq' :decide ((q:Int)>16)=true:=decide_eq_true (by omega)
     rw [if_pos hq] at hR
     subst hR
     unfold tkA
     rcases Bool.eq_false_or_eq_true (greB c) with hg|hg
     iterate 2
      ·rw [hg] at hi4
       simp only [go_sem,seval,g0,g5,g6,g7,g8,g10,g9,a1,w1,hq',hi4,Nat.add_sub_cancel_left]
       refine ⟨.inl rfl, ?_⟩
       simp [shrink_upd,hsg,hn]
    ·have hq' :decide ((q:Int)>16)=false:=decide_eq_false (by omega)
     rw [if_neg hq] at hR
     simp only at hR
     rw [List.drop_drop] at hR
     rcases Bool.eq_false_or_eq_true (greB c) with hg|hg
     iterate 2
      ·rw [hg] at hi4 hR
       cases acc with
       |nil=>
        simp only [flL,List.map_nil] at g5
        simp only [go_sem,seval,g0,g5,g6,g7,g8,g10,g9,a1,w1,hq',hi4,Nat.add_sub_cancel_left,b3,Int.le_refl]
        refine ⟨k-q,by omega,p+q,f,_,by omega,by omega, ?_, ?_,rfl,hR,by omega,by simp [shrink_upd,hsg,hn]⟩
        ·simp;omega
        ·simp [flL,Tk.av]
       |cons x acc=>
        simp only [flL] at g5
        have b4:(acc.length+2) * 40≤140737488355328:=by simp at b1;omega
        have b5:acc.length≤9223372036854775805:=by simp at b2;omega
        simp only [go_sem,seval,g0,g5,g6,g7,g8,g10,g9,a1,w1,hq',hi4,Nat.add_sub_cancel_left,b1,b2,b4,b5]
        refine ⟨k-q,by omega,p+q,f,_,by omega,by omega, ?_, ?_,rfl,hR,by omega,by simp [shrink_upd,hsg,hn]⟩
        ·simp at hal ⊢;omega
        ·simp [flL,Tk.av]
   |false=>
    have hil:=inn_no hnm
    cases hdg:digB c with
    |true=>
     have hil2:innB c=true:=by rw [hil,hdg];rfl
     rw [hil2] at hL
     rw [hdg] at hD
     have hdi:=digB_iff.1 hdg
     have h45:(c==45)=false:=by simp only [beq_eq_false_iff_ne,ne_eq];rintro rfl;revert hdi;decide
     have w2:IntKind.u8.wrap ((c.toNat:Int)-48)=((c.toNat-48:Nat):Int):=by rw [IntKind.wrap_u8];omega
     have w3:IntKind.i64.wrap ((c.toNat-48:Nat):Int)=((c.toNat-48:Nat):Int):=by rw [wrap64]<;>omega
     simp only [go_sem,seval,f0,f5,f6,f7,hi',hx,e32,e9,e10,e13,e37,h1,h2,h3,h4,h37]
     refine pcall hL (by simp only [go_sem,seval]) ?_
     simp only [go_sem,seval]
     refine pcall hD (by simp only [go_sem,seval]) ?_
     simp only [go_sem,seval]
     refine pcall hD (by simp only [go_sem,seval]) ?_
     simp only [go_sem,seval,hw]
     refine pcall hD (by simp only [go_sem,seval]) ?_
     simp only [go_sem,seval,w2,w3]
     rw [hd,word_num hnm hdg,num_0 hdg, ←hd] at hR
     have hs1:=spanN_le digB (s.drop (p+1))
     rw [List.length_drop] at hs1
     refine fnr_l9 s (by omega) (p+1) (c.toNat-48) (by omega) (by omega) (.sl (flL acc) 4 (acc.map Tk.av)) (.sl .own 1 (marksR.map AV.str)) (.int .i64 (p:Nat)) (.int .u8 (c.toNat:Nat)) (.ptr hp.n 0) (by simp [fr_apply,f0]) (by simp [fr_apply,f5]) (by simp [fr_apply,f6]) (by simp [fr_apply,f7]) (by simp [fr_apply]) (by simp [fr_apply]) (by simp [fr_apply]) (by simp [fr_apply]) ?_
     rintro ⟨F2,hp2⟩ rfl g0 g5 g6 g7 g8 g10 g9 g11
     simp only at g0 g5 g6 g7 g8 g10 g9 g11
     generalize digW (c.toNat-48) ((s.drop (p+1)).take (spanN digB (s.drop (p+1))))=V at *
     obtain ⟨q,hq⟩: ∃q,q=spanN digB (s.drop (p+1))+1:=⟨_,rfl⟩
     rw [←hq] at hR
     have hq2:p+1+spanN digB (s.drop (p+1))=p+q:=by omega
     rw [hq2] at g9
     by_cases hV:V>1073741824
     ·have hV' :decide (((min V 1073741825:Nat):Int)>1073741824)=true:=decide_eq_true (by omega)
      rw [if_pos hV] at hR
      simp only at hR
      subst hR
      unfold tkA
      simp only [go_sem,seval,g0,g5,g6,g7,g8,g10,g9,g11,hV']
      refine ⟨.inl rfl, ?_⟩
      simp [shrink_upd,hsg,hn]
     ·have hVm:min V 1073741825=V:=by omega
      rw [hVm] at g11
      have hV' :decide (((V:Nat):Int)>1073741824)=false:=decide_eq_false (by omega)
      have w5:IntKind.i64.wrap (-(V:Int))= -(V:Int):=by rw [wrap64]<;>omega
      have w6:IntKind.i64.wrap (0-(V:Int))= -(V:Int):=by rw [wrap64]<;>omega
      rw [if_neg hV] at hR
      simp only at hR
      rw [List.drop_drop] at hR
      cases acc with
      |nil=>
       simp only [flL,List.map_nil] at g5
       simp only [go_sem,seval,g0,g5,g6,g7,g8,g10,g9,g11,hV',w5,w6,e45,h45,b3,Int.le_refl]
       refine ⟨k-q,by omega,p+q,f,_,by omega,by omega, ?_, ?_,rfl,hR,by omega,by simp [shrink_upd,hsg,hn]⟩
       ·simp;omega
       ·simp [flL,Tk.av]
      |cons x acc=>
       simp only [flL] at g5
       have b4:(acc.length+2) * 40≤140737488355328:=by simp at b1;omega
       have b5:acc.length≤9223372036854775805:=by simp at b2;omega
       simp only [go_sem,seval,g0,g5,g6,g7,g8,g10,g9,g11,hV',w5,w6,e45,h45,b1,b2,b4,b5]
       refine ⟨k-q,by omega,p+q,f,_,by omega,by omega, ?_, ?_,rfl,hR,by omega,by simp [shrink_upd,hsg,hn]⟩
       ·simp at hal ⊢;omega
       ·simp [flL,Tk.av]
    |false=>
     rw [hdg] at hD
     rw [hdg,Bool.false_or] at hil
     rw [hil] at hL
     cases h95:(c==95) with
     |true=>
      rw [h95] at hL
      have n95:(c !=95)=false:=by rw [bne,h95];rfl
      have h45:(c==45)=false:=by
       have e:c=95:=by simpa using h95
       rw [e];rfl
      simp only [go_sem,seval,f0,f5,f6,f7,hi',hx,e32,e9,e10,e13,e37,h1,h2,h3,h4,h37]
      refine pcall hL (by simp only [go_sem,seval]) ?_
      simp only [go_sem,seval]
      refine pcall hD (by simp only [go_sem,seval]) ?_
      simp only [go_sem,seval,e95,n95]
      refine pcall hD (by simp only [go_sem,seval]) ?_
      simp only [go_sem,seval,e45,h45]
      have hmk:=marks_same (s.drop p)
      rw [hd,word_mark hnm hdg (by rw [h45];rfl), ←hd] at hR
      unfold markW at hR
      rw [←hmk] at hR
      refine fnr_l5 s (by omega) p (by omega) (.sl (flL acc) 4 (acc.map Tk.av)) (.int .u8 (c.toNat:Nat)) hp.n (by simp [fr_apply,f0]) (by simp [fr_apply,f5]) (by simp [fr_apply,f6]) (by simp [fr_apply,f7]) (by simp [fr_apply]) (by simp [fr_apply]) (by simp [fr_apply]) (by simp [fr_apply]) (by simp [bk_apply]) ?_ ?_
      ·intro hf0
       rintro ⟨F2,hp2⟩ rfl g0 g5 g6 g7 g8 g9 g10
       simp only at g0 g5 g6 g7 g8 g9 g10
       rw [hf0] at hR
       simp only at hR
       subst hR
       unfold tkA
       simp only [go_sem,seval,g0,g5,g6,g7,g8,g10,g9]
       refine ⟨.inl rfl, ?_⟩
       simp [shrink_upd,hsg,hn]
      ·intro m hf1
       rintro ⟨F2,hp2⟩ rfl g0 g5 g6 g7 g8 g9 g10
       simp only at g0 g5 g6 g7 g8 g9 g10
       rw [hf1] at hR
       simp only at hR
       have hpm:m.isPrefixOf (s.drop p)=true:=List.find?_some (p:=fun x:List UInt8=>x.isPrefixOf (s.drop p)) hf1
       have hs1:=(List.isPrefixOf_iff_prefix.1 hpm).length_le
       have hs2:=marks_pos m (List.mem_of_find?_eq_some (hmk▸hf1))
       rw [List.length_drop] at hs1
       generalize m.length=q at *
       rw [List.drop_drop] at hR
       cases acc with
       |nil=>
        simp only [flL,List.map_nil] at g5
        simp only [go_sem,seval,g0,g5,g6,g7,g8,g10,g9,b3,Int.le_refl]
        refine ⟨k-q,by omega,p+q,f,_,by omega,by omega, ?_, ?_,rfl,hR,by omega,by simp [shrink_upd,hsg,hn]⟩
        ·simp;omega
        ·simp [flL,Tk.av]
       |cons x acc=>
        simp only [flL] at g5
        have b4:(acc.length+2) * 40≤140737488355328:=by simp at b1;omega
        have b5:acc.length≤9223372036854775805:=by simp at b2;omega
        simp only [go_sem,seval,g0,g5,g6,g7,g8,g10,g9,b1,b2,b4,b5]
        refine ⟨k-q,by omega,p+q,f,_,by omega,by omega, ?_, ?_,rfl,hR,by omega,by simp [shrink_upd,hsg,hn]⟩
        ·simp at hal ⊢;omega
        ·simp [flL,Tk.av]
     |false=>
      rw [h95] at hL
      cases h45:(c==45) with
      |false=>
       simp only [go_sem,seval,f0,f5,f6,f7,hi',hx,e32,e9,e10,e13,e37,h1,h2,h3,h4,h37]
       refine pcall hL (by simp only [go_sem,seval]) ?_
       simp only [go_sem,seval]
       refine pcall hD (by simp only [go_sem,seval]) ?_
       simp only [go_sem,seval,e45,h45]
       have hmk:=marks_same (s.drop p)
       rw [hd,word_mark hnm hdg (by rw [h45];rfl), ←hd] at hR
       unfold markW at hR
       rw [←hmk] at hR
       refine fnr_l5 s (by omega) p (by omega) (.sl (flL acc) 4 (acc.map Tk.av)) (.int .u8 (c.toNat:Nat)) hp.n (by simp [fr_apply,f0]) (by simp [fr_apply,f5]) (by simp [fr_apply,f6]) (by simp [fr_apply,f7]) (by simp [fr_apply]) (by simp [fr_apply]) (by simp [fr_apply]) (by simp [fr_apply]) (by simp [bk_apply]) ?_ ?_
       ·intro hf0
        rintro ⟨F2,hp2⟩ rfl g0 g5 g6 g7 g8 g9 g10
        simp only at g0 g5 g6 g7 g8 g9 g10
        rw [hf0] at hR
        simp only at hR
        subst hR
        unfold tkA
        simp only [go_sem,seval,g0,g5,g6,g7,g8,g10,g9]
        refine ⟨.inl rfl, ?_⟩
        simp [shrink_upd,hsg,hn]
       ·intro m hf1
        rintro ⟨F2,hp2⟩ rfl g0 g5 g6 g7 g8 g9 g10
        simp only at g0 g5 g6 g7 g8 g9 g10
        rw [hf1] at hR
        simp only at hR
        have hpm:m.isPrefixOf (s.drop p)=true:=List.find?_some (p:=fun x:List UInt8=>x.isPrefixOf (s.drop p)) hf1
        have hs1:=(List.isPrefixOf_iff_prefix.1 hpm).length_le
        have hs2:=marks_pos m (List.mem_of_find?_eq_some (hmk▸hf1))
        rw [List.length_drop] at hs1
        generalize m.length=q at *
        rw [List.drop_drop] at hR
        cases acc with
        |nil=>
         simp only [flL,List.map_nil] at g5
         simp only [go_sem,seval,g0,g5,g6,g7,g8,g10,g9,b3,Int.le_refl]
         refine ⟨k-q,by omega,p+q,f,_,by omega,by omega, ?_, ?_,rfl,hR,by omega,by simp [shrink_upd,hsg,hn]⟩
         ·simp;omega
         ·simp [flL,Tk.av]
        |cons x acc=>
         simp only [flL] at g5
         have b4:(acc.length+2) * 40≤140737488355328:=by simp at b1;omega
         have b5:acc.length≤9223372036854775805:=by simp at b2;omega
         simp only [go_sem,seval,g0,g5,g6,g7,g8,g10,g9,b1,b2,b4,b5]
         refine ⟨k-q,by omega,p+q,f,_,by omega,by omega, ?_, ?_,rfl,hR,by omega,by simp [shrink_upd,hsg,hn]⟩
         ·simp at hal ⊢;omega
         ·simp [flL,Tk.av]
      |true=>
       by_cases hi1:p+1<s.length
       ·have hi1' :decide (((p+1:Nat):Int)<(s.length:Int))=true:=decide_eq_true (by omega)
        have hx1:s[p+1]? =some s[p+1]:=List.getElem?_eq_getElem hi1
        have hda:digAt (s.drop (p+1))=digB s[p+1]:=by rw [drop_cons hi1];rfl
        generalize s[p+1]=d at hx1 hda
        have hD2:PFn Tryz.prog 151 [.int .u8 (d.toNat:Nat)] (.bool (digB d)):=fnr_digit _
        cases hdd:digB d with
        |true=>
         rw [hdd] at hD2 hda
         simp only [go_sem,seval,f0,f5,f6,f7,hi',hx,e32,e9,e10,e13,e37,h1,h2,h3,h4,h37]
         refine pcall hL (by simp only [go_sem,seval]) ?_
         simp only [go_sem,seval]
         refine pcall hD (by simp only [go_sem,seval]) ?_
         simp only [go_sem,seval,f0,f7,e45,h45,hw,hi1',hx1]
         refine pcall hD2 (by simp only [go_sem,seval]) ?_
         simp only [go_sem,seval,hw]
         refine pcall hD (by simp only [go_sem,seval]) ?_
         simp only [go_sem,seval]
         rw [hd,word_neg hnm hdg (by rw [h45,hda];rfl),num_1, ←hd] at hR
         have hs1:=spanN_le digB (s.drop (p+1))
         rw [List.length_drop] at hs1
         refine fnr_l9 s (by omega) (p+1) (0) (by omega) (by omega) (.sl (flL acc) 4 (acc.map Tk.av)) (.sl .own 1 (marksR.map AV.str)) (.int .i64 (p:Nat)) (.int .u8 (c.toNat:Nat)) (.ptr hp.n 0) (by simp [fr_apply,f0]) (by simp [fr_apply,f5]) (by simp [fr_apply,f6]) (by simp [fr_apply,f7]) (by simp [fr_apply]) (by simp [fr_apply]) (by simp [fr_apply]) (by simp [fr_apply]) ?_
         rintro ⟨F2,hp2⟩ rfl g0 g5 g6 g7 g8 g10 g9 g11
         simp only at g0 g5 g6 g7 g8 g10 g9 g11
         generalize digW (0) ((s.drop (p+1)).take (spanN digB (s.drop (p+1))))=V at *
         obtain ⟨q,hq⟩: ∃q,q=spanN digB (s.drop (p+1))+1:=⟨_,rfl⟩
         rw [←hq] at hR
         have hq2:p+1+spanN digB (s.drop (p+1))=p+q:=by omega
         rw [hq2] at g9
         by_cases hV:V>1073741824
         ·have hV' :decide (((min V 1073741825:Nat):Int)>1073741824)=true:=decide_eq_true (by omega)
          rw [if_pos hV] at hR
          simp only at hR
          subst hR
          unfold tkA
          simp only [go_sem,seval,g0,g5,g6,g7,g8,g10,g9,g11,hV']
          refine ⟨.inl rfl, ?_⟩
          simp [shrink_upd,hsg,hn]
         ·have hVm:min V 1073741825=V:=by omega
          rw [hVm] at g11
          have hV' :decide (((V:Nat):Int)>1073741824)=false:=decide_eq_false (by omega)
          have w5:IntKind.i64.wrap (-(V:Int))= -(V:Int):=by rw [wrap64]<;>omega
          have w6:IntKind.i64.wrap (0-(V:Int))= -(V:Int):=by rw [wrap64]<;>omega
          rw [if_neg hV] at hR
          simp only at hR
          rw [List.drop_drop] at hR
          cases acc with
          |nil=>
           simp only [flL,List.map_nil] at g5
           simp only [go_sem,seval,g0,g5,g6,g7,g8,g10,g9,g11,hV',w5,w6,e45,h45,b3,Int.le_refl]
           refine ⟨k-q,by omega,p+q,f,_,by omega,by omega, ?_, ?_,rfl,hR,by omega,by simp [shrink_upd,hsg,hn]⟩
           ·simp;omega
           ·simp [flL,Tk.av]
          |cons x acc=>
           simp only [flL] at g5
           have b4:(acc.length+2) * 40≤140737488355328:=by simp at b1;omega
           have b5:acc.length≤9223372036854775805:=by simp at b2;omega
           simp only [go_sem,seval,g0,g5,g6,g7,g8,g10,g9,g11,hV',w5,w6,e45,h45,b1,b2,b4,b5]
           refine ⟨k-q,by omega,p+q,f,_,by omega,by omega, ?_, ?_,rfl,hR,by omega,by simp [shrink_upd,hsg,hn]⟩
           ·simp at hal ⊢;omega
           ·simp [flL,Tk.av]
        |false=>
         rw [hdd] at hD2 hda
         simp only [go_sem,seval,f0,f5,f6,f7,hi',hx,e32,e9,e10,e13,e37,h1,h2,h3,h4,h37]
         refine pcall hL (by simp only [go_sem,seval]) ?_
         simp only [go_sem,seval]
         refine pcall hD (by simp only [go_sem,seval]) ?_
         simp only [go_sem,seval,f0,f7,e45,h45,hw,hi1',hx1]
         refine pcall hD2 (by simp only [go_sem,seval]) ?_
         simp only [go_sem,seval]
         have hmk:=marks_same (s.drop p)
         rw [hd,word_mark hnm hdg (by rw [h45,hda];rfl), ←hd] at hR
         unfold markW at hR
         rw [←hmk] at hR
         refine fnr_l5 s (by omega) p (by omega) (.sl (flL acc) 4 (acc.map Tk.av)) (.int .u8 (c.toNat:Nat)) hp.n (by simp [fr_apply,f0]) (by simp [fr_apply,f5]) (by simp [fr_apply,f6]) (by simp [fr_apply,f7]) (by simp [fr_apply]) (by simp [fr_apply]) (by simp [fr_apply]) (by simp [fr_apply]) (by simp [bk_apply]) ?_ ?_
         ·intro hf0
          rintro ⟨F2,hp2⟩ rfl g0 g5 g6 g7 g8 g9 g10
          simp only at g0 g5 g6 g7 g8 g9 g10
          rw [hf0] at hR
          simp only at hR
          subst hR
          unfold tkA
          simp only [go_sem,seval,g0,g5,g6,g7,g8,g10,g9]
          refine ⟨.inl rfl, ?_⟩
          simp [shrink_upd,hsg,hn]
         ·intro m hf1
          rintro ⟨F2,hp2⟩ rfl g0 g5 g6 g7 g8 g9 g10
          simp only at g0 g5 g6 g7 g8 g9 g10
          rw [hf1] at hR
          simp only at hR
          have hpm:m.isPrefixOf (s.drop p)=true:=List.find?_some (p:=fun x:List UInt8=>x.isPrefixOf (s.drop p)) hf1
          have hs1:=(List.isPrefixOf_iff_prefix.1 hpm).length_le
          have hs2:=marks_pos m (List.mem_of_find?_eq_some (hmk▸hf1))
          rw [List.length_drop] at hs1
          generalize m.length=q at *
          rw [List.drop_drop] at hR
          cases acc with
          |nil=>
           simp only [flL,List.map_nil] at g5
           simp only [go_sem,seval,g0,g5,g6,g7,g8,g10,g9,b3,Int.le_refl]
           refine ⟨k-q,by omega,p+q,f,_,by omega,by omega, ?_, ?_,rfl,hR,by omega,by simp [shrink_upd,hsg,hn]⟩
           ·simp;omega
           ·simp [flL,Tk.av]
          |cons x acc=>
           simp only [flL] at g5
           have b4:(acc.length+2) * 40≤140737488355328:=by simp at b1;omega
           have b5:acc.length≤9223372036854775805:=by simp at b2;omega
           simp only [go_sem,seval,g0,g5,g6,g7,g8,g10,g9,b1,b2,b4,b5]
           refine ⟨k-q,by omega,p+q,f,_,by omega,by omega, ?_, ?_,rfl,hR,by omega,by simp [shrink_upd,hsg,hn]⟩
           ·simp at hal ⊢;omega
           ·simp [flL,Tk.av]
       ·have hi1' :decide (((p+1:Nat):Int)<(s.length:Int))=false:=decide_eq_false (by omega)
        have hda:digAt (s.drop (p+1))=false:=by rw [List.drop_eq_nil_of_le (by omega)];rfl
        simp only [go_sem,seval,f0,f5,f6,f7,hi',hx,e32,e9,e10,e13,e37,h1,h2,h3,h4,h37]
        refine pcall hL (by simp only [go_sem,seval]) ?_
        simp only [go_sem,seval]
        refine pcall hD (by simp only [go_sem,seval]) ?_
        simp only [go_sem,seval,f0,f7,e45,h45,hw,hi1']
        have hmk:=marks_same (s.drop p)
        rw [hd,word_mark hnm hdg (by rw [h45,hda];rfl), ←hd] at hR
        unfold markW at hR
        rw [←hmk] at hR
        refine fnr_l5 s (by omega) p (by omega) (.sl (flL acc) 4 (acc.map Tk.av)) (.int .u8 (c.toNat:Nat)) hp.n (by simp [fr_apply,f0]) (by simp [fr_apply,f5]) (by simp [fr_apply,f6]) (by simp [fr_apply,f7]) (by simp [fr_apply]) (by simp [fr_apply]) (by simp [fr_apply]) (by simp [fr_apply]) (by simp [bk_apply]) ?_ ?_
        ·intro hf0
         rintro ⟨F2,hp2⟩ rfl g0 g5 g6 g7 g8 g9 g10
         simp only at g0 g5 g6 g7 g8 g9 g10
         rw [hf0] at hR
         simp only at hR
         subst hR
         unfold tkA
         simp only [go_sem,seval,g0,g5,g6,g7,g8,g10,g9]
         refine ⟨.inl rfl, ?_⟩
         simp [shrink_upd,hsg,hn]
        ·intro m hf1
         rintro ⟨F2,hp2⟩ rfl g0 g5 g6 g7 g8 g9 g10
         simp only at g0 g5 g6 g7 g8 g9 g10
         rw [hf1] at hR
         simp only at hR
         have hpm:m.isPrefixOf (s.drop p)=true:=List.find?_some (p:=fun x:List UInt8=>x.isPrefixOf (s.drop p)) hf1
         have hs1:=(List.isPrefixOf_iff_prefix.1 hpm).length_le
         have hs2:=marks_pos m (List.mem_of_find?_eq_some (hmk▸hf1))
         rw [List.length_drop] at hs1
         generalize m.length=q at *
         rw [List.drop_drop] at hR
         cases acc with
         |nil=>
          simp only [flL,List.map_nil] at g5
          simp only [go_sem,seval,g0,g5,g6,g7,g8,g10,g9,b3,Int.le_refl]
          refine ⟨k-q,by omega,p+q,f,_,by omega,by omega, ?_, ?_,rfl,hR,by omega,by simp [shrink_upd,hsg,hn]⟩
          ·simp;omega
          ·simp [flL,Tk.av]
         |cons x acc=>
          simp only [flL] at g5
          have b4:(acc.length+2) * 40≤140737488355328:=by simp at b1;omega
          have b5:acc.length≤9223372036854775805:=by simp at b2;omega
          simp only [go_sem,seval,g0,g5,g6,g7,g8,g10,g9,b1,b2,b4,b5]
          refine ⟨k-q,by omega,p+q,f,_,by omega,by omega, ?_, ?_,rfl,hR,by omega,by simp [shrink_upd,hsg,hn]⟩
          ·simp at hal ⊢;omega
          ·simp [flL,Tk.av]
 ·have hi' :decide ((p:Int)<(s.length:Int))=false:=decide_eq_false (by omega)
  have hps:p=s.length:=by omega
  have hdn:s.drop p= []:=List.drop_eq_nil_of_le (by omega)
  rw [hdn,toksF_succ] at hR
  simp only [skipN,List.drop_nil,toksG,if_true,Nat.add_zero] at hR
  subst hR
  unfold tkA
  have a1:(acc.length+1) * 40≤140737488355328:=by omega
  have a2:acc.length≤9223372036854775806:=by omega
  have lb:=lab_tks h.n acc
  subst hps
  cases acc with
  |nil=>
   simp only [flL,List.map_nil] at f5
   have a3:1 * 40≤140737488355328:=by omega
   simp only [go_sem,seval,f0,f5,f6,f7,hi',a3,Int.le_refl]
   exact ⟨by simp [flK,Tk.av],rfl,hsh⟩
  |cons x acc=>
   simp only [flL] at f5
   have a4:(acc.length+2) * 40≤140737488355328:=by simp at a1;omega
   have a5:acc.length≤9223372036854775805:=by simp at a2;omega
   simp only [go_sem,seval,f0,f5,f6,f7,hi',a1,a2,a4,a5]
   exact ⟨by simp [flK,Tk.av],by have:=lab_tks h.n (x::(acc++ [⟨5, [],0,s.length⟩]));simpa [labL] using this,hsh⟩
end Go.Proofs.YtnibelnjflhkgaaGreatDoor.Ab

/- What is like itself is told so: terms, patterns, guards, clauses, rules, programs. No condition. Both readers tell the same: terms and patterns. No condition. Both readers tell the same: guards, clauses, rules, programs. No condition. -/
import Derived.Test.YtnibelnjflhkgaaGreatDoorRoE
import Derived.Test.YtnibelnjflhkgaaGreatDoorAbC
import Derived.Test.YtnibelnjflhkgaaGreatDoorLr0
import Derived.Test.YtnibelnjflhkgaaGreatDoorRpE
namespace Go.Proofs.YtnibelnjflhkgaaGreatDoor.Ab
set_option linter.unusedVariables false
set_option linter.unusedSimpArgs false
set_option maxRecDepth 10000
theorem c37:compF Tryz.prog ow Tryz.f37=(some (45,([(.t 4)],(.seq (.ops [(none,(.box 2 (.t 0))),(none,(.box 3 (.t 1))),(none,(.set 4 (.bool false)))]) (.seq (.ops [(none,(.fa (some 5) (.t 2) 0)),(none,(.ld (some 6) (.t 5) (.one none))),(none,(.fa (some 7) (.t 3) 0)),(none,(.ld (some 8) (.t 7) (.one none))),(none,(.bin (some 9) .eql (.t 6) (.t 8) false false)),(none,(.cp 10 9)),((some (10,true)),(.fa (some 11) (.t 2) 1)),((some (10,true)),(.ld (some 12) (.t 11) (.agg 4))),((some (10,true)),(.fa (some 13) (.t 3) 1)),((some (10,true)),(.ld (some 14) (.t 13) (.agg 4))),((some (10,true)),(.call (some 15) (.k (.func 24 [] [])) [(.t 12),(.t 14)] none)),(none,(.pick (some 16) (.t 10) (.t 15) (.k (.bool false)))),(none,(.cp 17 16)),((some (17,true)),(.fa (some 18) (.t 2) 5)),((some (17,true)),(.ld (some 19) (.t 18) (.one none))),((some (17,true)),(.fa (some 20) (.t 3) 5)),((some (17,true)),(.ld (some 21) (.t 20) (.one none))),((some (17,true)),(.bin (some 22) .eql (.t 19) (.t 21) false false)),(none,(.pick (some 23) (.t 17) (.t 22) (.k (.bool false)))),(none,(.cp 24 23)),((some (24,true)),(.fa (some 25) (.t 2) 6)),((some (24,true)),(.ld (some 26) (.t 25) (.one (some 9)))),((some (24,true)),(.fa (some 27) (.t 3) 6)),((some (24,true)),(.ld (some 28) (.t 27) (.one (some 9)))),((some (24,true)),(.call (some 29) (.k (.func 88 [] [])) [(.t 26),(.t 28)] none)),(none,(.pick (some 30) (.t 24) (.t 29) (.k (.bool false)))),(none,(.cp 31 30)),((some (31,true)),(.fa (some 32) (.t 2) 7)),((some (31,true)),(.ld (some 33) (.t 32) (.one (some 9)))),((some (31,true)),(.fa (some 34) (.t 3) 7)),((some (31,true)),(.ld (some 35) (.t 34) (.one (some 9)))),((some (31,true)),(.call (some 36) (.k (.func 88 [] [])) [(.t 33),(.t 35)] none)),(none,(.pick (some 37) (.t 31) (.t 36) (.k (.bool false)))),(none,(.cp 38 37)),((some (38,true)),(.fa (some 39) (.t 2) 8)),((some (38,true)),(.ld (some 40) (.t 39) (.one (some 9)))),((some (38,true)),(.fa (some 41) (.t 3) 8)),((some (38,true)),(.ld (some 42) (.t 41) (.one (some 9)))),((some (38,true)),(.call (some 43) (.k (.func 88 [] [])) [(.t 40),(.t 42)] none)),(none,(.pick (some 44) (.t 38) (.t 43) (.k (.bool false)))),(none,(.mv 4 44))]) .ret))))):=by kernel_rfl
theorem c88:compF Tryz.prog ow Tryz.f88=(some (27,([(.t 4)],(.seq (.ops [(none,(.set 4 (.bool false)))]) (.seq (.seq (.ops [(none,(.cp 6 0)),(none,(.len (some 7) (.t 6) false true)),(none,(.cp 8 1)),(none,(.len (some 9) (.t 8) false true)),(none,(.bin (some 10) .neq (.t 7) (.t 9) false false))]) (.cond (.t 10) (.seq (.ops [(none,(.set 4 (.bool false)))]) .ret) .skip)) (.seq (.seq (.ops [(none,(.set 5 (.int .i64 0)))]) (.block 0 (.loop (.seq (.seq (.ops [(none,(.cp 11 5)),(none,(.cp 12 0)),(none,(.len (some 13) (.t 12) false true)),(none,(.bin (some 14) .lss (.t 11) (.t 13) false false))]) (.cond (.t 14) .skip (.exit 0))) (.seq (.block 1 (.seq (.opsD [(none,(.cp 17 0)),(none,(.cp 18 5)),(none,(.ia (some 19) (.t 17) (.t 18) (some 9) none)),(none,(.ld (some 20) (.t 19) (.agg 9))),(none,(.cp 21 1)),(none,(.cp 22 5)),(none,(.ia (some 23) (.t 21) (.t 22) (some 9) none)),(none,(.ld (some 24) (.t 23) (.agg 9))),(none,(.call (some 25) (.k (.func 37 [] [])) [(.t 20),(.t 24)] none)),(none,(.un (some 26) .not (.t 25)))]) (.cond (.t 26) (.seq (.ops [(none,(.set 4 (.bool false)))]) .ret) .skip))) (.ops [(none,(.cp 15 5)),(none,(.bin (some 16) .add (.t 15) (.k (.int .i64 1)) false false)),(none,(.mv 5 16))])))))) (.seq (.ops [(none,(.set 4 (.bool true)))]) .ret))))))):=by kernel_rfl
theorem c201:compF Tryz.prog ow Tryz.f201=(some (24,([(.t 4)],(.seq (.ops [(none,(.box 2 (.t 0))),(none,(.box 3 (.t 1))),(none,(.set 4 (.bool false)))]) (.seq (.ops [(none,(.fa (some 5) (.t 2) 0)),(none,(.ld (some 6) (.t 5) (.one none))),(none,(.fa (some 7) (.t 3) 0)),(none,(.ld (some 8) (.t 7) (.one none))),(none,(.bin (some 9) .eql (.t 6) (.t 8) false false)),(none,(.cp 10 9)),((some (10,true)),(.fa (some 11) (.t 2) 1)),((some (10,true)),(.ld (some 12) (.t 11) (.agg 4))),((some (10,true)),(.fa (some 13) (.t 3) 1)),((some (10,true)),(.ld (some 14) (.t 13) (.agg 4))),((some (10,true)),(.call (some 15) (.k (.func 24 [] [])) [(.t 12),(.t 14)] none)),(none,(.pick (some 16) (.t 10) (.t 15) (.k (.bool false)))),(none,(.cp 17 16)),((some (17,true)),(.fa (some 18) (.t 2) 5)),((some (17,true)),(.ld (some 19) (.t 18) (.agg 4))),((some (17,true)),(.fa (some 20) (.t 3) 5)),((some (17,true)),(.ld (some 21) (.t 20) (.agg 4))),((some (17,true)),(.call (some 22) (.k (.func 24 [] [])) [(.t 19),(.t 21)] none)),(none,(.pick (some 23) (.t 17) (.t 22) (.k (.bool false)))),(none,(.mv 4 23))]) .ret))))):=by kernel_rfl
theorem c158:compF Tryz.prog ow Tryz.f158=(some (27,([(.t 4)],(.seq (.ops [(none,(.set 4 (.bool false)))]) (.seq (.seq (.ops [(none,(.cp 6 0)),(none,(.len (some 7) (.t 6) false true)),(none,(.cp 8 1)),(none,(.len (some 9) (.t 8) false true)),(none,(.bin (some 10) .neq (.t 7) (.t 9) false false))]) (.cond (.t 10) (.seq (.ops [(none,(.set 4 (.bool false)))]) .ret) .skip)) (.seq (.seq (.ops [(none,(.set 5 (.int .i64 0)))]) (.block 0 (.loop (.seq (.seq (.ops [(none,(.cp 11 5)),(none,(.cp 12 0)),(none,(.len (some 13) (.t 12) false true)),(none,(.bin (some 14) .lss (.t 11) (.t 13) false false))]) (.cond (.t 14) .skip (.exit 0))) (.seq (.block 1 (.seq (.opsD [(none,(.cp 17 0)),(none,(.cp 18 5)),(none,(.ia (some 19) (.t 17) (.t 18) (some 9) none)),(none,(.ld (some 20) (.t 19) (.agg 9))),(none,(.cp 21 1)),(none,(.cp 22 5)),(none,(.ia (some 23) (.t 21) (.t 22) (some 9) none)),(none,(.ld (some 24) (.t 23) (.agg 9))),(none,(.call (some 25) (.k (.func 201 [] [])) [(.t 20),(.t 24)] none)),(none,(.un (some 26) .not (.t 25)))]) (.cond (.t 26) (.seq (.ops [(none,(.set 4 (.bool false)))]) .ret) .skip))) (.ops [(none,(.cp 15 5)),(none,(.bin (some 16) .add (.t 15) (.k (.int .i64 1)) false false)),(none,(.mv 5 16))])))))) (.seq (.ops [(none,(.set 4 (.bool true)))]) .ret))))))):=by kernel_rfl
theorem c110:compF Tryz.prog ow Tryz.f110=(some (24,([(.t 4)],(.seq (.ops [(none,(.box 2 (.t 0))),(none,(.box 3 (.t 1))),(none,(.set 4 (.bool false)))]) (.seq (.ops [(none,(.fa (some 5) (.t 2) 0)),(none,(.ld (some 6) (.t 5) (.agg 4))),(none,(.fa (some 7) (.t 3) 0)),(none,(.ld (some 8) (.t 7) (.agg 4))),(none,(.call (some 9) (.k (.func 24 [] [])) [(.t 6),(.t 8)] none)),(none,(.cp 10 9)),((some (10,true)),(.fa (some 11) (.t 2) 4)),((some (10,true)),(.ld (some 12) (.t 11) (.one (some 4)))),((some (10,true)),(.fa (some 13) (.t 3) 4)),((some (10,true)),(.ld (some 14) (.t 13) (.one (some 4)))),((some (10,true)),(.call (some 15) (.k (.func 64 [] [])) [(.t 12),(.t 14)] none)),(none,(.pick (some 16) (.t 10) (.t 15) (.k (.bool false)))),(none,(.cp 17 16)),((some (17,true)),(.fa (some 18) (.t 2) 5)),((some (17,true)),(.ld (some 19) (.t 18) (.one (some 9)))),((some (17,true)),(.fa (some 20) (.t 3) 5)),((some (17,true)),(.ld (some 21) (.t 20) (.one (some 9)))),((some (17,true)),(.call (some 22) (.k (.func 158 [] [])) [(.t 19),(.t 21)] none)),(none,(.pick (some 23) (.t 17) (.t 22) (.k (.bool false)))),(none,(.mv 4 23))]) .ret))))):=by kernel_rfl
theorem c60:compF Tryz.prog ow Tryz.f60=(some (27,([(.t 4)],(.seq (.ops [(none,(.set 4 (.bool false)))]) (.seq (.seq (.ops [(none,(.cp 6 0)),(none,(.len (some 7) (.t 6) false true)),(none,(.cp 8 1)),(none,(.len (some 9) (.t 8) false true)),(none,(.bin (some 10) .neq (.t 7) (.t 9) false false))]) (.cond (.t 10) (.seq (.ops [(none,(.set 4 (.bool false)))]) .ret) .skip)) (.seq (.seq (.ops [(none,(.set 5 (.int .i64 0)))]) (.block 0 (.loop (.seq (.seq (.ops [(none,(.cp 11 5)),(none,(.cp 12 0)),(none,(.len (some 13) (.t 12) false true)),(none,(.bin (some 14) .lss (.t 11) (.t 13) false false))]) (.cond (.t 14) .skip (.exit 0))) (.seq (.block 1 (.seq (.opsD [(none,(.cp 17 0)),(none,(.cp 18 5)),(none,(.ia (some 19) (.t 17) (.t 18) (some 6) none)),(none,(.ld (some 20) (.t 19) (.agg 6))),(none,(.cp 21 1)),(none,(.cp 22 5)),(none,(.ia (some 23) (.t 21) (.t 22) (some 6) none)),(none,(.ld (some 24) (.t 23) (.agg 6))),(none,(.call (some 25) (.k (.func 110 [] [])) [(.t 20),(.t 24)] none)),(none,(.un (some 26) .not (.t 25)))]) (.cond (.t 26) (.seq (.ops [(none,(.set 4 (.bool false)))]) .ret) .skip))) (.ops [(none,(.cp 15 5)),(none,(.bin (some 16) .add (.t 15) (.k (.int .i64 1)) false false)),(none,(.mv 5 16))])))))) (.seq (.ops [(none,(.set 4 (.bool true)))]) .ret))))))):=by kernel_rfl
theorem c111:compF Tryz.prog ow Tryz.f111=(some (38,([(.t 4)],(.seq (.ops [(none,(.box 2 (.t 0))),(none,(.box 3 (.t 1))),(none,(.set 4 (.bool false)))]) (.seq (.ops [(none,(.fa (some 5) (.t 2) 0)),(none,(.ld (some 6) (.t 5) (.agg 4))),(none,(.fa (some 7) (.t 3) 0)),(none,(.ld (some 8) (.t 7) (.agg 4))),(none,(.call (some 9) (.k (.func 24 [] [])) [(.t 6),(.t 8)] none)),(none,(.cp 10 9)),((some (10,true)),(.fa (some 11) (.t 2) 4)),((some (10,true)),(.ld (some 12) (.t 11) (.agg 9))),((some (10,true)),(.fa (some 13) (.t 3) 4)),((some (10,true)),(.ld (some 14) (.t 13) (.agg 9))),((some (10,true)),(.call (some 15) (.k (.func 37 [] [])) [(.t 12),(.t 14)] none)),(none,(.pick (some 16) (.t 10) (.t 15) (.k (.bool false)))),(none,(.cp 17 16)),((some (17,true)),(.fa (some 18) (.t 2) 13)),((some (17,true)),(.ld (some 19) (.t 18) (.one (some 9)))),((some (17,true)),(.fa (some 20) (.t 3) 13)),((some (17,true)),(.ld (some 21) (.t 20) (.one (some 9)))),((some (17,true)),(.call (some 22) (.k (.func 158 [] [])) [(.t 19),(.t 21)] none)),(none,(.pick (some 23) (.t 17) (.t 22) (.k (.bool false)))),(none,(.cp 24 23)),((some (24,true)),(.fa (some 25) (.t 2) 14)),((some (24,true)),(.ld (some 26) (.t 25) (.one none))),((some (24,true)),(.fa (some 27) (.t 3) 14)),((some (24,true)),(.ld (some 28) (.t 27) (.one none))),((some (24,true)),(.bin (some 29) .eql (.t 26) (.t 28) false false)),(none,(.pick (some 30) (.t 24) (.t 29) (.k (.bool false)))),(none,(.cp 31 30)),((some (31,true)),(.fa (some 32) (.t 2) 15)),((some (31,true)),(.ld (some 33) (.t 32) (.one none))),((some (31,true)),(.fa (some 34) (.t 3) 15)),((some (31,true)),(.ld (some 35) (.t 34) (.one none))),((some (31,true)),(.bin (some 36) .eql (.t 33) (.t 35) false false)),(none,(.pick (some 37) (.t 31) (.t 36) (.k (.bool false)))),(none,(.mv 4 37))]) .ret))))):=by kernel_rfl
theorem c61:compF Tryz.prog ow Tryz.f61=(some (27,([(.t 4)],(.seq (.ops [(none,(.set 4 (.bool false)))]) (.seq (.seq (.ops [(none,(.cp 6 0)),(none,(.len (some 7) (.t 6) false true)),(none,(.cp 8 1)),(none,(.len (some 9) (.t 8) false true)),(none,(.bin (some 10) .neq (.t 7) (.t 9) false false))]) (.cond (.t 10) (.seq (.ops [(none,(.set 4 (.bool false)))]) .ret) .skip)) (.seq (.seq (.ops [(none,(.set 5 (.int .i64 0)))]) (.block 0 (.loop (.seq (.seq (.ops [(none,(.cp 11 5)),(none,(.cp 12 0)),(none,(.len (some 13) (.t 12) false true)),(none,(.bin (some 14) .lss (.t 11) (.t 13) false false))]) (.cond (.t 14) .skip (.exit 0))) (.seq (.block 1 (.seq (.opsD [(none,(.cp 17 0)),(none,(.cp 18 5)),(none,(.ia (some 19) (.t 17) (.t 18) (some 16) none)),(none,(.ld (some 20) (.t 19) (.agg 16))),(none,(.cp 21 1)),(none,(.cp 22 5)),(none,(.ia (some 23) (.t 21) (.t 22) (some 16) none)),(none,(.ld (some 24) (.t 23) (.agg 16))),(none,(.call (some 25) (.k (.func 111 [] [])) [(.t 20),(.t 24)] none)),(none,(.un (some 26) .not (.t 25)))]) (.cond (.t 26) (.seq (.ops [(none,(.set 4 (.bool false)))]) .ret) .skip))) (.ops [(none,(.cp 15 5)),(none,(.bin (some 16) .add (.t 15) (.k (.int .i64 1)) false false)),(none,(.mv 5 16))])))))) (.seq (.ops [(none,(.set 4 (.bool true)))]) .ret))))))):=by kernel_rfl
theorem c19:compF Tryz.prog ow Tryz.f19=(some (17,([(.t 4)],(.seq (.ops [(none,(.box 2 (.t 0))),(none,(.box 3 (.t 1))),(none,(.set 4 (.bool false)))]) (.seq (.ops [(none,(.fa (some 5) (.t 2) 0)),(none,(.ld (some 6) (.t 5) (.one (some 6)))),(none,(.fa (some 7) (.t 3) 0)),(none,(.ld (some 8) (.t 7) (.one (some 6)))),(none,(.call (some 9) (.k (.func 60 [] [])) [(.t 6),(.t 8)] none)),(none,(.cp 10 9)),((some (10,true)),(.fa (some 11) (.t 2) 1)),((some (10,true)),(.ld (some 12) (.t 11) (.one (some 16)))),((some (10,true)),(.fa (some 13) (.t 3) 1)),((some (10,true)),(.ld (some 14) (.t 13) (.one (some 16)))),((some (10,true)),(.call (some 15) (.k (.func 61 [] [])) [(.t 12),(.t 14)] none)),(none,(.pick (some 16) (.t 10) (.t 15) (.k (.bool false)))),(none,(.mv 4 16))]) .ret))))):=by kernel_rfl
theorem wrap_s {i n:Nat} (h:i<n) (hn:n≤9223372036854775807):IntKind.i64.wrap ((i:Int)+1)=((i+1:Nat):Int):=by rw [wrap64]<;>omega
def Gu.av (g:Gu):AV:=match g.l,g.r with| .mk a b c d, .mk a' b' c' d' => .agg [.int .i64 g.k, .int .i64 a, .str b, .int .i64 c, .sl .sh 4 (d.map T.av), .int .i64 a', .str b', .int .i64 c', .sl .sh 4 (d'.map T.av)]
def Cl.av (c:Cl):AV:=match c.h with| .mk a b' c' d=> .agg [.int .i64 a, .str b', .int .i64 c', .sl .sh 4 (d.map T.av), .sl .sh 4 (c.b.map T.av), .sl .sh 9 (c.g.map Gu.av)]
def Ru.av (r:Ru):AV:=match r.h,r.b with
 | .mk a b' c d, .mk k (.mk tk tn tv tl) rel pl pr pc=> .agg [.int .i64 a, .str b', .int .i64 c, .sl .sh 4 (d.map T.av), .int .i64 k, .int .i64 tk, .str tn, .int .i64 tv, .sl .sh 4 (tl.map T.av), .int .i64 rel, .sl .sh 9 (pl.map Pn.av), .sl .sh 9 (pr.map Pn.av), .sl .sh 9 (pc.map Pn.av), .sl .sh 9 (r.g.map Gu.av), .int .i64 r.w, .int .i64 r.p]
def Pr.av (p:Pr):AV:= .agg [.sl .sh 6 (p.c.map Cl.av), .sl .sh 16 (p.r.map Ru.av)]
theorem fkL_avf (l:List T):fkL (l.map T.avf)=l.map T.av:=by rw [fkL_map,List.map_map];exact List.map_congr_left fun x _=>fk_avf x
theorem fkL_pavf (l:List Pn):fkL (l.map Pn.avf)=l.map Pn.av:=by rw [fkL_map,List.map_map];exact List.map_congr_left fun x _=>fk_pavf x
theorem fk_gu (g:Gu):fk g.avf=g.av:=by obtain ⟨k,⟨a,b,c,d⟩,⟨a',b',c',d'⟩⟩:=g;simp [Gu.avf,Gu.av,fk,fkL,fkL_avf]
theorem fkL_gu (l:List Gu):fkL (l.map Gu.avf)=l.map Gu.av:=by rw [fkL_map,List.map_map];exact List.map_congr_left fun x _=>fk_gu x
theorem fk_cl (c:Cl):fk c.avf=c.av:=by obtain ⟨⟨a,b',c,d⟩,b,g⟩:=c;simp [Cl.avf,Cl.av,fk,fkL,fkL_avf,fkL_gu]
theorem fk_ru (c:Ru):fk c.avf=c.av:=by obtain ⟨⟨a,b',c,d⟩,⟨k,⟨tk,tn,tv,tl⟩,rel,pl,pr,pc⟩,g,w,p⟩:=c;simp [Ru.avf,Ru.av,fk,fkL,fkL_avf,fkL_gu,fkL_pavf]
theorem fkL_cl (l:List Cl):fkL (l.map Cl.avf)=l.map Cl.av:=by rw [fkL_map,List.map_map];exact List.map_congr_left fun x _=>fk_cl x
theorem fkL_ru (l:List Ru):fkL (l.map Ru.avf)=l.map Ru.av:=by rw [fkL_map,List.map_map];exact List.map_congr_left fun x _=>fk_ru x
theorem fk_pr (p:Pr):fk p.avf=p.av:=by simp [Pr.avf,Pr.av,fk,fkL,fkL_cl,fkL_ru]
theorem guv_agg (g:Gu):AV.agg g.av.cells=g.av:=by obtain ⟨k,⟨a,b,c,d⟩,⟨a',b',c',d'⟩⟩:=g;rfl
theorem guv_len (g:Gu):g.av.cells.length=9:=by obtain ⟨k,⟨a,b,c,d⟩,⟨a',b',c',d'⟩⟩:=g;rfl
theorem guv_take (g:Gu):List.take 9 g.av.cells=g.av.cells:=by obtain ⟨k,⟨a,b,c,d⟩,⟨a',b',c',d'⟩⟩:=g;rfl
theorem guv_strip (g:Gu):strip g.av=g.av:=by obtain ⟨k,⟨a,b,c,d⟩,⟨a',b',c',d'⟩⟩:=g;rfl
theorem guv_own (g:Gu):isOwn g.av=false:=by obtain ⟨k,⟨a,b,c,d⟩,⟨a',b',c',d'⟩⟩:=g;rfl
theorem guv_okc (g:Gu):okc g.av=true:=by obtain ⟨k,⟨a,b,c,d⟩,⟨a',b',c',d'⟩⟩:=g;rfl
theorem guv_cstrip (g:Gu):g.av.cells.map strip=g.av.cells:=by obtain ⟨k,⟨a,b,c,d⟩,⟨a',b',c',d'⟩⟩:=g;rfl
theorem clv_agg (c:Cl):AV.agg c.av.cells=c.av:=by obtain ⟨⟨a,b',c,d⟩,b,g⟩:=c;rfl
theorem clv_len (c:Cl):c.av.cells.length=6:=by obtain ⟨⟨a,b',c,d⟩,b,g⟩:=c;rfl
theorem clv_take (c:Cl):List.take 6 c.av.cells=c.av.cells:=by obtain ⟨⟨a,b',c,d⟩,b,g⟩:=c;rfl
theorem clv_strip (c:Cl):strip c.av=c.av:=by obtain ⟨⟨a,b',c,d⟩,b,g⟩:=c;rfl
theorem clv_own (c:Cl):isOwn c.av=false:=by obtain ⟨⟨a,b',c,d⟩,b,g⟩:=c;rfl
theorem clv_okc (c:Cl):okc c.av=true:=by obtain ⟨⟨a,b',c,d⟩,b,g⟩:=c;rfl
theorem clv_cstrip (c:Cl):c.av.cells.map strip=c.av.cells:=by obtain ⟨⟨a,b',c,d⟩,b,g⟩:=c;rfl
theorem ruv_agg (c:Ru):AV.agg c.av.cells=c.av:=by obtain ⟨⟨a,b',c,d⟩,⟨k,⟨tk,tn,tv,tl⟩,rel,pl,pr,pc⟩,g,w,p⟩:=c;rfl
theorem ruv_len (c:Ru):c.av.cells.length=16:=by obtain ⟨⟨a,b',c,d⟩,⟨k,⟨tk,tn,tv,tl⟩,rel,pl,pr,pc⟩,g,w,p⟩:=c;rfl
theorem ruv_take (c:Ru):List.take 16 c.av.cells=c.av.cells:=by obtain ⟨⟨a,b',c,d⟩,⟨k,⟨tk,tn,tv,tl⟩,rel,pl,pr,pc⟩,g,w,p⟩:=c;rfl
theorem ruv_strip (c:Ru):strip c.av=c.av:=by obtain ⟨⟨a,b',c,d⟩,⟨k,⟨tk,tn,tv,tl⟩,rel,pl,pr,pc⟩,g,w,p⟩:=c;rfl
theorem ruv_own (c:Ru):isOwn c.av=false:=by obtain ⟨⟨a,b',c,d⟩,⟨k,⟨tk,tn,tv,tl⟩,rel,pl,pr,pc⟩,g,w,p⟩:=c;rfl
theorem ruv_okc (c:Ru):okc c.av=true:=by obtain ⟨⟨a,b',c,d⟩,⟨k,⟨tk,tn,tv,tl⟩,rel,pl,pr,pc⟩,g,w,p⟩:=c;rfl
theorem ruv_cstrip (c:Ru):c.av.cells.map strip=c.av.cells:=by obtain ⟨⟨a,b',c,d⟩,⟨k,⟨tk,tn,tv,tl⟩,rel,pl,pr,pc⟩,g,w,p⟩:=c;rfl
attribute [go_sem] guv_agg guv_len guv_take guv_strip guv_own guv_okc guv_cstrip clv_agg clv_len clv_take clv_strip clv_own clv_okc clv_cstrip ruv_agg ruv_len ruv_take ruv_strip ruv_own ruv_okc ruv_cstrip
theorem fe_terms (l:List T) (ih: ∀x∈l,PFn Tryz.prog 24 [T.av x,T.av x] (.bool true)):PFn Tryz.prog 64 [.sl .sh 4 (l.map T.av), .sl .sh 4 (l.map T.av)] (.bool true):=by
 refine pfn_bd rfl fun hbd=> ?_
 have hl:l.length≤9223372036854775807:=by simpa using hbd.1.1
 clear hbd
 intro h
 refine fnC mixed Tryz.func64 c64 (by simp) ?_
 have hne:((l.length:Int) !=(l.length:Int))=false:=by simp
 simp only [go_sem,seval,hne]
 refine cloop (fun k t=> ∃i:Nat,i+k=l.length∧t.fr 0= .sl .sh 4 (l.map T.av)∧t.fr 1= .sl .sh 4 (l.map T.av)∧t.fr 5= .int .i64 (i:Nat)∧t.hp=h) l.length ⟨0,by simp [fr_apply,argsF]⟩ ?_
 rintro k ⟨f,hp⟩ ⟨i,hk,h0,h1,h5,rfl⟩
 simp only at h0 h1 h5
 by_cases hi:i<l.length
 ·have hi' :decide ((i:Int)<(l.length:Int))=true:=decide_eq_true (by omega)
  have hw:=wrap_s hi hl
  have hg:(l.map T.av)[i]? =some (T.av l[i]):=by simp [List.getElem?_eq_getElem hi]
  simp only [go_sem,seval,h0,h1,h5,hi',hg]
  refine pcallD (ih _ (List.getElem_mem hi)) (by simp only [go_sem,seval]) ?_
  simp only [go_sem,seval,h0,h1,h5,hw]
  exact ⟨k-1,by omega,i+1,by omega,rfl⟩
 ·have hi' :decide ((i:Int)<(l.length:Int))=false:=decide_eq_false (by omega)
  simp only [go_sem,seval,h0,h1,h5,hi']
theorem fe_term: ∀x:T,PFn Tryz.prog 24 [x.av,x.av] (.bool true):=by
 refine T.ind ?_
 intro k n v l ih h
 rw [av_mk]
 refine fnC mixed Tryz.func24 c24 (by simp) ?_
 simp only [go_sem,seval]
 refine pcall (fe_terms l ih) (by simp only [go_sem,seval]) ?_
 simp only [go_sem,seval]
theorem fe_pats (l:List Pn) (ih: ∀x∈l,PFn Tryz.prog 37 [Pn.av x,Pn.av x] (.bool true)):PFn Tryz.prog 88 [.sl .sh 9 (l.map Pn.av), .sl .sh 9 (l.map Pn.av)] (.bool true):=by
 refine pfn_bd rfl fun hbd=> ?_
 have hl:l.length≤9223372036854775807:=by simpa using hbd.1.1
 clear hbd
 intro h
 refine fnC mixed Tryz.func88 c88 (by simp) ?_
 have hne:((l.length:Int) !=(l.length:Int))=false:=by simp
 simp only [go_sem,seval,hne]
 refine cloop (fun k t=> ∃i:Nat,i+k=l.length∧t.fr 0= .sl .sh 9 (l.map Pn.av)∧t.fr 1= .sl .sh 9 (l.map Pn.av)∧t.fr 5= .int .i64 (i:Nat)∧t.hp=h) l.length ⟨0,by simp [fr_apply,argsF]⟩ ?_
 rintro k ⟨f,hp⟩ ⟨i,hk,h0,h1,h5,rfl⟩
 simp only at h0 h1 h5
 by_cases hi:i<l.length
 ·have hi' :decide ((i:Int)<(l.length:Int))=true:=decide_eq_true (by omega)
  have hw:=wrap_s hi hl
  have hg:(l.map Pn.av)[i]? =some (Pn.av l[i]):=by simp [List.getElem?_eq_getElem hi]
  simp only [go_sem,seval,h0,h1,h5,hi',hg]
  refine pcallD (ih _ (List.getElem_mem hi)) (by simp only [go_sem,seval]) ?_
  simp only [go_sem,seval,h0,h1,h5,hw]
  exact ⟨k-1,by omega,i+1,by omega,rfl⟩
 ·have hi' :decide ((i:Int)<(l.length:Int))=false:=decide_eq_false (by omega)
  simp only [go_sem,seval,h0,h1,h5,hi']
theorem fe_pat: ∀x:Pn,PFn Tryz.prog 37 [x.av,x.av] (.bool true):=by
 refine Pn.ind ?_
 intro k t rel l r c il ir ic h
 obtain ⟨tk,tn,tv,tl⟩:=t
 have hT:=fe_term (.mk tk tn tv tl)
 rw [av_mk] at hT
 rw [pav_mk]
 refine fnC mixed Tryz.func37 c37 (by simp) ?_
 simp only [go_sem,seval]
 refine pcall hT (by simp only [go_sem,seval]) ?_
 simp only [go_sem,seval]
 refine pcall (fe_pats l il) (by simp only [go_sem,seval]) ?_
 simp only [go_sem,seval]
 refine pcall (fe_pats r ir) (by simp only [go_sem,seval]) ?_
 simp only [go_sem,seval]
 refine pcall (fe_pats c ic) (by simp only [go_sem,seval]) ?_
 simp only [go_sem,seval]
theorem fe_guard (g:Gu):PFn Tryz.prog 201 [g.av,g.av] (.bool true):=by
 obtain ⟨k,⟨a,b,c,d⟩,⟨a',b',c',d'⟩⟩:=g
 have h1:=fe_term (.mk a b c d)
 have h2:=fe_term (.mk a' b' c' d')
 rw [av_mk] at h1 h2
 intro h
 rw [Gu.av]
 refine fnC mixed Tryz.func201 c201 (by simp) ?_
 simp only [go_sem,seval]
 refine pcall h1 (by simp only [go_sem,seval]) ?_
 simp only [go_sem,seval]
 refine pcall h2 (by simp only [go_sem,seval]) ?_
 simp only [go_sem,seval]
theorem fe_guards (l:List Gu) (ih: ∀x∈l,PFn Tryz.prog 201 [Gu.av x,Gu.av x] (.bool true)):PFn Tryz.prog 158 [.sl .sh 9 (l.map Gu.av), .sl .sh 9 (l.map Gu.av)] (.bool true):=by
 refine pfn_bd rfl fun hbd=> ?_
 have hl:l.length≤9223372036854775807:=by simpa using hbd.1.1
 clear hbd
 intro h
 refine fnC mixed Tryz.func158 c158 (by simp) ?_
 have hne:((l.length:Int) !=(l.length:Int))=false:=by simp
 simp only [go_sem,seval,hne]
 refine cloop (fun k t=> ∃i:Nat,i+k=l.length∧t.fr 0= .sl .sh 9 (l.map Gu.av)∧t.fr 1= .sl .sh 9 (l.map Gu.av)∧t.fr 5= .int .i64 (i:Nat)∧t.hp=h) l.length ⟨0,by simp [fr_apply,argsF]⟩ ?_
 rintro k ⟨f,hp⟩ ⟨i,hk,h0,h1,h5,rfl⟩
 simp only at h0 h1 h5
 by_cases hi:i<l.length
 ·have hi' :decide ((i:Int)<(l.length:Int))=true:=decide_eq_true (by omega)
  have hw:=wrap_s hi hl
  have hg:(l.map Gu.av)[i]? =some (Gu.av l[i]):=by simp [List.getElem?_eq_getElem hi]
  simp only [go_sem,seval,h0,h1,h5,hi',hg]
  refine pcallD (ih _ (List.getElem_mem hi)) (by simp only [go_sem,seval]) ?_
  simp only [go_sem,seval,h0,h1,h5,hw]
  exact ⟨k-1,by omega,i+1,by omega,rfl⟩
 ·have hi' :decide ((i:Int)<(l.length:Int))=false:=decide_eq_false (by omega)
  simp only [go_sem,seval,h0,h1,h5,hi']
theorem fe_clause (c:Cl):PFn Tryz.prog 110 [c.av,c.av] (.bool true):=by
 obtain ⟨⟨a,b',c,d⟩,b,g⟩:=c
 have h1:=fe_term (.mk a b' c d)
 have h2:=fe_terms b fun x _=>fe_term x
 have h3:=fe_guards g fun x _=>fe_guard x
 rw [av_mk] at h1
 intro h
 rw [Cl.av]
 refine fnC mixed Tryz.func110 c110 (by simp) ?_
 simp only [go_sem,seval]
 refine pcall h1 (by simp only [go_sem,seval]) ?_
 simp only [go_sem,seval]
 refine pcall h2 (by simp only [go_sem,seval]) ?_
 simp only [go_sem,seval]
 refine pcall h3 (by simp only [go_sem,seval]) ?_
 simp only [go_sem,seval]
theorem fe_clauses (l:List Cl) (ih: ∀x∈l,PFn Tryz.prog 110 [Cl.av x,Cl.av x] (.bool true)):PFn Tryz.prog 60 [.sl .sh 6 (l.map Cl.av), .sl .sh 6 (l.map Cl.av)] (.bool true):=by
 refine pfn_bd rfl fun hbd=> ?_
 have hl:l.length≤9223372036854775807:=by simpa using hbd.1.1
 clear hbd
 intro h
 refine fnC mixed Tryz.func60 c60 (by simp) ?_
 have hne:((l.length:Int) !=(l.length:Int))=false:=by simp
 simp only [go_sem,seval,hne]
 refine cloop (fun k t=> ∃i:Nat,i+k=l.length∧t.fr 0= .sl .sh 6 (l.map Cl.av)∧t.fr 1= .sl .sh 6 (l.map Cl.av)∧t.fr 5= .int .i64 (i:Nat)∧t.hp=h) l.length ⟨0,by simp [fr_apply,argsF]⟩ ?_
 rintro k ⟨f,hp⟩ ⟨i,hk,h0,h1,h5,rfl⟩
 simp only at h0 h1 h5
 by_cases hi:i<l.length
 ·have hi' :decide ((i:Int)<(l.length:Int))=true:=decide_eq_true (by omega)
  have hw:=wrap_s hi hl
  have hg:(l.map Cl.av)[i]? =some (Cl.av l[i]):=by simp [List.getElem?_eq_getElem hi]
  simp only [go_sem,seval,h0,h1,h5,hi',hg]
  refine pcallD (ih _ (List.getElem_mem hi)) (by simp only [go_sem,seval]) ?_
  simp only [go_sem,seval,h0,h1,h5,hw]
  exact ⟨k-1,by omega,i+1,by omega,rfl⟩
 ·have hi' :decide ((i:Int)<(l.length:Int))=false:=decide_eq_false (by omega)
  simp only [go_sem,seval,h0,h1,h5,hi']
theorem fe_rule (c:Ru):PFn Tryz.prog 111 [c.av,c.av] (.bool true):=by
 obtain ⟨⟨a,b',c,d⟩,⟨k,⟨tk,tn,tv,tl⟩,rel,pl,pr,pc⟩,g,w,p⟩:=c
 have h1:=fe_term (.mk a b' c d)
 have h2:=fe_pat (.mk k (.mk tk tn tv tl) rel pl pr pc)
 have h3:=fe_guards g fun x _=>fe_guard x
 rw [av_mk] at h1
 rw [pav_mk] at h2
 intro h
 rw [Ru.av]
 refine fnC mixed Tryz.func111 c111 (by simp) ?_
 simp only [go_sem,seval]
 refine pcall h1 (by simp only [go_sem,seval]) ?_
 simp only [go_sem,seval]
 refine pcall h2 (by simp only [go_sem,seval]) ?_
 simp only [go_sem,seval]
 refine pcall h3 (by simp only [go_sem,seval]) ?_
 simp only [go_sem,seval]
theorem fe_rules (l:List Ru) (ih: ∀x∈l,PFn Tryz.prog 111 [Ru.av x,Ru.av x] (.bool true)):PFn Tryz.prog 61 [.sl .sh 16 (l.map Ru.av), .sl .sh 16 (l.map Ru.av)] (.bool true):=by
 refine pfn_bd rfl fun hbd=> ?_
 have hl:l.length≤9223372036854775807:=by simpa using hbd.1.1
 clear hbd
 intro h
 refine fnC mixed Tryz.func61 c61 (by simp) ?_
 have hne:((l.length:Int) !=(l.length:Int))=false:=by simp
 simp only [go_sem,seval,hne]
 refine cloop (fun k t=> ∃i:Nat,i+k=l.length∧t.fr 0= .sl .sh 16 (l.map Ru.av)∧t.fr 1= .sl .sh 16 (l.map Ru.av)∧t.fr 5= .int .i64 (i:Nat)∧t.hp=h) l.length ⟨0,by simp [fr_apply,argsF]⟩ ?_
 rintro k ⟨f,hp⟩ ⟨i,hk,h0,h1,h5,rfl⟩
 simp only at h0 h1 h5
 by_cases hi:i<l.length
 ·have hi' :decide ((i:Int)<(l.length:Int))=true:=decide_eq_true (by omega)
  have hw:=wrap_s hi hl
  have hg:(l.map Ru.av)[i]? =some (Ru.av l[i]):=by simp [List.getElem?_eq_getElem hi]
  simp only [go_sem,seval,h0,h1,h5,hi',hg]
  refine pcallD (ih _ (List.getElem_mem hi)) (by simp only [go_sem,seval]) ?_
  simp only [go_sem,seval,h0,h1,h5,hw]
  exact ⟨k-1,by omega,i+1,by omega,rfl⟩
 ·have hi' :decide ((i:Int)<(l.length:Int))=false:=decide_eq_false (by omega)
  simp only [go_sem,seval,h0,h1,h5,hi']
theorem fe_program (p:Pr):PFn Tryz.prog 19 [p.av,p.av] (.bool true):=by
 obtain ⟨c,r⟩:=p
 have h1:=fe_clauses c fun x _=>fe_clause x
 have h2:=fe_rules r fun x _=>fe_rule x
 intro h
 rw [Pr.av]
 refine fnC mixed Tryz.func19 c19 (by simp) ?_
 simp only [go_sem,seval]
 refine pcall h1 (by simp only [go_sem,seval]) ?_
 simp only [go_sem,seval]
 refine pcall h2 (by simp only [go_sem,seval]) ?_
 simp only [go_sem,seval]
theorem fef_program (p:Pr):PFn Tryz.prog 19 [p.avf,p.avf] (.bool true):=pfn_fk (by rw [List.map_cons,List.map_cons,List.map_nil,fk_pr];exact fe_program p)
end Go.Proofs.YtnibelnjflhkgaaGreatDoor.Ab
namespace Go.Proofs.YtnibelnjflhkgaaGreatDoor.Ab
set_option linter.unusedVariables false
set_option linter.unusedSimpArgs false
theorem failS_e {p:Nat} {c:Int} {s:St} {e:Int×Nat} (h:s.er=some e):failS p c s=s:=by obtain ⟨i,er⟩:=s;cases h;rfl
theorem stepS_e {ts:List Tk} {s:St} {e:Int×Nat} (h:s.er=some e):stepS ts s=s:=by obtain ⟨i,er⟩:=s;cases h;rfl
theorem takeS_e {ts:List Tk} {c:List UInt8} {s:St} {e:Int×Nat} (h:s.er=some e):takeS ts c s=false:=by obtain ⟨i,er⟩:=s;cases h;rfl
theorem goS_e {ts:List Tk} {c:List UInt8} {s:St} {e:Int×Nat} (h:s.er=some e):goS ts c s=s:=by unfold goS;rw [takeS_e h,if_neg (by simp)]
theorem needS_e {ts:List Tk} {c:List UInt8} {s:St} {e:Int×Nat} (h:s.er=some e):needS ts c s=s:=by obtain ⟨i,er⟩:=s;cases h;rfl
theorem mostS_e {n m:Int} {p:Nat} {s:St} {e:Int×Nat} (h:s.er=some e):mostS n m p s=s:=by unfold mostS;split<;>first|exact failS_e h|rfl
theorem limF_e {b:Bool} {p:Nat} {s:St} {e:Int×Nat} (h:s.er=some e):limF b p s=s:=by unfold limF;split<;>first|exact failS_e h|rfl
theorem openS_e {ts:List Tk} {d:Nat} {s:St} {e:Int×Nat} (h:s.er=some e):openS ts d s=s:=by unfold openS;rw [failS_e h,ite_self,needS_e h]
theorem closeF_e {ts:List Tk} {x:Sf} {e:Int×Nat} (h:x.s.er=some e):(closeF ts x).s=x.s:=needS_e h
theorem tmS_e {ts:List Tk} {d:Nat} {s:St} {e:Int×Nat} (h:s.er=some e):(tmS ts d s).2=s:=by obtain ⟨i,er⟩:=s;cases h;rfl
theorem goS_t {ts:List Tk} {c:List UInt8} {s:St} (h:takeS ts c s=true):goS ts c s=⟨s.i+1,none⟩:=by unfold goS;rw [if_pos h]
theorem goS_f {ts:List Tk} {c:List UInt8} {s:St} (h:takeS ts c s=false):goS ts c s=s:=by unfold goS;rw [if_neg (by simp [h])]
theorem takeS_none {ts:List Tk} {c:List UInt8} {s:St} (h:takeS ts c s=true):s.er=none:=by unfold takeS at h;simp at h;exact h.1
def Rl {α:Type} (d:Int) (x:α×St) (y:α×Sf):Prop:=x.2.er=y.2.s.er∧(x.2.er=none→y=(x.1,⟨x.2,d⟩))
def AgP {α:Type} (ts:List Tk) (d:Nat) (g:St→α×St) (g' :Sf→α×Sf):Prop:= ∀s,SOk ts s→s.er=none→Rl (d:Int) (g s) (g' ⟨s,d⟩)
def KW {α:Type} (g:St→α×St):Prop:= ∀s e,s.er=some e→(g s).2.er=some e
def KF {α:Type} (g:Sf→α×Sf):Prop:= ∀x e,x.s.er=some e→(g x).2.s.er=some e
theorem Rl.err {α:Type} {d:Int} {x:α×St} {y:α×Sf} {e:Int×Nat} (h1:x.2.er=some e) (h2:y.2.s.er=some e):Rl d x y:=⟨by rw [h1,h2],fun h=>by rw [h1] at h;cases h⟩
theorem Rl.refl {α:Type} {d:Int} (a:α) (s:St):Rl d (a,s) (a,⟨s,d⟩):=⟨rfl,fun _=>rfl⟩
theorem Rl.cases {α:Type} {d:Int} {x:α×St} {y:α×Sf} (h:Rl d x y):(x.2.er=none∧y=(x.1,⟨x.2,d⟩))∨ ∃e,x.2.er=some e∧y.2.s.er=some e:=by
 obtain ⟨h1,h2⟩:=h
 cases he:x.2.er with
 |none=>exact .inl ⟨rfl,h2 he⟩
 |some e=>exact .inr ⟨e,rfl,by rw [←h1,he]⟩
theorem Rl.map {α β:Type} {d:Int} {x:α×St} {y:α×Sf} (h:Rl d x y) (f:α→β):Rl d (f x.1,x.2) (f y.1,y.2):=by
 rcases h.cases with ⟨h1,h2⟩|⟨e,h1,h2⟩
 ·rw [h2];exact .refl _ _
 ·exact .err h1 h2
theorem Rl.bind {α β:Type} {d:Int} {x:α×St} {y:α×Sf} (h:Rl d x y) {f:α→St→β×St} {f' :α→Sf→β×Sf} (hn:x.2.er=none→Rl d (f x.1 x.2) (f' x.1 ⟨x.2,d⟩))
  (k: ∀a s e,s.er=some e→(f a s).2.er=some e) (k' : ∀a x e,x.s.er=some e→(f' a x).2.s.er=some e):Rl d (f x.1 x.2) (f' y.1 y.2):=by
 rcases h.cases with ⟨h1,h2⟩|⟨e,h1,h2⟩
 ·rw [h2];exact hn h1
 ·exact .err (k _ _ _ h1) (k' _ _ _ h2)
theorem tm_ag (ts:List Tk) (d:Nat) {s:St} (hs:s.er=none):(tmS ts d s).2.er=(tmF ts ⟨s,d⟩).2.er∧((tmS ts d s).2.er=none→tmF ts ⟨s,d⟩=tmS ts d s):=by
 obtain ⟨i,er⟩:=s
 cases hs
 obtain ⟨h1,h2⟩:=tmG_z zP zR (2 * ts.length) d (ts.drop i)
 refine ⟨h1,fun h=> ?_⟩
 have h:=h2 h
 simp only [tmS,tmF,Int.toNat_natCast]
 rw [h]
theorem open_ag (ts:List Tk) {d:Nat} (hd:d≤100) {s:St} (hs:s.er=none):(d<100∧(openS ts d s).er=none∧openF ts ⟨s,d⟩=⟨openS ts d s,((d+1:Nat):Int)⟩)∨ ∃e,(openS ts d s).er=some e∧(openF ts ⟨s,d⟩).s.er=some e:=by
 obtain ⟨i,er⟩:=s
 cases hs
 by_cases hb:isS (tkS ts ⟨i,none⟩) [40]=true
 ·have hn:needS ts [40] ⟨i,none⟩=⟨i+1,none⟩:=by unfold needS;simp only;rw [if_pos hb]
  have hw:IntKind.i64.wrap ((d:Int)+1)=((d+1:Nat):Int):=by rw [wrap64]<;>omega
  by_cases h100:d=100
  ·subst h100
   refine .inr ⟨(2,(tkS ts ⟨i,none⟩).p), ?_, ?_⟩
   ·unfold openS;rw [if_pos ⟨hb,rfl⟩];rfl
   ·unfold openF;simp only;rw [hn,if_pos (show (⟨i+1,none⟩:St).er.isNone=true from rfl),hw,if_pos (by decide)];rfl
  ·have ho:openS ts d ⟨i,none⟩=⟨i+1,none⟩:=by unfold openS;rw [if_neg (fun h=>h100 h.2),hn]
   refine .inl ⟨by omega, ?_, ?_⟩
   ·rw [ho]
   ·rw [ho];unfold openF;simp only;rw [hn,if_pos (show (⟨i+1,none⟩:St).er.isNone=true from rfl),hw,if_neg (by omega)]
 ·have hn:needS ts [40] ⟨i,none⟩=⟨i,some (4,(tkS ts ⟨i,none⟩).p)⟩:=by unfold needS;simp only;rw [if_neg hb]
  refine .inr ⟨(4,(tkS ts ⟨i,none⟩).p), ?_, ?_⟩
  ·unfold openS;rw [if_neg (fun h=>hb h.1),hn]
  ·unfold openF;simp only;rw [hn,if_neg (by simp)]
theorem within_kw (pat:Nat→St→Pn×St) (ts:List Tk) (d:Nat):KW (withinW pat ts d):=fun s e h=>by
 unfold withinW;rw [openS_e h,h,if_neg (by simp)];simp only;rw [needS_e h,h]
theorem one_kw (pat:Nat→St→Pn×St) (ts:List Tk) (d:Nat):KW (oneW pat ts d):=fun s e h=>by
 unfold oneW;split
 ·exact within_kw pat ts d s e h
 ·simp only;rw [tmS_e h,h]
theorem one_kf (pat:Sf→Pn×Sf) (ts:List Tk):KF (oneF pat ts):=fun x e h=>by
 unfold oneF;rw [h,if_neg (by simp)];exact h
theorem loop_ew {ts:List Tk} {c:List UInt8} {body:Pn→St→Pn×St} {m:Nat} {p:Pn} {s:St} {e:Int×Nat} (h:s.er=some e):loopW ts c body m p s=(p,s):=by
 cases m with
 |zero=>rfl
 |succ m=>rw [loopW,takeS_e h,if_neg (by simp)]
theorem loop_ef {ts:List Tk} {c:List UInt8} {body:Pn→Sf→Pn×Sf} {m:Nat} {p:Pn} {x:Sf} {e:Int×Nat} (h:x.s.er=some e):loopF ts c body m p x=(p,x):=by
 cases m with
 |zero=>rfl
 |succ m=>rw [loopF,takeS_e h,if_neg (by simp)]
theorem row_kw (pat:Nat→St→Pn×St) (ts:List Tk) (d:Nat):KW (rowW pat ts d):=fun s e h=>by
 have:=one_kw pat ts d s e h
 unfold rowW;rw [loop_ew this];exact this
theorem row_kf (pat:Sf→Pn×Sf) (ts:List Tk):KF (rowF pat ts):=fun x e h=>by
 have:=one_kf pat ts x e h
 unfold rowF;rw [loop_ef this];exact this
theorem pair_kf {row:Sf→Pn×Sf} (hk:KF row) (ts:List Tk):KF (pairF row ts):=fun x e h=>by
 have:=hk x e h
 unfold pairF;rw [takeS_e this,if_neg (by simp)];exact this
theorem chain_kf {part:Sf→Pn×Sf} (hk:KF part) (kind:Int) (c:List UInt8) (ts:List Tk):KF (chainF part kind c ts):=fun x e h=>by
 have:=hk x e h
 unfold chainF;rw [loop_ef this];exact this
theorem patB_kf (pat:Sf→Pn×Sf) (ts:List Tk):KF (patB pat ts):=chain_kf (chain_kf (pair_kf (row_kf pat ts) ts) _ _ ts) _ _ ts
theorem patF_kf (ts:List Tk): ∀n,KF (patF ts n)
 |0=>patB_kf _ ts
 |n+1=>patB_kf _ ts
section
variable {pat:Nat→St→Pn×St} {pat' :Sf→Pn×Sf} {ts:List Tk} (W:Wds ts) {d:Nat} (hd:d≤100) (hp:d<100→AgP ts (d+1) (pat (d+1)) pat') (hk:KF pat')
include W hd hp hk
theorem within_ag:AgP ts d (withinW pat ts d) (withinF pat' ts):=by
 intro s hs hn
 rcases open_ag ts hd hn with ⟨h1,h2,h3⟩|⟨e,h1,h2⟩
 ·have hq:=hp h1 _ (openS_ok (d:=d) W.Nx hs) h2
  unfold withinW withinF
  rw [h3,if_pos (by rw [h2];rfl)]
  rcases hq.cases with ⟨k1,k2⟩|⟨e,k1,k2⟩
  ·rw [k2]
   have hw:IntKind.i64.wrap (((d+1:Nat):Int)-1)=((d:Nat):Int):=by rw [wrap64]<;>omega
   unfold closeF;simp only;rw [hw]
   exact .refl _ _
  ·exact .err (e:=e) (by simp only;rw [needS_e k1,k1]) (by simp only;rw [closeF_e k2,k2])
 ·refine .err (e:=e) ?_ ?_
  ·unfold withinW;rw [h1,if_neg (by simp)];simp only;rw [needS_e h1,h1]
  ·have:=hk _ e h2
   unfold withinF;simp only;rw [closeF_e this,this]
theorem one_ag:AgP ts d (oneW pat ts d) (oneF pat' ts):=by
 intro s hs hn
 unfold oneW oneF
 rw [if_pos (show s.er.isNone=true by rw [hn];rfl)]
 simp only
 split
 ·exact within_ag W hd hp hk s hs hn
 ·obtain ⟨h1,h2⟩:=tm_ag ts d hn
  exact ⟨h1,fun h=>by simp only at h ⊢;rw [h2 h]⟩
theorem rowB_ag (hg:d<100→Gd ts (pat (d+1))) (p:Pn):AgP ts d (rowB pat ts d p) (rowBF pat' ts p):=by
 intro s hs hn
 have ho:=one_ag W hd hp hk
 have go:=one_gd W hg hd
 have gw:=within_gd W hg hd
 unfold rowB rowBF
 cases ht:takeS ts [92,43] s with
 |true=>
  rw [if_pos rfl,if_pos rfl]
  have g1:=goS_ok (c:= [92,43]) W.Nx hs
  have hw:=within_ag W hd hp hk _ g1 (by rw [goS_t ht])
  have gk:=gw _ g1
  rw [show (⟨s,(d:Int)⟩:Sf).s=s from rfl]
  generalize withinW pat ts d (goS ts [92,43] s)=A at *
  generalize withinF pat' ts ⟨goS ts [92,43] s,(d:Int)⟩=B at *
  refine hw.bind (f:=fun a u=>(Pn.mk 5 zT 0 [p] [(oneW pat ts d (needS ts [59] u)).1] [a],(oneW pat ts d (needS ts [59] u)).2)) (f' :=fun a x=>(Pn.mk 5 zT 0 [p] [(oneF pat' ts ⟨needS ts [59] x.s,x.d⟩).1] [a],(oneF pat' ts ⟨needS ts [59] x.s,x.d⟩).2)) (fun hA=> ?_) (fun a u e h=> ?_) (fun a x e h=> ?_)
  ·simp only
   cases h59:(needS ts [59] A.2).er with
   |none=>exact (ho _ (needS_ok (c:= [59]) W.Nx gk.1) h59).map (fun q=>Pn.mk 5 zT 0 [p] [q] [A.1])
   |some e=>exact .err (e:=e) (one_kw pat ts d _ e h59) (one_kf pat' ts _ e h59)
  ·simp only;exact one_kw pat ts d _ e (by rw [needS_e h,h])
  ·simp only;exact one_kf pat' ts _ e (by simp only;rw [needS_e h,h])
 |false=>
  rw [if_neg (by simp),if_neg (by simp),goS_f ht]
  exact (ho s hs hn).map (fun q=>Pn.mk 2 zT 0 [p] [q] [])
end
theorem loop_ag {ts:List Tk} (W:Wds ts) {d:Nat} {c:List UInt8} {body:Pn→St→Pn×St} {body' :Pn→Sf→Pn×Sf} (hb: ∀p,AgP ts d (body p) (body' p)) (gb: ∀p,Gd ts (body p)):
  ∀(m:Nat) (p:Pn) (s:St),SOk ts s→s.er=none→Rl (d:Int) (loopW ts c body m p s) (loopF ts c body' m p ⟨s,d⟩)
 |0,p,s,hs,hn=> .refl _ _
 |m+1,p,s,hs,hn=>by
  rw [loopW,loopF]
  cases ht:takeS ts c s with
  |true=>
   rw [if_pos rfl,if_pos rfl]
   have g1:=goS_ok (c:=c) W.Nx hs
   refine (hb p _ g1 (by rw [goS_t ht])).bind (f:=loopW ts c body m) (f' :=loopF ts c body' m) (fun h=>loop_ag W hb gb m _ _ (gb p _ g1).1 h) (fun a s e h=> ?_) (fun a x e h=> ?_)
   ·rw [loop_ew h];exact h
   ·rw [loop_ef h];exact h
  |false=>rw [if_neg (by simp),if_neg (by simp)];exact .refl _ _
theorem row_ag {pat:Nat→St→Pn×St} {pat' :Sf→Pn×Sf} {ts:List Tk} (W:Wds ts) {d:Nat} (hd:d≤100) (hp:d<100→AgP ts (d+1) (pat (d+1)) pat') (hk:KF pat') (hg:d<100→Gd ts (pat (d+1))):AgP ts d (rowW pat ts d) (rowF pat' ts):=by
 intro s hs hn
 have go:=one_gd W hg hd
 exact (one_ag W hd hp hk s hs hn).bind (f:=loopW ts [59] (rowB pat ts d) ts.length) (f' :=loopF ts [59] (rowBF pat' ts) ts.length) (fun h=>loop_ag W (rowB_ag W hd hp hk hg) (rowB_gd W (within_gd W hg hd) go) _ _ _ (go s hs).1 h)
  (fun a s e h=>by rw [loop_ew h];exact h) (fun a x e h=>by rw [loop_ef h];exact h)
theorem pair_ag {row:St→Pn×St} {row' :Sf→Pn×Sf} {ts:List Tk} (W:Wds ts) {d:Nat} (hr:AgP ts d row row') (gr:Gd ts row) (kr:KW row):AgP ts d (pairW row ts) (pairF row' ts):=by
 intro s hs hn
 refine (hr s hs hn).bind (f:=fun a u=>if takeS ts [64] u=true then pairB row ts a (goS ts [64] u) else (a,u)) (f' :=fun a x=>if takeS ts [64] x.s=true then pairBF row' ts a ⟨goS ts [64] x.s,x.d⟩ else (a,x)) (fun h=> ?_) (fun a u e h=> ?_) (fun a x e h=> ?_)
 ·have gs:=(gr s hs).1
  generalize row s=A at *
  obtain ⟨p,u⟩:=A
  simp only at h gs ⊢
  cases ht:takeS ts [64] u with
  |false=>rw [if_neg (by simp),if_neg (by simp)];exact .refl _ _
  |true=>
   rw [if_pos rfl,if_pos rfl,goS_t ht]
   have g1:SOk ts ⟨u.i+1,none⟩:=by have:=goS_ok (c:= [64]) W.Nx gs;rwa [goS_t ht] at this
   generalize u.i+1=i at *
   unfold pairB pairBF
   simp only
   cases hb:badRel (tkS ts ⟨i,none⟩) with
   |true=>
    rw [if_pos rfl,if_pos rfl]
    refine .err (e:=(4,(tkS ts ⟨i,none⟩).p)) ?_ rfl
    exact kr _ _ rfl
   |false=>
    rw [if_neg (by simp),if_neg (by simp)]
    have hk5:=badRel_k hb
    have hst:stepS ts ⟨i,none⟩=⟨i+1,none⟩:=by unfold stepS;simp only;rw [if_pos hk5]
    rw [hst]
    have g2:SOk ts ⟨i+1,none⟩:=by have:=stepS_ok W.Nx g1;rwa [hst] at this
    exact (hr _ g2 rfl).map (fun q=>Pn.mk 6 zT (relOf (tkS ts ⟨i,none⟩).s) [p] [q] [])
 ·rw [takeS_e h,if_neg (by simp)];exact h
 ·rw [takeS_e h,if_neg (by simp)];exact h
theorem chain_ag {part:St→Pn×St} {part' :Sf→Pn×Sf} {kind:Int} {c:List UInt8} {ts:List Tk} (W:Wds ts) {d:Nat} (hp:AgP ts d part part') (gp:Gd ts part):AgP ts d (chainW part kind c ts) (chainF part' kind c ts):=by
 intro s hs hn
 exact (hp s hs hn).bind (f:=loopW ts c (chainB part kind) ts.length) (f' :=loopF ts c (chainBF part' kind) ts.length) (fun h=>loop_ag W (body:=chainB part kind) (body' :=chainBF part' kind) (fun p s hs hn=>(hp s hs hn).map (fun q=>Pn.mk kind zT 0 [p] [q] [])) (fun p=>gp) _ _ _ (gp s hs).1 h)
  (fun a s e h=>by rw [loop_ew h];exact h) (fun a x e h=>by rw [loop_ef h];exact h)
theorem patB_ag {pat:Nat→St→Pn×St} {pat' :Sf→Pn×Sf} {ts:List Tk} (W:Wds ts) {d:Nat} (hd:d≤100) (hp:d<100→AgP ts (d+1) (pat (d+1)) pat') (hk:KF pat') (hg:d<100→Gd ts (pat (d+1))):
  AgP ts d (patW (bothW (pairW (rowW pat ts d) ts) ts) ts) (patB pat' ts):=by
 have g1:=row_gd W (within_gd W hg hd) (one_gd W hg hd)
 have g2:=pair_gd W g1
 have a1:=row_ag W hd hp hk hg
 have a2:=pair_ag W a1 g1 (row_kw pat ts d)
 exact chain_ag W (chain_ag W a2 g2) (chain_gd W g2)
theorem pat_ag {ts:List Tk} (W:Wds ts): ∀(n m d:Nat),d≤100→100<d+n→100<d+m→AgP ts d (patN ts n d) (patF ts m)
 |0,m,d,h1,h2,h3=>by omega
 |n+1,0,d,h1,h2,h3=>by omega
 |n+1,m+1,d,h1,h2,h3=>patB_ag (pat:=patN ts n) (pat' :=patF ts m) W h1 (fun h=>pat_ag W n m (d+1) h (by omega) (by omega)) (patF_kf ts m) (fun h=>(patN_all W n (d+1) h (by omega)).1)
end Go.Proofs.YtnibelnjflhkgaaGreatDoor.Ab
namespace Go.Proofs.YtnibelnjflhkgaaGreatDoor.Ab
set_option linter.unusedVariables false
set_option linter.unusedSimpArgs false
def R2 {α:Type} (x y:α×St):Prop:=x.2.er=y.2.er∧(x.2.er=none→y=x)
def R3 {α β:Type} (x y:α×β×St):Prop:=x.2.2.er=y.2.2.er∧(x.2.2.er=none→y=x)
theorem R2.err {α:Type} {x y:α×St} {e:Int×Nat} (h1:x.2.er=some e) (h2:y.2.er=some e):R2 x y:=⟨by rw [h1,h2],fun h=>by rw [h1] at h;cases h⟩
theorem R3.err {α β:Type} {x y:α×β×St} {e:Int×Nat} (h1:x.2.2.er=some e) (h2:y.2.2.er=some e):R3 x y:=⟨by rw [h1,h2],fun h=>by rw [h1] at h;cases h⟩
theorem R2.refl {α:Type} (x:α×St):R2 x x:=⟨rfl,fun _=>rfl⟩
theorem R3.refl {α β:Type} (x:α×β×St):R3 x x:=⟨rfl,fun _=>rfl⟩
theorem R2.cases {α:Type} {x y:α×St} (h:R2 x y):(x.2.er=none∧y=x)∨ ∃e,x.2.er=some e∧y.2.er=some e:=by
 obtain ⟨h1,h2⟩:=h
 cases he:x.2.er with
 |none=>exact .inl ⟨rfl,h2 he⟩
 |some e=>exact .inr ⟨e,rfl,by rw [←h1,he]⟩
theorem R3.cases {α β:Type} {x y:α×β×St} (h:R3 x y):(x.2.2.er=none∧y=x)∨ ∃e,x.2.2.er=some e∧y.2.2.er=some e:=by
 obtain ⟨h1,h2⟩:=h
 cases he:x.2.2.er with
 |none=>exact .inl ⟨rfl,h2 he⟩
 |some e=>exact .inr ⟨e,rfl,by rw [←h1,he]⟩
theorem tm_r2 (ts:List Tk) (d:Nat) {s:St} (hs:s.er=none):R2 (tmS ts d s) (tmF ts ⟨s,d⟩):=tm_ag ts d hs
theorem compared_e {ts:List Tk} {d:Nat} {t:T} {s:St} {e:Int×Nat} (h:s.er=some e):(comparedS ts d t s).2=s:=by
 unfold comparedS;simp only
 have h1:(if opI (tkS ts s)=0 then failS (tkS ts s).p 4 s else s)=s:=by rw [failS_e h,ite_self]
 rw [h1,stepS_e h,tmS_e h]
theorem compareF_e {ts:List Tk} {t:T} {x:Sf} {e:Int×Nat} (h:x.s.er=some e):compareF ts t x=(zGu,false,x.s):=by
 unfold compareF;rw [h];rfl
theorem endF_e {ts:List Tk} {b:Bool} {s:St} {e:Int×Nat} (h:s.er=some e):endF ts b s=s:=by
 unfold endF;rw [h];simp
theorem opI_D (t:Tk):opI t=if (t.k==4)=true then opD t.s else 0:=rfl
theorem step_of {ts:List Tk} {i:Nat} (h:((tkS ts ⟨i,none⟩).k !=5)=true):stepS ts ⟨i,none⟩=⟨i+1,none⟩:=by unfold stepS;simp only;rw [if_pos h]
theorem cmp_yes {ts:List Tk} {d:Nat} {t:T} {i:Nat} (h1:((tkS ts ⟨i,none⟩).k==4)=true) (h2:(opD (tkS ts ⟨i,none⟩).s==0)=false):
  compareF ts t ⟨⟨i,none⟩,d⟩=(⟨opI (tkS ts ⟨i,none⟩),t,(tmF ts ⟨⟨i+1,none⟩,d⟩).1⟩,true,(tmF ts ⟨⟨i+1,none⟩,d⟩).2)∧opI (tkS ts ⟨i,none⟩)≠0∧
  comparedS ts d t ⟨i,none⟩=(⟨opI (tkS ts ⟨i,none⟩),t,(tmS ts d ⟨i+1,none⟩).1⟩,(tmS ts d ⟨i+1,none⟩).2):=by
 have ho:opI (tkS ts ⟨i,none⟩)=opD (tkS ts ⟨i,none⟩).s:=by rw [opI_D,if_pos h1]
 have hn:opI (tkS ts ⟨i,none⟩)≠0:=by rw [ho];simpa using h2
 have hk:((tkS ts ⟨i,none⟩).k !=5)=true:=by
  have:(tkS ts ⟨i,none⟩).k=4:=by simpa using h1
  rw [this];rfl
 refine ⟨?_,hn, ?_⟩
 ·unfold compareF;simp only;rw [h1,h2,if_pos (by rfl), ←ho]
 ·unfold comparedS;rw [if_neg hn,step_of hk]
theorem cmp_no {ts:List Tk} {d:Nat} {t:T} {i:Nat} (h:((tkS ts ⟨i,none⟩).k==4&& !(opD (tkS ts ⟨i,none⟩).s==0))=false):
  compareF ts t ⟨⟨i,none⟩,d⟩=(zGu,false,⟨i,none⟩)∧opI (tkS ts ⟨i,none⟩)=0∧(comparedS ts d t ⟨i,none⟩).2.er=some (4,(tkS ts ⟨i,none⟩).p):=by
 have ho:opI (tkS ts ⟨i,none⟩)=0:=by
  rw [opI_D]
  cases hk:((tkS ts ⟨i,none⟩).k==4) with
  |false=>rw [if_neg (by simp)]
  |true=>rw [hk] at h;rw [if_pos rfl];simpa using h
 refine ⟨?_,ho, ?_⟩
 ·unfold compareF;simp only;rw [h,if_neg (by simp)]
 ·unfold comparedS;rw [if_pos ho];simp only
  have he:(failS (tkS ts ⟨i,none⟩).p 4 ⟨i,none⟩).er=some (4,(tkS ts ⟨i,none⟩).p):=rfl
  rw [stepS_e he,tmS_e he,he]
theorem cmp_ag (ts:List Tk) (d:Nat) (t:T) {s:St} (hs:s.er=none):R2 (comparedS ts d t s) ((compareF ts t ⟨s,d⟩).1,endF ts (compareF ts t ⟨s,d⟩).2.1 (compareF ts t ⟨s,d⟩).2.2):=by
 obtain ⟨i,er⟩:=s
 cases hs
 cases h:((tkS ts ⟨i,none⟩).k==4&& !(opD (tkS ts ⟨i,none⟩).s==0)) with
 |true=>
  simp only [Bool.and_eq_true,Bool.not_eq_true'] at h
  obtain ⟨h1,h2,h3⟩:=cmp_yes (d:=d) (t:=t) h.1 h.2
  rw [h1,h3]
  simp only
  rcases (tm_r2 ts d (s:=⟨i+1,none⟩) rfl).cases with ⟨k1,k2⟩|⟨e,k1,k2⟩
  ·rw [k2,show endF ts true (tmS ts d ⟨i+1,none⟩).2=(tmS ts d ⟨i+1,none⟩).2 from rfl];exact .refl _
  ·exact .err (e:=e) k1 (by simp only;rw [endF_e k2,k2])
 |false=>
  obtain ⟨h1,h2,h3⟩:=cmp_no (d:=d) (t:=t) h
  rw [h1]
  exact .err h3 rfl
theorem tkNR {ts:List Tk} (W:Wds ts) {s:St} (hs:SOk ts s) (hk:((tkS ts s).k !=5)=true):tkN ts s=tkR ts s:=by
 have:=W.Nx s.i _ (tkS_get hs) hk
 unfold tkN tkR
 rw [Nat.min_eq_left (by omega)]
theorem guS_ne {t:Tk} (h:isN t (guS 1)=true):isN t (guS 0)=false:=by
 unfold isN at h ⊢
 simp only [Bool.and_eq_true,beq_iff_eq] at h
 rw [h.2];simp [guS]
theorem known_ag (ts:List Tk) (d:Nat) (k:Int) {s:St} (hn:s.er=none) (hk:((tkS ts s).k !=5)=true):R2 (knownG ts d k s) (⟨k,(tmF ts ⟨⟨s.i+1,s.er⟩,d⟩).1,zT⟩,(tmF ts ⟨⟨s.i+1,s.er⟩,d⟩).2):=by
 obtain ⟨i,er⟩:=s
 cases hn
 unfold knownG
 rw [step_of hk]
 simp only
 rcases (tm_r2 ts d (s:=⟨i+1,none⟩) rfl).cases with ⟨k1,k2⟩|⟨e,k1,k2⟩
 ·rw [k2];exact .refl _
 ·exact .err (e:=e) k1 k2
theorem guard_ag {ts:List Tk} (W:Wds ts) (d:Nat) {s:St} (hs:SOk ts s) (hn:s.er=none):R2 (guardS ts d s) (guardF ts ⟨s,d⟩):=by
 unfold guardS guardF
 simp only
 rw [if_pos (show s.er.isNone=true by rw [hn];rfl)]
 have hC:R2 (comparedS ts d (tmS ts d s).1 (tmS ts d s).2) ((compareF ts (tmF ts ⟨s,d⟩).1 ⟨(tmF ts ⟨s,d⟩).2,d⟩).1,endF ts (compareF ts (tmF ts ⟨s,d⟩).1 ⟨(tmF ts ⟨s,d⟩).2,d⟩).2.1 (compareF ts (tmF ts ⟨s,d⟩).1 ⟨(tmF ts ⟨s,d⟩).2,d⟩).2.2):=by
  rcases (tm_r2 ts d hn).cases with ⟨k1,k2⟩|⟨e,k1,k2⟩
  ·rw [k2];exact cmp_ag ts d _ k1
  ·refine .err (e:=e) ?_ ?_
   ·rw [compared_e k1,k1]
   ·have:=compareF_e (t:=(tmF ts ⟨s,(d:Int)⟩).1) (ts:=ts) (x:=⟨(tmF ts ⟨s,(d:Int)⟩).2,d⟩) k2
    rw [this];simp only;rw [endF_e k2,k2]
 cases h1:isN (tkS ts s) (guS 1) with
 |true=>
  have hk5:=isN_ne5 h1
  have hnm:named ts s=((tkR ts s).k==1):=by unfold named;rw [tkNR W hs hk5]
  rw [show kiD ts s=6 by unfold kiD;rw [if_pos h1],guS_ne h1,hnm,Bool.and_false,Bool.and_true,if_neg (by simp)]
  cases hr:((tkR ts s).k==1) with
  |true=>rw [if_pos rfl,if_pos (by rfl)];exact known_ag ts d 6 hn hk5
  |false=>rw [if_neg (by simp),if_neg (by simp)];exact hC
 |false=>
  rw [Bool.and_false]
  cases h0:isN (tkS ts s) (guS 0) with
  |true=>
   have hk5:=isN_ne5 h0
   have hnm:named ts s=((tkR ts s).k==1):=by unfold named;rw [tkNR W hs hk5]
   rw [show kiD ts s=5 by unfold kiD;rw [if_neg (by simp [h1]),if_pos h0],hnm,Bool.and_true]
   cases hr:((tkR ts s).k==1) with
   |true=>rw [if_pos rfl,if_pos (by rfl)];exact known_ag ts d 5 hn hk5
   |false=>rw [if_neg (by simp),if_neg (by simp),if_neg (by simp)];exact hC
  |false=>
   rw [Bool.and_false,show kiD ts s=0 by unfold kiD;rw [if_neg (by simp [h1]),if_neg (by simp [h0])],if_neg (by simp),if_neg (by simp),if_neg (by simp)]
   exact hC
theorem most_lim (n m:Int) (p:Nat) (s:St):mostS n m p s=limF (decide (n>m)) p s:=by
 unfold mostS limF;by_cases h:n>m<;>simp [h]
theorem clL_stop {ts:List Tk} {d m:Nat} {b:List T} {g:List Gu} {s:St} :clL ts d m false b g s=(b,g,s):=by cases m<;>rfl
theorem clM_e {ts:List Tk} {p:Nat} {x:List T×List Gu×St} {e:Int×Nat} (h:x.2.2.er=some e):clM ts p x=x.2.2:=by
 unfold clM;rw [mostS_e h,mostS_e h]
theorem clM_lim {ts:List Tk} {p:Nat} {b:List T} {g:List Gu} {s:St} :clM ts p (b,g,s)=limF (ckE b g) p s:=by
 obtain ⟨i,er⟩:=s
 unfold clM ckE limF;simp only
 cases er with
 |some e=>
  have h1:=mostS_e (n:=(b.length:Int)) (m:=3) (p:=p) (s:=⟨i,some e⟩) (e:=e) rfl
  rw [h1,mostS_e (e:=e) rfl];split<;>rfl
 |none=>
  by_cases h1:(b.length:Int)>3<;>by_cases h2:(g.length:Int)>4<;>simp [mostS,h1,h2,failS]
theorem cl_ag {ts:List Tk} (W:Wds ts) {d:Nat} (hd:d≤100): ∀(m:Nat) (b:List T) (g:List Gu) (s:St),SOk ts s→s.er=none→R3 (clL ts d m true b g s) (ckL ts d m b g s)
 |0,b,g,s,hs,hn=> .refl _
 |m+1,b,g,s,hs,hn=>by
  have hB:=clB_ok W (d:=d) (b:=b) (g:=g) hs
  rw [clL,if_pos (show (true&&s.er.isNone)=true by rw [hn];rfl),ckL]
  have htm:=tmS_ok (d:=d) W hs
  -- what the document says of the next part
  have key:(∃b' g' u ok s2,tmF ts ⟨s,d⟩=tmS ts d s∧compareF ts (tmS ts d s).1 ⟨(tmS ts d s).2,d⟩=(u,ok,s2)∧clB ts d b g s=(b',g',s2)∧s2.er=none∧ckB b (tmS ts d s).1 ok=b' ∧ckG g u ok=g')∨
    ∃e,(clB ts d b g s).2.2.er=some e∧(compareF ts (tmF ts ⟨s,d⟩).1 ⟨(tmF ts ⟨s,d⟩).2,d⟩).2.2.er=some e:=by
   rcases (tm_r2 ts d hn).cases with ⟨k1,k2⟩|⟨e,k1,k2⟩
   ·rw [k2]
    unfold clB
    generalize tmS ts d s=A at *
    obtain ⟨t,⟨i,er⟩⟩:=A
    dsimp only at k1 htm ⊢
    cases k1
    cases h:((tkS ts ⟨i,none⟩).k==4&& !(opD (tkS ts ⟨i,none⟩).s==0)) with
    |true=>
     simp only [Bool.and_eq_true,Bool.not_eq_true'] at h
     obtain ⟨h1,h2,h3⟩:=cmp_yes (d:=d) (t:=t) h.1 h.2
     rw [if_pos ⟨rfl,h2⟩,h1,h3]
     dsimp only
     rcases (tm_r2 ts d (s:=⟨i+1,none⟩) rfl).cases with ⟨k3,k4⟩|⟨e,k3,k4⟩
     ·rw [k4]
      exact .inl ⟨_,_,_,_,_,rfl,rfl,rfl,k3,rfl,rfl⟩
     ·exact .inr ⟨e,k3,k4⟩
    |false=>
     obtain ⟨h1,h2,h3⟩:=cmp_no (d:=d) (t:=t) h
     rw [if_neg (fun q=>q.2 h2),h1]
     exact .inl ⟨_,_,_,_,_,rfl,rfl,rfl,rfl,rfl,rfl⟩
   ·refine .inr ⟨e, ?_, ?_⟩
    ·unfold clB;rw [k1,if_neg (by simp)];exact k1
    ·have:=compareF_e (t:=(tmF ts ⟨s,(d:Int)⟩).1) (ts:=ts) (x:=⟨(tmF ts ⟨s,(d:Int)⟩).2,d⟩) k2
     rw [this];exact k2
  rcases key with ⟨b',g',u,ok,s2,e1,e2,e3,e4,e5,e6⟩|⟨e,e1,e2⟩
  ·rw [e3] at hB ⊢
   obtain ⟨hB, -⟩:=hB
   simp only at hB
   rw [e1]
   generalize tmS ts d s=A at *
   obtain ⟨t,s1⟩:=A
   simp only at e2 e5 ⊢
   rw [e2]
   simp only
   rw [e4,e5,e6,if_pos (show (none:Er).isNone=true from rfl),clM_lim]
   have hL:=(limF_ok (b:=ckE b' g') (p:=(tkS ts s).p) hB).1
   generalize limF (ckE b' g') (tkS ts s).p s2=v at *
   cases ht:takeS ts [44] v with
   |true=>
    rw [if_pos rfl]
    exact cl_ag W hd m b' g' _ (goS_ok W.Nx hL) (by rw [goS_t ht])
   |false=>rw [if_neg (by simp),clL_stop,goS_f ht];exact .refl _
  ·rw [clM_e e1,takeS_e e1,goS_e e1,clL_stop]
   refine .err (e:=e) e1 ?_
   generalize tmF ts ⟨s,(d:Int)⟩=A at *
   obtain ⟨t,s1⟩:=A
   simp only at e2 ⊢
   generalize compareF ts t ⟨s1,(d:Int)⟩=B at *
   obtain ⟨u,ok,s2⟩:=B
   simp only at e2 ⊢
   rw [e2,if_neg (by simp)];exact e2
theorem ruP_f (ts:List Tk) (gs:List Gu) (s:St):ruP ts (false,gs,s)=(0,s):=rfl
theorem pol_ag {ts:List Tk} (W:Wds ts) {s:St} (hs:SOk ts s) (hn:s.er=none) (gs:List Gu):
  (poC ts s=true∧(polK ts s==0)=false∧ruP ts (true,gs,s)=(polK ts s,⟨s.i+1,s.er⟩))∨(poC ts s=false∧(polK ts s==0)=true):=by
 have hi:s.er.isNone=true:=by rw [hn];rfl
 unfold poC polK
 rw [hi,Bool.true_and]
 cases h0:isN (tkS ts s) (poS 0) with
 |true=>
  have hk5:=isN_ne5 h0
  have h0' :=h0
  unfold isN at h0'
  simp only [Bool.and_eq_true] at h0'
  obtain ⟨h01,h02⟩:=h0'
  have h02:(tkS ts s).s=poS 0:=by simpa using h02
  rw [tkNR W hs hk5,h01,Bool.true_or,Bool.true_and]
  cases hd:isS (tkR ts s) [46] with
  |false=>exact .inr ⟨rfl,rfl⟩
  |true=>
   refine .inl ⟨rfl, ?_, ?_⟩
   ·rw [if_pos rfl,h02];rfl
   ·rw [if_pos rfl,h02]
    obtain ⟨i,er⟩:=s
    cases hn
    have hp0:polT (poS 0)=1:=rfl
    simp [ruP,policyS,h0,step_of hk5,hp0]
 |false=>
  rw [Bool.false_or]
  cases h1:isN (tkS ts s) (poS 1) with
  |true=>
   have hk5:=isN_ne5 h1
   have h1' :=h1
   unfold isN at h1'
   simp only [Bool.and_eq_true] at h1'
   obtain ⟨h11,h12⟩:=h1'
   have h12:(tkS ts s).s=poS 1:=by simpa using h12
   rw [tkNR W hs hk5,h11,Bool.true_and]
   cases hd:isS (tkR ts s) [46] with
   |false=>exact .inr ⟨rfl,rfl⟩
   |true=>
    refine .inl ⟨rfl, ?_, ?_⟩
    ·rw [if_pos rfl,h12];rfl
    ·rw [if_pos rfl,h12]
     obtain ⟨i,er⟩:=s
     cases hn
     have hp1:polT (poS 1)=2:=rfl
     simp [ruP,policyS,h0,h1,step_of hk5,hp1]
  |false=>
   refine .inr ⟨rfl, ?_⟩
   split
   ·rename_i h
    simp only [Bool.and_eq_true] at h
    unfold isN at h0 h1
    rw [h.1,Bool.true_and] at h0 h1
    unfold polT
    rw [if_neg (by simpa using h0),if_neg (by simpa using h1)];rfl
   ·rfl
def ruQ (ts:List Tk) (x:Bool×List Gu×St):List Gu×Int×St:=(x.2.1,(ruP ts x).1,(ruP ts x).2)
theorem gr_ag {ts:List Tk} (W:Wds ts) {d:Nat} (hd:d≤100): ∀(m:Nat) (gs:List Gu) (s:St),SOk ts s→s.er=none→R3 (ruQ ts (gsL ts d m gs s)) (grL ts d m gs s)
 |0,gs,s,hs,hn=> .refl _
 |m+1,gs,s,hs,hn=>by
  have gk:=guardS_ok W (d:=d) hs
  rw [gsL,if_pos (show s.er.isNone=true by rw [hn];rfl),grL]
  unfold gsB
  simp only
  rcases (guard_ag W d hs hn).cases with ⟨k1,k2⟩|⟨e,k1,k2⟩
  ·rw [k2]
   generalize guardS ts d s=A at *
   obtain ⟨g,s1⟩:=A
   simp only at k1 gk ⊢
   rw [k1,if_pos (show (none:Er).isNone=true from rfl),most_lim]
   have hL:=(limF_ok (b:=grE (gs++ [g]).length) (p:=(tkS ts s).p) gk.1).1
   rw [show decide (((gs++ [g]).length:Int)>4)=grE (gs++ [g]).length from rfl]
   generalize limF (grE (gs++ [g]).length) (tkS ts s).p s1=v at *
   cases ht:takeS ts [44] v with
   |true=>
    rw [if_pos rfl,if_pos rfl]
    have hg:=goS_ok (c:= [44]) W.Nx hL
    have hn2:(goS ts [44] v).er=none:=by rw [goS_t ht]
    generalize goS ts [44] v=w at *
    rcases pol_ag W hg hn2 (gs++ [g]) with ⟨q1,q2,q3⟩|⟨q1,q2⟩
    ·rw [q1,q2,if_pos rfl,if_neg (by simp)]
     unfold ruQ;rw [q3];exact .refl _
    ·rw [q1,q2,if_neg (by simp),if_pos rfl]
     exact gr_ag W hd m _ _ hg hn2
   |false=>
    rw [if_neg (by simp),if_neg (by simp)]
    unfold ruQ;rw [ruP_f];exact .refl _
  ·rw [mostS_e k1,takeS_e k1,if_neg (by simp)]
   refine .err (e:=e) ?_ ?_
   ·unfold ruQ;rw [ruP_f];exact k1
   ·generalize guardF ts ⟨s,(d:Int)⟩=A at *
    obtain ⟨g,s1⟩:=A
    simp only at k2 ⊢
    rw [k2,if_neg (by simp)];exact k2
theorem word_needK (ts:List Tk) (c:List UInt8) (s:St):wordS ts c s=needK ts 1 c s:=by
 obtain ⟨i,er⟩:=s
 cases er with
 |some e=>
  unfold wordS
  rw [failS_e (e:=e) rfl,ite_self,stepS_e (e:=e) rfl];rfl
 |none=>
  unfold wordS needK isN;simp only
  by_cases h:((tkS ts ⟨i,none⟩).k==1&&(tkS ts ⟨i,none⟩).s==c)=true
  ·rw [if_pos h,if_pos h]
   exact step_of (isN_ne5 h)
  ·rw [if_neg h,if_neg h];exact stepS_e (e:=(4,_)) rfl
theorem ruM_F (ts:List Tk) (s:St):ruM ts s=ruMF ts s:=word_needK _ _ _
theorem needS_go {ts:List Tk} {c:List UInt8} {s:St} (h:takeS ts c s=true):needS ts c s=goS ts c s:=by
 have h2:=takeS_none h
 rw [goS_t h]
 obtain ⟨i,er⟩:=s
 cases h2
 unfold needS;simp only
 unfold takeS at h
 rw [if_pos (by simpa using h)]
theorem ruP_end {ts:List Tk} {s:St} (hn:s.er=none) (gs:List Gu):R2 (ruP ts (true,gs,s)) (endPF ts s):=by
 obtain ⟨i,er⟩:=s
 cases hn
 unfold ruP endPF policyS
 cases h0:isN (tkS ts ⟨i,none⟩) (poS 0) with
 |true=>simp [h0,step_of (isN_ne5 h0),R2]
 |false=>
  cases h1:isN (tkS ts ⟨i,none⟩) (poS 1) with
  |true=>simp [h0,h1,step_of (isN_ne5 h1),R2]
  |false=>simp [h0,h1,R2]
theorem tail_ag {ts:List Tk} (W:Wds ts) {d:Nat} (hd:d≤100) {s:St} (hs:SOk ts s):
  (ruP ts (ruG ts d (ruN ts s))).2.er=(ruWF ts d (ruNF ts s)).2.2.2.er∧
  ((ruP ts (ruG ts d (ruN ts s))).2.er=none→ruWF ts d (ruNF ts s)=((tkS ts s).n,ruQ ts (ruG ts d (ruN ts s)))):=by
 have hN:=ruN_ok W hs
 obtain ⟨i,er⟩:=s
 cases er with
 |some e=>
  have h1:ruN ts ⟨i,some e⟩=⟨i,some e⟩:=by unfold ruN;rw [failS_e (e:=e) rfl,ite_self,stepS_e (e:=e) rfl]
  have h2:ruNF ts ⟨i,some e⟩=⟨i,some e⟩:=rfl
  have h3:ruG ts d ⟨i,some e⟩=(false, [],⟨i,some e⟩):=by unfold ruG;rw [takeS_e (e:=e) rfl,goS_e (e:=e) rfl];rfl
  rw [h1,h2,h3,ruP_f]
  exact ⟨rfl,fun h=>by cases h⟩
 |none=>
  cases hk:((tkS ts ⟨i,none⟩).k !=3) with
  |true=>
   have h1:ruN ts ⟨i,none⟩=⟨i,some (4,(tkS ts ⟨i,none⟩).p)⟩:=by unfold ruN;rw [if_pos hk];exact stepS_e (e:=(4,_)) rfl
   have h2:ruNF ts ⟨i,none⟩=⟨i,some (4,(tkS ts ⟨i,none⟩).p)⟩:=by unfold ruNF;simp only;rw [hk];rfl
   have h3:ruG ts d ⟨i,some (4,(tkS ts ⟨i,none⟩).p)⟩=(false, [],⟨i,some (4,(tkS ts ⟨i,none⟩).p)⟩):=by unfold ruG;rw [takeS_e (e:=(4,_)) rfl,goS_e (e:=(4,_)) rfl];rfl
   rw [h1,h2,h3,ruP_f]
   exact ⟨rfl,fun h=>by cases h⟩
  |false=>
   have hk3:(tkS ts ⟨i,none⟩).k=3:=by simpa using hk
   have h1:ruN ts ⟨i,none⟩=⟨i+1,none⟩:=by unfold ruN;rw [if_neg (by simp [hk3])];exact step_of (by rw [hk3];rfl)
   have h2:ruNF ts ⟨i,none⟩=⟨i,none⟩:=by unfold ruNF;simp only;rw [hk];rfl
   rw [h1] at hN
   rw [h1,h2]
   unfold ruWF ruG
   simp only [Option.isNone_none,if_true]
   obtain ⟨hN, -⟩:=hN
   generalize (⟨i+1,none⟩:St)=v at *
   cases ht:takeS ts [44] v with
   |false=>
    rw [Bool.false_and,if_neg (by simp),if_neg (by simp),goS_f ht]
    exact ⟨rfl,fun _=>rfl⟩
   |true=>
    rw [Bool.true_and,if_pos rfl]
    have hg:=goS_ok (c:= [44]) W.Nx hN
    have hn2:(goS ts [44] v).er=none:=by rw [goS_t ht]
    generalize goS ts [44] v=w at *
    unfold ruGF
    rw [hn2,Option.isNone_none,Bool.true_and]
    cases hw:isN (tkS ts w) whereT with
    |true=>
     rw [if_pos rfl,if_pos rfl]
     obtain ⟨j,er⟩:=w
     cases hn2
     have hws:wordS ts whereT ⟨j,none⟩=⟨j+1,none⟩:=by unfold wordS;rw [if_pos hw];exact step_of (isN_ne5 hw)
     have hsk:SOk ts ⟨j+1,none⟩:=by have:=wordS_ok (c:=whereT) W.Nx hg;rwa [hws] at this
     unfold guardsS
     rw [hws]
     obtain ⟨k1,k2⟩:=gr_ag W hd ts.length [] ⟨j+1,none⟩ hsk rfl
     exact ⟨k1,fun h=>by rw [k2 h]⟩
    |false=>
     rw [if_neg (by simp),if_neg (by simp)]
     obtain ⟨k1,k2⟩:=ruP_end (ts:=ts) hn2 []
     exact ⟨k1,fun h=>by rw [k2 h];rfl⟩
theorem ask_lim (p:Pn) (a:Nat) (s:St):askS p a s=limF (s.er.isNone&&muchP p) a s:=by
 unfold askS limF muchP
 cases s.er.isNone<;>by_cases h1:nP p>12<;>by_cases h2:dP p>8<;>simp [h1,h2]
def Ri (d:Int) (x:List Cl×List Ru×St) (y:List Cl×List Ru×Sf):Prop:=x.2.2.er=y.2.2.s.er∧(x.2.2.er=none→y=(x.1,x.2.1,⟨x.2.2,d⟩)∧x.1.length≤30∧x.2.1.length≤20)
theorem itM_e {p:Nat} {x:List Cl×List Ru×St} {e:Int×Nat} (h:x.2.2.er=some e):itM p x=x.2.2:=by
 unfold itM;rw [mostS_e h,mostS_e h]
theorem itM_r {p:Nat} {cs:List Cl} {rs:List Ru} (hc:cs.length≤30) (hr:rs.length≤20) (r:Ru) (s:St):itM p (cs,rs++ [r],s)=limF (s.er.isNone&&((rs.length:Int)==20)) p s:=by
 unfold itM
 simp only
 obtain ⟨i,er⟩:=s
 cases er with
 |some e=>
  have h1:=mostS_e (n:=((rs++ [r]).length:Int)) (m:=20) (p:=p) (s:=⟨i,some e⟩) (e:=e) rfl
  rw [h1,mostS_e (e:=e) rfl];rfl
 |none=>
  have h1: ¬(cs.length:Int)>30:=by omega
  by_cases h2:rs.length=20
  ·have h3:((rs++ [r]).length:Int)>20:=by simp;omega
   simp [mostS,h1,h2,limF,failS]
  ·have h3: ¬((rs++ [r]).length:Int)>20:=by simp;omega
   have h4:((rs.length:Int)==20)=false:=by simp;omega
   rw [h4]
   unfold mostS;rw [if_neg h3,if_neg h1];rfl
theorem itM_c {p:Nat} {cs:List Cl} {rs:List Ru} (hc:cs.length≤30) (hr:rs.length≤20) (c:Cl) (s:St):itM p (cs++ [c],rs,s)=limF (s.er.isNone&&((cs.length:Int)==30)) p s:=by
 unfold itM
 simp only
 obtain ⟨i,er⟩:=s
 cases er with
 |some e=>
  have h1:=mostS_e (n:=(rs.length:Int)) (m:=20) (p:=p) (s:=⟨i,some e⟩) (e:=e) rfl
  rw [h1,mostS_e (e:=e) rfl];rfl
 |none=>
  have h1: ¬(rs.length:Int)>20:=by omega
  by_cases h2:cs.length=30
  ·have h3:((cs++ [c]).length:Int)>30:=by simp;omega
   unfold mostS;rw [if_neg h1,if_pos h3]
   simp [limF,h2]
  ·have h3: ¬((cs++ [c]).length:Int)>30:=by simp;omega
   have h4:((cs.length:Int)==30)=false:=by simp;omega
   rw [h4]
   unfold mostS;rw [if_neg h1,if_neg h3];rfl
theorem lim_len {n:Nat} {m:Int} {p:Nat} {s:St} (h:(limF (s.er.isNone&&((n:Int)==m)) p s).er=none) (hn:(n:Int)≤m):(n:Int)+1≤m:=by
 obtain ⟨i,er⟩:=s
 cases er with
 |some e=>cases h
 |none=>
  by_cases hq:(n:Int)=m
  ·rw [show ((n:Int)==m)=true by simpa using hq] at h;exact (failS_no h).elim
  ·omega
theorem needK_e {ts:List Tk} {k:Int} {c:List UInt8} {s:St} {e:Int×Nat} (h:s.er=some e):needK ts k c s=s:=by obtain ⟨i,er⟩:=s;cases h;rfl
theorem ruMF_e {ts:List Tk} {s:St} {e:Int×Nat} (h:s.er=some e):ruMF ts s=s:=by unfold ruMF;rw [needS_e h,needK_e h]
theorem ruNF_e {ts:List Tk} {s:St} {e:Int×Nat} (h:s.er=some e):ruNF ts s=s:=by unfold ruNF;rw [h];rfl
theorem ruWF_e {ts:List Tk} {d:Int} {s:St} {e:Int×Nat} (h:s.er=some e):ruWF ts d s=(0, [],0,s):=by unfold ruWF;rw [h];rfl
theorem tailW_e {ts:List Tk} {d:Nat} {s:St} {e:Int×Nat} (h:s.er=some e):ruP ts (ruG ts d (ruN ts s))=(0,s):=by
 have h1:ruN ts s=s:=by unfold ruN;rw [failS_e h,ite_self,stepS_e h]
 have h3:ruG ts d s=(false, [],s):=by unfold ruG;rw [takeS_e h,goS_e h];rfl
 rw [h1,h3,ruP_f]
theorem Ri.err {d:Int} {cs cs' :List Cl} {rs rs' :List Ru} {s:St} {x:Sf} {e:Int×Nat} (h1:s.er=some e) (h2:x.s.er=some e):Ri d (cs,rs,s) (cs',rs',x):=⟨by simp only;rw [h1,h2],fun h=>by simp only at h;rw [h1] at h;cases h⟩
theorem Ri.err' {d:Int} {x:List Cl×List Ru×St} {y:List Cl×List Ru×Sf} {e:Int×Nat} (h1:x.2.2.er=some e) (h2:y.2.2.s.er=some e):Ri d x y:=⟨by rw [h1,h2],fun h=>by rw [h1] at h;cases h⟩
theorem rule_ag {ts:List Tk} (W:Wds ts) {d:Nat} (hd:d≤100) (a:Nat) (t:T) {cs:List Cl} {rs:List Ru} (hc:cs.length≤30) (hr:rs.length≤20) {s:St} (hs:SOk ts s) (ht:takeS ts [60,45] s=true):
  Ri d (cs,rs++ [(ruleS ts d t s).1],itM a (cs,rs++ [(ruleS ts d t s).1],(ruleS ts d t s).2)) (itRF ts a t cs rs ⟨goS ts [60,45] s,d⟩):=by
 unfold ruleS ruE
 rw [needS_go ht]
 have h1:=goS_ok (c:= [60,45]) W.Nx hs
 have hn1:(goS ts [60,45] s).er=none:=by rw [goS_t ht]
 generalize goS ts [60,45] s=v at *
 obtain ⟨kP1,kP2⟩:=(patN_all W 101 d hd (by omega)).1 _ h1
 unfold itRF ruleF ruEF
 simp only
 rcases ((pat_ag W 101 101 d hd (by omega) (by omega)) v h1 hn1).cases with ⟨k1,k2⟩|⟨e,k1,k2⟩
 ·rw [k2]
  generalize patN ts 101 d v=A at *
  obtain ⟨p,u⟩:=A
  simp only at k1 kP1 ⊢
  rw [←ruM_F]
  have hM:=(ruM_ok W kP1).1
  generalize ruM ts u=u1 at *
  obtain ⟨q1,q2⟩:=tail_ag W hd hM
  rw [itM_r hc hr,ask_lim]
  cases he:(ruP ts (ruG ts d (ruN ts u1))).2.er with
  |some e=>
   rw [he] at q1
   refine Ri.err (e:=e) ?_ ?_
   ·rw [needS_e he,limF_e he,limF_e he,he]
   ·simp only;rw [needS_e q1.symm,limF_e q1.symm,limF_e q1.symm, ←q1]
  |none=>
   rw [q2 he]
   unfold ruQ
   simp only
   generalize ruP ts (ruG ts d (ruN ts u1))=P at *
   generalize (ruG ts d (ruN ts u1)).2.1=G at *
   generalize limF ((needS ts [46] P.2).er.isNone&&muchP p) (tkS ts v).p (needS ts [46] P.2)=s2 at *
   refine ⟨rfl,fun h=>⟨rfl,hc, ?_⟩⟩
   have:=lim_len h (by omega)
   simp;omega
 ·have kM:=ruMF_e (ts:=ts) k2
  have kN:=ruNF_e (ts:=ts) k2
  have kW:=ruWF_e (ts:=ts) (d:=(patF ts 101 ⟨v,(d:Int)⟩).2.d) k2
  rw [itM_r hc hr,ruM_F,ruMF_e k1,tailW_e k1,kM,kN,kW,ask_lim]
  refine Ri.err (e:=e) ?_ ?_
  ·simp only;rw [needS_e k1,limF_e k1,limF_e k1,k1]
  ·simp only;rw [needS_e k2,limF_e k2,limF_e k2,k2]
theorem clause_ag {ts:List Tk} (W:Wds ts) {d:Nat} (hd:d≤100) (a:Nat) (t:T) {cs:List Cl} {rs:List Ru} (hc:cs.length≤30) (hr:rs.length≤20) {s:St} (hs:SOk ts s) (hn:s.er=none):
  Ri d (cs++ [(clauseS ts d t s).1],rs,itM a (cs++ [(clauseS ts d t s).1],rs,(clauseS ts d t s).2)) (itCF ts a t cs rs ⟨s,d⟩):=by
 have key:R2 ((⟨t,(clL ts d ts.length (takeS ts [58,45] s) [] [] (goS ts [58,45] s)).1,(clL ts d ts.length (takeS ts [58,45] s) [] [] (goS ts [58,45] s)).2.1⟩:Cl),(clL ts d ts.length (takeS ts [58,45] s) [] [] (goS ts [58,45] s)).2.2)
   (if takeS ts [58,45] s=true then clauseF ts t ⟨goS ts [58,45] s,d⟩ else (⟨t, [], []⟩,s)):=by
  cases ht:takeS ts [58,45] s with
  |false=>rw [if_neg (by simp),clL_stop,goS_f ht];exact .refl _
  |true=>
   rw [if_pos rfl]
   unfold clauseF
   simp only
   obtain ⟨k1,k2⟩:=cl_ag W hd ts.length [] [] _ (goS_ok (c:= [58,45]) W.Nx hs) (by rw [goS_t ht])
   exact ⟨k1,fun h=>by rw [k2 h]⟩
 unfold clauseS itCF
 simp only
 generalize clL ts d ts.length (takeS ts [58,45] s) [] [] (goS ts [58,45] s)=A at *
 obtain ⟨b,g,s1⟩:=A
 generalize (if takeS ts [58,45] s=true then clauseF ts t ⟨goS ts [58,45] s,(d:Int)⟩ else ((⟨t, [], []⟩:Cl),s))=B at *
 obtain ⟨c,s1'⟩:=B
 simp only at key ⊢
 rw [itM_c hc hr]
 rcases key.cases with ⟨k1,k2⟩|⟨e,k1,k2⟩
 ·cases k2
  generalize needS ts [46] s1=s2 at *
  refine ⟨rfl,fun h=>⟨rfl, ?_,hr⟩⟩
  have:=lim_len h (by omega)
  simp;omega
 ·simp only at k1 k2
  refine Ri.err (e:=e) ?_ ?_
  ·rw [needS_e k1,limF_e k1,k1]
  ·simp only;rw [needS_e k2,limF_e k2,k2]
theorem clauseS_e {ts:List Tk} {d:Nat} {t:T} {s:St} {e:Int×Nat} (h:s.er=some e):(clauseS ts d t s).2=s:=by
 unfold clauseS;simp only;rw [takeS_e h,goS_e h,clL_stop];simp only;rw [needS_e h]
theorem itCF_e {ts:List Tk} {a:Nat} {t:T} {cs:List Cl} {rs:List Ru} {x:Sf} {e:Int×Nat} (h:x.s.er=some e):(itCF ts a t cs rs x).2.2.s=x.s:=by
 unfold itCF;rw [takeS_e h,if_neg (by simp)];simp only;rw [needS_e h,limF_e h]
theorem item_ag {ts:List Tk} (W:Wds ts) {d:Nat} (hd:d≤100) {cs:List Cl} {rs:List Ru} (hc:cs.length≤30) (hr:rs.length≤20) {s:St} (hs:SOk ts s) (hn:s.er=none):
  Ri d (itemS ts d cs rs s) (itemF ts cs rs ⟨s,d⟩):=by
 have h1:=tmS_ok (d:=d) W hs
 unfold itemS itB itemF
 simp only
 rcases (tm_r2 ts d hn).cases with ⟨k1,k2⟩|⟨e,k1,k2⟩
 ·rw [k2]
  have e1:((tmS ts d s).2.er.isNone&&isS (tkS ts (tmS ts d s).2) [60,45])=takeS ts [60,45] (tmS ts d s).2:=rfl
  rw [e1]
  cases ht:takeS ts [60,45] (tmS ts d s).2 with
  |true=>rw [if_pos rfl,if_pos rfl];exact rule_ag W hd _ _ hc hr h1 ht
  |false=>rw [if_neg (by simp),if_neg (by simp)];exact clause_ag W hd _ _ hc hr h1 k1
 ·have k3:=takeS_e (ts:=ts) (c:= [60,45]) k2
  rw [k1,k3,if_neg (by simp),if_neg (by simp)]
  have:=clauseS_e (ts:=ts) (d:=d) (t:=(tmS ts d s).1) k1
  refine Ri.err' (e:=e) ?_ ?_
  ·simp only;rw [itM_e (e:=e) (by simp only;rw [this,k1])];simp only;rw [this,k1]
  ·have:=itCF_e (ts:=ts) (a:=(tkS ts s).p) (t:=(tmF ts ⟨s,(d:Int)⟩).1) (cs:=cs) (rs:=rs) (x:=⟨(tmF ts ⟨s,(d:Int)⟩).2,(d:Int)⟩) k2
   rw [this,k2]
theorem prL_e {ts:List Tk} {d m:Nat} {cs:List Cl} {rs:List Ru} {s:St} {e:Int×Nat} (h:s.er=some e):prL ts d m cs rs s=(cs,rs,s):=by
 cases m with
 |zero=>rfl
 |succ m=>rw [prL,h,if_neg (by simp)]
theorem prF_e {ts:List Tk} {m:Nat} {cs:List Cl} {rs:List Ru} {x:Sf} {e:Int×Nat} (h:x.s.er=some e):prF ts m cs rs x=(cs,rs,x):=by
 cases m with
 |zero=>rfl
 |succ m=>rw [prF,h,if_neg (by simp)]
theorem pr_ag {ts:List Tk} (W:Wds ts) {d:Nat} (hd:d≤100): ∀(m:Nat) (cs:List Cl) (rs:List Ru) (s:St),cs.length≤30→rs.length≤20→SOk ts s→s.er=none→ts.length≤m+s.i→
  (prL ts d m cs rs s).2.2.er=(prF ts m cs rs ⟨s,d⟩).2.2.s.er∧((prL ts d m cs rs s).2.2.er=none→prF ts m cs rs ⟨s,d⟩=((prL ts d m cs rs s).1,(prL ts d m cs rs s).2.1,⟨(prL ts d m cs rs s).2.2,d⟩)∧(tkS ts (prL ts d m cs rs s).2.2).k=5∧SOk ts (prL ts d m cs rs s).2.2)
 |0,cs,rs,s,hc,hr,hs,hn,hm=>by have:=hs.1;omega
 |m+1,cs,rs,s,hc,hr,hs,hn,hm=>by
  rw [prL,prF]
  have e1:s.er.isNone=true:=by rw [hn];rfl
  rw [e1]
  cases hk:((tkS ts s).k !=5) with
  |false=>
   rw [if_neg (by simp),if_neg (by simp)]
   exact ⟨rfl,fun _=>⟨rfl,by simpa using hk,hs⟩⟩
  |true=>
   rw [if_pos (by rfl),if_pos (by rfl)]
   have hi:=item_ag W hd hc hr hs hn
   have ho:=(itemS_ok W hd (cs:=cs) (rs:=rs) hs).1
   have hl:=fun e=>itemS_lt W hd (cs:=cs) (rs:=rs) hs e
   obtain ⟨q1,q2⟩:=hi
   cases he:(itemS ts d cs rs s).2.2.er with
   |some e=>
    rw [he] at q1
    rw [prL_e he,prF_e q1.symm]
    exact ⟨by simp only;rw [he, ←q1],fun h=>by simp only at h;rw [he] at h;cases h⟩
   |none=>
    obtain ⟨q3,q4,q5⟩:=q2 he
    rw [q3]
    exact pr_ag W hd m _ _ _ q4 q5 ho he (by have:=hl he;omega)
theorem rdP_F (s:List UInt8):rdP s=rdPF s:=by
 unfold rdP rdPF
 split
 ·rename_i hc
  obtain ⟨W,hl⟩:=toks_wds hc
  generalize (toks s).1=ts at *
  have hp:=W.pos
  obtain ⟨k1,k2⟩:=pr_ag W (d:=0) (by omega) ts.length [] [] ⟨0,none⟩ (by simp) (by simp) ⟨hp,fun e he=>by cases he⟩ rfl (by simp)
  rw [show ((0:Nat):Int)=0 from rfl] at k1 k2
  generalize prL ts 0 ts.length [] [] ⟨0,none⟩=A at *
  cases he:A.2.2.er with
  |some e=>
   rw [he] at k1
   rw [←k1]
   rfl
  |none=>
   obtain ⟨q1,q2,q3⟩:=k2 he
   rw [q1]
   simp only
   rw [he]
   unfold endG
   simp only
   rw [isE_get (tkS_get q3),q2]
   rfl
 ·rfl
end Go.Proofs.YtnibelnjflhkgaaGreatDoor.Ab

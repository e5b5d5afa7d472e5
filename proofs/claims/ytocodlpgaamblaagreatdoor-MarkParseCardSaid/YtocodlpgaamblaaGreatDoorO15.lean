/- Both parse alike. The writer: its builder. The writer's text. Itoa; the writer's names. What the writer writes: the text of a mark, and whether its names can be read again. -/
import Derived.Test.YtocodlpgaamblaaGreatDoorO7
import Derived.Test.YtocodlpgaamblaaGreatDoorO10
import Derived.Test.YtocodlpgaamblaaGreatDoorO14
import Derived.Lib.Builder
import Derived.Lib.AppendStr
import Derived.Lib.UnsafeStr
import Derived.Laws.Externs
import Derived.Test.YtocodlpgaamblaaGreatDoorShelf
import Derived.Lib.ItoaLen
set_option linter.unusedVariables false
set_option linter.unusedSimpArgs false
set_option maxRecDepth 100000
set_option maxHeartbeats 4000000
open Go.RowKit
namespace Go.Proofs.YtocodlpgaamblaaGreatDoor
def PAns.three:PAns->Mk×Int×Int | .err a c=>(.node ⟨#[]⟩ 0 0 [],a,c) | .mark k=>(k,0,0)
def ThreeP (t:TypeId) (W:World) (ans:PAns) (e:Ending) (w':World):Prop:=∃M:MkM,e=.returned (.tuple #[.agg #[.string M.op,.int .i64 M.a,.int .i64 M.b,.slice M.s.A M.s.n M.s.c],.int .i64 ans.three.2.1,.int .i64 ans.three.2.2])∧M.core=ans.three.1∧M.Ok w' t (fun _=>True)∧Below W.heap.size W w'
theorem zero_mk (w:World) (t:TypeId):MkM.Ok w t (fun _=>True) ⟨⟨#[]⟩,0,0,[],⟨none,0,0⟩⟩:=.mk _ _ _ _ _ (.inl rfl) rfl (by decide) (by decide) ⟨by decide,by decide⟩ ⟨by decide,by decide⟩ (fun k hk=>by cases hk)
theorem three_p {W w':World} {ans:PAns} {e:Ending} (h:ParseQ W ans e w'):ThreeP 49 W ans e w':=by
 cases ans with
 | err a c=>exact⟨⟨⟨#[]⟩,0,0,[],⟨none,0,0⟩⟩,h.1,rfl,zero_mk _ _,h.2⟩
 | mark k=>obtain⟨M,h1,h2,h3,h4⟩:=h;exact⟨M,h1,h2,h3.any,h4⟩
theorem three_r {W w':World} {ans:PAns} {e:Ending} (h:RParseQ W ans e w'):ThreeP 35 W ans e w':=by
 cases ans with
 | err a c=>exact⟨⟨⟨#[]⟩,0,0,[],⟨none,0,0⟩⟩,h.1,rfl,zero_mk _ _,h.2⟩
 | mark k=>obtain⟨M,h1,h2,h3,h4⟩:=h;exact⟨M,h1,h2,h3.any,h4⟩
theorem parses_any {W:World} {m:CatM} (s:ByteArray) (hs:s.size<=8192) (hT:Tab W) (hi:ItsV W m.si m.items) (hr:RulesV W m.sr m.rules) :
 Calls Tryz.prog 14 #[.agg #[.slice m.si.A m.si.n m.si.c,.slice m.sr.A m.sr.n m.sr.c,.slice m.st.A m.st.n m.st.c,.slice m.sx.A m.sx.n m.sx.c],.string s] W fun e w'=>e=.returned (.bool true)∧Below W.heap.size W w':=by
 have y:Below W.heap.size W (W.alloc (.cells #[.slice m.si.A m.si.n m.si.c,.slice m.sr.A m.sr.n m.sr.c,.slice m.st.A m.st.n m.st.c,.slice m.sx.A m.sx.n m.sx.c] 28)):=(Below.refl _ _).alloc (Nat.le_refl _) _;have BC:=iH (Bk.new W 28 [.slice m.si.A m.si.n m.si.c,.slice m.sr.A m.sr.n m.sr.c,.slice m.st.A m.st.n m.st.c,.slice m.sx.A m.sx.n m.sx.c]);have K1:=iH ((parse_any (w:=W.alloc (.cells #[.slice m.si.A m.si.n m.si.c,.slice m.sr.A m.sr.n m.sr.c,.slice m.st.A m.st.n m.st.c,.slice m.sx.A m.sx.n m.sx.c] 28)) s hs (hT.below y hT.1) (hi.below y) (hr.below y)).mono fun _ _ h=>three_p h);have K2:Hid (∀U,Below W.heap.size W U->Calls Tryz.prog 43 _ U _):=iH fun U hU=>(rparse_any (w:=U) s hs (hi.below hU) (hr.below hU)).mono fun _ _ h=>three_r h
 have Y:=iH y;have c0:(W.alloc (.cells #[.slice m.si.A m.si.n m.si.c,.slice m.sr.A m.sr.n m.sr.c,.slice m.st.A m.st.n m.st.c,.slice m.sx.A m.sx.n m.sx.c] 28)).cell? ⟨W.heap.size,0,none⟩=some (.slice m.si.A m.si.n m.si.c):=BC.out.cell 0;have c1:(W.alloc (.cells #[.slice m.si.A m.si.n m.si.c,.slice m.sr.A m.sr.n m.sr.c,.slice m.st.A m.st.n m.st.c,.slice m.sx.A m.sx.n m.sx.c] 28)).cell? ⟨W.heap.size,1,none⟩=some (.slice m.sr.A m.sr.n m.sr.c):=BC.out.cell 1;have c2:(W.alloc (.cells #[.slice m.si.A m.si.n m.si.c,.slice m.sr.A m.sr.n m.sr.c,.slice m.st.A m.st.n m.st.c,.slice m.sx.A m.sx.n m.sx.c] 28)).cell? ⟨W.heap.size,2,none⟩=some (.slice m.st.A m.st.n m.st.c):=BC.out.cell 2;have c3:(W.alloc (.cells #[.slice m.si.A m.si.n m.si.c,.slice m.sr.A m.sr.n m.sr.c,.slice m.st.A m.st.n m.st.c,.slice m.sx.A m.sx.n m.sx.c] 28)).cell? ⟨W.heap.size,3,none⟩=some (.slice m.sx.A m.sx.n m.sx.c):=BC.out.cell 3;have cl:=BC.out.lt;clear y hT hi hr hs;generalize parseAll m s=ans at *;go_enter Tryz.func14,Tryz.ntmps14;go_wp2_with fail;refine K1.out.mono ?_;rintro e w1 ⟨M,rfl,hc,hok,hb⟩;have y1:Below w1.heap.size w1 (w1.alloc (.cells #[.string M.op,.int .i64 M.a,.int .i64 M.b,.slice M.s.A M.s.n M.s.c] 49)):=(Below.refl _ _).alloc (Nat.le_refl _) _;have hb1:=Y.out.trans (hb.mono Y.out.size);have Y1:=iH (hb1.trans (y1.mono hb1.size));have BC1:=iH ((BC.out.below hb BC.out.lt).below y1 (BC.out.below hb BC.out.lt).lt);have B51:=iH (Bk.new w1 49 [.string M.op,.int .i64 M.a,.int .i64 M.b,.slice M.s.A M.s.n M.s.c]);have OM1:=iH (hok.bel y1);have KR:=iH (K2.out _ Y1.out);have HCM:=iH hc;clear c0 c1 c2 c3 cl K1 K2 hb hb1 y1 hok BC Y hc;have c0:(w1.alloc (.cells #[.string M.op,.int .i64 M.a,.int .i64 M.b,.slice M.s.A M.s.n M.s.c] 49)).cell? ⟨W.heap.size,0,none⟩=some (.slice m.si.A m.si.n m.si.c):=BC1.out.cell 0;have c1:(w1.alloc (.cells #[.string M.op,.int .i64 M.a,.int .i64 M.b,.slice M.s.A M.s.n M.s.c] 49)).cell? ⟨W.heap.size,1,none⟩=some (.slice m.sr.A m.sr.n m.sr.c):=BC1.out.cell 1;have c2:(w1.alloc (.cells #[.string M.op,.int .i64 M.a,.int .i64 M.b,.slice M.s.A M.s.n M.s.c] 49)).cell? ⟨W.heap.size,2,none⟩=some (.slice m.st.A m.st.n m.st.c):=BC1.out.cell 2;have c3:(w1.alloc (.cells #[.string M.op,.int .i64 M.a,.int .i64 M.b,.slice M.s.A M.s.n M.s.c] 49)).cell? ⟨W.heap.size,3,none⟩=some (.slice m.sx.A m.sx.n m.sx.c):=BC1.out.cell 3;have cl:=BC1.out.lt;go_wp2_with fail;refine KR.out.mono ?_;rintro e w2 ⟨R,rfl,hc,hok,hb⟩;have y2:Below w2.heap.size w2 (w2.alloc (.cells #[.string R.op,.int .i64 R.a,.int .i64 R.b,.slice R.s.A R.s.n R.s.c] 35)):=(Below.refl _ _).alloc (Nat.le_refl _) _;have hb2:=Y1.out.trans (hb.mono Y1.out.size);have Y3:=iH (hb2.trans (y2.mono hb2.size));have b52:=B51.out.below hb B51.out.lt;have B53:=iH (b52.below y2 b52.lt);have B83:=iH (Bk.new w2 35 [.string R.op,.int .i64 R.a,.int .i64 R.b,.slice R.s.A R.s.n R.s.c]);have OM3:=iH ((OM1.out.bel hb).bel y2);have OR3:=iH (hok.bel y2);have HCQ:=iH (HCM.out.trans hc.symm);clear c0 c1 c2 c3 cl KR hb hb2 y2 hok BC1 Y1 B51 OM1 hc HCM b52;generalize ans.three.2.1=ra at *;generalize ans.three.2.2=rc at *;go_wp2;refine wp_region_X (fun w'=>Bk w' w1.heap.size 49 [.string M.op,.int .i64 M.a,.int .i64 M.b,.slice M.s.A M.s.n M.s.c]∧Bk w' w2.heap.size 35 [.string R.op,.int .i64 R.a,.int .i64 R.b,.slice R.s.A R.s.n R.s.c]) 15 (n:=15) rfl (by kernel_rfl) (⟨B53.out.drew,B83.out.drew⟩) (fun hS=>?_);refine uS 0 25 hS ?_;refine uS 1 26 hS ?_;refine uS 2 27 hS ?_;refine uS 3 28 hS ?_;refine uS 4 29 hS ?_;refine uS 5 30 hS ?_;refine uS 6 31 hS ?_;refine uS 7 32 hS ?_;refine uS 8 33 hS ?_;refine uS 9 34 hS ?_ (hy:=fun w' hS'=>by have⟨e0,e1,e2,e3,el⟩:=hS'.1.p4;have⟨f0,f1,f2,f3,fl⟩:=hS'.2.p4;(go_simp;try with_reducible rfl));refine uS 11 36 hS ?_ (hy:=fun w' hS'=>by have⟨e0,e1,e2,e3,el⟩:=hS'.1.p4;have⟨f0,f1,f2,f3,fl⟩:=hS'.2.p4;(go_simp;try with_reducible rfl));refine X_o 10 rfl fun K hK=>?_;go_simp;have K1:=iH (back_any M (w2.alloc (.cells #[.string R.op,.int .i64 R.a,.int .i64 R.b,.slice R.s.A R.s.n R.s.c] 35)).drew _ OM3.out.drew);(with_reducible refine K1.out.mono ?_);rintro e w4 ⟨B,rfl,hc,hok,hb⟩;have hd:=(Below.refl (w2.alloc (.cells #[.string R.op,.int .i64 R.a,.int .i64 R.b,.slice R.s.A R.s.n R.s.c] 35)).heap.size (w2.alloc (.cells #[.string R.op,.int .i64 R.a,.int .i64 R.b,.slice R.s.A R.s.n R.s.c] 35))).drew.trans hb;have B54:=iH (B53.out.below hd B53.out.lt);have B84:=iH (B83.out.below hd B83.out.lt);have OR4:=iH (OR3.out.bel hd);have OB4:=iH hok;have Y4:=iH (Y3.out.trans (hd.mono Y3.out.size));have HCB:=iH (hc.trans HCQ.out);refine hK _ _ ⟨B54.out,B84.out⟩ ?_;clear hK K1 hc hok hb hd B53 B83 OR3 OM3 Y3;refine X_o 12 rfl fun K hK=>?_;go_simp;have K1:=iH (requal_any B R w4 _ _ OB4.out OR4.out HCB.out);(with_reducible refine K1.out.mono ?_);rintro e w5 ⟨rfl,hb⟩;have B55:=iH (B54.out.below hb B54.out.lt);have B85:=iH (B84.out.below hb B84.out.lt);have Y5:=iH (Y4.out.trans (hb.mono Y4.out.size));refine hK _ _ ⟨B55.out,B85.out⟩ ?_;clear hK K1 hb B54 B84 OB4 OR4 Y4;refine uS 13 38 ⟨B55.out,B85.out⟩ ?_;refine X_o 14 rfl fun K hK=>?_;go_simp;refine hK _ _ ⟨B55.out,B85.out⟩ ?_;clear hK;refine X_done (by kernel_rfl) ?_;clear hS;go_wp2;go_ret;exact⟨rfl,Y5.out⟩
section
def WrAt (w:World) (B wb:Nat) (bs:List UInt8) (its rus:Sl) (fit:Bool):Prop :=
 ∃p v,(p=.pointer none∨p=.pointer (some ⟨wb,0,none⟩))∧Bk w wb 116 [p,v,.slice its.A its.n its.c,.slice rus.A rus.n rus.c,.bool fit]∧w.ownsRow B 5 1 v bs.length (Lib.byteCells bs)∧B<=wb
structure GrW (B : Nat) (w w' : World) : Prop where
 low:Below B w w'
 keep:∀t,t≠5->t≠116->Keep t w w'
section
variable {B : Nat} {a b c w w' : World}
theorem GrW.refl (B:Nat) (w:World):GrW B w w:=⟨Below.refl _ _,fun t _ _=>Keep.refl t w⟩
theorem GrW.trans (h:GrW B a b) (k:GrW B b c):GrW B a c:=⟨h.low.trans k.low,fun t h1 h2=>(h.keep t h1 h2).trans (k.keep t h1 h2)⟩
theorem GrW.of_below (h:Below w.heap.size w w') (hB:B<=w.heap.size):GrW B w w':=⟨h.mono hB,fun t _ _=>.below h⟩
theorem GrW.of_own {v:Value} {n:Nat} {xs:List Value} (ho:w.ownsRow B 5 1 v n xs) (h:w.grownBy w' v.ownBlock) (hB:B<=w.heap.size):GrW B w w' :=
 ⟨(Below.refl B w).grown h hB (row_base ho),fun t h1 _=>.own ho h (Ne.symm h1)⟩
theorem GrW.of_wb {g:Nat} {xs:List Value} (hb:Bk w g 116 xs) (h:w.grownBy w' (some g)) (hB:B<=w.heap.size) (hg:B<=g):GrW B w w' :=
 ⟨(Below.refl B w).grown h hB (fun k hk=>by cases hk;exact hg),fun t _ h2=>.grown h (hb.not (Ne.symm h2))⟩
theorem GrW.size (h:GrW B w w'):w.heap.size<=w'.heap.size:=h.low.size
theorem MkM.Ok.keep {t:TypeId} {P:Nat->Prop} {m:MkM} (h:m.Ok w t P) (hk:Keep t w w'):m.Ok w' t P:=by
 induction h with
 | mk op a b ks s row len small hop ha hb _ ih =>
   refine .mk op a b ks s ?_ len small hop ha hb ih;rcases row with h|⟨b,off,cur,fl,hA,hPb,hb,hc⟩
   ·exact .inl h
   ·exact .inr ⟨b,off,cur,fl,hA,hPb,hk b cur fl hb,hc⟩
theorem Bk.keep {g:Nat} {t:TypeId} {xs:List Value} (h:Bk w g t xs) (hk:Keep t w w'):Bk w' g t xs:=hk g _ _ h
end
theorem shape_of {w:World} {g:Nat} {t:TypeId} {xs:List Value} (h:Bk w g t xs):w.shape? g=some (t,xs.length):=by
 unfold Bk at h;simp[World.shape?,h]
theorem size114:(Tryz.prog.info? 114).map (fun i=>i.size)=some 2:=by kernel_rfl
theorem lies114:liesAt Tryz.prog Tryz.prog.depth 116 (5 / Tryz.prog.cellsOf 116) 0 114 1=true:=by kernel_rfl
theorem copyCheck_any {w:World} {B wb:Nat} {bs:List UInt8} {its rus:Sl} {fit:Bool} (h:WrAt w B wb bs its rus fit) (hBw:B<=w.heap.size) :
 Calls Tryz.prog 123 #[.pointer (some ⟨wb,0,none⟩)] w fun e w'=>e=.returned (.tuple #[])∧GrW B w w'∧∃v,Bk w' wb 116 [.pointer (some ⟨wb,0,none⟩),v,.slice its.A its.n its.c,.slice rus.A rus.n rus.c,.bool fit]∧w'.ownsRow B 5 1 v bs.length (Lib.byteCells bs)∧B<=wb:=by
 obtain⟨p,v,hp,hb,hown,hB⟩:=h;have hne:v.ownBlock≠some wb:=fun e=>by
  rcases hown.2 with ⟨hv,_⟩|⟨g,cap,cur,hv,_,hg,_⟩
  ·rw[hv]at e;cases e
  ·rw[hv]at e;have e':g=wb:=by simpa[Value.ownBlock]using e
   subst e';unfold Bk at hb;rw[hg]at hb;cases hb
 have hl:=hb.lt;obtain⟨j,hj,hjs⟩:=Option.map_eq_some_iff.1 size114;rcases hp with rfl|rfl
 ·have c0:=hb.k0;have f0:=hb.frozen 0;have hsh:w.shape? wb=some (116,5):=shape_of hb;have HB:=iH (hb.set 0 (.pointer (some ⟨wb,0,none⟩)));have hg:=grown_setCell w wb 0 (.pointer (some ⟨wb,0,none⟩));have HO:=iH (hown.kept hg (.inr (fun e=>hne e)));have HG:=iH (GrW.of_wb hb hg hBw hB);clear hb hown hne hg;go_enter Tryz.func123,Tryz.ntmps123;go_wp2;rw[Lib.run_to_unsafe w ⟨wb,0,none⟩ Tryz.underlying111 Tryz.underlying195 hj (by rw[hjs];decide) hsh (show(0:Nat)<5 by decide)];simp only[Result.andThen];rw[Oper.upon_value];go_wp2;rw[run_callFunc_extern Tryz.func136 (by kernel_rfl) (by kernel_rfl) (by kernel_rfl) (e:=Extern.AbiNoEscape.same) (by kernel_rfl)];rw[Lib.run_noEscape];simp only[Result.andThen];rw[Oper.upon_value];go_wp2;rw[Lib.run_from_unsafe w ⟨wb,0,none⟩ Tryz.underlying195 Tryz.underlying111 hj hsh lies114];simp only[Result.andThen];rw[Oper.upon_value];go_wp2
  go_end0
  exact⟨rfl,HG.out,v,HB.out,HO.out,hB⟩
 ·have c0:=hb.k0;have HB:=iH hb;have HO:=iH hown;clear hb hown hne;go_enter Tryz.func123,Tryz.ntmps123;go_wp2;rw[Lib.run_neq_ptr_same w _ Tryz.underlying111 hj];go_wp2
  go_end0
  exact⟨rfl,.refl _ _,v,HB.out,HO.out,hB⟩
theorem info5:(Tryz.prog.info? 5).map (fun i=>(i.zero,i.size,i.bytes))=some (some (.int .u8 0),1,1):=by kernel_rfl
theorem byteCells_app (bs:List UInt8) (s:ByteArray):Lib.byteCells bs ++ Lib.strCells s=Lib.byteCells (bs ++ s.data.toList):=by simp[Lib.byteCells,Lib.strCells]
theorem write_any {w:World} {B wb:Nat} {bs:List UInt8} {its rus:Sl} {fit:Bool} (s:ByteArray) (h:WrAt w B wb bs its rus fit) (hBw:B<=w.heap.size) (hlen:bs.length+s.size<=1000000) :
 Calls Tryz.prog 79 #[.pointer (some ⟨wb,0,none⟩),.string s] w fun e w'=>e=.returned (.tuple #[.int .i64 s.size,.nilIface])∧WrAt w' B wb (bs ++ s.data.toList) its rus fit∧GrW B w w':=by
 obtain⟨i0,hi,hz0,hz1,hz2⟩:=info_parts info5;have K:=iH (copyCheck_any h hBw);clear h;go_enter Tryz.func79,Tryz.ntmps79;go_wp2_with fail;refine K.out.mono ?_;rintro e w1 ⟨rfl,hG,v,hb,hown,hB⟩;clear K;have c1:w1.cell? ⟨wb,1,none⟩=some v:=hb.cell 1;have hl:=hb.lt;have HG:=iH hG;have HB:=iH hb;have HO:=iH hown;have hsz:=hG.size;have hne:v.ownBlock≠some wb:=fun e=>by
  rcases hown.2 with ⟨hv,_⟩|⟨g,cap,cur,hv,_,hg,_⟩
  ·rw[hv]at e;cases e
  ·rw[hv]at e;have e':g=wb:=by simpa[Value.ownBlock]using e
   subst e';unfold Bk at hb;rw[hg]at hb;cases hb
 clear hG hb hown;go_wp2_with(at_builtin;refine Lib.wpList_append_own_string _ rfl _ _ 112 9 rfl B 5 i0 Tryz.underlying112 Tryz.underlying9 hi hz0 hz1 hz2 _ _ _ rfl HO.out s rfl ?c3 ?c4 ?c5 ?_)
 case c3=>unfold maxLen;omega
 case c4=>omega
 case c5=>omega
 intro v' w2 hown' hgrow _;have hb2:=HB.out.grown hgrow (fun e=>hne e.symm);have HG2:=iH (HG.out.trans (.of_own HO.out hgrow (by omega)));have HB2:=iH hb2;have d1:w2.cell? ⟨wb,1,none⟩=some v:=hb2.cell 1;have f1:=hb2.frozen 1;have hl2:=hb2.lt;have hs2:=hgrow.size;have HO2:=iH hown';clear hb2 hown' hgrow HG HB HO;obtain⟨ao,n',cap,rfl⟩:∃ao n' cap,v'=.slice ao n' cap:=by
  rcases HO2.out.2 with ⟨hv,_⟩|⟨g,cap,cur,hv,_⟩
  ·exact⟨_,_,_,hv⟩
  ·exact⟨_,_,_,hv⟩
 go_wp2;refine bodyPost_ret (v:=.tuple #[.int .i64 s.size,.nilIface]) (by simp[results,Tryz.results79,go_sem]) rfl ?_;have hg3:=grown_setCell w2 wb 1 (.slice ao n' cap);have hne2:(Value.slice ao n' cap).ownBlock≠some wb:=fun e=>by
  rcases HO2.out.2 with ⟨hv,_⟩|⟨g,cap,cur,hv,_,hg,_⟩
  ·rw[hv]at e;cases e
  ·rw[hv]at e;have e':g=wb:=by simpa[Value.ownBlock]using e
   subst e';have hb3:=HB2.out;unfold Bk at hb3;rw[hg]at hb3;cases hb3
 refine⟨rfl,⟨_,_,.inr rfl,HB2.out.set 1 _,?_,hB⟩,HG2.out.trans (.of_wb HB2.out hg3 (by omega) hB)⟩;have:=HO2.out.kept hg3 (.inr hne2);rw[byteCells_app]at this;rw[List.length_append,Array.length_toList];exact this
end
theorem cells5:Tryz.prog.cellsOf 5=1:=by kernel_rfl
theorem string_any {w:World} {B wb:Nat} {l:List UInt8} {its rus:Sl} {fit:Bool} (h:WrAt w B wb l its rus fit) (h0:l≠[]) (hsm:l.length<=1000000) :
 Calls Tryz.prog 53 #[.pointer (some ⟨wb,0,none⟩)] w fun e w'=>e=.returned (.string ⟨l.toArray⟩)∧Below B w w':=by
 obtain⟨p,v,hp,hb,hown,hB⟩:=h;have hl0:l.length≠0:=by simpa using h0
 obtain⟨g,cap,cur,rfl,hge,hbg,hnc,hcm,hcs,htake⟩:∃g cap cur,v=.slice (some ⟨g,0,none⟩) l.length cap∧B<=g∧w.heap[g]? = some (.cells cur 5 (0,0))∧l.length<=cap∧cap<=maxLen∧cur.size=cap*1∧cur.toList.take (l.length*1)=Lib.byteCells l:=by
  rcases hown.2 with ⟨_,hz⟩|⟨g,cap,cur,hv,r⟩
  ·exact absurd hz hl0
  ·exact⟨g,cap,cur,hv,r⟩
 have c1:=hb.k1;have c1':w.cell? ⟨wb,1,none⟩=some (.slice (some ⟨g,0,none⟩) l.length cap):=hb.cell 1;have hlt:=hb.lt;have hSD:(Builtin.unsafeSliceData_ #[112] 162 #[.slice (some ⟨g,0,none⟩) l.length cap]).run Tryz.prog w.drew=.ok (.pointer (some ⟨g,0,none⟩)) w.drew :=
  Lib.run_unsafeSliceData_row _ _ _ _ _ _ (by omega)
 have hUS:(Builtin.unsafeString_ #[162,3] 9 #[.pointer (some ⟨g,0,none⟩),.int .i64 l.length]).run Tryz.prog w.drew=.ok (.string ⟨l.toArray⟩) (w.drew.freeze ⟨g,0,none⟩ l.length):=by
  refine Lib.run_unsafeString_row w.drew 162 3 9 5 Tryz.underlying162 cells5 g cur.size (by have hg':w.drew.heap[g]? = some (.cells cur 5 (0,0)):=hbg;simp[World.shape?,hg']) l h0 (by omega) (by omega) ?_;intro j x hx;have:=hown.cells (g:=g) rfl j (.int .u8 x.toNat) (by simp[Lib.byteCells,hx]);exact this
 clear hb hown htake hcs hnc hcm hbg;generalize l.length=n at *;go_enter Tryz.func53,Tryz.ntmps53;go_wp2
 go_region
 all_goals (go_wp2;go_ret;exact⟨rfl,Lib.below_freeze (Below.drew (Below.refl B w)) (p:=⟨g,0,none⟩) hge _⟩)
theorem gPow : Tryz.prog.globalNamed "internal/strconv.uint64pow10" = some 0 := by kernel_rfl
def TabP (W : World) : Prop := Lib.TabIs Tryz.prog W "internal/strconv.uint64pow10" .u64 Lib.pow10Tab
theorem TabP.lt {W:World} (h:TabP W):0<W.heap.size:=by
 unfold TabP Lib.TabIs World.var? at h;rw[gPow]at h;rcases Nat.eq_zero_or_pos W.heap.size with h0|h0
 ·have:W.heap[0]? = none:=Array.getElem?_eq_none (by omega);simp[this]at h
 ·exact h0
theorem TabP.below {B:Nat} {W W':World} (h:TabP W) (hb:Below B W W') (hB:0<B):TabP W':=by
 unfold TabP Lib.TabIs World.var? at h⊢;rw[gPow]at h⊢;simp only[Option.bind_some]at h⊢;rw[hb.block 0 hB];exact h
theorem below_growN (w:World) (k:Nat) (os:Array Obj):Below w.heap.size w (Sort.grow (w.drewN k) os):=⟨rfl,rfl,rfl,by simp[Sort.grow],fun i hi=>by
 show(w.heap ++ os)[i]? = _
 rw[Array.getElem?_append_left hi]⟩
theorem itoa_any (n:Int) (hn:In64 n) (w:World) (hT:TabP w):Calls Tryz.prog 83 #[.int .i64 n] w fun e w'=>e=.returned (.string ⟨(Lib.itoa n).toArray⟩)∧Below w.heap.size w w':=by
 refine(Tryz.strconv_Itoa n hn.1 hn.2 w hT).mono ?_;rintro e w' ⟨rfl,k,os,rfl⟩;exact⟨rfl,below_growN _ _ _⟩
theorem fitG_bad {s:ByteArray} {init:List Tok} {last:Tok} (hp:init ++ [last] <+: toks s) (hl:last.err≠0):fitG s=false:=by
 unfold fitG;obtain⟨r,hr⟩:=hp;rw[<- hr];cases init with
 | nil =>
   cases r with
   | nil=>simp[hl]
   | cons x xs=>rfl
 | cons y ys=>cases ys <;> rfl
theorem WrAt.lt {w:World} {B wb:Nat} {bs:List UInt8} {its rus:Sl} {fit:Bool} (h:WrAt w B wb bs its rus fit):wb<w.heap.size:=by
 obtain⟨p,v,_,hb,_⟩:=h;exact hb.lt
theorem WrAt.below {w w':World} {B wb:Nat} {bs:List UInt8} {its rus:Sl} {fit:Bool} (h:WrAt w B wb bs its rus fit) (hb:Below w.heap.size w w'):WrAt w' B wb bs its rus fit:=by
 obtain⟨p,v,h1,h2,h3,h4⟩:=h;exact⟨p,v,h1,h2.below hb h2.lt,h3.kept (grown_of_below hb none) (by cases v.ownBlock <;> simp),h4⟩
theorem WrAt.unfit {w:World} {B wb:Nat} {bs:List UInt8} {its rus:Sl} {fit:Bool} (h:WrAt w B wb bs its rus fit) (hB:B<=w.heap.size):WrAt (w.setCell ⟨wb,4,none⟩ (.bool false)) B wb bs its rus false∧GrW B w (w.setCell ⟨wb,4,none⟩ (.bool false)):=by
 obtain⟨p,v,h1,h2,h3,h4⟩:=h;have hgr:=grown_setCell w wb 4 (.bool false);have hne:v.ownBlock≠some wb:=fun e=>by
  rcases h3.2 with ⟨hv,_⟩|⟨g,cap,cur,hv,_,hg,_⟩
  ·rw[hv]at e;cases e
  ·rw[hv]at e;have e':g=wb:=by simpa[Value.ownBlock]using e
   subst e';unfold Bk at h2;rw[hg]at h2;cases h2
 exact⟨⟨p,v,h1,h2.set 4 _,h3.kept hgr (.inr hne),h4⟩,.of_wb h2 hgr hB h4⟩
theorem WrAt.cells {w:World} {B wb:Nat} {bs:List UInt8} {its rus:Sl} {fit:Bool} (h:WrAt w B wb bs its rus fit):w.cell? ⟨wb,2,none⟩=some (.slice its.A its.n its.c)∧w.cell? ⟨wb,3,none⟩=some (.slice rus.A rus.n rus.c)∧w.cell? ⟨wb,4,none⟩=some (.bool fit)∧w.frozen? ⟨wb,4,none⟩=false:=by
 obtain⟨p,v,h1,h2,h3,h4⟩:=h;exact⟨h2.cell 2,h2.cell 3,h2.cell 4,h2.frozen 4⟩
def NameW (w:World) (B wb:Nat) (bs:List UInt8) (its rus:Sl) (fit:Bool) (s:ByteArray) (ok:Bool) (e:Ending) (w':World):Prop:=e=.returned (.string s)∧WrAt w' B wb bs its rus (fit && ok)∧GrW B w w'
def wordOk (l:List ByteArray) (k:Nat):Bool:=fitG (l[k]?.getD ⟨#[]⟩) && decide (nameIx l (l[k]?.getD ⟨#[]⟩)=some k)
theorem nameW_any {w:World} {B wb:Nat} {bs:List UInt8} {its rus:Sl} {fit:Bool} {A:Option Addr} {n c:Nat} {l:List ByteArray} (k:Nat) (h:WrAt w B wb bs its rus fit) (hBw:B<=w.heap.size) (hT:Tab w) (hN:NmV w A n l) (hk:k<l.length) (hs:(l[k]).size<=8192) :
 Calls Tryz.prog 82 #[.pointer (some ⟨wb,0,none⟩),.slice A n c,.int .i64 k] w (NameW w B wb bs its rus fit l[k] (wordOk l k)):=by
 have hwo:wordOk l k=(fitG l[k] && decide (nameIx l l[k]=some k)):=by
  unfold wordOk;rw[List.getElem?_eq_getElem hk];rfl
 rw[hwo];obtain⟨b,off,rfl,hbb,c0⟩:=hN.at_ k hk;have hkn:k<n:=by have:=hN.len;omega
 have hn:=hN.small;have KT:=iH (tokens_all l[k] hs w hT);have H:=iH h;have HN:=iH hN
 have hix : nameIx l l[k] ≠ none := by
  intro e
  have : ∀ (l : List ByteArray) (s : ByteArray), s ∈ l -> nameIx l s ≠ none := by
   intro l s
   induction l with
   | nil=>intro h;cases h
   | cons x xs ih =>
     intro h;simp only[nameIx];split
     ·simp
     ·rename_i hne
      rcases List.mem_cons.1 h with e|h
      ·exact absurd e.symm hne
      ·have:=ih h;cases hq:nameIx xs s with
       | none=>exact absurd hq this
       | some j=>simp
  exact this l _ (List.getElem_mem hk) e
 obtain⟨j,hj⟩:=Option.ne_none_iff_exists'.1 hix;have hixo:ixOf l l[k]=j:=by unfold ixOf;rw[hj]
 have hjl:=nameIx_lt hj;rw[hj];have hl:=h.lt;clear h hN hwo hix hj;generalize hnm:l[k]=nm at *;go_enter Tryz.func82,Tryz.ntmps82;go_wp2_with fail;refine KT.out.mono ?_;intro e w1 hp;clear KT;rcases hp with ⟨hz,v,rfl,hown,hb⟩|⟨init,last,hpre,hi,hlt,rfl,hb⟩
 ·have hrow:∃A c,v=.slice A (toks nm).length c∧TRow w1 186 A (kcells (toks nm)):=by
   rcases hown.2 with ⟨hv,h0⟩|⟨g,cap,cur,hv,hge,hg,hc,_⟩
   ·exact⟨none,0,by rw[hv,h0],.inl (by rw[List.eq_nil_of_length_eq_zero h0];rfl)⟩
   ·exact⟨some ⟨g,0,none⟩,cap,hv,TRow.of_own (hv ▸ hown)⟩
  obtain⟨A',c',rfl,hrw⟩:=hrow;obtain⟨x2,x3,x4,f4⟩:=(H.out.below hb).cells;have hl1:=(H.out.below hb).lt;have HU:=iH ((H.out.below hb).unfit (Nat.le_trans hBw hb.size));have HW:=iH (H.out.below hb);have HG:=iH (GrW.of_below (B:=B) hb hBw);have HN1:=iH (HN.out.below hb);have c1:=(show w1.cell? ⟨b,off+k,none⟩=some (.string nm) from by rw[hb.cell hbb];exact c0);clear hb hown;by_cases hl:(toks nm).length=1
  ·obtain⟨tk,htk⟩:=List.length_eq_one_iff.1 hl;rw[htk]at hrw;obtain⟨g,off',rfl,hgb,d⟩:=TRow.at_ (f:=Tok.cells) (n:=4) (fun _=>rfl) hrw 0 (by simp) (by omega);have d0:=d 0 _ rfl;have d1:=d 1 _ rfl;simp only[Nat.mul_zero,Nat.add_zero,List.getElem_cons_zero]at d0 d1;have he0:=hz tk (by rw[htk];simp);have hfe:fitG nm=(decide (tk.kind=0) && decide (tk.text=nm)):=by
    unfold fitG;rw[htk];simp[he0]
   have HF:=iH hfe;rw[hl];have KX:=iH (index_any (c:=c) nm HN1.out);rw[hixo]at KX;clear hfe hrw hz hl htk he0 d;generalize tk.kind=kk at *;generalize tk.text=tx at *;by_cases hk0:kk=0
   ·by_cases htx:tx=nm
    ·by_cases hjk:j=k
     ·subst hk0;subst htx;subst hjk;have e2:(tx.toList == tx.toList)=true:=by simp
      have HR:=iH (show NameW w B wb bs its rus fit tx (fitG tx && decide (some j=some j)) (.returned (.string tx)) w1 from⟨rfl,by rw[HF.out];simpa using HW.out,HG.out⟩);go_wp2_with fail;refine KX.out.mono ?_;rintro e2 w2 ⟨rfl,rfl⟩;go_wp2;go_ret;exact HR.out
     ·subst hk0;subst htx;have e2:(tx.toList == tx.toList)=true:=by simp
      have hjk2:¬ (j:Int)=k:=by omega
      have HR:=iH (show NameW w B wb bs its rus fit tx (fitG tx && decide (some j=some k)) (.returned (.string tx)) (w1.setCell ⟨wb,4,none⟩ (.bool false)) from⟨rfl,by rw[HF.out];simpa[hjk]using HU.out.1,HG.out.trans HU.out.2⟩);go_wp2_with fail;refine KX.out.mono ?_;rintro e2 w2 ⟨rfl,rfl⟩;go_wp2;go_ret;exact HR.out
    ·have e2:=eqL tx nm;have e3:(tx.toList == nm.toList)=false:=by rw[e2];simp[htx]
     clear e2;have HR:=iH (show NameW w B wb bs its rus fit nm (fitG nm && decide (some j=some k)) (.returned (.string nm)) (w1.setCell ⟨wb,4,none⟩ (.bool false)) from⟨rfl,by rw[HF.out];simpa[htx]using HU.out.1,HG.out.trans HU.out.2⟩);go_wp2;go_ret;exact HR.out
   ·have hk1:(kk == 0)=false:=by simpa using hk0
    go_wp2;go_ret;exact⟨rfl,by rw[HF.out];simpa[hk0]using HU.out.1,HG.out.trans HU.out.2⟩
  ·have hf:fitG nm=false:=by
    unfold fitG;split
    ·rename_i t e;rw[e]at hl;exact absurd rfl hl
    ·rfl
   have hl':¬ (((toks nm).length:Nat):Int)=1:=by omega
   have HF:=iH hf;clear hf hrw hl;generalize toks nm=ts at *;go_wp2;go_ret;exact⟨rfl,by rw[HF.out];simpa using HU.out.1,HG.out.trans HU.out.2⟩
 ·have HF:=iH (fitG_bad hpre hlt);obtain⟨x2,x3,x4,f4⟩:=(H.out.below hb).cells;have hl1:=(H.out.below hb).lt;have HU:=iH ((H.out.below hb).unfit (Nat.le_trans hBw hb.size));have HG:=iH (GrW.of_below (B:=B) hb hBw);have hlt':¬ last.err=0:=hlt;have hlt2:(last.err == 0)=false:=by simpa using hlt
  clear hpre hi hlt hb;go_wp2;go_ret;exact⟨rfl,by rw[HF.out];simpa using HU.out.1,HG.out.trans HU.out.2⟩
def nmAt (l:List ByteArray) (k:Int):ByteArray:=l[k.toNat]?.getD ⟨#[]⟩
def condT (rn it:List ByteArray) (op:ByteArray) (a b:Int):List UInt8 :=
 (op.data.toList ++ [32]) ++ (if op=sKind then(nmAt kindNs a).data.toList else if op=sRule then(nmAt rn a).data.toList else if op=sItem then(nmAt it a).data.toList else if op=sMore then(Lib.itoa a ++ [32]) ++ (nmAt it b).data.toList else if isTwo op then(Lib.itoa a ++ [46,46]) ++ Lib.itoa b else Lib.itoa a)
def parT (op k:ByteArray):Bool:=(decide (k=sAnd) || decide (k=sOr)) && (decide (op=sNot) || decide (op=k) || decide (op=sAnd))
def wrapT (p:Bool) (l:List UInt8):List UInt8:=if p then([40] ++ l) ++ [41] else l
def sepT (op:ByteArray) (first:Bool):List UInt8:=if first then[] else([32] ++ op.data.toList) ++ [32]
mutual
def Mk.text (rn it:List ByteArray):Mk->List UInt8
 | .node op a b ks=>if op=sAnd∨op=sOr then Mk.textL rn it op true ks else if op=sNot then[110,111,116,32] ++ Mk.textL rn it op true ks else condT rn it op a b
def Mk.textL (rn it:List ByteArray) (op:ByteArray):Bool->List Mk->List UInt8
 | _,[]=>[]
 | f,k :: ks=>(sepT op f ++ wrapT (parT op k.op) (Mk.text rn it k)) ++ Mk.textL rn it op false ks
end
def condF (rn it:List ByteArray) (op:ByteArray) (a b:Int):Bool:=if op=sRule then wordOk rn a.toNat else if op=sItem then wordOk it a.toNat else if op=sMore then wordOk it b.toNat else true
mutual
def Mk.named (rn it:List ByteArray):Mk->Bool
 | .node op a b ks=>condF rn it op a b && Mk.namedL rn it ks
def Mk.namedL (rn it:List ByteArray):List Mk->Bool
 | []=>true
 | k :: ks=>Mk.named rn it k && Mk.namedL rn it ks
end
theorem textL_snoc (rn it:List ByteArray) (op:ByteArray) (ks:List Mk) (k:Mk):∀f,Mk.textL rn it op f (ks ++ [k])=Mk.textL rn it op f ks ++ (sepT op (f && ks.isEmpty) ++ wrapT (parT op k.op) (Mk.text rn it k)):=by
 induction ks with
 | nil=>intro f;cases f <;> simp[Mk.textL]
 | cons x xs ih=>intro f;simp[Mk.textL,ih]
theorem namedL_snoc (rn it:List ByteArray) (ks:List Mk) (k:Mk):Mk.namedL rn it (ks ++ [k])=(Mk.namedL rn it ks && Mk.named rn it k):=by
 induction ks with
 | nil=>simp[Mk.namedL]
 | cons x xs ih=>simp[Mk.namedL,ih,Bool.and_assoc]
theorem checkL_mem {ni nr:Nat} {ks:List Mk} (h:Mk.checkL ni nr ks=0):∀k∈ks,k.check ni nr=0:=by
 induction ks with
 | nil=>intro k hk;cases hk
 | cons x xs ih =>
   simp only[Mk.checkL]at h;split at h
   ·rename_i hx;exact absurd h hx
   ·rename_i hx
    intro k hk;rcases List.mem_cons.1 hk with rfl|hk
    ·exact Classical.not_not.1 hx
    ·exact ih h k hk
theorem check_node {ni nr:Nat} {op:ByteArray} {a b:Int} {ks:List Mk} (h:(Mk.node op a b ks).check ni nr=0):aloneE ni nr op a b ks.length=0∧∀k∈ks,k.check ni nr=0:=by
 simp only[Mk.check]at h;split at h
 ·rename_i hx;exact absurd h hx
 ·rename_i hx
  exact⟨Classical.not_not.1 hx,checkL_mem h⟩
theorem alone_cond {ni nr:Nat} {op:ByteArray} {a b:Int} {n:Nat} (h:aloneE ni nr op a b n=0) (h1:op≠sAnd) (h2:op≠sOr) (h3:op≠sNot):isOp op=true∧n=0∧namesOk op ni nr a b=true∧rangeK op a b=true:=by
 unfold aloneE at h;rw[if_neg (by simp[h1,h2]),if_neg h3]at h;split at h
 ·cases h
 ·rename_i h4
  split at h
  ·cases h
  ·rename_i h5
   split at h
   ·cases h
   ·rename_i h6
    simp only[not_or]at h4;exact⟨by simpa using h4.1,by omega,by simpa using h5,by simpa using h6⟩
theorem alone_not {ni nr:Nat} {a b:Int} {n:Nat} (h:aloneE ni nr sNot a b n=0):n=1:=by
 unfold aloneE at h;rw[if_neg (by decide),if_pos rfl]at h;split at h
 ·cases h
 ·rename_i h4;simp only[not_or]at h4;exact Classical.not_not.1 h4.1
theorem isOp_size {op:ByteArray} (h:isOp op=true):op.data.toList.length<=7:=by
 unfold isOp at h;simp only[Bool.or_eq_true,decide_eq_true_eq]at h;rcases h with ((((((rfl|rfl)|rfl)|rfl)|rfl)|rfl)|rfl)|rfl <;> decide
theorem nmAt_len {l:List ByteArray} (h:∀s∈l,s.size<=8192) (k:Int):(nmAt l k).data.toList.length<=8192:=by
 unfold nmAt;cases hq:l[k.toNat]? with
 | none=>decide
 | some s=>exact h s (List.mem_of_getElem? hq)
theorem kind_len:∀s∈kindNs,s.size<=8192:=by decide
theorem condT_len {rn it:List ByteArray} (h1:∀s∈rn,s.size<=8192) (h2:∀s∈it,s.size<=8192) {op:ByteArray} (ho:isOp op=true) {a b:Int} (ha:In64 a) (hb:In64 b):(condT rn it op a b).length<=8230:=by
 have i1:=Lib.itoa_length_le a ha.1 ha.2;have i2:=Lib.itoa_length_le b hb.1 hb.2;have o:=isOp_size ho;have k0:=nmAt_len kind_len a;have k1:=nmAt_len h1 a;have k2:=nmAt_len h2 a;have k3:=nmAt_len h2 b;unfold condT;simp only[List.length_append,List.length_cons,List.length_nil];split
 ·omega
 split
 ·omega
 split
 ·omega
 split
 ·simp only[List.length_append,List.length_cons,List.length_nil];omega
 split
 ·simp only[List.length_append,List.length_cons,List.length_nil];omega
 ·omega
theorem wrapT_len (p:Bool) (l:List UInt8):(wrapT p l).length<=l.length+2:=by
 cases p <;> simp[wrapT]
theorem joinop_len {op:ByteArray} (h:op=sAnd∨op=sOr∨op=sNot):op.data.toList.length<=3:=by
 rcases h with rfl|rfl|rfl <;> decide
theorem sepT_len {op:ByteArray} (h:op=sAnd∨op=sOr∨op=sNot) (f:Bool):(sepT op f).length<=5:=by
 have:=joinop_len h;cases f <;> simp[sepT];simpa using this
inductive Mk.In : Mk -> Prop
 | mk (op:ByteArray) (a b:Int) (ks:List Mk) (ha:In64 a) (hb:In64 b) (each:∀k∈ks,Mk.In k):Mk.In (.node op a b ks)
theorem textL_len {rn it:List ByteArray} {op:ByteArray} (h:op=sAnd∨op=sOr∨op=sNot) {ks:List Mk} (hk:∀k∈ks,(Mk.text rn it k).length+7<=8250*k.size):∀f,(Mk.textL rn it op f ks).length<=8250*Mk.sizeL ks:=by
 induction ks with
 | nil=>intro f;simp[Mk.textL]
 | cons x xs ih =>
   intro f;have h1:=hk x (List.mem_cons_self ..);have h2:=ih (fun k hk'=>hk k (List.mem_cons_of_mem _ hk')) false;have h3:=wrapT_len (parT op x.op) (Mk.text rn it x);have h4:=sepT_len h f;simp only[Mk.textL,List.length_append,Mk.sizeL];omega
theorem text_len {rn it:List ByteArray} {ni nr:Nat} (h1:∀s∈rn,s.size<=8192) (h2:∀s∈it,s.size<=8192):∀m:Mk,m.In->m.check ni nr=0->(Mk.text rn it m).length+7<=8250*m.size:=by
 intro m
 induction m using Mk.ind with
 | h op a b ks ih =>
   intro hi hc;obtain⟨c1,c2⟩:=check_node hc;cases hi with
   | mk _ _ _ _ ha hb each =>
     have hks:=fun k hk=>ih k hk (each k hk) (c2 k hk)
     simp only[Mk.text,Mk.size];split
     ·rename_i hj
      have:=textL_len (op:=op) (by rcases hj with h | h <;> simp[h]) hks true;omega
     ·rename_i hj
      split
      ·rename_i hn
       have:=textL_len (op:=op) (by simp[hn]) hks true;simp only[List.length_append,List.length_cons,List.length_nil];omega
      ·rename_i hn
       simp only[not_or]at hj;obtain⟨ho,_,_,_⟩:=alone_cond c1 hj.1 hj.2 hn;have:=condT_len h1 h2 ho ha hb;omega
theorem MkM.Ok.in_ {w:World} {t:TypeId} {P:Nat->Prop} {m:MkM} (h:m.Ok w t P):m.core.In:=by
 induction h with
 | mk op a b ks s row len small hop ha hb _ ih =>
   refine .mk _ _ _ _ ha hb fun k hk=>?_
   rw[coreL_map]at hk;obtain⟨x,hx,rfl⟩:=List.mem_map.1 hk;exact ih x hx
end Go.Proofs.YtocodlpgaamblaaGreatDoor

/- The parser reads a condition. -/
import Derived.Test.YtocodlpgaamblaaGreatDoorO5
import Derived.Maps.RangeWalk
set_option linter.unusedVariables false
set_option linter.unusedSimpArgs false
set_option maxRecDepth 100000
set_option maxHeartbeats 4000000
open Go.RowKit
namespace Go.Proofs.YtocodlpgaamblaaGreatDoor
section
open Go.Maps
theorem keyS:Keyed Tryz.prog 9:=Maps.string_keyed Tryz.underlying9
theorem keyOf_str_inv {key:Value} {kl:Lit} (h:keyOf Tryz.prog 9 key=some kl):∃s:ByteArray,key=.string s∧kl=.string s.data.toList∧s.size<=maxLen:=by
 cases key <;> simp[keyOf,Tryz.underlying9,mapKey]at h;exact⟨_,rfl,h.2.symm,h.1⟩
theorem inv_keyS (key:Value) (kl:Lit) (h:keyOf Tryz.prog 9 key=some kl):∃s:ByteArray,key=Value.string s:=by
 obtain⟨s,e,_⟩:=keyOf_str_inv h;exact⟨s,e⟩
theorem inv_valC (v:Value) (y:DataW Unit×List MemPlace) (h:condElem v=some y):∃o,v=condVal o:=by
 unfold condElem at h;split at h
 ·assumption
 ·cases h
theorem updC_some (M:ByteArray->Option CondM) (x:ByteArray) (c:CondM) (s:ByteArray):(updC M x c s).isSome=(decide (s=x) || (M s).isSome):=by
 unfold updC;by_cases e:s=x <;> simp[e]
theorem condsM_is (b1 b2 b3:Nat) (s:ByteArray):(condsM b1 b2 b3 s).isSome=isOp s:=by
 unfold condsM isOp;simp only[updC_some,Option.isSome_none];generalize decide (s=sKind)=a1;generalize decide (s=sActor)=a2;generalize decide (s=sRule)=a3;generalize decide (s=sTick)=a4;generalize decide (s=sItem)=a5;generalize decide (s=sMore)=a6;generalize decide (s=sStep)=a7;generalize decide (s=sAccount)=a8;revert a1 a2 a3 a4 a5 a6 a7 a8;decide
structure Coming (left : Lit -> Bool) (s : ByteArray) : Prop where
 known:∀x:ByteArray,left (.string x.data.toList)=true->isOp x=true
 gone:∀x:ByteArray,isOp x=true->left (.string x.data.toList)=false->x≠s
theorem Coming.next {left:Lit->Bool} {s x:ByteArray} (h:Coming left s) (hx:x≠s):Coming (fun z=>left z && !z.sameKey (.string x.data.toList)) s where
 known:=fun y hy=>by
  simp only[Bool.and_eq_true]at hy;exact h.known y hy.1
 gone:=fun y ho hy=>by
  by_cases e:y=x
  ·subst e;exact hx
  ·refine h.gone y ho ?_;have hs:(Lit.string y.data.toList).sameKey (.string x.data.toList)=false:=Maps.sameKey_ne fun k=>e (bytes_inj (by simpa using k))
   simpa[hs]using hy
def PPost (W:World) (rb pb:Nat) (m:CatM) (len:Int) (p:PR Mk) (e:Ending) (w':World):Prop :=
 match p with
 | .bad x=>e=failV x len∧Gr2 rb pb W w'
 | .ok k r st=>∃M:MkM,e=.returned (.agg #[.string M.op,.int .i64 M.a,.int .i64 M.b,.slice M.s.A M.s.n M.s.c])∧M.core=k∧M.Ok w' 49 (fun b=>W.heap.size<=b)∧PAt w' rb pb m r len st∧Gr2 rb pb W w'
theorem nameP_ok {l:List ByteArray} (f:Int->Mk) {u:Tok} {r:List Tok} (st:PSt) (hu:u.kind=0):nameP l f (u :: r) st=.ok (f (nameV l u.text)) r (nameSt l u st):=by
 simp only[nameP,nameV,nameSt];rw[if_neg (by simpa using hu)];cases nameIx l u.text <;> rfl
theorem MapC.ne {W:World} {bm n g:Nat} {M:ByteArray->Option CondM} {ty:TypeId} {xs:List Value} (h:MapC W bm n M) (k:Bk W g ty xs):bm≠g:=by
 rintro rfl;obtain⟨D,⟨es,clock,hb,_⟩,_⟩:=h;unfold Bk at k;rw[hb]at k;cases k
theorem field186 (k n a:Int) (s:ByteArray) (w:World):(Instr.field 186 (.agg #[.int .i64 k,.string s,.int .i64 n,.int .i64 a]) 2).run Tryz.prog w=.ok (.int .i64 n) w:=by kernel_rfl
theorem field169c (a:Bool) (x y z:Value) (w:World):(Instr.field 169 (.agg #[.bool a,x,y,z]) 3).run Tryz.prog w=.ok z w:=by kernel_rfl
theorem conds_two (b1 b2 b3:Nat) {s:ByteArray} (h:isTwo s=true):∃f,condsM b1 b2 b3 s=some ⟨true,f,none,85,98⟩:=by
 unfold isTwo at h;simp only[Bool.or_eq_true,decide_eq_true_eq]at h;rcases h with rfl|rfl
 ·exact⟨97,by unfold condsM updC;rw[if_neg (by decide),if_neg (by decide),if_neg (by decide),if_neg (by decide),if_pos rfl]⟩
 ·exact⟨104,by unfold condsM updC;rw[if_neg (by decide),if_pos rfl]⟩
theorem conds_one (b1 b2 b3:Nat) {s:ByteArray} (h:isTwo s=false) (ho:isOp s=true) (h1:s≠sKind) (h2:s≠sRule) (h3:s≠sItem) (h4:s≠sMore):∃f cap,condsM b1 b2 b3 s=some ⟨false,f,cap,85,93⟩:=by
 unfold isTwo at h;unfold isOp at ho;simp only[Bool.or_eq_false_iff,decide_eq_false_iff_not]at h;simp only[Bool.or_eq_true,decide_eq_true_eq,h1,h2,h3,h4,h.1,h.2,false_or,or_false]at ho;rcases ho with rfl|rfl
 ·exact⟨92,none,by unfold condsM updC;rw[if_neg (by decide),if_neg (by decide),if_neg (by decide),if_neg (by decide),if_neg (by decide),if_neg (by decide),if_pos rfl]⟩
 ·exact⟨87,some b3,by unfold condsM updC;rw[if_pos rfl]⟩
theorem kindB_nil {ts:List Tok} {k:Int} (h:kindB ts k=true):∃u r,ts=u :: r∧u.kind=k:=by
 cases ts with
 | nil=>cases h
 | cons u r=>exact⟨u,r,rfl,by simpa[kindB]using h⟩
theorem headB_nil {ts:List Tok} {k:Int} {s:ByteArray} (h:headB ts k s=true):∃u r,ts=u :: r∧u.kind=k∧u.text=s:=by
 cases ts with
 | nil=>cases h
 | cons u r=>exact⟨u,r,rfl,by simpa[headB]using h⟩
def moreRest (nl:List ByteArray) (r:List Tok) (st:PSt):PR Mk:=match r with | []=>.bad [] | u :: r2=>if u.kind≠1 then .bad (u :: r2) else nameP nl (fun i=>.node sMore u.num i []) r2 st
def twoRest (op:ByteArray) (a:Int) (r:List Tok) (st:PSt):PR Mk :=
 if headB r 2 sDot=false then .bad r else
 if headB r.tail 2 sDot=false then .bad r.tail else
 match r.tail.tail with
 | []=>.bad []
 | u :: r2=>if u.kind≠1 then .bad (u :: r2) else .ok (.node op a u.num []) r2 (if rangeOk op a u.num then st else st.note 5 u.at_)
theorem two_bad1 {op:ByteArray} {a:Int} {r:List Tok} {st:PSt} (h:headB r 2 sDot=false):twoRest op a r st=.bad r:=by
 unfold twoRest;rw[if_pos h]
theorem two_bad2 {op:ByteArray} {a:Int} {d:Tok} {r:List Tok} {st:PSt} (h1:headB (d :: r) 2 sDot=true) (h:headB r 2 sDot=false):twoRest op a (d :: r) st=.bad r:=by
 unfold twoRest;rw[if_neg (by simp[h1]),List.tail_cons,if_pos h]
theorem two_bad3 {op:ByteArray} {a:Int} {d1 d2:Tok} {r:List Tok} {st:PSt} (h1:headB (d1 :: d2 :: r) 2 sDot=true) (h2:headB (d2 :: r) 2 sDot=true) (h:kindB r 1=false):twoRest op a (d1 :: d2 :: r) st=.bad r:=by
 unfold twoRest;rw[if_neg (by simp[h1]),List.tail_cons,if_neg (by simp[h2]),List.tail_cons];cases r with
 | nil=>rfl
 | cons u r2=>dsimp only;rw[if_pos (by simpa[kindB]using h)]
theorem two_ok {op:ByteArray} {a:Int} {d1 d2 v:Tok} {r:List Tok} {st:PSt} (h1:headB (d1 :: d2 :: v :: r) 2 sDot=true) (h2:headB (d2 :: v :: r) 2 sDot=true) (h:v.kind=1):twoRest op a (d1 :: d2 :: v :: r) st=.ok (.node op a v.num []) r (if rangeOk op a v.num then st else st.note 5 v.at_):=by
 unfold twoRest;rw[if_neg (by simp[h1]),List.tail_cons,if_neg (by simp[h2]),List.tail_cons];dsimp only;rw[if_neg (by simp[h])]
theorem lKind:sKind.toList=[107,105,110,100]:=by decide +kernel
theorem lRule:sRule.toList=[114,117,108,101]:=by decide +kernel
theorem lItem:sItem.toList=[105,116,101,109]:=by decide +kernel
theorem lMore:sMore.toList=[109,111,114,101]:=by decide +kernel
theorem mapC_ne {W:World} {bm n rb:Nat} {M:ByteArray->Option CondM} {ts:List Tok} {len:Int} (h:MapC W bm n M) (k:RdAt W rb ts len):bm≠rb:=by
 rintro rfl;obtain⟨D,⟨es,clock,hb,_⟩,_⟩:=h;obtain⟨A,c,h1,_⟩:=k;unfold Bk at h1;rw[hb]at h1;cases h1
section
variable {W W' : World} {rb pb g : Nat} {m : CatM} {ts : List Tok} {len : Int} {st : PSt}
theorem PAt.far (h:PAt W rb pb m ts len st) (hg:W.grownBy W' (some g)) (hp:pb<g) (h1:∀cur fl,W.heap[g]? ≠ some (.cells cur 76 fl)) (h2:∀cur fl,W.heap[g]? ≠ some (.cells cur 80 fl)) (h3:∀cur fl,W.heap[g]? ≠ some (.cells cur 132 fl)):PAt W' rb pb m ts len st :=
 have hlt:=h.lt
 ⟨h.rd.keep fun i hi=>hg.block i (Nat.lt_of_le_of_lt hi h.rlt) (by simp;omega),h.pk.grown hg (by simp;omega),h.its.keep (.grown hg h1),h.rus.keep (.grown hg h2) (.grown hg h3),h.lt,h.toks⟩
theorem Gr2.new {r p:Nat} {w w':World} (h:Gr2 r p w w') {q:Addr} (hq:w.heap.size<=q.block) (u:Value):Gr2 r p w (w'.setCell q u) :=
 ⟨h.os,h.tape,h.output,by simpa[World.setCell]using h.size,fun i hi h1 h2=>(Below.heap_setCell w' q u i (by omega)).trans (h.block i hi h1 h2)⟩
theorem Gr2.four {r p g:Nat} {w w':World} (h:Gr2 r p w w') (hq:w.heap.size<=g) (a b c d:Value):Gr2 r p w ((((w'.setCell ⟨g,0,none⟩ a).setCell ⟨g,1,none⟩ b).setCell ⟨g,2,none⟩ c).setCell ⟨g,3,none⟩ d) :=
 (((h.new (q:=⟨g,0,none⟩) hq a).new (q:=⟨g,1,none⟩) hq b).new (q:=⟨g,2,none⟩) hq c).new (q:=⟨g,3,none⟩) hq d
theorem four_self (w:World) (g:Nat) (a b c d:Value):w.grownBy ((((w.setCell ⟨g,0,none⟩ a).setCell ⟨g,1,none⟩ b).setCell ⟨g,2,none⟩ c).setCell ⟨g,3,none⟩ d) (some g) :=
 grown_trans2 (grown_trans2 (grown_trans2 (grown_setCell w g 0 a) (grown_setCell _ g 1 b)) (grown_setCell _ g 2 c)) (grown_setCell _ g 3 d)
theorem PAt.one (h:PAt W rb pb m ts len st) {xs:List Value} (hB:Bk W g 49 xs) (hp:pb<g) (k:Nat) (u:Value):PAt (W.setCell ⟨g,k,none⟩ u) rb pb m ts len st :=
 h.far (grown_setCell W g k u) hp (hB.not (by decide)) (hB.not (by decide)) (hB.not (by decide))
theorem PAt.four (h:PAt W rb pb m ts len st) {xs:List Value} (hB:Bk W g 49 xs) (hp:pb<g) (a b c d:Value):PAt ((((W.setCell ⟨g,0,none⟩ a).setCell ⟨g,1,none⟩ b).setCell ⟨g,2,none⟩ c).setCell ⟨g,3,none⟩ d) rb pb m ts len st :=
 (((h.one hB hp 0 a).one (hB.set 0 a) hp 1 b).one ((hB.set 0 a).set 1 b) hp 2 c).one (((hB.set 0 a).set 1 b).set 2 c) hp 3 d
theorem leaf_ok (w:World) (P:Nat->Prop) {op:ByteArray} {a b:Int} (ho:op.size<=8192) (ha:In64 a) (hb:In64 b):MkM.Ok w 49 P ⟨op,a,b,[],⟨none,0,0⟩⟩ :=
 .mk op a b [] ⟨none,0,0⟩ (.inl rfl) rfl (by decide) ho ha hb (fun _ h=>absurd h List.not_mem_nil)
theorem nameV_in (l:List ByteArray) (s:ByteArray) (h:l.length<=100000):In64 (nameV l s):=by
 unfold nameV In64;cases q:nameIx l s with
 | none=>exact⟨by decide,by decide⟩
 | some k=>have:=nameIx_lt q;dsimp only;omega
theorem FnAt.far {b f:Nat} (h:FnAt W b f) (hg:W.grownBy W' (some g)) (hn:∀cur t fl,W.heap[g]? ≠ some (.cells cur t fl)):FnAt W' b f:=by
 have hne:b≠g:=by
  rintro rfl;have:=h.2;cases hh:W.heap[b]? with
  | none=>simp[World.cell?,hh]at this
  | some o =>
    cases o with
    | cells cur t fl=>exact hn _ _ _ hh
    | _=>simp[World.cell?,hh]at this
 exact⟨Nat.lt_of_lt_of_le h.1 hg.size,(World.cell?_of_block (w:=W) (hg.block b h.1 (fun e=>hne (Option.some.inj e)))).trans h.2⟩
theorem CondsAt.far {bm n b1 b2 b3:Nat} (h:CondsAt W bm n b1 b2 b3) (hg:W.grownBy W' (some g)) (hb:bm≠g) (hn:∀cur t fl,W.heap[g]? ≠ some (.cells cur t fl)):CondsAt W' bm n b1 b2 b3 :=
 ⟨h.map.kept hg (by simpa using hb),h.f1.far hg hn,h.f2.far hg hn,h.f3.far hg hn⟩
theorem ranges_iter {bm ib n k:Nat} {D:DataW Unit} {left:Lit->Bool} (h:W.ranges Tryz.prog 9 condElem bm ib n D left k):∀cur t fl,W.heap[ib]? ≠ some (.cells cur t fl):=by
 obtain⟨es,clock,since,seen,c0,_,_,_,_,hr,_⟩:=h;intro cur t fl e;rw[hr]at e;cases e
end
theorem field169 (a:Bool) (x y z:Value) (w:World):(Instr.field 169 (.agg #[.bool a,x,y,z]) 0).run Tryz.prog w=.ok (.bool a) w:=by kernel_rfl
theorem isOp_ne {s:ByteArray} (h:isOp s=true):s≠⟨#[]⟩:=by
 rintro rfl;revert h;decide
theorem cond_any {W : World} {rb pb : Nat} {m : CatM} {t : Tok} {r : List Tok} {len : Int} {st : PSt} (h : PAt W rb pb m (t :: r) len st) (hk : t.kind = 0) :
 Calls Tryz.prog 134 #[.pointer (some ⟨pb,0,none⟩)] W (PPost W rb pb m len (condP kindNs (m.rules.map RuM.name) (m.items.map It.name) (t :: r) st)):=by
 have y:Below W.heap.size W (W.alloc (.cells #[.string ⟨#[]⟩,.int .i64 0,.int .i64 0,.slice none 0 0] 49)):=(Below.refl _ _).alloc (Nat.le_refl _) _;have B0:=Bk.new W 49 [.string ⟨#[]⟩,.int .i64 0,.int .i64 0,.slice none 0 0];have KC:=iH (conds_any (W.alloc (.cells #[.string ⟨#[]⟩,.int .i64 0,.int .i64 0,.slice none 0 0] 49)));have hl:=h.plt;have H:=iH (h.below y);have HK:=iH hk;clear h hk;go_enter Tryz.func134,Tryz.ntmps134;go_wp2_with fail;refine KC.out.mono ?_;rintro e w1 ⟨bm,n,b1,b2,b3,rfl,hC,hb1⟩;have HP1:=H.out.below hb1;have B1:=B0.below hb1 B0.lt;have y1:=y.trans (hb1.mono (by simp));obtain⟨D,hown,hD⟩:=hC.map;have hlt1:W.heap.size<w1.heap.size:=B1.lt;have hbm:bm<w1.heap.size:=hC.map.lt;clear KC H y B0 hb1;go_wp2_with(first
  | (at_range;refine wpList_range_own _ rfl _ 121 rfl 9 169 keyS Tryz.underlying121 _ bm n _ rfl hown ?_;intro w0 hrg0 hg0 hs0)
  | go_in)
 go_frame
 have hb0:Below w1.heap.size w1 w0:=⟨hg0.os,hg0.tape,hg0.output,hg0.size,fun i hi=>hg0.block i hi (by simp)⟩;have HP0:=iH (HP1.below hb0);have B00:=B1.below hb0 B1.lt;have hC0:=iH (hC.below hb0);have y0:=iH (y1.trans (hb0.mono (by omega)));have hit:w1.heap.size<w0.heap.size:=by omega
 generalize hgi:w1.heap.size=ib at *;clear HP1 B1 hC hown hb0 hg0;go_loopw [4] (fun _ wr=>∃(left:Lit->Bool) (k:Nat),wr.ranges Tryz.prog 9 condElem bm ib n D left k∧Coming left t.text∧PAt wr rb pb m (t :: r) len st∧CondsAt wr bm n b1 b2 b3∧Bk wr W.heap.size 49 [.string ⟨#[]⟩,.int .i64 0,.int .i64 0,.slice none 0 0]∧Below W.heap.size W wr) (fun _ wr=>wr.rangeLeft bm ib)
 case atStart =>
  refine⟨_,_,hrg0,⟨fun x hx=>?_,fun x hx hy=>?_⟩,HP0.out,hC0.out,B00,y0.out⟩
  ·rw[(hD x).1,condsM_is]at hx;exact hx
  ·rw[(hD x).1,condsM_is,hx]at hy;cases hy
 case round =>
  obtain⟨left,k,hrg,hcom,hp,hC,hB,hbw⟩:=hrel;have HC:=iH hC;have HP:=iH hp;have HB:=iH hB;have HW:=iH hbw;have HM:=iH hcom;have hne:=hrg.ne;have hnc:=ranges_iter hrg;have hpl:=hp.plt;have r0:=hp.r0;clear hC hp hB hbw hcom hrg0 hC0 HP0 B00 y0;go_wp2_with(first
   | (at_next;refine wpList_next_ranges _ rfl _ rfl 9 keyS condElem Value.string condVal inv_keyS inv_valC bm ib n _ _ _ rfl hrg ?_ ?_)
   | go_in)
  ·intro hk hleft;have HQ:Hid (condP kindNs (m.rules.map RuM.name) (m.items.map It.name) (t :: r) st=.bad (t :: r)):=by
    have ho:isOp t.text=false:=by
     cases q:isOp t.text
     ·rfl
     ·exact absurd rfl (HM.out.gone t.text q (hleft _))
    show _=_;simp[condP,ho]
   have KF:=iH (fail_any HP.out.rd);clear HM HC hleft hrg hnc hD;go_wp2_with fail;refine KF.out.mono ?_;rintro e w5 ⟨rfl,rfl⟩;refine⟨rfl,?_⟩;rw[HQ.out];exact⟨rfl,.of_below HW.out⟩
  ·intro x o kl yd yp w2 k2 hkey hlk hv hat hrg1 hlt2 hg1 hs1 hen;obtain⟨x',hx',rfl,hxs⟩:=keyOf_str_inv hkey;obtain rfl:x=x':=by simpa using hx'
   have hop:=HM.out.known x hlk;have Hen:=hen;change(Instr.entry (.pointer (some ⟨ib,0,none⟩))).run Tryz.prog w2=.ok (.tuple #[.string x,condVal o]) w2 at hen;have HP2:=iH (HP.out.far hg1 (by omega) (fun cur fl=>hnc cur _ fl) (fun cur fl=>hnc cur _ fl) (fun cur fl=>hnc cur _ fl));have HC2:=iH (HC.out.far hg1 (Ne.symm hne) hnc);have HB2:=iH (HB.out.grown hg1 (by simp;omega));have HW2:=iH (HW.out.grown hg1 HW.out.size (fun j hj=>by cases hj;omega));have hpl2:=HP2.out.plt;have r02:=HP2.out.r0;have KI:=iH (is_any 0 x HP2.out.rd);have hib:isB (t :: r) 0 x=decide (t.text=x):=by
    rw[isB_word _ _ (isOp_ne hop)];simp[headB,HK.out]
   rw[hib]at KI;have HL:=iH (show wr.rangeLeft bm ib=k∧w2.rangeLeft bm ib=k2 from⟨hrg.left_eq,hrg1.left_eq⟩);have HR:=iH hrg1;have Hat:=iH hat;clear hx' hkey hlk Hen HP HC HB HW hrg hrg1 hg1 hnc hat r0 hpl hib hv hxs;by_cases hq:t.text=x
   ·subst hq;rw[decide_eq_true rfl]at KI;have KW:=iH (word_yes t.text HP2.out.rd (by rw[isB_word _ _ (isOp_ne hop)];simp[headB,HK.out]));have hsz2:=HW2.out.size;generalize condVal o=ov at *;have q1:(t.text.toList == [107,105,110,100])=decide (t.text=sKind):=by rw[<- lKind];exact eqL _ _
    have q2:(t.text.toList == [114,117,108,101])=decide (t.text=sRule):=by rw[<- lRule];exact eqL _ _
    have q3:(t.text.toList == [105,116,101,109])=decide (t.text=sItem):=by rw[<- lItem];exact eqL _ _
    have q4:(t.text.toList == [109,111,114,101])=decide (t.text=sMore):=by rw[<- lMore];exact eqL _ _
    have hts:t.text.size<=8192:=(HP2.out.toks t (List.mem_cons_self ..)).1;have hne2:=hne;clear HM HL HR Hat hlt2 hD;go_wp2_with fail;refine KI.out.mono ?_;rintro e w5 ⟨rfl,rfl⟩;clear KI;go_wp2_with fail;refine KW.out.mono ?_;rintro e w6 ⟨rfl,hr6,hg6⟩;have HP6:=HP2.out.read hg6 hr6 (fun _ ht=>List.mem_cons_of_mem _ ht);have hrp:=HP6.lt;have hpl6:=HP6.plt;have y6:Below w6.heap.size w6 (w6.alloc (.cells #[.string t.text,.int .i64 0,.int .i64 0,.slice none 0 0] 49)):=(Below.refl _ _).alloc (Nat.le_refl _) _;have p1:=HP6.pk.k1;have p2:=HP6.pk.k2;have p3:=HP6.pk.k3;have p4:=HP6.pk.k4;have p0:w6.cell? ⟨pb,0,none⟩=some (.pointer (some ⟨rb,0,none⟩)):=HP6.r0;have hrs:W.heap.size<w6.heap.size:=Nat.lt_of_lt_of_le HB2.out.lt hg6.size;have HBr:=iH ((HB2.out.grown hg6 (by simp;omega)).below y6 hrs);have HBm:=iH (Bk.new w6 49 [.string t.text,.int .i64 0,.int .i64 0,.slice none 0 0]);have HG6:=iH (((Gr2.of_below (r:=rb) (p:=pb) HW2.out).trans (.of_r hg6)).trans (.of_below y6));have HP7:=iH (HP6.below y6);have HMp:=iH ((HC2.out.map.kept hg6 (by simpa using mapC_ne HC2.out.map HP2.out.rd)).below y6);have Hs7:Hid ((w6.alloc (.cells #[.string t.text,.int .i64 0,.int .i64 0,.slice none 0 0] 49)).heap.size=w6.heap.size+1):=by show _=_;simp
    clear KW HP6 hr6 HP2 HC2 HB2 HW2 hsz2 r02 hpl2 hg6 y6 hs1 hen hlt1 hbm hit hs0;by_cases e1:t.text=sKind
    ·rw[decide_eq_true e1]at q1;obtain⟨nl,hnl⟩:∃nl,nl=kindNs:=⟨_,rfl⟩;have HQ:Hid (condP kindNs (m.rules.map RuM.name) (m.items.map It.name) (t :: r) st=nameP nl (fun i=>.node sKind i 0 []) r st):=by
      show _=_;simp only[condP];rw[if_neg (by simp[HK.out,hop]),if_pos e1,hnl]
     have E0:=iH e1;clear q2 q3 q4 e1;have Hnl:=iH hnl;clear hnl;go_wp2_with fail;generalize hmb:w6.heap.size=mb at *;generalize w6.alloc (.cells #[.string t.text,.int .i64 0,.int .i64 0,.slice none 0 0] 49)=w7 at *;have hs7:=Hs7.out;have hpm:pb<mb:=by omega
     have hrm:rb<mb:=by omega
     clear Hs7 hmb;have KK:=iH (kinds_any w7);refine KK.out.mono ?_;rintro e w8 ⟨A,n8,c8,rfl,hN,hb8⟩;rw[<- Hnl.out]at hN;have hP8:=HP7.out.below hb8;have HBm8:=iH (HBm.out.below hb8 HBm.out.lt);have HBr8:=iH (HBr.out.below hb8 HBr.out.lt);have HG8:=iH (HG6.out.trans (.of_below hb8));have HL8:Hid (nl.length<=100000):=by have:=hN.len;have:=hN.small;show _<=_;omega
     clear KK p0 p1 p2 p3 p4;cases hkb:kindB r 0
     ·have HQ2:Hid (nameP nl (fun i=>Mk.node sKind i 0 []) r st=.bad r):=by
       show _=_;cases r with
       | nil=>rfl
       | cons u r2=>simp only[nameP];rw[if_pos (by simpa[kindB]using hkb)]
      rw[HQ2.out]at HQ;have KN:=iH (name_no (A:=A) (n:=n8) (c:=c8) hP8 hkb);clear hP8 hN hb8 HQ2;go_wp2_with fail;refine KN.out.mono ?_;rintro e wz ⟨rfl,hgz⟩;refine⟨rfl,?_⟩;rw[HQ.out];exact⟨rfl,HG8.out.trans hgz⟩
     ·obtain⟨u,r2,rfl,hu⟩:=kindB_nil hkb;have KN:=iH (name_ok (c:=c8) hP8 hN hu);clear hP8 hN hb8 hkb;go_wp2_with fail;refine KN.out.mono ?_;rintro e w9 ⟨rfl,hP9,hG9⟩;have HQ2:Hid (nameP nl (fun i=>Mk.node sKind i 0 []) (u :: r2) st=.ok (.node sKind (nameV nl u.text) 0 []) r2 (nameSt nl u st)):=nameP_ok _ _ hu;rw[HQ2.out]at HQ;have HV:=iH (nameV_in nl u.text HL8.out);clear HQ2;have Bm_:=HBm8.out.gr2 hG9 (by omega) (by omega);have Br_:=HBr8.out.gr2 hG9 (by omega) (by omega);have hrl:=Br_.lt;have hml:=Bm_.lt;have hne5:W.heap.size≠mb:=by omega
      have⟨m0,m1,m2,m3,_⟩:=Bm_.p4;have fm1:=Bm_.frozen 1;have fm2:=Bm_.frozen 2;have⟨z0,z1,z2,z3,_⟩:=Br_.p4;have fz0:=Br_.frozen 0;have fz1:=Br_.frozen 1;have fz2:=Br_.frozen 2;have fz3:=Br_.frozen 3;have HBm_:=iH Bm_;have HBr_:=iH Br_;have HP_:=iH (hP9);have HG_:=iH (HG8.out.trans hG9);clear Bm_ Br_ hP9 hG9 KN;go_wp2;have HX:=four_laid (HBr_.out.far (p:=⟨mb,1,none⟩) hne5 (.int .i64 (nameV nl u.text))) (.string t.text) (.int .i64 (nameV nl u.text)) (.int .i64 0) (.slice none 0 0);have PX:=(HP_.out.one HBm_.out hpm 1 (.int .i64 (nameV nl u.text))).four (HBr_.out.far (p:=⟨mb,1,none⟩) hne5 (.int .i64 (nameV nl u.text))) hl (.string t.text) (.int .i64 (nameV nl u.text)) (.int .i64 0) (.slice none 0 0);have GX:=(HG_.out.new (q:=⟨mb,1,none⟩) (by simp;omega) (.int .i64 (nameV nl u.text))).four (Nat.le_refl _) (.string t.text) (.int .i64 (nameV nl u.text)) (.int .i64 0) (.slice none 0 0);generalize((((w9.setCell ⟨mb,1,none⟩ (.int .i64 (nameV nl u.text))).setCell ⟨W.heap.size,0,none⟩ (.string t.text)).setCell ⟨W.heap.size,1,none⟩ (.int .i64 (nameV nl u.text))).setCell ⟨W.heap.size,2,none⟩ (.int .i64 0)).setCell ⟨W.heap.size,3,none⟩ (.slice none 0 0)=X at *;have⟨x0,x1,x2,x3,_⟩:=HX.p4;refine bodyPost_ret (v:=.agg #[.string t.text,.int .i64 (nameV nl u.text),.int .i64 0,.slice none 0 0]) (by simp[results,Tryz.results134,go_sem,x0,x1,x2,x3]) rfl ?_;rw[HQ.out];exact⟨⟨t.text,nameV nl u.text,0,[],⟨none,0,0⟩⟩,rfl,by simp[MkM.core,MkM.coreL,E0.out],leaf_ok _ _ hts HV.out ⟨by decide,by decide⟩,PX,GX⟩
    rw[decide_eq_false e1]at q1;by_cases e2:t.text=sRule
    ·rw[decide_eq_true e2]at q2;obtain⟨nl,hnl⟩:∃nl,nl=m.rules.map RuM.name:=⟨_,rfl⟩;have HQ:Hid (condP kindNs (m.rules.map RuM.name) (m.items.map It.name) (t :: r) st=nameP nl (fun i=>.node sRule i 0 []) r st):=by
      show _=_;simp only[condP];rw[if_neg (by simp[HK.out,hop]),if_neg e1,if_pos e2,hnl]
     have E0:=iH e2;clear q3 q4 e1 e2;have Hnl:=iH hnl;clear hnl;go_wp2_with fail;generalize hmb:w6.heap.size=mb at *;generalize w6.alloc (.cells #[.string t.text,.int .i64 0,.int .i64 0,.slice none 0 0] 49)=w7 at *;have hs7:=Hs7.out;have hpm:pb<mb:=by omega
     have hrm:rb<mb:=by omega
     clear Hs7 hmb;have KK:=iH (ruleNames_any (m:=m) HP7.out.rus);refine KK.out.mono ?_;rintro e w8 ⟨A,n8,c8,rfl,hN,hb8⟩;rw[<- Hnl.out]at hN;have hP8:=HP7.out.below hb8;have HBm8:=iH (HBm.out.below hb8 HBm.out.lt);have HBr8:=iH (HBr.out.below hb8 HBr.out.lt);have HG8:=iH (HG6.out.trans (.of_below hb8));have HL8:Hid (nl.length<=100000):=by have:=hN.len;have:=hN.small;show _<=_;omega
     clear KK p0 p1 p2 p3 p4;cases hkb:kindB r 0
     ·have HQ2:Hid (nameP nl (fun i=>Mk.node sRule i 0 []) r st=.bad r):=by
       show _=_;cases r with
       | nil=>rfl
       | cons u r2=>simp only[nameP];rw[if_pos (by simpa[kindB]using hkb)]
      rw[HQ2.out]at HQ;have KN:=iH (name_no (A:=A) (n:=n8) (c:=c8) hP8 hkb);clear hP8 hN hb8 HQ2;go_wp2_with fail;refine KN.out.mono ?_;rintro e wz ⟨rfl,hgz⟩;refine⟨rfl,?_⟩;rw[HQ.out];exact⟨rfl,HG8.out.trans hgz⟩
     ·obtain⟨u,r2,rfl,hu⟩:=kindB_nil hkb;have KN:=iH (name_ok (c:=c8) hP8 hN hu);clear hP8 hN hb8 hkb;go_wp2_with fail;refine KN.out.mono ?_;rintro e w9 ⟨rfl,hP9,hG9⟩;have HQ2:Hid (nameP nl (fun i=>Mk.node sRule i 0 []) (u :: r2) st=.ok (.node sRule (nameV nl u.text) 0 []) r2 (nameSt nl u st)):=nameP_ok _ _ hu;rw[HQ2.out]at HQ;have HV:=iH (nameV_in nl u.text HL8.out);clear HQ2;have Bm_:=HBm8.out.gr2 hG9 (by omega) (by omega);have Br_:=HBr8.out.gr2 hG9 (by omega) (by omega);have hrl:=Br_.lt;have hml:=Bm_.lt;have hne5:W.heap.size≠mb:=by omega
      have⟨m0,m1,m2,m3,_⟩:=Bm_.p4;have fm1:=Bm_.frozen 1;have fm2:=Bm_.frozen 2;have⟨z0,z1,z2,z3,_⟩:=Br_.p4;have fz0:=Br_.frozen 0;have fz1:=Br_.frozen 1;have fz2:=Br_.frozen 2;have fz3:=Br_.frozen 3;have HBm_:=iH Bm_;have HBr_:=iH Br_;have HP_:=iH (hP9);have HG_:=iH (HG8.out.trans hG9);clear Bm_ Br_ hP9 hG9 KN;go_wp2;have HX:=four_laid (HBr_.out.far (p:=⟨mb,1,none⟩) hne5 (.int .i64 (nameV nl u.text))) (.string t.text) (.int .i64 (nameV nl u.text)) (.int .i64 0) (.slice none 0 0);have PX:=(HP_.out.one HBm_.out hpm 1 (.int .i64 (nameV nl u.text))).four (HBr_.out.far (p:=⟨mb,1,none⟩) hne5 (.int .i64 (nameV nl u.text))) hl (.string t.text) (.int .i64 (nameV nl u.text)) (.int .i64 0) (.slice none 0 0);have GX:=(HG_.out.new (q:=⟨mb,1,none⟩) (by simp;omega) (.int .i64 (nameV nl u.text))).four (Nat.le_refl _) (.string t.text) (.int .i64 (nameV nl u.text)) (.int .i64 0) (.slice none 0 0);generalize((((w9.setCell ⟨mb,1,none⟩ (.int .i64 (nameV nl u.text))).setCell ⟨W.heap.size,0,none⟩ (.string t.text)).setCell ⟨W.heap.size,1,none⟩ (.int .i64 (nameV nl u.text))).setCell ⟨W.heap.size,2,none⟩ (.int .i64 0)).setCell ⟨W.heap.size,3,none⟩ (.slice none 0 0)=X at *;have⟨x0,x1,x2,x3,_⟩:=HX.p4;refine bodyPost_ret (v:=.agg #[.string t.text,.int .i64 (nameV nl u.text),.int .i64 0,.slice none 0 0]) (by simp[results,Tryz.results134,go_sem,x0,x1,x2,x3]) rfl ?_;rw[HQ.out];exact⟨⟨t.text,nameV nl u.text,0,[],⟨none,0,0⟩⟩,rfl,by simp[MkM.core,MkM.coreL,E0.out],leaf_ok _ _ hts HV.out ⟨by decide,by decide⟩,PX,GX⟩
    rw[decide_eq_false e2]at q2;by_cases e3:t.text=sItem
    ·rw[decide_eq_true e3]at q3;obtain⟨nl,hnl⟩:∃nl,nl=m.items.map It.name:=⟨_,rfl⟩;have HQ:Hid (condP kindNs (m.rules.map RuM.name) (m.items.map It.name) (t :: r) st=nameP nl (fun i=>.node sItem i 0 []) r st):=by
      show _=_;simp only[condP];rw[if_neg (by simp[HK.out,hop]),if_neg e1,if_neg e2,if_pos e3,hnl]
     have E0:=iH e3;clear q4 e1 e2 e3;have Hnl:=iH hnl;clear hnl;go_wp2_with fail;generalize hmb:w6.heap.size=mb at *;generalize w6.alloc (.cells #[.string t.text,.int .i64 0,.int .i64 0,.slice none 0 0] 49)=w7 at *;have hs7:=Hs7.out;have hpm:pb<mb:=by omega
     have hrm:rb<mb:=by omega
     clear Hs7 hmb;have KK:=iH (itemNames_any (m:=m) HP7.out.its);refine KK.out.mono ?_;rintro e w8 ⟨A,n8,c8,rfl,hN,hb8⟩;rw[<- Hnl.out]at hN;have hP8:=HP7.out.below hb8;have HBm8:=iH (HBm.out.below hb8 HBm.out.lt);have HBr8:=iH (HBr.out.below hb8 HBr.out.lt);have HG8:=iH (HG6.out.trans (.of_below hb8));have HL8:Hid (nl.length<=100000):=by have:=hN.len;have:=hN.small;show _<=_;omega
     clear KK p0 p1 p2 p3 p4;cases hkb:kindB r 0
     ·have HQ2:Hid (nameP nl (fun i=>Mk.node sItem i 0 []) r st=.bad r):=by
       show _=_;cases r with
       | nil=>rfl
       | cons u r2=>simp only[nameP];rw[if_pos (by simpa[kindB]using hkb)]
      rw[HQ2.out]at HQ;have KN:=iH (name_no (A:=A) (n:=n8) (c:=c8) hP8 hkb);clear hP8 hN hb8 HQ2;go_wp2_with fail;refine KN.out.mono ?_;rintro e wz ⟨rfl,hgz⟩;refine⟨rfl,?_⟩;rw[HQ.out];exact⟨rfl,HG8.out.trans hgz⟩
     ·obtain⟨u,r2,rfl,hu⟩:=kindB_nil hkb;have KN:=iH (name_ok (c:=c8) hP8 hN hu);clear hP8 hN hb8 hkb;go_wp2_with fail;refine KN.out.mono ?_;rintro e w9 ⟨rfl,hP9,hG9⟩;have HQ2:Hid (nameP nl (fun i=>Mk.node sItem i 0 []) (u :: r2) st=.ok (.node sItem (nameV nl u.text) 0 []) r2 (nameSt nl u st)):=nameP_ok _ _ hu;rw[HQ2.out]at HQ;have HV:=iH (nameV_in nl u.text HL8.out);clear HQ2;have Bm_:=HBm8.out.gr2 hG9 (by omega) (by omega);have Br_:=HBr8.out.gr2 hG9 (by omega) (by omega);have hrl:=Br_.lt;have hml:=Bm_.lt;have hne5:W.heap.size≠mb:=by omega
      have⟨m0,m1,m2,m3,_⟩:=Bm_.p4;have fm1:=Bm_.frozen 1;have fm2:=Bm_.frozen 2;have⟨z0,z1,z2,z3,_⟩:=Br_.p4;have fz0:=Br_.frozen 0;have fz1:=Br_.frozen 1;have fz2:=Br_.frozen 2;have fz3:=Br_.frozen 3;have HBm_:=iH Bm_;have HBr_:=iH Br_;have HP_:=iH (hP9);have HG_:=iH (HG8.out.trans hG9);clear Bm_ Br_ hP9 hG9 KN;go_wp2;have HX:=four_laid (HBr_.out.far (p:=⟨mb,1,none⟩) hne5 (.int .i64 (nameV nl u.text))) (.string t.text) (.int .i64 (nameV nl u.text)) (.int .i64 0) (.slice none 0 0);have PX:=(HP_.out.one HBm_.out hpm 1 (.int .i64 (nameV nl u.text))).four (HBr_.out.far (p:=⟨mb,1,none⟩) hne5 (.int .i64 (nameV nl u.text))) hl (.string t.text) (.int .i64 (nameV nl u.text)) (.int .i64 0) (.slice none 0 0);have GX:=(HG_.out.new (q:=⟨mb,1,none⟩) (by simp;omega) (.int .i64 (nameV nl u.text))).four (Nat.le_refl _) (.string t.text) (.int .i64 (nameV nl u.text)) (.int .i64 0) (.slice none 0 0);generalize((((w9.setCell ⟨mb,1,none⟩ (.int .i64 (nameV nl u.text))).setCell ⟨W.heap.size,0,none⟩ (.string t.text)).setCell ⟨W.heap.size,1,none⟩ (.int .i64 (nameV nl u.text))).setCell ⟨W.heap.size,2,none⟩ (.int .i64 0)).setCell ⟨W.heap.size,3,none⟩ (.slice none 0 0)=X at *;have⟨x0,x1,x2,x3,_⟩:=HX.p4;refine bodyPost_ret (v:=.agg #[.string t.text,.int .i64 (nameV nl u.text),.int .i64 0,.slice none 0 0]) (by simp[results,Tryz.results134,go_sem,x0,x1,x2,x3]) rfl ?_;rw[HQ.out];exact⟨⟨t.text,nameV nl u.text,0,[],⟨none,0,0⟩⟩,rfl,by simp[MkM.core,MkM.coreL,E0.out],leaf_ok _ _ hts HV.out ⟨by decide,by decide⟩,PX,GX⟩
    rw[decide_eq_false e3]at q3;by_cases e4:t.text=sMore
    ·rw [decide_eq_true e4] at q4;obtain⟨nl,hnl⟩:∃nl,nl=m.items.map It.name:=⟨_,rfl⟩;have HQ:Hid (condP kindNs (m.rules.map RuM.name) (m.items.map It.name) (t :: r) st=moreRest nl r st):=by
      show _=_;simp only[condP];rw[if_neg (by simp[HK.out,hop]),if_neg e1,if_neg e2,if_neg e3,if_pos e4];subst hnl;cases r <;> rfl
     have E0:=iH e4;clear e1 e2 e3 e4;have Hnl:=iH hnl;clear hnl;go_wp2_with fail;generalize hmb:w6.heap.size=mb at *;generalize w6.alloc (.cells #[.string t.text,.int .i64 0,.int .i64 0,.slice none 0 0] 49)=w7 at *;have hs7:=Hs7.out;have hpm:pb<mb:=by omega
     have hrm:rb<mb:=by omega
     clear Hs7 hmb;clear p1 p2 p3 p4;cases hkb:kindB r 1
     ·have HQ2:Hid (condP kindNs (m.rules.map RuM.name) (m.items.map It.name) (t :: r) st=.bad r):=by
       show _=_;rw[HQ.out];cases r with
       | nil=>rfl
       | cons u r2=>simp only[moreRest];rw[if_pos (by simpa[kindB]using hkb)]
      have KN:=iH (number_no HP7.out.rd (by rw[isB_any];exact hkb));clear HQ;go_wp2_with fail;refine KN.out.mono ?_;rintro e wz ⟨rfl,hgz⟩;refine⟨rfl,?_⟩;rw[HQ2.out];exact⟨rfl,HG6.out.trans (.of_r hgz)⟩
     ·obtain⟨u,r1,rfl,hu⟩:=kindB_nil hkb;have HQ1:Hid (condP kindNs (m.rules.map RuM.name) (m.items.map It.name) (t :: u :: r1) st=nameP nl (fun i=>.node sMore u.num i []) r1 st):=by
       show _=_;rw[HQ.out];simp only[moreRest];rw[if_neg (by simpa using hu)]
      have KN:=iH (number_yes HP7.out.rd (by rw[isB_any];simp[kindB,hu]));have HU:=iH (HP7.out.toks u (List.mem_cons_self ..)).2;clear HQ hkb hu;refine KN.out.mono ?_;rintro e w8 ⟨rfl,hr8,hg8⟩;have hP8:=HP7.out.read hg8 hr8 (fun _ ht=>List.mem_cons_of_mem _ ht);have hBm8:=HBm.out.grown hg8 (by simp;omega);have hBr8:=HBr.out.grown hg8 (by simp;omega);have hfld:=field186 u.kind u.num u.at_ u.text w8;have p0:w8.cell? ⟨pb,0,none⟩=some (.pointer (some ⟨rb,0,none⟩)):=hP8.r0;have p1:=hP8.pk.k1;have p2:=hP8.pk.k2;have p3:=hP8.pk.k3;have p4:=hP8.pk.k4;have m1:=hBm8.k1;have fm1:=hBm8.frozen 1;have hl8:=hP8.plt;have hm8:=hBm8.lt;have hnpm:pb≠mb:=by omega
      have hne5:W.heap.size≠mb:=by omega
      have HP9:=iH (hP8.one hBm8 hpm 1 (.int .i64 u.num));have HBm9:=iH (hBm8.set 1 (.int .i64 u.num));have HBr9:=iH (hBr8.far (p:=⟨mb,1,none⟩) hne5 (.int .i64 u.num));have HG9:=iH ((HG6.out.trans (.of_r hg8)).new (q:=⟨mb,1,none⟩) (by simp;omega) (.int .i64 u.num));clear KN hr8 hP8 hBm8 hBr8 hg8 HP7 HBm HBr HG6;go_wp2_with fail;generalize w8.setCell ⟨mb,1,none⟩ (.int .i64 u.num)=w9 at *;clear p0 p1 p2 p3 p4 m1 fm1 hfld hl8 hm8;have KK:=iH (itemNames_any (m:=m) HP9.out.its);refine KK.out.mono ?_;rintro e w10 ⟨A,n8,c8,rfl,hN,hb10⟩;rw[<- Hnl.out]at hN;have hP10:=HP9.out.below hb10;have HBm10:=iH (HBm9.out.below hb10 HBm9.out.lt);have HBr10:=iH (HBr9.out.below hb10 HBr9.out.lt);have HG10:=iH (HG9.out.trans (.of_below hb10));have HL8:Hid (nl.length<=100000):=by have:=hN.len;have:=hN.small;show _<=_;omega
      clear KK;cases hkb:kindB r1 0
      ·have HQ2:Hid (nameP nl (fun i=>Mk.node sMore u.num i []) r1 st=.bad r1):=by
        show _=_;cases r1 with
        | nil=>rfl
        | cons u r2=>simp only[nameP];rw[if_pos (by simpa[kindB]using hkb)]
       rw[HQ2.out]at HQ1;have KN:=iH (name_no (A:=A) (n:=n8) (c:=c8) hP10 hkb);clear hP10 hN hb10 HQ2;go_wp2_with fail;refine KN.out.mono ?_;rintro e wz ⟨rfl,hgz⟩;refine⟨rfl,?_⟩;rw[HQ1.out];exact⟨rfl,HG10.out.trans hgz⟩
      ·obtain⟨v,r2,rfl,hv⟩:=kindB_nil hkb;have KN:=iH (name_ok (c:=c8) hP10 hN hv);clear hP10 hN hb10 hkb;go_wp2_with fail;refine KN.out.mono ?_;rintro e w11 ⟨rfl,hP11,hG11⟩;have HQ2:Hid (nameP nl (fun i=>Mk.node sMore u.num i []) (v :: r2) st=.ok (.node sMore u.num (nameV nl v.text) []) r2 (nameSt nl v st)):=nameP_ok _ _ hv;rw[HQ2.out]at HQ1;have HV:=iH (nameV_in nl v.text HL8.out);have HQ:=HQ1;clear HQ2 HQ1;have Bm_:=HBm10.out.gr2 hG11 (by omega) (by omega);have Br_:=HBr10.out.gr2 hG11 (by omega) (by omega);have hrl:=Br_.lt;have hml:=Bm_.lt;have hne5:W.heap.size≠mb:=by omega
       have⟨m0,m1,m2,m3,_⟩:=Bm_.p4;have fm1:=Bm_.frozen 1;have fm2:=Bm_.frozen 2;have⟨z0,z1,z2,z3,_⟩:=Br_.p4;have fz0:=Br_.frozen 0;have fz1:=Br_.frozen 1;have fz2:=Br_.frozen 2;have fz3:=Br_.frozen 3;have HBm_:=iH Bm_;have HBr_:=iH Br_;have HP_:=iH (hP11);have HG_:=iH (HG10.out.trans hG11);clear Bm_ Br_ hP11 hG11 KN;go_wp2;have HX:=four_laid (HBr_.out.far (p:=⟨mb,2,none⟩) hne5 (.int .i64 (nameV nl v.text))) (.string t.text) (.int .i64 u.num) (.int .i64 (nameV nl v.text)) (.slice none 0 0);have PX:=(HP_.out.one HBm_.out hpm 2 (.int .i64 (nameV nl v.text))).four (HBr_.out.far (p:=⟨mb,2,none⟩) hne5 (.int .i64 (nameV nl v.text))) hl (.string t.text) (.int .i64 u.num) (.int .i64 (nameV nl v.text)) (.slice none 0 0);have GX:=(HG_.out.new (q:=⟨mb,2,none⟩) (by simp;omega) (.int .i64 (nameV nl v.text))).four (Nat.le_refl _) (.string t.text) (.int .i64 u.num) (.int .i64 (nameV nl v.text)) (.slice none 0 0);generalize((((w11.setCell ⟨mb,2,none⟩ (.int .i64 (nameV nl v.text))).setCell ⟨W.heap.size,0,none⟩ (.string t.text)).setCell ⟨W.heap.size,1,none⟩ (.int .i64 u.num)).setCell ⟨W.heap.size,2,none⟩ (.int .i64 (nameV nl v.text))).setCell ⟨W.heap.size,3,none⟩ (.slice none 0 0)=X at *;have⟨x0,x1,x2,x3,_⟩:=HX.p4;refine bodyPost_ret (v:=.agg #[.string t.text,.int .i64 u.num,.int .i64 (nameV nl v.text),.slice none 0 0]) (by simp[results,Tryz.results134,go_sem,x0,x1,x2,x3]) rfl ?_;rw[HQ.out];exact⟨⟨t.text,u.num,nameV nl v.text,[],⟨none,0,0⟩⟩,rfl,by simp[MkM.core,MkM.coreL,E0.out],leaf_ok _ _ hts HU.out HV.out,PX,GX⟩
    rw[decide_eq_false e4]at q4;have HQ:Hid (condP kindNs (m.rules.map RuM.name) (m.items.map It.name) (t :: r) st=numsP t.text r st):=by
     show _=_;simp only[condP];rw[if_neg (by simp[HK.out,hop]),if_neg e1,if_neg e2,if_neg e3,if_neg e4]
    have E1:=iH e1;have E2:=iH e2;have E3:=iH e3;have E4:=iH e4;clear p1 p2 p3 p4 e1 e2 e3 e4;go_wp2_with fail;generalize hmb:w6.heap.size=mb at *;generalize w6.alloc (.cells #[.string t.text,.int .i64 0,.int .i64 0,.slice none 0 0] 49)=w7 at *;have hs7:=Hs7.out;have hpm:pb<mb:=by omega
    have hrm:rb<mb:=by omega
    clear Hs7 hmb;cases hkb:kindB r 1
    ·have HQ2:Hid (condP kindNs (m.rules.map RuM.name) (m.items.map It.name) (t :: r) st=.bad r):=by
      show _=_;rw[HQ.out];cases r with
      | nil=>rfl
      | cons u r2=>simp only[numsP];rw[if_pos (by simpa[kindB]using hkb)]
     have KN:=iH (number_no HP7.out.rd (by rw[isB_any];exact hkb));clear HQ;go_wp2_with fail;refine KN.out.mono ?_;rintro e wz ⟨rfl,hgz⟩;refine⟨rfl,?_⟩;rw[HQ2.out];exact⟨rfl,HG6.out.trans (.of_r hgz)⟩
    obtain⟨u,r1,rfl,hu⟩:=kindB_nil hkb;have KN:=iH (number_yes HP7.out.rd (by rw[isB_any];simp[kindB,hu]));have HU:=iH (HP7.out.toks u (List.mem_cons_self ..)).2;clear hkb;refine KN.out.mono ?_;rintro e w8 ⟨rfl,hr8,hg8⟩;have hP8:=HP7.out.read hg8 hr8 (fun _ ht=>List.mem_cons_of_mem _ ht);have hBm8:=HBm.out.grown hg8 (by simp;omega);have hBr8:=HBr.out.grown hg8 (by simp;omega);have hMp8:=HMp.out.kept hg8 (by simpa using mapC_ne HMp.out HP7.out.rd);have p0:w8.cell? ⟨pb,0,none⟩=some (.pointer (some ⟨rb,0,none⟩)):=hP8.r0;have⟨m0,m1,m2,m3,_⟩:=hBm8.p4;have fm1:=hBm8.frozen 1;have hl8:=hP8.plt;have hm8:=hBm8.lt;have hnpm:pb≠mb:=by omega
    have hne5:W.heap.size≠mb:=by omega
    have yV:Below (w8.setCell ⟨mb,1,none⟩ (.int .i64 u.num)).heap.size (w8.setCell ⟨mb,1,none⟩ (.int .i64 u.num)) ((w8.setCell ⟨mb,1,none⟩ (.int .i64 u.num)).alloc (.cells #[.int .i64 u.kind,.string u.text,.int .i64 u.num,.int .i64 u.at_] 186)):=(Below.refl _ _).alloc (Nat.le_refl _) _;have HP9:=iH ((hP8.one hBm8 hpm 1 (.int .i64 u.num)).below yV);have HBm9:=iH ((hBm8.set 1 (.int .i64 u.num)).alloc (.cells #[.int .i64 u.kind,.string u.text,.int .i64 u.num,.int .i64 u.at_] 186));have HBr9:=iH ((hBr8.far (p:=⟨mb,1,none⟩) hne5 (.int .i64 u.num)).alloc (.cells #[.int .i64 u.kind,.string u.text,.int .i64 u.num,.int .i64 u.at_] 186));have HG9:=iH (((HG6.out.trans (.of_r hg8)).new (q:=⟨mb,1,none⟩) (by simp;omega) (.int .i64 u.num)).trans (.of_below yV));have HBt9:Hid (Bk ((w8.setCell ⟨mb,1,none⟩ (.int .i64 u.num)).alloc (.cells #[.int .i64 u.kind,.string u.text,.int .i64 u.num,.int .i64 u.at_] 186)) w8.heap.size 186 [.int .i64 u.kind,.string u.text,.int .i64 u.num,.int .i64 u.at_]):=by
     have:=Bk.new (w8.setCell ⟨mb,1,none⟩ (.int .i64 u.num)) 186 [.int .i64 u.kind,.string u.text,.int .i64 u.num,.int .i64 u.at_];exact iH (by simpa using this)
    have HMp9:=iH ((hMp8.kept (grown_setCell w8 mb 1 (.int .i64 u.num)) (by simpa using hMp8.ne hBm8)).below yV);have hlook:=HMp9.out.look (s:=t.text) (by unfold maxLen;omega);have hf0:=field169;have hf3:=field169c;clear KN hr8 hP8 hBm8 hBr8 hMp8 hg8 HP7 HBm HBr HG6 HMp yV;cases h2:isTwo t.text
    ·obtain⟨f,cap,hc⟩:=conds_one b1 b2 b3 h2 hop E1.out E2.out E3.out E4.out;rw[hc]at hlook;have HQ1:Hid (condP kindNs (m.rules.map RuM.name) (m.items.map It.name) (t :: u :: r1) st=.ok (.node t.text u.num 0 []) r1 (if rangeOk t.text u.num 0 then st else st.note 5 u.at_)):=by
      show _=_;rw[HQ.out];simp only[numsP];rw[if_neg (by simpa using hu),if_neg (by simp[h2])]
     have HRg:Hid (rangeOk t.text u.num 0=(decide (0<=u.num) && decide (u.num<=1073741824))):=by
      show _=_;unfold rangeOk;rw[if_neg (by simp[h2])]
     clear HQ hu h2 hc;have henter:=enter_of Tryz.func93 (by kernel_rfl) rfl;change(Instr.lookup 121 (.map (some bm)) (.string t.text) false).run Tryz.prog _=.ok (.agg #[.bool false,.func (.func f) #[] (capsV cap),.func (.func 85) #[] #[],.func (.func 93) #[] #[]]) _ at hlook;generalize capsV cap=cv at *;go_wp2_with fail;generalize w8.heap.size=tb at *;generalize(w8.setCell ⟨mb,1,none⟩ (.int .i64 u.num)).alloc (.cells #[.int .i64 u.kind,.string u.text,.int .i64 u.num,.int .i64 u.at_] 186)=w9 at *;have hmtb:mb<tb:=hm8;clear p0 m0 m1 m2 m3 fm1 hl8 hm8 hlook henter;have htp:pb<tb:=by omega
     have KR:=iH (rg_account t.text (u.num) (0) none 0 0 w9);refine KR.out.mono ?_;rintro e wr1 ⟨rfl,hbr⟩;have hPr:=HP9.out.below hbr;have HBmr:=iH (HBm9.out.below hbr HBm9.out.lt);have HBrr:=iH (HBr9.out.below hbr HBr9.out.lt);have hBtr:=HBt9.out.below hbr HBt9.out.lt;have HGr:=iH (HG9.out.trans (.of_below hbr));have s3:=hBtr.k3;have htl:=hBtr.lt;clear KR hbr hBtr HP9 HBm9 HBr9 HBt9 HG9;cases hrg:(decide (0<=u.num) && decide (u.num<=1073741824))
     ·have HQ:Hid (_=_):=HQ1;rw[HRg.out,hrg]at HQ;have KF:=iH (find_any u.at_ 5 hPr);clear HQ1 HRg hPr;go_wp2_with fail;refine KF.out.mono ?_;rintro e wr2 ⟨rfl,hPf,hGf⟩;clear KF;have Bm_:=HBmr.out.gr2 hGf (by omega) (by omega);have Br_:=HBrr.out.gr2 hGf (by omega) (by omega);have hrl:=Br_.lt;have hml:=Bm_.lt;have hne5:W.heap.size≠mb:=by omega
      have⟨m0,m1,m2,m3,_⟩:=Bm_.p4;have fm1:=Bm_.frozen 1;have fm2:=Bm_.frozen 2;have⟨z0,z1,z2,z3,_⟩:=Br_.p4;have fz0:=Br_.frozen 0;have fz1:=Br_.frozen 1;have fz2:=Br_.frozen 2;have fz3:=Br_.frozen 3;have HBm_:=iH Bm_;have HBr_:=iH Br_;have HP_:=iH (hPf);have HG_:=iH (HGr.out.trans hGf);clear Bm_ Br_ hPf hGf;go_wp2;have HX:=four_laid HBr_.out (.string t.text) (.int .i64 u.num) (.int .i64 0) (.slice none 0 0);have PX:=HP_.out.four HBr_.out hl (.string t.text) (.int .i64 u.num) (.int .i64 0) (.slice none 0 0);have GX:=HG_.out.four (Nat.le_refl _) (.string t.text) (.int .i64 u.num) (.int .i64 0) (.slice none 0 0);generalize(((wr2.setCell ⟨W.heap.size,0,none⟩ (.string t.text)).setCell ⟨W.heap.size,1,none⟩ (.int .i64 u.num)).setCell ⟨W.heap.size,2,none⟩ (.int .i64 0)).setCell ⟨W.heap.size,3,none⟩ (.slice none 0 0)=X at *;have⟨x0,x1,x2,x3,_⟩:=HX.p4;refine bodyPost_ret (v:=.agg #[.string t.text,.int .i64 u.num,.int .i64 0,.slice none 0 0]) (by simp[results,Tryz.results134,go_sem,x0,x1,x2,x3]) rfl ?_;rw[HQ.out];exact⟨⟨t.text,u.num,0,[],⟨none,0,0⟩⟩,rfl,by simp[MkM.core,MkM.coreL],leaf_ok _ _ hts HU.out ⟨by decide,by decide⟩,PX,GX⟩
     ·have HQ:Hid (_=_):=HQ1;rw[HRg.out,hrg]at HQ;clear HQ1 HRg;have Bm_:=HBmr.out;have Br_:=HBrr.out;have hrl:=Br_.lt;have hml:=Bm_.lt;have hne5:W.heap.size≠mb:=by omega
      have⟨m0,m1,m2,m3,_⟩:=Bm_.p4;have fm1:=Bm_.frozen 1;have fm2:=Bm_.frozen 2;have⟨z0,z1,z2,z3,_⟩:=Br_.p4;have fz0:=Br_.frozen 0;have fz1:=Br_.frozen 1;have fz2:=Br_.frozen 2;have fz3:=Br_.frozen 3;have HBm_:=iH Bm_;have HBr_:=iH Br_;have HP_:=iH (hPr);have HG_:=iH (HGr.out);clear Bm_ Br_ hPr;go_wp2;have HX:=four_laid HBr_.out (.string t.text) (.int .i64 u.num) (.int .i64 0) (.slice none 0 0);have PX:=HP_.out.four HBr_.out hl (.string t.text) (.int .i64 u.num) (.int .i64 0) (.slice none 0 0);have GX:=HG_.out.four (Nat.le_refl _) (.string t.text) (.int .i64 u.num) (.int .i64 0) (.slice none 0 0);generalize(((wr1.setCell ⟨W.heap.size,0,none⟩ (.string t.text)).setCell ⟨W.heap.size,1,none⟩ (.int .i64 u.num)).setCell ⟨W.heap.size,2,none⟩ (.int .i64 0)).setCell ⟨W.heap.size,3,none⟩ (.slice none 0 0)=X at *;have⟨x0,x1,x2,x3,_⟩:=HX.p4;refine bodyPost_ret (v:=.agg #[.string t.text,.int .i64 u.num,.int .i64 0,.slice none 0 0]) (by simp[results,Tryz.results134,go_sem,x0,x1,x2,x3]) rfl ?_;rw[HQ.out];exact⟨⟨t.text,u.num,0,[],⟨none,0,0⟩⟩,rfl,by simp[MkM.core,MkM.coreL],leaf_ok _ _ hts HU.out ⟨by decide,by decide⟩,PX,GX⟩
    ·obtain⟨f,hc⟩:=conds_two b1 b2 b3 h2;have hc':=hc;rw[hc]at hlook;have henter:=enter_of Tryz.func98 (by kernel_rfl) rfl;change(Instr.lookup 121 (.map (some bm)) (.string t.text) false).run Tryz.prog _=.ok (.agg #[.bool true,.func (.func f) #[] (capsV none),.func (.func 85) #[] #[],.func (.func 98) #[] #[]]) _ at hlook;have HQ1:Hid (condP kindNs (m.rules.map RuM.name) (m.items.map It.name) (t :: u :: r1) st=twoRest t.text u.num r1 st):=by
      show _=_;rw[HQ.out];simp only[numsP];rw[if_neg (by simpa using hu),if_pos h2];rfl
     have H2:=iH h2;clear HQ hu h2 hc';have p0V:((w8.setCell ⟨mb,1,none⟩ (.int .i64 u.num)).alloc (.cells #[.int .i64 u.kind,.string u.text,.int .i64 u.num,.int .i64 u.at_] 186)).cell? ⟨pb,0,none⟩=some (.pointer (some ⟨rb,0,none⟩)):=HP9.out.r0;go_wp2_with fail;generalize w8.heap.size=tb at *;generalize(w8.setCell ⟨mb,1,none⟩ (.int .i64 u.num)).alloc (.cells #[.int .i64 u.kind,.string u.text,.int .i64 u.num,.int .i64 u.at_] 186)=w9 at *;have hmtb:mb<tb:=hm8;clear p0 p0V m0 m1 m2 m3 fm1 hl8 hm8 hlook;have htp:pb<tb:=by omega
     cases hkb:headB r1 2 sDot
     ·have HQ2:Hid (condP kindNs (m.rules.map RuM.name) (m.items.map It.name) (t :: u :: r1) st=.bad r1):=by
       show _=_;rw[HQ1.out];exact two_bad1 hkb
      have KN:=iH (symbol_no sDot HP9.out.rd (by rw[isB_word _ _ (by decide)];exact hkb));have p0:w9.cell? ⟨pb,0,none⟩=some (.pointer (some ⟨rb,0,none⟩)):=HP9.out.r0;have hlz:=HP9.out.plt;clear HQ1
      first | skip
      refine KN.out.mono ?_;rintro e wz ⟨rfl,hgz⟩;refine⟨rfl,?_⟩;rw[HQ2.out];exact⟨rfl,HG9.out.trans (.of_r hgz)⟩
     obtain⟨d1,rd1,rfl,hdk,hdt⟩:=headB_nil hkb;have hd1:headB (d1 :: rd1) 2 sDot=true:=hkb;have KN:=iH (symbol_yes sDot HP9.out.rd (by rw[isB_word _ _ (by decide)];exact hkb));have p0:w9.cell? ⟨pb,0,none⟩=some (.pointer (some ⟨rb,0,none⟩)):=HP9.out.r0;have hlz:=HP9.out.plt;clear hkb hdk hdt;refine KN.out.mono ?_;rintro e w10 ⟨rfl,hrz,hgz⟩;have HP10:=iH (HP9.out.read hgz hrz (fun _ ht=>List.mem_cons_of_mem _ ht));have HBm10:=iH (HBm9.out.grown hgz (by simp;omega));have HBr10:=iH (HBr9.out.grown hgz (by simp;omega));have HBt10:=iH (HBt9.out.grown hgz (by simp;omega));have HMp10:=iH (HMp9.out.kept hgz (by simpa using mapC_ne HMp9.out HP9.out.rd));have HG10:=iH (HG9.out.trans (.of_r hgz));clear KN p0 hlz hrz hgz HP9 HBm9 HBr9 HBt9 HMp9 HG9;cases hkb:headB rd1 2 sDot
     ·have HQ2:Hid (condP kindNs (m.rules.map RuM.name) (m.items.map It.name) (t :: u :: d1 :: rd1) st=.bad rd1):=by
       show _=_;rw[HQ1.out];exact two_bad2 hd1 hkb
      have KN:=iH (symbol_no sDot HP10.out.rd (by rw[isB_word _ _ (by decide)];exact hkb));have p0:w10.cell? ⟨pb,0,none⟩=some (.pointer (some ⟨rb,0,none⟩)):=HP10.out.r0;have hlz:=HP10.out.plt;clear HQ1
      first | skip
      go_wp2_with fail;refine KN.out.mono ?_;rintro e wz ⟨rfl,hgz⟩;refine⟨rfl,?_⟩;rw[HQ2.out];exact⟨rfl,HG10.out.trans (.of_r hgz)⟩
     obtain⟨d2,rd2,rfl,hdk,hdt⟩:=headB_nil hkb;have hd2:headB (d2 :: rd2) 2 sDot=true:=hkb;have KN:=iH (symbol_yes sDot HP10.out.rd (by rw[isB_word _ _ (by decide)];exact hkb));have p0:w10.cell? ⟨pb,0,none⟩=some (.pointer (some ⟨rb,0,none⟩)):=HP10.out.r0;have hlz:=HP10.out.plt;clear hkb hdk hdt;go_wp2_with fail;refine KN.out.mono ?_;rintro e w11 ⟨rfl,hrz,hgz⟩;have HP11:=iH (HP10.out.read hgz hrz (fun _ ht=>List.mem_cons_of_mem _ ht));have HBm11:=iH (HBm10.out.grown hgz (by simp;omega));have HBr11:=iH (HBr10.out.grown hgz (by simp;omega));have HBt11:=iH (HBt10.out.grown hgz (by simp;omega));have HMp11:=iH (HMp10.out.kept hgz (by simpa using mapC_ne HMp10.out HP10.out.rd));have HG11:=iH (HG10.out.trans (.of_r hgz));clear KN p0 hlz hrz hgz HP10 HBm10 HBr10 HBt10 HMp10 HG10;cases hkb:kindB rd2 1
     ·have HQ2:Hid (condP kindNs (m.rules.map RuM.name) (m.items.map It.name) (t :: u :: d1 :: d2 :: rd2) st=.bad rd2):=by
       show _=_;rw[HQ1.out];exact two_bad3 hd1 hd2 hkb
      have KN:=iH (number_no HP11.out.rd (by rw[isB_any];exact hkb));have p0:w11.cell? ⟨pb,0,none⟩=some (.pointer (some ⟨rb,0,none⟩)):=HP11.out.r0;have hl11:=HP11.out.plt;clear HQ1;go_wp2_with fail;refine KN.out.mono ?_;rintro e wz ⟨rfl,hgz⟩;refine⟨rfl,?_⟩;rw[HQ2.out];exact⟨rfl,HG11.out.trans (.of_r hgz)⟩
     obtain⟨v,r3,rfl,hv⟩:=kindB_nil hkb;have KN:=iH (number_yes HP11.out.rd (by rw[isB_any];simp[kindB,hv]));have HV:=iH (HP11.out.toks v (List.mem_cons_self ..)).2;have HQ2:Hid (condP kindNs (m.rules.map RuM.name) (m.items.map It.name) (t :: u :: d1 :: d2 :: v :: r3) st=.ok (.node t.text u.num v.num []) r3 (if rangeOk t.text u.num v.num then st else st.note 5 v.at_)):=by
      show _=_;rw[HQ1.out];exact two_ok hd1 hd2 hv
     have HRg:Hid (rangeOk t.text u.num v.num=(decide (0<=u.num) && decide (u.num<=v.num) && decide (v.num<=1099511627776))):=by
      show _=_;unfold rangeOk;rw[if_pos H2.out]
     have p0:w11.cell? ⟨pb,0,none⟩=some (.pointer (some ⟨rb,0,none⟩)):=HP11.out.r0;have hl11:=HP11.out.plt;clear HQ1 hkb hd1 hd2 hv;go_wp2_with fail;refine KN.out.mono ?_;rintro e w12 ⟨rfl,hr12,hg12⟩;have hP12:=HP11.out.read hg12 hr12 (fun _ ht=>List.mem_cons_of_mem _ ht);have hBm12:=HBm11.out.grown hg12 (by simp;omega);have hBr12:=HBr11.out.grown hg12 (by simp;omega);have hBt12:=HBt11.out.grown hg12 (by simp;omega);have hMp12:=HMp11.out.kept hg12 (by simpa using mapC_ne HMp11.out HP11.out.rd);have hG12:=HG11.out.trans (.of_r hg12);have hmt:mb≠tb:=by
      rintro rfl;have h1:=hBm12;have h2:=hBt12;unfold Bk at h1 h2;rw[h1]at h2;cases h2
     have hWt:W.heap.size≠tb:=by
      rintro h;have h1:=hBr12;have h2:=hBt12;unfold Bk at h1 h2;rw[h,h2]at h1;cases h1
     have hg4:=four_self w12 tb (.int .i64 v.kind) (.string v.text) (.int .i64 v.num) (.int .i64 v.at_);have⟨t0,t1,t2,t3,_⟩:=hBt12.p4;have ft0:=hBt12.frozen 0;have ft1:=hBt12.frozen 1;have ft2:=hBt12.frozen 2;have ft3:=hBt12.frozen 3;have⟨m0,m1,m2,m3,_⟩:=hBm12.p4;have fm2:=hBm12.frozen 2;have htl:=hBt12.lt;have hml:=hBm12.lt;have hBt13:=four_laid hBt12 (.int .i64 v.kind) (.string v.text) (.int .i64 v.num) (.int .i64 v.at_);have hP13:=hP12.far hg4 htp (hBt12.not (by decide)) (hBt12.not (by decide)) (hBt12.not (by decide));have hBm13:=hBm12.grown hg4 (by simpa using hmt);have hBr13:=hBr12.grown hg4 (by simpa using hWt);have hMp13:=hMp12.kept hg4 (by simpa using hMp12.ne hBt12);have hG13:=hG12.four (g:=tb) (by omega) (.int .i64 v.kind) (.string v.text) (.int .i64 v.num) (.int .i64 v.at_);have HP14:=iH (hP13.one hBm13 hpm 2 (.int .i64 v.num));have HBm14:=iH (hBm13.set 2 (.int .i64 v.num));have HBr14:=iH (hBr13.far (p:=⟨mb,2,none⟩) hne5 (.int .i64 v.num));have HBt14:=iH (hBt13.far (p:=⟨mb,2,none⟩) (Ne.symm hmt) (.int .i64 v.num));have HMp14:=iH (hMp13.kept (grown_setCell _ mb 2 (.int .i64 v.num)) (by simpa using hMp13.ne hBm13));have HG14:=iH (hG13.new (q:=⟨mb,2,none⟩) (by simp;omega) (.int .i64 v.num));have hlook:=HMp14.out.look (s:=t.text) (by unfold maxLen;omega);rw[hc]at hlook;change(Instr.lookup 121 (.map (some bm)) (.string t.text) false).run Tryz.prog _=.ok (.agg #[.bool true,.func (.func f) #[] (capsV none),.func (.func 85) #[] #[],.func (.func 98) #[] #[]]) _ at hlook;clear KN hr12 hP12 hBm12 hBr12 hBt12 hMp12 hG12 hBt13 hP13 hBm13 hBr13 hMp13 hG13 hg4 hg12 HP11 HBm11 HBr11 HBt11 HMp11 HG11 p0;go_wp2_with fail;generalize((((w12.setCell ⟨tb,0,none⟩ (.int .i64 v.kind)).setCell ⟨tb,1,none⟩ (.string v.text)).setCell ⟨tb,2,none⟩ (.int .i64 v.num)).setCell ⟨tb,3,none⟩ (.int .i64 v.at_)).setCell ⟨mb,2,none⟩ (.int .i64 v.num)=w14 at *;clear t0 t1 t2 t3 ft0 ft1 ft2 ft3 m0 m1 m2 m3 fm2 hlook henter;have HQ1:=HQ2;have KR:=iH (rg_range t.text (u.num) (v.num) none 0 0 w14);refine KR.out.mono ?_;rintro e wr1 ⟨rfl,hbr⟩;have hPr:=HP14.out.below hbr;have HBmr:=iH (HBm14.out.below hbr HBm14.out.lt);have HBrr:=iH (HBr14.out.below hbr HBr14.out.lt);have hBtr:=HBt14.out.below hbr HBt14.out.lt;have HGr:=iH (HG14.out.trans (.of_below hbr));have s3:=hBtr.k3;have htl:=hBtr.lt;clear KR hbr hBtr HP14 HBm14 HBr14 HBt14 HG14;cases hrg:(decide (0<=u.num) && decide (u.num<=v.num) && decide (v.num<=1099511627776))
     ·have HQ:Hid (_=_):=HQ1;rw[HRg.out,hrg]at HQ;have KF:=iH (find_any v.at_ 5 hPr);clear HQ1 HRg hPr;go_wp2_with fail;refine KF.out.mono ?_;rintro e wr2 ⟨rfl,hPf,hGf⟩;clear KF;have Bm_:=HBmr.out.gr2 hGf (by omega) (by omega);have Br_:=HBrr.out.gr2 hGf (by omega) (by omega);have hrl:=Br_.lt;have hml:=Bm_.lt;have hne5:W.heap.size≠mb:=by omega
      have⟨m0,m1,m2,m3,_⟩:=Bm_.p4;have fm1:=Bm_.frozen 1;have fm2:=Bm_.frozen 2;have⟨z0,z1,z2,z3,_⟩:=Br_.p4;have fz0:=Br_.frozen 0;have fz1:=Br_.frozen 1;have fz2:=Br_.frozen 2;have fz3:=Br_.frozen 3;have HBm_:=iH Bm_;have HBr_:=iH Br_;have HP_:=iH (hPf);have HG_:=iH (HGr.out.trans hGf);clear Bm_ Br_ hPf hGf;go_wp2;have HX:=four_laid HBr_.out (.string t.text) (.int .i64 u.num) (.int .i64 v.num) (.slice none 0 0);have PX:=HP_.out.four HBr_.out hl (.string t.text) (.int .i64 u.num) (.int .i64 v.num) (.slice none 0 0);have GX:=HG_.out.four (Nat.le_refl _) (.string t.text) (.int .i64 u.num) (.int .i64 v.num) (.slice none 0 0);generalize(((wr2.setCell ⟨W.heap.size,0,none⟩ (.string t.text)).setCell ⟨W.heap.size,1,none⟩ (.int .i64 u.num)).setCell ⟨W.heap.size,2,none⟩ (.int .i64 v.num)).setCell ⟨W.heap.size,3,none⟩ (.slice none 0 0)=X at *;have⟨x0,x1,x2,x3,_⟩:=HX.p4;refine bodyPost_ret (v:=.agg #[.string t.text,.int .i64 u.num,.int .i64 v.num,.slice none 0 0]) (by simp[results,Tryz.results134,go_sem,x0,x1,x2,x3]) rfl ?_;rw[HQ.out];exact⟨⟨t.text,u.num,v.num,[],⟨none,0,0⟩⟩,rfl,by simp[MkM.core,MkM.coreL],leaf_ok _ _ hts HU.out HV.out,PX,GX⟩
     ·have HQ:Hid (_=_):=HQ1;rw[HRg.out,hrg]at HQ;clear HQ1 HRg;have Bm_:=HBmr.out;have Br_:=HBrr.out;have hrl:=Br_.lt;have hml:=Bm_.lt;have hne5:W.heap.size≠mb:=by omega
      have⟨m0,m1,m2,m3,_⟩:=Bm_.p4;have fm1:=Bm_.frozen 1;have fm2:=Bm_.frozen 2;have⟨z0,z1,z2,z3,_⟩:=Br_.p4;have fz0:=Br_.frozen 0;have fz1:=Br_.frozen 1;have fz2:=Br_.frozen 2;have fz3:=Br_.frozen 3;have HBm_:=iH Bm_;have HBr_:=iH Br_;have HP_:=iH (hPr);have HG_:=iH (HGr.out);clear Bm_ Br_ hPr;go_wp2;have HX:=four_laid HBr_.out (.string t.text) (.int .i64 u.num) (.int .i64 v.num) (.slice none 0 0);have PX:=HP_.out.four HBr_.out hl (.string t.text) (.int .i64 u.num) (.int .i64 v.num) (.slice none 0 0);have GX:=HG_.out.four (Nat.le_refl _) (.string t.text) (.int .i64 u.num) (.int .i64 v.num) (.slice none 0 0);generalize(((wr1.setCell ⟨W.heap.size,0,none⟩ (.string t.text)).setCell ⟨W.heap.size,1,none⟩ (.int .i64 u.num)).setCell ⟨W.heap.size,2,none⟩ (.int .i64 v.num)).setCell ⟨W.heap.size,3,none⟩ (.slice none 0 0)=X at *;have⟨x0,x1,x2,x3,_⟩:=HX.p4;refine bodyPost_ret (v:=.agg #[.string t.text,.int .i64 u.num,.int .i64 v.num,.slice none 0 0]) (by simp[results,Tryz.results134,go_sem,x0,x1,x2,x3]) rfl ?_;rw[HQ.out];exact⟨⟨t.text,u.num,v.num,[],⟨none,0,0⟩⟩,rfl,by simp[MkM.core,MkM.coreL],leaf_ok _ _ hts HU.out HV.out,PX,GX⟩
   ·have HM2:=iH (HM.out.next (Ne.symm hq));rw[decide_eq_false hq]at KI;clear hq HM hop;generalize condVal o=ov at *;go_wp2_with(first | (go_at_call 133;refine KI.out.mono ?_;rintro e w5 ⟨rfl,rfl⟩) | go_in);go_roundw
    case rel=>exact⟨_,k2,HR.out,HM2.out,HP2.out,HC2.out,HB2.out,HW2.out⟩
    case measure=>rw[HL.out.1,HL.out.2];exact hlt2
end
end Go.Proofs.YtocodlpgaamblaaGreatDoor

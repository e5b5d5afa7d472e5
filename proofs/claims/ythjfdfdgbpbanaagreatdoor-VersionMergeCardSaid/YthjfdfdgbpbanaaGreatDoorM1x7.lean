/- The reference's names on any catalog. The reference's lists on any catalog. The reference's itemError on any item. The reference's ruleErrors on any rule. catalog.wellFormed on any catalog. -/
import Derived.Test.YthjfdfdgbpbanaaGreatDoorM1x6
import Derived.Maps.AppendAt
import Derived.Deep.RegionHeld3
import Derived.Deep.AppendLies
set_option linter.unusedVariables false
set_option linter.unusedSimpArgs false
open Go.RowKit
namespace Go.Proofs.YthjfdfdgbpbanaaGreatDoor
def strs (l:List ByteArray):List Value:=l.map Value.string
theorem strs_snoc (l:List ByteArray) (s:ByteArray):strs (l ++ [s])=strs l ++ [.string s]:=by simp[strs]
theorem one1s (s:ByteArray):∀u∈([.string s]:List Value),u.oneCell'=true:=by
 intro u hu;simp only[List.mem_cons,List.not_mem_nil,or_false]at hu;rcases hu with rfl;rfl
theorem info9:(Tryz.prog.info? 9).map (fun i=>(i.zero,i.size,i.bytes))=some (some (.string ⟨#[]⟩),1,16):=by kernel_rfl
/-- What names returns: the four lists of names. -/
def NamesR (w:World) (m:CatM) (e:Ending) (w':World):Prop :=
 ∃g A0 c0 A1 c1 A2 c2 A3 c3,e=.returned (.slice (some ⟨g,0,none⟩) 4 4)∧Bk w' g 123 [.slice A0 m.items.length c0,.slice A1 m.rules.length c1,.slice A2 m.tables.length c2,.slice A3 m.taxes.length c3] ∧
  Row w' w'.heap.size A0 (strs (m.items.map It.name))∧Row w' w'.heap.size A1 (strs (m.rules.map RuM.name))∧Row w' w'.heap.size A2 (strs (m.tables.map TbM.name))∧Row w' w'.heap.size A3 (strs (m.taxes.map TxM.name))∧m.items.length≤c0∧m.rules.length≤c1∧m.tables.length≤c2∧m.taxes.length≤c3∧Below w.heap.size w w'
theorem own_cap {W:World} {base:Nat} {e:TypeId} {size n c:Nat} {A:Option Addr} {xs:List Value} (h:W.ownsRow base e size (.slice A n c) n xs):n≤c:=by
 rcases h.2 with ⟨hv,hn⟩|⟨g,cap,cur,hv,_,_,hc,_⟩
 ·omega
 ·cases hv;exact hc
set_option maxRecDepth 100000 in
set_option maxHeartbeats 4000000 in
theorem rnames_any {w : World} {m : CatM} (h : m.Ok w) : Calls Tryz.prog 87 #[m.val] w (NamesR w m) := by
 obtain⟨items,rules,tables,taxes,⟨Ai,ni,ci⟩,⟨Ar,nr,cr⟩,⟨At,nt,ct⟩,⟨Ax,nx,cx⟩⟩:=m;obtain⟨i0,hinf,hz0,hz1,hz2⟩:=info_parts info9;have X0:Below w.heap.size w (w.alloc (.cells #[.slice Ai ni ci,.slice Ar nr cr,.slice At nt ct,.slice Ax nx cx] 28)):=(Below.refl _ _).alloc (Nat.le_refl _) _;have k0:Bk (w.alloc (.cells #[.slice Ai ni ci,.slice Ar nr cr,.slice At nt ct,.slice Ax nx cx] 28)) w.heap.size 28 [.slice Ai ni ci,.slice Ar nr cr,.slice At nt ct,.slice Ax nx cx]:=Bk.new w 28 _;have HX:=Lib.hid X0;have HK0:=Lib.hid k0;have H:=Lib.hid (h.below X0);have Hn0:=Lib.hid h.items.len;have Hn1:=Lib.hid h.rules.len;have Hn2:=Lib.hid h.tables.len;have Hn3:=Lib.hid h.taxes.len;have sm0:=h.items.small;have sm1:=h.rules.small;have sm2:=h.tables.small;have sm3:=h.taxes.small;dsimp only at Hn0 Hn1 Hn2 Hn3 sm0 sm1 sm2 sm3;clear h k0 X0;generalize hW0:w.alloc (.cells #[.slice Ai ni ci,.slice Ar nr cr,.slice At nt ct,.slice Ax nx cx] 28)=W0 at H HX HK0;go_enter Tryz.func87,Tryz.ntmps87;go_wp2_with fail;(try rw[hW0]);clear hW0;have GB0:=Lib.hid (Below.refl W0.heap.size W0);go_loopw [3,7] (fun v i wr=>∃k:Nat,k≤ni∧i=.int .i64 k∧wr.ownsRow W0.heap.size 9 1 v k (strs ((items.map It.name).take k))∧Below W0.heap.size W0 wr) (fun _ i _=>ni-(intOf i).toNat)
 case atStart=>exact⟨0,Nat.zero_le _,rfl,World.ownsRow_nil _ _ _ _,Below.refl _ _⟩
 case round =>
  obtain⟨k,hk,rfl,hown,hb⟩:=hrel;have hsz:=hb.size;have GW:=GB0.out.trans (hb.mono GB0.out.size);have hk0:=HK0.out.lt;have bx:wr.cell? ⟨w.heap.size,0,none⟩=some (.slice Ai ni ci):=(GW.cell (p:=⟨w.heap.size,0,none⟩) hk0).trans (HK0.out.cell 0);have hwl:w.heap.size<wr.heap.size:=Nat.lt_of_lt_of_le hk0 GW.size;have HO:=Lib.hid hown;have HG:=Lib.hid GW;clear hown GW hk0;by_cases hlt:k<ni
  ·have hkl:k<items.length:=by have:=Hn0.out;omega
   have hAt:=(H.out.items.below HG.out).at_ k hkl;dsimp only at hAt;obtain⟨b,off,rfl,hbb,c0,_,_,_,_,_,_⟩:=hAt;have HT:=Lib.hid (name_take It.name items k hkl);generalize items[k]=it at *;clear hkl;go_wp2_with(at_builtin;refine wpList_append_own_at _ rfl _ _ 123 rfl W0.heap.size 9 i0 (.string ⟨#[]⟩) 1 16 Tryz.underlying123 hinf hz0 hz1 hz2 rfl (by decide) _ k (strs ((items.map It.name).take k)) rfl (HO.out.alloc _) ⟨wr.heap.size,0,none⟩ 1 1 [.string it.name] rfl rfl (new1 _ _ _) (one1s _) (by unfold maxLen;omega) (by omega) (by simp;omega) ?_);intro v' w1 hown' hgrow _ _;have hb1:Below W0.heap.size W0 w1:=(hb.alloc hsz _).grown hgrow (by simp;omega) (row_base HO.out);have HO1:=Lib.hid hown';clear hown' hgrow;go_wp2;go_roundw
   case rel=>exact⟨k+1,by omega,by go_num,by rw[HT.out,strs_snoc];exact HO1.out,hb1⟩
   case measure=>simp[intOf];omega
  ·obtain rfl : ni = k := by omega
   obtain⟨A0,c0,hv,hrow⟩:=row_of_owns HO.out;rw[List.take_of_length_le (by have:=Hn0.out;simp;omega)]at hrow;have cap0:ni≤c0:=own_cap (by rw[← hv];exact HO.out);rw[hv];clear hv HO;obtain⟨W1,hW1⟩:∃W1,wr=W1:=⟨_,rfl⟩;rw[hW1]at hrow HG hb bx hwl hsz⊢;clear hW1;have GB1:=HG;have R0:=Lib.hid hrow;clear hrow hb HG;go_wp2_with fail;go_loopw [4,8] (fun v i wr=>∃k:Nat,k≤nr∧i=.int .i64 k∧wr.ownsRow W1.heap.size 9 1 v k (strs ((rules.map RuM.name).take k))∧Below W1.heap.size W1 wr) (fun _ i _=>nr-(intOf i).toNat)
   case atStart=>exact⟨0,Nat.zero_le _,rfl,World.ownsRow_nil _ _ _ _,Below.refl _ _⟩
   case round =>
    obtain⟨k,hk,rfl,hown,hb⟩:=hrel;have hsz:=hb.size;have GW:=GB1.out.trans (hb.mono GB1.out.size);have hk0:=HK0.out.lt;have bx:wr.cell? ⟨w.heap.size,1,none⟩=some (.slice Ar nr cr):=(GW.cell (p:=⟨w.heap.size,1,none⟩) hk0).trans (HK0.out.cell 1);have hwl:w.heap.size<wr.heap.size:=Nat.lt_of_lt_of_le hk0 GW.size;have HO:=Lib.hid hown;have HG:=Lib.hid GW;clear hown GW hk0;by_cases hlt:k<nr
    ·have hkl:k<rules.length:=by have:=Hn1.out;omega
     have hAt:=(H.out.rules.below HG.out).at_ k hkl;dsimp only at hAt;obtain⟨b,off,rfl,hbb,c0,_,_,_,_,_,_,_,_⟩:=hAt;have HT:=Lib.hid (name_take RuM.name rules k hkl);generalize rules[k]=it at *;clear hkl;go_wp2_with(at_builtin;refine wpList_append_own_at _ rfl _ _ 123 rfl W1.heap.size 9 i0 (.string ⟨#[]⟩) 1 16 Tryz.underlying123 hinf hz0 hz1 hz2 rfl (by decide) _ k (strs ((rules.map RuM.name).take k)) rfl (HO.out.alloc _) ⟨wr.heap.size,0,none⟩ 1 1 [.string it.name] rfl rfl (new1 _ _ _) (one1s _) (by unfold maxLen;omega) (by omega) (by simp;omega) ?_);intro v' w1 hown' hgrow _ _;have hb1:Below W1.heap.size W1 w1:=(hb.alloc hsz _).grown hgrow (by simp;omega) (row_base HO.out);have HO1:=Lib.hid hown';clear hown' hgrow;go_wp2;go_roundw
     case rel=>exact⟨k+1,by omega,by go_num,by rw[HT.out,strs_snoc];exact HO1.out,hb1⟩
     case measure=>simp[intOf];omega
    ·obtain rfl:nr=k:=by omega
     obtain⟨A1,c1,hv,hrow⟩:=row_of_owns HO.out;rw[List.take_of_length_le (by have:=Hn1.out;simp;omega)]at hrow;have cap1:nr≤c1:=own_cap (by rw[← hv];exact HO.out);rw[hv];clear hv HO;obtain⟨W2,hW2⟩:∃W2,wr=W2:=⟨_,rfl⟩;rw[hW2]at hrow HG hb bx hwl hsz⊢;clear hW2;have GB2:=HG;have R1:=Lib.hid hrow;have R0':=Lib.hid ((R0.out.below hb).more hb.size);clear R0;have R0:=R0';clear R0';clear hrow hb HG;go_wp2_with fail;go_loopw [5,9] (fun v i wr=>∃k:Nat,k≤nt∧i=.int .i64 k∧wr.ownsRow W2.heap.size 9 1 v k (strs ((tables.map TbM.name).take k))∧Below W2.heap.size W2 wr) (fun _ i _=>nt-(intOf i).toNat)
     case atStart=>exact⟨0,Nat.zero_le _,rfl,World.ownsRow_nil _ _ _ _,Below.refl _ _⟩
     case round =>
      obtain⟨k,hk,rfl,hown,hb⟩:=hrel;have hsz:=hb.size;have GW:=GB2.out.trans (hb.mono GB2.out.size);have hk0:=HK0.out.lt;have bx:wr.cell? ⟨w.heap.size,2,none⟩=some (.slice At nt ct):=(GW.cell (p:=⟨w.heap.size,2,none⟩) hk0).trans (HK0.out.cell 2);have hwl:w.heap.size<wr.heap.size:=Nat.lt_of_lt_of_le hk0 GW.size;have HO:=Lib.hid hown;have HG:=Lib.hid GW;clear hown GW hk0;by_cases hlt:k<nt
      ·have hkl:k<tables.length:=by have:=Hn2.out;omega
       have hAt:=(H.out.tables.below HG.out).at_ k hkl;dsimp only at hAt;obtain⟨b,off,rfl,hbb,c0,_⟩:=hAt;have HT:=Lib.hid (name_take TbM.name tables k hkl);generalize tables[k]=it at *;clear hkl;go_wp2_with(at_builtin;refine wpList_append_own_at _ rfl _ _ 123 rfl W2.heap.size 9 i0 (.string ⟨#[]⟩) 1 16 Tryz.underlying123 hinf hz0 hz1 hz2 rfl (by decide) _ k (strs ((tables.map TbM.name).take k)) rfl (HO.out.alloc _) ⟨wr.heap.size,0,none⟩ 1 1 [.string it.name] rfl rfl (new1 _ _ _) (one1s _) (by unfold maxLen;omega) (by omega) (by simp;omega) ?_);intro v' w1 hown' hgrow _ _;have hb1:Below W2.heap.size W2 w1:=(hb.alloc hsz _).grown hgrow (by simp;omega) (row_base HO.out);have HO1:=Lib.hid hown';clear hown' hgrow;go_wp2;go_roundw
       case rel=>exact⟨k+1,by omega,by go_num,by rw[HT.out,strs_snoc];exact HO1.out,hb1⟩
       case measure=>simp[intOf];omega
      ·obtain rfl:nt=k:=by omega
       obtain⟨A2,c2,hv,hrow⟩:=row_of_owns HO.out;rw[List.take_of_length_le (by have:=Hn2.out;simp;omega)]at hrow;have cap2:nt≤c2:=own_cap (by rw[← hv];exact HO.out);rw[hv];clear hv HO;obtain⟨W3,hW3⟩:∃W3,wr=W3:=⟨_,rfl⟩;rw[hW3]at hrow HG hb bx hwl hsz⊢;clear hW3;have GB3:=HG;have R2:=Lib.hid hrow;have R0':=Lib.hid ((R0.out.below hb).more hb.size);clear R0;have R0:=R0';clear R0';have R1':=Lib.hid ((R1.out.below hb).more hb.size);clear R1;have R1:=R1';clear R1';clear hrow hb HG;go_wp2_with fail;go_loopw [6,10] (fun v i wr=>∃k:Nat,k≤nx∧i=.int .i64 k∧wr.ownsRow W3.heap.size 9 1 v k (strs ((taxes.map TxM.name).take k))∧Below W3.heap.size W3 wr) (fun _ i _=>nx-(intOf i).toNat)
       case atStart=>exact⟨0,Nat.zero_le _,rfl,World.ownsRow_nil _ _ _ _,Below.refl _ _⟩
       case round =>
        obtain⟨k,hk,rfl,hown,hb⟩:=hrel;have hsz:=hb.size;have GW:=GB3.out.trans (hb.mono GB3.out.size);have hk0:=HK0.out.lt;have bx:wr.cell? ⟨w.heap.size,3,none⟩=some (.slice Ax nx cx):=(GW.cell (p:=⟨w.heap.size,3,none⟩) hk0).trans (HK0.out.cell 3);have hwl:w.heap.size<wr.heap.size:=Nat.lt_of_lt_of_le hk0 GW.size;have HO:=Lib.hid hown;have HG:=Lib.hid GW;clear hown GW hk0;by_cases hlt:k<nx
        ·have hkl:k<taxes.length:=by have:=Hn3.out;omega
         have hAt:=(H.out.taxes.below HG.out).at_ k hkl;dsimp only at hAt;obtain⟨b,off,rfl,hbb,c0,_⟩:=hAt;have HT:=Lib.hid (name_take TxM.name taxes k hkl);generalize taxes[k]=it at *;clear hkl;go_wp2_with(at_builtin;refine wpList_append_own_at _ rfl _ _ 123 rfl W3.heap.size 9 i0 (.string ⟨#[]⟩) 1 16 Tryz.underlying123 hinf hz0 hz1 hz2 rfl (by decide) _ k (strs ((taxes.map TxM.name).take k)) rfl (HO.out.alloc _) ⟨wr.heap.size,0,none⟩ 1 1 [.string it.name] rfl rfl (new1 _ _ _) (one1s _) (by unfold maxLen;omega) (by omega) (by simp;omega) ?_);intro v' w1 hown' hgrow _ _;have hb1:Below W3.heap.size W3 w1:=(hb.alloc hsz _).grown hgrow (by simp;omega) (row_base HO.out);have HO1:=Lib.hid hown';clear hown' hgrow;go_wp2;go_roundw
         case rel=>exact⟨k+1,by omega,by go_num,by rw[HT.out,strs_snoc];exact HO1.out,hb1⟩
         case measure=>simp[intOf];omega
        ·obtain rfl:nx=k:=by omega
         obtain⟨A3,c3,hv,hrow⟩:=row_of_owns HO.out;rw[List.take_of_length_le (by have:=Hn3.out;simp;omega)]at hrow;have cap3:nx≤c3:=own_cap (by rw[← hv];exact HO.out);rw[hv];clear hv HO;obtain⟨W4,hW4⟩:∃W4,wr=W4:=⟨_,rfl⟩;rw[hW4]at hrow HG hb bx hwl hsz⊢;clear hW4;have GB4:=HG;have R3:=Lib.hid hrow;have R0':=Lib.hid ((R0.out.below hb).more hb.size);clear R0;have R0:=R0';clear R0';have R1':=Lib.hid ((R1.out.below hb).more hb.size);clear R1;have R1:=R1';clear R1';have R2':=Lib.hid ((R2.out.below hb).more hb.size);clear R2;have R2:=R2';clear R2';clear hrow hb HG;go_wp2_with fail;clear bx;go_ret;have bb:Below W4.heap.size W4 (W4.alloc (.cells #[.slice A0 ni c0,.slice A1 nr c1,.slice A2 nt c2,.slice A3 nx c3] 123)):=(Below.refl _ _).alloc (Nat.le_refl _) _;have e0:=Hn0.out;have e1:=Hn1.out;have e2:=Hn2.out;have e3:=Hn3.out;refine⟨W4.heap.size,A0,c0,A1,c1,A2,c2,A3,c3,rfl,?_,(R0.out.below bb).more bb.size,(R1.out.below bb).more bb.size,(R2.out.below bb).more bb.size,(R3.out.below bb).more bb.size,?_,?_,?_,?_,?_⟩
         ·dsimp only;rw[← e0,← e1,← e2,← e3];exact Bk.new W4 123 _
         ·dsimp only;omega
         ·dsimp only;omega
         ·dsimp only;omega
         ·dsimp only;omega
         ·exact(HX.out.trans (GB4.out.mono HX.out.size)).trans (bb.mono (Nat.le_trans HX.out.size GB4.out.size))
abbrev SL:=Sl×List P2
def lcells (l:List SL):List Value:=l.map fun p=>Value.slice p.1.A p.1.n p.1.c
theorem lcells_app (l m:List SL):lcells (l ++ m)=lcells l ++ lcells m:=by simp[lcells]
@[simp] theorem lcells_length (l : List SL) : (lcells l).length = l.length := by simp [lcells]
def rlists (l:List RuM):List SL:=l.flatMap fun r=>[(r.st,r.take),(r.sg,r.give),(r.sb,r.back)]
def wlists (l:List RwM):List SL:=l.map fun r=>(r.sg,r.give)
def tlists (l:List TbM):List SL:=l.flatMap fun t=>wlists t.rows
def listsOf (m:CatM):List SL:=rlists m.rules ++ tlists m.tables
theorem rlists_len (l:List RuM):(rlists l).length=3*l.length:=by
 induction l with
 | nil=>rfl
 | cons x l ih=>simp only[rlists,List.flatMap_cons,List.length_append,List.length_cons,List.length_nil]at ih⊢;omega
theorem wlists_len (l:List RwM):(wlists l).length=l.length:=by simp[wlists]
theorem tlists_len (l:List TbM) (h:∀t∈l,t.rows.length≤100000):(tlists l).length≤100000*l.length:=by
 induction l with
 | nil=>simp[tlists]
 | cons x l ih =>
   have h1:=h x (by simp);have h2:=ih (fun t ht=>h t (by simp[ht]));simp only[tlists,List.flatMap_cons,List.length_append,wlists_len,List.length_cons]at h2⊢;omega
theorem rlists_snoc (l:List RuM) (k:Nat) (h:k<l.length):lcells (rlists (l.take (k+1)))=lcells (rlists (l.take k)) ++ [.slice l[k].st.A l[k].st.n l[k].st.c,.slice l[k].sg.A l[k].sg.n l[k].sg.c,.slice l[k].sb.A l[k].sb.n l[k].sb.c]:=by
 rw[List.take_succ_eq_append_getElem h];simp only[rlists,lcells,List.flatMap_append,List.map_append,List.flatMap_cons,List.flatMap_nil,List.append_nil,List.map_cons,List.map_nil]
theorem wlists_snoc (l:List RwM) (k:Nat) (h:k<l.length):lcells (wlists (l.take (k+1)))=lcells (wlists (l.take k)) ++ [.slice l[k].sg.A l[k].sg.n l[k].sg.c]:=by
 rw[List.take_succ_eq_append_getElem h];simp only[wlists,lcells,List.map_append,List.map_cons,List.map_nil]
theorem tlists_snoc (l:List TbM) (k:Nat) (h:k<l.length):tlists (l.take (k+1))=tlists (l.take k) ++ wlists l[k].rows:=by
 rw[List.take_succ_eq_append_getElem h];simp only[tlists,List.flatMap_append,List.flatMap_cons,List.flatMap_nil,List.append_nil]
theorem one3s (x y z:Sl):∀u∈([.slice x.A x.n x.c,.slice y.A y.n y.c,.slice z.A z.n z.c]:List Value),u.oneCell'=true:=by
 intro u hu;simp only[List.mem_cons,List.not_mem_nil,or_false]at hu;rcases hu with rfl|rfl|rfl <;> rfl
theorem one1sl (x:Sl):∀u∈([.slice x.A x.n x.c]:List Value),u.oneCell'=true:=by
 intro u hu;simp only[List.mem_cons,List.not_mem_nil,or_false]at hu;rcases hu with rfl;rfl
theorem info101:(Tryz.prog.info? 101).map (fun i=>(i.zero,i.size,i.bytes))=some (some (.slice none 0 0),1,24):=by kernel_rfl
/-- What lists returns: the lists of amounts. -/
def ListsR (w:World) (m:CatM) (e:Ending) (w':World):Prop :=
 ∃A c,e=.returned (.slice A (listsOf m).length c)∧Row w' w'.heap.size A (lcells (listsOf m))∧Below w.heap.size w w'
set_option maxRecDepth 100000 in
set_option maxHeartbeats 4000000 in
theorem rlists_any {w : World} {m : CatM} (h : m.Ok w) : Calls Tryz.prog 94 #[m.val] w (ListsR w m) := by
 obtain⟨items,rules,tables,taxes,⟨Ai,ni,ci⟩,⟨Ar,nr,cr⟩,⟨At,nt,ct⟩,⟨Ax,nx,cx⟩⟩:=m;obtain⟨i0,hi,hz0,hz1,hz2⟩:=info_parts info101;have X0:Below w.heap.size w (w.alloc (.cells #[.slice Ai ni ci,.slice Ar nr cr,.slice At nt ct,.slice Ax nx cx] 28)):=(Below.refl _ _).alloc (Nat.le_refl _) _;have k0:Bk (w.alloc (.cells #[.slice Ai ni ci,.slice Ar nr cr,.slice At nt ct,.slice Ax nx cx] 28)) w.heap.size 28 [.slice Ai ni ci,.slice Ar nr cr,.slice At nt ct,.slice Ax nx cx]:=Bk.new w 28 _;have HX:=Lib.hid X0;have HK0:=Lib.hid k0;have H:=Lib.hid (h.below X0);have Hn1:=Lib.hid h.rules.len;have Hn2:=Lib.hid h.tables.len;have sm1:=h.rules.small;have sm2:=h.tables.small;dsimp only at Hn1 Hn2 sm1 sm2;have HTL:Hid (∀k,(tlists (tables.take k)).length≤100000*k):=fun k=>by
  refine Nat.le_trans (tlists_len _ (fun t ht=>?_)) (Nat.mul_le_mul_left _ (List.length_take_le _ _));have h1:=h.tables.each t (List.mem_of_mem_take ht);have h2:=h1.rows.len;have h3:=h1.rows.small;omega
 clear h k0 X0;generalize hW0:w.alloc (.cells #[.slice Ai ni ci,.slice Ar nr cr,.slice At nt ct,.slice Ax nx cx] 28)=W0 at H HX HK0;go_enter Tryz.func94,Tryz.ntmps94;go_wp2_with fail;(try rw[hW0]);clear hW0;go_loopw [3,4] (fun v i wr=>∃k:Nat,k≤nr∧i=.int .i64 k∧wr.ownsRow W0.heap.size 101 1 v (3*k) (lcells (rlists (rules.take k)))∧Below W0.heap.size W0 wr) (fun _ i _=>nr-(intOf i).toNat)
 case atStart=>exact⟨0,Nat.zero_le _,rfl,World.ownsRow_nil _ _ _ _,Below.refl _ _⟩
 case round =>
  obtain⟨k,hk,rfl,hown,hb⟩:=hrel;have hsz:=hb.size;have hk0:=HK0.out.lt;have bx1:wr.cell? ⟨w.heap.size,1,none⟩=some (.slice Ar nr cr):=(hb.cell (p:=⟨w.heap.size,1,none⟩) hk0).trans (HK0.out.cell 1);have hwl:w.heap.size<wr.heap.size:=Nat.lt_of_lt_of_le hk0 hsz;by_cases hlt:k<nr
  ·have hkl:k<rules.length:=by have:=Hn1.out;omega
   have hAt:=H.out.rules.at_ k hkl;dsimp only at hAt;obtain⟨b,off,rfl,hbb,_,_,_,_,_,_,d6,d7,d8⟩:=hAt;have HT:=Lib.hid (rlists_snoc rules k hkl);generalize rules[k]=ru at *;obtain⟨_,_,_,_,_,_,_,_,_,s1,s2,s3⟩:=ru;dsimp only at *;clear hkl;have HC:Hid (∀U:World,Below W0.heap.size W0 U→U.cell? ⟨w.heap.size,1,none⟩=some (.slice (some ⟨b,off,none⟩) nr cr)∧U.cell? ⟨b,off+k*9+6,none⟩=some (.slice s1.A s1.n s1.c)∧U.cell? ⟨b,off+k*9+7,none⟩=some (.slice s2.A s2.n s2.c)∧U.cell? ⟨b,off+k*9+8,none⟩=some (.slice s3.A s3.n s3.c)) :=
    fun U hU=>⟨(hU.cell (p:=⟨w.heap.size,1,none⟩) hk0).trans (HK0.out.cell 1),(hU.cell (p:=⟨b,_,none⟩) hbb).trans d6,(hU.cell (p:=⟨b,_,none⟩) hbb).trans d7,(hU.cell (p:=⟨b,_,none⟩) hbb).trans d8⟩
   have OWN:Hid ((wr.drew.alloc (.cells #[.slice s1.A s1.n s1.c,.slice s2.A s2.n s2.c,.slice s3.A s3.n s3.c] 101)).ownsRow W0.heap.size 101 1 u3 (3*k) (lcells (rlists (rules.take k)))):=(hown.drew).alloc _;have C1:=Lib.hid (new3 wr.drew 101 (.slice s1.A s1.n s1.c) (.slice s2.A s2.n s2.c) (.slice s3.A s3.n s3.c));have q0:(0:Int)≤(k:Int):=by omega
   have q1:(k:Int)<(nr:Int):=by omega
   have B1:Below W0.heap.size W0 (wr.drew.alloc (.cells #[.slice s1.A s1.n s1.c,.slice s2.A s2.n s2.c,.slice s3.A s3.n s3.c] 101)):=hb.drew.alloc hsz _;have C3:Hid (3*k+3≤maxLen):=by show 3*k+3≤maxLen;unfold maxLen;omega
   have C5:Hid (W0.heap.size≤(wr.drew.alloc (.cells #[.slice s1.A s1.n s1.c,.slice s2.A s2.n s2.c,.slice s3.A s3.n s3.c] 101)).heap.size):=by show W0.heap.size≤_;simp;omega
   have C6:Hid ((wr.drew.alloc (.cells #[.slice s1.A s1.n s1.c,.slice s2.A s2.n s2.c,.slice s3.A s3.n s3.c] 101)).heap.size=wr.heap.size+1):=by show _=_;simp
   clear hown d6 d7 d8;go_wp2_with fail
   go_region_held3 (fun U=>U.cell? ⟨w.heap.size,1,none⟩=some (.slice (some ⟨b,off,none⟩) nr cr)∧U.cell? ⟨b,off+k*9+6,none⟩=some (.slice s1.A s1.n s1.c)∧U.cell? ⟨b,off+k*9+7,none⟩=some (.slice s2.A s2.n s2.c)∧U.cell? ⟨b,off+k*9+8,none⟩=some (.slice s3.A s3.n s3.c)) (first | exact HC.out _ hb.drew | exact HC.out _ B1 | exact HC.out _ BN)
    ((refine step_append_lies _ (by rfl) (.tmp 14) (.tmp 33) 158 (by rfl) W0.heap.size 101 i0 (.slice none 0 0) 1 24 Tryz.underlying158 hi hz0 hz1 hz2 rfl (by decide) _ (3*k) (lcells (rlists (rules.take k))) (by rfl) OWN.out ⟨wr.heap.size,0,none⟩ 3 3 [.slice s1.A s1.n s1.c,.slice s2.A s2.n s2.c,.slice s3.A s3.n s3.c] (by rfl) rfl C1.out (one3s s1 s2 s3) (by omega) C3.out (by omega) C5.out (wr.heap.size+1) C6.out ?_;intro g' cap w3 hown hgr hat hlt3;have BN:=B1.grown hgr C5.out (row_base OWN.out);have HO1:=Lib.hid hown;clear hown hgr hat))
   go_wp2;go_roundw
   case rel=>exact⟨k+1,by omega,by go_num,by rw[HT.out];exact HO1.out,BN⟩
   case measure=>simp[intOf];omega
  ·obtain rfl:k=nr:=by omega
   have hR:wr.ownsRow W0.heap.size 101 1 u3 (rlists rules).length (lcells (rlists rules)):=by
    have e:=Hn1.out;rw[List.take_of_length_le (by omega)]at hown;rw[rlists_len,← e];exact hown
   have hR2:(rlists rules).length≤300000:=by rw[rlists_len];have:=Hn1.out;omega
   have HR:=Lib.hid hR;obtain⟨RL,hRL⟩:∃RL,rlists rules=RL:=⟨_,rfl⟩;rw[hRL]at HR hR2;have HM:Hid (listsOf ⟨items,rules,tables,taxes,⟨Ai,ni,ci⟩,⟨Ar,k,cr⟩,⟨At,nt,ct⟩,⟨Ax,nx,cx⟩⟩=RL ++ tlists tables):=by
    show rlists rules ++ tlists tables=_;rw[hRL]
   clear hown hR hRL;go_wp2_with fail;clear bx1;go_loopw [3,5] (fun v i wx=>∃k:Nat,k≤nt∧i=.int .i64 k∧wx.ownsRow W0.heap.size 101 1 v (RL ++ tlists (tables.take k)).length (lcells (RL ++ tlists (tables.take k)))∧Below W0.heap.size W0 wx) (fun _ i _=>nt-(intOf i).toNat)
   case atStart=>exact⟨0,Nat.zero_le _,rfl,by simpa[tlists]using HR.out,hb⟩
   case round =>
    clear HR hb hsz hwl;obtain⟨k,hk,rfl,hown,hb⟩:=hrel;have hsz:=hb.size;have bx2:wr.cell? ⟨w.heap.size,2,none⟩=some (.slice At nt ct):=(hb.cell (p:=⟨w.heap.size,2,none⟩) hk0).trans (HK0.out.cell 2);have hwl:w.heap.size<wr.heap.size:=Nat.lt_of_lt_of_le hk0 hsz;have HO:=Lib.hid hown;clear hown;by_cases hlt:k<nt
    ·have hkl:k<tables.length:=by have:=Hn2.out;omega
     have hAt:=H.out.tables.at_ k hkl;dsimp only at hAt;obtain⟨b,off,rfl,hbb,_,d1⟩:=hAt;have HT:=Lib.hid (tlists_snoc tables k hkl);have hrows:=(H.out.tables.each _ (List.getElem_mem hkl)).rows;have Hl:=Lib.hid hrows.len;have hls:=hrows.small;have Hrows:=Lib.hid hrows;have htl:=HTL.out k;clear hrows;generalize tables[k]=tb at *;clear hkl;obtain⟨tnm,rows,⟨Aw,nw,cw⟩⟩:=tb;dsimp only at *;obtain⟨PL,hPL⟩:∃PL,RL ++ tlists (tables.take k)=PL:=⟨_,rfl⟩;have HP2:Hid (RL ++ tlists (tables.take (k+1))=PL ++ wlists rows):=by
      show _=_;rw[HT.out,← List.append_assoc,hPL]
     rw[hPL]at HO;have hpl:PL.length≤300000+100000*k:=by rw[← hPL,List.length_append];omega
     clear hPL HT htl;obtain⟨wo,hwo⟩:∃wo:World,wr=wo:=⟨_,rfl⟩;rw[hwo]at bx2 hwl hsz hb HO⊢;clear hwo;go_wp2_with fail;go_loopw [3,6] (fun v i wx=>∃j:Nat,j≤nw∧i=.int .i64 j∧wx.ownsRow W0.heap.size 101 1 v (PL.length+j) (lcells (PL ++ wlists (rows.take j)))∧Below W0.heap.size W0 wx) (fun _ i _=>nw-(intOf i).toNat)
     case atStart=>exact⟨0,Nat.zero_le _,rfl,by simpa[wlists]using HO.out,hb⟩
     case round =>
      clear HO hb hsz hwl bx2;obtain⟨j,hj,rfl,hown,hb⟩:=hrel;have hsz:=hb.size;have bx2:wr.cell? ⟨w.heap.size,2,none⟩=some (.slice (some ⟨b,off,none⟩) nt ct):=(hb.cell (p:=⟨w.heap.size,2,none⟩) hk0).trans (HK0.out.cell 2);have e1:wr.cell? ⟨b,off+k*2+1,none⟩=some (.slice Aw nw cw):=(hb.cell (p:=⟨b,_,none⟩) hbb).trans d1;have hwl:w.heap.size<wr.heap.size:=Nat.lt_of_lt_of_le hk0 hsz;have hbl:b<wr.heap.size:=Nat.lt_of_lt_of_le hbb hsz;have HO:=Lib.hid hown;clear hown;by_cases hltj:j<nw
      ·have hjl:j<rows.length:=by have:=Hl.out;omega
       have hAt:=(Hrows.out.below hb).at_ j hjl;dsimp only at hAt;obtain⟨b2,off2,rfl,hbb2,_,f1⟩:=hAt;have HT:=Lib.hid (wlists_snoc rows j hjl);generalize rows[j]=rw0 at *;obtain⟨_,_,s⟩:=rw0;dsimp only at *;clear hjl;go_wp2_with(at_builtin;refine wpList_append_own_at _ rfl _ _ 158 rfl W0.heap.size 101 i0 (.slice none 0 0) 1 24 Tryz.underlying158 hi hz0 hz1 hz2 rfl (by decide) _ (PL.length+j) (lcells (PL ++ wlists (rows.take j))) rfl (HO.out.alloc _) ⟨wr.heap.size,0,none⟩ 1 1 [.slice s.A s.n s.c] rfl rfl (new1 _ _ _) (one1sl _) (by unfold maxLen;omega) (by omega) (by simp;omega) ?_);intro v' w1 hown' hgrow _ _;have hb1:Below W0.heap.size W0 w1:=(hb.alloc hsz _).grown hgrow (by simp;omega) (row_base HO.out);have HO1:=Lib.hid hown';clear hown' hgrow;go_wp2;go_roundw
       case rel=>exact⟨j+1,by omega,by go_num,by rw[lcells_app,HT.out,← List.append_assoc,← lcells_app];exact HO1.out,hb1⟩
       case measure=>simp[intOf];omega
      ·obtain rfl:j=nw:=by omega
       have hF:wr.ownsRow W0.heap.size 101 1 u3 (RL ++ tlists (tables.take (k+1))).length (lcells (RL ++ tlists (tables.take (k+1)))):=by
        have e:=Hl.out;have h1:=HO.out;rw[List.take_of_length_le (by omega)]at h1;rw[HP2.out,List.length_append,wlists_len,← e];exact h1
       have HF:=Lib.hid hF;clear hF HO;go_wp2;go_roundw
       case rel=>exact⟨k+1,by omega,by go_num,HF.out,hb⟩
       case measure=>simp[intOf];omega
    ·obtain rfl:k=nt:=by omega
     have hF:=HO.out;rw[List.take_of_length_le (by have:=Hn2.out;omega)]at hF;obtain⟨A,c,hv,hrow⟩:=row_of_owns hF;rw[hv];clear hv HO hF;have HRow:=Lib.hid hrow;clear hrow;go_wp2;go_ret;exact⟨A,c,by rw[HM.out];rfl,by rw[HM.out];exact HRow.out,HX.out.trans (hb.mono HX.out.size)⟩
section
def itErr (t:It):Int:=if itFormedB t=false then 1 else if itRangeB t=false then 5 else 0
section
variable {nm : ByteArray} {mi co : Bool} {we bi le : Int}
theorem itErr_f1 (h:¬ (we=0∧bi=0∧le=0)):(1:Int)=itErr ⟨nm,false,mi,co,we,bi,le⟩:=by
 have:itFormedB ⟨nm,false,mi,co,we,bi,le⟩=false:=by
  simp only[itFormedB,Bool.false_eq_true,if_false,Bool.and_eq_false_iff,beq_eq_false_iff_ne];omega
 rw[itErr,if_pos this]
theorem itErr_f0:(0:Int)=itErr ⟨nm,false,mi,co,0,0,0⟩:=by rfl
theorem itErr_t1 (h:mi=true∨co=true∨bi<0∨2<bi):(1:Int)=itErr ⟨nm,true,mi,co,we,bi,le⟩:=by
 have:itFormedB ⟨nm,true,mi,co,we,bi,le⟩=false:=by
  simp only[itFormedB,if_true,Bool.and_eq_false_iff,Bool.not_eq_false',decide_eq_false_iff_not];rcases h with h|h|h|h
  ·simp[h]
  ·simp[h]
  ·left;right;omega
  ·right;omega
 rw[itErr,if_pos this]
theorem formed_t (h0:0≤bi) (h1:bi≤2):¬ itFormedB ⟨nm,true,false,false,we,bi,le⟩=false:=by simp[itFormedB,h0,h1]
theorem itErr_t5 (h0:0≤bi) (h1:bi≤2) (h:le<0∨100<le∨we<1∨1048576<we):(5:Int)=itErr ⟨nm,true,false,false,we,bi,le⟩:=by
 have h2:itRangeB ⟨nm,true,false,false,we,bi,le⟩=false:=by
  simp only[itRangeB,Bool.not_true,Bool.false_or,Bool.and_eq_false_iff,decide_eq_false_iff_not];omega
 rw[itErr,if_neg (formed_t h0 h1),if_pos h2]
theorem itErr_t0 (h0:0≤bi) (h1:bi≤2) (h:0≤le∧le≤100∧1≤we∧we≤1048576):(0:Int)=itErr ⟨nm,true,false,false,we,bi,le⟩:=by
 have h2:¬ itRangeB ⟨nm,true,false,false,we,bi,le⟩=false:=by simp[itRangeB,h.1,h.2.1,h.2.2.1,h.2.2.2]
 rw[itErr,if_neg (formed_t h0 h1),if_neg h2]
end
theorem ret_int {k:IntKind} {a b:Int} (h:a=b):Ending.returned (.int k a)=.returned (.int k b):=by rw[h]
set_option maxRecDepth 100000 in
set_option maxHeartbeats 1000000 in
theorem item_error (t:It) (w:World):Calls Tryz.prog 90 #[t.val] w fun e w'=>e=.returned (.int .i64 (itErr t))∧Below w.heap.size w w':=by
 obtain⟨nm,ob,mi,co,we,bi,le⟩:=t;cases ob
 ·by_cases h:we=0∧bi=0∧le=0
  ·obtain⟨rfl,rfl,rfl⟩:=h;have HV:Hid ((0:Int)=itErr ⟨nm,false,mi,co,0,0,0⟩):=itErr_f0;go_enter Tryz.func90,Tryz.ntmps90;go_wp2
   all_goals (go_ret;refine⟨?_,(Below.refl _ _).alloc (Nat.le_refl _) _⟩)
   all_goals exact ret_int HV.out
  ·have HV:Hid ((1:Int)=itErr ⟨nm,false,mi,co,we,bi,le⟩):=itErr_f1 h;by_cases h1:we=0
   ·by_cases h2:bi=0
    ·have h3:(le == 0)=false:=by simp;omega
     subst h1 h2;clear h;go_enter Tryz.func90,Tryz.ntmps90;go_wp2
     all_goals (go_ret;refine⟨?_,(Below.refl _ _).alloc (Nat.le_refl _) _⟩)
     all_goals exact ret_int HV.out
    ·have h3:(bi == 0)=false:=by simpa using h2
     subst h1;clear h h2;go_enter Tryz.func90,Tryz.ntmps90;go_wp2
     all_goals (go_ret;refine⟨?_,(Below.refl _ _).alloc (Nat.le_refl _) _⟩)
     all_goals exact ret_int HV.out
   ·have h3:(we == 0)=false:=by simpa using h1
    clear h h1;go_enter Tryz.func90,Tryz.ntmps90;go_wp2
    all_goals (go_ret;refine⟨?_,(Below.refl _ _).alloc (Nat.le_refl _) _⟩)
    all_goals exact ret_int HV.out
 ·cases mi
  ·cases co
   ·go_enter Tryz.func90,Tryz.ntmps90;go_wp2
    all_goals (go_ret;refine⟨?_,(Below.refl _ _).alloc (Nat.le_refl _) _⟩)
    all_goals first
     | exact ret_int (itErr_t0 (by omega) (by omega) (by omega))
     | exact ret_int (itErr_t5 (by omega) (by omega) (by omega))
     | exact ret_int (itErr_t1 (.inr (.inr (by omega))))
     | skip
   ·go_enter Tryz.func90,Tryz.ntmps90;go_wp2
    all_goals (go_ret;refine⟨?_,(Below.refl _ _).alloc (Nat.le_refl _) _⟩)
    all_goals exact ret_int (itErr_t1 (by simp))
  ·go_enter Tryz.func90,Tryz.ntmps90;go_wp2
   all_goals (go_ret;refine⟨?_,(Below.refl _ _).alloc (Nat.le_refl _) _⟩)
   all_goals exact ret_int (itErr_t1 (by simp))
end
/-- Whether the form is violated, by the first k amounts that come back too. -/
def rfTo (r:RuM) (k:Nat):Bool:=!(ruFormed r && contTo r.take r.back k)
theorem rfTo_succ (r:RuM) (k:Nat):rfTo r (k+1)=(rfTo r k || decide (unitsW r.take (itemK r.back k) r.take.length<unitsW r.back (itemK r.back k) r.back.length)):=by
 simp only[rfTo,contTo];rw[← not_le_dec];cases ruFormed r <;> cases contTo r.take r.back k <;> simp
def form0 (nt nb:Nat) (sp:Bool) (le ti ch of_:Int):Bool :=
 if sp then decide ((0:Int)<nt) || decide ((0:Int)<nb) || (le != 0) || (ti != 0) || (ch != of_) else((nt:Int) == 0) && (ti == 0)
theorem natbeq (n:Nat):(n == 0)=((n:Int) == 0):=by
 rcases Nat.eq_zero_or_pos n with rfl|h
 ·rfl
 ·have a:(n == 0)=false:=by simp;omega
  have b:((n:Int) == 0)=false:=by simp;omega
  rw[a,b]
theorem natlt (n:Nat):decide (0<n)=decide ((0:Int)<(n:Int)):=by
 by_cases h:0<n
 ·rw[decide_eq_true h,decide_eq_true (by omega)]
 ·rw[decide_eq_false h,decide_eq_false (by omega)]
theorem natpos (n:Nat):decide ((0:Int)<(n:Int)) = !((n:Int) == 0):=by
 rcases Nat.eq_zero_or_pos n with rfl|h
 ·rfl
 ·have b:((n:Int) == 0)=false:=by simp;omega
  rw[b,decide_eq_true (by omega)];rfl
theorem form0_eq (nt nb:Nat) (sp:Bool) (le ti ch of_:Int):(form0 nt nb sp le ti ch of_ || decide ((0:Int)<(nb:Int)) && (ch == of_)) = !formR nt nb sp le ti ch of_:=by
 unfold form0 formR;rw[natbeq,natbeq,natlt,natlt,natpos,natpos];have e1:(le != 0) = !(le == 0):=rfl;have e2:(ti != 0) = !(ti == 0):=rfl;have e3:(ch != of_) = !(ch == of_):=rfl;rw[e1,e2,e3];cases sp <;> cases((nt:Int) == 0) <;> cases((nb:Int) == 0) <;> cases(le == 0) <;> cases(ti == 0) <;> cases(ch == of_) <;> rfl
set_option maxRecDepth 100000 in
set_option maxHeartbeats 2000000 in
theorem rule_errors (t : RuM) (w : World) (h : t.Ok w) :
 Calls Tryz.prog 91 #[t.val] w fun e w'=>e=.returned (.tuple #[.bool (!ruLim t),.bool (!(ruFormed t && contB t.take t.back)),.bool (!ruRange t)])∧Below w.heap.size w w':=by
 have h1:=h.take.len;have h2:=h.give.len;have h3:=h.back.len;have s1:=h.take.small;have s2:=h.give.small;have s3:=h.back.small;have HZ:Hid (rfTo t 0 = !ruFormed t):=by show _=_;simp[rfTo,contTo]
 have HE:Hid (rfTo t t.back.length = !(ruFormed t && contB t.take t.back)):=rfl;have HS:Hid (∀k,rfTo t (k+1)=(rfTo t k || decide (unitsW t.take (itemK t.back k) t.take.length<unitsW t.back (itemK t.back k) t.back.length))):=fun k=>rfTo_succ t k
 obtain⟨f,hf⟩:∃f,rfTo t=f:=⟨_,rfl⟩;rw[hf]at HZ HE HS;rw[← HE.out];clear hf HE;obtain⟨nm,sp,le,ti,ch,of_,tk,gv,bk,⟨At,nt,ct⟩,⟨Ag,ng,cg⟩,⟨Ab,nb,cb⟩⟩:=t;dsimp only at h1 h2 h3 s1 s2 s3 HZ HS;have HL:Hid ((!ruLim ⟨nm,sp,le,ti,ch,of_,tk,gv,bk,⟨At,nt,ct⟩,⟨Ag,ng,cg⟩,⟨Ab,nb,cb⟩⟩)=(decide ((64:Int)<(nt:Int)+(ng:Int)) || decide ((64:Int)<(nt:Int)+(nb:Int)))):=by
  show(!(decide (tk.length+gv.length≤64) && decide (tk.length+bk.length≤64)))=_;rw[← h1,← h2,← h3,Bool.not_and,not_le_nat,not_le_nat];have e1:decide (64<nt+ng)=decide ((64:Int)<(nt:Int)+(ng:Int)):=by
   by_cases e:64<nt+ng
   ·rw[decide_eq_true e,decide_eq_true (by omega)]
   ·rw[decide_eq_false e,decide_eq_false (by omega)]
  have e2:decide (64<nt+nb)=decide ((64:Int)<(nt:Int)+(nb:Int)):=by
   by_cases e:64<nt+nb
   ·rw[decide_eq_true e,decide_eq_true (by omega)]
   ·rw[decide_eq_false e,decide_eq_false (by omega)]
  rw[e1,e2]
 have HF:Hid (f 0=(form0 nt nb sp le ti ch of_ || decide ((0:Int)<(nb:Int)) && (ch == of_))):=by
  show f 0=_;rw[HZ.out,form0_eq,h1,h3];rfl
 have HR:Hid ((!ruRange ⟨nm,sp,le,ti,ch,of_,tk,gv,bk,⟨At,nt,ct⟩,⟨Ag,ng,cg⟩,⟨Ab,nb,cb⟩⟩)=(decide (le<0) || decide (100<le) || decide (ti<0) || decide (1000000<ti) || decide (of_<1) || decide (1000000<of_) || decide (ch<1) || decide (of_<ch))):=by
  show(!(decide (0≤le) && decide (le≤100) && decide (0≤ti) && decide (ti≤1000000) && decide (1≤of_) && decide (of_≤1000000) && decide (1≤ch) && decide (ch≤of_)))=_;simp only[Bool.not_and,not_le_dec]
 generalize(!ruLim ⟨nm,sp,le,ti,ch,of_,tk,gv,bk,⟨At,nt,ct⟩,⟨Ag,ng,cg⟩,⟨Ab,nb,cb⟩⟩)=LM at *;generalize(!ruRange ⟨nm,sp,le,ti,ch,of_,tk,gv,bk,⟨At,nt,ct⟩,⟨Ag,ng,cg⟩,⟨Ab,nb,cb⟩⟩)=RG at *;have X0:Below w.heap.size w (w.alloc (.cells #[.string nm,.bool sp,.int .i64 le,.int .i64 ti,.int .i64 ch,.int .i64 of_,.slice At nt ct,.slice Ag ng cg,.slice Ab nb cb] 103)):=(Below.refl _ _).alloc (Nat.le_refl _) _;have kb:Bk (w.alloc (.cells #[.string nm,.bool sp,.int .i64 le,.int .i64 ti,.int .i64 ch,.int .i64 of_,.slice At nt ct,.slice Ag ng cg,.slice Ab nb cb] 103)) w.heap.size 103 [.string nm,.bool sp,.int .i64 le,.int .i64 ti,.int .i64 ch,.int .i64 of_,.slice At nt ct,.slice Ag ng cg,.slice Ab nb cb]:=Bk.new w 103 _;have HT:=Lib.hid (h.take.below X0);have HB:=Lib.hid (h.back.below X0);have HX:=Lib.hid X0;have Hn1:=Lib.hid h1;have Hn3:=Lib.hid h3;dsimp only at HT HB;clear h h1 h2 h3 HZ X0;generalize hW0:w.alloc (.cells #[.string nm,.bool sp,.int .i64 le,.int .i64 ti,.int .i64 ch,.int .i64 of_,.slice At nt ct,.slice Ag ng cg,.slice Ab nb cb] 103)=W0 at HT HB HX kb;have b1:W0.cell? ⟨w.heap.size,1,none⟩=some (.bool sp):=kb.cell 1;have b2:W0.cell? ⟨w.heap.size,2,none⟩=some (.int .i64 le):=kb.cell 2;have b3:W0.cell? ⟨w.heap.size,3,none⟩=some (.int .i64 ti):=kb.cell 3;have b4:W0.cell? ⟨w.heap.size,4,none⟩=some (.int .i64 ch):=kb.cell 4;have b5:W0.cell? ⟨w.heap.size,5,none⟩=some (.int .i64 of_):=kb.cell 5;have b6:W0.cell? ⟨w.heap.size,6,none⟩=some (.slice At nt ct):=kb.cell 6;have b7:W0.cell? ⟨w.heap.size,7,none⟩=some (.slice Ag ng cg):=kb.cell 7;have b8:W0.cell? ⟨w.heap.size,8,none⟩=some (.slice Ab nb cb):=kb.cell 8;have hl:=kb.lt;clear kb;go_enter Tryz.func91,Tryz.ntmps91;go_upto_region 1 with fail;clear hW0;go_cut [5] (fun b wx=>b=.bool LM∧W0=wx)
 case first =>
  go_wp2
  all_goals go_meet
  all_goals exact⟨by rw[HL.out];(first | done | rfl | (simp;omega)),rfl⟩
 case rest =>
  obtain⟨rfl,rfl⟩:=hcut;clear HL;go_upto_region 2 with fail;go_cut [6] (fun b wx=>b=.bool (((nt:Int) == 0) && (ti == 0))∧W0=wx)
  case first =>
   cases hq:((nt:Int) == 0)
   ·go_wp2;go_meet;exact⟨by rw[hq];rfl,rfl⟩
   ·go_wp2;go_meet;exact⟨by rw[hq];rfl,rfl⟩
  case rest =>
   obtain⟨rfl,rfl⟩:=hcut;go_upto_if 37 with fail;go_cut [6] (fun b wx=>b=.bool (form0 nt nb sp le ti ch of_)∧W0=wx)
   case first =>
    have HV:Hid (form0 nt nb sp le ti ch of_=if sp then decide ((0:Int)<nt) || decide ((0:Int)<nb) || (le != 0) || (ti != 0) || (ch != of_) else((nt:Int) == 0) && (ti == 0)):=rfl;cases sp
    ·go_wp2;go_meet;exact⟨by rw[HV.out];rfl,rfl⟩
    ·cases qa:decide ((0:Int)<(nt:Int))
     ·have qa2:decide (0<nt)=false:=by rw[natlt];exact qa
      cases qb:decide ((0:Int)<(nb:Int))
      ·have qb2:decide (0<nb)=false:=by rw[natlt];exact qb
       cases qc:(le != 0)
       ·cases qd:(ti != 0)
        ·go_wp2;go_meet;exact⟨by rw[HV.out,qa,qb,qc,qd];rfl,rfl⟩
        ·go_wp2;go_meet;exact⟨by rw[HV.out,qa,qb,qc,qd];rfl,rfl⟩
       ·go_wp2;go_meet;exact⟨by rw[HV.out,qa,qb,qc];rfl,rfl⟩
      ·have qb2:decide (0<nb)=true:=by rw[natlt];exact qb
       go_wp2;go_meet;exact⟨by rw[HV.out,qa,qb];rfl,rfl⟩
     ·have qa2:decide (0<nt)=true:=by rw[natlt];exact qa
      go_wp2;go_meet;exact⟨by rw[HV.out,qa];rfl,rfl⟩
   case rest =>
    obtain⟨rfl,rfl⟩:=hcut;generalize form0 nt nb sp le ti ch of_=F0 at *;go_upto_region 5 with fail;go_cut [6] (fun b wx=>b=.bool (f 0)∧W0=wx)
    case first =>
     cases F0
     ·cases hq:decide ((0:Int)<(nb:Int))
      ·have hq2:decide (0<nb)=false:=by rw[natlt];exact hq
       go_wp2
       all_goals go_meet
       all_goals exact⟨by rw[HF.out,hq];rfl,rfl⟩
      ·have hq2:decide (0<nb)=true:=by rw[natlt];exact hq
       go_wp2
       all_goals go_meet
       all_goals exact⟨by rw[HF.out,hq];rfl,rfl⟩
     ·go_wp2
      all_goals go_meet
      all_goals exact⟨by rw[HF.out];rfl,rfl⟩
    case rest =>
     obtain⟨rfl,rfl⟩:=hcut;clear HF;go_wp2_with fail;go_loopw [6,7] (fun b i wr=>∃k:Nat,k≤nb∧i=.int .i64 k∧b=.bool (f k)∧Below W0.heap.size W0 wr) (fun _ i _=>nb-(intOf i).toNat)
     case atStart=>exact⟨0,Nat.zero_le _,rfl,rfl,Below.refl _ _⟩
     case round =>
      obtain⟨k,hk,rfl,rfl,hb⟩:=hrel;have d2:wr.cell? ⟨w.heap.size,2,none⟩=some (.int .i64 le):=(hb.cell (p:=⟨w.heap.size,2,none⟩) hl).trans b2;have d3:wr.cell? ⟨w.heap.size,3,none⟩=some (.int .i64 ti):=(hb.cell (p:=⟨w.heap.size,3,none⟩) hl).trans b3;have d4:wr.cell? ⟨w.heap.size,4,none⟩=some (.int .i64 ch):=(hb.cell (p:=⟨w.heap.size,4,none⟩) hl).trans b4;have d5:wr.cell? ⟨w.heap.size,5,none⟩=some (.int .i64 of_):=(hb.cell (p:=⟨w.heap.size,5,none⟩) hl).trans b5;have d6:wr.cell? ⟨w.heap.size,6,none⟩=some (.slice At nt ct):=(hb.cell (p:=⟨w.heap.size,6,none⟩) hl).trans b6;have d8:wr.cell? ⟨w.heap.size,8,none⟩=some (.slice Ab nb cb):=(hb.cell (p:=⟨w.heap.size,8,none⟩) hl).trans b8;have hl2:w.heap.size<wr.heap.size:=Nat.lt_of_lt_of_le hl hb.size;have HBL:=Lib.hid hb;clear b1 b2 b3 b4 b5 b6 b7 b8;by_cases hlt:k<nb
      ·have hkl:k<bk.length:=by have:=Hn3.out;omega
       have hs:=HS.out k;have e1:itemK bk k=bk[k].1:=by simp[itemK,hkl]
       rw[e1]at hs;have HS1:=Lib.hid hs;clear e1 hs;cases hf:f k
       ·rw[hf]at HS1;have K1:Hid (∀n,Calls Tryz.prog 114 #[.slice At nt ct,.int .i64 bk[k].1] (wr.drewN n) fun e w'=>e=.returned (.int .i64 (unitsW tk bk[k].1 tk.length))∧w'=wr.drewN n):=fun n =>
         (runits_any (s:=⟨At,nt,ct⟩) (HT.out.below (bel_drewN HBL.out n)) bk[k].1).mono fun _ _ ⟨a,b⟩=>⟨a,b.symm⟩
        have K2:Hid (∀n,Calls Tryz.prog 114 #[.slice Ab nb cb,.int .i64 bk[k].1] (wr.drewN n) fun e w'=>e=.returned (.int .i64 (unitsW bk bk[k].1 bk.length))∧w'=wr.drewN n):=fun n =>
         (runits_any (s:=⟨Ab,nb,cb⟩) (HB.out.below (bel_drewN HBL.out n)) bk[k].1).mono fun _ _ ⟨a,b⟩=>⟨a,b.symm⟩
        have hAt:=(HB.out.below hb).at_ k hkl;dsimp only at hAt;obtain⟨b,off,rfl,hbb,c0,c1⟩:=hAt;generalize bk[k]=p at *;obtain⟨x,y⟩:=p;dsimp only at *;clear hkl c1 hb;generalize unitsW tk x tk.length=U at *;generalize unitsW bk x bk.length=V at *;go_wp2_with fail;go_quiet ((go_at_call 114;first | (with_reducible exact Calls.quiet_of_same (K1.out _)) | (with_reducible exact Calls.quiet_of_same (K2.out _))));go_wp2;go_roundw
        case rel=>exact⟨k+1,by omega,by go_num,by rw[HS1.out];rfl,bel_drewN HBL.out _⟩
        case measure=>simp[intOf];omega
       ·have Hq:Hid (f (k+1)=true):=by show _=_;rw[HS1.out,hf];rfl
        clear HS1 hkl hb;go_wp2_with fail;go_quiet (fail);go_wp2;go_roundw
        case rel=>exact⟨k+1,by omega,by go_num,by rw[Hq.out],bel_drewN HBL.out _⟩
        case measure=>simp[intOf];omega
      ·obtain rfl:nb=k:=by omega
       have HFE:Hid (f bk.length=f nb):=by show _=_;rw[← Hn3.out]
       clear hb d6 HT HB HS;go_upto_region 10 with fail;go_cut [8] (fun b wx=>b=.bool RG∧wr=wx)
       case first =>
        cases q0:decide (le<0);rotate_left
        ·go_wp2;go_meet;exact⟨by rw[HR.out,q0];rfl,rfl⟩
        cases q1:decide (100<le);rotate_left
        ·go_wp2;go_meet;exact⟨by rw[HR.out,q0,q1];rfl,rfl⟩
        cases q2:decide (ti<0);rotate_left
        ·go_wp2;go_meet;exact⟨by rw[HR.out,q0,q1,q2];rfl,rfl⟩
        cases q3:decide (1000000<ti);rotate_left
        ·go_wp2;go_meet;exact⟨by rw[HR.out,q0,q1,q2,q3];rfl,rfl⟩
        cases q4:decide (of_<1);rotate_left
        ·go_wp2;go_meet;exact⟨by rw[HR.out,q0,q1,q2,q3,q4];rfl,rfl⟩
        cases q5:decide (1000000<of_);rotate_left
        ·go_wp2;go_meet;exact⟨by rw[HR.out,q0,q1,q2,q3,q4,q5];rfl,rfl⟩
        cases q6:decide (ch<1);rotate_left
        ·go_wp2;go_meet;exact⟨by rw[HR.out,q0,q1,q2,q3,q4,q5,q6];rfl,rfl⟩
        ·go_wp2;go_meet;exact⟨by rw[HR.out,q0,q1,q2,q3,q4,q5,q6];rfl,rfl⟩
       case rest =>
        obtain⟨rfl,rfl⟩:=hcut;go_wp2;rw[HFE.out];exact bodyPost_ret (v:=.tuple #[.bool LM,.bool (f nb),.bool RG]) (by simp[results,Tryz.results91,go_sem]) rfl ⟨rfl,HX.out.trans (HBL.out.mono HX.out.size)⟩
/-- A rule's form, for n items. -/
def wfR (n:Nat) (r:RuM):Bool:=sortB n r.take && sortB n r.give && sortB n r.back && ruFormed r && contB r.take r.back
def wfT (n:Nat) (t:TbM):Bool:=decide (0<t.rows.length) && (t.rows.all fun r=>sortB n r.give)
def wfX (t:TxM):Bool:=formedB t.brs
def wfC (m:CatM):Bool:=m.items.all itFormedB && m.rules.all (wfR m.items.length) && m.tables.all (wfT m.items.length) && m.taxes.all wfX
/-- The function 'sorted' in its box gs, over the items at gc. -/
structure SortedAt (w : World) (gs : Nat) (ni : Nat) : Prop where
 ex:∃gc Ai ci,gs<w.heap.size∧gc<w.heap.size∧w.cell? ⟨gs,0,none⟩=some (.func (.func 138) #[] #[.pointer (some ⟨gc,0,none⟩)])∧w.cell? ⟨gc,0,none⟩=some (.slice Ai ni ci)
theorem SortedAt.below {w w':World} {gs ni:Nat} (h:SortedAt w gs ni) (hb:Below w.heap.size w w'):SortedAt w' gs ni:=by
 obtain⟨gc,Ai,ci,h1,h2,h3,h4⟩:=h.ex;exact⟨gc,Ai,ci,Nat.lt_of_lt_of_le h1 hb.size,Nat.lt_of_lt_of_le h2 hb.size,(hb.cell (p:=⟨gs,0,none⟩) h1).trans h3,(hb.cell (p:=⟨gc,0,none⟩) h2).trans h4⟩
theorem ent138:∀(args:Array Value) (W:World),(callFunc 138 args).run Tryz.prog W=.ok (.enter 138 args) W:=enter_of Tryz.func138 (by kernel_rfl) rfl
theorem ent140:∀(args:Array Value) (W:World),(callFunc 140 args).run Tryz.prog W=.ok (.enter 140 args) W:=enter_of Tryz.func140 (by kernel_rfl) rfl
theorem ent143:∀(args:Array Value) (W:World),(callFunc 143 args).run Tryz.prog W=.ok (.enter 143 args) W:=enter_of Tryz.func143 (by kernel_rfl) rfl
theorem ent145:∀(args:Array Value) (W:World),(callFunc 145 args).run Tryz.prog W=.ok (.enter 145 args) W:=enter_of Tryz.func145 (by kernel_rfl) rfl
theorem ent146:∀(args:Array Value) (W:World),(callFunc 146 args).run Tryz.prog W=.ok (.enter 146 args) W:=enter_of Tryz.func146 (by kernel_rfl) rfl
set_option maxRecDepth 100000 in
set_option maxHeartbeats 2000000 in
theorem wf_ru (t:RuM) (w:World) (h:t.Ok w) {gs ni:Nat} (hs:SortedAt w gs ni):Calls Tryz.prog 140 #[t.val,.pointer (some ⟨gs,0,none⟩)] w fun e w'=>e=.returned (.bool (wfR ni t))∧Below w.heap.size w w':=by
 obtain⟨gc,Ai,ci,g1,g2,g3,g4⟩:=hs.ex;obtain⟨nm,sp,le,ti,ch,of_,tk,gv,bk,⟨At,nt,ct⟩,⟨Ag,ng,cg⟩,⟨Ab,nb,cb⟩⟩:=t;have X0:Below w.heap.size w (w.alloc (.cells #[.string nm,.bool sp,.int .i64 le,.int .i64 ti,.int .i64 ch,.int .i64 of_,.slice At nt ct,.slice Ag ng cg,.slice Ab nb cb] 103)):=(Below.refl _ _).alloc (Nat.le_refl _) _;have G0:=Below.refl (w.alloc (.cells #[.string nm,.bool sp,.int .i64 le,.int .i64 ti,.int .i64 ch,.int .i64 of_,.slice At nt ct,.slice Ag ng cg,.slice Ab nb cb] 103)).heap.size (w.alloc (.cells #[.string nm,.bool sp,.int .i64 le,.int .i64 ti,.int .i64 ch,.int .i64 of_,.slice At nt ct,.slice Ag ng cg,.slice Ab nb cb] 103));have K0:Hid (∀W,Below (w.alloc (.cells #[.string nm,.bool sp,.int .i64 le,.int .i64 ti,.int .i64 ch,.int .i64 of_,.slice At nt ct,.slice Ag ng cg,.slice Ab nb cb] 103)).heap.size (w.alloc (.cells #[.string nm,.bool sp,.int .i64 le,.int .i64 ti,.int .i64 ch,.int .i64 of_,.slice At nt ct,.slice Ag ng cg,.slice Ab nb cb] 103)) W→Calls Tryz.prog 138 #[.slice At nt ct,.pointer (some ⟨gc,0,none⟩)] W fun e w'=>e=.returned (.bool (sortB ni tk))∧Below W.heap.size W w'):=fun W hW=>sorted_any (s:=⟨At,nt,ct⟩) ((h.take.below X0).below hW) (Nat.lt_of_lt_of_le (Nat.lt_of_lt_of_le g2 X0.size) hW.size) ((hW.cell (p:=⟨gc,0,none⟩) (Nat.lt_of_lt_of_le g2 X0.size)).trans ((X0.cell (p:=⟨gc,0,none⟩) g2).trans g4))
 have K1:Hid (∀W,Below (w.alloc (.cells #[.string nm,.bool sp,.int .i64 le,.int .i64 ti,.int .i64 ch,.int .i64 of_,.slice At nt ct,.slice Ag ng cg,.slice Ab nb cb] 103)).heap.size (w.alloc (.cells #[.string nm,.bool sp,.int .i64 le,.int .i64 ti,.int .i64 ch,.int .i64 of_,.slice At nt ct,.slice Ag ng cg,.slice Ab nb cb] 103)) W→Calls Tryz.prog 138 #[.slice Ag ng cg,.pointer (some ⟨gc,0,none⟩)] W fun e w'=>e=.returned (.bool (sortB ni gv))∧Below W.heap.size W w'):=fun W hW=>sorted_any (s:=⟨Ag,ng,cg⟩) ((h.give.below X0).below hW) (Nat.lt_of_lt_of_le (Nat.lt_of_lt_of_le g2 X0.size) hW.size) ((hW.cell (p:=⟨gc,0,none⟩) (Nat.lt_of_lt_of_le g2 X0.size)).trans ((X0.cell (p:=⟨gc,0,none⟩) g2).trans g4))
 have K2:Hid (∀W,Below (w.alloc (.cells #[.string nm,.bool sp,.int .i64 le,.int .i64 ti,.int .i64 ch,.int .i64 of_,.slice At nt ct,.slice Ag ng cg,.slice Ab nb cb] 103)).heap.size (w.alloc (.cells #[.string nm,.bool sp,.int .i64 le,.int .i64 ti,.int .i64 ch,.int .i64 of_,.slice At nt ct,.slice Ag ng cg,.slice Ab nb cb] 103)) W→Calls Tryz.prog 138 #[.slice Ab nb cb,.pointer (some ⟨gc,0,none⟩)] W fun e w'=>e=.returned (.bool (sortB ni bk))∧Below W.heap.size W w'):=fun W hW=>sorted_any (s:=⟨Ab,nb,cb⟩) ((h.back.below X0).below hW) (Nat.lt_of_lt_of_le (Nat.lt_of_lt_of_le g2 X0.size) hW.size) ((hW.cell (p:=⟨gc,0,none⟩) (Nat.lt_of_lt_of_le g2 X0.size)).trans ((X0.cell (p:=⟨gc,0,none⟩) g2).trans g4))
 have K3:Hid (∀W,Below (w.alloc (.cells #[.string nm,.bool sp,.int .i64 le,.int .i64 ti,.int .i64 ch,.int .i64 of_,.slice At nt ct,.slice Ag ng cg,.slice Ab nb cb] 103)).heap.size (w.alloc (.cells #[.string nm,.bool sp,.int .i64 le,.int .i64 ti,.int .i64 ch,.int .i64 of_,.slice At nt ct,.slice Ag ng cg,.slice Ab nb cb] 103)) W→Calls Tryz.prog 141 #[.agg #[.string nm,.bool sp,.int .i64 le,.int .i64 ti,.int .i64 ch,.int .i64 of_,.slice At nt ct,.slice Ag ng cg,.slice Ab nb cb]] W fun e w'=>e=.returned (.bool (ruFormed ⟨nm,sp,le,ti,ch,of_,tk,gv,bk,⟨At,nt,ct⟩,⟨Ag,ng,cg⟩,⟨Ab,nb,cb⟩⟩))∧Below W.heap.size W w'):=fun W hW=>formed_ru ⟨nm,sp,le,ti,ch,of_,tk,gv,bk,⟨At,nt,ct⟩,⟨Ag,ng,cg⟩,⟨Ab,nb,cb⟩⟩ W ((h.keep (.below X0)).keep (.below hW))
 have K4:Hid (∀W,Below (w.alloc (.cells #[.string nm,.bool sp,.int .i64 le,.int .i64 ti,.int .i64 ch,.int .i64 of_,.slice At nt ct,.slice Ag ng cg,.slice Ab nb cb] 103)).heap.size (w.alloc (.cells #[.string nm,.bool sp,.int .i64 le,.int .i64 ti,.int .i64 ch,.int .i64 of_,.slice At nt ct,.slice Ag ng cg,.slice Ab nb cb] 103)) W→Calls Tryz.prog 142 #[.slice At nt ct,.slice Ab nb cb] W fun e w'=>e=.returned (.bool (contB tk bk))∧Below W.heap.size W w'):=fun W hW=>contains_any (st:=⟨At,nt,ct⟩) (sb:=⟨Ab,nb,cb⟩) ((h.take.below X0).below hW) ((h.back.below X0).below hW)
 have C:Hid (∀W,Below (w.alloc (.cells #[.string nm,.bool sp,.int .i64 le,.int .i64 ti,.int .i64 ch,.int .i64 of_,.slice At nt ct,.slice Ag ng cg,.slice Ab nb cb] 103)).heap.size (w.alloc (.cells #[.string nm,.bool sp,.int .i64 le,.int .i64 ti,.int .i64 ch,.int .i64 of_,.slice At nt ct,.slice Ag ng cg,.slice Ab nb cb] 103)) W→W.cell? ⟨gs,0,none⟩=some (.func (.func 138) #[] #[.pointer (some ⟨gc,0,none⟩)])):=fun W hW=>(hW.cell (p:=⟨gs,0,none⟩) (Nat.lt_of_lt_of_le g1 X0.size)).trans ((X0.cell (p:=⟨gs,0,none⟩) g1).trans g3)
 have B0:Hid (∀W,Below (w.alloc (.cells #[.string nm,.bool sp,.int .i64 le,.int .i64 ti,.int .i64 ch,.int .i64 of_,.slice At nt ct,.slice Ag ng cg,.slice Ab nb cb] 103)).heap.size (w.alloc (.cells #[.string nm,.bool sp,.int .i64 le,.int .i64 ti,.int .i64 ch,.int .i64 of_,.slice At nt ct,.slice Ag ng cg,.slice Ab nb cb] 103)) W→W.cell? ⟨w.heap.size,0,none⟩=some (.string nm)):=fun W hW=>(hW.cell (p:=⟨w.heap.size,0,none⟩) (by simp)).trans ((Bk.new w 103 [.string nm,.bool sp,.int .i64 le,.int .i64 ti,.int .i64 ch,.int .i64 of_,.slice At nt ct,.slice Ag ng cg,.slice Ab nb cb]).cell 0)
 have B1:Hid (∀W,Below (w.alloc (.cells #[.string nm,.bool sp,.int .i64 le,.int .i64 ti,.int .i64 ch,.int .i64 of_,.slice At nt ct,.slice Ag ng cg,.slice Ab nb cb] 103)).heap.size (w.alloc (.cells #[.string nm,.bool sp,.int .i64 le,.int .i64 ti,.int .i64 ch,.int .i64 of_,.slice At nt ct,.slice Ag ng cg,.slice Ab nb cb] 103)) W→W.cell? ⟨w.heap.size,1,none⟩=some (.bool sp)):=fun W hW=>(hW.cell (p:=⟨w.heap.size,1,none⟩) (by simp)).trans ((Bk.new w 103 [.string nm,.bool sp,.int .i64 le,.int .i64 ti,.int .i64 ch,.int .i64 of_,.slice At nt ct,.slice Ag ng cg,.slice Ab nb cb]).cell 1)
 have B2:Hid (∀W,Below (w.alloc (.cells #[.string nm,.bool sp,.int .i64 le,.int .i64 ti,.int .i64 ch,.int .i64 of_,.slice At nt ct,.slice Ag ng cg,.slice Ab nb cb] 103)).heap.size (w.alloc (.cells #[.string nm,.bool sp,.int .i64 le,.int .i64 ti,.int .i64 ch,.int .i64 of_,.slice At nt ct,.slice Ag ng cg,.slice Ab nb cb] 103)) W→W.cell? ⟨w.heap.size,2,none⟩=some (.int .i64 le)):=fun W hW=>(hW.cell (p:=⟨w.heap.size,2,none⟩) (by simp)).trans ((Bk.new w 103 [.string nm,.bool sp,.int .i64 le,.int .i64 ti,.int .i64 ch,.int .i64 of_,.slice At nt ct,.slice Ag ng cg,.slice Ab nb cb]).cell 2)
 have B3:Hid (∀W,Below (w.alloc (.cells #[.string nm,.bool sp,.int .i64 le,.int .i64 ti,.int .i64 ch,.int .i64 of_,.slice At nt ct,.slice Ag ng cg,.slice Ab nb cb] 103)).heap.size (w.alloc (.cells #[.string nm,.bool sp,.int .i64 le,.int .i64 ti,.int .i64 ch,.int .i64 of_,.slice At nt ct,.slice Ag ng cg,.slice Ab nb cb] 103)) W→W.cell? ⟨w.heap.size,3,none⟩=some (.int .i64 ti)):=fun W hW=>(hW.cell (p:=⟨w.heap.size,3,none⟩) (by simp)).trans ((Bk.new w 103 [.string nm,.bool sp,.int .i64 le,.int .i64 ti,.int .i64 ch,.int .i64 of_,.slice At nt ct,.slice Ag ng cg,.slice Ab nb cb]).cell 3)
 have B4:Hid (∀W,Below (w.alloc (.cells #[.string nm,.bool sp,.int .i64 le,.int .i64 ti,.int .i64 ch,.int .i64 of_,.slice At nt ct,.slice Ag ng cg,.slice Ab nb cb] 103)).heap.size (w.alloc (.cells #[.string nm,.bool sp,.int .i64 le,.int .i64 ti,.int .i64 ch,.int .i64 of_,.slice At nt ct,.slice Ag ng cg,.slice Ab nb cb] 103)) W→W.cell? ⟨w.heap.size,4,none⟩=some (.int .i64 ch)):=fun W hW=>(hW.cell (p:=⟨w.heap.size,4,none⟩) (by simp)).trans ((Bk.new w 103 [.string nm,.bool sp,.int .i64 le,.int .i64 ti,.int .i64 ch,.int .i64 of_,.slice At nt ct,.slice Ag ng cg,.slice Ab nb cb]).cell 4)
 have B5:Hid (∀W,Below (w.alloc (.cells #[.string nm,.bool sp,.int .i64 le,.int .i64 ti,.int .i64 ch,.int .i64 of_,.slice At nt ct,.slice Ag ng cg,.slice Ab nb cb] 103)).heap.size (w.alloc (.cells #[.string nm,.bool sp,.int .i64 le,.int .i64 ti,.int .i64 ch,.int .i64 of_,.slice At nt ct,.slice Ag ng cg,.slice Ab nb cb] 103)) W→W.cell? ⟨w.heap.size,5,none⟩=some (.int .i64 of_)):=fun W hW=>(hW.cell (p:=⟨w.heap.size,5,none⟩) (by simp)).trans ((Bk.new w 103 [.string nm,.bool sp,.int .i64 le,.int .i64 ti,.int .i64 ch,.int .i64 of_,.slice At nt ct,.slice Ag ng cg,.slice Ab nb cb]).cell 5)
 have B6:Hid (∀W,Below (w.alloc (.cells #[.string nm,.bool sp,.int .i64 le,.int .i64 ti,.int .i64 ch,.int .i64 of_,.slice At nt ct,.slice Ag ng cg,.slice Ab nb cb] 103)).heap.size (w.alloc (.cells #[.string nm,.bool sp,.int .i64 le,.int .i64 ti,.int .i64 ch,.int .i64 of_,.slice At nt ct,.slice Ag ng cg,.slice Ab nb cb] 103)) W→W.cell? ⟨w.heap.size,6,none⟩=some (.slice At nt ct)):=fun W hW=>(hW.cell (p:=⟨w.heap.size,6,none⟩) (by simp)).trans ((Bk.new w 103 [.string nm,.bool sp,.int .i64 le,.int .i64 ti,.int .i64 ch,.int .i64 of_,.slice At nt ct,.slice Ag ng cg,.slice Ab nb cb]).cell 6)
 have B7:Hid (∀W,Below (w.alloc (.cells #[.string nm,.bool sp,.int .i64 le,.int .i64 ti,.int .i64 ch,.int .i64 of_,.slice At nt ct,.slice Ag ng cg,.slice Ab nb cb] 103)).heap.size (w.alloc (.cells #[.string nm,.bool sp,.int .i64 le,.int .i64 ti,.int .i64 ch,.int .i64 of_,.slice At nt ct,.slice Ag ng cg,.slice Ab nb cb] 103)) W→W.cell? ⟨w.heap.size,7,none⟩=some (.slice Ag ng cg)):=fun W hW=>(hW.cell (p:=⟨w.heap.size,7,none⟩) (by simp)).trans ((Bk.new w 103 [.string nm,.bool sp,.int .i64 le,.int .i64 ti,.int .i64 ch,.int .i64 of_,.slice At nt ct,.slice Ag ng cg,.slice Ab nb cb]).cell 7)
 have B8:Hid (∀W,Below (w.alloc (.cells #[.string nm,.bool sp,.int .i64 le,.int .i64 ti,.int .i64 ch,.int .i64 of_,.slice At nt ct,.slice Ag ng cg,.slice Ab nb cb] 103)).heap.size (w.alloc (.cells #[.string nm,.bool sp,.int .i64 le,.int .i64 ti,.int .i64 ch,.int .i64 of_,.slice At nt ct,.slice Ag ng cg,.slice Ab nb cb] 103)) W→W.cell? ⟨w.heap.size,8,none⟩=some (.slice Ab nb cb)):=fun W hW=>(hW.cell (p:=⟨w.heap.size,8,none⟩) (by simp)).trans ((Bk.new w 103 [.string nm,.bool sp,.int .i64 le,.int .i64 ti,.int .i64 ch,.int .i64 of_,.slice At nt ct,.slice Ag ng cg,.slice Ab nb cb]).cell 8)
 have HV:Hid (wfR ni ⟨nm,sp,le,ti,ch,of_,tk,gv,bk,⟨At,nt,ct⟩,⟨Ag,ng,cg⟩,⟨Ab,nb,cb⟩⟩=(sortB ni tk && sortB ni gv && sortB ni bk && ruFormed ⟨nm,sp,le,ti,ch,of_,tk,gv,bk,⟨At,nt,ct⟩,⟨Ag,ng,cg⟩,⟨Ab,nb,cb⟩⟩ && contB tk bk)):=rfl;generalize wfR ni ⟨nm,sp,le,ti,ch,of_,tk,gv,bk,⟨At,nt,ct⟩,⟨Ag,ng,cg⟩,⟨Ab,nb,cb⟩⟩=R at *;generalize ruFormed ⟨nm,sp,le,ti,ch,of_,tk,gv,bk,⟨At,nt,ct⟩,⟨Ag,ng,cg⟩,⟨Ab,nb,cb⟩⟩=q3 at *;generalize sortB ni tk=q0 at *;generalize sortB ni gv=q1 at *;generalize sortB ni bk=q2 at *;generalize contB tk bk=q4 at *;have ce:=ent138;clear h;go_enter Tryz.func140,Tryz.ntmps140;go_wp2_with fail;(with_reducible refine(K0.out _ G0).mono ?_);rintro e w1 ⟨rfl,hb1⟩;have G1:=G0.trans (hb1.mono G0.size);have X1:=X0.trans (hb1.mono X0.size);have z1:=G1.size;simp only[World.size_alloc]at z1;have s1_0:=C.out _ G1;have s1_1:=B0.out _ G1;have s1_2:=B1.out _ G1;have s1_3:=B2.out _ G1;have s1_4:=B3.out _ G1;have s1_5:=B4.out _ G1;have s1_6:=B5.out _ G1;have s1_7:=B6.out _ G1;have s1_8:=B7.out _ G1;have s1_9:=B8.out _ G1;clear hb1;cases q0
 ·go_wp2;go_ret;exact⟨by rw[HV.out];rfl,X1⟩
 ·skip
  go_wp2_with fail;(with_reducible refine(K1.out _ G1).mono ?_);rintro e w2 ⟨rfl,hb2⟩;have G2:=G1.trans (hb2.mono G1.size);have X2:=X1.trans (hb2.mono X1.size);have z2:=G2.size;simp only[World.size_alloc]at z2;clear s1_0;have s2_0:=C.out _ G2;clear s1_1;have s2_1:=B0.out _ G2;clear s1_2;have s2_2:=B1.out _ G2;clear s1_3;have s2_3:=B2.out _ G2;clear s1_4;have s2_4:=B3.out _ G2;clear s1_5;have s2_5:=B4.out _ G2;clear s1_6;have s2_6:=B5.out _ G2;clear s1_7;have s2_7:=B6.out _ G2;clear s1_8;have s2_8:=B7.out _ G2;clear s1_9;have s2_9:=B8.out _ G2;clear hb2;cases q1
  ·go_wp2;go_ret;exact⟨by rw[HV.out];rfl,X2⟩
  ·skip
   go_wp2_with fail;(with_reducible refine(K2.out _ G2).mono ?_);rintro e w3 ⟨rfl,hb3⟩;have G3:=G2.trans (hb3.mono G2.size);have X3:=X2.trans (hb3.mono X2.size);have z3:=G3.size;simp only[World.size_alloc]at z3;clear s2_0;have s3_0:=C.out _ G3;clear s2_1;have s3_1:=B0.out _ G3;clear s2_2;have s3_2:=B1.out _ G3;clear s2_3;have s3_3:=B2.out _ G3;clear s2_4;have s3_4:=B3.out _ G3;clear s2_5;have s3_5:=B4.out _ G3;clear s2_6;have s3_6:=B5.out _ G3;clear s2_7;have s3_7:=B6.out _ G3;clear s2_8;have s3_8:=B7.out _ G3;clear s2_9;have s3_9:=B8.out _ G3;clear hb3;cases q2
   ·go_wp2;go_ret;exact⟨by rw[HV.out];rfl,X3⟩
   ·skip
    go_wp2_with fail;(with_reducible refine(K3.out _ G3).mono ?_);rintro e w4 ⟨rfl,hb4⟩;have G4:=G3.trans (hb4.mono G3.size);have X4:=X3.trans (hb4.mono X3.size);have z4:=G4.size;simp only[World.size_alloc]at z4;clear s3_0;have s4_0:=C.out _ G4;clear s3_1;have s4_1:=B0.out _ G4;clear s3_2;have s4_2:=B1.out _ G4;clear s3_3;have s4_3:=B2.out _ G4;clear s3_4;have s4_4:=B3.out _ G4;clear s3_5;have s4_5:=B4.out _ G4;clear s3_6;have s4_6:=B5.out _ G4;clear s3_7;have s4_7:=B6.out _ G4;clear s3_8;have s4_8:=B7.out _ G4;clear s3_9;have s4_9:=B8.out _ G4;clear hb4;cases q3
    ·go_wp2;go_ret;exact⟨by rw[HV.out];rfl,X4⟩
    ·skip
     go_wp2_with fail;(with_reducible refine(K4.out _ G4).mono ?_);rintro e w5 ⟨rfl,hb5⟩;have G5:=G4.trans (hb5.mono G4.size);have X5:=X4.trans (hb5.mono X4.size);have z5:=G5.size;simp only[World.size_alloc]at z5;clear s4_0;have s5_0:=C.out _ G5;clear s4_1;have s5_1:=B0.out _ G5;clear s4_2;have s5_2:=B1.out _ G5;clear s4_3;have s5_3:=B2.out _ G5;clear s4_4;have s5_4:=B3.out _ G5;clear s4_5;have s5_5:=B4.out _ G5;clear s4_6;have s5_6:=B5.out _ G5;clear s4_7;have s5_7:=B6.out _ G5;clear s4_8;have s5_8:=B7.out _ G5;clear s4_9;have s5_9:=B8.out _ G5;clear hb5;cases q4
     ·go_wp2;go_ret;exact⟨by rw[HV.out];rfl,X5⟩
     ·go_wp2;go_ret;exact⟨by rw[HV.out];rfl,X5⟩
set_option maxHeartbeats 1000000 in
theorem wf_rw (t:RwM) (w:World) (h:t.Ok w) {gs ni:Nat} (hs:SortedAt w gs ni):Calls Tryz.prog 145 #[t.val,.pointer (some ⟨gs,0,none⟩)] w fun e w'=>e=.returned (.bool (sortB ni t.give))∧Below w.heap.size w w':=by
 obtain⟨gc,Ai,ci,g1,g2,g3,g4⟩:=hs.ex;obtain⟨x,gv,⟨Ag,ng,cg⟩⟩:=t;have X0:Below w.heap.size w (w.alloc (.cells #[.int .i64 x,.slice Ag ng cg] 109)):=(Below.refl _ _).alloc (Nat.le_refl _) _;have hp:PrV w 136 ⟨Ag,ng,cg⟩ gv:=h;have K0:=Lib.hid (sorted_any (hp.below X0) (Nat.lt_of_lt_of_le g2 X0.size) ((X0.cell (p:=⟨gc,0,none⟩) g2).trans g4));dsimp only at K0⊢;generalize sortB ni gv=q at *;have ce:=ent138;clear h hp;go_enter Tryz.func145,Tryz.ntmps145;go_wp2_with fail;refine K0.out.mono ?_;rintro e w1 ⟨rfl,hb1⟩;go_wp2;go_ret;exact⟨rfl,X0.trans (hb1.mono (by simp))⟩
theorem ev145 {w:World} {s:Sl} {l:List RwM} (h:RowsV w s l) {gs ni:Nat} (hs:SortedAt w gs ni):Calls Tryz.prog 144 #[.slice s.A s.n s.c,.func (.func 145) #[] #[.pointer (some ⟨gs,0,none⟩)]] w fun e w'=>e=.returned (.bool (l.all fun r=>sortB ni r.give))∧Below w.heap.size w w':=by
 refine every_rw 145 #[.pointer (some ⟨gs,0,none⟩)] ent145 (fun r=>sortB ni r.give) h ?_;intro t U ht hU;exact wf_rw t U (PrV.below (h.each t ht) hU) (hs.below hU)
set_option maxHeartbeats 1000000 in
theorem wf_tb (t:TbM) (w:World) (h:t.Ok w) {gs ni:Nat} (hs:SortedAt w gs ni):Calls Tryz.prog 143 #[t.val,.pointer (some ⟨gs,0,none⟩)] w fun e w'=>e=.returned (.bool (wfT ni t))∧Below w.heap.size w w':=by
 have hl:=h.rows.len;have hsm:=h.rows.small;obtain⟨nm,rows,⟨A,n,c⟩⟩:=t;dsimp only at hl hsm;have X0:Below w.heap.size w (w.alloc (.cells #[.string nm,.slice A n c] 107)):=(Below.refl _ _).alloc (Nat.le_refl _) _;have HV:Hid (wfT ni ⟨nm,rows,⟨A,n,c⟩⟩=(decide (0<n) && (rows.all fun r=>sortB ni r.give))):=by show wfT ni _=_;rw[hl];rfl
 have K0:=Lib.hid (ev145 (h.rows.below X0) (hs.below X0));dsimp only at K0;generalize wfT ni ⟨nm,rows,⟨A,n,c⟩⟩=R at *;generalize(rows.all fun r=>sortB ni r.give)=q at *;clear h hl hs;by_cases a:0<n
 ·have a1:decide (0<n)=true:=decide_eq_true a;have a2:decide ((0:Int)<(n:Int))=true:=decide_eq_true (by omega);rw[a1]at HV;go_enter Tryz.func143,Tryz.ntmps143;go_wp2_with fail;refine K0.out.mono ?_;rintro e w1 ⟨rfl,hb1⟩;go_wp2;go_ret;exact⟨by rw[HV.out];rfl,X0.trans (hb1.mono (by simp))⟩
 ·have a1:decide (0<n)=false:=decide_eq_false a;have a2:decide ((0:Int)<(n:Int))=false:=decide_eq_false (by omega);rw[a1]at HV;go_enter Tryz.func143,Tryz.ntmps143;go_wp2;go_ret;exact⟨by rw[HV.out];rfl,X0⟩
theorem wf_tx (t:TxM) (w:World) (h:t.Ok w):Calls Tryz.prog 146 #[t.val] w fun e w'=>e=.returned (.bool (wfX t))∧Below w.heap.size w w' :=
 tax_formed t.name t.sb.A t.sb.n t.sb.c t.brs w h.brs.row.row h.brs.len (by have:=h.brs.small;omega)
theorem ev140 {w:World} {s:Sl} {l:List RuM} (h:RulesV w s l) {gs ni:Nat} (hs:SortedAt w gs ni):Calls Tryz.prog 118 #[.slice s.A s.n s.c,.func (.func 140) #[] #[.pointer (some ⟨gs,0,none⟩)]] w fun e w'=>e=.returned (.bool (l.all (wfR ni)))∧Below w.heap.size w w':=by
 refine every_ru 140 #[.pointer (some ⟨gs,0,none⟩)] ent140 (wfR ni) h ?_;intro t U ht hU;exact wf_ru t U ((h.each t ht).keep (.below hU)) (hs.below hU)
theorem ev143 {w:World} {s:Sl} {l:List TbM} (h:TablesV w s l) {gs ni:Nat} (hs:SortedAt w gs ni):Calls Tryz.prog 120 #[.slice s.A s.n s.c,.func (.func 143) #[] #[.pointer (some ⟨gs,0,none⟩)]] w fun e w'=>e=.returned (.bool (l.all (wfT ni)))∧Below w.heap.size w w':=by
 refine every_tb 143 #[.pointer (some ⟨gs,0,none⟩)] ent143 (wfT ni) h ?_;intro t U ht hU;exact wf_tb t U ⟨(h.each t ht).rows.below hU,(h.each t ht).name⟩ (hs.below hU)
theorem ev146 {w:World} {s:Sl} {l:List TxM} (h:TaxesV w s l):Calls Tryz.prog 122 #[.slice s.A s.n s.c,.func (.func 146) #[] #[]] w fun e w'=>e=.returned (.bool (l.all wfX))∧Below w.heap.size w w':=by
 refine every_tx 146 #[] ent146 wfX h ?_;intro t U ht hU;rw[app_nil];exact wf_tx t U ⟨(h.each t ht).brs.below hU,(h.each t ht).name⟩
set_option maxRecDepth 100000 in
set_option maxHeartbeats 2000000 in
theorem wfC_any {w:World} {m:CatM} (h:m.Ok w):Calls Tryz.prog 103 #[m.val] w fun e w'=>e=.returned (.bool (wfC m))∧Below w.heap.size w w':=by
 have hl:=h.items.len;obtain⟨items,rules,tables,taxes,⟨Ai,ni,ci⟩,⟨Ar,nr,cr⟩,⟨At,nt,ct⟩,⟨Ax,nx,cx⟩⟩:=m;dsimp only at hl;have X0:Below w.heap.size w ((w.alloc (.cells #[.slice Ai ni ci,.slice Ar nr cr,.slice At nt ct,.slice Ax nx cx] 28)).alloc (.cells #[.func (.func 138) #[] #[.pointer (some ⟨w.heap.size,0,none⟩)]] 197)):=((Below.refl _ _).alloc (Nat.le_refl _) _).alloc (by simp) _;have G0:=Below.refl ((w.alloc (.cells #[.slice Ai ni ci,.slice Ar nr cr,.slice At nt ct,.slice Ax nx cx] 28)).alloc (.cells #[.func (.func 138) #[] #[.pointer (some ⟨w.heap.size,0,none⟩)]] 197)).heap.size ((w.alloc (.cells #[.slice Ai ni ci,.slice Ar nr cr,.slice At nt ct,.slice Ax nx cx] 28)).alloc (.cells #[.func (.func 138) #[] #[.pointer (some ⟨w.heap.size,0,none⟩)]] 197));have HS:SortedAt ((w.alloc (.cells #[.slice Ai ni ci,.slice Ar nr cr,.slice At nt ct,.slice Ax nx cx] 28)).alloc (.cells #[.func (.func 138) #[] #[.pointer (some ⟨w.heap.size,0,none⟩)]] 197)) (w.heap.size+1) ni:=by
  refine⟨w.heap.size,Ai,ci,by simp,by simp;omega,?_,((Bk.new w 28 [.slice Ai ni ci,.slice Ar nr cr,.slice At nt ct,.slice Ax nx cx]).alloc _).cell 0⟩;have:=(Bk.new (w.alloc (.cells #[.slice Ai ni ci,.slice Ar nr cr,.slice At nt ct,.slice Ax nx cx] 28)) 197 [.func (.func 138) #[] #[.pointer (some ⟨w.heap.size,0,none⟩)]]).cell 0;rw[World.size_alloc]at this;exact this
 have K0:Hid (∀W,Below ((w.alloc (.cells #[.slice Ai ni ci,.slice Ar nr cr,.slice At nt ct,.slice Ax nx cx] 28)).alloc (.cells #[.func (.func 138) #[] #[.pointer (some ⟨w.heap.size,0,none⟩)]] 197)).heap.size ((w.alloc (.cells #[.slice Ai ni ci,.slice Ar nr cr,.slice At nt ct,.slice Ax nx cx] 28)).alloc (.cells #[.func (.func 138) #[] #[.pointer (some ⟨w.heap.size,0,none⟩)]] 197)) W→Calls Tryz.prog 124 #[.slice Ai ni ci,.func (.func 139) #[] #[]] W fun e w'=>e=.returned (.bool (items.all itFormedB))∧Below W.heap.size W w'):=fun W hW=>ev139 (s:=⟨Ai,ni,ci⟩) ((h.items.below X0).below hW)
 have K1:Hid (∀W,Below ((w.alloc (.cells #[.slice Ai ni ci,.slice Ar nr cr,.slice At nt ct,.slice Ax nx cx] 28)).alloc (.cells #[.func (.func 138) #[] #[.pointer (some ⟨w.heap.size,0,none⟩)]] 197)).heap.size ((w.alloc (.cells #[.slice Ai ni ci,.slice Ar nr cr,.slice At nt ct,.slice Ax nx cx] 28)).alloc (.cells #[.func (.func 138) #[] #[.pointer (some ⟨w.heap.size,0,none⟩)]] 197)) W→Calls Tryz.prog 118 #[.slice Ar nr cr,.func (.func 140) #[] #[.pointer (some ⟨w.heap.size+1,0,none⟩)]] W fun e w'=>e=.returned (.bool (rules.all (wfR ni)))∧Below W.heap.size W w'):=fun W hW=>ev140 (s:=⟨Ar,nr,cr⟩) ((h.rules.below X0).below hW) (HS.below hW)
 have K2:Hid (∀W,Below ((w.alloc (.cells #[.slice Ai ni ci,.slice Ar nr cr,.slice At nt ct,.slice Ax nx cx] 28)).alloc (.cells #[.func (.func 138) #[] #[.pointer (some ⟨w.heap.size,0,none⟩)]] 197)).heap.size ((w.alloc (.cells #[.slice Ai ni ci,.slice Ar nr cr,.slice At nt ct,.slice Ax nx cx] 28)).alloc (.cells #[.func (.func 138) #[] #[.pointer (some ⟨w.heap.size,0,none⟩)]] 197)) W→Calls Tryz.prog 120 #[.slice At nt ct,.func (.func 143) #[] #[.pointer (some ⟨w.heap.size+1,0,none⟩)]] W fun e w'=>e=.returned (.bool (tables.all (wfT ni)))∧Below W.heap.size W w'):=fun W hW=>ev143 (s:=⟨At,nt,ct⟩) ((h.tables.below X0).below hW) (HS.below hW)
 have K3:Hid (∀W,Below ((w.alloc (.cells #[.slice Ai ni ci,.slice Ar nr cr,.slice At nt ct,.slice Ax nx cx] 28)).alloc (.cells #[.func (.func 138) #[] #[.pointer (some ⟨w.heap.size,0,none⟩)]] 197)).heap.size ((w.alloc (.cells #[.slice Ai ni ci,.slice Ar nr cr,.slice At nt ct,.slice Ax nx cx] 28)).alloc (.cells #[.func (.func 138) #[] #[.pointer (some ⟨w.heap.size,0,none⟩)]] 197)) W→Calls Tryz.prog 122 #[.slice Ax nx cx,.func (.func 146) #[] #[]] W fun e w'=>e=.returned (.bool (taxes.all wfX))∧Below W.heap.size W w'):=fun W hW=>ev146 (s:=⟨Ax,nx,cx⟩) ((h.taxes.below X0).below hW)
 have B0:Hid (∀W,Below ((w.alloc (.cells #[.slice Ai ni ci,.slice Ar nr cr,.slice At nt ct,.slice Ax nx cx] 28)).alloc (.cells #[.func (.func 138) #[] #[.pointer (some ⟨w.heap.size,0,none⟩)]] 197)).heap.size ((w.alloc (.cells #[.slice Ai ni ci,.slice Ar nr cr,.slice At nt ct,.slice Ax nx cx] 28)).alloc (.cells #[.func (.func 138) #[] #[.pointer (some ⟨w.heap.size,0,none⟩)]] 197)) W→W.cell? ⟨w.heap.size,0,none⟩=some (.slice Ai ni ci)):=fun W hW=>(hW.cell (p:=⟨w.heap.size,0,none⟩) (by simp;omega)).trans (((Bk.new w 28 [.slice Ai ni ci,.slice Ar nr cr,.slice At nt ct,.slice Ax nx cx]).alloc _).cell 0)
 have B1:Hid (∀W,Below ((w.alloc (.cells #[.slice Ai ni ci,.slice Ar nr cr,.slice At nt ct,.slice Ax nx cx] 28)).alloc (.cells #[.func (.func 138) #[] #[.pointer (some ⟨w.heap.size,0,none⟩)]] 197)).heap.size ((w.alloc (.cells #[.slice Ai ni ci,.slice Ar nr cr,.slice At nt ct,.slice Ax nx cx] 28)).alloc (.cells #[.func (.func 138) #[] #[.pointer (some ⟨w.heap.size,0,none⟩)]] 197)) W→W.cell? ⟨w.heap.size,1,none⟩=some (.slice Ar nr cr)):=fun W hW=>(hW.cell (p:=⟨w.heap.size,1,none⟩) (by simp;omega)).trans (((Bk.new w 28 [.slice Ai ni ci,.slice Ar nr cr,.slice At nt ct,.slice Ax nx cx]).alloc _).cell 1)
 have B2:Hid (∀W,Below ((w.alloc (.cells #[.slice Ai ni ci,.slice Ar nr cr,.slice At nt ct,.slice Ax nx cx] 28)).alloc (.cells #[.func (.func 138) #[] #[.pointer (some ⟨w.heap.size,0,none⟩)]] 197)).heap.size ((w.alloc (.cells #[.slice Ai ni ci,.slice Ar nr cr,.slice At nt ct,.slice Ax nx cx] 28)).alloc (.cells #[.func (.func 138) #[] #[.pointer (some ⟨w.heap.size,0,none⟩)]] 197)) W→W.cell? ⟨w.heap.size,2,none⟩=some (.slice At nt ct)):=fun W hW=>(hW.cell (p:=⟨w.heap.size,2,none⟩) (by simp;omega)).trans (((Bk.new w 28 [.slice Ai ni ci,.slice Ar nr cr,.slice At nt ct,.slice Ax nx cx]).alloc _).cell 2)
 have B3:Hid (∀W,Below ((w.alloc (.cells #[.slice Ai ni ci,.slice Ar nr cr,.slice At nt ct,.slice Ax nx cx] 28)).alloc (.cells #[.func (.func 138) #[] #[.pointer (some ⟨w.heap.size,0,none⟩)]] 197)).heap.size ((w.alloc (.cells #[.slice Ai ni ci,.slice Ar nr cr,.slice At nt ct,.slice Ax nx cx] 28)).alloc (.cells #[.func (.func 138) #[] #[.pointer (some ⟨w.heap.size,0,none⟩)]] 197)) W→W.cell? ⟨w.heap.size,3,none⟩=some (.slice Ax nx cx)):=fun W hW=>(hW.cell (p:=⟨w.heap.size,3,none⟩) (by simp;omega)).trans (((Bk.new w 28 [.slice Ai ni ci,.slice Ar nr cr,.slice At nt ct,.slice Ax nx cx]).alloc _).cell 3)
 have HV:Hid (wfC ⟨items,rules,tables,taxes,⟨Ai,ni,ci⟩,⟨Ar,nr,cr⟩,⟨At,nt,ct⟩,⟨Ax,nx,cx⟩⟩=(items.all itFormedB && rules.all (wfR ni) && tables.all (wfT ni) && taxes.all wfX)):=by show wfC _=_;rw[hl];rfl
 generalize wfC ⟨items,rules,tables,taxes,⟨Ai,ni,ci⟩,⟨Ar,nr,cr⟩,⟨At,nt,ct⟩,⟨Ax,nx,cx⟩⟩=R at *;generalize items.all itFormedB=q0 at *;generalize rules.all (wfR ni)=q1 at *;generalize tables.all (wfT ni)=q2 at *;generalize taxes.all wfX=q3 at *;clear h HS hl;go_enter Tryz.func103,Tryz.ntmps103;go_wp2_with fail;(with_reducible refine(K0.out _ G0).mono ?_);rintro e w1 ⟨rfl,hb1⟩;have G1:=G0.trans (hb1.mono G0.size);have X1:=X0.trans (hb1.mono X0.size);have z1:=G1.size;simp only[World.size_alloc]at z1;have s1_0:=B0.out _ G1;have s1_1:=B1.out _ G1;have s1_2:=B2.out _ G1;have s1_3:=B3.out _ G1;clear hb1;cases q0
 ·go_wp2;go_ret;exact⟨by rw[HV.out];rfl,X1⟩
 ·skip
  go_wp2_with fail;(with_reducible refine(K1.out _ G1).mono ?_);rintro e w2 ⟨rfl,hb2⟩;have G2:=G1.trans (hb2.mono G1.size);have X2:=X1.trans (hb2.mono X1.size);have z2:=G2.size;simp only[World.size_alloc]at z2;clear s1_0;have s2_0:=B0.out _ G2;clear s1_1;have s2_1:=B1.out _ G2;clear s1_2;have s2_2:=B2.out _ G2;clear s1_3;have s2_3:=B3.out _ G2;clear hb2;cases q1
  ·go_wp2;go_ret;exact⟨by rw[HV.out];rfl,X2⟩
  ·skip
   go_wp2_with fail;(with_reducible refine(K2.out _ G2).mono ?_);rintro e w3 ⟨rfl,hb3⟩;have G3:=G2.trans (hb3.mono G2.size);have X3:=X2.trans (hb3.mono X2.size);have z3:=G3.size;simp only[World.size_alloc]at z3;clear s2_0;have s3_0:=B0.out _ G3;clear s2_1;have s3_1:=B1.out _ G3;clear s2_2;have s3_2:=B2.out _ G3;clear s2_3;have s3_3:=B3.out _ G3;clear hb3;cases q2
   ·go_wp2;go_ret;exact⟨by rw[HV.out];rfl,X3⟩
   ·skip
    go_wp2_with fail;(with_reducible refine(K3.out _ G3).mono ?_);rintro e w4 ⟨rfl,hb4⟩;have G4:=G3.trans (hb4.mono G3.size);have X4:=X3.trans (hb4.mono X3.size);have z4:=G4.size;simp only[World.size_alloc]at z4;clear s3_0;have s4_0:=B0.out _ G4;clear s3_1;have s4_1:=B1.out _ G4;clear s3_2;have s4_2:=B2.out _ G4;clear s3_3;have s4_3:=B3.out _ G4;clear hb4;cases q3
    ·go_wp2;go_ret;exact⟨by rw[HV.out];rfl,X4⟩
    ·go_wp2;go_ret;exact⟨by rw[HV.out];rfl,X4⟩
end Go.Proofs.YthjfdfdgbpbanaaGreatDoor

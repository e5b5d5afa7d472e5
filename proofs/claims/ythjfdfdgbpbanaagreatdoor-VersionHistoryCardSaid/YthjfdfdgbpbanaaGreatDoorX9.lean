/- The reference's names on any catalog. The reference's lists on any catalog. -/
import Derived.Test.YthjfdfdgbpbanaaGreatDoorX8
import Derived.Maps.AppendAt
import Derived.Deep.RegionHeld3
import Derived.Deep.AppendLies
set_option linter.unusedVariables false
set_option linter.unusedSimpArgs false
set_option maxRecDepth 100000
set_option maxHeartbeats 4000000
open Go.RowKit
namespace Go.Proofs.YthjfdfdgbpbanaaGreatDoor
def strs (l:List ByteArray):List Value:=l.map Value.string
theorem strs_snoc (l:List ByteArray) (s:ByteArray):strs (l ++ [s])=strs l ++ [.string s]:=by simp[strs]
theorem one1s (s:ByteArray):∀u∈([.string s]:List Value),u.oneCell'=true:=by
 intro u hu;simp only[List.mem_cons,List.not_mem_nil,or_false]at hu;rcases hu with rfl;rfl
theorem info9:(Tryz.prog.info? 9).map (fun i=>(i.zero,i.size,i.bytes))=some (some (.string ⟨#[]⟩),1,16):=by kernel_rfl
def NamesR (w:World) (m:CatM) (e:Ending) (w':World):Prop :=
 ∃g A0 c0 A1 c1 A2 c2 A3 c3,e=.returned (.slice (some ⟨g,0,none⟩) 4 4)∧Bk w' g 123 [.slice A0 m.items.length c0,.slice A1 m.rules.length c1,.slice A2 m.tables.length c2,.slice A3 m.taxes.length c3] ∧
  Row w' w'.heap.size A0 (strs (m.items.map It.name))∧Row w' w'.heap.size A1 (strs (m.rules.map RuM.name))∧Row w' w'.heap.size A2 (strs (m.tables.map TbM.name))∧Row w' w'.heap.size A3 (strs (m.taxes.map TxM.name))∧m.items.length<=c0∧m.rules.length<=c1∧m.tables.length<=c2∧m.taxes.length<=c3∧Below w.heap.size w w'
theorem own_cap {W:World} {base:Nat} {e:TypeId} {size n c:Nat} {A:Option Addr} {xs:List Value} (h:W.ownsRow base e size (.slice A n c) n xs):n<=c:=by
 rcases h.2 with ⟨hv,hn⟩|⟨g,cap,cur,hv,_,_,hc,_⟩
 ·omega
 ·cases hv;exact hc
theorem rnames_any {w : World} {m : CatM} (h : m.Ok w) : Calls Tryz.prog 87 #[m.val] w (NamesR w m) := by
 obtain⟨items,rules,tables,taxes,⟨Ai,ni,ci⟩,⟨Ar,nr,cr⟩,⟨At,nt,ct⟩,⟨Ax,nx,cx⟩⟩:=m;obtain⟨i0,hinf,hz0,hz1,hz2⟩:=info_parts info9;have X0:Below w.heap.size w (w.alloc (.cells #[.slice Ai ni ci,.slice Ar nr cr,.slice At nt ct,.slice Ax nx cx] 28)):=(Below.refl _ _).alloc (Nat.le_refl _) _;have k0:Bk (w.alloc (.cells #[.slice Ai ni ci,.slice Ar nr cr,.slice At nt ct,.slice Ax nx cx] 28)) w.heap.size 28 [.slice Ai ni ci,.slice Ar nr cr,.slice At nt ct,.slice Ax nx cx]:=Bk.new w 28 _;have HX:=iH X0;have HK0:=iH k0;have H:=iH (h.below X0);have Hn0:=iH h.items.len;have Hn1:=iH h.rules.len;have Hn2:=iH h.tables.len;have Hn3:=iH h.taxes.len;have sm0:=h.items.small;have sm1:=h.rules.small;have sm2:=h.tables.small;have sm3:=h.taxes.small;dsimp only at Hn0 Hn1 Hn2 Hn3 sm0 sm1 sm2 sm3;clear h k0 X0;generalize hW0:w.alloc (.cells #[.slice Ai ni ci,.slice Ar nr cr,.slice At nt ct,.slice Ax nx cx] 28)=W0 at H HX HK0;go_enter Tryz.func87,Tryz.ntmps87;go_wp2_with fail;(try rw[hW0]);clear hW0;have GB0:=iH (Below.refl W0.heap.size W0);go_loopw [3,7] (fun v i wr=>∃k:Nat,k<=ni∧i=.int .i64 k∧wr.ownsRow W0.heap.size 9 1 v k (strs ((items.map It.name).take k))∧Below W0.heap.size W0 wr) (fun _ i _=>ni-(intOf i).toNat)
 case atStart=>exact⟨0,Nat.zero_le _,rfl,World.ownsRow_nil _ _ _ _,Below.refl _ _⟩
 case round =>
  obtain⟨k,hk,rfl,hown,hb⟩:=hrel;have hsz:=hb.size;have GW:=GB0.out.trans (hb.mono GB0.out.size);have hk0:=HK0.out.lt;have bx:wr.cell? ⟨w.heap.size,0,none⟩=some (.slice Ai ni ci):=(GW.cell (p:=⟨w.heap.size,0,none⟩) hk0).trans (HK0.out.cell 0);have hwl:w.heap.size<wr.heap.size:=Nat.lt_of_lt_of_le hk0 GW.size;have HO:=iH hown;have HG:=iH GW;clear hown GW hk0;by_cases hlt:k<ni
  ·have hkl:k<items.length:=by have:=Hn0.out;omega
   have hAt:=(H.out.items.below HG.out).at_ k hkl;dsimp only at hAt;obtain⟨b,off,rfl,hbb,c0,_,_,_,_,_,_⟩:=hAt;have HT:=iH (name_take It.name items k hkl);generalize items[k]=it at *;clear hkl;go_wp2_with(at_builtin;refine wpList_append_own_at _ rfl _ _ 123 rfl W0.heap.size 9 i0 (.string ⟨#[]⟩) 1 16 Tryz.underlying123 hinf hz0 hz1 hz2 rfl (by decide) _ k (strs ((items.map It.name).take k)) rfl (HO.out.alloc _) ⟨wr.heap.size,0,none⟩ 1 1 [.string it.name] rfl rfl (new1 _ _ _) (one1s _) (by unfold maxLen;omega) (by omega) (by simp;omega) ?_);intro v' w1 hown' hgrow _ _;have hb1:Below W0.heap.size W0 w1:=(hb.alloc hsz _).grown hgrow (by simp;omega) (row_base HO.out);have HO1:=iH hown';clear hown' hgrow;go_wp2;go_roundw
   case rel=>exact⟨k+1,by omega,by go_num,by rw[HT.out,strs_snoc];exact HO1.out,hb1⟩
   case measure=>simp[intOf];omega
  ·obtain rfl : ni = k := by omega
   obtain⟨A0,c0,hv,hrow⟩:=row_of_owns HO.out;rw[List.take_of_length_le (by have:=Hn0.out;simp;omega)]at hrow;have cap0:ni<=c0:=own_cap (by rw[<- hv];exact HO.out);rw[hv];clear hv HO;obtain⟨W1,hW1⟩:∃W1,wr=W1:=⟨_,rfl⟩;rw[hW1]at hrow HG hb bx hwl hsz⊢;clear hW1;have GB1:=HG;have R0:=iH hrow;clear hrow hb HG;go_wp2_with fail;go_loopw [4,8] (fun v i wr=>∃k:Nat,k<=nr∧i=.int .i64 k∧wr.ownsRow W1.heap.size 9 1 v k (strs ((rules.map RuM.name).take k))∧Below W1.heap.size W1 wr) (fun _ i _=>nr-(intOf i).toNat)
   case atStart=>exact⟨0,Nat.zero_le _,rfl,World.ownsRow_nil _ _ _ _,Below.refl _ _⟩
   case round =>
    obtain⟨k,hk,rfl,hown,hb⟩:=hrel;have hsz:=hb.size;have GW:=GB1.out.trans (hb.mono GB1.out.size);have hk0:=HK0.out.lt;have bx:wr.cell? ⟨w.heap.size,1,none⟩=some (.slice Ar nr cr):=(GW.cell (p:=⟨w.heap.size,1,none⟩) hk0).trans (HK0.out.cell 1);have hwl:w.heap.size<wr.heap.size:=Nat.lt_of_lt_of_le hk0 GW.size;have HO:=iH hown;have HG:=iH GW;clear hown GW hk0;by_cases hlt:k<nr
    ·have hkl:k<rules.length:=by have:=Hn1.out;omega
     have hAt:=(H.out.rules.below HG.out).at_ k hkl;dsimp only at hAt;obtain⟨b,off,rfl,hbb,c0,_,_,_,_,_,_,_,_⟩:=hAt;have HT:=iH (name_take RuM.name rules k hkl);generalize rules[k]=it at *;clear hkl;go_wp2_with(at_builtin;refine wpList_append_own_at _ rfl _ _ 123 rfl W1.heap.size 9 i0 (.string ⟨#[]⟩) 1 16 Tryz.underlying123 hinf hz0 hz1 hz2 rfl (by decide) _ k (strs ((rules.map RuM.name).take k)) rfl (HO.out.alloc _) ⟨wr.heap.size,0,none⟩ 1 1 [.string it.name] rfl rfl (new1 _ _ _) (one1s _) (by unfold maxLen;omega) (by omega) (by simp;omega) ?_);intro v' w1 hown' hgrow _ _;have hb1:Below W1.heap.size W1 w1:=(hb.alloc hsz _).grown hgrow (by simp;omega) (row_base HO.out);have HO1:=iH hown';clear hown' hgrow;go_wp2;go_roundw
     case rel=>exact⟨k+1,by omega,by go_num,by rw[HT.out,strs_snoc];exact HO1.out,hb1⟩
     case measure=>simp[intOf];omega
    ·obtain rfl:nr=k:=by omega
     obtain⟨A1,c1,hv,hrow⟩:=row_of_owns HO.out;rw[List.take_of_length_le (by have:=Hn1.out;simp;omega)]at hrow;have cap1:nr<=c1:=own_cap (by rw[<- hv];exact HO.out);rw[hv];clear hv HO;obtain⟨W2,hW2⟩:∃W2,wr=W2:=⟨_,rfl⟩;rw[hW2]at hrow HG hb bx hwl hsz⊢;clear hW2;have GB2:=HG;have R1:=iH hrow;have R0':=iH ((R0.out.below hb).more hb.size);clear R0;have R0:=R0';clear R0';clear hrow hb HG;go_wp2_with fail;go_loopw [5,9] (fun v i wr=>∃k:Nat,k<=nt∧i=.int .i64 k∧wr.ownsRow W2.heap.size 9 1 v k (strs ((tables.map TbM.name).take k))∧Below W2.heap.size W2 wr) (fun _ i _=>nt-(intOf i).toNat)
     case atStart=>exact⟨0,Nat.zero_le _,rfl,World.ownsRow_nil _ _ _ _,Below.refl _ _⟩
     case round =>
      obtain⟨k,hk,rfl,hown,hb⟩:=hrel;have hsz:=hb.size;have GW:=GB2.out.trans (hb.mono GB2.out.size);have hk0:=HK0.out.lt;have bx:wr.cell? ⟨w.heap.size,2,none⟩=some (.slice At nt ct):=(GW.cell (p:=⟨w.heap.size,2,none⟩) hk0).trans (HK0.out.cell 2);have hwl:w.heap.size<wr.heap.size:=Nat.lt_of_lt_of_le hk0 GW.size;have HO:=iH hown;have HG:=iH GW;clear hown GW hk0;by_cases hlt:k<nt
      ·have hkl:k<tables.length:=by have:=Hn2.out;omega
       have hAt:=(H.out.tables.below HG.out).at_ k hkl;dsimp only at hAt;obtain⟨b,off,rfl,hbb,c0,_⟩:=hAt;have HT:=iH (name_take TbM.name tables k hkl);generalize tables[k]=it at *;clear hkl;go_wp2_with(at_builtin;refine wpList_append_own_at _ rfl _ _ 123 rfl W2.heap.size 9 i0 (.string ⟨#[]⟩) 1 16 Tryz.underlying123 hinf hz0 hz1 hz2 rfl (by decide) _ k (strs ((tables.map TbM.name).take k)) rfl (HO.out.alloc _) ⟨wr.heap.size,0,none⟩ 1 1 [.string it.name] rfl rfl (new1 _ _ _) (one1s _) (by unfold maxLen;omega) (by omega) (by simp;omega) ?_);intro v' w1 hown' hgrow _ _;have hb1:Below W2.heap.size W2 w1:=(hb.alloc hsz _).grown hgrow (by simp;omega) (row_base HO.out);have HO1:=iH hown';clear hown' hgrow;go_wp2;go_roundw
       case rel=>exact⟨k+1,by omega,by go_num,by rw[HT.out,strs_snoc];exact HO1.out,hb1⟩
       case measure=>simp[intOf];omega
      ·obtain rfl:nt=k:=by omega
       obtain⟨A2,c2,hv,hrow⟩:=row_of_owns HO.out;rw[List.take_of_length_le (by have:=Hn2.out;simp;omega)]at hrow;have cap2:nt<=c2:=own_cap (by rw[<- hv];exact HO.out);rw[hv];clear hv HO;obtain⟨W3,hW3⟩:∃W3,wr=W3:=⟨_,rfl⟩;rw[hW3]at hrow HG hb bx hwl hsz⊢;clear hW3;have GB3:=HG;have R2:=iH hrow;have R0':=iH ((R0.out.below hb).more hb.size);clear R0;have R0:=R0';clear R0';have R1':=iH ((R1.out.below hb).more hb.size);clear R1;have R1:=R1';clear R1';clear hrow hb HG;go_wp2_with fail;go_loopw [6,10] (fun v i wr=>∃k:Nat,k<=nx∧i=.int .i64 k∧wr.ownsRow W3.heap.size 9 1 v k (strs ((taxes.map TxM.name).take k))∧Below W3.heap.size W3 wr) (fun _ i _=>nx-(intOf i).toNat)
       case atStart=>exact⟨0,Nat.zero_le _,rfl,World.ownsRow_nil _ _ _ _,Below.refl _ _⟩
       case round =>
        obtain⟨k,hk,rfl,hown,hb⟩:=hrel;have hsz:=hb.size;have GW:=GB3.out.trans (hb.mono GB3.out.size);have hk0:=HK0.out.lt;have bx:wr.cell? ⟨w.heap.size,3,none⟩=some (.slice Ax nx cx):=(GW.cell (p:=⟨w.heap.size,3,none⟩) hk0).trans (HK0.out.cell 3);have hwl:w.heap.size<wr.heap.size:=Nat.lt_of_lt_of_le hk0 GW.size;have HO:=iH hown;have HG:=iH GW;clear hown GW hk0;by_cases hlt:k<nx
        ·have hkl:k<taxes.length:=by have:=Hn3.out;omega
         have hAt:=(H.out.taxes.below HG.out).at_ k hkl;dsimp only at hAt;obtain⟨b,off,rfl,hbb,c0,_⟩:=hAt;have HT:=iH (name_take TxM.name taxes k hkl);generalize taxes[k]=it at *;clear hkl;go_wp2_with(at_builtin;refine wpList_append_own_at _ rfl _ _ 123 rfl W3.heap.size 9 i0 (.string ⟨#[]⟩) 1 16 Tryz.underlying123 hinf hz0 hz1 hz2 rfl (by decide) _ k (strs ((taxes.map TxM.name).take k)) rfl (HO.out.alloc _) ⟨wr.heap.size,0,none⟩ 1 1 [.string it.name] rfl rfl (new1 _ _ _) (one1s _) (by unfold maxLen;omega) (by omega) (by simp;omega) ?_);intro v' w1 hown' hgrow _ _;have hb1:Below W3.heap.size W3 w1:=(hb.alloc hsz _).grown hgrow (by simp;omega) (row_base HO.out);have HO1:=iH hown';clear hown' hgrow;go_wp2;go_roundw
         case rel=>exact⟨k+1,by omega,by go_num,by rw[HT.out,strs_snoc];exact HO1.out,hb1⟩
         case measure=>simp[intOf];omega
        ·obtain rfl:nx=k:=by omega
         obtain⟨A3,c3,hv,hrow⟩:=row_of_owns HO.out;rw[List.take_of_length_le (by have:=Hn3.out;simp;omega)]at hrow;have cap3:nx<=c3:=own_cap (by rw[<- hv];exact HO.out);rw[hv];clear hv HO;obtain⟨W4,hW4⟩:∃W4,wr=W4:=⟨_,rfl⟩;rw[hW4]at hrow HG hb bx hwl hsz⊢;clear hW4;have GB4:=HG;have R3:=iH hrow;have R0':=iH ((R0.out.below hb).more hb.size);clear R0;have R0:=R0';clear R0';have R1':=iH ((R1.out.below hb).more hb.size);clear R1;have R1:=R1';clear R1';have R2':=iH ((R2.out.below hb).more hb.size);clear R2;have R2:=R2';clear R2';clear hrow hb HG;go_wp2_with fail;clear bx;go_ret;have bb:Below W4.heap.size W4 (W4.alloc (.cells #[.slice A0 ni c0,.slice A1 nr c1,.slice A2 nt c2,.slice A3 nx c3] 123)):=(Below.refl _ _).alloc (Nat.le_refl _) _;have e0:=Hn0.out;have e1:=Hn1.out;have e2:=Hn2.out;have e3:=Hn3.out;refine⟨W4.heap.size,A0,c0,A1,c1,A2,c2,A3,c3,rfl,?_,(R0.out.below bb).more bb.size,(R1.out.below bb).more bb.size,(R2.out.below bb).more bb.size,(R3.out.below bb).more bb.size,?_,?_,?_,?_,?_⟩
         ·dsimp only;rw[<- e0,<- e1,<- e2,<- e3];exact Bk.new W4 123 _
         ·dsimp only;omega
         ·dsimp only;omega
         ·dsimp only;omega
         ·dsimp only;omega
         ·exact(HX.out.trans (GB4.out.mono HX.out.size)).trans (bb.mono (Nat.le_trans HX.out.size GB4.out.size))
abbrev SL:=Sl×List P2
def lcells (l:List SL):List Value:=l.map fun p=>Value.slice p.1.A p.1.n p.1.c
theorem lcells_app (l m:List SL):lcells (l ++ m)=lcells l ++ lcells m:=by simp[lcells]
@[simp] theorem lcells_length (l : List SL) : (lcells l).length = l.length := by simp [lcells]
def rlists (l:List RuM):List SL:=l.flatMap fun r=>[(r.st,r.take),(r.sg,r.give),(r.sb,r.back)]
def wlists (l:List RwM):List SL:=l.map fun r=>(r.sg,r.give)
def tlists (l:List TbM):List SL:=l.flatMap fun t=>wlists t.rows
def listsOf (m:CatM):List SL:=rlists m.rules ++ tlists m.tables
theorem rlists_len (l:List RuM):(rlists l).length=3*l.length:=by
 induction l with
 | nil=>rfl
 | cons x l ih=>simp only[rlists,List.flatMap_cons,List.length_append,List.length_cons,List.length_nil]at ih⊢;omega
theorem wlists_len (l:List RwM):(wlists l).length=l.length:=by simp[wlists]
theorem tlists_len (l:List TbM) (h:∀t∈l,t.rows.length<=100000):(tlists l).length<=100000*l.length:=by
 induction l with
 | nil=>simp[tlists]
 | cons x l ih =>
   have h1:=h x (by simp);have h2:=ih (fun t ht=>h t (by simp[ht]));simp only[tlists,List.flatMap_cons,List.length_append,wlists_len,List.length_cons]at h2⊢;omega
theorem rlists_snoc (l:List RuM) (k:Nat) (h:k<l.length):lcells (rlists (l.take (k+1)))=lcells (rlists (l.take k)) ++ [.slice l[k].st.A l[k].st.n l[k].st.c,.slice l[k].sg.A l[k].sg.n l[k].sg.c,.slice l[k].sb.A l[k].sb.n l[k].sb.c]:=by
 rw[List.take_succ_eq_append_getElem h];simp only[rlists,lcells,List.flatMap_append,List.map_append,List.flatMap_cons,List.flatMap_nil,List.append_nil,List.map_cons,List.map_nil]
theorem wlists_snoc (l:List RwM) (k:Nat) (h:k<l.length):lcells (wlists (l.take (k+1)))=lcells (wlists (l.take k)) ++ [.slice l[k].sg.A l[k].sg.n l[k].sg.c]:=by
 rw[List.take_succ_eq_append_getElem h];simp only[wlists,lcells,List.map_append,List.map_cons,List.map_nil]
theorem tlists_snoc (l:List TbM) (k:Nat) (h:k<l.length):tlists (l.take (k+1))=tlists (l.take k) ++ wlists l[k].rows:=by
 rw[List.take_succ_eq_append_getElem h];simp only[tlists,List.flatMap_append,List.flatMap_cons,List.flatMap_nil,List.append_nil]
theorem one3s (x y z:Sl):∀u∈([.slice x.A x.n x.c,.slice y.A y.n y.c,.slice z.A z.n z.c]:List Value),u.oneCell'=true:=by
 intro u hu;simp only[List.mem_cons,List.not_mem_nil,or_false]at hu;rcases hu with rfl|rfl|rfl <;> rfl
theorem one1sl (x:Sl):∀u∈([.slice x.A x.n x.c]:List Value),u.oneCell'=true:=by
 intro u hu;simp only[List.mem_cons,List.not_mem_nil,or_false]at hu;rcases hu with rfl;rfl
theorem info101:(Tryz.prog.info? 101).map (fun i=>(i.zero,i.size,i.bytes))=some (some (.slice none 0 0),1,24):=by kernel_rfl
def ListsR (w:World) (m:CatM) (e:Ending) (w':World):Prop :=
 ∃A c,e=.returned (.slice A (listsOf m).length c)∧Row w' w'.heap.size A (lcells (listsOf m))∧Below w.heap.size w w'
theorem rlists_any {w : World} {m : CatM} (h : m.Ok w) : Calls Tryz.prog 94 #[m.val] w (ListsR w m) := by
 obtain⟨items,rules,tables,taxes,⟨Ai,ni,ci⟩,⟨Ar,nr,cr⟩,⟨At,nt,ct⟩,⟨Ax,nx,cx⟩⟩:=m;obtain⟨i0,hi,hz0,hz1,hz2⟩:=info_parts info101;have X0:Below w.heap.size w (w.alloc (.cells #[.slice Ai ni ci,.slice Ar nr cr,.slice At nt ct,.slice Ax nx cx] 28)):=(Below.refl _ _).alloc (Nat.le_refl _) _;have k0:Bk (w.alloc (.cells #[.slice Ai ni ci,.slice Ar nr cr,.slice At nt ct,.slice Ax nx cx] 28)) w.heap.size 28 [.slice Ai ni ci,.slice Ar nr cr,.slice At nt ct,.slice Ax nx cx]:=Bk.new w 28 _;have HX:=iH X0;have HK0:=iH k0;have H:=iH (h.below X0);have Hn1:=iH h.rules.len;have Hn2:=iH h.tables.len;have sm1:=h.rules.small;have sm2:=h.tables.small;dsimp only at Hn1 Hn2 sm1 sm2;have HTL:Hid (∀k,(tlists (tables.take k)).length<=100000*k):=fun k=>by
  refine Nat.le_trans (tlists_len _ (fun t ht=>?_)) (Nat.mul_le_mul_left _ (List.length_take_le _ _));have h1:=h.tables.each t (List.mem_of_mem_take ht);have h2:=h1.rows.len;have h3:=h1.rows.small;omega
 clear h k0 X0;generalize hW0:w.alloc (.cells #[.slice Ai ni ci,.slice Ar nr cr,.slice At nt ct,.slice Ax nx cx] 28)=W0 at H HX HK0;go_enter Tryz.func94,Tryz.ntmps94;go_wp2_with fail;(try rw[hW0]);clear hW0;go_loopw [3,4] (fun v i wr=>∃k:Nat,k<=nr∧i=.int .i64 k∧wr.ownsRow W0.heap.size 101 1 v (3*k) (lcells (rlists (rules.take k)))∧Below W0.heap.size W0 wr) (fun _ i _=>nr-(intOf i).toNat)
 case atStart=>exact⟨0,Nat.zero_le _,rfl,World.ownsRow_nil _ _ _ _,Below.refl _ _⟩
 case round =>
  obtain⟨k,hk,rfl,hown,hb⟩:=hrel;have hsz:=hb.size;have hk0:=HK0.out.lt;have bx1:wr.cell? ⟨w.heap.size,1,none⟩=some (.slice Ar nr cr):=(hb.cell (p:=⟨w.heap.size,1,none⟩) hk0).trans (HK0.out.cell 1);have hwl:w.heap.size<wr.heap.size:=Nat.lt_of_lt_of_le hk0 hsz;by_cases hlt:k<nr
  ·have hkl:k<rules.length:=by have:=Hn1.out;omega
   have hAt:=H.out.rules.at_ k hkl;dsimp only at hAt;obtain⟨b,off,rfl,hbb,_,_,_,_,_,_,d6,d7,d8⟩:=hAt;have HT:=iH (rlists_snoc rules k hkl);generalize rules[k]=ru at *;obtain⟨_,_,_,_,_,_,_,_,_,s1,s2,s3⟩:=ru;dsimp only at *;clear hkl;have HC:Hid (∀U:World,Below W0.heap.size W0 U->U.cell? ⟨w.heap.size,1,none⟩=some (.slice (some ⟨b,off,none⟩) nr cr)∧U.cell? ⟨b,off+k*9+6,none⟩=some (.slice s1.A s1.n s1.c)∧U.cell? ⟨b,off+k*9+7,none⟩=some (.slice s2.A s2.n s2.c)∧U.cell? ⟨b,off+k*9+8,none⟩=some (.slice s3.A s3.n s3.c)) :=
    fun U hU=>⟨(hU.cell (p:=⟨w.heap.size,1,none⟩) hk0).trans (HK0.out.cell 1),(hU.cell (p:=⟨b,_,none⟩) hbb).trans d6,(hU.cell (p:=⟨b,_,none⟩) hbb).trans d7,(hU.cell (p:=⟨b,_,none⟩) hbb).trans d8⟩
   have OWN:Hid ((wr.drew.alloc (.cells #[.slice s1.A s1.n s1.c,.slice s2.A s2.n s2.c,.slice s3.A s3.n s3.c] 101)).ownsRow W0.heap.size 101 1 u3 (3*k) (lcells (rlists (rules.take k)))):=(hown.drew).alloc _;have C1:=iH (new3 wr.drew 101 (.slice s1.A s1.n s1.c) (.slice s2.A s2.n s2.c) (.slice s3.A s3.n s3.c));have q0:(0:Int)<=(k:Int):=by omega
   have q1:(k:Int)<(nr:Int):=by omega
   have B1:Below W0.heap.size W0 (wr.drew.alloc (.cells #[.slice s1.A s1.n s1.c,.slice s2.A s2.n s2.c,.slice s3.A s3.n s3.c] 101)):=hb.drew.alloc hsz _;have C3:Hid (3*k+3<=maxLen):=by show 3*k+3<=maxLen;unfold maxLen;omega
   have C5:Hid (W0.heap.size<=(wr.drew.alloc (.cells #[.slice s1.A s1.n s1.c,.slice s2.A s2.n s2.c,.slice s3.A s3.n s3.c] 101)).heap.size):=by show W0.heap.size<=_;simp;omega
   have C6:Hid ((wr.drew.alloc (.cells #[.slice s1.A s1.n s1.c,.slice s2.A s2.n s2.c,.slice s3.A s3.n s3.c] 101)).heap.size=wr.heap.size+1):=by show _=_;simp
   clear hown d6 d7 d8;go_wp2_with fail
   go_region_held3 (fun U=>U.cell? ⟨w.heap.size,1,none⟩=some (.slice (some ⟨b,off,none⟩) nr cr)∧U.cell? ⟨b,off+k*9+6,none⟩=some (.slice s1.A s1.n s1.c)∧U.cell? ⟨b,off+k*9+7,none⟩=some (.slice s2.A s2.n s2.c)∧U.cell? ⟨b,off+k*9+8,none⟩=some (.slice s3.A s3.n s3.c)) (first | exact HC.out _ hb.drew | exact HC.out _ B1 | exact HC.out _ BN)
    ((refine step_append_lies _ (by rfl) (.tmp 14) (.tmp 33) 158 (by rfl) W0.heap.size 101 i0 (.slice none 0 0) 1 24 Tryz.underlying158 hi hz0 hz1 hz2 rfl (by decide) _ (3*k) (lcells (rlists (rules.take k))) (by rfl) OWN.out ⟨wr.heap.size,0,none⟩ 3 3 [.slice s1.A s1.n s1.c,.slice s2.A s2.n s2.c,.slice s3.A s3.n s3.c] (by rfl) rfl C1.out (one3s s1 s2 s3) (by omega) C3.out (by omega) C5.out (wr.heap.size+1) C6.out ?_;intro g' cap w3 hown hgr hat hlt3;have BN:=B1.grown hgr C5.out (row_base OWN.out);have HO1:=iH hown;clear hown hgr hat))
   go_wp2;go_roundw
   case rel=>exact⟨k+1,by omega,by go_num,by rw[HT.out];exact HO1.out,BN⟩
   case measure=>simp[intOf];omega
  ·obtain rfl:k=nr:=by omega
   have hR:wr.ownsRow W0.heap.size 101 1 u3 (rlists rules).length (lcells (rlists rules)):=by
    have e:=Hn1.out;rw[List.take_of_length_le (by omega)]at hown;rw[rlists_len,<- e];exact hown
   have hR2:(rlists rules).length<=300000:=by rw[rlists_len];have:=Hn1.out;omega
   have HR:=iH hR;obtain⟨RL,hRL⟩:∃RL,rlists rules=RL:=⟨_,rfl⟩;rw[hRL]at HR hR2;have HM:Hid (listsOf ⟨items,rules,tables,taxes,⟨Ai,ni,ci⟩,⟨Ar,k,cr⟩,⟨At,nt,ct⟩,⟨Ax,nx,cx⟩⟩=RL ++ tlists tables):=by
    show rlists rules ++ tlists tables=_;rw[hRL]
   clear hown hR hRL;go_wp2_with fail;clear bx1;go_loopw [3,5] (fun v i wx=>∃k:Nat,k<=nt∧i=.int .i64 k∧wx.ownsRow W0.heap.size 101 1 v (RL ++ tlists (tables.take k)).length (lcells (RL ++ tlists (tables.take k)))∧Below W0.heap.size W0 wx) (fun _ i _=>nt-(intOf i).toNat)
   case atStart=>exact⟨0,Nat.zero_le _,rfl,by simpa[tlists]using HR.out,hb⟩
   case round =>
    clear HR hb hsz hwl;obtain⟨k,hk,rfl,hown,hb⟩:=hrel;have hsz:=hb.size;have bx2:wr.cell? ⟨w.heap.size,2,none⟩=some (.slice At nt ct):=(hb.cell (p:=⟨w.heap.size,2,none⟩) hk0).trans (HK0.out.cell 2);have hwl:w.heap.size<wr.heap.size:=Nat.lt_of_lt_of_le hk0 hsz;have HO:=iH hown;clear hown;by_cases hlt:k<nt
    ·have hkl:k<tables.length:=by have:=Hn2.out;omega
     have hAt:=H.out.tables.at_ k hkl;dsimp only at hAt;obtain⟨b,off,rfl,hbb,_,d1⟩:=hAt;have HT:=iH (tlists_snoc tables k hkl);have hrows:=(H.out.tables.each _ (List.getElem_mem hkl)).rows;have Hl:=iH hrows.len;have hls:=hrows.small;have Hrows:=iH hrows;have htl:=HTL.out k;clear hrows;generalize tables[k]=tb at *;clear hkl;obtain⟨tnm,rows,⟨Aw,nw,cw⟩⟩:=tb;dsimp only at *;obtain⟨PL,hPL⟩:∃PL,RL ++ tlists (tables.take k)=PL:=⟨_,rfl⟩;have HP2:Hid (RL ++ tlists (tables.take (k+1))=PL ++ wlists rows):=by
      show _=_;rw[HT.out,<- List.append_assoc,hPL]
     rw[hPL]at HO;have hpl:PL.length<=300000+100000*k:=by rw[<- hPL,List.length_append];omega
     clear hPL HT htl;obtain⟨wo,hwo⟩:∃wo:World,wr=wo:=⟨_,rfl⟩;rw[hwo]at bx2 hwl hsz hb HO⊢;clear hwo;go_wp2_with fail;go_loopw [3,6] (fun v i wx=>∃j:Nat,j<=nw∧i=.int .i64 j∧wx.ownsRow W0.heap.size 101 1 v (PL.length+j) (lcells (PL ++ wlists (rows.take j)))∧Below W0.heap.size W0 wx) (fun _ i _=>nw-(intOf i).toNat)
     case atStart=>exact⟨0,Nat.zero_le _,rfl,by simpa[wlists]using HO.out,hb⟩
     case round =>
      clear HO hb hsz hwl bx2;obtain⟨j,hj,rfl,hown,hb⟩:=hrel;have hsz:=hb.size;have bx2:wr.cell? ⟨w.heap.size,2,none⟩=some (.slice (some ⟨b,off,none⟩) nt ct):=(hb.cell (p:=⟨w.heap.size,2,none⟩) hk0).trans (HK0.out.cell 2);have e1:wr.cell? ⟨b,off+k*2+1,none⟩=some (.slice Aw nw cw):=(hb.cell (p:=⟨b,_,none⟩) hbb).trans d1;have hwl:w.heap.size<wr.heap.size:=Nat.lt_of_lt_of_le hk0 hsz;have hbl:b<wr.heap.size:=Nat.lt_of_lt_of_le hbb hsz;have HO:=iH hown;clear hown;by_cases hltj:j<nw
      ·have hjl:j<rows.length:=by have:=Hl.out;omega
       have hAt:=(Hrows.out.below hb).at_ j hjl;dsimp only at hAt;obtain⟨b2,off2,rfl,hbb2,_,f1⟩:=hAt;have HT:=iH (wlists_snoc rows j hjl);generalize rows[j]=rw0 at *;obtain⟨_,_,s⟩:=rw0;dsimp only at *;clear hjl;go_wp2_with(at_builtin;refine wpList_append_own_at _ rfl _ _ 158 rfl W0.heap.size 101 i0 (.slice none 0 0) 1 24 Tryz.underlying158 hi hz0 hz1 hz2 rfl (by decide) _ (PL.length+j) (lcells (PL ++ wlists (rows.take j))) rfl (HO.out.alloc _) ⟨wr.heap.size,0,none⟩ 1 1 [.slice s.A s.n s.c] rfl rfl (new1 _ _ _) (one1sl _) (by unfold maxLen;omega) (by omega) (by simp;omega) ?_);intro v' w1 hown' hgrow _ _;have hb1:Below W0.heap.size W0 w1:=(hb.alloc hsz _).grown hgrow (by simp;omega) (row_base HO.out);have HO1:=iH hown';clear hown' hgrow;go_wp2;go_roundw
       case rel=>exact⟨j+1,by omega,by go_num,by rw[lcells_app,HT.out,<- List.append_assoc,<- lcells_app];exact HO1.out,hb1⟩
       case measure=>simp[intOf];omega
      ·obtain rfl:j=nw:=by omega
       have hF:wr.ownsRow W0.heap.size 101 1 u3 (RL ++ tlists (tables.take (k+1))).length (lcells (RL ++ tlists (tables.take (k+1)))):=by
        have e:=Hl.out;have h1:=HO.out;rw[List.take_of_length_le (by omega)]at h1;rw[HP2.out,List.length_append,wlists_len,<- e];exact h1
       have HF:=iH hF;clear hF HO;go_wp2;go_roundw
       case rel=>exact⟨k+1,by omega,by go_num,HF.out,hb⟩
       case measure=>simp[intOf];omega
    ·obtain rfl:k=nt:=by omega
     have hF:=HO.out;rw[List.take_of_length_le (by have:=Hn2.out;omega)]at hF;obtain⟨A,c,hv,hrow⟩:=row_of_owns hF;rw[hv];clear hv HO hF;have HRow:=iH hrow;clear hrow;go_wp2;go_ret;exact⟨A,c,by rw[HM.out];rfl,by rw[HM.out];exact HRow.out,HX.out.trans (hb.mono HX.out.size)⟩
end Go.Proofs.YthjfdfdgbpbanaaGreatDoor

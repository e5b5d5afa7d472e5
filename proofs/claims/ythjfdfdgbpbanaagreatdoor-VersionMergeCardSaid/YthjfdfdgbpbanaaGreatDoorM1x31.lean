/- The reference's amounts (53): the amounts with the indices of the same names in other items, sorted by these. Plain law of VersionSame: a catalog and itself. Plain law of Merge: the new place of an item is where its name stands. -/
import Derived.Test.YthjfdfdgbpbanaaGreatDoorM1x30
import Derived.BigQuiet
set_option linter.unusedVariables false
set_option linter.unusedSimpArgs false
open Go.RowKit
namespace Go.Proofs.YthjfdfdgbpbanaaGreatDoor
theorem new2r (w:World) (t:TypeId) (a b:Value):∀j u,([a,b]:List Value)[j]? = some u→(w.alloc (.cells #[a,b] t)).cell? ((⟨w.heap.size,0,none⟩:Addr).add j)=some u:=by
 intro j u hj
 match j,hj with
 | 0,hj=>simp at hj;subst hj;simp[Addr.add]
 | 1,hj=>simp at hj;subst hj;simp[Addr.add]
 | j+2,hj=>simp at hj
theorem one2r (x y:Int):∀u∈([.int .i64 x,.int .i64 y]:List Value),u.oneCell'=true:=by
 intro u hu;simp only[List.mem_cons,List.not_mem_nil,or_false]at hu;rcases hu with rfl|rfl <;> rfl
theorem bkt_le (l:List P2) (K:Nat):(bkt l K).length≤K*l.length:=by
 induction K with
 | zero=>simp[bkt]
 | succ K ih =>
   rw[bkt,List.length_append,Nat.succ_mul];have:=List.length_filter_le (fun p:P2=>decide (p.1=(K:Int))) l;omega
/-- While the k-th name is looked for, i amounts have been seen. -/
def amTo (fl:List P2) (k i:Nat):List P2:=bkt fl k ++ (fl.take i).filter fun p=>decide (p.1=(k:Int))
theorem amTo_zero (fl:List P2) (k:Nat):amTo fl k 0=bkt fl k:=by simp[amTo]
theorem amTo_all (fl:List P2) (k i:Nat) (h:fl.length≤i):amTo fl k i=bkt fl (k+1):=by rw[amTo,List.take_of_length_le h,bkt]
theorem amTo_yes (fl:List P2) (k i:Nat) (hi:i<fl.length) (h:fl[i].1=(k:Int)):amTo fl k (i+1)=amTo fl k i ++ [fl[i]]:=by
 have e:fl.take (i+1)=fl.take i ++ [fl[i]]:=by rw[List.take_add_one,List.getElem?_eq_getElem hi];rfl
 rw[amTo,amTo,e,List.filter_append,← List.append_assoc];simp[h]
theorem amTo_no (fl:List P2) (k i:Nat) (hi:i<fl.length) (h:¬ fl[i].1=(k:Int)):amTo fl k (i+1)=amTo fl k i:=by
 have e:fl.take (i+1)=fl.take i ++ [fl[i]]:=by rw[List.take_add_one,List.getElem?_eq_getElem hi];rfl
 rw[amTo,amTo,e,List.filter_append];simp[h]
theorem amTo_le (fl:List P2) (k i:Nat):(amTo fl k i).length≤k*fl.length+i:=by
 rw[amTo,List.length_append];have h1:=bkt_le fl k;have h2:=List.length_filter_le (fun p:P2=>decide (p.1=(k:Int))) (fl.take i);rw[List.length_take]at h2;omega
def RamQ (w:World) (l:List P2) (e:Ending) (w':World):Prop:=∃s:Sl,e=.returned (.slice s.A s.n s.c)∧PrO w' 136 w.heap.size s l∧Below w.heap.size w w'
set_option maxRecDepth 100000 in
set_option maxHeartbeats 4000000 in
theorem ramounts_any {w:World} {sf st sl:Sl} {lf lt:List It} {l:List P2} {pl:List Int} (hf:ItsV w sf lf) (ht:ItsV w st lt) (hl:PrV w 136 sl l)
 (hr:∀p∈l,0≤p.1∧p.1<(lf.length:Int)) (hp:∀p∈l,∀k,k<lt.length→((itAt lf p.1.toNat).name=(itAt lt k).name ↔ plAt pl p.1=(k:Int))) (hpos:∀p∈l,0≤plAt pl p.1∧plAt pl p.1<(lt.length:Int)) :
 Calls Tryz.prog 53 #[.slice sf.A sf.n sf.c,.slice st.A st.n st.c,.slice sl.A sl.n sl.c] w (RamQ w (bkt (l.map (mvA pl)) lt.length)):=by
 obtain⟨i0,hi,hz0,hz1,hz2⟩:=info_parts info136a;have HFr:=Lib.hid hf.itsR;have HTo:=Lib.hid ht.itsR;have HL:=Lib.hid hl;have Hr:=Lib.hid hr;have Hp:=Lib.hid hp;have Hbl:Hid ((bkt (l.map (mvA pl)) lt.length).length=l.length):=by
  have h:=bkt_len (l.map (mvA pl)) lt.length (fun p hp=>by obtain⟨q,hq,rfl⟩:=List.mem_map.1 hp;exact hpos q hq) l.length (by simp);rw[show l.length=(l.map (mvA pl)).length by simp,List.take_length]at h;show _=_;rw[h];simp
 clear hpos;have Hnf:=Lib.hid hf.len;have Hnt:=Lib.hid ht.len;have Hnl:=Lib.hid hl.len;have sml:=hl.small;have smt:=ht.small;clear hf ht hl hr hp;obtain⟨Af,nf,cf⟩:=sf;obtain⟨At,nt,ct⟩:=st;obtain⟨Al,nl,cl⟩:=sl;dsimp only at *;have Hfl:Hid ((l.map (mvA pl)).length=nl):=by show _=_;rw[List.length_map];exact Hnl.out.symm
 go_enter Tryz.func53,Tryz.ntmps53;go_wp2_with fail;go_loopw [7,8] (fun v i wr=>∃k:Nat,k≤nt∧i=.int .i64 k∧wr.ownsRow w.heap.size 136 2 v (amTo (l.map (mvA pl)) k 0).length (pcells (amTo (l.map (mvA pl)) k 0))∧Below w.heap.size w wr) (fun _ i _=>nt-(intOf i).toNat)
 case atStart=>exact⟨0,Nat.zero_le _,rfl,World.ownsRow_nil _ _ _ _,Below.refl _ _⟩
 case round =>
  obtain⟨k,hk,rfl,hown,hb⟩:=hrel;have HO:=Lib.hid hown;have HB:=Lib.hid hb;clear hown hb;by_cases hlt:k<nt
  ·have hkt:k<lt.length:=by have:=Hnt.out;omega
   have k0:(0:Int)≤(k:Int):=by omega
   have k1:(k:Int)<(nt:Int):=by omega
   go_wp2_with fail;go_loopw [7,9] (fun v i wq=>∃q:Nat,q≤nl∧i=.int .i64 q∧wq.ownsRow w.heap.size 136 2 v (amTo (l.map (mvA pl)) k q).length (pcells (amTo (l.map (mvA pl)) k q))∧Below w.heap.size w wq) (fun _ i _=>nl-(intOf i).toNat)
   case atStart=>exact⟨0,Nat.zero_le _,rfl,HO.out,HB.out⟩
   case round =>
    clear HO HB;obtain⟨q,hq,rfl,hown,hb⟩:=hrel;have HO:=Lib.hid hown;have HB:=Lib.hid hb;have hsz:=hb.size;clear hown hb;by_cases hqt:q<nl
    ·have hql:q<l.length:=by have:=Hnl.out;omega
     have hqf:q<(l.map (mvA pl)).length:=by rw[List.length_map];exact hql
     obtain⟨b,off,hA,hbb,c0,c1⟩:=(HL.out.below HB.out).at_ q hql;dsimp only at hA;subst hA;have hmem:=List.getElem_mem hql;have hrr:=Hr.out _ hmem;have hpp:=Hp.out _ hmem k hkt;have hge:(l.map (mvA pl))[q]=(plAt pl l[q].1,l[q].2):=by simp[mvA]
     have Hy:=Lib.hid (amTo_yes (l.map (mvA pl)) k q hqf);have Hn:=Lib.hid (amTo_no (l.map (mvA pl)) k q hqf);rw[hge]at Hy Hn;dsimp only at Hy Hn;have hle:(amTo (l.map (mvA pl)) k q).length≤k*nl+q:=by rw[← Hfl.out];exact amTo_le _ _ _
     have hle2:k*nl≤100000*100000:=Nat.mul_le_mul (by omega) (by omega);obtain⟨x,hx⟩:=Int.eq_ofNat_of_zero_le hrr.1;rw[hx]at hrr hpp c0 Hy Hn;have hxf:x<nf:=by have e:nf=lf.length:=Hnf.out;omega
     generalize l[q].2=y at *;obtain⟨b2,off2,hA2,hbb2,d0,_⟩:=(HFr.out.below HB.out).at_ x hxf;obtain⟨b3,off3,hA3,hbb3,e0,_⟩:=(HTo.out.below HB.out).at_ k hlt;subst hA2;subst hA3;simp only[Int.toNat_natCast]at hpp;have hpp2:=Lib.hid hpp;clear hpp hge hx hmem hql hqf;generalize(itAt lf x).name=s1 at *;generalize(itAt lt k).name=s2 at *;generalize plAt pl (x:Int)=px at *;have q0:(0:Int)≤(q:Int):=by omega
     have q1:(q:Int)<(nl:Int):=by omega
     have x0:(0:Int)≤(x:Int):=by omega
     have x1:(x:Int)<(nf:Int):=by omega
     by_cases he:s1=s2
     ·have hpk:=hpp2.out.1 he;have HY:=Lib.hid (Hy.out hpk);rw[hpk]at HY;subst he;have e2:(s1.toList == s1.toList)=true:=by simp
      have e1:(s1 == s1)=true:=by rw[beq_toListBytes];exact e2
      clear Hy Hn hpp2 hpk hrr;go_wp2_with fail;go_quiet (fail);have HB1:=Lib.hid (bel_drewN HB.out nq);have HO1:=Lib.hid (HO.out.alloc (.cells #[.int .i64 k,.int .i64 y] 136));have HCN:=Lib.hid (new2r wr 136 (.int .i64 k) (.int .i64 y));clear d0 e0 e1 e2;go_wp2_with(at_builtin;refine wpList_append_own_at _ rfl _ _ 101 rfl w.heap.size 136 i0 (.agg #[.int .i64 0,.int .i64 0]) 2 16 Tryz.underlying101 hi hz0 hz1 hz2 rfl (by decide) _ (amTo (l.map (mvA pl)) k q).length (pcells (amTo (l.map (mvA pl)) k q)) rfl HO1.out ⟨wr.heap.size,0,none⟩ 1 1 [.int .i64 k,.int .i64 y] rfl rfl HCN.out (one2r _ _) ?c3 ?c4 (by simp;omega) ?_)
      case c3=>unfold maxLen;omega
      case c4=>omega
      intro v' w1 hown' hgrow _ _;have hb1:Below w.heap.size w w1:=(HB1.out.alloc hsz _).grown hgrow (by simp;omega) (row_base HO.out);have HO2:Hid (w1.ownsRow w.heap.size 136 2 v' (amTo (l.map (mvA pl)) k (q+1)).length (pcells (amTo (l.map (mvA pl)) k (q+1)))):=by
       rw[HY.out,List.length_append,pcells_snoc];exact Lib.hid hown'
      clear hown' hgrow;go_wp2;go_roundw
      case rel=>exact⟨q+1,by omega,by go_num,HO2.out,hb1⟩
      case measure=>simp[intOf];omega
     ·have hpk:¬ px=(k:Int):=fun e=>he (hpp2.out.2 e)
      have HY:=Lib.hid (Hn.out hpk);have e2:(s1.toList == s2.toList)=false:=by
       simp only[beq_eq_false_iff_ne,ne_eq,ByteArray.toList_eq];exact fun e=>he (bytes_eq e)
      have e1:(s1 == s2)=false:=by rw[beq_toListBytes];exact e2
      clear Hy Hn hpp2 hpk hrr he;go_wp2_with fail;go_quiet (fail);have HB1:=Lib.hid (bel_drewN HB.out nq);have HO2:=Lib.hid HO.out;rw[← HY.out]at HO2;clear d0 e0 e1 e2 c0 c1 HB HO;go_wp2_with fail;go_roundw
      case rel=>exact⟨q+1,by omega,by go_num,HO2.out,HB1.out⟩
      case measure=>simp[intOf];omega
    ·have hall:=amTo_all (l.map (mvA pl)) k q (by rw[Hfl.out];omega);have HO2:=Lib.hid HO.out;rw[hall,← amTo_zero]at HO2;clear hall HO;go_wp2;go_roundw
     case rel=>exact⟨k+1,by omega,by go_num,HO2.out,HB.out⟩
     case measure=>simp[intOf];omega
  ·have hkn:k=nt:=by omega
   have HO2:=Lib.hid HO.out;rw[amTo_zero,hkn,Hnt.out]at HO2;obtain⟨A9,c9,hv,_⟩:=row_of_owns HO2.out;have hln:(bkt (l.map (mvA pl)) lt.length).length≤100000:=by rw[Hbl.out];have e:nl=l.length:=Hnl.out;omega
   have HP:Hid (PrO wr 136 w.heap.size ⟨A9,(bkt (l.map (mvA pl)) lt.length).length,c9⟩ (bkt (l.map (mvA pl)) lt.length)):=by
    show PrO _ _ _ _ _;refine⟨by rw[← hv];exact HO2.out,rfl,hln,fun p hp=>?_⟩;have h1:=bkt_lt _ _ p hp;have h2:=bkt_mem _ _ p hp;obtain⟨p0,hp0,rfl⟩:=List.mem_map.1 h2;have h3:=HL.out.wf p0 hp0;have h4:lt.length≤100000:=by rw[← Hnt.out];exact smt
    exact⟨by omega,h3.2⟩
   subst hv;clear HO HO2 hln;go_wp2;go_ret;exact⟨⟨A9,(bkt (l.map (mvA pl)) lt.length).length,c9⟩,rfl,HP.out,HB.out⟩
theorem sort_at {n:Nat} {l:List P2}:∀ {k:Nat},sortTo n l k=true→∀j,j<k→lastAt l j<itemK l j∧itemK l j<(n:Int):=by
 intro k
 induction k with
 | zero=>intro _ j hj;omega
 | succ k ih =>
   intro h j hj;simp only[sortTo,Bool.and_eq_true,decide_eq_true_eq]at h;by_cases e:j=k
   ·subst e;exact⟨h.2.1,h.2.2⟩
   ·exact ih h.1 j (by omega)
theorem itemK_get {l:List P2} {k:Nat} (h:k<l.length):itemK l k=l[k].1:=by simp[itemK,h]
theorem sort_lt {n:Nat} {l:List P2} (h:sortB n l=true):∀j,j<l.length→(∀i,i<j→itemK l i<itemK l j)∧0≤itemK l j∧itemK l j<(n:Int):=by
 intro j
 induction j with
 | zero =>
   intro hj;have:=sort_at h 0 hj;simp only[lastAt,if_pos]at this;exact⟨fun i hi=>by omega,by omega,this.2⟩
 | succ j ih =>
   intro hj;have h1:=sort_at h (j+1) hj;have h2:=ih (by omega);have h3:lastAt l (j+1)=itemK l j:=by simp[lastAt,itemK]
   rw[h3]at h1;refine⟨fun i hi=>?_,by omega,h1.2⟩;by_cases e:i=j
   ·subst e;exact h1.1
   ·have:=h2.1 i (by omega);omega
theorem sort_range {n:Nat} {l:List P2} (h:sortB n l=true):∀p∈l,0≤p.1∧p.1<(n:Int):=by
 intro p hp;obtain⟨i,hi,rfl⟩:=List.getElem_of_mem hp;have:=sort_lt h i hi;rw[itemK_get hi]at this;exact this.2
/-- The amounts of a valid catalog are sorted. -/
theorem code_sorted {m:CatM} (h:codeC m=0):∀x∈allL m,sortB m.items.length x.2=true:=by
 have hw:=(code_parts h).2.2.2.1;simp only[wfC,Bool.and_eq_true,List.all_eq_true]at hw;intro x hx;rcases List.mem_append.1 hx with hx|hx
 ·obtain⟨r,hr,hx⟩:=List.mem_flatMap.1 hx;have:=hw.1.1.2 r hr;simp only[wfR,Bool.and_eq_true]at this;simp only[ruL,List.mem_cons,List.not_mem_nil,or_false]at hx;rcases hx with rfl|rfl|rfl
  ·exact this.1.1.1.1
  ·exact this.1.1.1.2
  ·exact this.1.1.2
 ·obtain⟨t,ht,hx⟩:=List.mem_flatMap.1 hx;have:=hw.1.2 t ht;simp only[wfT,Bool.and_eq_true,List.all_eq_true]at this;obtain⟨r,hr,rfl⟩:=List.mem_map.1 hx;exact this.2 r hr
theorem code_range {m:CatM} (h:codeC m=0):∀x∈allL m,∀p∈x.2,0≤p.1∧p.1<(m.items.length:Int):=fun x hx=>sort_range (code_sorted h x hx)
theorem code_64 {m:CatM} (h:codeC m=0):m.items.length≤64:=by
 have:=(code_parts h).1;simp only[limC,Bool.and_eq_true,decide_eq_true_eq]at this;exact this.1.1.1.1.1.1
theorem idx_none {l:List It} {s:ByteArray}:∀ {k:Nat},idxTo l k s=none→∀i,i<k→(itAt l i).name≠s:=by
 intro k
 induction k with
 | zero=>intro _ i hi;omega
 | succ k ih =>
   intro h i hi;simp only[idxTo]at h;split at h
   ·cases h
   ·rename_i hne
    by_cases e:i=k
    ·subst e;exact fun h2=>hne h2.symm
    ·exact ih h i (by omega)
theorem mergeIt_name (ln:List It) (t:It):(mergeIt ln t).name=t.name:=by
 unfold mergeIt;split
 ·rename_i b hb
  exact(idxTo_lt hb).2
 ·rfl
theorem newTo_mem {lo ln:List It}:∀ {k:Nat},∀t∈newTo lo ln k,∃i,i<k∧t=itAt ln i∧idxTo lo lo.length t.name=none:=by
 intro k
 induction k with
 | zero=>intro t h;simp[newTo]at h
 | succ k ih =>
   intro t h;simp only[newTo]at h;cases hx:idxTo lo lo.length (itAt ln k).name with
   | some a =>
     rw[hx]at h;obtain⟨i,h1,h2⟩:=ih t (by simpa using h);exact⟨i,by omega,h2⟩
   | none =>
     rw[hx]at h;simp only[Option.isSome_none,Bool.false_eq_true,if_false,List.mem_append,List.mem_singleton]at h;rcases h with h|h
     ·obtain⟨i,h1,h2⟩:=ih t h;exact⟨i,by omega,h2⟩
     ·exact⟨k,by omega,h,by rw[h];exact hx⟩
theorem newTo_pw {lo ln:List It} (hd:Dist ln):∀ {k:Nat},k≤ln.length→(newTo lo ln k).Pairwise fun s t=>s.name≠t.name:=by
 intro k
 induction k with
 | zero=>intro _;simp[newTo]
 | succ k ih =>
   intro hk;simp only[newTo];split
   ·exact ih (by omega)
   ·rw[List.pairwise_append];refine⟨ih (by omega),by simp,fun s hs t ht=>?_⟩;rw[List.mem_singleton.1 ht];obtain⟨i,h1,h2,_⟩:=newTo_mem s hs;rw[h2];intro e;have:=hd i k (by omega) (by omega) e;omega
theorem newTo_pre (lo ln:List It) (k:Nat):∀d i,i<(newTo lo ln k).length→(newTo lo ln (k+d))[i]? = (newTo lo ln k)[i]?:=by
 intro d
 induction d with
 | zero=>intro i _;rfl
 | succ d ih =>
   intro i hi;show(newTo lo ln (k+d+1))[i]? = _;simp only[newTo];have hlen:(newTo lo ln k).length≤(newTo lo ln (k+d)).length:=by
    have h1:=(ih ((newTo lo ln k).length-1) (by omega)).trans (List.getElem?_eq_getElem (by omega));have:=(List.getElem?_eq_some_iff.1 h1).1;omega
   split
   ·exact ih i hi
   ·rw[List.getElem?_append_left (by omega)];exact ih i hi
theorem mergeL_low (lo ln:List It) (k i:Nat) (hi:i<lo.length):itAt (mergeL lo ln k) i=mergeIt ln (itAt lo i):=by
 have h:(mergeTo lo ln lo.length).length=lo.length:=mergeTo_length _ _ _;have h2:=itAt_merge lo ln lo.length i hi;rw[if_pos hi]at h2;rw[← h2];simp only[itAt,mergeL];rw[List.getElem?_append_left (by omega)]
theorem mergeL_high (lo ln:List It) (k i:Nat) (hi:lo.length≤i):itAt (mergeL lo ln k) i=itAt (newTo lo ln k) (i-lo.length):=by
 have h:(mergeTo lo ln lo.length).length=lo.length:=mergeTo_length _ _ _;simp only[itAt,mergeL];rw[List.getElem?_append_right (by omega),h]
theorem mergeL_len (lo ln:List It) (k:Nat):(mergeL lo ln k).length=lo.length+(newTo lo ln k).length:=by simp[mergeL]
theorem mergeL_dist {lo ln:List It} (hlo:Dist lo) (hln:Dist ln):Dist (mergeL lo ln ln.length):=by
 have key:∀i j,i<j→j<(mergeL lo ln ln.length).length→(itAt (mergeL lo ln ln.length) i).name≠(itAt (mergeL lo ln ln.length) j).name:=by
  intro i j hij hj;rw[mergeL_len]at hj;by_cases hjl:j<lo.length
  ·rw[mergeL_low _ _ _ _ hjl,mergeL_low _ _ _ _ (by omega),mergeIt_name,mergeIt_name];intro e;have:=hlo i j (by omega) hjl e;omega
  ·have hj2:j-lo.length<(newTo lo ln ln.length).length:=by omega
   rw[mergeL_high _ _ _ j (by omega)];have hjm:itAt (newTo lo ln ln.length) (j-lo.length)∈newTo lo ln ln.length:=itAt_mem2 hj2;by_cases hil:i<lo.length
   ·rw[mergeL_low _ _ _ _ hil,mergeIt_name];obtain⟨_,_,_,hn⟩:=newTo_mem _ hjm;exact idx_none hn i hil
   ·rw[mergeL_high _ _ _ i (by omega)];have:=List.pairwise_iff_getElem.1 (newTo_pw (lo:=lo) hln (Nat.le_refl _)) (i-lo.length) (j-lo.length) (by omega) hj2 (by omega);simp only[itAt,List.getElem?_eq_getElem hj2,List.getElem?_eq_getElem (show i-lo.length<(newTo lo ln ln.length).length by omega),Option.getD_some];exact this
 intro i j hi hj he;rcases Nat.lt_trichotomy i j with h|h|h
 ·exact absurd he (key i j h hj)
 ·exact h
 ·exact absurd he.symm (key j i h hi)
/-- The item at the new place has the name. -/
theorem place_name {lo ln:List It} {x:Nat} (hx:x<ln.length):∃k:Nat,placeOf lo ln x=(k:Int)∧k<(mergeL lo ln ln.length).length∧(itAt (mergeL lo ln ln.length) k).name=(itAt ln x).name:=by
 have hr:=placeOf_range lo ln x hx;unfold placeOf at hr⊢;cases h:idxTo lo lo.length (itAt ln x).name with
 | some a =>
   obtain⟨h1,h2⟩:=idxTo_lt h;refine⟨a,rfl,by rw[mergeL_len];omega,?_⟩;rw[mergeL_low _ _ _ _ h1,mergeIt_name,h2]
 | none =>
   rw[h]at hr;have h3:newTo lo ln (x+1)=newTo lo ln x ++ [itAt ln x]:=by simp[newTo,h]
   have h4:=newTo_pre lo ln (x+1) (ln.length-(x+1)) (newTo lo ln x).length (by rw[h3];simp);rw[show x+1+(ln.length-(x+1))=ln.length by omega,h3,List.getElem?_append_right (Nat.le_refl _),Nat.sub_self]at h4;simp only[List.getElem?_cons_zero]at h4;have h5:=(List.getElem?_eq_some_iff.1 h4).1;refine⟨lo.length+(newTo lo ln x).length,rfl,by rw[mergeL_len];omega,?_⟩;rw[mergeL_high _ _ _ _ (by omega),show lo.length+(newTo lo ln x).length-lo.length=(newTo lo ln x).length by omega];simp only[itAt,h4,Option.getD_some]
theorem placeL_at {lo ln:List It} {x:Nat} (hx:x<ln.length):plAt (placeL lo ln) (x:Int)=placeOf lo ln x:=by simp[plAt,placeL,hx]
theorem place_iff {lo ln:List It} (hlo:Dist lo) (hln:Dist ln) {x k:Nat} (hx:x<ln.length) (hk:k<(mergeL lo ln ln.length).length) :
 (itAt ln x).name=(itAt (mergeL lo ln ln.length) k).name ↔ plAt (placeL lo ln) (x:Int)=(k:Int):=by
 obtain⟨q,h1,h2,h3⟩:=place_name (lo:=lo) hx;rw[placeL_at hx,h1];constructor
 ·intro e;have:=mergeL_dist hlo hln q k h2 hk (by rw[h3,e]);rw[this]
 ·intro e;have:q=k:=by omega
  subst this;exact h3.symm
end Go.Proofs.YthjfdfdgbpbanaaGreatDoor

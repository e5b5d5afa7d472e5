/- slices.SortFunc on at most 12 amounts: they come by their items. The closures of version.Merge and version.rewrite: an item's new place; amounts with new items, sorted. version.rewrite on any catalog with short amount lists. -/
import Derived.Test.YthjfdfdgbpbanaaGreatDoorM1x6
import Derived.Test.YthjfdfdgbpbanaaGreatDoorM1x27
import Derived.StillTailTactics
set_option linter.unusedVariables false
set_option linter.unusedSimpArgs false
open Go.RowKit
namespace Go.Proofs.YthjfdfdgbpbanaaGreatDoor
theorem notnan (x:Int) (w:World):Calls Tryz.prog 117 #[.int .i64 x] w fun e w'=>e=.returned (.bool false)∧w=w':=by
 have h:(x != x)=false:=by simp
 go_enter Tryz.func117,Tryz.ntmps117;go_wp2;go_ret;exact⟨rfl,rfl⟩
def cmpI (x y:Int):Int:=if x<y then -1 else if y<x then 1 else 0
theorem compare_any (x y:Int) (w:World):Calls Tryz.prog 98 #[.int .i64 x,.int .i64 y] w fun e w'=>e=.returned (.int .i64 (cmpI x y))∧w=w':=by
 have Hx:=Lib.hid (notnan x w);have Hy:=Lib.hid (notnan y w);go_enter Tryz.func98,Tryz.ntmps98;go_wp2_with fail;refine Hx.out.mono ?_;rintro e w1 ⟨rfl,rfl⟩;go_wp2_with fail;refine Hy.out.mono ?_;rintro e w1 ⟨rfl,rfl⟩;by_cases h1:x<y
 ·have d1:decide (x<y)=true:=by simpa using h1
  go_wp2;go_ret;exact⟨by simp[cmpI,h1],rfl⟩
 ·have d1:decide (x<y)=false:=by simpa using h1
  have Hc:Hid (¬ y<x→cmpI x y=0):=by show ¬ y<x→cmpI x y=0;intro h2;rw[cmpI,if_neg h1,if_neg h2]
  by_cases h2:y<x
  ·have d2:decide (y<x)=true:=by simpa using h2
   go_wp2;go_ret;exact⟨by simp[cmpI,h1,h2],rfl⟩
  ·have d2:decide (y<x)=false:=by simpa using h2
   have Hz:=Lib.hid (Hc.out h2);clear Hc;go_wp2;go_ret;exact⟨by rw[Hz.out];rfl,rfl⟩
set_option maxRecDepth 100000 in
set_option maxHeartbeats 1000000 in
theorem byItem (x1 x2 y1 y2:Int) (w:World):Calls Tryz.prog 97 #[.agg #[.int .i64 x1,.int .i64 x2],.agg #[.int .i64 y1,.int .i64 y2]] w fun e w'=>e=.returned (.int .i64 (cmpI x1 y1))∧Below w.heap.size w w':=by
 have X0:Below w.heap.size w ((w.alloc (.cells #[.int .i64 x1,.int .i64 x2] 136)).alloc (.cells #[.int .i64 y1,.int .i64 y2] 136)):=((Below.refl _ _).alloc (Nat.le_refl _) _).alloc (by simp) _;have HC:=Lib.hid (compare_any x1 y1);have HX:=Lib.hid X0;clear X0;go_enter Tryz.func97,Tryz.ntmps97;go_wp2_with fail;refine(HC.out _).mono ?_;rintro e w1 ⟨rfl,rfl⟩;go_wp2;go_ret;exact⟨rfl,HX.out⟩
set_option maxRecDepth 100000 in
set_option maxHeartbeats 1000000 in
theorem len_small (n:Nat) (hn:n≤12) (w:World):Calls Tryz.prog 116 #[.int .u64 n] w fun e w'=>∃y,e=.returned (.int .i64 y)∧w=w':=by
 have K:Hid (Calls Tryz.prog 174 #[.int .u64 n] w fun e w'=>∃y,e=.returned (.int .i64 y)∧w=w'):=by
  show Calls _ _ _ _ _;rcases(show n=0∨n=1∨n=2∨n=3∨n=4∨n=5∨n=6∨n=7∨n=8∨n=9∨n=10∨n=11∨n=12 by omega)with rfl|rfl|rfl|rfl|rfl|rfl|rfl|rfl|rfl|rfl|rfl|rfl|rfl
  all_goals
   go_enter Tryz.func174,Tryz.ntmps174;go_wp2;go_ret;exact⟨_,rfl,rfl⟩
 go_enter Tryz.func116,Tryz.ntmps116;go_wp2_with fail;refine K.out.mono ?_;rintro e w1 ⟨y,rfl,rfl⟩;go_wp2;go_ret;exact⟨y,rfl,rfl⟩
theorem grown_tr {a b c:World} {r:Option Nat} (h:a.grownBy b r) (k:b.grownBy c r):a.grownBy c r :=
 ⟨k.os.trans h.os,k.tape.trans h.tape,k.output.trans h.output,Nat.le_trans h.size k.size,fun b hb hn=>(k.block b (Nat.lt_of_lt_of_le hb h.size) hn).trans (h.block b hb hn)⟩
/-- A row of amounts as it is sorted: nothing else changes. -/
structure SrtO (w W : World) (base g cap n : Nat) (l : List P2) : Prop where
 gr:w.grownBy W (some g)
 own:W.ownsRow base 136 2 (.slice (some ⟨g,0,none⟩) n cap) n (pcells l)
theorem SrtO.below {w W W':World} {base g cap n:Nat} {l:List P2} (h:SrtO w W base g cap n l) (hb:Below W.heap.size W W'):SrtO w W' base g cap n l :=
 ⟨grown_tr h.gr (grown_of_below hb (some g)),h.own.kept (grown_of_below hb none) (by simp[Value.ownBlock])⟩
theorem own_p2 {w:World} {base g cap n:Nat} {l:List P2} (h:w.ownsRow base 136 2 (.slice (some ⟨g,0,none⟩) n cap) n (pcells l)) {k:Nat} (hk:k<l.length) :
 w.cell? ⟨g,k*2,none⟩=some (.int .i64 l[k].1)∧w.cell? ⟨g,k*2+1,none⟩=some (.int .i64 l[k].2):=by
 have key:∀r,r<2→∀u,(pc l[k])[r]? = some u→w.cell? ⟨g,k*2+r,none⟩=some u:=fun r hr u hu=>by
  have hc:=h.cells (g:=g) rfl (k*2+r) u ((flat_get pc_len l k r hk hr).trans hu);unfold Addr.add at hc;split at hc
  ·rename_i h0;rw[h0];exact hc
  ·simpa using hc
 exact⟨key 0 (by omega) _ rfl,key 1 (by omega) _ rfl⟩
theorem pcells_setk (l:List P2) (k:Nat) (t:P2) (h:k<l.length):pcells (l.set k t)=((pcells l).set (k*2) (.int .i64 t.1)).set (k*2+1) (.int .i64 t.2):=by
 induction l generalizing k with
 | nil=>simp at h
 | cons a l ih =>
   cases k with
   | zero=>simp[pcells,pc]
   | succ k =>
     have:=ih k (by simpa using h);have e:(k+1)*2=k*2+1+1:=by omega
     simp only[pcells,List.set_cons_succ,List.flatMap_cons]at this⊢;rw[this,e];simp[pc,List.set_cons_succ]
/-- The list while x, the element behind the sorted s, stands at place j. -/
def insAt (s:List P2) (x:P2) (r:List P2) (j:Nat):List P2:=s.take j ++ x :: (s.drop j ++ r)
theorem insAt_len (s:List P2) (x:P2) (r:List P2) (j:Nat):(insAt s x r j).length=s.length+1+r.length:=by
 simp only[insAt,List.length_append,List.length_take,List.length_cons,List.length_drop];omega
theorem insAt_get (s:List P2) (x:P2) (r:List P2) (j:Nat) (h:j≤s.length) (hi:j<(insAt s x r j).length):(insAt s x r j)[j]=x:=by
 simp only[insAt];have hl:(s.take j).length=j:=by rw[List.length_take];omega
 rw[List.getElem_append_right (by omega)];simp[hl,Nat.min_eq_left h]
theorem insAt_pre (s:List P2) (x:P2) (r:List P2) (j:Nat) (h:j<s.length) (hi:j<(insAt s x r (j+1)).length):(insAt s x r (j+1))[j]=s[j]:=by
 simp only[insAt];rw[List.getElem_append_left (by rw[List.length_take];omega)];simp
theorem insAt_swap (s:List P2) (x:P2) (r:List P2) (j:Nat) (h:j<s.length):((insAt s x r (j+1)).set (j+1) s[j]).set j x=insAt s x r j:=by
 have e1:s.take (j+1)=s.take j ++ [s[j]]:=by rw[List.take_add_one,List.getElem?_eq_getElem h];rfl
 have e2:s.drop j=s[j] :: s.drop (j+1):=List.drop_eq_getElem_cons h;have hl:(s.take j).length=j:=by rw[List.length_take];omega
 simp only[insAt,e1,e2];rw[List.append_assoc,List.set_append_right _ _ (by omega),hl,show j+1-j=1 by omega];simp only[List.singleton_append,List.set_cons_succ,List.set_cons_zero];rw[List.set_append_right _ _ (by omega),hl,Nat.sub_self,List.set_cons_zero,List.cons_append]
theorem SrtO.swap {w W:World} {base g cap n:Nat} {l:List P2} (h:SrtO w W base g cap n l) (i j:Nat) (p q:P2) (hi:i<l.length) (hj:j<l.length) :
 SrtO w ((((W.setCell ⟨g,i*2,none⟩ (.int .i64 p.1)).setCell ⟨g,i*2+1,none⟩ (.int .i64 p.2)).setCell ⟨g,j*2,none⟩ (.int .i64 q.1)).setCell ⟨g,j*2+1,none⟩ (.int .i64 q.2)) base g cap n ((l.set i p).set j q):=by
 refine⟨grown_tr (grown_tr (grown_tr (grown_tr h.gr (grown_setCell _ g _ _)) (grown_setCell _ g _ _)) (grown_setCell _ g _ _)) (grown_setCell _ g _ _),?_⟩;rw[pcells_setk _ _ _ (by simpa using hj),pcells_setk _ _ _ hi];exact((((h.own.stored _ _).1.stored _ _).1.stored _ _).1.stored _ _).1
set_option maxRecDepth 100000 in
set_option maxHeartbeats 4000000 in
theorem isort_any {w : World} {base g cap n K : Nat} {l : List P2} (ho : w.ownsRow base 136 2 (.slice (some ⟨g, 0, none⟩) n cap) n (pcells l)) (hl : n = l.length) (hn : n ≤ 12) (h1 : 1 ≤ n) (hK : ∀ p ∈ l, 0 ≤ p.1 ∧ p.1 < (K : Int)) :
 Calls Tryz.prog 165 #[.slice (some ⟨g,0,none⟩) n cap,.int .i64 0,.int .i64 n,.func (.func 97) #[] #[]] w fun e w'=>e=.returned (.tuple #[])∧SrtO w w' base g cap n (bkt l K):=by
 have hS0:SrtO w w base g cap n l:=⟨⟨rfl,rfl,rfl,Nat.le_refl _,fun _ _ _=>rfl⟩,ho⟩;have HS0:=Lib.hid hS0;have Hl:=Lib.hid hl;have HK:=Lib.hid hK
 have hst : bkt (l.take 1) K ++ l.drop 1 = l := by
  have hlen:=bkt_len l K hK 1 (by omega);cases l with
  | nil=>simp at hl;omega
  | cons a t =>
    simp at hlen⊢
    match hb:bkt [a] K,hlen with
    | [b], _ =>
      have e:b=a:=List.mem_singleton.1 (bkt_mem [a] K b (by rw[hb];exact List.mem_singleton.2 rfl));rw[e];rfl
 have Hst:=Lib.hid hst;clear hS0 ho hl hK hst;go_enter Tryz.func165,Tryz.ntmps165;go_wp2_with fail;go_loopw [8] (fun i wr=>∃k:Nat,1≤k∧k≤n∧i=.int .i64 k∧SrtO w wr base g cap n (bkt (l.take k) K ++ l.drop k)) (fun i _=>n-(intOf i).toNat)
 case atStart=>exact⟨1,Nat.le_refl _,h1,rfl,by rw[Hst.out];exact HS0.out⟩
 case round =>
  obtain⟨k,hk1,hk,rfl,hS⟩:=hrel;have HS:=Lib.hid hS;clear hS HS0 Hst;by_cases hlt:k<n
  ·have hkl : k < l.length := by have := Hl.out; omega
   have hd14:decide ((k:Int)<(n:Int))=true:=by simp;omega
   have hsl:(bkt (l.take k) K).length=k:=bkt_len l K HK.out k (by omega);have hso:=bkt_sorted (l.take k) K;have hnx:insR l[k] (bkt (l.take k) K) ++ l.drop (k+1)=bkt (l.take (k+1)) K ++ l.drop (k+1):=by
    have hb:=HK.out l[k] (List.getElem_mem hkl);rw[← bkt_snoc _ _ _ hb.1 hb.2];have e:l.take (k+1)=l.take k ++ [l[k]]:=by rw[List.take_add_one,List.getElem?_eq_getElem hkl];rfl
    rw[e]
   have hst:bkt (l.take k) K ++ l.drop k=insAt (bkt (l.take k) K) l[k] (l.drop (k+1)) k:=by
    have t1:(bkt (l.take k) K).take k=bkt (l.take k) K:=List.take_of_length_le (by omega);have t2:(bkt (l.take k) K).drop k=[]:=List.drop_of_length_le (by omega);rw[insAt,t1,t2,List.drop_eq_getElem_cons hkl,List.nil_append]
   rw[hst]at HS;have hrl:(l.drop (k+1)).length=n-(k+1):=by rw[List.length_drop];have:=Hl.out;omega
   have Hsl:=Lib.hid hsl;have Hso:=Lib.hid hso;have Hnx:=Lib.hid hnx;have Hrl:=Lib.hid hrl;clear hsl hso hnx hst hrl;generalize bkt (l.take k) K=s at *;generalize hrr:l.drop (k+1)=r at *;have HR:=Lib.hid hrr;clear hrr;generalize l[k]=x at *;clear hkl;go_wp2_with fail;go_loopw [9] (fun i wq=>∃j:Nat,i=.int .i64 (j:Int)∧j≤k∧(∀p∈s.drop j,x.1<p.1)∧SrtO w wq base g cap n (insAt s x r j)) (fun i _=>(intOf i).toNat)
   case atStart=>exact⟨k,rfl,Nat.le_refl _,by rw[List.drop_of_length_le (Nat.le_of_eq Hsl.out)];simp,HS.out⟩
   case round =>
    clear HS;obtain⟨j,rfl,hj,hd,hS⟩:=hrel;have HS:=Lib.hid hS;have HD:=Lib.hid hd;clear hS hd;cases j with
    | zero =>
      have d0:decide ((0:Int)<((0:Nat):Int))=false:=by simp
      have HF:Hid (SrtO w wr base g cap n (bkt (l.take (k+1)) K ++ r)):=by
       have h:=HS.out;have e:=insR_at x s 0 (by omega) Hso.out HD.out (fun p _=>.inl rfl);have e2:insAt s x r 0=insR x s ++ r:=by rw[← e];simp[insAt]
       rw[e2,Hnx.out]at h;exact Lib.hid h
      clear HS HD;go_wp2_with fail;go_quiet (fail);go_wp2;go_roundw
      case rel=>exact⟨k+1,by omega,by omega,by go_num,by rw[HR.out];exact HF.out.below (bel_drewN (Below.refl _ _) _)⟩
      case measure=>simp[intOf];omega
    | succ j =>
      have hjs:j<s.length:=by have:=Hsl.out;omega
      have hln:(insAt s x r (j+1)).length=n:=by rw[insAt_len,Hsl.out,Hrl.out];omega
      have hc0:=own_p2 HS.out.own (k:=j) (by omega);have hc1:=own_p2 HS.out.own (k:=j+1) (by omega);rw[insAt_pre s x r j hjs (by omega)]at hc0;rw[insAt_get s x r (j+1) (by omega) (by omega)]at hc1;have HW:=Lib.hid (fun(W:World) (h:SrtO w W base g cap n (insAt s x r (j+1)))=>h.swap (j+1) j s[j] x (by omega) (by omega));rw[insAt_swap s x r j hjs]at HW;have HDn:Hid (x.1<s[j].1→∀p∈s.drop j,x.1<p.1):=by
       show x.1<s[j].1→∀p∈s.drop j,x.1<p.1;intro h p hp;rw[List.drop_eq_getElem_cons hjs]at hp;rcases List.mem_cons.1 hp with rfl|hp
       ·exact h
       ·exact HD.out p hp
      have HE:Hid (¬ x.1<s[j].1→insAt s x r (j+1)=bkt (l.take (k+1)) K ++ r):=by
       show ¬ x.1<s[j].1→insAt s x r (j+1)=bkt (l.take (k+1)) K ++ r;intro h;have e:=insR_at x s (j+1) (by omega) Hso.out HD.out (fun p hp=>.inr (by rw[Nat.add_sub_cancel,List.getElem?_eq_getElem hjs]at hp;cases hp;omega));rw[← Hnx.out,← e];simp[insAt]
      have hgl:g<wr.heap.size:=(HS.out.own.lt g rfl).2;have hb0:=HK;clear HD hln;generalize s[j]=y at *;clear hjs;obtain⟨x1,x2⟩:=x;obtain⟨y1,y2⟩:=y;dsimp only at *;obtain⟨c0,c1⟩:=hc0;obtain⟨d0,d1⟩:=hc1;have ej:((j+1:Nat):Int)=(j:Int)+1:=by omega
      rw[ej];have hcall:=Lib.hid (byItem x1 x2 y1 y2);have f0:=HS.out.own.frozenAt (j*2);have f1:=HS.out.own.frozenAt (j*2+1);have f2:=HS.out.own.frozenAt ((j+1)*2);have f3:=HS.out.own.frozenAt ((j+1)*2+1);have a1:IntKind.i64.wrap ((j:Int)+1-1)=(j:Int):=IntWalk.i64_in _ (by omega) |>.trans (by omega)
      have a2:((j:Int)+1).toNat=j+1:=by omega
      have a3:(0:Int)<(j:Int)+1:=by omega
      have a8:IntKind.i64.wrap (j:Int)=(j:Int):=IntWalk.i64_in _ (by omega);have a9:j<n:=by omega
      have a5:decide ((0:Int)<(j:Int)+1)=true:=decide_eq_true a3;have a6:(0:Int)≤(j:Int)+1:=by omega
      have a7:((j:Int)+1-1).toNat=j:=by omega
      have a10:(j:Int)+1<(n:Int):=by omega
      have a11:(j:Int)<(n:Int):=by omega
      go_wp2_with fail;go_still_tail 14,(by kernel_rfl);change wpList _ _ _ _ _ wr.drew;have hwd:Below wr.heap.size wr wr.drew:=(Below.refl _ wr).drew;go_wp2_with fail;refine(hcall.out wr.drew).mono ?_;rintro e wA ⟨rfl,hbA⟩;have GA:=hwd.trans hbA;have HSA:=Lib.hid (HS.out.below GA);have k0:=(GA.cell (p:=⟨g,j*2,none⟩) hgl).trans c0;have k1:=(GA.cell (p:=⟨g,j*2+1,none⟩) hgl).trans c1;have l0:=(GA.cell (p:=⟨g,(j+1)*2,none⟩) hgl).trans d0;have l1:=(GA.cell (p:=⟨g,(j+1)*2+1,none⟩) hgl).trans d1;have m0:=HSA.out.own.frozenAt (j*2);have m1:=HSA.out.own.frozenAt (j*2+1);have m2:=HSA.out.own.frozenAt ((j+1)*2);have m3:=HSA.out.own.frozenAt ((j+1)*2+1);have ml:g<wA.heap.size:=(HSA.out.own.lt g rfl).2;clear c0 c1 d0 d1 f0 f1 f2 f3 hgl hbA hwd hcall GA HS;by_cases hxy:x1<y1
      ·have hR2:decide (cmpI x1 y1<0)=true:=by simp[cmpI,hxy]
       have HNEW:=Lib.hid (HW.out wA HSA.out);have HDD:=Lib.hid (HDn.out hxy);clear HW HDn HE HSA hxy;generalize cmpI x1 y1=R at *;go_wp2_with fail
       go_region
       go_wp2;go_roundw
       case rel=>exact⟨j,by go_num,by omega,HDD.out,HNEW.out.below (Below.refl _ _).drew⟩
       case measure=>simp[intOf]
      ·have hR2:decide (cmpI x1 y1<0)=false:=by
        simp only[cmpI,if_neg hxy];split <;> simp
       have HEE:=Lib.hid (HE.out (by omega));clear HW HDn HE hxy;generalize cmpI x1 y1=R at *;go_wp2;go_roundw
       case rel=>exact⟨k+1,by omega,by omega,by go_num,by rw[HR.out,← HEE.out];exact HSA.out⟩
       case measure=>simp[intOf];omega
  ·obtain rfl:n=k:=by omega
   have HF:Hid (SrtO w wr base g cap n (bkt l K)):=by
    have h:=HS.out;have e1:l.take n=l:=by rw[Hl.out,List.take_length]
    have e2:l.drop n=[]:=by rw[Hl.out,List.drop_length]
    rw[e1,e2,List.append_nil]at h;exact Lib.hid h
   clear HS;go_wp2
   go_end0
   exact⟨rfl,HF.out⟩
/-- Sorted in place: nothing but the row's block is changed. -/
def SortQ (w:World) (base:Nat) (s:Sl) (l:List P2) (e:Ending) (w':World):Prop:=e=.returned (.tuple #[])∧w.grownBy w' (Value.slice s.A s.n s.c).ownBlock∧PrO w' 136 base s l
set_option maxRecDepth 100000 in
set_option maxHeartbeats 1000000 in
theorem pdq_any {w:World} {base K:Nat} {s:Sl} {l:List P2} (lim:Int) (h:PrO w 136 base s l) (hn:l.length≤12) (hK:∀p∈l,0≤p.1∧p.1<(K:Int)) :
 Calls Tryz.prog 115 #[.slice s.A s.n s.c,.int .i64 0,.int .i64 s.n,.int .i64 lim,.func (.func 97) #[] #[]] w (SortQ w base s (bkt l K)):=by
 have HI:Hid (Calls Tryz.prog 165 #[.slice s.A s.n s.c,.int .i64 0,.int .i64 s.n,.func (.func 97) #[] #[]] w (SortQ w base s (bkt l K))):=by
  show Calls _ _ _ _ _;have hl:=h.len;have hlb:=bkt_len l K hK l.length (Nat.le_refl _);rw[List.take_length]at hlb;have hwf:∀p∈bkt l K,(-9223372036854775808≤p.1∧p.1≤9223372036854775807)∧-9223372036854775808≤p.2∧p.2≤9223372036854775807:=fun p hp=>h.wf p (bkt_mem l K p hp)
  rcases Nat.eq_zero_or_pos s.n with hz|hz
  ·have e0:l=[]:=List.eq_nil_of_length_eq_zero (by omega);have e1:bkt l K=[]:=List.eq_nil_of_length_eq_zero (by omega);have HF:Hid (SortQ w base s (bkt l K) (.returned (.tuple #[])) w):=⟨rfl,⟨rfl,rfl,rfl,Nat.le_refl _,fun _ _ _=>rfl⟩,by rw[e1,← e0];exact h⟩;rw[hz];obtain⟨A,n,c⟩:=s;dsimp only at hz⊢;subst hz;clear h hl hlb hwf e0 e1;go_enter Tryz.func165,Tryz.ntmps165;go_wp2_with fail;refine wp_loop_rounds 1 ?_;rw[rounds_succ];go_wp2;exact bodyPost_ret (results_none rfl _ _ _) rfl HF.out
  ·obtain⟨A,n,c⟩:=s;dsimp only at *;obtain⟨g,cap,hv⟩:=row_some h.own hz;cases hv;have hl2:n=l.length:=hl;have:=isort_any (K:=K) h.own hl2 (show n≤12 by omega) hz hK;exact this.mono fun e w' ⟨he,hs⟩=>⟨he,hs.gr,hs.own,by rw[hlb];exact hl,h.small,hwf⟩
 have hd:s.n≤12:=by have:=h.len;omega
 obtain⟨A,n,c⟩:=s;dsimp only at *;clear h;go_enter Tryz.func115,Tryz.ntmps115;go_wp2_with fail;refine wp_loop_rounds 1 ?_;rw[rounds_succ];go_wp2_with fail;refine HI.out.mono ?_;rintro e w1 ⟨rfl,hg,hp⟩;go_wp2;refine bodyPost_ret (results_none rfl _ _ _) rfl ?_;exact⟨rfl,hg,hp⟩
set_option maxRecDepth 100000 in
set_option maxHeartbeats 1000000 in
theorem sort_am {w:World} {base K:Nat} {s:Sl} {l:List P2} (h:PrO w 136 base s l) (hn:l.length≤12) (hK:∀p∈l,0≤p.1∧p.1<(K:Int)) :
 Calls Tryz.prog 96 #[.slice s.A s.n s.c,.func (.func 97) #[] #[]] w (SortQ w base s (bkt l K)):=by
 have HI:=Lib.hid (fun lim=>pdq_any lim h hn hK);have hd:s.n≤12:=by have:=h.len;omega
 have HL:=Lib.hid (len_small s.n hd w);obtain⟨A,n,c⟩:=s;dsimp only at *;clear h;go_enter Tryz.func96,Tryz.ntmps96;go_wp2_with fail;refine HL.out.mono ?_;rintro e w1 ⟨y,rfl,rfl⟩;go_wp2_with fail;refine(HI.out _).mono ?_;rintro e w1 ⟨rfl,hg,hp⟩;go_wp2
 go_end0
 exact⟨rfl,hg,hp⟩
/-- The new places of the items, in the box pb. -/
def PlV (W:World) (pb:Nat) (pl:List Int):Prop:=∃gp:Nat,Bk W pb 22 [.slice (some ⟨gp,0,none⟩) pl.length pl.length]∧Bk W gp 3 (ints pl)
theorem PlV.below {W W':World} {pb:Nat} {pl:List Int} (h:PlV W pb pl) (hb:Below W.heap.size W W'):PlV W' pb pl:=by
 obtain⟨gp,h1,h2⟩:=h;exact⟨gp,h1.below hb h1.lt,h2.below hb h2.lt⟩
theorem PlV.grown {W W':World} {pb base n:Nat} {pl:List Int} {v:Value} {xs:List Value} {r:Option Nat} (h:PlV W pb pl) (hg:W.grownBy W' r) (ho:W.ownsRow base 136 2 v n xs) (hr:r=v.ownBlock):PlV W' pb pl:=by
 obtain⟨gp,h1,h2⟩:=h;subst hr;exact⟨gp,h1.grown hg (fun e=>row_neP ho h1 (by decide) e.symm),h2.grown hg (fun e=>row_neP ho h2 (by decide) e.symm)⟩
def plAt (pl:List Int) (x:Int):Int:=pl[x.toNat]?.getD 0
theorem ints_get (pl:List Int) (k:Nat) (h:k<pl.length):(ints pl)[k]? = some (.int .i64 pl[k]):=by simp[ints,h]
theorem place_any {W:World} {pb:Nat} {pl:List Int} (h:PlV W pb pl) (x:Nat) (hx:x<pl.length):Calls Tryz.prog 52 #[.int .i64 x,.pointer (some ⟨pb,0,none⟩)] W fun e w'=>e=.returned (.int .i64 (plAt pl x))∧W=w':=by
 obtain⟨gp,h1,h2⟩:=h;have c0:W.cell? ⟨pb,0,none⟩=some (.slice (some ⟨gp,0,none⟩) pl.length pl.length):=h1.cell 0;have c1:W.cell? ⟨gp,x,none⟩=some (.int .i64 pl[x]):=(h2.cell x).trans (ints_get pl x hx);have l0:=h1.lt;have l1:=h2.lt;have hv:Hid (plAt pl x=pl[x]):=by show plAt pl x=pl[x];simp[plAt,hx]
 have i0:(0:Int)≤(x:Int):=by omega
 have i1:(x:Int)<(pl.length:Int):=by omega
 generalize pl[x]=y at *;go_enter Tryz.func52,Tryz.ntmps52;go_wp2;go_ret;exact⟨by rw[hv.out];rfl,rfl⟩
def mvA (pl:List Int) (p:P2):P2:=(plAt pl p.1,p.2)
theorem SrtO.set1 {w W:World} {base g cap n:Nat} {l:List P2} (h:SrtO w W base g cap n l) (k:Nat) (y:Int) (hk:k<l.length):SrtO w (W.setCell ⟨g,k*2,none⟩ (.int .i64 y)) base g cap n (l.set k (y,l[k].2)):=by
 refine⟨grown_tr h.gr (grown_setCell _ g _ _),?_⟩;have e:pcells (l.set k (y,l[k].2))=(pcells l).set (k*2) (.int .i64 y):=by
  rw[pcells_setk _ _ _ hk];have hg:((pcells l).set (k*2) (.int .i64 y))[k*2+1]? = some (.int .i64 l[k].2):=by
   rw[List.getElem?_set_ne (by omega)];exact(flat_get pc_len l k 1 hk (by omega))
  apply List.ext_getElem?;intro i;by_cases hi:i=k*2+1
  ·subst hi;rw[hg,List.getElem?_set_self (by rw[List.length_set,pcells_len1];omega)]
  ·rw[List.getElem?_set_ne (fun e=>hi e.symm)]
 rw[e];exact(h.own.stored _ _).1
theorem mv_step (f:P2→P2) (l:List P2) (k:Nat) (hk:k<l.length):((l.take k).map f ++ l.drop k).set k (f l[k])=(l.take (k+1)).map f ++ l.drop (k+1):=by
 have e:l.take (k+1)=l.take k ++ [l[k]]:=by rw[List.take_add_one,List.getElem?_eq_getElem hk];rfl
 have hl:((l.take k).map f).length=k:=by rw[List.length_map,List.length_take];omega
 rw[List.set_append_right _ _ (by omega),hl,Nat.sub_self,List.drop_eq_getElem_cons hk,List.set_cons_zero,e,List.map_append,List.append_assoc];rfl
theorem mv_get (f:P2→P2) (l:List P2) (k:Nat) (hk:k<l.length) (h:k<((l.take k).map f ++ l.drop k).length):((l.take k).map f ++ l.drop k)[k]=l[k]:=by
 have hl:((l.take k).map f).length=k:=by rw[List.length_map,List.length_take];omega
 rw[List.getElem_append_right (by omega)];simp[hl,Nat.min_eq_left (Nat.le_of_lt hk)]
theorem mv_len (f:P2→P2) (l:List P2) (k:Nat) (hk:k≤l.length):((l.take k).map f ++ l.drop k).length=l.length:=by simp;omega
/-- What a call of rewrite's closure meets. -/
structure RwK (W : World) (tb pb : Nat) (pl : List Int) (K : Nat) : Prop where
 box:Bk W tb 100 [.func (.func 52) #[] #[.pointer (some ⟨pb,0,none⟩)]]
 plv:PlV W pb pl
 pos:∀x∈pl,0≤x∧x<(K:Int)
 K64:K≤1000000
theorem RwK.below {W W':World} {tb pb K:Nat} {pl:List Int} (h:RwK W tb pb pl K) (hb:Below W.heap.size W W'):RwK W' tb pb pl K:=⟨h.box.below hb h.box.lt,h.plv.below hb,h.pos,h.K64⟩
theorem RwK.grown {W W':World} {tb pb K base n:Nat} {pl:List Int} {v:Value} {xs:List Value} (h:RwK W tb pb pl K) (hg:W.grownBy W' v.ownBlock) (ho:W.ownsRow base 136 2 v n xs):RwK W' tb pb pl K :=
 ⟨h.box.grown hg (fun e=>row_neP ho h.box (by decide) e.symm),h.plv.grown hg ho rfl,h.pos,h.K64⟩
theorem plAt_mem {pl:List Int} {x:Int} (h0:0≤x) (h1:x<(pl.length:Int)):plAt pl x∈pl:=by
 have:x.toNat<pl.length:=by omega
 simp only[plAt,List.getElem?_eq_getElem this,Option.getD_some];exact List.getElem_mem _
set_option maxRecDepth 100000 in
set_option maxHeartbeats 2000000 in
theorem amounts_rw {w:World} {base tb pb K:Nat} {pl:List Int} {s:Sl} {l:List P2} (h:PrO w 136 base s l) (hk:RwK w tb pb pl K) (hn:l.length≤12) (hr:∀p∈l,0≤p.1∧p.1<(pl.length:Int)) :
 Calls Tryz.prog 95 #[.slice s.A s.n s.c,.pointer (some ⟨tb,0,none⟩)] w (SortQ w base s (bkt (l.map (mvA pl)) K)):=by
 have hpos:∀p∈l.map (mvA pl),0≤p.1∧p.1<(K:Int):=fun p hp=>by
  obtain⟨q,hq,rfl⟩:=List.mem_map.1 hp;exact hk.pos _ (plAt_mem (hr q hq).1 (hr q hq).2)
 have HP:=Lib.hid hpos;have Hs:=Lib.hid h.small;rcases Nat.eq_zero_or_pos s.n with hz|hz
 ·have e0:l=[]:=List.eq_nil_of_length_eq_zero (by have:=h.len;omega);subst e0;have HS:=Lib.hid (sort_am (K:=K) h hn (by simp));obtain⟨A,n,c⟩:=s;dsimp only at hz HS⊢;subst hz;clear h hpos HP Hs;go_enter Tryz.func95,Tryz.ntmps95;go_wp2_with fail;refine wp_loop_rounds 1 ?_;rw[rounds_succ];go_wp2_with fail;refine HS.out.mono ?_;rintro e w1 ⟨rfl,hg,hp⟩;go_wp2
  go_end0
  exact⟨rfl,hg,hp⟩
 ·have HR:=Lib.hid hr;have HK:=Lib.hid hk;have HH:=Lib.hid h;have hl:Hid (s.n=l.length):=h.len;have hn12:s.n≤12:=by have:=h.len;omega
  obtain⟨A,n,c⟩:=s;dsimp only at *;obtain⟨g,cap,hv⟩:=row_some h.own hz;cases hv;have HS0:Hid (SrtO w w base g c n l):=⟨⟨rfl,rfl,rfl,Nat.le_refl _,fun _ _ _=>rfl⟩,h.own⟩;clear h hr hk hpos;go_enter Tryz.func95,Tryz.ntmps95;go_wp2_with fail;go_loopw [6] (fun i wr=>∃k:Nat,k≤n∧i=.int .i64 k∧SrtO w wr base g c n ((l.take k).map (mvA pl) ++ l.drop k)) (fun i _=>n-(intOf i).toNat)
  case atStart=>exact⟨0,Nat.zero_le _,rfl,by simpa using HS0.out⟩
  case round =>
   obtain⟨k,hk,rfl,hS⟩:=hrel;have HS:=Lib.hid hS;clear hS HS0;by_cases hlt:k<n
   ·have hkl:k<l.length:=by have:=hl.out;omega
    have hln:=mv_len (mvA pl) l k (by omega);have hc:=(own_p2 HS.out.own (k:=k) (by omega)).1;rw[mv_get (mvA pl) l k hkl (by omega)]at hc;have hc2:=(own_p2 HS.out.own (k:=k) (by omega)).2;rw[mv_get (mvA pl) l k hkl (by omega)]at hc2;have HW:=Lib.hid (fun(W:World) (h:SrtO w W base g c n ((l.take k).map (mvA pl) ++ l.drop k))=>h.set1 k (plAt pl l[k].1) (by omega));have he:=mv_get (mvA pl) l k hkl (by omega);rw[he]at HW;have HM:=Lib.hid (mv_step (mvA pl) l k hkl);have hx:=HR.out l[k] (List.getElem_mem hkl);have HKr:=Lib.hid (HK.out.grown HS.out.gr HH.out.own);have HF:Hid (∀W:World,SrtO w W base g c n ((l.take k).map (mvA pl) ++ l.drop k)→SrtO w (W.setCell ⟨g,k*2,none⟩ (.int .i64 (plAt pl l[k].1))) base g c n ((l.take (k+1)).map (mvA pl) ++ l.drop (k+1))):=by
     show ∀W:World,_→_;intro W h;have:=HW.out W h;rw[show(plAt pl l[k].1,l[k].2)=mvA pl l[k] from rfl,HM.out]at this;exact this
    clear HW HM he;have hb:=HKr.out.box;have b0:wr.cell? ⟨tb,0,none⟩=some (.func (.func 52) #[] #[.pointer (some ⟨pb,0,none⟩)]):=hb.cell 0;have bl:=hb.lt;have gl:g<wr.heap.size:=(HS.out.own.lt g rfl).2;have fz:=HS.out.own.frozenAt (k*2);obtain⟨x,hxx⟩:=Int.eq_ofNat_of_zero_le hx.1;rw[hxx]at hc HF;have hx2:x<pl.length:=by have:=hx.2;omega
    have KC:=Lib.hid (place_any (HKr.out.plv.below (Below.refl _ wr).drew) x hx2);have i0:(0:Int)≤(k:Int):=by omega
    have i1:(k:Int)<(n:Int):=by omega
    generalize plAt pl (x:Int)=y at *;clear hx hxx hkl hln hb HKr hc2;go_wp2_with fail;refine wp_region_X (fun w'=>w'.cell? ⟨tb,0,none⟩=some (.func (.func 52) #[] #[.pointer (some ⟨pb,0,none⟩)])∧tb<w'.heap.size∧w'.cell? ⟨g,k*2,none⟩=some (.int .i64 x)∧g<w'.heap.size) 11 (n:=12) rfl (by kernel_rfl) (⟨b0,bl,hc,gl⟩) (fun hS=>?_);refine X_take 0 (some 9) (v:=?_) rfl rfl rfl (by kernel_rfl) (fun _ _ _ h=>h) ⟨rfl,?_⟩ hS ?_;rotate_left
    ·intro w' hS';(go_simp;try with_reducible rfl)
    refine X_take 1 (some 10) (v:=?_) rfl rfl rfl (by kernel_rfl) (fun _ _ _ h=>h) ⟨rfl,?_⟩ hS ?_;rotate_left
    ·intro w' hS';(go_simp;try with_reducible rfl)
    refine X_take 2 (some 11) (v:=?_) rfl rfl rfl (by kernel_rfl) (fun _ _ _ h=>h) ⟨rfl,?_⟩ hS ?_;rotate_left
    ·intro w' hS';obtain⟨e0,e1,_,_⟩:=hS';(go_simp;try with_reducible rfl)
    refine X_take 3 (some 12) (v:=?_) rfl rfl rfl (by kernel_rfl) (fun _ _ _ h=>h) ⟨rfl,?_⟩ hS ?_;rotate_left
    ·intro w' hS';(go_simp;try with_reducible rfl)
    refine X_take 4 (some 13) (v:=?_) rfl rfl rfl (by kernel_rfl) (fun _ _ _ h=>h) ⟨rfl,?_⟩ hS ?_;rotate_left
    ·intro w' hS';(go_simp;try with_reducible rfl)
    refine X_take 5 (some 14) (v:=?_) rfl rfl rfl (by kernel_rfl) (fun _ _ _ h=>h) ⟨rfl,?_⟩ hS ?_;rotate_left
    ·intro w' hS';(go_simp;try with_reducible rfl)
    refine X_take 6 (some 15) (v:=?_) rfl rfl rfl (by kernel_rfl) (fun _ _ _ h=>h) ⟨rfl,?_⟩ hS ?_;rotate_left
    ·intro w' hS';(go_simp;try with_reducible rfl)
    refine X_take 7 (some 16) (v:=?_) rfl rfl rfl (by kernel_rfl) (fun _ _ _ h=>h) ⟨rfl,?_⟩ hS ?_;rotate_left
    ·intro w' hS';obtain⟨_,_,e0,e1⟩:=hS';(go_simp;try with_reducible rfl)
    refine X_one 8 (by kernel_rfl) rfl rfl (fun K hK=>?_);go_simp;refine KC.out.mono ?_;rintro e wA ⟨rfl,rfl⟩;refine hK _ _ hS ?_;clear hK;refine X_one 9 (by kernel_rfl) rfl rfl (fun K hK=>?_);go_simp;refine hK _ _ hS ?_;clear hK;refine X_one 10 (by kernel_rfl) rfl rfl (fun K hK=>?_);go_simp;refine hK _ _ hS ?_;clear hK;refine X_tail (by kernel_rfl) ?_;refine A_one 11 (by kernel_rfl) rfl rfl (fun K hK=>?_);have fz2:wr.drew.frozen? ⟨g,k*2,none⟩=false:=fz;obtain⟨_,_,e0,e1⟩:=hS;go_simp;refine hK _ _ ?_;clear hK;refine A_done (by kernel_rfl) ?_;have HZ:=Lib.hid (HF.out _ (HS.out.below (Below.refl _ wr).drew));clear HF HS KC;go_wp2_with fail;go_roundw
    case rel=>exact⟨k+1,by omega,by go_num,HZ.out⟩
    case measure=>simp[intOf];omega
   ·obtain rfl:n=k:=by omega
    have HF:Hid (SrtO w wr base g c n (l.map (mvA pl))):=by
     have h:=HS.out;have e1:l.take n=l:=by rw[hl.out,List.take_length]
     have e2:l.drop n=[]:=by rw[hl.out,List.drop_length]
     rw[e1,e2,List.append_nil]at h;exact Lib.hid h
    have hwf:∀p∈l.map (mvA pl),(-9223372036854775808≤p.1∧p.1≤9223372036854775807)∧-9223372036854775808≤p.2∧p.2≤9223372036854775807:=fun p hp=>by
     have hq:=HP.out p hp;have hK:=HK.out.K64;obtain⟨q,hq2,rfl⟩:=List.mem_map.1 hp;exact⟨by omega,(HH.out.wf q hq2).2⟩
    have HO:Hid (PrO wr 136 base ⟨some ⟨g,0,none⟩,n,c⟩ (l.map (mvA pl))):=⟨HF.out.own,by rw[List.length_map];exact hl.out,Hs.out,hwf⟩;have HQ:=Lib.hid (sort_am (K:=K) HO.out (by rw[List.length_map];exact hn) HP.out);clear HS hwf HO;go_wp2_with fail;refine HQ.out.mono ?_;rintro e w1 ⟨rfl,hg,hp⟩;have HG:=Lib.hid (grown_tr HF.out.gr hg);go_wp2
    go_end0
    exact⟨rfl,HG.out,hp⟩
abbrev sz0:Sl:=⟨none,0,0⟩
/-- What a part of a catalog says, wherever its lists lie. -/
def RuM.core (r:RuM):RuM:={ r with st:=sz0,sg:=sz0,sb:=sz0 }
def RwM.core (r:RwM):RwM:={ r with sg:=sz0 }
def TbM.core (t:TbM):TbM:=⟨t.name,t.rows.map RwM.core,sz0⟩
def TxM.core (t:TxM):TxM:={ t with sb:=sz0 }
def CatM.core (m:CatM):CatM:=⟨m.items,m.rules.map RuM.core,m.tables.map TbM.core,m.taxes.map TxM.core,sz0,sz0,sz0,sz0⟩
theorem Cp.core {α:Type} {C:World→Nat→α→α→Prop} {sls:α→List Sl} {W:World} {base:Nat} {l l':List α} (h:Cp C sls W base l l') (f:α→α) (hC:∀x x',C W base x x'→f x'=f x):l'.map f=l.map f:=by
 apply List.ext_getElem
 ·simp[h.1]
 ·intro i h1 h2;simp only[List.getElem_map];exact hC _ _ (h.2.1 i _ _ (List.getElem?_eq_getElem (by simpa using h2)) (List.getElem?_eq_getElem (by simpa using h1)))
theorem RuC.core {W:World} {base:Nat} {r r':RuM} (h:RuC W base r r'):r'.core=r.core:=by rw[h.same];rfl
theorem RwC.core {W:World} {base:Nat} {r r':RwM} (h:RwC W base r r'):r'.core=r.core:=by rw[h.same];rfl
theorem TxC.core {W:World} {base:Nat} {r r':TxM} (h:TxC W base r r'):r'.core=r.core:=by rw[h.same];rfl
theorem TbC.core {W:World} {base:Nat} {r r':TbM} (h:TbC W base r r'):r'.core=r.core:=by simp only[TbM.core,h.name,h.rows.core RwM.core fun _ _ k=>k.core]
theorem CatC.core {W:World} {base:Nat} {m m':CatM} (h:CatC W base m m'):m'.core=m.core:=by
 simp only[CatM.core,h.items,h.rules.core RuM.core fun _ _ k=>k.core,h.tables.core TbM.core fun _ _ k=>k.core,h.taxes.core TxM.core fun _ _ k=>k.core]
abbrev SlP:=Sl×List P2
def amL (pl:List Int) (K:Nat) (l:List P2):List P2:=bkt (l.map (mvA pl)) K
def amP (pl:List Int) (K:Nat) (x:SlP):SlP:=(x.1,amL pl K x.2)
def mvR (pl:List Int) (K:Nat) (r:RuM):RuM:={ r with take:=amL pl K r.take,give:=amL pl K r.give,back:=amL pl K r.back }
def mvW (pl:List Int) (K:Nat) (r:RwM):RwM:={ r with give:=amL pl K r.give }
def mvT (pl:List Int) (K:Nat) (t:TbM):TbM:={ t with rows:=t.rows.map (mvW pl K) }
def ruL (r:RuM):List SlP:=[(r.st,r.take),(r.sg,r.give),(r.sb,r.back)]
def tbL (t:TbM):List SlP:=t.rows.map fun r=>(r.sg,r.give)
def AllP (W:World) (base:Nat) (l:List SlP):Prop:=∀x∈l,PrO W 136 base x.1 x.2
theorem Apart.symm {a b:Sl} (h:Apart a b):Apart b a:=fun g hb ha=>h g ha hb
/-- The lists before x are done, x comes next. -/
theorem AllP.step {W W':World} {base:Nat} {pl:List Int} {K:Nat} {done rest:List SlP} {x:SlP} {e:Ending} (h:AllP W base (done.map (amP pl K) ++ x :: rest)) (hd:((done ++ x :: rest).map (·.1)).Pairwise Apart) (hs:SortQ W base x.1 (amL pl K x.2) e W') :
 AllP W' base ((done ++ [x]).map (amP pl K) ++ rest):=by
 rw[List.map_append,List.map_cons,List.pairwise_append]at hd;obtain⟨_,h2,h3⟩:=hd;rw[List.pairwise_cons]at h2;intro y hy;simp only[List.map_append,List.map_cons,List.map_nil,List.append_assoc,List.mem_append,List.mem_singleton]at hy;rcases hy with hy|hy|hy
 ·obtain⟨z,hz,rfl⟩:=List.mem_map.1 hy;have hp:=h _ (List.mem_append_left _ hy);have ha:=h3 z.1 (List.mem_map.2 ⟨z,hz,rfl⟩) x.1 (List.mem_cons_self ..);exact hp.grown hs.2.1 fun g hg hz=>ha g hz hg
 ·subst hy;exact hs.2.2
 ·have hp:=h _ (List.mem_append_right _ (List.mem_cons_of_mem _ hy));have ha:=h2.1 y.1 (List.mem_map.2 ⟨y,hy,rfl⟩);exact hp.grown hs.2.1 fun g hg hz=>ha g hg hz
theorem AllP.below {W W':World} {base:Nat} {l:List SlP} (h:AllP W base l) (hb:Below W.heap.size W W'):AllP W' base l:=fun x hx=>(h x hx).below hb
theorem Bk.keep {W W':World} {g:Nat} {t:TypeId} {xs:List Value} (h:Bk W g t xs) (hk:Keep t W W'):Bk W' g t xs:=hk g _ _ h
theorem RwK.keep {W W':World} {tb pb K:Nat} {pl:List Int} (h:RwK W tb pb pl K) (hk:∀t,t≠136→Keep t W W'):RwK W' tb pb pl K:=by
 obtain⟨gp,h1,h2⟩:=h.plv;exact⟨h.box.keep (hk 100 (by decide)),⟨gp,h1.keep (hk 22 (by decide)),h2.keep (hk 3 (by decide))⟩,h.pos,h.K64⟩
/-- What holds while the amounts are rewritten, apart from the amounts. -/
structure RwSt (w W : World) (tb pb b6 b7 K : Nat) (pl : List Int) (m : CatM) : Prop where
 bel:Below w.heap.size w W
 rk:RwK W tb pb pl K
 k6:Bk W b6 28 [.slice none 0 0,.slice none 0 0,.slice none 0 0,.slice none 0 0]
 k7:Bk W b7 28 (catSL m.si m.sr m.st m.sx)
 its:TRow W 89 m.si.A (icells m.items)
 rr:TRow W 103 m.sr.A (m.rules.flatMap RuM.cells)
 tt:TRow W 107 m.st.A (m.tables.flatMap TbM.cells)
 ro:∀t∈m.tables,TRow W 109 t.sr.A (t.rows.flatMap RwM.cells)
 xx:TRow W 115 m.sx.A (m.taxes.flatMap TxM.cells)
 br:∀t∈m.taxes,PrV W 129 t.sb t.brs
theorem RwSt.keep {w W W':World} {tb pb b6 b7 K:Nat} {pl:List Int} {m:CatM} (h:RwSt w W tb pb b6 b7 K pl m) (hk:∀t,t≠136→Keep t W W') (hb:Below w.heap.size w W'):RwSt w W' tb pb b6 b7 K pl m :=
 ⟨hb,h.rk.keep hk,h.k6.keep (hk 28 (by decide)),h.k7.keep (hk 28 (by decide)),h.its.keep (hk 89 (by decide)),h.rr.keep (hk 103 (by decide)),h.tt.keep (hk 107 (by decide)),fun t ht=>(h.ro t ht).keep (hk 109 (by decide)),h.xx.keep (hk 115 (by decide)),fun t ht=>(h.br t ht).keep (hk 129 (by decide))⟩
theorem RwSt.below {w W W':World} {tb pb b6 b7 K:Nat} {pl:List Int} {m:CatM} (h:RwSt w W tb pb b6 b7 K pl m) (hb:Below W.heap.size W W'):RwSt w W' tb pb b6 b7 K pl m :=
 h.keep (fun _ _=>.below hb) (h.bel.trans (hb.mono h.bel.size))
theorem keep_sort {W W':World} {base:Nat} {s:Sl} {l l':List P2} {e:Ending} (hs:SortQ W base s l' e W') (ho:PrO W 136 base s l):∀t,t≠136→Keep t W W':=fun _ ht=>Keep.own ho.own hs.2.1 (Ne.symm ht)
theorem RwSt.sort {w W W':World} {tb pb b6 b7 K base:Nat} {pl:List Int} {m:CatM} {s:Sl} {l l':List P2} {e:Ending} (h:RwSt w W tb pb b6 b7 K pl m) (hs:SortQ W base s l' e W') (ho:PrO W 136 base s l) (hb:w.heap.size≤base):RwSt w W' tb pb b6 b7 K pl m :=
 h.keep (keep_sort hs ho) (h.bel.grown hs.2.1 h.bel.size (fun g hg=>by have:=(ho.at_ hg).1;omega))
/-- The lists of amounts: those that are done, those to come; all short, their items in range, their blocks apart. -/
structure AmS (W : World) (base : Nat) (pl : List Int) (K : Nat) (done rest : List SlP) : Prop where
 all:AllP W base (done.map (amP pl K) ++ rest)
 ap:((done ++ rest).map (·.1)).Pairwise Apart
 short:∀x∈rest,x.2.length≤12∧∀p∈x.2,0≤p.1∧p.1<(pl.length:Int)
theorem AmS.below {W W':World} {base K:Nat} {pl:List Int} {done rest:List SlP} (h:AmS W base pl K done rest) (hb:Below W.heap.size W W'):AmS W' base pl K done rest:=⟨h.all.below hb,h.ap,h.short⟩
theorem AmS.head {W:World} {base K:Nat} {pl:List Int} {done rest:List SlP} {x:SlP} (h:AmS W base pl K done (x :: rest)):PrO W 136 base x.1 x.2:=h.all x (by simp)
theorem AmS.step {W W':World} {base K:Nat} {pl:List Int} {done rest:List SlP} {x:SlP} {e:Ending} (h:AmS W base pl K done (x :: rest)) (hs:SortQ W base x.1 (amL pl K x.2) e W'):AmS W' base pl K (done ++ [x]) rest :=
 ⟨h.all.step h.ap hs,by simpa using h.ap,fun y hy=>h.short y (List.mem_cons_of_mem _ hy)⟩
theorem AmS.call {w W:World} {tb pb b6 b7 base K:Nat} {pl:List Int} {m:CatM} {done rest:List SlP} {x:SlP} (h:AmS W base pl K done (x :: rest)) (hr:RwSt w W tb pb b6 b7 K pl m) :
 Calls Tryz.prog 95 #[.slice x.1.A x.1.n x.1.c,.pointer (some ⟨tb,0,none⟩)] W (SortQ W base x.1 (amL pl K x.2)) :=
 amounts_rw h.head hr.rk (h.short x (List.mem_cons_self ..)).1 (h.short x (List.mem_cons_self ..)).2
/-- The catalog that rewrite returns. -/
def mvC (pl:List Int) (K:Nat) (m:CatM):CatM:={ m with rules:=m.rules.map (mvR pl K),tables:=m.tables.map (mvT pl K) }
theorem mvR_cells (pl:List Int) (K:Nat) (l:List RuM):(l.map (mvR pl K)).flatMap RuM.cells=l.flatMap RuM.cells:=by
 induction l with
 | nil=>rfl
 | cons a l ih=>simp only[List.map_cons,List.flatMap_cons,ih];rfl
theorem mvW_cells (pl:List Int) (K:Nat) (l:List RwM):(l.map (mvW pl K)).flatMap RwM.cells=l.flatMap RwM.cells:=by
 induction l with
 | nil=>rfl
 | cons a l ih=>simp only[List.map_cons,List.flatMap_cons,ih];rfl
theorem mvT_cells (pl:List Int) (K:Nat) (l:List TbM):(l.map (mvT pl K)).flatMap TbM.cells=l.flatMap TbM.cells:=by
 induction l with
 | nil=>rfl
 | cons a l ih=>simp only[List.map_cons,List.flatMap_cons,ih];rfl
def allL (m:CatM):List SlP:=m.rules.flatMap ruL ++ m.tables.flatMap tbL
theorem rw_ok {w W:World} {tb pb b6 b7 base K:Nat} {pl:List Int} {m:CatM} (h:RwSt w W tb pb b6 b7 K pl m) (ha:AmS W base pl K (allL m) []) (hi:ItsV W m.si m.items) (hn1:m.sr.n=m.rules.length) (hn2:m.st.n=m.tables.length) (hn3:m.sx.n=m.taxes.length)
 (hs:m.sr.n≤100000∧m.st.n≤100000∧m.sx.n≤100000) (hnm:(∀r∈m.rules,r.name.size≤8192)∧(∀t∈m.tables,t.name.size≤8192∧t.sr.n=t.rows.length∧t.sr.n≤100000)∧∀t∈m.taxes,t.name.size≤8192):(mvC pl K m).Ok W:=by
 have hall:=ha.all;rw[List.append_nil]at hall;have hp:∀x∈allL m,PrO W 136 base x.1 (amL pl K x.2):=fun x hx=>hall _ (List.mem_map.2 ⟨x,hx,rfl⟩)
 refine⟨hi,⟨by show TRow W 103 m.sr.A ((m.rules.map (mvR pl K)).flatMap RuM.cells);rw[mvR_cells];exact h.rr,by show m.sr.n=(m.rules.map (mvR pl K)).length;rw[List.length_map];exact hn1,hs.1,fun r' hr=>?_⟩,
  ⟨by show TRow W 107 m.st.A ((m.tables.map (mvT pl K)).flatMap TbM.cells);rw[mvT_cells];exact h.tt,by show m.st.n=(m.tables.map (mvT pl K)).length;rw[List.length_map];exact hn2,hs.2.1,fun r' hr=>?_⟩,
  ⟨h.xx,hn3,hs.2.2,fun t ht=>⟨h.br t ht,hnm.2.2 t ht⟩⟩⟩
 ·obtain⟨r,hr0,rfl⟩:=List.mem_map.1 hr;have hx:∀x∈ruL r,PrO W 136 base x.1 (amL pl K x.2):=fun x hx=>hp x (List.mem_append_left _ (List.mem_flatMap.2 ⟨r,hr0,hx⟩))
  exact⟨(hx (r.st,r.take) (by simp[ruL])).prV,(hx (r.sg,r.give) (by simp[ruL])).prV,(hx (r.sb,r.back) (by simp[ruL])).prV,hnm.1 r hr0⟩
 ·obtain⟨t,ht,rfl⟩:=List.mem_map.1 hr;have hx:∀x∈tbL t,PrO W 136 base x.1 (amL pl K x.2):=fun x hx=>hp x (List.mem_append_right _ (List.mem_flatMap.2 ⟨t,ht,hx⟩))
  refine⟨⟨by show TRow W 109 t.sr.A ((t.rows.map (mvW pl K)).flatMap RwM.cells);rw[mvW_cells];exact h.ro t ht,by show t.sr.n=(t.rows.map (mvW pl K)).length;rw[List.length_map];exact(hnm.2.1 t ht).2.1,(hnm.2.1 t ht).2.2,fun r' hr'=>?_⟩,(hnm.2.1 t ht).1⟩;obtain⟨r,hr,rfl⟩:=List.mem_map.1 hr';exact(hx (r.sg,r.give) (List.mem_map.2 ⟨r,hr,rfl⟩)).prV
theorem CatC.allP {W:World} {base:Nat} {m m':CatM} (h:CatC W base m m'):AllP W base (allL m'):=by
 intro x hx;rcases List.mem_append.1 hx with hx|hx
 ·obtain⟨r',hr,hx⟩:=List.mem_flatMap.1 hx;obtain⟨r,hc⟩:=h.rules.mem hr;simp only[ruL,List.mem_cons,List.not_mem_nil,or_false]at hx;rcases hx with rfl|rfl|rfl
  ·exact hc.take
  ·exact hc.give
  ·exact hc.back
 ·obtain⟨t',ht,hx⟩:=List.mem_flatMap.1 hx;obtain⟨t,hc⟩:=h.tables.mem ht;obtain⟨r',hr,rfl⟩:=List.mem_map.1 hx;obtain⟨r,hd⟩:=hc.rows.mem hr;exact hd.give
theorem allL_fst (m:CatM):(allL m).map (·.1)=m.rules.flatMap ruS ++ m.tables.flatMap tbS:=by
 have h1:∀l:List RuM,(l.flatMap ruL).map (·.1)=l.flatMap ruS:=fun l=>by
  induction l with
  | nil=>rfl
  | cons a l ih=>simp only[List.flatMap_cons,List.map_append,ih];rfl
 have h3:∀l:List RwM,(l.map fun r=>(r.sg,r.give)).map (·.1)=l.flatMap rwS:=fun l=>by
  induction l with
  | nil=>rfl
  | cons a l ih=>simp only[List.map_cons,List.flatMap_cons,ih];rfl
 have h2:∀l:List TbM,(l.flatMap tbL).map (·.1)=l.flatMap tbS:=fun l=>by
  induction l with
  | nil=>rfl
  | cons a l ih=>simp only[List.flatMap_cons,List.map_append,ih];rw[tbL,h3];rfl
 simp only[allL,List.map_append,h1,h2]
theorem CatC.apartL {W:World} {base:Nat} {m m':CatM} (h:CatC W base m m'):((allL m').map (·.1)).Pairwise Apart:=by
 rw[allL_fst,List.pairwise_append];exact⟨h.rules.2.2,h.tables.2.2,h.ap⟩
end Go.Proofs.YthjfdfdgbpbanaaGreatDoor

/- The law's renames: a copy. The generator of catalogs: its memory, next, some, amounts. The generator of catalogs: amounts and item. -/
import Derived.Test.YthjfdfdgbpbanaaGreatDoorX9
import Derived.Test.YthjfdfdgbpbanaaGreatDoorX20
import Derived.BigQuiet
import Derived.Maps.AppendAt
set_option linter.unusedVariables false
set_option linter.unusedSimpArgs false
set_option maxRecDepth 100000
set_option maxHeartbeats 2000000
open Go.RowKit
namespace Go.Proofs.YthjfdfdgbpbanaaGreatDoor
theorem info94:(Tryz.prog.info? 94).map (fun i=>(i.zero,i.size,i.bytes))=some (some (.agg #[.string ⟨#[]⟩,.string ⟨#[]⟩,.int .i64 0,.int .i64 0]),4,48):=by kernel_rfl
def RenCopy (w:World) (n:Nat) (rs:List Ren) (e:Ending) (w':World):Prop:=∃A c,e=.returned (.slice A n c)∧RensV w' A n rs∧Below w.heap.size w w'
theorem take_ren (l:List Ren) (k:Nat) (h:k<l.length):l.take (k+1)=l.take k ++ [renAt l k]:=by
 rw[List.take_succ_eq_append_getElem h];simp[renAt,h]
theorem renames_any {w:World} {A:Option Addr} {n:Nat} (c:Nat) {rs:List Ren} (h:RensV w A n rs) :
 Calls Tryz.prog 13 #[.slice A n c] w (RenCopy w n rs):=by
 obtain⟨i0,hi,hz0,hz1,hz2⟩:=info_parts info94;have Hn:=iH h.len;have H:=iH h;have hs:=h.small;clear h;go_enter Tryz.func13,Tryz.ntmps13;go_wp2_with fail;go_loopw [3,4] (fun v i wr=>∃k:Nat,k<=n∧i=.int .i64 k∧wr.ownsRow w.heap.size 94 4 v k (rcells (rs.take k))∧Below w.heap.size w wr) (fun _ i _=>n-(intOf i).toNat)
 case atStart=>exact⟨0,Nat.zero_le _,rfl,World.ownsRow_nil _ _ _ _,Below.refl _ _⟩
 case round =>
  obtain⟨k,hk,rfl,hown,hb⟩:=hrel;by_cases hlt:k<n
  ·have hkl:k<rs.length:=by have:=Hn.out;omega
   obtain⟨b,off,rfl,hbb,c0,c1,c2,c3⟩:=H.out.at_ k hlt;have HT:=iH (take_ren rs k hkl);have hsz:=hb.size;generalize renAt rs k=r at *;obtain⟨s,t,x,y⟩:=r;dsimp only at *;have HC:Hid (∀U:World,Below w.heap.size w U->U.cell? ⟨b,off+k*4,none⟩=some (.string s)∧U.cell? ⟨b,off+k*4+1,none⟩=some (.string t)∧U.cell? ⟨b,off+k*4+2,none⟩=some (.int .i64 x)∧U.cell? ⟨b,off+k*4+3,none⟩=some (.int .i64 y)) :=
    fun U hU=>⟨(hU.cell (p:=⟨b,_,none⟩) hbb).trans c0,(hU.cell (p:=⟨b,_,none⟩) hbb).trans c1,(hU.cell (p:=⟨b,_,none⟩) hbb).trans c2,(hU.cell (p:=⟨b,_,none⟩) hbb).trans c3⟩
   have OWN:Hid ((wr.drew.alloc (.cells #[.string s,.string t,.int .i64 x,.int .i64 y] 94)).ownsRow w.heap.size 94 4 u3 k (rcells (rs.take k))):=(hown.drew).alloc _;clear hown hkl c0 c1 c2 c3;have C1:=iH (new4 wr.drew 94 (.string s) (.string t) (.int .i64 x) (.int .i64 y));have k0:(0:Int)<=(k:Int):=by omega
   have k1:(k:Int)<(n:Int):=by omega
   have B1:Below w.heap.size w (wr.drew.alloc (.cells #[.string s,.string t,.int .i64 x,.int .i64 y] 94)):=hb.drew.alloc hsz _;have C3:Hid (k+1<=maxLen):=by show k+1<=maxLen;unfold maxLen;omega
   have C5:Hid (w.heap.size<=(wr.drew.alloc (.cells #[.string s,.string t,.int .i64 x,.int .i64 y] 94)).heap.size):=by show w.heap.size<=_;simp;omega
   have C6:Hid ((wr.drew.alloc (.cells #[.string s,.string t,.int .i64 x,.int .i64 y] 94)).heap.size=wr.heap.size+1):=by show _=_;simp
   go_wp2_with fail
   go_region_held3 (fun U=>U.cell? ⟨b,off+k*4,none⟩=some (.string s)∧U.cell? ⟨b,off+k*4+1,none⟩=some (.string t)∧U.cell? ⟨b,off+k*4+2,none⟩=some (.int .i64 x)∧U.cell? ⟨b,off+k*4+3,none⟩=some (.int .i64 y)) (first | exact HC.out _ hb.drew | exact HC.out _ B1 | exact HC.out _ BN)
    ((refine step_append_lies _ (by rfl) (.tmp 11) (.tmp 33) 37 (by rfl) w.heap.size 94 i0 (.agg #[.string ⟨#[]⟩,.string ⟨#[]⟩,.int .i64 0,.int .i64 0]) 4 48 Tryz.underlying37 hi hz0 hz1 hz2 rfl (by decide) _ k (rcells (rs.take k)) (by rfl) OWN.out ⟨wr.heap.size,0,none⟩ 1 1 [.string s,.string t,.int .i64 x,.int .i64 y] (by rfl) rfl C1.out (one4 s t x y) (by omega) C3.out (by omega) C5.out (wr.heap.size+1) C6.out ?_;intro g' cap w3 hown hgr hat hlt3;have BN:=B1.grown hgr C5.out (row_base OWN.out);have HO1:=iH hown;clear hown hgr hat))
   go_wp2;go_roundw
   case rel=>exact⟨k+1,by omega,by go_num,by rw[HT.out,rcells_snoc];exact HO1.out,BN⟩
   case measure=>simp[intOf];omega
  ·obtain rfl:n=k:=by omega
   rw[List.take_of_length_le (by have:=Hn.out;omega)]at hown;obtain⟨A',c',hv,hrow⟩:=row_of_owns hown;rw[hv];have HRow:=iH hrow;clear hv hown hrow;go_wp2;go_ret;exact⟨A',c',rfl,⟨HRow.out,Hn.out,hs,H.out.size⟩,hb⟩
section
def GOk (w:World) (g:Nat):Prop:=∃(A:Option Addr) (n c:Nat) (zs:List Int) (i:Int),Bk w g 122 [.slice A n c,.int .i64 i]∧IntsV w A n zs∧(∀b off,A=some ⟨b,off,none⟩->b<g)∧In64 i
section
variable {w w' V W W' X : World} {g : Nat}
theorem GOk.lt (h:GOk w g):g<w.heap.size:=by obtain⟨A,n,c,zs,i,h1,_⟩:=h;exact h1.lt
theorem GOk.below (h:GOk w g) (hb:Below w.heap.size w w'):GOk w' g:=by
 obtain⟨A,n,c,zs,i,h1,h2,h3,h4⟩:=h;exact⟨A,n,c,zs,i,h1.below hb h1.lt,h2.below hb,h3,h4⟩
theorem row_far {A:Option Addr} {xs:List Value} {b B:Nat} (h:Row w B A xs) (hg:w.grownBy w' (some b)) (hf:∀b' off,A=some ⟨b',off,none⟩->b'≠b) (hB:B<=w.heap.size):Row w' B A xs:=by
 rcases h with rfl|⟨b',off,rfl,hb,hc⟩
 ·exact .inl rfl
 ·exact .inr ⟨b',off,rfl,hb,fun j u hu=>(World.cell?_of_block (w:=w) (hg.block b' (by omega) (fun e=>hf b' off rfl (Option.some.inj e)))).trans (hc j u hu)⟩
theorem GOk.keep {b:Nat} (h:GOk w g) (hg:w.grownBy w' (some b)) (hb:g<b):GOk w' g:=by
 obtain⟨A,n,c,zs,i,h1,h2,h3,h4⟩:=h;exact⟨A,n,c,zs,i,h1.grown hg (by simp;omega),⟨(row_far h2.row hg (fun b' off e=>by have:=h3 b' off e;omega) (Nat.le_refl _)).more hg.size,h2.len,h2.wf⟩,h3,h4⟩
theorem GOk.row {v:Value} (h:GOk w g) (hg:w.grownBy w' v.ownBlock) (hb:∀b,v.ownBlock=some b->g<b):GOk w' g:=by
 cases hv:v.ownBlock with
 | none=>rw[hv]at hg;exact h.below ⟨hg.os,hg.tape,hg.output,hg.size,fun b hb=>hg.block b hb (by simp)⟩
 | some b=>rw[hv]at hg;exact h.keep hg (hb b hv)
theorem grown_trans {a b c:World} {row:Option Nat} (h:a.grownBy b row) (k:b.grownBy c row):a.grownBy c row :=
 ⟨k.os.trans h.os,k.tape.trans h.tape,k.output.trans h.output,Nat.le_trans h.size k.size,fun i hi hne=>(k.block i (Nat.lt_of_lt_of_le hi h.size) hne).trans (h.block i hi hne)⟩
structure GSt (V W : World) (g : Nat) : Prop where
 gr:V.grownBy W (some g)
 ok:GOk W g
 lt:g<V.heap.size
theorem GSt.refl (h:GOk V g):GSt V V g:=⟨⟨rfl,rfl,rfl,Nat.le_refl _,fun _ _ _=>rfl⟩,h,h.lt⟩
theorem GSt.trans (h:GSt V W g) (k:GSt W X g):GSt V X g:=⟨grown_trans h.gr k.gr,k.ok,h.lt⟩
theorem GSt.size (h:GSt V W g):V.heap.size<=W.heap.size:=h.gr.size
theorem GSt.below (h:GSt V W g) (hb:Below W.heap.size W W'):GSt V W' g:=⟨grown_trans h.gr (grown_of_below hb _),h.ok.below hb,h.lt⟩
theorem GSt.alloc (h:GSt V W g) (o:Obj):GSt V (W.alloc o) g:=h.below ((Below.refl _ _).alloc (Nat.le_refl _) o)
theorem GSt.grow {row:Option Nat} (h:GSt V W g) (hg:W.grownBy W' row) (hr:∀b,row=some b->V.heap.size<=b):GSt V W' g:=by
 have hlt:=h.lt;refine⟨⟨hg.os.trans h.gr.os,hg.tape.trans h.gr.tape,hg.output.trans h.gr.output,Nat.le_trans h.gr.size hg.size,fun i hi hne=>(hg.block i (Nat.lt_of_lt_of_le hi h.gr.size) (fun e=>?_)).trans (h.gr.block i hi hne)⟩,?_,hlt⟩
 ·have:=hr i e.symm;omega
 ·cases row with
  | none=>exact h.ok.below ⟨hg.os,hg.tape,hg.output,hg.size,fun b hb=>hg.block b hb (by simp)⟩
  | some b=>exact h.ok.keep hg (by have:=hr b rfl;omega)
theorem GSt.set (h:GSt V W g) (b k:Nat) (u:Value) (hb:V.heap.size<=b):GSt V (W.setCell ⟨b,k,none⟩ u) g:=h.grow (grown_setCell W b k u) (fun b' e=>by cases e;exact hb)
theorem GSt.bk (h:GSt V W g) {b:Nat} {t:TypeId} {xs:List Value} (k:Bk V b t xs) (hne:b≠g):Bk W b t xs:=k.grown h.gr (by simpa using hne)
theorem GSt.keep (h:GSt V W g) (hg:GOk V g) (t:TypeId) (ht:t≠122):Keep t V W:=by
 obtain⟨A,n,c,zs,i,h1,_⟩:=hg;refine .grown h.gr fun cur fl e=>?_
 unfold Bk at h1;rw[h1]at e;cases e;exact ht rfl
theorem GSt.own (h:GSt V W g) {base e size n:Nat} {v:Value} {xs:List Value} (k:V.ownsRow base e size v n xs) (hne:v.ownBlock≠some g):W.ownsRow base e size v n xs:=k.kept h.gr (.inr hne)
def NextG (V:World) (g:Nat) (m:Int) (e:Ending) (W:World):Prop:=∃x,e=.returned (.int .i64 x)∧0<=x∧x<m∧GSt V W g
theorem in64_wrap (x:Int):In64 (IntKind.i64.wrap x):=by rw[IntKind.wrap_i64];unfold In64;omega
theorem pick_q {A:Option Addr} {n c:Nat} {zs:List Int} (i m:Int) (h:IntsV w A n zs) (hi:In64 i) (hm:1<=m) (hm2:m<=9223372036854775807) (k:Nat) :
 Calls Tryz.prog 35 #[.slice A n c,.int .i64 i,.int .i64 m] (w.drewN k) fun e w'=>e=.returned (.int .i64 (pick zs i m))∧w'=w.drewN k :=
 (pick_any A n c zs _ i m (w.drewN k) h.row h.len h.wf hi.1 hi.2 hm hm2).mono fun _ _ ⟨a,b⟩=>⟨a,b.symm⟩
theorem next_g (m:Int) (h:GOk w g) (m0:1<=m) (m1:m<=9223372036854775807):Calls Tryz.prog 68 #[.pointer (some ⟨g,0,none⟩),.int .i64 m] w (NextG w g m):=by
 obtain⟨A,n,c,zs,i,h1,h2,h3,h4⟩:=h;have hlt:=h1.lt;have c0:=h1.k0;have c1:=h1.k1;have f1:=h1.frozen 1;obtain⟨i2,hi2⟩:∃i2,IntKind.i64.wrap (i+1)=i2:=⟨_,rfl⟩;obtain⟨i3,hi3⟩:∃i3,IntKind.i64.wrap (i2-1)=i3:=⟨_,rfl⟩;have in3:In64 i3:=by rw[<- hi3];exact in64_wrap _
 have hg:=grown_setCell w g 1 (.int .i64 i2);have hI:IntsV (w.setCell ⟨g,1,none⟩ (.int .i64 i2)) A n zs:=⟨(row_far h2.row hg (fun b' off e=>by have:=h3 b' off e;omega) (Nat.le_refl _)).more hg.size,h2.len,h2.wf⟩;have HG:Hid (GSt w (w.setCell ⟨g,1,none⟩ (.int .i64 i2)) g):=⟨hg,⟨A,n,c,zs,i2,h1.set 1 _,hI,h3,by rw[<- hi2];exact in64_wrap _⟩,hlt⟩;have HK:Hid (Bk (w.setCell ⟨g,1,none⟩ (.int .i64 i2)) g 122 [.slice A n c,.int .i64 i2]):=h1.set 1 _;have HI:=iH hI;have Hin:=iH in3;clear h1 h2 h3 h4 hg hI in3;go_enter Tryz.func68,Tryz.ntmps68;go_wp2_with fail;obtain⟨W,hW⟩:∃W,w.setCell ⟨g,1,none⟩ (.int .i64 i2)=W:=⟨_,rfl⟩;rw[hW]at HG HK HI⊢;clear hW c0 c1 f1;have d0:=HK.out.k0;have d1:=HK.out.k1;have K:=iH (fun q=>pick_q (c:=c) i3 m HI.out Hin.out m0 m1 q);have p0:=pick_lo zs i3 m m0;have p1:=pick_hi zs i3 m m0;generalize pick zs i3 m=x at *;go_quiet ((go_at_call 35;exact Calls.quiet_of_same (K.out _)));go_wp2;go_ret;exact⟨x,rfl,p0,p1,HG.out.below (bel_drewN (Below.refl _ _) _)⟩
def poolN (pool:List ByteArray) (turn n:Nat):List ByteArray:=(List.range n).map fun i=>pool[(i+turn) % pool.length]?.getD ⟨#[]⟩
theorem poolN_succ (pool:List ByteArray) (turn n:Nat):poolN pool turn (n+1)=poolN pool turn n ++ [pool[(n+turn) % pool.length]?.getD ⟨#[]⟩]:=by simp[poolN,List.range_succ]
@[simp] theorem poolN_length (pool : List ByteArray) (turn n : Nat) : (poolN pool turn n).length = n := by simp [poolN]
def SomeG (V:World) (g:Nat) (pool:List ByteArray) (most:Nat) (e:Ending) (W:World):Prop :=
 ∃v turn n,e=.returned v∧turn<pool.length∧1<=n∧n<=most∧W.ownsRow V.heap.size 9 1 v n (strs (poolN pool turn n))∧GSt V W g
theorem some_g {b:Nat} (c:Nat) {pool:List ByteArray} (most:Nat) (h:GOk w g) (hp:Bk w b 9 (strs pool)) (hb:b≠g) (h0:0<pool.length) (h1:pool.length<=1000) (m0:1<=most) (m1:most<=1000) :
 Calls Tryz.prog 64 #[.pointer (some ⟨g,0,none⟩),.slice (some ⟨b,0,none⟩) pool.length c,.int .i64 most] w (SomeG w g pool most):=by
 obtain⟨i0,hinf,hz0,hz1,hz2⟩:=info_parts info9;obtain⟨np,hnp⟩:∃np,pool.length=np:=⟨_,rfl⟩;have Hnp:=iH hnp;rw[hnp]at h0 h1⊢;have H:=iH h;have HP:=iH hp;clear h hp hnp;go_enter Tryz.func64,Tryz.ntmps64;go_wp2_with fail;(with_reducible refine(next_g (np:Int) H.out (by omega) (by omega)).mono ?_);rintro e w1 ⟨x,rfl,x0,x1,hs1⟩;obtain⟨turn,rfl⟩:=Int.eq_ofNat_of_zero_le x0;have HS1:=iH hs1;clear hs1 x0;go_wp2_with fail;(with_reducible refine(next_g (most:Int) HS1.out.ok (by omega) (by omega)).mono ?_);rintro e w2 ⟨y,rfl,y0,y1,hs2⟩;obtain⟨y,rfl⟩:=Int.eq_ofNat_of_zero_le y0;have HS2:=iH (HS1.out.trans hs2);clear hs2 HS1 y0;have HP2:=iH (HS2.out.bk HP.out hb);go_wp2_with fail;go_loopw [9,10] (fun v i wr=>∃k:Nat,k<=1+y∧i=.int .i64 k∧wr.ownsRow w.heap.size 9 1 v k (strs (poolN pool turn k))∧Bk wr b 9 (strs pool)∧GSt w wr g) (fun _ i _=>1+y-(intOf i).toNat)
 case atStart=>exact⟨0,by omega,rfl,World.ownsRow_nil _ _ _ _,HP2.out,HS2.out⟩
 case round =>
  obtain⟨k,hk,rfl,hown,hbk,hst⟩:=hrel;have HO:=iH hown;have HB:=iH hbk;have HS:=iH hst;have hsz:=hst.size;have hbl:=HP.out.lt;clear hown hbk hst;by_cases hlt:k<1+y
  ·obtain⟨j,hj⟩:∃j,(k+turn) % np=j:=⟨_,rfl⟩;have hjn:j<np:=by rw[<- hj];exact Nat.mod_lt _ h0
   have e1:((k:Int)+(turn:Int)) % (np:Int)=(j:Int):=by rw[<- hj];simp
   have HT:=iH (poolN_succ pool turn k);rw[Hnp.out,hj]at HT;have hjp:j<pool.length:=by rw[Hnp.out];exact hjn
   have c0:wr.cell? ⟨b,j,none⟩=some (.string pool[j]):=(HB.out.cell j).trans (by simp[strs,hjp]);have e2:pool[j]?.getD ⟨#[]⟩=pool[j]:=by simp[hjp]
   rw[e2]at HT;generalize pool[j]=s at *;have hbw:=HB.out.lt;clear hj hjp e2;go_wp2_with(at_builtin;refine wpList_append_own_at _ rfl _ _ 123 rfl w.heap.size 9 i0 (.string ⟨#[]⟩) 1 16 Tryz.underlying123 hinf hz0 hz1 hz2 rfl (by decide) _ k (strs (poolN pool turn k)) rfl (HO.out.alloc _) ⟨wr.heap.size,0,none⟩ 1 1 [.string s] rfl rfl (new1 _ _ _) (one1s _) (by unfold maxLen;omega) (by omega) (by simp;omega) ?_);intro v' w3 hown' hgrow _ _;have hbase:=row_base HO.out;have HB3:=iH ((HB.out.alloc (.cells #[.string s] 9)).grown hgrow (fun e=>by have:=hbase b e.symm;omega));have HS3:=iH ((HS.out.alloc (.cells #[.string s] 9)).grow hgrow hbase);have HO3:=iH hown';clear hown' hgrow;go_wp2;go_roundw
   case rel=>exact⟨k+1,by omega,by go_num,by rw[HT.out,strs_snoc];exact HO3.out,HB3.out,HS3.out⟩
   case measure=>simp[intOf];omega
  ·obtain rfl:1+y=k:=by omega
   have ht:turn<pool.length:=by rw[Hnp.out];omega
   go_wp2;go_ret;exact⟨_,turn,1+y,rfl,ht,by omega,by omega,HO.out,HS.out⟩
end
end
section
def Am (n:Nat) (l:List P2):Prop:=l.Pairwise (fun a b=>a.1<b.1)∧∀p∈l,0<=p.1∧p.1<n∧1<=p.2∧p.2<=4
theorem Am.snoc {k:Nat} {l:List P2} (h:Am k l) {x:Int} (h1:1<=x) (h2:x<=4):Am (k+1) (l ++ [((k:Int),x)]):=by
 refine⟨List.pairwise_append.2 ⟨h.1,by simp,fun a ha b hb=>?_⟩,fun p hp=>?_⟩
 ·rw[List.mem_singleton.1 hb];have:=h.2 a ha;dsimp only;omega
 ·rcases List.mem_append.1 hp with hp | hp
  ·have:=h.2 p hp;omega
  ·rw[List.mem_singleton.1 hp];dsimp only;omega
theorem Am.mono {k n:Nat} {l:List P2} (h:Am k l) (hkn:k<=n):Am n l:=⟨h.1,fun p hp=>by have:=h.2 p hp;omega⟩
theorem Am.sort {n:Nat} {l:List P2} (h:Am n l):sortB n l=true:=by
 have key : ∀ k, k <= l.length -> sortTo n l k = true := by
  intro k
  induction k with
  | zero=>intro _;rfl
  | succ k ih =>
    intro hk;have hkl:k<l.length:=by omega
    have e1:itemK l k=l[k].1:=by simp[itemK,hkl]
    have hm:=h.2 l[k] (List.getElem_mem hkl);have e2:lastAt l k<itemK l k:=by
     rw[e1];unfold lastAt;split
     ·omega
     ·have:=List.pairwise_iff_getElem.1 h.1 (k-1) k (by omega) hkl (by omega);simpa[show k-1<l.length by omega]using this
    simp only[sortTo,ih (by omega),decide_eq_true e2];rw[e1,decide_eq_true hm.2.1];rfl
 exact key _ (Nat.le_refl _)
theorem Am.units {n:Nat} {l:List P2} (h:Am n l):l.all unitP=true:=by
 rw[List.all_eq_true];intro p hp;have:=h.2 p hp;simp only[unitP,Bool.and_eq_true,decide_eq_true_eq];omega
theorem info136:(Tryz.prog.info? 136).map (fun i=>(i.zero,i.size,i.bytes))=some (some (.agg #[.int .i64 0,.int .i64 0]),2,16):=by kernel_rfl
theorem new2 (w:World) (t:TypeId) (a b:Value):∀j u,([a,b]:List Value)[j]? = some u->(w.alloc (.cells #[a,b] t)).cell? ((⟨w.heap.size,0,none⟩:Addr).add j)=some u:=by
 intro j u hj
 match j,hj with
 | 0,hj=>simp at hj;subst hj;simp[Addr.add]
 | 1,hj=>simp at hj;subst hj;simp[Addr.add]
 | j+2,hj=>simp at hj
theorem one2 (x y:Int):∀u∈([.int .i64 x,.int .i64 y]:List Value),u.oneCell'=true:=by
 intro u hu;simp only[List.mem_cons,List.not_mem_nil,or_false]at hu;rcases hu with rfl|rfl <;> rfl
def AmtsG (V:World) (g n most:Nat) (e:Ending) (W:World):Prop :=
 ∃v l,e=.returned v∧W.ownsRow V.heap.size 136 2 v l.length (pcells l)∧Am n l∧l.length<=most∧GSt V W g
theorem amounts_g {w : World} {g : Nat} (n most : Nat) (h : GOk w g) (hn : n <= 1000) (hm : most <= 1000) :
 Calls Tryz.prog 67 #[.pointer (some ⟨g,0,none⟩),.int .i64 n,.int .i64 most] w (AmtsG w g n most):=by
 obtain⟨i0,hinf,hz0,hz1,hz2⟩:=info_parts info136;have H:=iH h;clear h;go_enter Tryz.func67,Tryz.ntmps67;go_wp2_with fail;go_loopw [7,8,9] (fun v lf i wr=>∃(k:Nat) (l:List P2),k<=n∧l.length<=most∧i=.int .i64 k∧lf=.int .i64 ((most-l.length:Nat):Int)∧wr.ownsRow w.heap.size 136 2 v l.length (pcells l)∧Am k l∧GSt w wr g) (fun _ _ i _=>n-(intOf i).toNat)
 case atStart=>exact⟨0,[],by omega,by simp,rfl,by simp,World.ownsRow_nil _ _ _ _,⟨by simp,by simp⟩,GSt.refl H.out⟩
 case round =>
  obtain⟨k,l,hk,hl,rfl,rfl,hown,hA,hst⟩:=hrel;have HO:=iH hown;have HA:=iH hA;have HS:=iH hst;have hsz:=hst.size;clear hown hA hst;obtain⟨m,hm2⟩:∃m,l.length=m:=⟨_,rfl⟩;have Hm:=iH hm2;rw[hm2]at hl HO⊢;clear hm2;obtain⟨lf,hlf⟩:∃lf,most-m=lf:=⟨_,rfl⟩;have Hlf:=iH hlf;rw[hlf];have hlf2:lf<=1000:=by omega
  clear hlf;by_cases hlt:k<n
  ·by_cases hpos:0<lf
   ·have a1:decide ((0:Int)<(lf:Int))=true:=decide_eq_true (by omega);go_wp2_with fail;(with_reducible refine(next_g 3 HS.out.ok (by omega) (by omega)).mono ?_);rintro e w1 ⟨x,rfl,x0,x1,hs1⟩;have HS1:=iH (HS.out.trans hs1);have hgne:u7.ownBlock≠some g:=fun e=>by have h1:=row_base HO.out g e;have h2:=HS.out.lt;omega
    have HO1:=iH (hs1.own HO.out hgne);clear hs1;by_cases hx:x=0
    ·subst hx;go_wp2_with fail;(with_reducible refine(next_g 4 HS1.out.ok (by omega) (by omega)).mono ?_);rintro e w2 ⟨y,rfl,y0,y1,hs2⟩;have HS2:=iH (HS1.out.trans hs2);have HO2:=iH (hs2.own HO1.out hgne);have hsz2:=HS2.out.size;clear hs2;go_wp2_with(at_builtin;refine wpList_append_own_at _ rfl _ _ 101 rfl w.heap.size 136 i0 (.agg #[.int .i64 0,.int .i64 0]) 2 16 Tryz.underlying101 hinf hz0 hz1 hz2 rfl (by decide) _ m (pcells l) rfl (HO2.out.alloc _) ⟨w2.heap.size,0,none⟩ 1 1 [.int .i64 (k:Int),.int .i64 (1+y)] rfl rfl (new2 _ _ _ _) (one2 _ _) (by unfold maxLen;omega) (by omega) (by simp;omega) ?_);intro v' w3 hown' hgrow _ _;have HS3:=iH ((HS2.out.alloc (.cells #[.int .i64 (k:Int),.int .i64 (1+y)] 136)).grow hgrow (row_base HO2.out));have HO3:=iH hown';clear hown' hgrow;have e1:(lf:Int)-1=((lf-1:Nat):Int):=by omega
     go_wp2;go_roundw
     case rel =>
      refine⟨k+1,l ++ [((k:Int),1+y)],by omega,?_,by go_num,?_,?_,HA.out.snoc (by omega) (by omega),HS3.out⟩
      ·have:=Hm.out;have:=Hlf.out;simp;omega
      ·have h1:=Hm.out;have h2:=Hlf.out
       first
        | (congr 2;simp;omega)
        | (simp;omega)
      ·have h1:=Hm.out;rw[pcells_snoc,List.length_append,h1];exact HO3.out
     case measure=>simp[intOf];omega
    ·have e1:(x == 0)=false:=by simpa using hx
     go_wp2;go_roundw
     case rel=>exact⟨k+1,l,by omega,by have:=Hm.out;omega,by go_num,by rw[Hm.out,Hlf.out],by rw[Hm.out];exact HO1.out,HA.out.mono (by omega),HS1.out⟩
     case measure=>simp[intOf];omega
   ·have a1:decide ((0:Int)<(lf:Int))=false:=decide_eq_false (by omega);have a2:decide (0<lf)=false:=decide_eq_false hpos;go_wp2;go_ret;exact⟨_,l,rfl,by rw[Hm.out];exact HO.out,HA.out.mono hk,by have:=Hm.out;omega,HS.out⟩
  ·go_wp2;go_ret;exact⟨_,l,rfl,by rw[Hm.out];exact HO.out,HA.out.mono hk,by have:=Hm.out;omega,HS.out⟩
def ItemG (V:World) (g:Nat) (nm:ByteArray) (e:Ending) (W:World):Prop :=
 ∃t:It,e=.returned t.val∧t.name=nm∧itFormedB t=true∧itRangeB t=true∧GSt V W g
structure ItAt (V W : World) (g : Nat) (t : It) : Prop where
 st:GSt V W g
 res:Bk W V.heap.size 89 [.string ⟨#[]⟩,.bool false,.bool false,.bool false,.int .i64 0,.int .i64 0,.int .i64 0]
 bx:Bk W (V.heap.size+1) 89 t.cells
section
variable {V W W' : World} {g : Nat} {t t' : It}
theorem ItAt.next (h:ItAt V W g t) (k:GSt W W' g):ItAt V W' g t:=by
 have:=h.st.lt;exact⟨h.st.trans k,k.bk h.res (by omega),k.bk h.bx (by omega)⟩
theorem ItAt.set (h:ItAt V W g t) (j:Nat) (u:Value) (hu:t.cells.set j u=t'.cells):ItAt V (W.setCell ⟨V.heap.size+1,j,none⟩ u) g t' :=
 ⟨h.st.set _ _ _ (by omega),h.res.far (by simp) _,by rw[<- hu];exact h.bx.set j u⟩
end
theorem ItAt.done {V W:World} {g:Nat} {t:It} (h:ItAt V W g t) (f:itFormedB t=true) (r:itRangeB t=true) :
 ItemG V g t.name (.returned t.val) (((((((W.setCell ⟨V.heap.size,0,none⟩ (.string t.name)).setCell ⟨V.heap.size,1,none⟩ (.bool t.object)).setCell ⟨V.heap.size,2,none⟩ (.bool t.mixed)).setCell ⟨V.heap.size,3,none⟩ (.bool t.coin)).setCell ⟨V.heap.size,4,none⟩ (.int .i64 t.wear)).setCell ⟨V.heap.size,5,none⟩ (.int .i64 t.bnd)).setCell ⟨V.heap.size,6,none⟩ (.int .i64 t.level)) ∧
 (((((((W.setCell ⟨V.heap.size,0,none⟩ (.string t.name)).setCell ⟨V.heap.size,1,none⟩ (.bool t.object)).setCell ⟨V.heap.size,2,none⟩ (.bool t.mixed)).setCell ⟨V.heap.size,3,none⟩ (.bool t.coin)).setCell ⟨V.heap.size,4,none⟩ (.int .i64 t.wear)).setCell ⟨V.heap.size,5,none⟩ (.int .i64 t.bnd)).setCell ⟨V.heap.size,6,none⟩ (.int .i64 t.level)).heap[V.heap.size]? = some (.cells #[.string t.name,.bool t.object,.bool t.mixed,.bool t.coin,.int .i64 t.wear,.int .i64 t.bnd,.int .i64 t.level] 89 (0,0)):=by
 refine⟨⟨t,rfl,rfl,f,r,?_⟩,?_⟩
 ·exact((((((h.st.set _ _ _ (by omega)).set _ _ _ (by omega)).set _ _ _ (by omega)).set _ _ _ (by omega)).set _ _ _ (by omega)).set _ _ _ (by omega)).set _ _ _ (by omega)
 ·exact((((((h.res.set 0 _).set 1 _).set 2 _).set 3 _).set 4 _).set 5 _).set 6 _
theorem item_g {w:World} {g:Nat} (nm:ByteArray) (i:Nat) (h:GOk w g) (hi:i<=1000):Calls Tryz.prog 65 #[.pointer (some ⟨g,0,none⟩),.string nm,.int .i64 i] w (ItemG w g nm):=by
 have hA:ItAt w ((w.alloc (.cells #[.string ⟨#[]⟩,.bool false,.bool false,.bool false,.int .i64 0,.int .i64 0,.int .i64 0] 89)).alloc (.cells #[.string nm,.bool false,.bool false,.bool false,.int .i64 0,.int .i64 0,.int .i64 0] 89)) g ⟨nm,false,false,false,0,0,0⟩:=by
  have kx:=Bk.new (w.alloc (.cells #[.string ⟨#[]⟩,.bool false,.bool false,.bool false,.int .i64 0,.int .i64 0,.int .i64 0] 89)) 89 [.string nm,.bool false,.bool false,.bool false,.int .i64 0,.int .i64 0,.int .i64 0];rw[World.size_alloc]at kx;exact⟨((GSt.refl h).alloc _).alloc _,(Bk.new w 89 [.string ⟨#[]⟩,.bool false,.bool false,.bool false,.int .i64 0,.int .i64 0,.int .i64 0]).alloc _,kx⟩
 have HA:=iH hA;clear h hA;go_enter Tryz.func65,Tryz.ntmps65;go_wp2_with fail;(with_reducible refine(next_g 5 HA.out.st.ok (by omega) (by omega)).mono ?_);rintro e w1 ⟨x,rfl,x0,x1,hs1⟩;have HA1:=iH (HA.out.next hs1);clear hs1 HA;by_cases hx0:x=0
 ·subst hx0;have x:=HA1.out.bx.k2;have y:=HA1.out.bx.frozen 2;have z:=HA1.out.bx.lt;have HA2:=iH (HA1.out.set (t':=⟨nm,false,true,false,0,0,0⟩) 2 (.bool true) rfl);go_upto_region 11 with fail;obtain⟨W2,hW2⟩:∃W2,w1.setCell ⟨w.heap.size+1,2,none⟩ (.bool true)=W2:=⟨_,rfl⟩;rw[hW2]at HA2⊢;clear hW2 x y z HA1;have x:=HA2.out.bx.k3;have y:=HA2.out.bx.frozen 3;have z:=HA2.out.bx.lt;have HA9:=iH (HA2.out.set (t':=⟨nm,false,true,((i:Int) == 0),0,0,0⟩) 3 (.bool ((i:Int) == 0)) rfl);go_upto_region 12 with fail;obtain⟨W9,hW9⟩:∃W9,W2.setCell ⟨w.heap.size+1,3,none⟩ (.bool ((i:Int) == 0))=W9:=⟨_,rfl⟩;rw[hW9]at HA9⊢;clear hW9 x y z HA2;have x0:=HA9.out.bx.k0;have r0:=HA9.out.res.k0;have f0:=HA9.out.res.frozen 0;have x1:=HA9.out.bx.k1;have r1:=HA9.out.res.k1;have f1:=HA9.out.res.frozen 1;have x2:=HA9.out.bx.k2;have r2:=HA9.out.res.k2;have f2:=HA9.out.res.frozen 2;have x3:=HA9.out.bx.k3;have r3:=HA9.out.res.k3;have f3:=HA9.out.res.frozen 3;have x4:=HA9.out.bx.k4;have r4:=HA9.out.res.k4;have f4:=HA9.out.res.frozen 4;have x5:=HA9.out.bx.k5;have r5:=HA9.out.res.k5;have f5:=HA9.out.res.frozen 5;have x6:=HA9.out.bx.k6;have r6:=HA9.out.res.k6;have f6:=HA9.out.res.frozen 6;have hl9:=HA9.out.bx.lt;have HD:=iH (HA9.out.done (by rfl) (by rfl));generalize((i:Int) == 0)=ci at *;go_wp2;have t1:=HD.out.2;refine bodyPost_ret (v:=.agg #[.string nm,.bool false,.bool true,.bool ci,.int .i64 0,.int .i64 0,.int .i64 0]) (by simp[results,Tryz.results65,go_sem,World.cell?,t1]) rfl HD.out.1
 have e0:(x == 0)=false:=by simpa using hx0
 by_cases hx1:x=1;rotate_left
 ·have e1:(x == 1)=false:=by simpa using hx1
  go_upto_region 11 with fail;have x:=HA1.out.bx.k3;have y:=HA1.out.bx.frozen 3;have z:=HA1.out.bx.lt;have HA9:=iH (HA1.out.set (t':=⟨nm,false,false,((i:Int) == 0),0,0,0⟩) 3 (.bool ((i:Int) == 0)) rfl);go_upto_region 12 with fail;obtain⟨W9,hW9⟩:∃W9,w1.setCell ⟨w.heap.size+1,3,none⟩ (.bool ((i:Int) == 0))=W9:=⟨_,rfl⟩;rw[hW9]at HA9⊢;clear hW9 x y z HA1;have x0:=HA9.out.bx.k0;have r0:=HA9.out.res.k0;have f0:=HA9.out.res.frozen 0;have x1:=HA9.out.bx.k1;have r1:=HA9.out.res.k1;have f1:=HA9.out.res.frozen 1;have x2:=HA9.out.bx.k2;have r2:=HA9.out.res.k2;have f2:=HA9.out.res.frozen 2;have x3:=HA9.out.bx.k3;have r3:=HA9.out.res.k3;have f3:=HA9.out.res.frozen 3;have x4:=HA9.out.bx.k4;have r4:=HA9.out.res.k4;have f4:=HA9.out.res.frozen 4;have x5:=HA9.out.bx.k5;have r5:=HA9.out.res.k5;have f5:=HA9.out.res.frozen 5;have x6:=HA9.out.bx.k6;have r6:=HA9.out.res.k6;have f6:=HA9.out.res.frozen 6;have hl9:=HA9.out.bx.lt;have HD:=iH (HA9.out.done (by rfl) (by rfl));generalize((i:Int) == 0)=ci at *;go_wp2;have t1:=HD.out.2;refine bodyPost_ret (v:=.agg #[.string nm,.bool false,.bool false,.bool ci,.int .i64 0,.int .i64 0,.int .i64 0]) (by simp[results,Tryz.results65,go_sem,World.cell?,t1]) rfl HD.out.1
 subst hx1;by_cases hi0:0<i;rotate_left
 ·have e1:decide ((0:Int)<(i:Int))=false:=decide_eq_false (by omega);have e2:decide (0<i)=false:=decide_eq_false hi0;have x:=HA1.out.bx.k1;have y:=HA1.out.bx.frozen 1;have z:=HA1.out.bx.lt;have HA2:=iH (HA1.out.set (t':=⟨nm,false,false,false,0,0,0⟩) 1 (.bool false) rfl);go_upto_region 7 with fail;obtain⟨W2,hW2⟩:∃W2,w1.setCell ⟨w.heap.size+1,1,none⟩ (.bool false)=W2:=⟨_,rfl⟩;rw[hW2]at HA2⊢;clear hW2 x y z HA1;have ob:=HA2.out.bx.k1;have obl:=HA2.out.bx.lt;go_upto_region 11 with fail;clear ob obl;have x:=HA2.out.bx.k3;have y:=HA2.out.bx.frozen 3;have z:=HA2.out.bx.lt;have HA9:=iH (HA2.out.set (t':=⟨nm,false,false,((i:Int) == 0),0,0,0⟩) 3 (.bool ((i:Int) == 0)) rfl);go_upto_region 12 with fail;obtain⟨W9,hW9⟩:∃W9,W2.setCell ⟨w.heap.size+1,3,none⟩ (.bool ((i:Int) == 0))=W9:=⟨_,rfl⟩;rw[hW9]at HA9⊢;clear hW9 x y z HA2;have x0:=HA9.out.bx.k0;have r0:=HA9.out.res.k0;have f0:=HA9.out.res.frozen 0;have x1:=HA9.out.bx.k1;have r1:=HA9.out.res.k1;have f1:=HA9.out.res.frozen 1;have x2:=HA9.out.bx.k2;have r2:=HA9.out.res.k2;have f2:=HA9.out.res.frozen 2;have x3:=HA9.out.bx.k3;have r3:=HA9.out.res.k3;have f3:=HA9.out.res.frozen 3;have x4:=HA9.out.bx.k4;have r4:=HA9.out.res.k4;have f4:=HA9.out.res.frozen 4;have x5:=HA9.out.bx.k5;have r5:=HA9.out.res.k5;have f5:=HA9.out.res.frozen 5;have x6:=HA9.out.bx.k6;have r6:=HA9.out.res.k6;have f6:=HA9.out.res.frozen 6;have hl9:=HA9.out.bx.lt;have HD:=iH (HA9.out.done (by rfl) (by rfl));generalize((i:Int) == 0)=ci at *;go_wp2;have t1:=HD.out.2;refine bodyPost_ret (v:=.agg #[.string nm,.bool false,.bool false,.bool ci,.int .i64 0,.int .i64 0,.int .i64 0]) (by simp[results,Tryz.results65,go_sem,World.cell?,t1]) rfl HD.out.1
 have e1:decide ((0:Int)<(i:Int))=true:=decide_eq_true (by omega);have e2:decide (0<i)=true:=decide_eq_true hi0;have x:=HA1.out.bx.k1;have y:=HA1.out.bx.frozen 1;have z:=HA1.out.bx.lt;have HA2:=iH (HA1.out.set (t':=⟨nm,true,false,false,0,0,0⟩) 1 (.bool true) rfl);go_upto_region 7 with fail;obtain⟨W2,hW2⟩:∃W2,w1.setCell ⟨w.heap.size+1,1,none⟩ (.bool true)=W2:=⟨_,rfl⟩;rw[hW2]at HA2⊢;clear hW2 x y z HA1;have ob:=HA2.out.bx.k1;have obl:=HA2.out.bx.lt;go_wp2_with fail;clear ob obl;(with_reducible refine(next_g 9 HA2.out.st.ok (by omega) (by omega)).mono ?_);rintro e w3 ⟨a,rfl,a0,a1,hs3⟩;have HA3:=iH (HA2.out.next hs3);clear hs3 HA2;have x:=HA3.out.bx.k4;have y:=HA3.out.bx.frozen 4;have z:=HA3.out.bx.lt;have HA4:=iH (HA3.out.set (t':=⟨nm,true,false,false,1+a,0,0⟩) 4 (.int .i64 (1+a)) rfl);go_upto_region 9 with fail;obtain⟨W4,hW4⟩:∃W4,w3.setCell ⟨w.heap.size+1,4,none⟩ (.int .i64 (1+a))=W4:=⟨_,rfl⟩;rw[hW4]at HA4⊢;clear hW4 x y z HA3;go_wp2_with fail;(with_reducible refine(next_g 3 HA4.out.st.ok (by omega) (by omega)).mono ?_);rintro e w5 ⟨b,rfl,b0,b1,hs5⟩;have HA5:=iH (HA4.out.next hs5);clear hs5 HA4;have x:=HA5.out.bx.k5;have y:=HA5.out.bx.frozen 5;have z:=HA5.out.bx.lt;have HA6:=iH (HA5.out.set (t':=⟨nm,true,false,false,1+a,b,0⟩) 5 (.int .i64 b) rfl);go_upto_region 10 with fail;obtain⟨W6,hW6⟩:∃W6,w5.setCell ⟨w.heap.size+1,5,none⟩ (.int .i64 b)=W6:=⟨_,rfl⟩;rw[hW6]at HA6⊢;clear hW6 x y z HA5;go_wp2_with fail;(with_reducible refine(next_g 4 HA6.out.st.ok (by omega) (by omega)).mono ?_);rintro e w7 ⟨d,rfl,d0,d1,hs7⟩;have HA7:=iH (HA6.out.next hs7);clear hs7 HA6;have x:=HA7.out.bx.k6;have y:=HA7.out.bx.frozen 6;have z:=HA7.out.bx.lt;have HA8:=iH (HA7.out.set (t':=⟨nm,true,false,false,1+a,b,d⟩) 6 (.int .i64 d) rfl);go_upto_region 11 with fail;obtain⟨W8,hW8⟩:∃W8,w7.setCell ⟨w.heap.size+1,6,none⟩ (.int .i64 d)=W8:=⟨_,rfl⟩;rw[hW8]at HA8⊢;clear hW8 x y z HA7;have ei:((i:Int) == 0)=false:=by simp;omega
 have Hei:=iH ei;clear ei;have x:=HA8.out.bx.k3;have y:=HA8.out.bx.frozen 3;have z:=HA8.out.bx.lt;have HA9:=iH (HA8.out.set (t':=⟨nm,true,false,((i:Int) == 0),1+a,b,d⟩) 3 (.bool ((i:Int) == 0)) rfl);go_upto_region 12 with fail;obtain⟨W9,hW9⟩:∃W9,W8.setCell ⟨w.heap.size+1,3,none⟩ (.bool ((i:Int) == 0))=W9:=⟨_,rfl⟩;rw[hW9]at HA9⊢;clear hW9 x y z HA8;have x0:=HA9.out.bx.k0;have r0:=HA9.out.res.k0;have f0:=HA9.out.res.frozen 0;have x1:=HA9.out.bx.k1;have r1:=HA9.out.res.k1;have f1:=HA9.out.res.frozen 1;have x2:=HA9.out.bx.k2;have r2:=HA9.out.res.k2;have f2:=HA9.out.res.frozen 2;have x3:=HA9.out.bx.k3;have r3:=HA9.out.res.k3;have f3:=HA9.out.res.frozen 3;have x4:=HA9.out.bx.k4;have r4:=HA9.out.res.k4;have f4:=HA9.out.res.frozen 4;have x5:=HA9.out.bx.k5;have r5:=HA9.out.res.k5;have f5:=HA9.out.res.frozen 5;have x6:=HA9.out.bx.k6;have r6:=HA9.out.res.k6;have f6:=HA9.out.res.frozen 6;have hl9:=HA9.out.bx.lt;have HD:=iH (HA9.out.done (by have q1:decide (0<=b)=true:=decide_eq_true b0;have q2:decide (b<=2)=true:=decide_eq_true (by omega);simp only[itFormedB,if_true,Hei.out,q1,q2];rfl) (by have q1:decide (1<=1+a)=true:=decide_eq_true (by omega);have q2:decide (1+a<=1048576)=true:=decide_eq_true (by omega);have q3:decide (0<=d)=true:=decide_eq_true d0;have q4:decide (d<=100)=true:=decide_eq_true (by omega);simp only[itRangeB,q1,q2,q3,q4];rfl));generalize((i:Int) == 0)=ci at *;go_wp2;have t1:=HD.out.2;refine bodyPost_ret (v:=.agg #[.string nm,.bool true,.bool false,.bool ci,.int .i64 (1+a),.int .i64 b,.int .i64 d]) (by simp[results,Tryz.results65,go_sem,World.cell?,t1]) rfl HD.out.1
end
end Go.Proofs.YthjfdfdgbpbanaaGreatDoor

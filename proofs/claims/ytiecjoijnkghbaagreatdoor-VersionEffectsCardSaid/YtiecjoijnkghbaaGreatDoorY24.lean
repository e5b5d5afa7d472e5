/- Holds. Item: the first item of a name. VersionEffects: the plain law, and what lies in memory. VersionEffects. -/
import Derived.Test.YtiecjoijnkghbaaGreatDoorY9
import Derived.Test.YtiecjoijnkghbaaGreatDoorY15
import Derived.Test.YtiecjoijnkghbaaGreatDoorY20
import Derived.Test.YtiecjoijnkghbaaGreatDoorY22
import Derived.Test.YtiecjoijnkghbaaGreatDoorY23
set_option linter.unusedVariables false
set_option linter.unusedSimpArgs false
set_option maxRecDepth 100000
set_option maxHeartbeats 8000000
open Go.RowKit
namespace Go.Proofs.YtiecjoijnkghbaaGreatDoor
section
open Go.Shelf
attribute [local go_sem] Oper.semAt_some
structure HoldI (w : World) (B : Nat) (A : Option Addr) (n c N : Nat) (ws : List Int) (pre : List (Nat × List Int)) (W : World) : Prop where
 wb:Bk W (B+1) 22 [.slice A n c]
 rb:Bk W (B+2) 4 [.bool false]
 bel:Below w.heap.size w W
 zero:∀x∈pre,dotTo ws x.2 N=0
structure HoldX (w : World) (B N : Nat) (ws : List Int) (cd : Code) (pre : List (Nat × List Int)) (W : World) : Prop where
 ret:cd=.ret
 rb:Bk W (B+2) 4 [.bool false]
 bel:Below w.heap.size w W
 bad:∃x∈pre,dotTo ws x.2 N≠0
section
variable {w W W' : World} {B n c N : Nat} {A : Option Addr} {ws : List Int} {pre : List (Nat × List Int)} {cd : Code}
theorem HoldI.kept (h:HoldI w B A n c N ws pre W) {row:Option Nat} (hg:W.grownBy W' row) (hB:w.heap.size=B) (hr:∀r,row=some r->B+3<=r):HoldI w B A n c N ws pre W' :=
 ⟨h.wb.grown hg (fun e=>by have:=hr _ e.symm;omega),h.rb.grown hg (fun e=>by have:=hr _ e.symm;omega),h.bel.grown hg h.bel.size (fun q e=>by have:=hr q e;omega),h.zero⟩
theorem HoldX.kept (h:HoldX w B N ws cd pre W) {row:Option Nat} (hg:W.grownBy W' row) (hB:w.heap.size=B) (hr:∀r,row=some r->B+3<=r):HoldX w B N ws cd pre W' :=
 ⟨h.ret,h.rb.grown hg (fun e=>by have:=hr _ e.symm;omega),h.bel.grown hg h.bel.size (fun q e=>by have:=hr q e;omega),h.bad⟩
theorem HoldI.below (h:HoldI w B A n c N ws pre W) (hb:Below W.heap.size W W'):HoldI w B A n c N ws pre W' :=
 ⟨h.wb.below hb h.wb.lt,h.rb.below hb h.rb.lt,h.bel.trans (hb.mono h.bel.size),h.zero⟩
theorem keeps_below (hb:Below W.heap.size W W'):KeepsOthers W W':=⟨hb.size,fun k o h _=>(hb.block k (Array.getElem?_eq_some_iff.1 h).1).trans h⟩
theorem kpE_below {E:Nat} (hE:E<W.heap.size) (hb:Below W.heap.size W W'):KpE E W W':=⟨fun t _ _=>.below hb,hb.block E hE⟩
end
def HoldE (n:Nat) (ws:List Int) (m:CatM):Prop:=codeC m=0∧n=m.items.length∧∀d∈dotsOf ws m,d=0
instance (n:Nat) (ws:List Int) (m:CatM):Decidable (HoldE n ws m):=by unfold HoldE;infer_instance
def HoldQ (w:World) (n:Nat) (ws:List Int) (m:CatM) (e:Ending) (w':World):Prop:=e=.returned (.bool (decide (HoldE n ws m)))∧Below w.heap.size w w'
theorem holds_any {w:World} {m:CatM} {A:Option Addr} {n:Nat} (c:Nat) {ws:List Int} (hm:m.Ok w) (hT:Tab w) (h:IntsV w A n ws) (hws:∀k,-3<=wAt ws k∧wAt ws k<=3):Calls Tryz.prog 20 #[m.val,.slice A n c] w (HoldQ w n ws m):=by
 refine(callsIn_wide (n:=5)).1 ?_;have X0:Below w.heap.size w (((w.alloc (.cells #[.slice m.si.A m.si.n m.si.c,.slice m.sr.A m.sr.n m.sr.c,.slice m.st.A m.st.n m.st.c,.slice m.sx.A m.sx.n m.sx.c] 28)).alloc (.cells #[.slice A n c] 22)).alloc (.cells #[.bool false] 4)):=(((Below.refl _ _).alloc (Nat.le_refl _) _).alloc (by simp) _).alloc (by simp;omega) _;have KV:=iH (valid_cat (hm.below X0) (hT.below X0 hT.1));have HM:=iH hm;have HX:=iH X0;have HI:=iH h;have HWs:=iH hws;have k0:=((Bk.new w 28 (catSL m.si m.sr m.st m.sx)).alloc (.cells #[.slice A n c] 22)).alloc (.cells #[.bool false] 4);have k1:=(Bk.new (w.alloc (.cells (catSL m.si m.sr m.st m.sx).toArray 28)) 22 [.slice A n c]).alloc (.cells #[.bool false] 4);have k2:=Bk.new ((w.alloc (.cells (catSL m.si m.sr m.st m.sx).toArray 28)).alloc (.cells #[.slice A n c] 22)) 4 [.bool false];rw[World.size_alloc]at k1;rw[World.size_alloc,World.size_alloc]at k2;have HK0:=iH k0;have HK1:=iH k1;have HK2:=iH k2;clear hm hT X0 h hws k0 k1 k2;refine callsIn_of_wp_marks Tryz.func20 rfl trivial ?_ rfl;simp only[Tryz.ntmps20,List.size_toArray,List.length_cons,List.length_nil,Nat.reduceAdd,Nat.reduceSub,Array.replicate_succ,Array.replicate_zero,List.push_toArray,List.append_toArray,List.nil_append,List.cons_append]
 gi_wp2_with fail
 refine⟨trivial,(callsIn_wide.2 KV.out).mono ?_⟩;rintro e w1 ⟨rfl,hb1⟩;obtain⟨B,hB⟩:∃B,B=w.heap.size:=⟨_,rfl⟩;have HBe:=iH hB;have HB1:=iH (HX.out.trans (hb1.mono HX.out.size));have HC0:=iH (HK0.out.below hb1 (by simp;omega));have HC1:=iH (HK1.out.below hb1 (by simp));have HC2:=iH (HK2.out.below hb1 (by simp));have HM1:=iH ((HM.out.below HX.out).below hb1);clear hb1 KV HX HK0 HK1 HK2 HM;rw[<- hB]at HC0 HC1 HC2⊢;clear hB;have k0:=HC0.out.k0;have k1:=HC0.out.k1;have k2:=HC0.out.k2;have k3:=HC0.out.k3;have kl:=HC0.out.lt;have l0:=HC1.out.k0;have ll:=HC1.out.lt;have r0:=HC2.out.k0;have rf:w1.frozen? ⟨B+2,0,none⟩=false:=HC2.out.frozen 0;have rl:=HC2.out.lt;have hni:=HM1.out.items.len;have HBad:Hid (¬ HoldE n ws m->HoldQ w n ws m (.returned (.bool false)) (w1.setCell ⟨B+2,0,none⟩ (.bool false))):=fun hn=>⟨by rw[decide_eq_false hn],HB1.out.setCell (p:=⟨B+2,0,none⟩) (by show w.heap.size<=B+2;have:=HBe.out;omega) _⟩
 by_cases hc:codeC m=0
 ·have q1 : (codeC m != 0) = false := by simpa using hc
  have hN:m.items.length<=64:=code_64 hc;have Hc64:=iH hN;by_cases hl:n=m.items.length
  ·subst hl;have q2:((m.items.length:Int) != (m.si.n:Int))=false:=by simp[hni]
   rw[hni]at k0 q2;have Hni:=iH hni;have Hc:=iH hc;clear HBad hc hni rf hN;have KR:Hid (∀W,Calls Tryz.prog 74 #[.agg #[.slice m.si.A m.items.length m.si.c,.slice m.sr.A m.sr.n m.sr.c,.slice m.st.A m.st.n m.st.c,.slice m.sx.A m.sx.n m.sx.c]] W fun e w'=>e=.returned (.func (.func 215) #[] #[.pointer (some ⟨W.heap.size,0,none⟩)])∧w'=W.alloc (.cells #[.slice m.si.A m.si.n m.si.c,.slice m.sr.A m.sr.n m.sr.c,.slice m.st.A m.st.n m.st.c,.slice m.sx.A m.sx.n m.sx.c] 28)):=fun W=>by
    have h:=results_any m W;rw[show CatM.val m=.agg #[.slice m.si.A m.items.length m.si.c,.slice m.sr.A m.sr.n m.sr.c,.slice m.st.A m.st.n m.st.c,.slice m.sx.A m.sx.n m.sx.c] by rw[<- Hni.out]]at h;exact h
   gi_wp2_with fail
   refine⟨trivial,(callsIn_wide.2 (KR.out _)).mono ?_⟩;rintro e w2 ⟨rfl,hw2⟩;have Hw2:=iH hw2;clear hw2
   gi_wp2_with fail
   have hw2:=Hw2.out;clear Hw2;obtain⟨R,hRe⟩:∃R,R=w1.heap.size:=⟨_,rfl⟩;have hsz:w2.heap.size=R+1:=by rw[hw2,hRe];simp
   have kc:Bk w2 R 28 (catSL m.si m.sr m.st m.sx):=by rw[hw2,hRe];exact Bk.new w1 28 _
   have hb12:Below w1.heap.size w1 w2:=by rw[hw2];exact(Below.refl _ w1).alloc (Nat.le_refl _) _
   have hI0:HoldI w B A m.items.length c m.items.length ws [] w2:=⟨HC1.out.below hb12 HC1.out.lt,HC2.out.below hb12 HC2.out.lt,HB1.out.trans (hb12.mono HB1.out.size),fun x hx=>by simp at hx⟩;have hM2:=HM1.out.below hb12;have HSeq:Hid (SeqE Fence.wide 4 Tryz.prog 215 #[.pointer (some ⟨R,0,none⟩)] (resEncs m.items.length) (ResPhi m.items.length (resL m)) KpE (fun xs=>xs=resL m) (fun pre=>pre <+: resL m) w2):=results_seq (n:=4) hM2 kc Hc.out;have HI0:=iH hI0;have Hsz:=iH hsz;have HRe:=iH hRe;have HRl:=iH (show B+3<=R by rw[hRe];omega);rw[<- hRe];clear hI0 hsz kc hM2 hb12 hw2 KR k0 k1 k2 k3 kl l0 ll r0 rl q1 q2 HC0 HC1 HC2 hRe HM1 HB1;refine range_e (D:=R+1) (E:=R+3) Hsz.out.symm (by rw[Hsz.out]) rfl (by omega) (gf:=215) (lb:=#[.pointer (some ⟨R,0,none⟩)]) rfl trivial (enters_of Tryz.func215 (by kernel_rfl) rfl) HSeq.out (Below.refl _ _) (fun _=>rfl)
    (fun h k=>KpE.trans h k) (fun W o o' h ho=>kpE_put (by omega) h ho) (fun pre x W o o' h hp=>resPhi_put (by omega) hp)
    (HoldI w B A m.items.length c m.items.length ws) (HoldX w B m.items.length ws) (fun pre X Y row h hg hr=>h.kept hg HBe.out.symm (fun r e=>by have:=hr r e;have:=HRl.out;omega)) (fun cd pre X Y row h hg hr=>h.kept hg HBe.out.symm (fun r e=>by have:=hr r e;have:=HRl.out;omega)) HI0.out
    ?a1 ?assign ?body ?done ?stop
   case assign =>
    intro l x W K hK
    gi_wp2
    exact hK
   case body =>
    rintro l pre x W hI hPh;obtain⟨xi,xr⟩:=x;have l0:=hI.wb.k0;have ll:=hI.wb.lt;have HIx:=iH hI;have HPh:=iH hPh;have hsm:∀k,-140737488355328<=wAt xr k∧wAt xr k<=140737488355328:=hPh.small;have hxl:xr.length=m.items.length:=hPh.len;have hIw:IntsV W A m.items.length ws:=HI.out.below hI.bel;have hIe:IntsV W (some ⟨R+3,0,none⟩) m.items.length xr:=⟨(trow_bk hPh.row).row,hxl.symm,fun z hz=>by
     obtain⟨k,hk,rfl⟩:=List.getElem_of_mem hz
     have:=hsm k
     rw[show wAt xr k=xr[k] by simp[wAt,hk]]at this
     omega⟩
    have KW:Hid (∀d:Nat,Calls Tryz.prog 78 #[.slice A m.items.length c,.slice (some ⟨R+3,0,none⟩) m.items.length d] W fun e w'=>∃v,e=.returned v∧WideQ w' (dotTo ws xr m.items.length) v∧Below W.heap.size W w'):=fun d=>weighted_any c d hIw hIe Hc64.out HWs.out hsm
    clear hI hPh hsm hIw hIe
    gi_wp2_with fail
    refine⟨trivial,((callsIn_wide.2 (KW.out _)).inRound l).mono ?_⟩;rintro e w3 ⟨v,rfl,hv,hb3⟩;have HB3:=iH hb3;have KS:=iH (sign_any hv);clear hv hb3 KW
    gi_wp2_with fail
    refine⟨trivial,((callsIn_wide.2 KS.out).inRound l).mono ?_⟩;rintro e w4 ⟨r,rfl,hr,hb4⟩;have HB4:=iH (HB3.out.trans (hb4.mono HB3.out.size));have Hr:=iH hr;clear hr hb4 KS;by_cases hr0:r=0
    ·have q3:(r != 0)=false:=by simpa using hr0
     have Hz:=iH (Hr.out.1 hr0);clear hr0
     gi_wp2
     have HI4:=HIx.out.below HB4.out;exact⟨keeps_below HB4.out,kpE_below HPh.out.row.lt HB4.out,HI4.wb,HI4.rb,HI4.bel,fun x hx=>by
      rcases List.mem_append.1 hx with h|h
      ·exact HI4.zero x h
      ·obtain rfl:x=(xi,xr):=by simpa using h
       exact Hz.out⟩
    ·have q3:(r != 0)=true:=by simpa using hr0
     have Hz:=iH (fun h=>hr0 (Hr.out.2 h));have HI4:=iH (HIx.out.below HB4.out);have rf:w4.frozen? ⟨B+2,0,none⟩=false:=HI4.out.rb.frozen 0;have r0:=HI4.out.rb.k0;have rl:=HI4.out.rb.lt;clear hr0
     gi_wp2
     exact⟨(keeps_below HB4.out).trans (.setCell _ _ _),rfl,HI4.out.rb.set 0 (.bool false),HI4.out.bel.setCell (p:=⟨B+2,0,none⟩) (by show w.heap.size<=B+2;have:=HBe.out;omega) _,(xi,xr),by simp,Hz.out⟩
   case done =>
    rintro xs W rfl hI hK;have rf:W.frozen? ⟨B+2,0,none⟩=false:=hI.rb.frozen 0;have r0:=hI.rb.k0;have rl:=hI.rb.lt;have HI4:=iH hI;have HK:=iH hK;clear hI hK
    gi_wp2
    have hK2:(W.setCell ⟨B+1+1,0,none⟩ (.bool true)).heap[R+1]? = some (.deferred (some [])):=(Below.heap_setCell W ⟨B+2,0,none⟩ _ (R+1) (by show R+1≠B+2;have:=HRl.out;omega)).trans HK.out;have hset:((W.setCell ⟨B+1+1,0,none⟩ (.bool true)).putObj (R+1) (.deferred none)).cell? ⟨B+1+1,0,none⟩=some (.bool true) :=
     ((HI4.out.rb.set 0 (.bool true)).grown (grownBy_putObj' _ (R+1) (.deferred none)) (fun e=>by cases e;have:=HRl.out;omega)).cell 0
    refine⟨by simp,.inl ⟨_,_,rfl,run_takeDeferred hK2,?_⟩⟩;refine⟨.bool true,by simp[results,Tryz.results20,go_sem,hset],?_⟩;refine⟨?_,(HI4.out.bel.setCell (p:=⟨B+2,0,none⟩) (by show w.heap.size<=B+2;have:=HBe.out;omega) _).grown (grownBy_putObj' _ (R+1) (.deferred none)) (by rw[World.size_setCell];exact HI4.out.bel.size) (fun q e=>by cases e;have:=HRl.out;have:=HBe.out;omega)⟩;have hh:HoldE m.items.length ws m:=⟨Hc.out,rfl,fun d hd=>by
     obtain⟨x,hx,rfl⟩:=List.mem_map.1 hd
     exact HI4.out.zero x hx⟩
    rw[decide_eq_true hh]
   case stop =>
    rintro cd pre W hS hI hK;obtain⟨rfl,hrb,hbel,hbad⟩:=hI;have HK:=iH hK;clear hK
    gi_wp2
    have hset:(W.putObj (R+1) (.deferred none)).cell? ⟨B+1+1,0,none⟩=some (.bool false) :=
     (hrb.grown (grownBy_putObj' _ (R+1) (.deferred none)) (fun e=>by cases e;have:=HRl.out;omega)).cell 0
    refine⟨by simp,.inl ⟨_,_,rfl,run_takeDeferred HK.out,?_⟩⟩;refine⟨.bool false,by simp[results,Tryz.results20,go_sem,hset],?_⟩;refine⟨?_,hbel.grown (grownBy_putObj' _ (R+1) (.deferred none)) hbel.size (fun q e=>by cases e;have:=HRl.out;have:=HBe.out;omega)⟩;have hh:¬ HoldE m.items.length ws m:=fun h=>by
     obtain⟨x,hx,hne⟩:=hbad;exact hne (h.2.2 _ (List.mem_map.2 ⟨x,hS.subset hx,rfl⟩))
    rw[decide_eq_false hh]
  ·have q2:((n:Int) != (m.si.n:Int))=true:=by simp[hni];omega
   rw[hni]at k0 q2;have HQ:=iH (HBad.out fun h=>hl h.2.1);have hset:(w1.setCell ⟨B+1+1,0,none⟩ (.bool false)).cell? ⟨B+1+1,0,none⟩=some (.bool false):=(HC2.out.set 0 (.bool false)).cell 0;clear hc HM1 HC1 HB1 HBad
   gi_wp2
   exact⟨.bool false,by simp[results,Tryz.results20,go_sem,hset],HQ.out⟩
 ·have q1:(codeC m != 0)=true:=by simpa using hc
  have HQ:=iH (HBad.out fun h=>hc h.1);have hset:(w1.setCell ⟨B+1+1,0,none⟩ (.bool false)).cell? ⟨B+1+1,0,none⟩=some (.bool false):=(HC2.out.set 0 (.bool false)).cell 0;clear hc HM1 HC1 HB1 HBad
  gi_wp2
  exact⟨.bool false,by simp[results,Tryz.results20,go_sem,hset],HQ.out⟩
end
section
open Go.Shelf
theorem itemName_any (nm:ByteArray) (ob mi co:Bool) (we bi le:Int) (W:World):Calls Tryz.prog 76 #[.agg #[.string nm,.bool ob,.bool mi,.bool co,.int .i64 we,.int .i64 bi,.int .i64 le]] W fun e w'=>e=.returned (.string nm)∧w'=W.alloc (.cells #[.string nm,.bool ob,.bool mi,.bool co,.int .i64 we,.int .i64 bi,.int .i64 le] 42):=by
 go_enter Tryz.func76,Tryz.ntmps76;go_wp2;go_ret;exact⟨rfl,rfl⟩
theorem fst_lt {l:List It} {s:ByteArray}:∀ {k a:Nat},fstTo l s k=some a->a<k∧(itAt l a).name=s:=by
 intro k
 induction k with
 | zero=>intro a h;cases h
 | succ k ih =>
   intro a h;simp only[fstTo]at h;split at h
   ·rename_i i hi
    cases h;have:=ih hi;exact⟨by omega,this.2⟩
   ·split at h
    ·rename_i hq
     cases h;exact⟨by omega,hq⟩
    ·cases h
theorem fst_some {l:List It} {s:ByteArray}:∀ {k a:Nat},a<k->(itAt l a).name=s->∃b,fstTo l s k=some b:=by
 intro k
 induction k with
 | zero=>intro a ha _;omega
 | succ k ih =>
   intro a ha hs;simp only[fstTo];cases hf:fstTo l s k with
   | some b=>exact⟨b,rfl⟩
   | none =>
     by_cases e:a=k
     ·subst e;exact⟨a,by rw[if_pos hs]⟩
     ·obtain⟨b,hb⟩:=ih (by omega) hs;rw[hb]at hf;cases hf
theorem find_items {w : World} {A : Option Addr} {n c : Nat} {l : List It} (h : ItsV w ⟨A, n, c⟩ l) {s : ByteArray} (hs : s.size <= maxLen) :
 Calls Tryz.prog 75 #[.slice A n c,.string s,.func (.func 76) #[] #[]] w fun e w'=>e=.returned (.tuple #[.int .i64 (((fstI l s).getD 0:Nat):Int),.bool (fstI l s).isSome])∧Below w.heap.size w w':=by
 have hmm:=fun W:World=>run_mapHint (P:=Tryz.prog) 117 9 3 .i64 n Tryz.underlying117 W
 have Hln:Hid (n=l.length):=h.len;have hsm:n<=100000:=h.small;have H:=iH h;clear h;go_enter Tryz.func75,Tryz.ntmps75;go_wp2_with fail;have HM0:=iH (MapI.made w);have hB0:Below w.heap.size w (w.alloc (.map #[] 0)):=(Below.refl _ _).alloc (Nat.le_refl _) _;go_loopw [20] (fun i wr=>∃k q:Nat,q<=k∧k<=n∧i=.int .i64 k∧MapI wr w.heap.size q (fun t=>fstTo l t k)∧Below w.heap.size w wr) (fun i _=>n-(intOf i).toNat)
 case atStart=>exact⟨0,0,Nat.le_refl _,Nat.zero_le _,rfl,HM0.out,hB0⟩
 case round =>
  obtain⟨k,q,hq,hk,rfl,hm,hb⟩:=hrel;have HM:=iH hm;have hsz:=hb.size;have hml:=hm.lt;clear hm hmm HM0;by_cases hlt:k<n
  ·have hkl : k < l.length := by have := Hln.out; omega
   obtain⟨b,off,hA,hbb,c0,c1,c2,c3,c4,c5,c6⟩:=(H.out.below hb).at_ k hkl;dsimp only at hA;subst hA;have hnm:=H.out.each l[k] (List.getElem_mem hkl);have hpm:l[k].name.size<=maxLen:=by unfold maxLen;omega
   have HT:Hid (∀t,fstTo l t (k+1)=match fstTo l t k with | some i=>some i | none=>if l[k].name=t then some k else none):=fun t=>by
    show(match fstTo l t k with | some i=>some i | none=>if(itAt l k).name=t then some k else none)=_;rw[show itAt l k=l[k] by simp[itAt,hkl]]
   generalize l[k]=t at *;obtain⟨nm,ob,mi,co,we,bi,le⟩:=t;dsimp only at *;have hb2:Below w.heap.size w ((wr.alloc (.cells #[.string nm,.bool ob,.bool mi,.bool co,.int .i64 we,.int .i64 bi,.int .i64 le] 42)).alloc (.cells #[.string nm,.bool ob,.bool mi,.bool co,.int .i64 we,.int .i64 bi,.int .i64 le] 42)):=(hb.alloc hsz _).alloc (by simp;omega) _;have HM2:=iH (HM.out.below (((Below.refl _ wr).alloc (Nat.le_refl _) (.cells #[.string nm,.bool ob,.bool mi,.bool co,.int .i64 we,.int .i64 bi,.int .i64 le] 42)).alloc (by simp) (.cells #[.string nm,.bool ob,.bool mi,.bool co,.int .i64 we,.int .i64 bi,.int .i64 le] 42)));have KN:Hid (∀W,Calls Tryz.prog 76 #[.agg #[.string nm,.bool ob,.bool mi,.bool co,.int .i64 we,.int .i64 bi,.int .i64 le]] W fun e w'=>e=.returned (.string nm)∧w'=W.alloc (.cells #[.string nm,.bool ob,.bool mi,.bool co,.int .i64 we,.int .i64 bi,.int .i64 le] 42)):=itemName_any nm ob mi co we bi le;have hlook:=HM2.out.look hpm
   try dsimp only at hlook
   cases hf:fstTo l nm k with
   | some i0 =>
     rw[hf]at hlook;dsimp only[Option.getD,Option.isSome]at hlook;have HM3:Hid (MapI ((wr.alloc (.cells #[.string nm,.bool ob,.bool mi,.bool co,.int .i64 we,.int .i64 bi,.int .i64 le] 42)).alloc (.cells #[.string nm,.bool ob,.bool mi,.bool co,.int .i64 we,.int .i64 bi,.int .i64 le] 42)) w.heap.size q (fun t=>fstTo l t (k+1))):=by
      have e:(fun t=>fstTo l t (k+1))=(fun t=>fstTo l t k):=by
       funext t;rw[HT.out t];cases ht:fstTo l t k with
       | some i=>rfl
       | none =>
         show(if nm=t then some k else none)=none;rw[if_neg];rintro rfl;rw[hf]at ht;cases ht
      rw[e];exact HM2.out
     clear HT hf HM2;go_wp2_with fail;refine(KN.out _).mono ?_;rintro e w' ⟨rfl,rfl⟩;go_wp2;go_roundw
     case rel=>exact⟨k+1,q,by omega,by omega,by go_num,HM3.out,hb2⟩
     case measure=>simp[intOf];omega
   | none =>
     rw[hf]at hlook;dsimp only[Option.getD,Option.isSome]at hlook;have HM3:=iH (HM2.out.below ((Below.refl _ ((wr.alloc (.cells #[.string nm,.bool ob,.bool mi,.bool co,.int .i64 we,.int .i64 bi,.int .i64 le] 42)).alloc (.cells #[.string nm,.bool ob,.bool mi,.bool co,.int .i64 we,.int .i64 bi,.int .i64 le] 42))).alloc (Nat.le_refl _) (.cells #[.string nm,.bool ob,.bool mi,.bool co,.int .i64 we,.int .i64 bi,.int .i64 le] 42)));obtain⟨w3,hrun,hM4,hg4⟩:=HM3.out.put hpm k (by omega) (by omega);have hb5:Below w.heap.size w w3:=(hb2.alloc (by simp;omega) _).grown hg4 (by simp;omega) (fun g e=>by cases e;omega);have HM4:Hid (MapI w3 w.heap.size (q+1) (fun t=>fstTo l t (k+1))):=by
      have e:(fun t=>fstTo l t (k+1))=(fun t=>if t=nm then some k else fstTo l t k):=by
       funext t;rw[HT.out t];by_cases e:t=nm
       ·subst e;rw[hf,if_pos rfl]
       ·rw[if_neg e];cases ht:fstTo l t k with
        | some i=>rfl
        | none=>show(if nm=t then some k else none)=none;rw[if_neg fun h=>e h.symm]
      rw[e];exact hM4
     clear HT hf HM2 HM3 hM4 hg4;go_wp2_with fail;refine(KN.out _).mono ?_;rintro e w' ⟨rfl,rfl⟩;go_wp2_with fail;refine(KN.out _).mono ?_;rintro e w' ⟨rfl,rfl⟩;go_wp2;go_roundw
     case rel=>exact⟨k+1,q+1,by omega,by omega,by go_num,HM4.out,hb5⟩
     case measure=>simp[intOf];omega
  ·obtain rfl:k=n:=by omega
   have hlook:=HM.out.look hs;have e:fstTo l s k=fstI l s:=by unfold fstI;rw[Hln.out]
   rw[e]at hlook;go_wp2;exact bodyPost_ret (v:=.tuple #[.int .i64 (((fstI l s).getD 0:Nat):Int),.bool (fstI l s).isSome]) (by simp[results,Tryz.results75,go_sem]) rfl ⟨rfl,hb⟩
def ItemQ (w:World) (m:CatM) (s:ByteArray) (e:Ending) (w':World):Prop:=e=.returned (.tuple #[.int .i64 (((fstI m.items s).getD 0:Nat):Int),.bool (fstI m.items s).isSome])∧Below w.heap.size w w'
theorem item_any {w:World} {m:CatM} (hm:m.Ok w) {s:ByteArray} (hs:s.size<=maxLen):Calls Tryz.prog 18 #[m.val,.string s] w (ItemQ w m s):=by
 have X0:Below w.heap.size w (w.alloc (.cells #[.slice m.si.A m.si.n m.si.c,.slice m.sr.A m.sr.n m.sr.c,.slice m.st.A m.st.n m.st.c,.slice m.sx.A m.sx.n m.sx.c] 28)):=(Below.refl _ _).alloc (Nat.le_refl _) _;have K:=iH (find_items (A:=m.si.A) (n:=m.si.n) (c:=m.si.c) (l:=m.items) (hm.items.below X0) hs);have HX:=iH X0;clear hm X0;go_enter Tryz.func18,Tryz.ntmps18;go_wp2_with fail;refine K.out.mono ?_;rintro e w' ⟨rfl,hb⟩;go_wp2;exact bodyPost_ret (v:=.tuple #[.int .i64 (((fstI m.items s).getD 0:Nat):Int),.bool (fstI m.items s).isSome]) (by simp[results,Tryz.results18,go_sem]) rfl ⟨rfl,HX.out.trans (hb.mono HX.out.size)⟩
end
section
theorem diff_spec {l:List ByteArray}:∀ {k:Nat},diffTo l k=true->∀i j,i<j->j<k->l[i]?.getD ⟨#[]⟩≠l[j]?.getD ⟨#[]⟩∨l.length<=i:=by
 intro k
 induction k with
 | zero=>intro _ i j _ hj;omega
 | succ k ih =>
   intro h i j hij hj;simp only[diffTo,Bool.and_eq_true,Bool.not_eq_true',hasS,List.any_eq_false,decide_eq_true_eq]at h;by_cases e:j=k
   ·subst e;by_cases hl:i<l.length
    ·left;intro he;have hm:l[i]∈l.take j:=by
      rw[List.mem_take_iff_getElem];exact⟨i,by omega,rfl⟩
     have:=h.2 _ hm;simp[hl]at he;exact this he.symm
    ·right;omega
   ·exact ih h.1 i j hij (by omega)
theorem dist_diff {l:List It} (h:diffB (l.map It.name)=true):Dist l:=by
 intro i j hi hj he;have key:∀i j,i<j->j<l.length->(itAt l i).name≠(itAt l j).name:=fun i j hij hj=>by
  have:=diff_spec h i j hij (by simpa using hj);rcases this with h1|h1
  ·simpa[itAt,show i<l.length by omega,hj]using h1
  ·simp at h1;omega
 rcases Nat.lt_trichotomy i j with h1|h1|h1
 ·exact absurd he (key i j h1 hj)
 ·exact h1
 ·exact absurd he.symm (key j i h1 hi)
theorem dist_code {m:CatM} (h:codeC m=0):Dist m.items:=by
 have:=(code_parts h).2.2.1;simp only[diffC,Bool.and_eq_true]at this;exact dist_diff this.1.1.1
theorem mg_codes {a b:CatM} (h:mgE a b=0):codeC a=0∧codeC b=0:=by
 unfold mgE at h;by_cases e:codeBoth a b≠0
 ·rw[if_pos e]at h;exact absurd h e
 ·exact codeBoth_zero (by omega)
theorem eff_find {a b c:CatM} (hc:c.core=(mgC a b).core) (h0:mgE a b=0) {i:Nat} (hi:i<b.items.length) :
 ∃q,fstI c.items (itAt b.items i).name=some q∧q<c.items.length∧(plAt (placeL a.items b.items) (i:Int)).toNat=q∧colOf c q=colOf b i:=by
 obtain⟨ca,cb⟩:=mg_codes h0;have da:=dist_code ca;have db:=dist_code cb;have hits:=(res_merged hc h0 cb).2;obtain⟨p1,p2⟩:=placeL_plAt (lo:=a.items) hi;obtain⟨p,hp⟩:∃p:Nat,plAt (placeL a.items b.items) (i:Int)=(p:Int):=⟨(plAt (placeL a.items b.items) (i:Int)).toNat,by omega⟩;have hpl:p<c.items.length:=by rw[hits];omega
 have hnm:(itAt b.items i).name=(itAt c.items p).name:=by
  rw[hits]at hpl⊢;exact(place_iff da db hi hpl).2 hp
 obtain⟨q,hq⟩:=fst_some (l:=c.items) (s:=(itAt b.items i).name) hpl hnm.symm;obtain⟨q1,q2⟩:=fst_lt hq;have hqp:plAt (placeL a.items b.items) (i:Int)=(q:Int):=by
  rw[hits]at q1 q2;exact(place_iff da db hi q1).1 q2.symm
 exact⟨q,hq,q1,by omega,col_merged hc h0 da db cb hi q1 q2.symm⟩
def vsTo (ws pl:List Int) (k:Nat):List Int:=(List.range k).map fun i:Nat=>wAt ws (plAt pl (i:Int)).toNat
@[simp] theorem vsTo_length (ws pl : List Int) (k : Nat) : (vsTo ws pl k).length = k := by simp [vsTo]
theorem vsTo_succ (ws pl:List Int) (k:Nat):vsTo ws pl (k+1)=vsTo ws pl k ++ [wAt ws (plAt pl (k:Int)).toNat]:=by simp[vsTo,List.range_succ]
theorem holds_both {a b c:CatM} (hc:c.core=(mgC a b).core) (h0:mgE a b=0) (hcc:codeC c=0) (ws:List Int) :
 decide (HoldE b.items.length (vsTo ws (placeL a.items b.items) b.items.length) b)=decide (HoldE c.items.length ws c):=by
 obtain⟨ca,cb⟩:=mg_codes h0;have hd:=dots_merged (ws:=ws) (vs:=vsTo ws (placeL a.items b.items) b.items.length) hc h0 cb fun i hi=>by simp[wAt,vsTo,hi]
 unfold HoldE;simp[cb,hcc,hd]
structure EfS (w W : World) (b8 b9 : Nat) (b c : CatM) (Ax Ay : Option Addr) (sx sy : List Sl) : Prop where
 k8:Bk W b8 28 (catSL b.si b.sr b.st b.sx)
 k9:Bk W b9 28 (catSL c.si c.sr c.st c.sx)
 okb:b.Ok W
 okc:c.Ok W
 tab:Tab W
 rx:TRow W 22 Ax (sx.map slv)
 ry:TRow W 22 Ay (sy.map slv)
 lx:sx.length=b.items.length
 ly:sy.length=c.items.length
 cx:∀i (hi:i<sx.length),IntsV W sx[i].A sx[i].n (colOf b i)
 cy:∀i (hi:i<sy.length),IntsV W sy[i].A sy[i].n (colOf c i)
 bel:Below w.heap.size w W
section
variable {w W W' : World} {b8 b9 : Nat} {b c : CatM} {Ax Ay : Option Addr} {sx sy : List Sl}
theorem EfS.below (h:EfS w W b8 b9 b c Ax Ay sx sy) (hb:Below W.heap.size W W'):EfS w W' b8 b9 b c Ax Ay sx sy :=
 ⟨h.k8.below hb h.k8.lt,h.k9.below hb h.k9.lt,h.okb.below hb,h.okc.below hb,h.tab.below hb h.tab.1,h.rx.keep (.below hb),h.ry.keep (.below hb),h.lx,h.ly,fun i hi=>(h.cx i hi).below hb,fun i hi=>(h.cy i hi).below hb,h.bel.trans (hb.mono h.bel.size)⟩
theorem trow_sl {A:Option Addr} {l:List Sl} (h:TRow W 22 A (l.map slv)) (i:Nat) (hi:i<l.length):∃g off,A=some ⟨g,off,none⟩∧g<W.heap.size∧W.cell? ⟨g,off+i,none⟩=some (slv l[i]):=by
 rcases h with h|⟨g,off,cur,fl,hA,hb,hc⟩
 ·have:l=[]:=by simpa using h
  subst this;simp at hi
 ·have hj:=hc i (slv l[i]) (by simp[hi]);exact⟨g,off,hA,(Array.getElem?_eq_some_iff.1 hb).1,by simp[World.cell?,hb,hj]⟩
end
def WsOk (k:Nat) (ws:List Int):Prop:=ws.length=k∧∀x∈ws,-3<=x∧x<=3
theorem WsOk.snoc {k:Nat} {ws:List Int} (h:WsOk k ws) {x:Int} (hx : -3<=x∧x<=3):WsOk (k+1) (ws ++ [x]) :=
 ⟨by rw[List.length_append,h.1];rfl,fun y hy=>by
  rcases List.mem_append.1 hy with h1|h1
  ·exact h.2 y h1
  ·obtain rfl:y=x:=by simpa using h1
   exact hx⟩
theorem WsOk.at_ {k:Nat} {ws:List Int} (h:WsOk k ws) (i:Nat) : -3<=wAt ws i∧wAt ws i<=3:=by
 unfold wAt;by_cases hi:i<ws.length
 ·simpa[hi]using h.2 ws[i] (List.getElem_mem hi)
 ·rw[List.getElem?_eq_none (by omega)];simp
theorem WsOk.wf {k:Nat} {ws:List Int} (h:WsOk k ws):Wf ws:=fun x hx=>by have:=h.2 x hx;omega
theorem WsOk.vs {n:Nat} {ws:List Int} (h:WsOk n ws) (pl:List Int) (k:Nat):WsOk k (vsTo ws pl k) :=
 ⟨by simp,fun x hx=>by
  obtain⟨i,_,rfl⟩:=List.mem_map.1 hx
  exact h.at_ _⟩
theorem ws_own {W:World} {base k c:Nat} {A:Option Addr} {ws:List Int} (h:WsOk k ws) (ho:W.ownsRow base 3 1 (.slice A k c) k (ints ws)):IntsV W A k ws:=⟨(TRow.of_own ho).row,h.1.symm,h.wf⟩
theorem cell_below {W W':World} {g i:Nat} {v:Value} (hb:Below W.heap.size W W') (hc:W.cell? ⟨g,i,none⟩=some v) (hg:g<W.heap.size):W'.cell? ⟨g,i,none⟩=some v:=(World.cell?_of_block (hb.block g hg)).trans hc
theorem lt_below {W W':World} {g:Nat} (hb:Below W.heap.size W W') (hg:g<W.heap.size):g<W'.heap.size:=Nat.lt_of_lt_of_le hg hb.size
theorem own_below {W W':World} {base e size k:Nat} {v:Value} {xs:List Value} (h:W.ownsRow base e size v k xs) (hb:Below W.heap.size W W'):W'.ownsRow base e size v k xs:=h.kept (grown_of_below hb none) (by
 cases v.ownBlock with
 | none=>exact .inl rfl
 | some g=>exact .inr (by simp))
theorem same_ints {w:World} {A A':Option Addr} {n m c c':Nat} {xs:List Int} (hx:IntsV w A n xs) (hy:IntsV w A' m xs) (hs:xs.length<=1000):Calls Tryz.prog 19 #[.slice A n c,.slice A' m c'] w fun e w'=>e=.returned (.bool true)∧Below w.heap.size w w':=by
 refine(same_any hx.row hy.row hx.len hy.len (by rw[hx.len];omega)).mono ?_;rintro e w' ⟨rfl,hb⟩;exact⟨by simp[sameB],hb⟩
theorem colOf_len {m:CatM} (hc:codeC m=0) (i:Nat):(colOf m i).length<=1000:=by have:=resL_len hc;simp[colOf];omega
def EffR (w:World) (m:CatM) (N:Nat) (e:Ending) (w':World):Prop:=∃(A:Option Addr) (c k:Nat) (cd:Int),e=.returned (.tuple #[.slice A k c,.int .i64 cd])∧Below w.heap.size w w' ∧
 (cd=0->k=N∧codeC m=0∧∃sls:List Sl,TRow w' 22 A (sls.map slv)∧sls.length=m.items.length∧∀i (hi:i<sls.length),IntsV w' sls[i].A sls[i].n (colOf m i))
theorem effR_any {w:World} {m:CatM} (hm:m.Ok w) (hT:Tab w):Calls Tryz.prog 16 #[m.val] w (EffR w m m.si.n):=by
 refine(effects_any hm hT).mono ?_;rintro e w' ⟨hb,⟨h1,rfl⟩|⟨h1,A,c,sls,rfl,h2,h3,h4⟩⟩
 ·exact⟨none,0,0,codeC m,rfl,hb,fun h=>absurd h h1⟩
 ·exact⟨A,c,m.items.length,0,rfl,hb,fun _=>⟨hm.items.len.symm,h1,sls,h2,h3,h4⟩⟩
end
theorem CatSh.all {m:CatM} (h:CatSh m):∀x∈allL m,x.2.length<=12:=by
 intro x hx;rcases List.mem_append.1 hx with hx|hx
 ·obtain⟨r,hr,hx⟩:=List.mem_flatMap.1 hx;have:=h.1 r hr;simp only[ruL,List.mem_cons,List.not_mem_nil,or_false]at hx;unfold ruSmall at this;rcases hx with rfl|rfl|rfl <;> (dsimp only;omega)
 ·obtain⟨t,ht,hx⟩:=List.mem_flatMap.1 hx;obtain⟨r,hr,rfl⟩:=List.mem_map.1 hx;have:=h.2 t ht r hr;dsimp only;omega
theorem mg_any {w:World} {a b:CatM} (ha:a.Ok w) (hb:b.Ok w) (hT:Tab w) (hs:CatSh b):Calls Tryz.prog 14 #[a.val,b.val] w (MgQ w a b):=Merge_any ha hb hT hs.all code_64 code_range
theorem one1i (x:Int):∀u∈([.int .i64 x]:List Value),u.oneCell'=true:=by
 intro u hu;simp only[List.mem_cons,List.not_mem_nil,or_false]at hu;subst hu;rfl
theorem effects_walk {w : World} {A A' A'' : Option Addr} {n n' n'' : Nat} (c c' c'' : Nat) {zs zs' zs'' : List Int} (h : IntsV w A n zs) (h' : IntsV w A' n' zs') (h'' : IntsV w A'' n'' zs'') (hT : Tab w) (hf : ∀ b off, A = some ⟨b, off, none⟩ -> b < w.heap.size) (hf' : ∀ b off, A' = some ⟨b, off, none⟩ -> b < w.heap.size)
 (hlv:∀W,Tab W->Calls Tryz.prog 15 #[] W fun e w'=>e=.returned (.bool true)∧Below W.heap.size W w') :
 Calls Tryz.prog 3 #[.slice A n c,.slice A' n' c',.slice A'' n'' c''] w fun e w'=>e=.returned (.bool true)∧Below w.heap.size w w':=by
 obtain⟨i0,hi,hz0,hz1,hz2⟩:=info_parts info3;have K10:=iH (two_g c c' h h' hf hf' false);have HZ:=iH h'';have HT:=iH hT;have HL:=iH hlv;clear h h' h'' hT hf hf' hlv;go_enter Tryz.func3,Tryz.ntmps3;go_wp2_with fail;(with_reducible refine K10.out.mono ?_);rintro e w1 ⟨⟨i1,r1,t1,x1,⟨A1i,n1i,c1i⟩,⟨A1r,n1r,c1r⟩,⟨A1t,n1t,c1t⟩,⟨A1x,n1x,c1x⟩⟩,⟨i2,r2,t2,x2,⟨A2i,n2i,c2i⟩,⟨A2r,n2r,c2r⟩,⟨A2t,n2t,c2t⟩,⟨A2x,n2x,c2x⟩⟩,rfl,ha,hb,hb1,sh1,sh2⟩;have X1:Below w1.heap.size w1 ((w1.alloc (.cells #[.slice A1i n1i c1i,.slice A1r n1r c1r,.slice A1t n1t c1t,.slice A1x n1x c1x] 28)).alloc (.cells #[.slice A2i n2i c2i,.slice A2r n2r c2r,.slice A2t n2t c2t,.slice A2x n2x c2x] 28)):=((Below.refl _ _).alloc (Nat.le_refl _) _).alloc (by simp) _;have k8':=Bk.new (w1.alloc (.cells #[.slice A1i n1i c1i,.slice A1r n1r c1r,.slice A1t n1t c1t,.slice A1x n1x c1x] 28)) 28 [.slice A2i n2i c2i,.slice A2r n2r c2r,.slice A2t n2t c2t,.slice A2x n2x c2x];rw[World.size_alloc]at k8';have P7:=iH ((Bk.new w1 28 [.slice A1i n1i c1i,.slice A1r n1r c1r,.slice A1t n1t c1t,.slice A1x n1x c1x]).alloc (.cells #[.slice A2i n2i c2i,.slice A2r n2r c2r,.slice A2t n2t c2t,.slice A2x n2x c2x] 28));have P8:=iH k8';have HB:=iH (hb1.trans (X1.mono hb1.size));have HA:=iH (ha.below X1);have HA':=iH (hb.below X1);have HTb:=iH ((HT.out.below hb1 HT.out.1).below X1 (HT.out.below hb1 HT.out.1).1);have Sh2:=iH sh2;clear ha hb hb1 X1 k8' K10 sh1 sh2 HT;go_upto_region 2 with fail;obtain⟨b7,hb7⟩:∃b7,w1.heap.size=b7:=⟨_,rfl⟩;have hb8:w1.heap.size+1=b7+1:=by rw[hb7]
 generalize(w1.alloc (.cells #[.slice A1i n1i c1i,.slice A1r n1r c1r,.slice A1t n1t c1t,.slice A1x n1x c1x] 28)).alloc (.cells #[.slice A2i n2i c2i,.slice A2r n2r c2r,.slice A2t n2t c2t,.slice A2x n2x c2x] 28)=W1 at P7 P8 HB HA HA' HTb⊢;rw[hb7]at P7;rw[hb8]at P8;(try rw[hb8]);(try rw[hb7]);clear hb7 hb8;have KC:=iH (mg_any HA.out HA'.out HTb.out Sh2.out);(try dsimp only at KC);have a0:=P7.out.k0;have a1:=P7.out.k1;have a2:=P7.out.k2;have a3:=P7.out.k3;have al:=P7.out.lt;have b0:=P8.out.k0;have b1:=P8.out.k1;have b2:=P8.out.k2;have b3:=P8.out.k3;have bl:=P8.out.lt;go_wp2_with fail;(with_reducible refine KC.out.mono ?_);rintro e w3 ⟨⟨i3,r3,t3,x3,⟨A3i,n3i,c3i⟩,⟨A3r,n3r,c3r⟩,⟨A3t,n3t,c3t⟩,⟨A3x,n3x,c3x⟩⟩,rfl,ok3,co3,hb3⟩;have y3:=(Below.refl w3.heap.size w3).alloc (Nat.le_refl _) (.cells #[.slice A3i n3i c3i,.slice A3r n3r c3r,.slice A3t n3t c3t,.slice A3x n3x c3x] 28);have z3:=hb3.trans (y3.mono hb3.size);have Q8:=iH (P8.out.below z3 P8.out.lt);have GB:=iH (HB.out.trans (z3.mono HB.out.size));have GA':=iH (HA'.out.below z3);have GT:=iH (HTb.out.below z3 HTb.out.1);have G3:=iH (ok3.below y3);have C3:=iH co3;have D3:=iH (Bk.new w3 28 [.slice A3i n3i c3i,.slice A3r n3r c3r,.slice A3t n3t c3t,.slice A3x n3x c3x]);clear a0 a1 a2 a3 al b0 b1 b2 b3 bl KC ok3 co3 hb3 y3 z3 P7 P8 HB HA HA' HTb;go_upto_region 3 with fail;obtain⟨d3,hd3⟩:∃d3,w3.heap.size=d3:=⟨_,rfl⟩;obtain⟨Y3,hY⟩:∃Y3,w3.alloc (.cells #[.slice A3i n3i c3i,.slice A3r n3r c3r,.slice A3t n3t c3t,.slice A3x n3x c3x] 28)=Y3:=⟨_,rfl⟩;rw[hY]at Q8 GB GA' GT G3 D3⊢;rw[hd3]at D3;(try rw[hd3]);clear hd3 hY;by_cases h0:mgE ⟨i1,r1,t1,x1,⟨A1i,n1i,c1i⟩,⟨A1r,n1r,c1r⟩,⟨A1t,n1t,c1t⟩,⟨A1x,n1x,c1x⟩⟩ ⟨i2,r2,t2,x2,⟨A2i,n2i,c2i⟩,⟨A2r,n2r,c2r⟩,⟨A2t,n2t,c2t⟩,⟨A2x,n2x,c2x⟩⟩=0
 ·have q1 : (mgE ⟨i1, r1, t1, x1, ⟨A1i, n1i, c1i⟩, ⟨A1r, n1r, c1r⟩, ⟨A1t, n1t, c1t⟩, ⟨A1x, n1x, c1x⟩⟩ ⟨i2, r2, t2, x2, ⟨A2i, n2i, c2i⟩, ⟨A2r, n2r, c2r⟩, ⟨A2t, n2t, c2t⟩, ⟨A2x, n2x, c2x⟩⟩ != 0) = false := by simpa using h0
  have H0:=iH h0;generalize hE1:mgE ⟨i1,r1,t1,x1,⟨A1i,n1i,c1i⟩,⟨A1r,n1r,c1r⟩,⟨A1t,n1t,c1t⟩,⟨A1x,n1x,c1x⟩⟩ ⟨i2,r2,t2,x2,⟨A2i,n2i,c2i⟩,⟨A2r,n2r,c2r⟩,⟨A2t,n2t,c2t⟩,⟨A2x,n2x,c2x⟩⟩=E1 at *;have HM0:=iH (hE1.trans H0.out);clear h0 hE1 H0;have KC:=iH (effR_any GA'.out GT.out);(try dsimp only at KC);have b0:=Q8.out.k0;have b1:=Q8.out.k1;have b2:=Q8.out.k2;have b3:=Q8.out.k3;have bl:=Q8.out.lt;go_wp2_with fail;(with_reducible refine KC.out.mono ?_);rintro e w4 ⟨Ax,cx,kx,cd1,rfl,hb4,hx⟩;have R8:=iH (Q8.out.below hb4 Q8.out.lt);have D4:=iH (D3.out.below hb4 D3.out.lt);have HB4:=iH (GB.out.trans (hb4.mono GB.out.size));have HA4:=iH (GA'.out.below hb4);have G4:=iH (G3.out.below hb4);have HT4:=iH (GT.out.below hb4 GT.out.1);have HX:=iH hx;clear b0 b1 b2 b3 bl KC hb4 hx Q8 D3 GB GA' G3 GT;have KC:=iH (effR_any G4.out HT4.out);(try dsimp only at KC);have a0:=D4.out.k0;have a1:=D4.out.k1;have a2:=D4.out.k2;have a3:=D4.out.k3;have al:=D4.out.lt;go_wp2_with fail;(with_reducible refine KC.out.mono ?_);rintro e w5 ⟨Ay,cy,ky,cd2,rfl,hb5,hy⟩;have P8:=iH (R8.out.below hb5 R8.out.lt);have P9:=iH (D4.out.below hb5 D4.out.lt);have HB5:=iH (HB4.out.trans (hb5.mono HB4.out.size));have HA5:=iH (HA4.out.below hb5);have G5:=iH (G4.out.below hb5);have HT5:=iH (HT4.out.below hb5 HT4.out.1);have Hb5:=iH hb5;have HY:=iH hy;clear a0 a1 a2 a3 al KC hb5 hy R8 D4 HB4 HA4 G4 HT4;by_cases hx0:cd1=0
  ·by_cases hy0:cd2=0
   ·subst hx0 hy0;obtain⟨hk1,hcx,sx,hrx,hlx,hvx⟩:=HX.out rfl;obtain⟨hk2,hcy,sy,hry,hly,hvy⟩:=HY.out rfl;(try dsimp only at hk1 hk2);subst kx ky;have HCy:=iH hcy;have HS:Hid (EfS w w5 (b7+1) d3 ⟨i2,r2,t2,x2,⟨A2i,n2i,c2i⟩,⟨A2r,n2r,c2r⟩,⟨A2t,n2t,c2t⟩,⟨A2x,n2x,c2x⟩⟩ ⟨i3,r3,t3,x3,⟨A3i,n3i,c3i⟩,⟨A3r,n3r,c3r⟩,⟨A3t,n3t,c3t⟩,⟨A3x,n3x,c3x⟩⟩ Ax Ay sx sy):=⟨P8.out,P9.out,HA5.out,G5.out,HT5.out,hrx.keep (.below Hb5.out),hry,hlx,hly,fun i hi=>(hvx i hi).below Hb5.out,hvy,HB5.out⟩;clear HX HY hcx hcy hrx hry hlx hly hvx hvy Hb5;have b0:=P8.out.k0;have b1:=P8.out.k1;have b2:=P8.out.k2;have b3:=P8.out.k3;have bl:=P8.out.lt;have a0:=P9.out.k0;have a1:=P9.out.k1;have a2:=P9.out.k2;have a3:=P9.out.k3;have al:=P9.out.lt;clear HA5 G5 HT5 HB5;go_upto_region 11 with fail;clear b0 b1 b2 b3 bl a0 a1 a2 a3 al P8 P9;go_wp2_with fail;go_loopw [15,16] (fun s i wr=>∃(k:Nat) (Aw:Option Addr) (cw:Nat) (ws:List Int),k<=n3i∧i=.int .i64 (k:Int)∧s=.slice Aw k cw∧wr.ownsRow w5.heap.size 3 1 (.slice Aw k cw) k (ints ws)∧WsOk k ws∧Below w5.heap.size w5 wr) (fun _ i _=>n3i-(intOf i).toNat)
    case atStart=>exact⟨0,none,0,[],Nat.zero_le _,rfl,rfl,World.ownsRow_nil w5 w5.heap.size 3 1,⟨rfl,fun x hx=>by simp at hx⟩,Below.refl _ _⟩
    case round =>
     obtain⟨k,Aw,cw,ws,hk,rfl,rfl,how,hws,hbw⟩:=hrel;have HW:=iH hbw;have HO:=iH how;have Hws:=iH hws;have HSr:=iH (HS.out.below hbw);have a0:=HSr.out.k9.k0;have al:=HSr.out.k9.lt;have hN3:n3i<=64:=by rw[show n3i=i3.length from HSr.out.okc.items.len];exact code_64 (m:=⟨i3,r3,t3,x3,⟨A3i,n3i,c3i⟩,⟨A3r,n3r,c3r⟩,⟨A3t,n3t,c3t⟩,⟨A3x,n3x,c3x⟩⟩) HCy.out
     have HN3:=iH hN3;have hsz5:w5.heap.size<=wr.heap.size:=hbw.size;clear how hws hbw;by_cases hlt:k<n3i
     ·have KP:=iH ((HZ.out.below HSr.out.bel).pick c'' (k:Int) 7 (by omega) (by omega) (by omega) (by omega));go_wp2_with fail;(with_reducible refine KP.out.mono ?_);rintro e wq ⟨rfl,rfl⟩;have hp1:=pick_lo zs'' (k:Int) 7 (by omega);have hp2:=pick_hi zs'' (k:Int) 7 (by omega);generalize pick zs'' (k:Int) 7=p at *;have hwp:IntKind.i64.wrap (p-3)=p-3:=IntWalk.i64_in _ (by omega);have hwk:IntKind.i64.wrap ((k:Int)+1)=(k:Int)+1:=IntWalk.i64_in _ (by omega);have hwp2:wrap64 (p-3)=p-3:=by unfold wrap64;omega
      have HWs:=iH (Hws.out.snoc (x:=p-3) (by omega));have HI1:Hid (ints ws ++ [.int .i64 (p-3)]=ints (ws ++ [p-3])):=by show _=_;simp[ints]
      clear hp1 hp2 KP;go_wp2_with(at_builtin;refine wpList_append_own_at _ rfl _ _ 22 rfl w5.heap.size 3 i0 (.int .i64 0) 1 8 Tryz.underlying22 hi hz0 hz1 hz2 rfl (by decide) _ k (ints ws) rfl (HO.out.alloc _) ⟨wr.heap.size,0,none⟩ 1 1 [.int .i64 (p-3)] rfl rfl (new1 _ _ _) (one1i (p-3)) (by unfold maxLen;omega) (by omega) (by simp;omega) ?_);intro v' w7 hown' hgrow _ _;have hbase:=row_base HO.out;have hb7:Below w5.heap.size w5 w7:=(HW.out.alloc HW.out.size _).grown hgrow (by rw[World.size_alloc];have:=HW.out.size;omega) (fun g e=>hbase g e);obtain⟨Aw',cw',rfl,_,_,_⟩:=row_form hown';have HO7:=iH hown';clear hown' hgrow;go_wp2;go_roundw
      case rel=>exact⟨k+1,Aw',cw',ws ++ [p-3],by omega,by go_num,rfl,by rw[<- HI1.out];exact HO7.out,HWs.out,hb7⟩
      case measure=>simp[intOf];omega
     ·have hkn:k=n3i:=by omega
      subst k;have HIw:=iH (ws_own Hws.out HO.out);clear HO HS HW hlt hk hsz5 hN3;go_wp2_with fail;clear a0 al;generalize wr=w6 at *;go_loopw [17,18] (fun s i wr=>∃(k:Nat) (Av:Option Addr) (cv:Nat),k<=n2i∧i=.int .i64 (k:Int)∧s=.slice Av k cv∧wr.ownsRow w6.heap.size 3 1 (.slice Av k cv) k (ints (vsTo ws (placeL i1 i2) k))∧Below w6.heap.size w6 wr) (fun _ i _=>n2i-(intOf i).toNat)
      case atStart=>exact⟨0,none,0,Nat.zero_le _,rfl,rfl,World.ownsRow_nil w6 w6.heap.size 3 1,Below.refl _ _⟩
      case round =>
       obtain⟨k,Av,cv,hk,rfl,rfl,how,hbw⟩:=hrel;have HW:=iH hbw;have HO:=iH how;have HS:=iH (HSr.out.below hbw);have b0:=HS.out.k8.k0;have bl:=HS.out.k8.lt;have hN2:n2i<=64:=by rw[show n2i=i2.length from HS.out.okb.items.len];exact code_64 (mg_codes HM0.out).2
       have hsz6:w6.heap.size<=wr.heap.size:=hbw.size;clear how hbw;by_cases hlt:k<n2i
       ·have hkl:k<i2.length:=by have:=HS.out.okb.items.len;dsimp only at this;omega
        obtain⟨q,hq1,hq2,hq3,hq4⟩:=eff_find C3.out HM0.out (i:=k) hkl;dsimp only at hq1 hq2 hq3;have hit:itAt i2 k=i2[k]:=by simp[itAt,hkl]
        rw[hit]at hq1;have hsm:=HS.out.okb.items.each i2[k] (List.getElem_mem hkl);have hpm:i2[k].name.size<=maxLen:=by unfold maxLen;omega
        obtain⟨gi,off,hA,hbb,c0,-⟩:=HS.out.okb.items.at_ k hkl;dsimp only at hA;subst hA;have hlx:=HS.out.lx;have hly:=HS.out.ly;dsimp only at hlx hly;obtain⟨gx,offx,hAx,hbx,x0⟩:=trow_sl HS.out.rx k (by rw[hlx];exact hkl);obtain⟨gy,offy,hAy,hby,z0⟩:=trow_sl HS.out.ry q (by rw[hly];exact hq2);subst hAx hAy;have HIx:=iH (HS.out.cx k (by rw[hlx];exact hkl));have HIy:=iH (HS.out.cy q (by rw[hly];exact hq2));rw[hq4]at HIy;have HCl:=iH (colOf_len (mg_codes HM0.out).2 k);have hq2':q<n3i:=by rw[show n3i=i3.length from HS.out.okc.items.len];exact hq2
        have Hq3:=iH hq3;have hni3:n3i<=64:=HN3.out;generalize sx[k]'(by rw[hlx];exact hkl)=sxk at *;generalize sy[q]'(by rw[hly];exact hq2)=syk at *;obtain⟨xA,xn,xc⟩:=sxk;obtain⟨yA,yn,yc⟩:=syk;dsimp only[slv]at x0 z0 HIx HIy;have KI:Hid (Calls Tryz.prog 18 #[.agg #[.slice A3i n3i c3i,.slice A3r n3r c3r,.slice A3t n3t c3t,.slice A3x n3x c3x],.string i2[k].name] wr.drew fun e w'=>e=.returned (.tuple #[.int .i64 (q:Int),.bool true])∧Below wr.drew.heap.size wr.drew w'):=by
         refine(item_any (m:=⟨i3,r3,t3,x3,⟨A3i,n3i,c3i⟩,⟨A3r,n3r,c3r⟩,⟨A3t,n3t,c3t⟩,⟨A3x,n3x,c3x⟩⟩) (HS.out.okc.below (Below.refl _ wr).drew) hpm).mono ?_;rintro e w' ⟨rfl,hb⟩;refine⟨?_,hb⟩;rw[hq1];rfl
        generalize i2[k].name=nm at *;have a0:=HS.out.k9.k0;have a1:=HS.out.k9.k1;have a2:=HS.out.k9.k2;have a3:=HS.out.k9.k3;have al:=HS.out.k9.lt;have hql:decide ((q:Int)<0)=false:=by simp
        have hqg:decide ((n3i:Int)<=(q:Int))=false:=by simp;omega
        have hqh:decide (n3i<=q)=false:=by simp;omega
        have hqi:¬ n3i<=q:=by omega
        clear hq1 hq3 hq4 hit hsm hpm hlx hly hq2;go_upto_region 20 with fail;have hS0:Below wr.heap.size wr wr.drew:=(Below.refl _ wr).drew;refine wp_region_X (fun w'=>Below wr.heap.size wr w') 13 (n:=13) rfl (by kernel_rfl) hS0 (fun hS=>?_);refine uS 0 89 hS ?_ (hy:=fun w' hS'=>by have ya0:=cell_below hS' a0 al;have ya1:=cell_below hS' a1 al;have ya2:=cell_below hS' a2 al;have ya3:=cell_below hS' a3 al;have yal:=lt_below hS' al;(go_simp;try with_reducible rfl));refine uS 1 90 hS ?_;refine uS 2 91 hS ?_ (hy:=fun w' hS'=>by have yb0:=cell_below hS' b0 bl;have ybl:=lt_below hS' bl;(go_simp;try with_reducible rfl));refine uS 3 92 hS ?_;refine uS 4 93 hS ?_;refine uS 5 94 hS ?_;refine uS 6 95 hS ?_ (hy:=fun w' hS'=>by have yc0:=cell_below hS' c0 hbb;have ycl:=lt_below hS' hbb;(go_simp;try with_reducible rfl));refine X_oR 7 rfl fun K hK=>?_
        go_simp;(with_reducible refine KI.out.mono ?_);rintro e w8 ⟨rfl,hb8⟩;have hS8:Below wr.heap.size wr w8:=hS0.trans hb8;refine hK _ _ hS8 ?_;clear hK KI hb8 hS;refine uS 8 88 hS8 ?_;refine uS 9 97 hS8 ?_;refine uS 10 98 hS8 ?_;refine uS 11 19 hS8 ?_;refine uS 12 20 hS8 ?_;refine X_done (by kernel_rfl) ?_;go_upto_region 21 with fail;have hS9:Below wr.heap.size wr w8.drew:=hS8.drew;refine wp_region_X (fun w'=>Below wr.heap.size wr w') 24 (n:=24) rfl (by kernel_rfl) hS9 (fun hS=>?_);refine uS 0 99 hS ?_;refine uS 1 100 hS ?_;refine uS 2 101 hS ?_;refine uS 3 102 hS ?_;refine uS 4 103 hS ?_;refine uS 5 104 hS ?_;refine uS 6 105 hS ?_;refine uS 7 106 hS ?_;refine uS 8 107 hS ?_;refine uS 9 108 hS ?_;refine uS 10 109 hS ?_;refine uS 11 110 hS ?_;refine uS 12 111 hS ?_;refine uS 13 112 hS ?_;refine uS 14 113 hS ?_;refine uS 15 114 hS ?_;refine uS 16 115 hS ?_ (hy:=fun w' hS'=>by have yx0:=cell_below hS' x0 hbx;have yxl:=lt_below hS' hbx;(go_simp;try with_reducible rfl));refine uS 17 116 hS ?_;refine uS 18 117 hS ?_;refine uS 19 118 hS ?_;refine uS 20 119 hS ?_ (hy:=fun w' hS'=>by have yz0:=cell_below hS' z0 hby;have yzl:=lt_below hS' hby;(go_simp;try with_reducible rfl));refine X_oR 21 rfl fun K hK=>?_
        go_simp;have KS:=iH (same_ints (c:=xc) (c':=yc) (HIx.out.below hS9) (HIy.out.below hS9) HCl.out);(with_reducible refine KS.out.mono ?_);rintro e w9 ⟨rfl,hb9⟩;have hS10:Below wr.heap.size wr w9:=hS9.trans (hb9.mono hS9.size);refine hK _ _ hS10 ?_;clear hK KS hb9 hS;refine uS 22 121 hS10 ?_;refine uS 23 122 hS10 ?_;refine X_done (by kernel_rfl) ?_;have HS10:=iH hS10;clear hS0 hS8 hS9 hS10;have hb69:Below w6.heap.size w6 w9:=HW.out.trans (HS10.out.mono HW.out.size);have hsz9:w6.heap.size<=w9.heap.size:=hb69.size;obtain⟨gw,offw,hAw,hgw,e0⟩:=(HIw.out.below hb69).row.at_ q (by rw[ints_length,<- HIw.out.len];exact hq2');subst hAw;have cw0:w9.cell? ⟨gw,offw+q,none⟩=some (.int .i64 (wAt ws q)):=e0 q _ (ints_at ws q (by rw[<- HIw.out.len];exact hq2'));have HV:Hid (ints (vsTo ws (placeL i1 i2) k) ++ [.int .i64 (wAt ws q)]=ints (vsTo ws (placeL i1 i2) (k+1))):=by show _=_;rw[vsTo_succ,Hq3.out];simp[ints]
        have HO9:=iH (own_below HO.out HS10.out);have HW9:=iH hb69;have hwk:IntKind.i64.wrap ((k:Int)+1)=(k:Int)+1:=IntWalk.i64_in _ (by omega);generalize wAt ws q=y at *;clear e0 hb69 b0 bl a0 a1 a2 a3 al c0 hbb x0 hbx z0 hby hql hqg hqh hqi HO HW HIx HIy HCl Hq3 HS;go_wp2_with(at_builtin;refine wpList_append_own_at _ rfl _ _ 22 rfl w6.heap.size 3 i0 (.int .i64 0) 1 8 Tryz.underlying22 hi hz0 hz1 hz2 rfl (by decide) _ k (ints (vsTo ws (placeL i1 i2) k)) rfl (HO9.out.alloc _) ⟨w9.heap.size,0,none⟩ 1 1 [.int .i64 y] rfl rfl (new1 _ _ _) (one1i y) (by unfold maxLen;omega) (by omega) (by simp;omega) ?_);intro v' w7 hown' hgrow _ _;have hbase:=row_base HO9.out;have hb7:Below w6.heap.size w6 w7:=(HW9.out.alloc HW9.out.size _).grown hgrow (by rw[World.size_alloc];omega) (fun g e=>hbase g e);obtain⟨Av',cv',rfl,_,_,_⟩:=row_form hown';have HO7:=iH hown';clear hown' hgrow;go_wp2;go_roundw
        case rel=>exact⟨k+1,Av',cv',by omega,by go_num,rfl,by rw[<- HV.out];exact HO7.out,hb7⟩
        case measure=>simp[intOf];omega
       ·have hkn:k=n2i:=by omega
        subst k;have hvw:WsOk n2i (vsTo ws (placeL i1 i2) n2i):=Hws.out.vs _ _;have HIv:=iH (ws_own hvw HO.out);have HIw2:=iH (HIw.out.below HW.out);have Hvw:=iH hvw;have HE:=holds_both C3.out HM0.out HCy.out ws;dsimp only at HE;rw[<- show n2i=i2.length from HS.out.okb.items.len]at HE;clear hvw HO HW hk hlt hsz6 hN2;go_upto_region 24 with fail;have b1:=HS.out.k8.k1;have b2:=HS.out.k8.k2;have b3:=HS.out.k8.k3;have a0:=HS.out.k9.k0;have a1:=HS.out.k9.k1;have a2:=HS.out.k9.k2;have a3:=HS.out.k9.k3;have al:=HS.out.k9.lt;rw[<- show n3i=i3.length from HS.out.okc.items.len]at HE;obtain⟨d,hd⟩:∃d,d=decide (HoldE n3i ws ⟨i3,r3,t3,x3,⟨A3i,n3i,c3i⟩,⟨A3r,n3r,c3r⟩,⟨A3t,n3t,c3t⟩,⟨A3x,n3x,c3x⟩⟩):=⟨_,rfl⟩;have KH1:Hid (∀W,Below wr.heap.size wr W->Calls Tryz.prog 20 #[.agg #[.slice A2i n2i c2i,.slice A2r n2r c2r,.slice A2t n2t c2t,.slice A2x n2x c2x],.slice Av n2i cv] W fun e w'=>e=.returned (.bool d)∧Below W.heap.size W w'):=fun W hW=>by
         rw[hd,<- HE];exact holds_any (m:=⟨i2,r2,t2,x2,⟨A2i,n2i,c2i⟩,⟨A2r,n2r,c2r⟩,⟨A2t,n2t,c2t⟩,⟨A2x,n2x,c2x⟩⟩) cv (HS.out.okb.below hW) (HS.out.tab.below hW HS.out.tab.1) (HIv.out.below hW) Hvw.out.at_
        have KH2:Hid (∀W,Below wr.heap.size wr W->Calls Tryz.prog 20 #[.agg #[.slice A3i n3i c3i,.slice A3r n3r c3r,.slice A3t n3t c3t,.slice A3x n3x c3x],.slice Aw n3i cw] W fun e w'=>e=.returned (.bool d)∧Below W.heap.size W w'):=fun W hW=>by
         rw[hd];exact holds_any (m:=⟨i3,r3,t3,x3,⟨A3i,n3i,c3i⟩,⟨A3r,n3r,c3r⟩,⟨A3t,n3t,c3t⟩,⟨A3x,n3x,c3x⟩⟩) cw (HS.out.okc.below hW) (HS.out.tab.below hW HS.out.tab.1) (HIw2.out.below hW) Hws.out.at_
        clear hd HE;have hS0:Below wr.heap.size wr wr.drew:=(Below.refl _ wr).drew;refine wp_region_X (fun w'=>Below wr.heap.size wr w') 11 (n:=11) rfl (by kernel_rfl) hS0 (fun hS=>?_);refine uS 0 130 hS ?_ (hy:=fun w' hS'=>by have yb0:=cell_below hS' b0 bl;have yb1:=cell_below hS' b1 bl;have yb2:=cell_below hS' b2 bl;have yb3:=cell_below hS' b3 bl;have ybl:=lt_below hS' bl;(go_simp;try with_reducible rfl));refine uS 1 131 hS ?_;refine uS 3 133 hS ?_ (hy:=fun w' hS'=>by have ya0:=cell_below hS' a0 al;have ya1:=cell_below hS' a1 al;have ya2:=cell_below hS' a2 al;have ya3:=cell_below hS' a3 al;have yal:=lt_below hS' al;(go_simp;try with_reducible rfl));refine uS 4 134 hS ?_;refine X_oR 2 rfl fun K hK=>?_
        go_simp;(with_reducible refine(KH1.out _ hS0).mono ?_);rintro e w8 ⟨rfl,hb8⟩;have hS8:Below wr.heap.size wr w8:=hS0.trans (hb8.mono hS0.size);refine hK _ _ hS8 ?_;clear hK hb8 hS;refine X_oR 5 rfl fun K hK=>?_
        go_simp;(with_reducible refine(KH2.out _ hS8).mono ?_);rintro e w9 ⟨rfl,hb9⟩;have hS9:Below wr.heap.size wr w9:=hS8.trans (hb9.mono hS8.size);refine hK _ _ hS9 ?_;clear hK hb9;have hdd:(d == d)=true:=by simp
        refine uS 6 136 hS9 ?_;refine uS 7 137 hS9 ?_;refine X_oR 8 rfl fun K hK=>?_
        go_simp;have KLv:=iH (HL.out w9 (HS.out.tab.below hS9 HS.out.tab.1));(with_reducible refine KLv.out.mono ?_);rintro e wz ⟨rfl,hbz⟩;have hS10:Below wr.heap.size wr wz:=hS9.trans (hbz.mono hS9.size);refine hK _ _ hS10 ?_;clear hK hbz;refine uS 9 139 hS10 ?_;refine uS 10 6 hS10 ?_;refine X_done (by kernel_rfl) ?_;have HBz:=iH (HS.out.bel.trans (hS10.mono HS.out.bel.size));go_wp2;go_ret;exact⟨rfl,HBz.out⟩
   ·have q2:(cd1 != 0)=false:=by simpa using hx0
    have q3:(cd2 != 0)=true:=by simpa using hy0
    clear hx0 hy0 HX HY C3 HM0;have K8:=iH (HL.out w5 HT5.out);go_wp2_with fail;(with_reducible refine K8.out.mono ?_);rintro e wz ⟨rfl,hbz⟩;have HBz:=iH (HB5.out.trans (hbz.mono HB5.out.size));clear hbz K8;go_wp2;go_ret;exact⟨rfl,HBz.out⟩
  ·have q2:(cd1 != 0)=true:=by simpa using hx0
   clear hx0 HX HY C3 HM0;have K8:=iH (HL.out w5 HT5.out);go_wp2_with fail;(with_reducible refine K8.out.mono ?_);rintro e wz ⟨rfl,hbz⟩;have HBz:=iH (HB5.out.trans (hbz.mono HB5.out.size));clear hbz K8;go_wp2;go_ret;exact⟨rfl,HBz.out⟩
 ·have q1:(mgE ⟨i1,r1,t1,x1,⟨A1i,n1i,c1i⟩,⟨A1r,n1r,c1r⟩,⟨A1t,n1t,c1t⟩,⟨A1x,n1x,c1x⟩⟩ ⟨i2,r2,t2,x2,⟨A2i,n2i,c2i⟩,⟨A2r,n2r,c2r⟩,⟨A2t,n2t,c2t⟩,⟨A2x,n2x,c2x⟩⟩ != 0)=true:=by simpa using h0
  generalize mgE ⟨i1,r1,t1,x1,⟨A1i,n1i,c1i⟩,⟨A1r,n1r,c1r⟩,⟨A1t,n1t,c1t⟩,⟨A1x,n1x,c1x⟩⟩ ⟨i2,r2,t2,x2,⟨A2i,n2i,c2i⟩,⟨A2r,n2r,c2r⟩,⟨A2t,n2t,c2t⟩,⟨A2x,n2x,c2x⟩⟩=E1 at *;clear h0 C3;have K8:=iH (HL.out Y3 GT.out);go_wp2_with fail;(with_reducible refine K8.out.mono ?_);rintro e wz ⟨rfl,hbz⟩;have HBz:=iH (GB.out.trans (hbz.mono GB.out.size));clear hbz K8;go_wp2;go_ret;exact⟨rfl,HBz.out⟩
end Go.Proofs.YtiecjoijnkghbaaGreatDoor

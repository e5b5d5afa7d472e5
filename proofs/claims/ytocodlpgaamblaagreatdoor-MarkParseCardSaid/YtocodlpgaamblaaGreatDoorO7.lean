/- The parser joins facts. The parser reads a mark. The parser reads a fact; Parse's reading whole. Normal: either, kids. A mark in the making: its box and its row of kids; own. The generator of marks: conditions, names; what it gives. Valid: the error of a mark. -/
import Derived.Test.YtocodlpgaamblaaGreatDoorO5
import Derived.Test.YtocodlpgaamblaaGreatDoorO6
import Derived.Deep.AppendLies
import Derived.Deep.RegionLaw
set_option linter.unusedVariables false
set_option linter.unusedSimpArgs false
set_option maxRecDepth 100000
set_option maxHeartbeats 4000000
open Go.RowKit
namespace Go.Proofs.YtocodlpgaamblaaGreatDoor
abbrev fP (m:CatM):=factP kindNs (m.rules.map RuM.name) (m.items.map It.name)
abbrev jP (m:CatM):=joinP kindNs (m.rules.map RuM.name) (m.items.map It.name)
abbrev lP (m:CatM):=listP kindNs (m.rules.map RuM.name) (m.items.map It.name)
def elemP (m:CatM) (o:Bool) (n:Nat) (ts:List Tok) (st:PSt):PR Mk:=if o then jP m n false ts st else fP m n ts st
def moreL (m:CatM) (o:Bool) (n:Nat) (ks:List Mk) (r:List Tok) (st:PSt):PR (List Mk) :=
 if headB r 0 (jOp o) then(match lP m n o r.tail st with | .bad x=>.bad x | .ok ms r' st''=>.ok (ks ++ ms) r' st'') else .ok ks r st
theorem list_bad {m:CatM} {o:Bool} {n:Nat} {ts x:List Tok} {st:PSt} (h:elemP m o n ts st=.bad x):lP m (n+1) o ts st=.bad x:=by
 unfold elemP at h;simp only[lP,listP];rw[h]
theorem list_ok {m:CatM} {o:Bool} {n:Nat} {ts r:List Tok} {st st':PSt} {k:Mk} (h:elemP m o n ts st=.ok k r st'):lP m (n+1) o ts st=moreL m o n [k] r st':=by
 unfold elemP at h;simp only[lP,listP,moreL];rw[h];dsimp only;split
 ·cases listP kindNs (m.rules.map RuM.name) (m.items.map It.name) n o r.tail st' <;> rfl
 ·rfl
theorem more_end {m:CatM} {o:Bool} {n:Nat} {ks:List Mk} {r:List Tok} {st:PSt} (h:headB r 0 (jOp o)=false):moreL m o n ks r st=.ok ks r st:=by
 unfold moreL;rw[if_neg (by simp[h])]
theorem more_bad {m:CatM} {o:Bool} {n:Nat} {ks:List Mk} {r x:List Tok} {st:PSt} (h:headB r 0 (jOp o)=true) (he:elemP m o n r.tail st=.bad x):moreL m o (n+1) ks r st=.bad x:=by
 unfold moreL;rw[if_pos h,list_bad he]
theorem more_ok {m:CatM} {o:Bool} {n:Nat} {ks:List Mk} {k:Mk} {r r2:List Tok} {st st2:PSt} (h:headB r 0 (jOp o)=true) (he:elemP m o n r.tail st=.ok k r2 st2):moreL m o (n+1) ks r st=moreL m o n (ks ++ [k]) r2 st2:=by
 have e1:moreL m o (n+1) ks r st=match lP m (n+1) o r.tail st with | .bad x=>.bad x | .ok ms r' st''=>.ok (ks ++ ms) r' st'':=by
  unfold moreL;rw[if_pos h]
 rw[e1,list_ok he];by_cases hh:headB r2 0 (jOp o)=true
 ·have e2:∀l,moreL m o n l r2 st2=match lP m n o r2.tail st2 with | .bad x=>.bad x | .ok ms r' st''=>.ok (l ++ ms) r' st'':=fun l=>by
   unfold moreL;rw[if_pos hh]
  rw[e2,e2];cases lP m n o r2.tail st2 <;> simp
 ·have e2:∀l,moreL m o n l r2 st2=.ok l r2 st2:=fun l=>by
   unfold moreL;rw[if_neg hh]
  rw[e2,e2]
theorem elem_good (m:CatM) (o:Bool) (n:Nat) (ts:List Tok) (st:PSt):(elemP m o n ts st).good ts st:=by
 unfold elemP;split
 ·exact(good_all _ _ _ n).2.1 false ts st
 ·exact(good_all _ _ _ n).1 ts st
def rdLeft (w:World) (rb:Nat):Nat:=match w.cell? ⟨rb,0,none⟩with | some (.slice _ n _)=>n | _=>0
theorem RdAt.left {W:World} {rb:Nat} {ts:List Tok} {len:Int} (h:RdAt W rb ts len):rdLeft W rb=ts.length:=by
 obtain⟨A,c,h1,_⟩:=h;have:W.cell? ⟨rb,0,none⟩=some (.slice A ts.length c):=h1.cell 0;simp[rdLeft,this]
theorem head_cons {ts:List Tok} {k:Int} {s:ByteArray} (h:headB ts k s=true):∃t r,ts=t :: r:=by
 cases ts with
 | nil=>cases h
 | cons t r=>exact⟨t,r,rfl⟩
theorem RdAt.few {W:World} {rb:Nat} {ts:List Tok} {len:Int} (h:RdAt W rb ts len):ts.length<=8192:=by
 obtain⟨A,c,_,_,_,h4,_⟩:=h;exact h4
theorem info49:(Tryz.prog.info? 49).map (fun i=>(i.zero,i.size,i.bytes))=some (some (.agg #[.string ⟨#[]⟩,.int .i64 0,.int .i64 0,.slice none 0 0]),4,56):=by kernel_rfl
theorem own_block {w:World} {base e size n g cap:Nat} {xs:List Value} (h:w.ownsRow base e size (.slice (some ⟨g,0,none⟩) n cap) n xs):base<=g∧g<w.heap.size∧∃cur,w.heap[g]? = some (.cells cur e (0,0)):=by
 rcases h.2 with ⟨h',_⟩|⟨g',cap',cur,h',hb,hg,_⟩
 ·simp at h'
 ·simp only[Value.slice.injEq,Option.some.injEq,Addr.mk.injEq,and_true,true_and]at h';obtain⟨rfl,rfl⟩:=h';exact⟨hb,(Array.getElem?_eq_some_iff.1 hg).1,cur,hg⟩
theorem own_gr2 {w w':World} {base e size n g cap r p:Nat} {xs:List Value} (h:w.ownsRow base e size (.slice (some ⟨g,0,none⟩) n cap) n xs) (hg:Gr2 r p w w') (h1:g≠r) (h2:g≠p):w'.ownsRow base e size (.slice (some ⟨g,0,none⟩) n cap) n xs:=by
 refine⟨h.1,?_⟩;rcases h.2 with ⟨h',_⟩|⟨g',cap',cur,h',hb,hc,rest⟩
 ·simp at h'
 ·simp only[Value.slice.injEq,Option.some.injEq,Addr.mk.injEq,and_true,true_and]at h';obtain⟨rfl,rfl⟩:=h';exact .inr ⟨g,cap,cur,rfl,hb,(hg.block g (Array.getElem?_eq_some_iff.1 hc).1 h1 h2).trans hc,rest⟩
theorem own_not {w:World} {base e size n g cap:Nat} {xs:List Value} (h:w.ownsRow base e size (.slice (some ⟨g,0,none⟩) n cap) n xs) {t':TypeId} (hne:e≠t'):∀cur fl,w.heap[g]? ≠ some (.cells cur t' fl):=by
 obtain⟨_,_,cur,hg⟩:=own_block h;intro c f e';rw[hg]at e';cases e';exact hne rfl
structure Kids (wr : World) (B g : Nat) (ks : List MkM) : Prop where
 each:∀k∈ks,k.Ok wr 49 (fun b=>B<b∧b≠g)
theorem Kids.far {w w':World} {B g:Nat} {ks:List MkM} (h:Kids w B g ks) (hg:w.grownBy w' (some B)):Kids w' B g ks:=⟨fun k hk=>(h.each k hk).grown hg fun b hb=>by simp;omega⟩
theorem Kids.gr2 {w w':World} {r p B g:Nat} {ks:List MkM} (h:Kids w B g ks) (hg:Gr2 r p w w') (hr:r<B) (hp:p<B):Kids w' B g ks:=⟨fun k hk=>(h.each k hk).gr2 hg fun b hb=>⟨by omega,by omega⟩⟩
theorem Kids.below {w w':World} {B g:Nat} {ks:List MkM} (h:Kids w B g ks) (hb:Below w.heap.size w w'):Kids w' B g ks:=⟨fun k hk=>(h.each k hk).bel hb⟩
theorem Kids.next {w w':World} {B g g':Nat} {ks:List MkM} {M:MkM} (h:Kids w B g ks) (hM:M.Ok w 49 (fun b=>B<b∧b≠g)) (hg:w.grownBy w' (some g)) (hat:g'=g∨g'=w.heap.size):Kids w' B g' (ks ++ [M]):=⟨fun k hk=>by
 have hk':k.Ok w 49 (fun b=>B<b∧b≠g):=by
  rcases List.mem_append.1 hk with hk|hk
  ·exact h.each k hk
  ·obtain rfl:k=M:=by simpa using hk
   exact hM
 exact(hk'.lt.grown hg fun b hb=>by simp;omega).mono fun b _ hb=>by
  rcases hat with rfl|rfl
  ·exact hb.1
  ·exact⟨hb.1.1,by omega⟩⟩
theorem Gr2.own {r p g:Nat} {a b c:World} (h:Gr2 r p a b) (hg:b.grownBy c (some g)) (hq:a.heap.size<=g):Gr2 r p a c :=
 ⟨hg.os.trans h.os,hg.tape.trans h.tape,hg.output.trans h.output,Nat.le_trans h.size hg.size,fun i hi h1 h2=>(hg.block i (Nat.lt_of_lt_of_le hi h.size) (by simp;omega)).trans (h.block i hi h1 h2)⟩
theorem one4m (M:MkM):∀u∈([.string M.op,.int .i64 M.a,.int .i64 M.b,.slice M.s.A M.s.n M.s.c]:List Value),u.oneCell'=true:=by
 intro u hu;simp only[List.mem_cons,List.not_mem_nil,or_false]at hu;rcases hu with rfl|rfl|rfl|rfl <;> rfl
theorem enters115:∀(args:Array Value) (W:World),(callFunc 115 args).run Tryz.prog W=.ok (.enter 115 args) W:=enter_of Tryz.func115 (by kernel_rfl) rfl
theorem enters114:∀(args:Array Value) (W:World),(callFunc 114 args).run Tryz.prog W=.ok (.enter 114 args) W:=enter_of Tryz.func114 (by kernel_rfl) rfl
theorem PR.joined_more {op:ByteArray} {ks:List Mk} {r:List Tok} {st:PSt} (h:ks.length≠1):(PR.ok ks r st).joined op=.ok (.node op 0 0 ks) r st:=by
 simp only[PR.joined];split
 ·simp at h
 ·rfl
theorem join_and {W : World} {rb pb : Nat} {m : CatM} {len : Int} (N : Nat)
 (hR:Hid (∀n,n<N->∀W' ts st,Gr2 rb pb W W'->PAt W' rb pb m ts len st->5*ts.length+1<=n->Calls Tryz.prog 115 #[.pointer (some ⟨pb,0,none⟩)] W' (PPost W' rb pb m len (elemP m false n ts st))))
 {ts:List Tok} {st:PSt} (h:PAt W rb pb m ts len st) (hN:5*ts.length+3<=N) :
 Calls Tryz.prog 113 #[.pointer (some ⟨pb,0,none⟩),.string ⟨#[97,110,100]⟩,.func (.func 115) #[.pointer (some ⟨pb,0,none⟩)] #[]] W (PPost W rb pb m len (jP m N false ts st)):=by
 obtain⟨N1,rfl⟩:∃N1,N=N1+2:=⟨N-2,by omega⟩;have HJ:Hid (jP m (N1+2) false ts st=(lP m (N1+1) false ts st).joined sAnd):=rfl;have y:Below W.heap.size W (W.alloc (.cells #[.string ⟨#[]⟩,.int .i64 0,.int .i64 0,.slice none 0 0] 49)):=(Below.refl _ _).alloc (Nat.le_refl _) _;have HB0:=iH (Bk.new W 49 [.string ⟨#[]⟩,.int .i64 0,.int .i64 0,.slice none 0 0]);have K0:=iH (hR.out N1 (by omega) _ ts st (.of_below y) (h.below y) (by omega));have hg0:=elem_good m false N1 ts st;have hfew:=h.rd.few;have hpl:=h.plt;have hlt:=h.lt;have hq:=enters115;obtain⟨i0,hi,hz0,hz1,hz2⟩:=info_parts info49;clear h;cases he:elemP m false N1 ts st with
 | bad x =>
   rw[list_bad he]at HJ;rw[he]at K0;have HQ:Hid (jP m (N1+2) false ts st=.bad x):=HJ.out;clear HJ he hg0 hR;go_enter Tryz.func113,Tryz.ntmps113;go_wp2_with fail;refine K0.out.mono ?_;rintro e wz ⟨rfl,hgz⟩;refine⟨rfl,?_⟩;rw[HQ.out];exact⟨rfl,(Gr2.of_below y).trans hgz⟩
 | ok k0 r0 st0 =>
   have HL:=iH (list_ok he);rw[he]at K0 hg0;clear he;have hr0:=hg0.1;go_enter Tryz.func113,Tryz.ntmps113;go_wp2_with fail;refine K0.out.mono ?_;rintro e w1 ⟨M,rfl,hMc,hMo,hP1,hG1⟩;have hs1:=hG1.size;rw[World.size_alloc]at hs1;have y1:Below w1.heap.size w1 (w1.alloc (.cells #[.string M.op,.int .i64 M.a,.int .i64 M.b,.slice M.s.A M.s.n M.s.c] 49)):=(Below.refl _ _).alloc (Nat.le_refl _) _;have HP1:=iH (hP1.below y1);have HG1:=iH (((Gr2.of_below (r:=rb) (p:=pb) y).trans hG1).trans (.of_below y1));have HB1:=iH ((HB0.out.gr2 hG1 (by omega) (by omega)).alloc (.cells #[.string M.op,.int .i64 M.a,.int .i64 M.b,.slice M.s.A M.s.n M.s.c] 49));have HM1:=iH ((hMo.lt.bel y1).mono fun b _ hb=>show W.heap.size<b∧b≠w1.heap.size from⟨by have:=hb.1;rw[World.size_alloc]at this;omega,by omega⟩);have HO1:Hid ((w1.alloc (.cells #[.string M.op,.int .i64 M.a,.int .i64 M.b,.slice M.s.A M.s.n M.s.c] 49)).ownsRow W.heap.size 49 4 (.slice (some ⟨w1.heap.size,0,none⟩) 1 1) 1 (mcells [M])):=iH (by
    have:=World.ownsRow_lit (base:=W.heap.size) (e:=49) (size:=4) w1 #[.string M.op,.int .i64 M.a,.int .i64 M.b,.slice M.s.A M.s.n M.s.c] 1 (by omega) (by decide) rfl
    exact this)
   have HMc:=iH hMc;clear hMc hMo hP1 hG1 K0 hg0 HB0 y1;go_wp2_with fail;go_loopw [7] (fun v wr=>∃(ks:List MkM) (g cap n:Nat) (r:List Tok) (s:PSt),v=.slice (some ⟨g,0,none⟩) ks.length cap∧wr.ownsRow W.heap.size 49 4 (.slice (some ⟨g,0,none⟩) ks.length cap) ks.length (mcells ks)∧Kids wr W.heap.size g ks∧PAt wr rb pb m r len s∧Gr2 rb pb W wr∧Bk wr W.heap.size 49 [.string ⟨#[]⟩,.int .i64 0,.int .i64 0,.slice none 0 0]∧n<=N1∧5*r.length+1<=n∧moreL m false n (MkM.coreL ks) r s=lP m (N1+1) false ts st∧ks.length+r.length<=8192∧1<=ks.length∧W.heap.size<g) (fun _ wr=>rdLeft wr rb)
   case atStart=>exact⟨[M],_,1,N1,r0,st0,rfl,HO1.out,⟨fun k hk=>by
    obtain rfl:k=M:=by simpa using hk
    exact HM1.out⟩,HP1.out,HG1.out,HB1.out,Nat.le_refl _,by omega,by
    show moreL m false N1 [M.core] r0 st0=_
    rw[HMc.out]
    exact HL.out.symm,by simp;omega,by simp,by omega⟩
   case round =>
    obtain⟨ks,g,cap,n,r,s,rfl,hown,hkids,hP,hG,hB,hn,hfuel,hmore,hcnt,hone,hgs⟩:=hrel;have hlen:=hP.rd.left;have HO:=iH hown;have HK:=iH hkids;have HP:=iH hP;have HG:=iH hG;have HB:=iH hB;have HM:=iH hmore;have hpl2:=hP.plt;have p0:=hP.r0;have hsz:=hG.size;obtain⟨hgW,hgl,_⟩:=own_block hown;cases hh:headB r 0 sAnd
    ·-- the end
     have KA:=iH (accept_no 0 sAnd hP.rd (by rw[isB_word _ _ (by decide)];exact hh));have HE:Hid (lP m (N1+1) false ts st=.ok (MkM.coreL ks) r s):=hmore.symm.trans (more_end hh);clear hown hkids hP hG hB hmore hh HM HO1 HM1 HP1 HG1 HB1 HL hR HMc;go_wp2_with fail;refine KA.out.mono ?_;rintro e w5 ⟨rfl,rfl⟩;clear KA;have⟨z0,z1,z2,z3,_⟩:=HB.out.p4;have fz0:=HB.out.frozen 0;have fz1:=HB.out.frozen 1;have fz2:=HB.out.frozen 2;have fz3:=HB.out.frozen 3;have hrl:=HB.out.lt;have hgne:W.heap.size≠g:=by omega
     by_cases h1:ks.length=1
     ·obtain⟨k,rfl⟩:=List.length_eq_one_iff.1 h1;have g0:w5.cell? ⟨g,0,none⟩=some (.string k.op):=HO.out.cellAt 0 (by simp);have g1:w5.cell? ⟨g,1,none⟩=some (.int .i64 k.a):=HO.out.cellAt 1 (by simp);have g2:w5.cell? ⟨g,2,none⟩=some (.int .i64 k.b):=HO.out.cellAt 2 (by simp);have g3:w5.cell? ⟨g,3,none⟩=some (.slice k.s.A k.s.n k.s.c):=HO.out.cellAt 3 (by simp);have HQ:Hid (jP m (N1+2) false ts st=.ok k.core r s):=by
       show _=_;rw[HJ.out,HE.out];rfl
      clear HJ HE;dsimp only[List.length_cons,List.length_nil,Nat.zero_add]at *;go_wp2;have HX:=four_laid HB.out (.string k.op) (.int .i64 k.a) (.int .i64 k.b) (.slice k.s.A k.s.n k.s.c);have PX:=HP.out.four HB.out hpl (.string k.op) (.int .i64 k.a) (.int .i64 k.b) (.slice k.s.A k.s.n k.s.c);have GX:=HG.out.four (Nat.le_refl _) (.string k.op) (.int .i64 k.a) (.int .i64 k.b) (.slice k.s.A k.s.n k.s.c);have KX:=HK.out.far (four_self w5 W.heap.size (.string k.op) (.int .i64 k.a) (.int .i64 k.b) (.slice k.s.A k.s.n k.s.c));generalize(((w5.setCell ⟨W.heap.size,0,none⟩ (.string k.op)).setCell ⟨W.heap.size,1,none⟩ (.int .i64 k.a)).setCell ⟨W.heap.size,2,none⟩ (.int .i64 k.b)).setCell ⟨W.heap.size,3,none⟩ (.slice k.s.A k.s.n k.s.c)=X at *;have⟨x0,x1,x2,x3,_⟩:=HX.p4;refine bodyPost_ret (v:=.agg #[.string k.op,.int .i64 k.a,.int .i64 k.b,.slice k.s.A k.s.n k.s.c]) (by simp[results,Tryz.results113,go_sem,x0,x1,x2,x3]) rfl ?_;rw[HQ.out];exact⟨k,rfl,rfl,(KX.each k (List.mem_cons_self ..)).mono fun b _ hb=>Nat.le_of_lt hb.1,PX,GX⟩
     ·have HQ:Hid (jP m (N1+2) false ts st=.ok (.node sAnd 0 0 (MkM.coreL ks)) r s):=by
       show _=_;rw[HJ.out,HE.out];exact PR.joined_more (by rw[coreL_len];exact h1)
      have hL8:ks.length<=8192:=by omega
      have hne1:((ks.length:Int) == 1)=false:=by simp;omega
      clear HJ HE;have HL9:=iH (rfl:ks.length=ks.length);generalize hkl:ks.length=kl at *;go_wp2;have HX:=four_laid HB.out (.string ⟨#[97,110,100]⟩) (.int .i64 0) (.int .i64 0) (.slice (some ⟨g,0,none⟩) kl cap);have PX:=HP.out.four HB.out hpl (.string ⟨#[97,110,100]⟩) (.int .i64 0) (.int .i64 0) (.slice (some ⟨g,0,none⟩) kl cap);have GX:=HG.out.four (Nat.le_refl _) (.string ⟨#[97,110,100]⟩) (.int .i64 0) (.int .i64 0) (.slice (some ⟨g,0,none⟩) kl cap);have KX:=HK.out.far (four_self w5 W.heap.size (.string ⟨#[97,110,100]⟩) (.int .i64 0) (.int .i64 0) (.slice (some ⟨g,0,none⟩) kl cap));have OX:=HO.out.kept (four_self w5 W.heap.size (.string ⟨#[97,110,100]⟩) (.int .i64 0) (.int .i64 0) (.slice (some ⟨g,0,none⟩) kl cap)) (.inr (by simpa[Value.ownBlock]using Ne.symm hgne));generalize(((w5.setCell ⟨W.heap.size,0,none⟩ (.string ⟨#[97,110,100]⟩)).setCell ⟨W.heap.size,1,none⟩ (.int .i64 0)).setCell ⟨W.heap.size,2,none⟩ (.int .i64 0)).setCell ⟨W.heap.size,3,none⟩ (.slice (some ⟨g,0,none⟩) kl cap)=X at *;have⟨x0,x1,x2,x3,_⟩:=HX.p4;refine bodyPost_ret (v:=.agg #[.string ⟨#[97,110,100]⟩,.int .i64 0,.int .i64 0,.slice (some ⟨g,0,none⟩) kl cap]) (by simp[results,Tryz.results113,go_sem,x0,x1,x2,x3]) rfl ?_;rw[HQ.out];refine⟨⟨sAnd,0,0,ks,⟨some ⟨g,0,none⟩,kl,cap⟩⟩,rfl,rfl,.mk _ _ _ _ _ ?_ hkl.symm (by dsimp only;omega) (by decide) ⟨by decide,by decide⟩ ⟨by decide,by decide⟩ fun k hk=>(KX.each k hk).mono fun b _ hb=>Nat.le_of_lt hb.1,PX,GX⟩;exact(PRow.of_own OX).mono fun b _ hb=>hb.2
    ·obtain⟨t1,r',rfl⟩:=head_cons hh;obtain⟨n',rfl⟩:∃n',n=n'+1:=⟨n-1,by simp at hfuel;omega⟩;have KA:=iH (accept_yes 0 sAnd hP.rd (by rw[isB_word _ _ (by decide)];exact hh));clear hown hkids hP hG hB HO1 HM1 HP1 HG1 HB1 HL HMc HM;go_wp2_with fail;refine KA.out.mono ?_;rintro e w2 ⟨rfl,hr2,hg2⟩;rw[List.tail_cons]at hr2;have hP2:=HP.out.read hg2 hr2 (fun _ ht=>List.mem_cons_of_mem _ ht);have hG2:=HG.out.trans (.of_r hg2);have KR:=iH (hR.out n' (by omega) w2 r' s hG2 hP2 (by simp at hfuel;omega));have hgood:=elem_good m false n' r' s;have HO2:=iH (HO.out.kept hg2 (.inr (by simp[Value.ownBlock];omega)));have HK2:=iH (HK.out.gr2 (.of_r (p:=pb) hg2) (by omega) hpl);have HB2:=iH (HB.out.grown hg2 (by simp;omega));have HG2:=iH hG2;have hs2:=hg2.size;clear KA hr2 hg2 hP2 hG2 HP HG HB HO HK hR;cases he:elemP m false n' r' s with
     | bad x =>
       have HQ:Hid (jP m (N1+2) false ts st=.bad x):=by
        show _=_;rw[HJ.out,<- hmore,more_bad hh he];rfl
       rw[he]at KR;clear HJ he hmore hgood;go_wp2_with fail;refine KR.out.mono ?_;rintro e wz ⟨rfl,hgz⟩;refine⟨rfl,?_⟩;rw[HQ.out];exact⟨rfl,HG2.out.trans hgz⟩
     | ok k2 r2 s2 =>
       have HM:=iH ((more_ok (ks:=MkM.coreL ks) hh he).symm.trans hmore);rw[he]at KR hgood;have hr2:=hgood.1;clear he hmore hgood hh;go_wp2_with fail;refine KR.out.mono ?_;rintro e w3 ⟨M2,rfl,hMc,hMo,hP3,hG3⟩;have hs3:=hG3.size;have y3:Below w3.heap.size w3 (w3.alloc (.cells #[.string M2.op,.int .i64 M2.a,.int .i64 M2.b,.slice M2.s.A M2.s.n M2.s.c] 49)):=(Below.refl _ _).alloc (Nat.le_refl _) _;have HP4:=iH (hP3.below y3);have HG4:=iH ((HG2.out.trans hG3).trans (.of_below y3));have HB4:=iH ((HB2.out.gr2 hG3 (by omega) (by omega)).alloc (.cells #[.string M2.op,.int .i64 M2.a,.int .i64 M2.b,.slice M2.s.A M2.s.n M2.s.c] 49));have HK4:=iH ((HK2.out.gr2 hG3 (by omega) hpl).below y3);have HO4:=iH ((own_gr2 HO2.out hG3 (by omega) (by omega)).alloc (.cells #[.string M2.op,.int .i64 M2.a,.int .i64 M2.b,.slice M2.s.A M2.s.n M2.s.c] 49));have HM4:=iH ((hMo.mono (Q:=fun b=>W.heap.size<b∧b≠g) fun b _ hb=>⟨by omega,by omega⟩).bel y3);have HMc:=iH hMc;have HC:Hid (MkM.coreL (ks ++ [M2])=MkM.coreL ks ++ [k2]):=by show _=_;rw[coreL_map,coreL_map,List.map_append,<- hMc];rfl
       have hlen2:=hP3.rd.left;clear KR hMc hMo hP3 hG3 HO2 HK2 HB2 HG2 y3;have hkl:ks.length<=8192:=by omega
       go_wp2_with(at_builtin;refine wpList_append_own_at _ rfl _ _ 47 rfl W.heap.size 49 i0 (.agg #[.string ⟨#[]⟩,.int .i64 0,.int .i64 0,.slice none 0 0]) 4 56 Tryz.underlying47 hi hz0 hz1 hz2 rfl (by decide) _ ks.length (mcells ks) rfl HO4.out ⟨w3.heap.size,0,none⟩ 1 1 [.string M2.op,.int .i64 M2.a,.int .i64 M2.b,.slice M2.s.A M2.s.n M2.s.c] rfl rfl (new4 _ _ _ _ _ _) (one4m M2) (by unfold maxLen;omega) (by omega) (by simp;omega) ?_);intro v' w4 hown' hgrow _ hat;obtain⟨g',cap',rfl⟩:=ownsRow_succ hown';have hat':g'=g∨g'=(w3.alloc (.cells #[.string M2.op,.int .i64 M2.a,.int .i64 M2.b,.slice M2.s.A M2.s.n M2.s.c] 49)).heap.size:=by simpa[Value.ownBlock]using hat
       change World.grownBy _ w4 (some g)at hgrow;have HK5:=iH (HK4.out.next HM4.out hgrow hat');have HP5:=iH (HP4.out.far hgrow (by omega) (own_not HO4.out (by decide)) (own_not HO4.out (by decide)) (own_not HO4.out (by decide)));have HG5:=iH (HG4.out.own hgrow hgW);have HB5:=iH (HB4.out.grown hgrow (by simp;omega));have HO5:=iH hown';have hlen5:=HP5.out.rd.left;have hgs5:W.heap.size<g':=by
        rcases hat' with rfl|h
        ·exact hgs
        ·rw[h,World.size_alloc];omega
       clear hown' hgrow hat hat' HK4 HP4 HG4 HB4 HO4 HM4;go_wp2_with fail;go_roundw
       case rel=>exact⟨ks ++ [M2],g',cap',n',r2,s2,by simp,by rw[mcells_snoc,List.length_append];exact HO5.out,HK5.out,HP5.out,HG5.out,HB5.out,by omega,by simp at hfuel;omega,by rw[HC.out];exact HM.out,by simp at hcnt⊢;omega,by simp,hgs5⟩
       case measure=>rw[hlen5,hlen];simp;omega
theorem join_or {W : World} {rb pb : Nat} {bx : Nat} {m : CatM} {len : Int} (N : Nat)
 (hR:Hid (∀n,n<N->∀W' ts st,Gr2 rb pb W W'->PAt W' rb pb m ts len st->5*ts.length+3<=n->Calls Tryz.prog 114 #[.pointer (some ⟨bx,0,none⟩)] W' (PPost W' rb pb m len (elemP m true n ts st))))
 {ts:List Tok} {st:PSt} (h:PAt W rb pb m ts len st) (hN:5*ts.length+5<=N) :
 Calls Tryz.prog 113 #[.pointer (some ⟨pb,0,none⟩),.string ⟨#[111,114]⟩,.func (.func 114) #[] #[.pointer (some ⟨bx,0,none⟩)]] W (PPost W rb pb m len (jP m N true ts st)):=by
 obtain⟨N1,rfl⟩:∃N1,N=N1+2:=⟨N-2,by omega⟩;have HJ:Hid (jP m (N1+2) true ts st=(lP m (N1+1) true ts st).joined sOr):=rfl;have y:Below W.heap.size W (W.alloc (.cells #[.string ⟨#[]⟩,.int .i64 0,.int .i64 0,.slice none 0 0] 49)):=(Below.refl _ _).alloc (Nat.le_refl _) _;have HB0:=iH (Bk.new W 49 [.string ⟨#[]⟩,.int .i64 0,.int .i64 0,.slice none 0 0]);have K0:=iH (hR.out N1 (by omega) _ ts st (.of_below y) (h.below y) (by omega));have hg0:=elem_good m true N1 ts st;have hfew:=h.rd.few;have hpl:=h.plt;have hlt:=h.lt;have hq:=enters114;obtain⟨i0,hi,hz0,hz1,hz2⟩:=info_parts info49;clear h;cases he:elemP m true N1 ts st with
 | bad x =>
   rw[list_bad he]at HJ;rw[he]at K0;have HQ:Hid (jP m (N1+2) true ts st=.bad x):=HJ.out;clear HJ he hg0 hR;go_enter Tryz.func113,Tryz.ntmps113;go_wp2_with fail;refine K0.out.mono ?_;rintro e wz ⟨rfl,hgz⟩;refine⟨rfl,?_⟩;rw[HQ.out];exact⟨rfl,(Gr2.of_below y).trans hgz⟩
 | ok k0 r0 st0 =>
   have HL:=iH (list_ok he);rw[he]at K0 hg0;clear he;have hr0:=hg0.1;go_enter Tryz.func113,Tryz.ntmps113;go_wp2_with fail;refine K0.out.mono ?_;rintro e w1 ⟨M,rfl,hMc,hMo,hP1,hG1⟩;have hs1:=hG1.size;rw[World.size_alloc]at hs1;have y1:Below w1.heap.size w1 (w1.alloc (.cells #[.string M.op,.int .i64 M.a,.int .i64 M.b,.slice M.s.A M.s.n M.s.c] 49)):=(Below.refl _ _).alloc (Nat.le_refl _) _;have HP1:=iH (hP1.below y1);have HG1:=iH (((Gr2.of_below (r:=rb) (p:=pb) y).trans hG1).trans (.of_below y1));have HB1:=iH ((HB0.out.gr2 hG1 (by omega) (by omega)).alloc (.cells #[.string M.op,.int .i64 M.a,.int .i64 M.b,.slice M.s.A M.s.n M.s.c] 49));have HM1:=iH ((hMo.lt.bel y1).mono fun b _ hb=>show W.heap.size<b∧b≠w1.heap.size from⟨by have:=hb.1;rw[World.size_alloc]at this;omega,by omega⟩);have HO1:Hid ((w1.alloc (.cells #[.string M.op,.int .i64 M.a,.int .i64 M.b,.slice M.s.A M.s.n M.s.c] 49)).ownsRow W.heap.size 49 4 (.slice (some ⟨w1.heap.size,0,none⟩) 1 1) 1 (mcells [M])):=iH (by
    have:=World.ownsRow_lit (base:=W.heap.size) (e:=49) (size:=4) w1 #[.string M.op,.int .i64 M.a,.int .i64 M.b,.slice M.s.A M.s.n M.s.c] 1 (by omega) (by decide) rfl
    exact this)
   have HMc:=iH hMc;clear hMc hMo hP1 hG1 K0 hg0 HB0 y1;go_wp2_with fail;go_loopw [7] (fun v wr=>∃(ks:List MkM) (g cap n:Nat) (r:List Tok) (s:PSt),v=.slice (some ⟨g,0,none⟩) ks.length cap∧wr.ownsRow W.heap.size 49 4 (.slice (some ⟨g,0,none⟩) ks.length cap) ks.length (mcells ks)∧Kids wr W.heap.size g ks∧PAt wr rb pb m r len s∧Gr2 rb pb W wr∧Bk wr W.heap.size 49 [.string ⟨#[]⟩,.int .i64 0,.int .i64 0,.slice none 0 0]∧n<=N1∧5*r.length+3<=n∧moreL m true n (MkM.coreL ks) r s=lP m (N1+1) true ts st∧ks.length+r.length<=8192∧1<=ks.length∧W.heap.size<g) (fun _ wr=>rdLeft wr rb)
   case atStart=>exact⟨[M],_,1,N1,r0,st0,rfl,HO1.out,⟨fun k hk=>by
    obtain rfl:k=M:=by simpa using hk
    exact HM1.out⟩,HP1.out,HG1.out,HB1.out,Nat.le_refl _,by omega,by
    show moreL m true N1 [M.core] r0 st0=_
    rw[HMc.out]
    exact HL.out.symm,by simp;omega,by simp,by omega⟩
   case round =>
    obtain⟨ks,g,cap,n,r,s,rfl,hown,hkids,hP,hG,hB,hn,hfuel,hmore,hcnt,hone,hgs⟩:=hrel;have hlen:=hP.rd.left;have HO:=iH hown;have HK:=iH hkids;have HP:=iH hP;have HG:=iH hG;have HB:=iH hB;have HM:=iH hmore;have hpl2:=hP.plt;have p0:=hP.r0;have hsz:=hG.size;obtain⟨hgW,hgl,_⟩:=own_block hown;cases hh:headB r 0 sOr
    ·-- the end
     have KA:=iH (accept_no 0 sOr hP.rd (by rw[isB_word _ _ (by decide)];exact hh));have HE:Hid (lP m (N1+1) true ts st=.ok (MkM.coreL ks) r s):=hmore.symm.trans (more_end hh);clear hown hkids hP hG hB hmore hh HM HO1 HM1 HP1 HG1 HB1 HL hR HMc;go_wp2_with fail;refine KA.out.mono ?_;rintro e w5 ⟨rfl,rfl⟩;clear KA;have⟨z0,z1,z2,z3,_⟩:=HB.out.p4;have fz0:=HB.out.frozen 0;have fz1:=HB.out.frozen 1;have fz2:=HB.out.frozen 2;have fz3:=HB.out.frozen 3;have hrl:=HB.out.lt;have hgne:W.heap.size≠g:=by omega
     by_cases h1:ks.length=1
     ·obtain⟨k,rfl⟩:=List.length_eq_one_iff.1 h1;have g0:w5.cell? ⟨g,0,none⟩=some (.string k.op):=HO.out.cellAt 0 (by simp);have g1:w5.cell? ⟨g,1,none⟩=some (.int .i64 k.a):=HO.out.cellAt 1 (by simp);have g2:w5.cell? ⟨g,2,none⟩=some (.int .i64 k.b):=HO.out.cellAt 2 (by simp);have g3:w5.cell? ⟨g,3,none⟩=some (.slice k.s.A k.s.n k.s.c):=HO.out.cellAt 3 (by simp);have HQ:Hid (jP m (N1+2) true ts st=.ok k.core r s):=by
       show _=_;rw[HJ.out,HE.out];rfl
      clear HJ HE;dsimp only[List.length_cons,List.length_nil,Nat.zero_add]at *;go_wp2;have HX:=four_laid HB.out (.string k.op) (.int .i64 k.a) (.int .i64 k.b) (.slice k.s.A k.s.n k.s.c);have PX:=HP.out.four HB.out hpl (.string k.op) (.int .i64 k.a) (.int .i64 k.b) (.slice k.s.A k.s.n k.s.c);have GX:=HG.out.four (Nat.le_refl _) (.string k.op) (.int .i64 k.a) (.int .i64 k.b) (.slice k.s.A k.s.n k.s.c);have KX:=HK.out.far (four_self w5 W.heap.size (.string k.op) (.int .i64 k.a) (.int .i64 k.b) (.slice k.s.A k.s.n k.s.c));generalize(((w5.setCell ⟨W.heap.size,0,none⟩ (.string k.op)).setCell ⟨W.heap.size,1,none⟩ (.int .i64 k.a)).setCell ⟨W.heap.size,2,none⟩ (.int .i64 k.b)).setCell ⟨W.heap.size,3,none⟩ (.slice k.s.A k.s.n k.s.c)=X at *;have⟨x0,x1,x2,x3,_⟩:=HX.p4;refine bodyPost_ret (v:=.agg #[.string k.op,.int .i64 k.a,.int .i64 k.b,.slice k.s.A k.s.n k.s.c]) (by simp[results,Tryz.results113,go_sem,x0,x1,x2,x3]) rfl ?_;rw[HQ.out];exact⟨k,rfl,rfl,(KX.each k (List.mem_cons_self ..)).mono fun b _ hb=>Nat.le_of_lt hb.1,PX,GX⟩
     ·have HQ:Hid (jP m (N1+2) true ts st=.ok (.node sOr 0 0 (MkM.coreL ks)) r s):=by
       show _=_;rw[HJ.out,HE.out];exact PR.joined_more (by rw[coreL_len];exact h1)
      have hL8:ks.length<=8192:=by omega
      have hne1:((ks.length:Int) == 1)=false:=by simp;omega
      clear HJ HE;have HL9:=iH (rfl:ks.length=ks.length);generalize hkl:ks.length=kl at *;go_wp2;have HX:=four_laid HB.out (.string ⟨#[111,114]⟩) (.int .i64 0) (.int .i64 0) (.slice (some ⟨g,0,none⟩) kl cap);have PX:=HP.out.four HB.out hpl (.string ⟨#[111,114]⟩) (.int .i64 0) (.int .i64 0) (.slice (some ⟨g,0,none⟩) kl cap);have GX:=HG.out.four (Nat.le_refl _) (.string ⟨#[111,114]⟩) (.int .i64 0) (.int .i64 0) (.slice (some ⟨g,0,none⟩) kl cap);have KX:=HK.out.far (four_self w5 W.heap.size (.string ⟨#[111,114]⟩) (.int .i64 0) (.int .i64 0) (.slice (some ⟨g,0,none⟩) kl cap));have OX:=HO.out.kept (four_self w5 W.heap.size (.string ⟨#[111,114]⟩) (.int .i64 0) (.int .i64 0) (.slice (some ⟨g,0,none⟩) kl cap)) (.inr (by simpa[Value.ownBlock]using Ne.symm hgne));generalize(((w5.setCell ⟨W.heap.size,0,none⟩ (.string ⟨#[111,114]⟩)).setCell ⟨W.heap.size,1,none⟩ (.int .i64 0)).setCell ⟨W.heap.size,2,none⟩ (.int .i64 0)).setCell ⟨W.heap.size,3,none⟩ (.slice (some ⟨g,0,none⟩) kl cap)=X at *;have⟨x0,x1,x2,x3,_⟩:=HX.p4;refine bodyPost_ret (v:=.agg #[.string ⟨#[111,114]⟩,.int .i64 0,.int .i64 0,.slice (some ⟨g,0,none⟩) kl cap]) (by simp[results,Tryz.results113,go_sem,x0,x1,x2,x3]) rfl ?_;rw[HQ.out];refine⟨⟨sOr,0,0,ks,⟨some ⟨g,0,none⟩,kl,cap⟩⟩,rfl,rfl,.mk _ _ _ _ _ ?_ hkl.symm (by dsimp only;omega) (by decide) ⟨by decide,by decide⟩ ⟨by decide,by decide⟩ fun k hk=>(KX.each k hk).mono fun b _ hb=>Nat.le_of_lt hb.1,PX,GX⟩;exact(PRow.of_own OX).mono fun b _ hb=>hb.2
    ·obtain⟨t1,r',rfl⟩:=head_cons hh;obtain⟨n',rfl⟩:∃n',n=n'+1:=⟨n-1,by simp at hfuel;omega⟩;have KA:=iH (accept_yes 0 sOr hP.rd (by rw[isB_word _ _ (by decide)];exact hh));clear hown hkids hP hG hB HO1 HM1 HP1 HG1 HB1 HL HMc HM;go_wp2_with fail;refine KA.out.mono ?_;rintro e w2 ⟨rfl,hr2,hg2⟩;rw[List.tail_cons]at hr2;have hP2:=HP.out.read hg2 hr2 (fun _ ht=>List.mem_cons_of_mem _ ht);have hG2:=HG.out.trans (.of_r hg2);have KR:=iH (hR.out n' (by omega) w2 r' s hG2 hP2 (by simp at hfuel;omega));have hgood:=elem_good m true n' r' s;have HO2:=iH (HO.out.kept hg2 (.inr (by simp[Value.ownBlock];omega)));have HK2:=iH (HK.out.gr2 (.of_r (p:=pb) hg2) (by omega) hpl);have HB2:=iH (HB.out.grown hg2 (by simp;omega));have HG2:=iH hG2;have hs2:=hg2.size;clear KA hr2 hg2 hP2 hG2 HP HG HB HO HK hR;cases he:elemP m true n' r' s with
     | bad x =>
       have HQ:Hid (jP m (N1+2) true ts st=.bad x):=by
        show _=_;rw[HJ.out,<- hmore,more_bad hh he];rfl
       rw[he]at KR;clear HJ he hmore hgood;go_wp2_with fail;refine KR.out.mono ?_;rintro e wz ⟨rfl,hgz⟩;refine⟨rfl,?_⟩;rw[HQ.out];exact⟨rfl,HG2.out.trans hgz⟩
     | ok k2 r2 s2 =>
       have HM:=iH ((more_ok (ks:=MkM.coreL ks) hh he).symm.trans hmore);rw[he]at KR hgood;have hr2:=hgood.1;clear he hmore hgood hh;go_wp2_with fail;refine KR.out.mono ?_;rintro e w3 ⟨M2,rfl,hMc,hMo,hP3,hG3⟩;have hs3:=hG3.size;have y3:Below w3.heap.size w3 (w3.alloc (.cells #[.string M2.op,.int .i64 M2.a,.int .i64 M2.b,.slice M2.s.A M2.s.n M2.s.c] 49)):=(Below.refl _ _).alloc (Nat.le_refl _) _;have HP4:=iH (hP3.below y3);have HG4:=iH ((HG2.out.trans hG3).trans (.of_below y3));have HB4:=iH ((HB2.out.gr2 hG3 (by omega) (by omega)).alloc (.cells #[.string M2.op,.int .i64 M2.a,.int .i64 M2.b,.slice M2.s.A M2.s.n M2.s.c] 49));have HK4:=iH ((HK2.out.gr2 hG3 (by omega) hpl).below y3);have HO4:=iH ((own_gr2 HO2.out hG3 (by omega) (by omega)).alloc (.cells #[.string M2.op,.int .i64 M2.a,.int .i64 M2.b,.slice M2.s.A M2.s.n M2.s.c] 49));have HM4:=iH ((hMo.mono (Q:=fun b=>W.heap.size<b∧b≠g) fun b _ hb=>⟨by omega,by omega⟩).bel y3);have HMc:=iH hMc;have HC:Hid (MkM.coreL (ks ++ [M2])=MkM.coreL ks ++ [k2]):=by show _=_;rw[coreL_map,coreL_map,List.map_append,<- hMc];rfl
       have hlen2:=hP3.rd.left;clear KR hMc hMo hP3 hG3 HO2 HK2 HB2 HG2 y3;have hkl:ks.length<=8192:=by omega
       go_wp2_with(at_builtin;refine wpList_append_own_at _ rfl _ _ 47 rfl W.heap.size 49 i0 (.agg #[.string ⟨#[]⟩,.int .i64 0,.int .i64 0,.slice none 0 0]) 4 56 Tryz.underlying47 hi hz0 hz1 hz2 rfl (by decide) _ ks.length (mcells ks) rfl HO4.out ⟨w3.heap.size,0,none⟩ 1 1 [.string M2.op,.int .i64 M2.a,.int .i64 M2.b,.slice M2.s.A M2.s.n M2.s.c] rfl rfl (new4 _ _ _ _ _ _) (one4m M2) (by unfold maxLen;omega) (by omega) (by simp;omega) ?_);intro v' w4 hown' hgrow _ hat;obtain⟨g',cap',rfl⟩:=ownsRow_succ hown';have hat':g'=g∨g'=(w3.alloc (.cells #[.string M2.op,.int .i64 M2.a,.int .i64 M2.b,.slice M2.s.A M2.s.n M2.s.c] 49)).heap.size:=by simpa[Value.ownBlock]using hat
       change World.grownBy _ w4 (some g)at hgrow;have HK5:=iH (HK4.out.next HM4.out hgrow hat');have HP5:=iH (HP4.out.far hgrow (by omega) (own_not HO4.out (by decide)) (own_not HO4.out (by decide)) (own_not HO4.out (by decide)));have HG5:=iH (HG4.out.own hgrow hgW);have HB5:=iH (HB4.out.grown hgrow (by simp;omega));have HO5:=iH hown';have hlen5:=HP5.out.rd.left;have hgs5:W.heap.size<g':=by
        rcases hat' with rfl|h
        ·exact hgs
        ·rw[h,World.size_alloc];omega
       clear hown' hgrow hat hat' HK4 HP4 HG4 HB4 HO4 HM4;go_wp2_with fail;go_roundw
       case rel=>exact⟨ks ++ [M2],g',cap',n',r2,s2,by simp,by rw[mcells_snoc,List.length_append];exact HO5.out,HK5.out,HP5.out,HG5.out,HB5.out,by omega,by simp at hfuel;omega,by rw[HC.out];exact HM.out,by simp at hcnt⊢;omega,by simp,hgs5⟩
       case measure=>rw[hlen5,hlen];simp;omega
section
section
variable {W W2 w1 : World} {rb pb : Nat} {m : CatM} {ts : List Tok} {len : Int} {st : PSt} {M : MkM}
theorem lay_mark {g:Nat} (hg:g<w1.heap.size) (hW:W.heap.size<=g) (hpl:pb<g) (hB:Bk w1 g 49 [.string ⟨#[]⟩,.int .i64 0,.int .i64 0,.slice none 0 0]) (h:M.Ok w1 49 (fun b=>W.heap.size<=b∧b≠g)) (hP:PAt w1 rb pb m ts len st) (hG:Gr2 rb pb W w1) :
 M.Ok ((((w1.setCell ⟨g,0,none⟩ (.string M.op)).setCell ⟨g,1,none⟩ (.int .i64 M.a)).setCell ⟨g,2,none⟩ (.int .i64 M.b)).setCell ⟨g,3,none⟩ (.slice M.s.A M.s.n M.s.c)) 49 (fun b=>W.heap.size<=b)∧PAt ((((w1.setCell ⟨g,0,none⟩ (.string M.op)).setCell ⟨g,1,none⟩ (.int .i64 M.a)).setCell ⟨g,2,none⟩ (.int .i64 M.b)).setCell ⟨g,3,none⟩ (.slice M.s.A M.s.n M.s.c)) rb pb m ts len st∧Gr2 rb pb W ((((w1.setCell ⟨g,0,none⟩ (.string M.op)).setCell ⟨g,1,none⟩ (.int .i64 M.a)).setCell ⟨g,2,none⟩ (.int .i64 M.b)).setCell ⟨g,3,none⟩ (.slice M.s.A M.s.n M.s.c))∧Bk ((((w1.setCell ⟨g,0,none⟩ (.string M.op)).setCell ⟨g,1,none⟩ (.int .i64 M.a)).setCell ⟨g,2,none⟩ (.int .i64 M.b)).setCell ⟨g,3,none⟩ (.slice M.s.A M.s.n M.s.c)) g 49 [.string M.op,.int .i64 M.a,.int .i64 M.b,.slice M.s.A M.s.n M.s.c] :=
 ⟨(h.grown (four_self w1 g (.string M.op) (.int .i64 M.a) (.int .i64 M.b) (.slice M.s.A M.s.n M.s.c)) fun b hb=>by simp;exact hb.2).mono fun b _ hb=>hb.1,hP.four hB hpl (.string M.op) (.int .i64 M.a) (.int .i64 M.b) (.slice M.s.A M.s.n M.s.c),hG.four hW (.string M.op) (.int .i64 M.a) (.int .i64 M.b) (.slice M.s.A M.s.n M.s.c),four_laid hB (.string M.op) (.int .i64 M.a) (.int .i64 M.b) (.slice M.s.A M.s.n M.s.c)⟩
theorem PPost.below {p:PR Mk} {e:Ending} {w':World} (h:PPost W2 rb pb m len p e w') (y:Below W.heap.size W W2):PPost W rb pb m len p e w':=by
 cases p with
 | bad x=>exact⟨h.1,(Gr2.of_below y).trans h.2⟩
 | ok k r st =>
   obtain⟨M,h1,h2,h3,h4,h5⟩:=h;exact⟨M,h1,h2,h3.mono fun b _ hb=>Nat.le_trans y.size hb,h4,(Gr2.of_below y).trans h5⟩
end
theorem read1_any {W:World} {rb pb bx:Nat} {m:CatM} {ts:List Tok} {len:Int} {st:PSt} {p:PR Mk} (h:PAt W rb pb m ts len st) (hb:Bk W bx 140 [.pointer (some ⟨pb,0,none⟩)])
 (hK:Hid (Calls Tryz.prog 113 #[.pointer (some ⟨pb,0,none⟩),.string ⟨#[97,110,100]⟩,.func (.func 115) #[.pointer (some ⟨pb,0,none⟩)] #[]] (W.alloc (.cells #[.string ⟨#[]⟩,.int .i64 0,.int .i64 0,.slice none 0 0] 49)) (PPost (W.alloc (.cells #[.string ⟨#[]⟩,.int .i64 0,.int .i64 0,.slice none 0 0] 49)) rb pb m len p))) :
 Calls Tryz.prog 114 #[.pointer (some ⟨bx,0,none⟩)] W (PPost W rb pb m len p):=by
 have hmf:=hmfN;have y:Below W.heap.size W (W.alloc (.cells #[.string ⟨#[]⟩,.int .i64 0,.int .i64 0,.slice none 0 0] 49)):=(Below.refl _ _).alloc (Nat.le_refl _) _;have B0:=Bk.new W 49 [.string ⟨#[]⟩,.int .i64 0,.int .i64 0,.slice none 0 0];have c0:=hb.k0;have hl:=hb.lt;have hpl:=h.plt;have hlt:=h.lt;clear h hb;go_enter Tryz.func114,Tryz.ntmps114;go_wp2_with fail;refine hK.out.mono ?_;intro e w1 hpost;clear hK;cases p with
 | bad x =>
   obtain⟨rfl,hg⟩:=hpost;exact⟨rfl,rfl,(Gr2.of_below y).trans hg⟩
 | ok k r st1 =>
   obtain⟨M,rfl,rfl,hM,hP,hG⟩:=hpost;have B1:=B0.gr2 hG (by omega) (by omega);have HB:=iH B1;have HM:=iH (hM.mono (Q:=fun b=>W.heap.size<=b∧b≠W.heap.size) fun b _ hb=>by rw[World.size_alloc]at hb;exact⟨by omega,by omega⟩);have HP:=iH hP;have HG:=iH ((Gr2.of_below (r:=rb) (p:=pb) y).trans hG);have⟨z0,z1,z2,z3,_⟩:=B1.p4;have fz0:=B1.frozen 0;have fz1:=B1.frozen 1;have fz2:=B1.frozen 2;have fz3:=B1.frozen 3;have hzl:=B1.lt;clear hM hP hG B1 B0 y c0;go_wp2;have hX:=lay_mark hzl (Nat.le_refl _) hpl HB.out HM.out HP.out HG.out;generalize(((w1.setCell ⟨W.heap.size,0,none⟩ (.string M.op)).setCell ⟨W.heap.size,1,none⟩ (.int .i64 M.a)).setCell ⟨W.heap.size,2,none⟩ (.int .i64 M.b)).setCell ⟨W.heap.size,3,none⟩ (.slice M.s.A M.s.n M.s.c)=X at *;have⟨x0,x1,x2,x3,_⟩:=hX.2.2.2.p4;refine bodyPost_ret (v:=.agg #[.string M.op,.int .i64 M.a,.int .i64 M.b,.slice M.s.A M.s.n M.s.c]) (by simp[results,Tryz.results114,go_sem,x0,x1,x2,x3]) rfl ?_;exact⟨M,rfl,rfl,hX.1,hX.2.1,hX.2.2.1⟩
theorem read_any {W:World} {rb pb:Nat} {m:CatM} {ts:List Tok} {len:Int} {st:PSt} {p:PR Mk} (h:PAt W rb pb m ts len st)
 (hK:Hid (Calls Tryz.prog 113 #[.pointer (some ⟨pb,0,none⟩),.string ⟨#[111,114]⟩,.func (.func 114) #[] #[.pointer (some ⟨W.heap.size,0,none⟩)]] ((W.alloc (.cells #[.pointer (some ⟨pb,0,none⟩)] 140)).alloc (.cells #[.string ⟨#[]⟩,.int .i64 0,.int .i64 0,.slice none 0 0] 49)) (PPost ((W.alloc (.cells #[.pointer (some ⟨pb,0,none⟩)] 140)).alloc (.cells #[.string ⟨#[]⟩,.int .i64 0,.int .i64 0,.slice none 0 0] 49)) rb pb m len p))) :
 Calls Tryz.prog 74 #[.pointer (some ⟨pb,0,none⟩)] W (PPost W rb pb m len p):=by
 have hmf:=hmfN;have y:Below W.heap.size W ((W.alloc (.cells #[.pointer (some ⟨pb,0,none⟩)] 140)).alloc (.cells #[.string ⟨#[]⟩,.int .i64 0,.int .i64 0,.slice none 0 0] 49)):=((Below.refl _ _).alloc (Nat.le_refl _) _).alloc (by simp) _;have B0:=Bk.new (W.alloc (.cells #[.pointer (some ⟨pb,0,none⟩)] 140)) 49 [.string ⟨#[]⟩,.int .i64 0,.int .i64 0,.slice none 0 0];rw[World.size_alloc]at B0;have hpl:=h.plt;have hlt:=h.lt;clear h;go_enter Tryz.func74,Tryz.ntmps74;go_wp2_with fail;refine hK.out.mono ?_;intro e w1 hpost;clear hK;cases p with
 | bad x =>
   obtain⟨rfl,hg⟩:=hpost;exact⟨rfl,rfl,(Gr2.of_below y).trans hg⟩
 | ok k r st1 =>
   obtain⟨M,rfl,rfl,hM,hP,hG⟩:=hpost;have B1:=B0.gr2 hG (by omega) (by omega);have HB:=iH B1;have HM:=iH (hM.mono (Q:=fun b=>W.heap.size<=b∧b≠W.heap.size+1) fun b _ hb=>by rw[World.size_alloc,World.size_alloc]at hb;exact⟨by omega,by omega⟩);have HP:=iH hP;have HG:=iH ((Gr2.of_below (r:=rb) (p:=pb) y).trans hG);have⟨z0,z1,z2,z3,_⟩:=B1.p4;have fz0:=B1.frozen 0;have fz1:=B1.frozen 1;have fz2:=B1.frozen 2;have fz3:=B1.frozen 3;have hzl:=B1.lt;clear hM hP hG B1 B0 y;go_wp2;have hX:=lay_mark hzl (Nat.le_succ _) (Nat.lt_succ_of_lt hpl) HB.out HM.out HP.out HG.out;generalize(((w1.setCell ⟨W.heap.size+1,0,none⟩ (.string M.op)).setCell ⟨W.heap.size+1,1,none⟩ (.int .i64 M.a)).setCell ⟨W.heap.size+1,2,none⟩ (.int .i64 M.b)).setCell ⟨W.heap.size+1,3,none⟩ (.slice M.s.A M.s.n M.s.c)=X at *;have⟨x0,x1,x2,x3,_⟩:=hX.2.2.2.p4;refine bodyPost_ret (v:=.agg #[.string M.op,.int .i64 M.a,.int .i64 M.b,.slice M.s.A M.s.n M.s.c]) (by simp[results,Tryz.results74,go_sem,x0,x1,x2,x3]) rfl ?_;exact⟨M,rfl,rfl,hX.1,hX.2.1,hX.2.2.1⟩
end
def FactS (m:CatM) (len:Int) (rb pb n:Nat):Prop:=∀W ts st,PAt W rb pb m ts len st->5*ts.length+1<=n->Calls Tryz.prog 115 #[.pointer (some ⟨pb,0,none⟩)] W (PPost W rb pb m len (fP m n ts st))
def And1S (m:CatM) (len:Int) (rb pb n:Nat):Prop:=∀W bx ts st,PAt W rb pb m ts len st->Bk W bx 140 [.pointer (some ⟨pb,0,none⟩)]->5*ts.length+3<=n->Calls Tryz.prog 114 #[.pointer (some ⟨bx,0,none⟩)] W (PPost W rb pb m len (jP m n false ts st))
def ReadS (m:CatM) (len:Int) (rb pb n:Nat):Prop:=∀W ts st,PAt W rb pb m ts len st->5*ts.length+5<=n->Calls Tryz.prog 74 #[.pointer (some ⟨pb,0,none⟩)] W (PPost W rb pb m len (jP m n true ts st))
theorem alloc_four (w:World) (o:Obj) {g:Nat} (hg:g<w.heap.size) (a b c d:Value):((((w.alloc o).setCell ⟨g,0,none⟩ a).setCell ⟨g,1,none⟩ b).setCell ⟨g,2,none⟩ c).setCell ⟨g,3,none⟩ d=((((w.setCell ⟨g,0,none⟩ a).setCell ⟨g,1,none⟩ b).setCell ⟨g,2,none⟩ c).setCell ⟨g,3,none⟩ d).alloc o:=by
 have e:∀(w:World) (k:Nat) (u:Value),(w.setCell ⟨g,k,none⟩ u).heap.size=w.heap.size:=fun w k u=>by simp[World.setCell]
 rw[World.setCell_alloc_past _ _ _ _ hg,World.setCell_alloc_past _ _ _ _ (by rw[e];exact hg),World.setCell_alloc_past _ _ _ _ (by rw[e,e];exact hg),World.setCell_alloc_past _ _ _ _ (by rw[e,e,e];exact hg)]
theorem condP_bad {kn rn it:List ByteArray} {ts:List Tok} {st:PSt} (h:kindB ts 0=false):condP kn rn it ts st=.bad ts:=by
 cases ts with
 | nil=>rfl
 | cons t r=>simp only[condP];rw[if_pos (.inl (by simpa[kindB]using h))]
theorem PRow.one {w:World} (M:MkM) {P:Nat->Prop} (hP:P w.heap.size):PRow (w.alloc (.cells #[.string M.op,.int .i64 M.a,.int .i64 M.b,.slice M.s.A M.s.n M.s.c] 49)) 49 P (some ⟨w.heap.size,0,none⟩) (mcells [M]) :=
 .inr ⟨w.heap.size,0,_,_,rfl,hP,heap_alloc_new w _,fun j u hu=>by
  rw[Nat.zero_add]
  have e:mcells [M]=[.string M.op,.int .i64 M.a,.int .i64 M.b,.slice M.s.A M.s.n M.s.c]:=rfl
  rw[e]at hu
  simpa using hu⟩
theorem fact_any {W:World} {rb pb:Nat} {m:CatM} {ts:List Tok} {len:Int} {st:PSt} {n:Nat} (hF:Hid (FactS m len rb pb n)) (hJ:Hid (ReadS m len rb pb n)) (h:PAt W rb pb m ts len st) (hn:5*ts.length+1<=n+1) :
 Calls Tryz.prog 115 #[.pointer (some ⟨pb,0,none⟩)] W (PPost W rb pb m len (fP m (n+1) ts st)):=by
 have y:Below W.heap.size W (W.alloc (.cells #[.string ⟨#[]⟩,.int .i64 0,.int .i64 0,.slice none 0 0] 49)):=(Below.refl _ _).alloc (Nat.le_refl _) _;have B0:=Bk.new W 49 [.string ⟨#[]⟩,.int .i64 0,.int .i64 0,.slice none 0 0];have hP1:=h.below y;have HP1:=iH hP1;have hpl:=h.plt;have hlt:=h.lt;have p0:=h.r0;have hpl1:=hP1.plt;have Hy:=iH y;have HB0:=iH B0;have e1:fP m (n+1) ts st=if headB ts 0 sNot then(fP m n ts.tail st).not else if headB ts 2 sOpen then(jP m n true ts.tail st).close else condP kindNs (m.rules.map RuM.name) (m.items.map It.name) ts st:=rfl
 have hwo:isB ts 0 sNot=headB ts 0 sNot:=isB_word _ _ (by decide);have hop:isB ts 2 sOpen=headB ts 2 sOpen:=isB_word _ _ (by decide);clear h y B0;cases hnot:headB ts 0 sNot
 ·rw [hnot] at e1 hwo;have KA:=iH (accept_no 0 sNot hP1.rd hwo);simp only[Bool.false_eq_true,if_false]at e1;cases hopen:headB ts 2 sOpen
  ·rw [hopen] at e1 hop;simp only[Bool.false_eq_true,if_false]at e1;have KB:=iH (accept_no 2 sOpen hP1.rd hop);have KI:=iH (is_any 0 ⟨#[]⟩ hP1.rd);rw[isB_any]at KI;cases hk:kindB ts 0
   ·rw[condP_bad hk]at e1;rw[hk]at KI;have HQ:=iH e1;have KF:=iH (fail_any hP1.rd);clear e1 hk hop hopen hwo hnot hP1 HB0 hF hJ;go_enter Tryz.func115,Tryz.ntmps115;go_wp2_with fail;refine KA.out.mono ?_;rintro e w2 ⟨rfl,rfl⟩;go_wp2_with fail;refine KB.out.mono ?_;rintro e w2 ⟨rfl,rfl⟩;go_wp2_with fail;refine KI.out.mono ?_;rintro e w2 ⟨rfl,rfl⟩;go_wp2_with fail;refine KF.out.mono ?_;rintro e wz ⟨rfl,rfl⟩;refine⟨rfl,?_⟩;rw[HQ.out];exact⟨rfl,.of_below Hy.out⟩
   ·obtain⟨t,r,rfl,ht⟩:=kindB_nil hk;rw[hk]at KI;have HQ:=iH e1;have KC:=iH (cond_any hP1 ht);clear e1 hk hop hopen hwo hnot hP1 hF hJ ht;generalize hcp:condP kindNs (m.rules.map RuM.name) (m.items.map It.name) (t :: r) st=cp at *;go_enter Tryz.func115,Tryz.ntmps115;go_wp2_with fail;refine KA.out.mono ?_;rintro e w2 ⟨rfl,rfl⟩;go_wp2_with fail;refine KB.out.mono ?_;rintro e w2 ⟨rfl,rfl⟩;go_wp2_with fail;refine KI.out.mono ?_;rintro e w2 ⟨rfl,rfl⟩;go_wp2_with fail;refine KC.out.mono ?_;intro e w1 hpost;clear KA KB KI KC hcp HP1;cases cp with
    | bad x =>
      obtain⟨rfl,hg⟩:=hpost;refine⟨rfl,?_⟩;rw[HQ.out];exact⟨rfl,(Gr2.of_below Hy.out).trans hg⟩
    | ok k r' st1 =>
      obtain⟨M,rfl,rfl,hM,hP,hG⟩:=hpost;have B1:=HB0.out.gr2 hG (by omega) (by omega);have HB:=iH B1;have HM:=iH (hM.mono (Q:=fun b=>W.heap.size<=b∧b≠W.heap.size) fun b _ hb=>by rw[World.size_alloc]at hb;exact⟨by omega,by omega⟩);have HP:=iH hP;have HG:=iH ((Gr2.of_below (r:=rb) (p:=pb) Hy.out).trans hG);have⟨z0,z1,z2,z3,_⟩:=B1.p4;have fz0:=B1.frozen 0;have fz1:=B1.frozen 1;have fz2:=B1.frozen 2;have fz3:=B1.frozen 3;have hzl:=B1.lt;clear hM hP hG B1 HB0;go_wp2;have hX:=lay_mark hzl (Nat.le_refl _) hpl HB.out HM.out HP.out HG.out;generalize(((w1.setCell ⟨W.heap.size,0,none⟩ (.string M.op)).setCell ⟨W.heap.size,1,none⟩ (.int .i64 M.a)).setCell ⟨W.heap.size,2,none⟩ (.int .i64 M.b)).setCell ⟨W.heap.size,3,none⟩ (.slice M.s.A M.s.n M.s.c)=X at *;have⟨x0,x1,x2,x3,_⟩:=hX.2.2.2.p4;refine bodyPost_ret (v:=.agg #[.string M.op,.int .i64 M.a,.int .i64 M.b,.slice M.s.A M.s.n M.s.c]) (by simp[results,Tryz.results115,go_sem,x0,x1,x2,x3]) rfl ?_;rw[HQ.out];exact⟨M,rfl,rfl,hX.1,hX.2.1,hX.2.2.1⟩
  ·rw [hopen] at e1 hop;simp only[if_true]at e1;obtain⟨t,r,rfl⟩:=head_cons hopen;have KB:=iH (accept_yes 2 sOpen hP1.rd hop);rw[List.tail_cons]at e1 KB;have E1:=iH e1;clear hop hopen hwo hnot hP1 hF e1;go_enter Tryz.func115,Tryz.ntmps115;go_wp2_with fail;refine KA.out.mono ?_;rintro e w2 ⟨rfl,rfl⟩;go_wp2_with fail;refine KB.out.mono ?_;rintro e w2 ⟨rfl,hr2,hg2⟩;have hP2:=HP1.out.read hg2 hr2 (fun _ ht=>List.mem_cons_of_mem _ ht);have KJ:=iH (hJ.out w2 r st hP2 (by simp at hn;omega));have HG2:=iH ((Gr2.of_below (r:=rb) (p:=pb) Hy.out).trans (.of_r hg2));have HB2:=iH (HB0.out.grown hg2 (by simp;omega));have hs2:=hg2.size;rw[World.size_alloc]at hs2;clear KA KB hr2 hg2 hP2 HP1 HB0 hJ;generalize jP m n true r st=cp at *;go_wp2_with fail;refine KJ.out.mono ?_;intro e w3 hpost;clear KJ;cases cp with
   | bad x =>
     obtain⟨rfl,hg⟩:=hpost;have HQ:Hid (fP m (n+1) (t :: r) st=.bad x):=E1;refine⟨rfl,?_⟩;rw[HQ.out];exact⟨rfl,HG2.out.trans hg⟩
   | ok k r' st1 =>
     obtain⟨M,rfl,rfl,hM,hP,hG⟩:=hpost;have hs3:=hG.size;have y3:Below w3.heap.size w3 (w3.alloc (.cells #[.string M.op,.int .i64 M.a,.int .i64 M.b,.slice M.s.A M.s.n M.s.c] 49)):=(Below.refl _ _).alloc (Nat.le_refl _) _;have HB4:=iH ((HB2.out.gr2 hG (by omega) (by omega)).alloc (.cells #[.string M.op,.int .i64 M.a,.int .i64 M.b,.slice M.s.A M.s.n M.s.c] 49));have HM4:=iH ((hM.mono (Q:=fun b=>W.heap.size<=b∧b≠W.heap.size) fun b _ hb=>⟨by omega,by omega⟩).bel y3);have hP4:=hP.below y3;have HG4:=iH ((HG2.out.trans hG).trans (.of_below y3));have HBm:=iH (Bk.new w3 49 [.string M.op,.int .i64 M.a,.int .i64 M.b,.slice M.s.A M.s.n M.s.c]);have p04:w3.cell? ⟨pb,0,none⟩=some (.pointer (some ⟨rb,0,none⟩)):=hP.r0;have hpl3:=hP.plt;clear hM hP hG y3 HG2 HB2;cases hcl:headB r' 2 sClose
     ·have KS:=iH (symbol_no sClose hP4.rd (by rw[isB_word _ _ (by decide)];exact hcl));have HQ:Hid (fP m (n+1) (t :: r) st=.bad r'):=by
       show _=_;rw[E1.out];simp[PR.close,hcl]
      clear E1 hcl hP4;go_wp2_with fail;refine KS.out.mono ?_;rintro e wz ⟨rfl,hgz⟩;refine⟨rfl,?_⟩;rw[HQ.out];exact⟨rfl,HG4.out.trans (.of_r hgz)⟩
     ·obtain⟨c,r3,rfl⟩:=head_cons hcl;have KS:=iH (symbol_yes sClose hP4.rd (by rw[isB_word _ _ (by decide)];exact hcl));have HQ:Hid (fP m (n+1) (t :: r) st=.ok M.core r3 st1):=by
       show _=_;rw[E1.out];simp[PR.close,hcl]
      have HP4:=iH hP4;clear E1 hcl hP4;go_wp2_with fail;refine KS.out.mono ?_;rintro e w5 ⟨rfl,hr5,hg5⟩;have HP:=iH (HP4.out.read hg5 hr5 (fun _ ht=>List.mem_cons_of_mem _ ht));have B1:=HB4.out.grown hg5 (by simp;omega);have HB:=iH B1;have HM:=iH (HM4.out.grown hg5 fun b hb=>by simp;omega);have HG:=iH (HG4.out.trans (.of_r hg5));have Bm:=HBm.out.grown hg5 (by simp;omega);have⟨g0,g1,g2,g3,hml⟩:=Bm.p4;have hW3:W.heap.size<w3.heap.size:=by omega
      have⟨z0,z1,z2,z3,_⟩:=B1.p4;have fz0:=B1.frozen 0;have fz1:=B1.frozen 1;have fz2:=B1.frozen 2;have fz3:=B1.frozen 3;have hzl:=B1.lt;clear KS hr5 hg5 HP4 HB4 HM4 HG4 HBm Bm B1;go_wp2;have hX:=lay_mark hzl (Nat.le_refl _) hpl HB.out HM.out HP.out HG.out;generalize(((w5.setCell ⟨W.heap.size,0,none⟩ (.string M.op)).setCell ⟨W.heap.size,1,none⟩ (.int .i64 M.a)).setCell ⟨W.heap.size,2,none⟩ (.int .i64 M.b)).setCell ⟨W.heap.size,3,none⟩ (.slice M.s.A M.s.n M.s.c)=X at *;have⟨x0,x1,x2,x3,_⟩:=hX.2.2.2.p4;refine bodyPost_ret (v:=.agg #[.string M.op,.int .i64 M.a,.int .i64 M.b,.slice M.s.A M.s.n M.s.c]) (by simp[results,Tryz.results115,go_sem,x0,x1,x2,x3]) rfl ?_;rw[HQ.out];exact⟨M,rfl,rfl,hX.1,hX.2.1,hX.2.2.1⟩
 ·rw [hnot] at e1 hwo;simp only[if_true]at e1;obtain⟨t,r,rfl⟩:=head_cons hnot;have KA:=iH (accept_yes 0 sNot hP1.rd hwo);rw[List.tail_cons]at e1 KA;have E1:=iH e1;clear hop hwo hnot hP1 hJ e1;go_enter Tryz.func115,Tryz.ntmps115;go_wp2_with fail;refine KA.out.mono ?_;rintro e w2 ⟨rfl,hr2,hg2⟩;have hP2:=HP1.out.read hg2 hr2 (fun _ ht=>List.mem_cons_of_mem _ ht);have KJ:=iH (hF.out w2 r st hP2 (by simp at hn;omega));have HG2:=iH ((Gr2.of_below (r:=rb) (p:=pb) Hy.out).trans (.of_r hg2));have HB2:=iH (HB0.out.grown hg2 (by simp;omega));have hs2:=hg2.size;rw[World.size_alloc]at hs2;clear KA hr2 hg2 hP2 HP1 HB0 hF;generalize fP m n r st=cp at *;go_wp2_with fail;refine KJ.out.mono ?_;intro e w3 hpost;clear KJ;cases cp with
  | bad x =>
    obtain⟨rfl,hg⟩:=hpost;have HQ:Hid (fP m (n+1) (t :: r) st=.bad x):=E1;refine⟨rfl,?_⟩;rw[HQ.out];exact⟨rfl,HG2.out.trans hg⟩
  | ok k r' st1 =>
    obtain⟨M,rfl,rfl,hM,hP,hG⟩:=hpost;have hs3:=hG.size;have y3:Below w3.heap.size w3 (w3.alloc (.cells #[.string M.op,.int .i64 M.a,.int .i64 M.b,.slice M.s.A M.s.n M.s.c] 49)):=(Below.refl _ _).alloc (Nat.le_refl _) _;have B3:=HB2.out.gr2 hG (by omega) (by omega);have B4:=B3.alloc (.cells #[.string M.op,.int .i64 M.a,.int .i64 M.b,.slice M.s.A M.s.n M.s.c] 49);have HB:=iH B4;have HM:Hid (MkM.Ok (w3.alloc (.cells #[.string M.op,.int .i64 M.a,.int .i64 M.b,.slice M.s.A M.s.n M.s.c] 49)) 49 (fun b=>W.heap.size<=b∧b≠W.heap.size) ⟨⟨#[110,111,116]⟩,0,0,[M],⟨some ⟨w3.heap.size,0,none⟩,1,1⟩⟩) :=
     iH (.mk _ _ _ _ _ (PRow.one M ⟨by omega,by omega⟩) rfl (show(1:Nat)<=100000 by decide) (by decide) ⟨by decide,by decide⟩ ⟨by decide,by decide⟩ fun k hk=>by
      obtain rfl:k=M:=by simpa using hk
      exact(hM.mono (Q:=fun b=>W.heap.size<=b∧b≠W.heap.size) fun b _ hb=>⟨by omega,by omega⟩).bel y3)
    have HP:=iH (hP.below y3);have HG:=iH ((HG2.out.trans hG).trans (.of_below y3));have HQ:Hid (fP m (n+1) (t :: r) st=.ok (.node sNot 0 0 [M.core]) r' st1):=E1;have⟨z0,z1,z2,z3,_⟩:=B3.p4;have fz0:=B3.frozen 0;have fz1:=B3.frozen 1;have fz2:=B3.frozen 2;have fz3:=B3.frozen 3;have hzl:=B3.lt;have hW3:W.heap.size<w3.heap.size:=by omega
    clear hM hP hG B3 B4 y3 HG2 HB2 E1;go_wp2;have hX:=lay_mark (M:=⟨⟨#[110,111,116]⟩,0,0,[M],⟨some ⟨w3.heap.size,0,none⟩,1,1⟩⟩) (w1:=w3.alloc (.cells #[.string M.op,.int .i64 M.a,.int .i64 M.b,.slice M.s.A M.s.n M.s.c] 49)) (by rw[World.size_alloc];omega) (Nat.le_refl _) hpl HB.out HM.out HP.out HG.out;dsimp only at hX;rw[alloc_four w3 _ hW3]at hX;generalize((((w3.setCell ⟨W.heap.size,0,none⟩ (.string ⟨#[110,111,116]⟩)).setCell ⟨W.heap.size,1,none⟩ (.int .i64 0)).setCell ⟨W.heap.size,2,none⟩ (.int .i64 0)).setCell ⟨W.heap.size,3,none⟩ (.slice (some ⟨w3.heap.size,0,none⟩) 1 1)).alloc (.cells #[.string M.op,.int .i64 M.a,.int .i64 M.b,.slice M.s.A M.s.n M.s.c] 49)=X at *;have⟨x0,x1,x2,x3,_⟩:=hX.2.2.2.p4;refine bodyPost_ret (v:=.agg #[.string ⟨#[110,111,116]⟩,.int .i64 0,.int .i64 0,.slice (some ⟨w3.heap.size,0,none⟩) 1 1]) (by simp[results,Tryz.results115,go_sem,x0,x1,x2,x3]) rfl ?_;rw[HQ.out];exact⟨_,rfl,rfl,hX.1,hX.2.1,hX.2.2.1⟩
theorem all_read (m:CatM) (len:Int) (rb pb:Nat):∀N,FactS m len rb pb N∧And1S m len rb pb N∧ReadS m len rb pb N:=by
 intro N
 induction N using Nat.strongRecOn with
 | _ N ih =>
   have hF:FactS m len rb pb N:=by
    intro W ts st h hn;cases N with
    | zero=>exact absurd hn (by omega)
    | succ n=>exact fact_any (iH (ih n (by omega)).1) (iH (ih n (by omega)).2.2) h hn
   have hA:And1S m len rb pb N:=by
    intro W bx ts st h hb hn;have y:Below W.heap.size W (W.alloc (.cells #[.string ⟨#[]⟩,.int .i64 0,.int .i64 0,.slice none 0 0] 49)):=(Below.refl _ _).alloc (Nat.le_refl _) _;exact read1_any h hb (iH (join_and N (iH fun n hn W' ts st _ h hf=>(ih n hn).1 W' ts st h hf) (h.below y) hn))
   refine⟨hF,hA,?_⟩;intro W ts st h hn;have y:Below W.heap.size W ((W.alloc (.cells #[.pointer (some ⟨pb,0,none⟩)] 140)).alloc (.cells #[.string ⟨#[]⟩,.int .i64 0,.int .i64 0,.slice none 0 0] 49)):=((Below.refl _ _).alloc (Nat.le_refl _) _).alloc (by simp) _;have hb:Bk ((W.alloc (.cells #[.pointer (some ⟨pb,0,none⟩)] 140)).alloc (.cells #[.string ⟨#[]⟩,.int .i64 0,.int .i64 0,.slice none 0 0] 49)) W.heap.size 140 [.pointer (some ⟨pb,0,none⟩)]:=(Bk.new W 140 [.pointer (some ⟨pb,0,none⟩)]).alloc _;have hpl:=h.plt;have hlt:=h.lt;exact read_any h (iH (join_or (bx:=W.heap.size) N (iH fun n hn W' ts st g h hf=>(ih n hn).2.1 W' W.heap.size ts st h (hb.gr2 g (by omega) (by omega)) hf) (h.below y) hn))
theorem read_all (m:CatM) (len:Int) (rb pb:Nat) (N:Nat):ReadS m len rb pb N:=(all_read m len rb pb N).2.2
theorem either_any (b:Bool) (w:World):Calls Tryz.prog 63 #[.bool b] w fun e w'=>e=.returned (.string (joinOp b))∧w'=w:=by
 cases b
 ·go_enter Tryz.func63,Tryz.ntmps63;go_wp2;go_ret;exact⟨rfl,rfl⟩
 ·go_enter Tryz.func63,Tryz.ntmps63;go_wp2;go_ret;exact⟨rfl,rfl⟩
theorem enters63:∀(args:Array Value) (W:World),(callFunc 63 args).run Tryz.prog W=.ok (.enter 63 args) W:=enter_of Tryz.func63 (by kernel_rfl) rfl
theorem enters62:∀(args:Array Value) (W:World),(callFunc 62 args).run Tryz.prog W=.ok (.enter 62 args) W:=enter_of Tryz.func62 (by kernel_rfl) rfl
theorem enters64:∀(args:Array Value) (W:World),(callFunc 64 args).run Tryz.prog W=.ok (.enter 64 args) W:=enter_of Tryz.func64 (by kernel_rfl) rfl
structure NCtx (W : World) (bE bK bN : Nat) : Prop where
 e:Bk W bE 129 [.func (.func 63) #[] #[]]
 k:Bk W bK 128 [.func (.func 62) #[] #[.pointer (some ⟨bN,0,none⟩)]]
 n:Bk W bN 127 [.func (.func 64) #[] #[.pointer (some ⟨bE,0,none⟩),.pointer (some ⟨bK,0,none⟩),.pointer (some ⟨bN,0,none⟩)]]
theorem NCtx.below {W W':World} {bE bK bN:Nat} (h:NCtx W bE bK bN) (hb:Below W.heap.size W W'):NCtx W' bE bK bN:=⟨h.e.below hb h.e.lt,h.k.below hb h.k.lt,h.n.below hb h.n.lt⟩
def NewM (W:World) (k:Mk) (e:Ending) (w':World):Prop:=∃M:MkM,e=.returned (.agg #[.string M.op,.int .i64 M.a,.int .i64 M.b,.slice M.s.A M.s.n M.s.c])∧M.core=k∧M.Ok w' 49 (fun b=>W.heap.size<=b)∧Below W.heap.size W w'
def NewL (W:World) (l:List Mk) (e:Ending) (w':World):Prop:=∃(ks:List MkM) (s:Sl),e=.returned (.slice s.A s.n s.c)∧MkM.coreL ks=l∧PRow w' 49 (fun b=>W.heap.size<=b) s.A (mcells ks)∧s.n=ks.length∧s.n<=100000∧(∀k∈ks,k.Ok w' 49 (fun b=>W.heap.size<=b))∧Below W.heap.size W w'
def NS (bE bK bN:Nat) (t:MkM):Prop:=∀(W:World) (P:Nat->Prop) (no:Bool),NCtx W bE bK bN->t.Ok W 49 P->Calls Tryz.prog 64 #[.agg #[.string t.op,.int .i64 t.a,.int .i64 t.b,.slice t.s.A t.s.n t.s.c],.bool no,.pointer (some ⟨bE,0,none⟩),.pointer (some ⟨bK,0,none⟩),.pointer (some ⟨bN,0,none⟩)] W (NewM W (t.core.norm no))
def KidsV (w:World) (B:Nat) (v:Value) (ks:List MkM):Prop:=∀k∈ks,k.Ok w 49 (fun b=>B<b∧some b≠v.ownBlock)
theorem KidsV.below {w w':World} {B:Nat} {v:Value} {ks:List MkM} (h:KidsV w B v ks) (hb:Below w.heap.size w w'):KidsV w' B v ks:=fun k hk=>(h k hk).bel hb
theorem KidsV.next {w w':World} {B:Nat} {v v':Value} {ks:List MkM} {M:MkM} (h:KidsV w B v ks) (hM:M.Ok w 49 (fun b=>B<b∧some b≠v.ownBlock)) (hg:w.grownBy w' v.ownBlock) (hat:v'.ownBlock=v.ownBlock∨v'.ownBlock=some w.heap.size):KidsV w' B v' (ks ++ [M]):=fun k hk=>by
 have hk':k.Ok w 49 (fun b=>B<b∧some b≠v.ownBlock):=by
  rcases List.mem_append.1 hk with hk|hk
  ·exact h k hk
  ·obtain rfl:k=M:=by simpa using hk
   exact hM
 refine(hk'.lt.grown hg fun b hb=>hb.1.2).mono fun b _ hb=>⟨hb.1.1,?_⟩
 rcases hat with e|e
 ·rw[e];exact hb.1.2
 ·rw[e];have:=hb.2;simp;omega
theorem nkids_any {bE bK bN:Nat} (no:Bool) {M:MkM} {W:World} {P:Nat->Prop} (ih:∀t∈M.ks,NS bE bK bN t) (hC:NCtx W bE bK bN) (h:M.Ok W 49 P) :
 Calls Tryz.prog 62 #[.agg #[.string M.op,.int .i64 M.a,.int .i64 M.b,.slice M.s.A M.s.n M.s.c],.bool no,.pointer (some ⟨bN,0,none⟩)] W (NewL W (M.core.kids.map (·.norm no))):=by
 have hq:=enters64;obtain⟨i0,hi,hz0,hz1,hz2⟩:=info_parts info49;have y:Below W.heap.size W (W.alloc (.cells #[.string M.op,.int .i64 M.a,.int .i64 M.b,.slice M.s.A M.s.n M.s.c] 49)):=(Below.refl _ _).alloc (Nat.le_refl _) _;have Hn:=iH h.len;have H:=iH h;have hs:=h.small;have hK:M.core.kids=M.ks.map MkM.core:=by rw[<- coreL_map];cases M;rfl
 rw[hK];have HI:=iH ih;have HC:=iH hC;have hnl:bN<W.heap.size:=hC.n.lt;obtain⟨mop,ma,mbb,l,s⟩:=M;dsimp only[MkM.ks,MkM.s,MkM.op,MkM.a,MkM.b]at *;obtain⟨A,n,c⟩:=s;dsimp only at *;clear h ih hK hC;go_enter Tryz.func62,Tryz.ntmps62;go_wp2_with fail;go_loopw [6,12] (fun v i wr=>∃(k:Nat) (ks:List MkM),k<=n∧i=.int .i64 k∧wr.ownsRow W.heap.size 49 4 v k (mcells ks)∧ks.length=k∧KidsV wr W.heap.size v ks∧MkM.coreL ks=(l.take k).map (fun t=>t.core.norm no)∧Below W.heap.size W wr) (fun _ i _=>n-(intOf i).toNat)
 case atStart=>exact⟨0,[],Nat.zero_le _,rfl,World.ownsRow_nil _ _ _ _,rfl,fun _ h=>absurd h List.not_mem_nil,rfl,y⟩
 case round =>
  obtain⟨k,ks,hk,rfl,hown,hlen,hkv,hcore,hb⟩:=hrel;have HO:=iH hown;have HK:=iH hkv;have HB:=iH hb;have hsz:=hb.size;by_cases hlt:k<n
  ·have hkl:k<l.length:=by have:=Hn.out;omega
   obtain⟨b,off,rfl,hbb,c0,c1,c2,c3⟩:=(H.out.bel hb).at_ k hkl;dsimp only[MkM.ks,MkM.s]at c0 c1 c2 c3;have HS:Hid ((l.take (k+1)).map (fun t=>t.core.norm no)=(l.take k).map (fun t=>t.core.norm no) ++ [l[k].core.norm no]):=by
    show _=_;rw[List.take_succ_eq_append_getElem hkl,List.map_append];rfl
   have hmem:=List.getElem_mem hkl;have y2:Below wr.heap.size wr (wr.alloc (.cells #[.string l[k].op,.int .i64 l[k].a,.int .i64 l[k].b,.slice l[k].s.A l[k].s.n l[k].s.c] 49)):=(Below.refl _ _).alloc (Nat.le_refl _) _;have HCN:=iH (HI.out l[k] hmem _ P no ((HC.out.below hb).below y2) (((H.out.bel hb).each l[k] hmem).bel y2));have HB2:=iH (hb.trans (y2.mono hsz));have n0:=(HC.out.below hb).n.k0;have HC0:=iH hcore;have hnw:bN<wr.heap.size:=by omega
   have HO2:=iH (hown.alloc (.cells #[.string l[k].op,.int .i64 l[k].a,.int .i64 l[k].b,.slice l[k].s.A l[k].s.n l[k].s.c] 49));have HK2:=iH (hkv.below y2);have hs2:(wr.alloc (.cells #[.string l[k].op,.int .i64 l[k].a,.int .i64 l[k].b,.slice l[k].s.A l[k].s.n l[k].s.c] 49)).heap.size=wr.heap.size+1:=by simp
   have HS2:=iH hs2;clear hmem hown hkv hcore hb y2 hs2 HO HK HB;generalize l[k]=t at *;clear hkl;go_wp2_with fail;refine HCN.out.mono ?_;rintro e w3 ⟨M2,rfl,hMc,hMo,hb3⟩;have hs3:=hb3.size;have hs2:=HS2.out;have hown3:=HO2.out.kept (grown_of_below hb3 none) (by cases u6.ownBlock <;> simp);have y3:Below w3.heap.size w3 (w3.alloc (.cells #[.string M2.op,.int .i64 M2.a,.int .i64 M2.b,.slice M2.s.A M2.s.n M2.s.c] 49)):=(Below.refl _ _).alloc (Nat.le_refl _) _;have hub:∀g,u6.ownBlock=some g->W.heap.size<=g∧g<wr.heap.size+1:=fun g hg=>by
    have:=HO2.out.lt g hg;rw[hs2]at this;exact this
   have HB3:=iH (HB2.out.trans (hb3.mono HB2.out.size));have HO4:=iH (hown3.alloc (.cells #[.string M2.op,.int .i64 M2.a,.int .i64 M2.b,.slice M2.s.A M2.s.n M2.s.c] 49));have HK4:=iH (((HK2.out.below hb3)).below y3);have HM4:=iH ((hMo.mono (Q:=fun b=>W.heap.size<b∧some b≠u6.ownBlock) fun b _ hb=>⟨by omega,fun e=>by have:=(hub b e.symm).2;omega⟩).bel y3);have HCO:Hid (MkM.coreL (ks ++ [M2])=(l.take (k+1)).map (fun t=>t.core.norm no)):=by
    show _=_;rw[HS.out,<- HC0.out,coreL_map,coreL_map,List.map_append,<- hMc];rfl
   clear hown3 hMc hMo hb3 HO2 HK2 HB2 HS HC0 hub y3;go_wp2_with(at_builtin;refine wpList_append_own_at _ rfl _ _ 47 rfl W.heap.size 49 i0 (.agg #[.string ⟨#[]⟩,.int .i64 0,.int .i64 0,.slice none 0 0]) 4 56 Tryz.underlying47 hi hz0 hz1 hz2 rfl (by decide) _ k (mcells ks) rfl HO4.out ⟨w3.heap.size,0,none⟩ 1 1 [.string M2.op,.int .i64 M2.a,.int .i64 M2.b,.slice M2.s.A M2.s.n M2.s.c] rfl rfl (new4 _ _ _ _ _ _) (one4m M2) (by unfold maxLen;omega) (by omega) (by simp;omega) ?_);intro v' w4 hown' hgrow _ hat;have HK5:=iH (HK4.out.next HM4.out hgrow (by rw[World.size_alloc];exact hat));have HB5:=iH ((HB3.out.alloc HB3.out.size _).grown hgrow (by simp;omega) (row_base HO4.out));have HO5:=iH hown';clear hown' hgrow hat HK4 HB3 HO4 HM4;go_wp2_with fail;go_roundw
   case rel=>exact⟨k+1,ks ++ [M2],by omega,by go_num,by rw[mcells_snoc];exact HO5.out,by simp[hlen],HK5.out,HCO.out,HB5.out⟩
   case measure=>simp[intOf];omega
  ·have hkn:k=n:=by omega
   have hT:l.take k=l:=List.take_of_length_le (by have:=Hn.out;omega);rw[hT]at hcore;have hQ:∃A c,u6=.slice A n c:=by
    rw[hkn]at hown;rcases hown.2 with ⟨hv,h0⟩|⟨g,cap,cur,hv,_⟩
    ·exact⟨none,0,by rw[hv,h0]⟩
    ·exact⟨_,_,hv⟩
   obtain⟨A',c',rfl⟩:=hQ;rw[hkn]at hown;have HQ:Hid (NewL W ((l.map MkM.core).map (·.norm no)) (.returned (.slice A' n c')) wr) :=
    iH ⟨ks,⟨A',n,c'⟩,rfl,by rw[hcore,List.map_map];rfl,(PRow.of_own hown).mono fun b _ hb=>hb.2,by rw[hlen,hkn],hs,fun k hk=>(hkv k hk).mono fun b _ hb=>Nat.le_of_lt hb.1,hb⟩
   clear hkn hT hcore hown hkv hb HO HK HB HI;go_wp2;go_ret;exact HQ.out
section
structure MkAt (B : Nat) (W : World) (t : TypeId) (bx : Nat) (op : ByteArray) (a b : Int) (ks : List MkM) (s : Sl) : Prop where
 bk:Bk W bx t [.string op,.int .i64 a,.int .i64 b,.slice s.A s.n s.c]
 own:W.ownsRow B t 4 (.slice s.A s.n s.c) ks.length (mcells ks)
 each:∀k∈ks,k.Ok W t (fun q=>B<=q∧q≠bx∧some q≠(Value.slice s.A s.n s.c).ownBlock)
 ne:(Value.slice s.A s.n s.c).ownBlock≠some bx
 ge:B<=bx
section
variable {B : Nat} {W W' : World} {t : TypeId} {bx : Nat} {op : ByteArray} {a b : Int} {ks : List MkM} {s : Sl}
theorem MkAt.start (h:Bk W bx t [.string op,.int .i64 a,.int .i64 b,.slice none 0 0]) (hB:B<=bx):MkAt B W t bx op a b [] ⟨none,0,0⟩ :=
 ⟨h,World.ownsRow_nil _ _ _ _,fun _ h=>absurd h List.not_mem_nil,by simp[Value.ownBlock],hB⟩
theorem MkAt.below (h:MkAt B W t bx op a b ks s) (hb:Below W.heap.size W W'):MkAt B W' t bx op a b ks s :=
 ⟨h.bk.below hb h.bk.lt,h.own.kept (grown_of_below hb none) (by cases(Value.slice s.A s.n s.c).ownBlock <;> simp),fun k hk=>(h.each k hk).bel hb,h.ne,h.ge⟩
theorem MkAt.len (h:MkAt B W t bx op a b ks s):s.n=ks.length:=by
 obtain⟨A,c,e,_⟩:=row_of_owns h.own;exact(Value.slice.inj e).2.1
theorem MkAt.base (h:MkAt B W t bx op a b ks s):∀g,(Value.slice s.A s.n s.c).ownBlock=some g->B<=g:=row_base h.own
theorem MkAt.far (h:MkAt B W t bx op a b ks s) (q:Nat) (hq:q<B):some q≠(Value.slice s.A s.n s.c).ownBlock:=fun e=>by
 have:=h.base q e.symm;omega
theorem MkAt.fresh (h:MkAt B W t bx op a b ks s) {M:MkM} {C:Nat} {U:World} (hM:M.Ok U t (fun q=>C<=q)) (hC:bx<C∧B<=C∧∀g,(Value.slice s.A s.n s.c).ownBlock=some g->g<C):M.Ok U t (fun q=>B<=q∧q≠bx∧some q≠(Value.slice s.A s.n s.c).ownBlock) :=
 hM.mono fun q _ hq=>⟨by have:=hC.2.1;omega,by have:=hC.1;omega,fun e=>by have:=hC.2.2 q e.symm;omega⟩
theorem MkAt.app {A':Option Addr} {n' c':Nat} {M:MkM} (h:MkAt B W t bx op a b ks s) (hg:W.grownBy W' (Value.slice s.A s.n s.c).ownBlock) (hn:W'.ownsRow B t 4 (.slice A' n' c') n' (mcells ks ++ M.cells)) (hk:n'=ks.length+1)
 (hM:M.Ok W t (fun q=>B<=q∧q≠bx∧some q≠(Value.slice s.A s.n s.c).ownBlock)) (hat:(Value.slice A' n' c').ownBlock=(Value.slice s.A s.n s.c).ownBlock∨(Value.slice A' n' c').ownBlock=some W.heap.size) :
 Bk W' bx t [.string op,.int .i64 a,.int .i64 b,.slice s.A s.n s.c]∧MkAt B (W'.setCell ⟨bx,3,none⟩ (.slice A' n' c')) t bx op a b (ks ++ [M]) ⟨A',n',c'⟩:=by
 have kb:=h.bk.grown hg (fun e=>h.ne e.symm);have hlt:=h.bk.lt;have hne:(Value.slice A' n' c').ownBlock≠some bx:=by
  rcases hat with e|e
  ·rw[e];exact h.ne
  ·rw[e];intro e2;cases e2;omega
 have ho:=hn.kept (grown_setCell W' bx 3 (.slice A' n' c')) (.inr hne);refine⟨kb,⟨kb.set 3 _,?_,fun k hk'=>?_,hne,h.ge⟩⟩
 ·rw[mcells_snoc];have e:(ks ++ [M]).length=n':=by simp[hk]
  rw[e];exact ho
 ·have hk2:k.Ok W t (fun q=>B<=q∧q≠bx∧some q≠(Value.slice s.A s.n s.c).ownBlock):=by
   rcases List.mem_append.1 hk' with hk'|hk'
   ·exact h.each k hk'
   ·rw[List.mem_singleton.1 hk'];exact hM
  have h1:=hk2.lt.grown hg fun q hq=>hq.1.2.2
  have h2:=h1.grown (grown_setCell W' bx 3 (.slice A' n' c')) fun q hq=>by simpa using hq.1.2.1
  refine h2.mono fun q _ hq=>⟨hq.1.1,hq.1.2.1,?_⟩
  rcases hat with e|e
  ·show some q≠(Value.slice A' n' c').ownBlock;rw[e];exact hq.1.2.2
  ·show some q≠(Value.slice A' n' c').ownBlock;rw[e];intro e2;have:=hq.2;cases e2;omega
theorem MkAt.ok (h:MkAt B W t bx op a b ks s) (hl:ks.length<=100000) (hop:op.size<=8192) (ha:In64 a) (hb:In64 b):MkM.Ok W t (fun q=>B<=q) ⟨op,a,b,ks,s⟩:=by
 have hs:=h.len;refine .mk _ _ _ _ _ ?_ hs (by rw[hs];exact hl) hop ha hb fun k hk=>(h.each k hk).mono fun q _ hq=>hq.1
 have:=h.own;rw[<- hs]at this;exact(PRow.of_own this).mono fun q _ hq=>hq.2
theorem MkAt.lt (h:MkAt B W t bx op a b ks s):∀g,(Value.slice s.A s.n s.c).ownBlock=some g->g<W.heap.size:=fun g hg=>(h.own.lt g hg).2
end
def NewT (t:TypeId) (W:World) (k:Mk) (e:Ending) (w':World):Prop:=∃M:MkM,e=.returned (.agg #[.string M.op,.int .i64 M.a,.int .i64 M.b,.slice M.s.A M.s.n M.s.c])∧M.core=k∧M.Ok w' t (fun b=>W.heap.size<=b)∧Below W.heap.size W w'
theorem lay_res {W w1:World} {t:TypeId} {M:MkM} {g:Nat} (hW:W.heap.size<=g) (hB:Bk w1 g t [.string ⟨#[]⟩,.int .i64 0,.int .i64 0,.slice none 0 0]) (h:M.Ok w1 t (fun b=>W.heap.size<=b∧b≠g)) (hY:Below W.heap.size W w1) :
 M.Ok ((((w1.setCell ⟨g,0,none⟩ (.string M.op)).setCell ⟨g,1,none⟩ (.int .i64 M.a)).setCell ⟨g,2,none⟩ (.int .i64 M.b)).setCell ⟨g,3,none⟩ (.slice M.s.A M.s.n M.s.c)) t (fun b=>W.heap.size<=b)∧Below W.heap.size W ((((w1.setCell ⟨g,0,none⟩ (.string M.op)).setCell ⟨g,1,none⟩ (.int .i64 M.a)).setCell ⟨g,2,none⟩ (.int .i64 M.b)).setCell ⟨g,3,none⟩ (.slice M.s.A M.s.n M.s.c))∧Bk ((((w1.setCell ⟨g,0,none⟩ (.string M.op)).setCell ⟨g,1,none⟩ (.int .i64 M.a)).setCell ⟨g,2,none⟩ (.int .i64 M.b)).setCell ⟨g,3,none⟩ (.slice M.s.A M.s.n M.s.c)) g t [.string M.op,.int .i64 M.a,.int .i64 M.b,.slice M.s.A M.s.n M.s.c] :=
 ⟨(h.grown (four_self w1 g (.string M.op) (.int .i64 M.a) (.int .i64 M.b) (.slice M.s.A M.s.n M.s.c)) fun b hb=>by simp;exact hb.2).mono fun b _ hb=>hb.1,hY.trans (four_below hW (.string M.op) (.int .i64 M.a) (.int .i64 M.b) (.slice M.s.A M.s.n M.s.c)),four_laid hB (.string M.op) (.int .i64 M.a) (.int .i64 M.b) (.slice M.s.A M.s.n M.s.c)⟩
theorem Bk.setOther {w:World} {g b k:Nat} {t:TypeId} {xs:List Value} {u:Value} (h:Bk w g t xs) (hne:g≠b):Bk (w.setCell ⟨b,k,none⟩ u) g t xs:=h.grown (grown_setCell w b k u) (by simpa using hne)
theorem info35:(Tryz.prog.info? 35).map (fun i=>(i.zero,i.size,i.bytes))=some (some (.agg #[.string ⟨#[]⟩,.int .i64 0,.int .i64 0,.slice none 0 0]),4,56):=by kernel_rfl
def BackS (t:MkM):Prop:=∀(W:World) (P:Nat->Prop),t.Ok W 49 P->Calls Tryz.prog 30 #[.agg #[.string t.op,.int .i64 t.a,.int .i64 t.b,.slice t.s.A t.s.n t.s.c]] W (NewT 35 W t.core)
theorem back_any:∀M:MkM,BackS M:=by
 intro M
 induction M using MkM.ind with
 | h M ih =>
   intro W P h;obtain⟨i0,hi,hz0,hz1,hz2⟩:=info_parts info35;have Hn:=iH h.len;have H:=iH h;have hs:=h.small;have HI:=iH ih;have hOP:=iH h.hop;have hA0:=iH h.ha;have hB0:=iH h.hb;have hcm:M.core=.node M.op M.a M.b (M.ks.map MkM.core):=by cases M;simp[MkM.core,coreL_map]
   have HCM:=iH hcm;obtain⟨op,a,b,l,s0⟩:=M;dsimp only[MkM.ks,MkM.s,MkM.op,MkM.a,MkM.b]at *;obtain⟨A,n,c⟩:=s0;dsimp only at *;have y:Below W.heap.size W (((W.alloc (.cells #[.string op,.int .i64 a,.int .i64 b,.slice A n c] 49)).alloc (.cells #[.string ⟨#[]⟩,.int .i64 0,.int .i64 0,.slice none 0 0] 35)).alloc (.cells #[.string op,.int .i64 a,.int .i64 b,.slice none 0 0] 35)):=(((Below.refl _ _).alloc (Nat.le_refl _) _).alloc (by simp) _).alloc (by simp;omega) _;have Y:=iH y;have B0:=iH (((Bk.new W 49 [.string op,.int .i64 a,.int .i64 b,.slice A n c]).alloc (.cells #[.string ⟨#[]⟩,.int .i64 0,.int .i64 0,.slice none 0 0] 35)).alloc (.cells #[.string op,.int .i64 a,.int .i64 b,.slice none 0 0] 35));have B1:Hid (Bk (((W.alloc (.cells #[.string op,.int .i64 a,.int .i64 b,.slice A n c] 49)).alloc (.cells #[.string ⟨#[]⟩,.int .i64 0,.int .i64 0,.slice none 0 0] 35)).alloc (.cells #[.string op,.int .i64 a,.int .i64 b,.slice none 0 0] 35)) (W.heap.size+1) 35 [.string ⟨#[]⟩,.int .i64 0,.int .i64 0,.slice none 0 0]):=by
    have:=(Bk.new (W.alloc (.cells #[.string op,.int .i64 a,.int .i64 b,.slice A n c] 49)) 35 [.string ⟨#[]⟩,.int .i64 0,.int .i64 0,.slice none 0 0]).alloc (.cells #[.string op,.int .i64 a,.int .i64 b,.slice none 0 0] 35);rw[World.size_alloc]at this;exact iH this
   have B2:Hid (MkAt (W.heap.size+2) (((W.alloc (.cells #[.string op,.int .i64 a,.int .i64 b,.slice A n c] 49)).alloc (.cells #[.string ⟨#[]⟩,.int .i64 0,.int .i64 0,.slice none 0 0] 35)).alloc (.cells #[.string op,.int .i64 a,.int .i64 b,.slice none 0 0] 35)) 35 (W.heap.size+2) op a b [] ⟨none,0,0⟩):=by
    have:=Bk.new ((W.alloc (.cells #[.string op,.int .i64 a,.int .i64 b,.slice A n c] 49)).alloc (.cells #[.string ⟨#[]⟩,.int .i64 0,.int .i64 0,.slice none 0 0] 35)) 35 [.string op,.int .i64 a,.int .i64 b,.slice none 0 0];rw[World.size_alloc,World.size_alloc]at this;exact iH (MkAt.start this (Nat.le_refl _))
   clear h ih hcm y;go_enter Tryz.func30,Tryz.ntmps30;go_wp2_with fail;go_loopw [4] (fun i wr=>∃(k:Nat) (ks:List MkM) (s:Sl),k<=n∧i=.int .i64 k∧MkAt (W.heap.size+2) wr 35 (W.heap.size+2) op a b ks s∧ks.length=k∧ks.map MkM.core=(l.take k).map MkM.core∧Below W.heap.size W wr∧Bk wr W.heap.size 49 [.string op,.int .i64 a,.int .i64 b,.slice A n c]∧Bk wr (W.heap.size+1) 35 [.string ⟨#[]⟩,.int .i64 0,.int .i64 0,.slice none 0 0]) (fun i _=>n-(intOf i).toNat)
   case atStart=>exact⟨0,[],⟨none,0,0⟩,Nat.zero_le _,rfl,B2.out,rfl,rfl,Y.out,B0.out,B1.out⟩
   case round =>
    obtain⟨k,ks,s,hk,rfl,hma,hkl0,hcore,hbl,hpb,hrb⟩:=hrel;have HMA:=iH hma;have HBL:=iH hbl;have HPB:=iH hpb;have HRB:=iH hrb;have HKL:=iH hkl0;have HCO:=iH hcore;have hsz:=hbl.size;have hpl:=hpb.lt;have hsn:s.n=k:=by rw[hma.len,hkl0]
    have p3:=hpb.k3;by_cases hlt:k<n
    ·have hkl:k<l.length:=by have:=Hn.out;omega
     obtain⟨bb,off,rfl,hbb,c0,c1,c2,c3⟩:=H.out.at_ k hkl;dsimp only[MkM.ks,MkM.s]at c0 c1 c2 c3;have hmem:=List.getElem_mem hkl;have HS:Hid ((l.take (k+1)).map MkM.core=(l.take k).map MkM.core ++ [l[k].core]):=by
      show _=_;rw[List.take_succ_eq_append_getElem hkl,List.map_append];rfl
     have HKC:Hid (∀U,Below W.heap.size W U->(U.cell? ⟨bb,off+k*4,none⟩=some (.string l[k].op)∧U.cell? ⟨bb,off+k*4+1,none⟩=some (.int .i64 l[k].a)∧U.cell? ⟨bb,off+k*4+2,none⟩=some (.int .i64 l[k].b)∧U.cell? ⟨bb,off+k*4+3,none⟩=some (.slice l[k].s.A l[k].s.n l[k].s.c))∧bb<U.heap.size):=iH fun U hU =>
      ⟨⟨(hU.cell (p:=⟨bb,off+k*4,none⟩) hbb).trans c0,(hU.cell (p:=⟨bb,off+k*4+1,none⟩) hbb).trans c1,(hU.cell (p:=⟨bb,off+k*4+2,none⟩) hbb).trans c2,(hU.cell (p:=⟨bb,off+k*4+3,none⟩) hbb).trans c3⟩,Nat.lt_of_lt_of_le hbb hU.size⟩
     have HC:=iH (HI.out l[k] hmem wr.drew P ((H.out.bel hbl.drew).each l[k] hmem));have HBS:Hid (W.heap.size+2<=wr.drew.heap.size):=iH (by have:=hma.bk.lt;simp only[World.size_drew];omega);have HSN:=iH hsn;have hsk:s.n<=100000:=by omega
     clear hmem c0 c1 c2 c3 hma hkl0 hcore hbl hpb hrb hsn;generalize l[k]=t at *;clear hkl;go_wp2;refine wp_region_X (fun w'=>(Bk w' W.heap.size 49 [.string op,.int .i64 a,.int .i64 b,.slice (some ⟨bb,off,none⟩) n c]∧Bk w' (W.heap.size+2) 35 [.string op,.int .i64 a,.int .i64 b,.slice s.A s.n s.c])∧((w'.cell? ⟨bb,off+k*4,none⟩=some (.string t.op)∧w'.cell? ⟨bb,off+k*4+1,none⟩=some (.int .i64 t.a)∧w'.cell? ⟨bb,off+k*4+2,none⟩=some (.int .i64 t.b)∧w'.cell? ⟨bb,off+k*4+3,none⟩=some (.slice t.s.A t.s.n t.s.c))∧bb<w'.heap.size)) 11 (n:=12) rfl (by kernel_rfl) (⟨⟨HPB.out.drew,HMA.out.bk.drew⟩,HKC.out _ HBL.out.drew⟩) (fun hS=>?_);refine xT 0 19 hS ?_;refine xT 1 20 hS ?_ (hy:=fun w' hS'=>by have⟨e0,e1,e2,e3,el⟩:=hS'.1.2.p4;(go_simp;try with_reducible rfl));refine xT 2 21 hS ?_;refine xT 3 22 hS ?_ (hy:=fun w' hS'=>by have⟨e0,e1,e2,e3,el⟩:=hS'.1.1.p4;(go_simp;try with_reducible rfl));refine xT 4 23 hS ?_;refine xT 5 24 hS ?_;refine xT 6 25 hS ?_ (hy:=fun w' hS'=>by have e0:=hS'.2.1.1;have e1:=hS'.2.1.2.1;have e2:=hS'.2.1.2.2.1;have e3:=hS'.2.1.2.2.2;have el:=hS'.2.2;(go_simp;try with_reducible rfl));refine X_o 7 rfl fun K hK=>?_;go_simp;(with_reducible refine HC.out.mono ?_);rintro e w1 ⟨M2,rfl,hcore,hok,hb⟩;have hd:=(Below.refl wr.heap.size wr).drew.trans hb;have HPB1:=iH (HPB.out.below hd HPB.out.lt);have HRB1:=iH (HRB.out.below hd HRB.out.lt);have HMA1:=iH (HMA.out.below hd);have HBL1:=iH (HBL.out.trans (hd.mono HBL.out.size));have HOK1:=iH (HMA.out.fresh hok ⟨HMA.out.bk.lt,HBS.out,HMA.out.lt⟩);have HCR:=iH hcore;refine hK _ _ ⟨⟨HPB1.out,HMA1.out.bk⟩,HKC.out _ HBL1.out⟩ ?_;clear hK hcore hok hb hd HPB HMA HBL HRB;refine X_o 8 rfl fun K hK=>?_;go_simp;have yk:Below w1.heap.size w1 (w1.alloc (.cells #[.string M2.op,.int .i64 M2.a,.int .i64 M2.b,.slice M2.s.A M2.s.n M2.s.c] 35)):=(Below.refl _ _).alloc (Nat.le_refl _) _;have HPB2:=iH (HPB1.out.below yk HPB1.out.lt);have HRB2:=iH (HRB1.out.below yk HRB1.out.lt);have HMA2:=iH (HMA1.out.below yk);have HBL2:=iH (HBL1.out.trans (yk.mono HBL1.out.size));have HOK2:=iH (HOK1.out.bel yk);refine hK _ _ ⟨⟨HPB2.out,HMA2.out.bk⟩,HKC.out _ HBL2.out⟩ ?_;clear hK yk HPB1 HMA1 HBL1 HOK1 HRB1;refine X_o 9 rfl fun K hK=>?_;have hl1:=iH HMA2.out.len;have hbl:=HMA2.out.bk.lt;refine step_append_lies _ rfl (.tmp 20) (.tmp 27) 33 rfl (W.heap.size+2) 35 i0 (.agg #[.string ⟨#[]⟩,.int .i64 0,.int .i64 0,.slice none 0 0]) 4 56 Tryz.underlying33 hi hz0 hz1 hz2 rfl (by decide) _ s.n (mcells ks) rfl (by have:=HMA2.out.own;rw[<- hl1.out]at this;exact this) ⟨w1.heap.size,0,none⟩ 1 1 [.string M2.op,.int .i64 M2.a,.int .i64 M2.b,.slice M2.s.A M2.s.n M2.s.c] rfl rfl (new4 _ _ _ _ _ _) (one4m M2) (by omega) (by unfold maxLen;omega) (by omega) (by omega) (w1.heap.size+1) (by simp) ?_;intro g' cap w8 hown8 hgr8 hat8 _;have HP8:=iH (HPB2.out.grown hgr8 (HMA2.out.far W.heap.size (by omega)));have HR8:=iH (HRB2.out.grown hgr8 (HMA2.out.far (W.heap.size+1) (by omega)));have HQ8:=iH (HMA2.out.app hgr8 hown8 (by rw[hl1.out]) HOK2.out (hat8.elim (fun e=>.inl e.symm) (fun e=>.inr (by rw[e];simp[Value.ownBlock]))));have HB8:=iH (HBL2.out.grown hgr8 (by omega) (fun g hg=>Nat.le_trans (by omega) (HMA2.out.base g hg)));refine hK _ _ ⟨⟨HP8.out,HQ8.out.1⟩,HKC.out _ HB8.out⟩ ?_;clear hK hown8 hgr8 hat8 HPB2 HMA2 HBL2 HOK2 HRB2;have z3:=HQ8.out.1.k3;have f3:=HQ8.out.1.frozen 3;have zl:=HQ8.out.1.lt;refine X_o 10 rfl fun K hK=>?_;go_simp;refine hK _ _ ⟨⟨HP8.out,HQ8.out.1⟩,HKC.out _ HB8.out⟩ ?_;clear hK;refine X_tail (by kernel_rfl) ?_;refine A_one 11 (by kernel_rfl) rfl rfl (fun K hK=>?_);go_simp;refine hK _ _ ?_;clear hK;refine A_done (by kernel_rfl) ?_;clear hS;go_wp2;go_roundw
     case rel=>exact⟨k+1,ks ++ [M2],⟨some ⟨g',0,none⟩,s.n+1,cap⟩,by omega,by go_num,HQ8.out.2,by simp[HKL.out],by rw[HS.out,<- HCO.out,List.map_append,<- HCR.out];rfl,HB8.out.setCell (by simp;omega) _,HP8.out.setOther (by omega),HR8.out.setOther (by omega)⟩
     case measure=>simp[intOf];omega
    ·have hkn:k=n:=by omega
     have hT:l.take k=l:=List.take_of_length_le (by have:=Hn.out;omega);rw[hT]at hcore;have hOKF:=(hma.ok (by rw[hkl0];omega) hOP.out hA0.out hB0.out);have HOKF:=iH hOKF;have⟨z0,z1,z2,z3,zl⟩:=hma.bk.p4;have f0:=hrb.frozen 0;have f1:=hrb.frozen 1;have f2:=hrb.frozen 2;have f3:=hrb.frozen 3;have⟨g0,g1,g2,g3,_⟩:=hrb.p4;have HCF:Hid (MkM.core ⟨op,a,b,ks,s⟩=.node op a b (l.map MkM.core)):=iH (by simp[MkM.core,coreL_map,hcore]);clear hkn hT hcore hma hOKF hpb hrb hkl0 hsn;go_wp2;have hX:=lay_res (W:=W) (M:=⟨op,a,b,ks,s⟩) (g:=W.heap.size+1) (by omega) HRB.out (HOKF.out.mono fun q _ hq=>⟨by omega,by omega⟩) HBL.out;dsimp only at hX;generalize(((wr.setCell ⟨W.heap.size+1,0,none⟩ (.string op)).setCell ⟨W.heap.size+1,1,none⟩ (.int .i64 a)).setCell ⟨W.heap.size+1,2,none⟩ (.int .i64 b)).setCell ⟨W.heap.size+1,3,none⟩ (.slice s.A s.n s.c)=X at *;have⟨x0,x1,x2,x3,_⟩:=hX.2.2.p4;refine bodyPost_ret (v:=.agg #[.string op,.int .i64 a,.int .i64 b,.slice s.A s.n s.c]) (by simp[results,Tryz.results30,go_sem,x0,x1,x2,x3]) rfl ?_;rw[HCM.out];exact⟨⟨op,a,b,ks,s⟩,rfl,HCF.out,hX.1,hX.2.1⟩
end
section
def condNs:List ByteArray:=[⟨#[107,105,110,100]⟩,⟨#[97,99,116,111,114]⟩,⟨#[114,117,108,101]⟩,⟨#[116,105,99,107]⟩,⟨#[105,116,101,109]⟩,⟨#[109,111,114,101]⟩,⟨#[115,116,101,112]⟩,⟨#[97,99,99,111,117,110,116]⟩]
theorem condNs_any (w:World):Calls Tryz.prog 49 #[] w (NmQ w condNs):=by
 go_enter Tryz.func49,Tryz.ntmps49;go_wp2;go_ret;refine⟨_,_,_,rfl,⟨.inr ⟨w.heap.size,0,_,_,rfl,heap_alloc_new w _,fun j u hu=>?_⟩,rfl,by decide⟩,(Below.refl _ _).alloc (Nat.le_refl _) _⟩;rw[Nat.zero_add,<- List.getElem?_toArray]at *;exact hu
theorem rkinds_any (w:World):Calls Tryz.prog 70 #[] w (NmQ w kindNs):=by
 go_enter Tryz.func70,Tryz.ntmps70;go_wp2;go_ret;refine⟨_,_,_,rfl,⟨.inr ⟨w.heap.size,0,_,_,rfl,heap_alloc_new w _,fun j u hu=>?_⟩,rfl,by decide⟩,(Below.refl _ _).alloc (Nat.le_refl _) _⟩;rw[Nat.zero_add,<- List.getElem?_toArray]at *;exact hu
def SlC (s:Sl):Prop:=s=⟨none,0,0⟩∨∃g,s.A=some ⟨g,0,none⟩∧s.n<=s.c
inductive MkM.Fan (n : Nat) : MkM -> Prop
 | mk (op:ByteArray) (a b:Int) (ks:List MkM) (s:Sl) (len:ks.length<=n) (cap:SlC s) (each:∀k∈ks,MkM.Fan n k):MkM.Fan n ⟨op,a,b,ks,s⟩
theorem MkM.Fan.kid {n:Nat} {M:MkM} (h:M.Fan n):∀t∈M.ks,t.Fan n:=by cases h;assumption
theorem MkM.Fan.cap {n:Nat} {M:MkM} (h:M.Fan n):SlC M.s:=by cases h;assumption
theorem MkM.Fan.len {n:Nat} {M:MkM} (h:M.Fan n):M.ks.length<=n:=by cases h;assumption
theorem own_cap {W:World} {B e size n:Nat} {s:Sl} {xs:List Value} (h:W.ownsRow B e size (.slice s.A s.n s.c) n xs):SlC s:=by
 rcases h.2 with ⟨hv,_⟩|⟨g,cap,cur,hv,_,_,hn,_⟩
 ·have:=Value.slice.inj hv;obtain⟨A,n,c⟩:=s;exact .inl (by simp_all)
 ·have:=Value.slice.inj hv;exact .inr ⟨g,this.1,by omega⟩
theorem MkAt.cap {B:Nat} {W:World} {t:TypeId} {bx:Nat} {op:ByteArray} {a b:Int} {ks:List MkM} {s:Sl} (h:MkAt B W t bx op a b ks s):SlC s:=own_cap h.own
def szG:Nat->Nat | 0=>1 | d+1=>1+3*szG d
theorem szG_pos (d:Nat):1<=szG d:=by cases d <;> simp[szG]
def MarkG (W:World) (g d:Nat) (e:Ending) (w':World):Prop :=
 ∃M:MkM,e=.returned (.agg #[.string M.op,.int .i64 M.a,.int .i64 M.b,.slice M.s.A M.s.n M.s.c])∧M.Ok w' 35 (fun b=>W.heap.size<=b)∧M.core.size<=szG d∧M.Fan 3∧KSt W w' g
section
variable {B : Nat} {W W' : World} {t : TypeId} {bx g : Nat} {op : ByteArray} {a b : Int} {ks : List MkM} {s : Sl}
theorem MkAt.kst (h:MkAt B W t bx op a b ks s) (hk:KSt W W' g) (hg:g<B):MkAt B W' t bx op a b ks s :=
 ⟨hk.bk h.bk (by have:=h.ge;omega),hk.own h.own (fun e=>by have:=h.base g e;omega),fun k hk'=>(h.each k hk').grown hk.gr fun q hq=>by have:=hq.1;simp;omega,h.ne,h.ge⟩
end
theorem lay_kst {W w1:World} {M:MkM} {g rb:Nat} (hW:W.heap.size<=rb) (hB:Bk w1 rb 35 [.string ⟨#[]⟩,.int .i64 0,.int .i64 0,.slice none 0 0]) (h:M.Ok w1 35 (fun b=>W.heap.size<=b∧b≠rb)) (hK:KSt W w1 g) :
 M.Ok ((((w1.setCell ⟨rb,0,none⟩ (.string M.op)).setCell ⟨rb,1,none⟩ (.int .i64 M.a)).setCell ⟨rb,2,none⟩ (.int .i64 M.b)).setCell ⟨rb,3,none⟩ (.slice M.s.A M.s.n M.s.c)) 35 (fun b=>W.heap.size<=b)∧KSt W ((((w1.setCell ⟨rb,0,none⟩ (.string M.op)).setCell ⟨rb,1,none⟩ (.int .i64 M.a)).setCell ⟨rb,2,none⟩ (.int .i64 M.b)).setCell ⟨rb,3,none⟩ (.slice M.s.A M.s.n M.s.c)) g∧Bk ((((w1.setCell ⟨rb,0,none⟩ (.string M.op)).setCell ⟨rb,1,none⟩ (.int .i64 M.a)).setCell ⟨rb,2,none⟩ (.int .i64 M.b)).setCell ⟨rb,3,none⟩ (.slice M.s.A M.s.n M.s.c)) rb 35 [.string M.op,.int .i64 M.a,.int .i64 M.b,.slice M.s.A M.s.n M.s.c] :=
 ⟨(h.grown (four_self w1 rb (.string M.op) (.int .i64 M.a) (.int .i64 M.b) (.slice M.s.A M.s.n M.s.c)) fun b hb=>by simp;exact hb.2).mono fun b _ hb=>hb.1,(((hK.set rb 0 _ hW).set rb 1 _ hW).set rb 2 _ hW).set rb 3 _ hW,four_laid hB (.string M.op) (.int .i64 M.a) (.int .i64 M.b) (.slice M.s.A M.s.n M.s.c)⟩
theorem leaf_g {W w1:World} {g rb d:Nat} {op:ByteArray} {a b:Int} (hW:W.heap.size<=rb) (hB:Bk w1 rb 35 [.string ⟨#[]⟩,.int .i64 0,.int .i64 0,.slice none 0 0]) (hop:op.size<=8192) (ha:In64 a) (hb:In64 b) (hK:KSt W w1 g) :
 MarkG W g d (.returned (.agg #[.string op,.int .i64 a,.int .i64 b,.slice none 0 0])) ((((w1.setCell ⟨rb,0,none⟩ (.string op)).setCell ⟨rb,1,none⟩ (.int .i64 a)).setCell ⟨rb,2,none⟩ (.int .i64 b)).setCell ⟨rb,3,none⟩ (.slice none 0 0))∧Bk ((((w1.setCell ⟨rb,0,none⟩ (.string op)).setCell ⟨rb,1,none⟩ (.int .i64 a)).setCell ⟨rb,2,none⟩ (.int .i64 b)).setCell ⟨rb,3,none⟩ (.slice none 0 0)) rb 35 [.string op,.int .i64 a,.int .i64 b,.slice none 0 0]:=by
 have h:=lay_kst (M:=⟨op,a,b,[],⟨none,0,0⟩⟩) hW hB (.mk _ _ _ _ _ (.inl rfl) rfl (show(0:Nat)<=100000 by decide) hop ha hb fun k hk=>absurd hk List.not_mem_nil) hK;refine⟨⟨⟨op,a,b,[],⟨none,0,0⟩⟩,rfl,h.1,?_,.mk _ _ _ _ _ (by simp) (.inl rfl) (fun k hk=>absurd hk List.not_mem_nil),h.2.1⟩,h.2.2⟩;have:=szG_pos d;simpa[MkM.core,MkM.coreL,Mk.size,Mk.sizeL]using this
end
def usesB (op:ByteArray):Bool:=isTwo op || decide (op=sMore)
def namesOk (op:ByteArray) (ni nr:Nat) (a b:Int):Bool:=if op=sRule then decide (0<=a) && decide (a<nr) else if op=sItem then decide (0<=a) && decide (a<ni) else if op=sMore then decide (0<=b) && decide (b<ni) else true
def rangeK (op:ByteArray) (a b:Int):Bool:=if op=sKind then decide (0<=a) && decide (a<=10) else if op=sActor∨op=sAccount then decide (0<=a) && decide (a<=1073741824) else if isTwo op then decide (0<=a) && decide (a<=b) && decide (b<=1099511627776) else if op=sMore then decide (0<=a) && decide (a<=1099511627776) else true
def aloneE (ni nr:Nat) (op:ByteArray) (a b:Int) (k:Nat):Int :=
 if op=sAnd∨op=sOr then(if k<2∨a≠0∨b≠0 then 1 else 0)
 else if op=sNot then(if k≠1∨a≠0∨b≠0 then 1 else 0)
 else if isOp op=false∨0<k∨(b≠0∧usesB op=false) then 1
 else if namesOk op ni nr a b=false then 6
 else if rangeK op a b=false then 5 else 0
mutual
def Mk.check (ni nr:Nat):Mk->Int | .node op a b ks=>if aloneE ni nr op a b ks.length≠0 then aloneE ni nr op a b ks.length else Mk.checkL ni nr ks
def Mk.checkL (ni nr:Nat):List Mk->Int | []=>0 | k :: ks=>if k.check ni nr≠0 then k.check ni nr else Mk.checkL ni nr ks
end
def validM (ni nr:Nat) (m:Mk):Int:=if 64<m.size∨16<m.depth then 4 else m.check ni nr
theorem alone_ne4 (ni nr:Nat) (op:ByteArray) (a b:Int) (k:Nat):aloneE ni nr op a b k≠4:=by
 unfold aloneE
 repeat' split
 all_goals decide
theorem checkL_ne4 {ni nr:Nat} {ks:List Mk} (h:∀k∈ks,k.check ni nr≠4):Mk.checkL ni nr ks≠4:=by
 induction ks with
 | nil=>show(0:Int)≠4;decide
 | cons x xs ih =>
   simp only[Mk.checkL];split
   ·exact h x (List.mem_cons_self ..)
   ·exact ih fun k hk=>h k (List.mem_cons_of_mem _ hk)
theorem check_ne4 (ni nr:Nat):∀m:Mk,m.check ni nr≠4:=by
 intro m
 induction m using Mk.ind with
 | h op a b ks ih =>
   simp only[Mk.check];by_cases h:aloneE ni nr op a b ks.length≠0
   ·rw[if_pos h];exact alone_ne4 ni nr op a b ks.length
   ·rw[if_neg h];exact checkL_ne4 ih
theorem valid_4 (ni nr:Nat) (m:Mk):validM ni nr m=4 ↔ 64<m.size∨16<m.depth:=by
 unfold validM;by_cases h:64<m.size∨16<m.depth
 ·rw[if_pos h];exact⟨fun _=>h,fun _=>rfl⟩
 ·rw[if_neg h];exact⟨fun k=>absurd k (check_ne4 ni nr m),fun k=>absurd k h⟩
def NmOk (q:Nat) (f:Nat->Nat->Int->Int->Bool):Prop:=∀(op:ByteArray) (a b:Int) (A:Option Addr) (n c:Nat) (si sr st sx:Sl) (w:World),Calls Tryz.prog q #[.agg #[.slice si.A si.n si.c,.slice sr.A sr.n sr.c,.slice st.A st.n st.c,.slice sx.A sx.n sx.c],.agg #[.string op,.int .i64 a,.int .i64 b,.slice A n c]] w fun e w'=>e=.returned (.bool (f si.n sr.n a b))∧Below w.heap.size w w'
theorem nm_rule:NmOk 95 fun ni nr a b=>decide (0<=a) && decide (a<nr):=by
 intro op a b A n c si sr st sx w;have y:Below w.heap.size w ((w.alloc (.cells #[.slice si.A si.n si.c,.slice sr.A sr.n sr.c,.slice st.A st.n st.c,.slice sx.A sx.n sx.c] 28)).alloc (.cells #[.string op,.int .i64 a,.int .i64 b,.slice A n c] 49)):=((Below.refl _ _).alloc (Nat.le_refl _) _).alloc (by simp) _;cases q:decide (0<=a)
 ·have q':decide (0<=a)=false:=q;go_enter Tryz.func95,Tryz.ntmps95;go_wp2;go_ret;exact⟨by congr 2;rw[q];simp,y⟩
 ·have q':decide (0<=a)=true:=q;go_enter Tryz.func95,Tryz.ntmps95;go_wp2;go_ret;exact⟨by congr 2;rw[q];simp,y⟩
theorem nm_item:NmOk 100 fun ni nr a b=>decide (0<=a) && decide (a<ni):=by
 intro op a b A n c si sr st sx w;have y:Below w.heap.size w ((w.alloc (.cells #[.slice si.A si.n si.c,.slice sr.A sr.n sr.c,.slice st.A st.n st.c,.slice sx.A sx.n sx.c] 28)).alloc (.cells #[.string op,.int .i64 a,.int .i64 b,.slice A n c] 49)):=((Below.refl _ _).alloc (Nat.le_refl _) _).alloc (by simp) _;cases q:decide (0<=a)
 ·have q':decide (0<=a)=false:=q;go_enter Tryz.func100,Tryz.ntmps100;go_wp2;go_ret;exact⟨by congr 2;rw[q];simp,y⟩
 ·have q':decide (0<=a)=true:=q;go_enter Tryz.func100,Tryz.ntmps100;go_wp2;go_ret;exact⟨by congr 2;rw[q];simp,y⟩
theorem nm_more:NmOk 102 fun ni nr a b=>decide (0<=b) && decide (b<ni):=by
 intro op a b A n c si sr st sx w;have y:Below w.heap.size w ((w.alloc (.cells #[.slice si.A si.n si.c,.slice sr.A sr.n sr.c,.slice st.A st.n st.c,.slice sx.A sx.n sx.c] 28)).alloc (.cells #[.string op,.int .i64 a,.int .i64 b,.slice A n c] 49)):=((Below.refl _ _).alloc (Nat.le_refl _) _).alloc (by simp) _;cases q:decide (0<=b)
 ·have q':decide (0<=b)=false:=q;go_enter Tryz.func102,Tryz.ntmps102;go_wp2;go_ret;exact⟨by congr 2;rw[q];simp,y⟩
 ·have q':decide (0<=b)=true:=q;go_enter Tryz.func102,Tryz.ntmps102;go_wp2;go_ret;exact⟨by congr 2;rw[q];simp,y⟩
theorem nm_any:NmOk 85 fun _ _ _ _=>true:=by
 intro op a b A n c si sr st sx w;have y:Below w.heap.size w ((w.alloc (.cells #[.slice si.A si.n si.c,.slice sr.A sr.n sr.c,.slice st.A st.n st.c,.slice sx.A sx.n sx.c] 28)).alloc (.cells #[.string op,.int .i64 a,.int .i64 b,.slice A n c] 49)):=((Below.refl _ _).alloc (Nat.le_refl _) _).alloc (by simp) _;go_enter Tryz.func85,Tryz.ntmps85;go_wp2;go_ret;exact⟨rfl,by first | exact y | exact Below.refl _ _⟩
def EntersF (q:Nat):Prop:=∀(args:Array Value) (W:World),(callFunc q args).run Tryz.prog W=.ok (.enter q args) W
theorem en85:EntersF 85:=enter_of Tryz.func85 (by kernel_rfl) rfl
theorem en95:EntersF 95:=enter_of Tryz.func95 (by kernel_rfl) rfl
theorem en100:EntersF 100:=enter_of Tryz.func100 (by kernel_rfl) rfl
theorem en102:EntersF 102:=enter_of Tryz.func102 (by kernel_rfl) rfl
theorem en91:EntersF 91:=enter_of Tryz.func91 (by kernel_rfl) rfl
theorem en93:EntersF 93:=enter_of Tryz.func93 (by kernel_rfl) rfl
theorem en96:EntersF 96:=enter_of Tryz.func96 (by kernel_rfl) rfl
theorem en98:EntersF 98:=enter_of Tryz.func98 (by kernel_rfl) rfl
theorem en103:EntersF 103:=enter_of Tryz.func103 (by kernel_rfl) rfl
theorem conds_ok (b1 b2 b3:Nat) {op:ByteArray} (h:isOp op=true):∃c,condsM b1 b2 b3 op=some c∧c.u=usesB op∧NmOk c.nm (namesOk op)∧EntersF c.nm∧RgOk c.rg (rangeK op)∧EntersF c.rg:=by
 have e1:condsM b1 b2 b3 sKind=some ⟨false,90,none,85,91⟩:=by unfold condsM updC;rw[if_neg (by decide),if_neg (by decide),if_neg (by decide),if_neg (by decide),if_neg (by decide),if_neg (by decide),if_neg (by decide),if_pos rfl]
 have e2:condsM b1 b2 b3 sActor=some ⟨false,92,none,85,93⟩:=by unfold condsM updC;rw[if_neg (by decide),if_neg (by decide),if_neg (by decide),if_neg (by decide),if_neg (by decide),if_neg (by decide),if_pos rfl]
 have e3:condsM b1 b2 b3 sRule=some ⟨false,94,none,95,96⟩:=by unfold condsM updC;rw[if_neg (by decide),if_neg (by decide),if_neg (by decide),if_neg (by decide),if_neg (by decide),if_pos rfl]
 have e4:condsM b1 b2 b3 sTick=some ⟨true,97,none,85,98⟩:=by unfold condsM updC;rw[if_neg (by decide),if_neg (by decide),if_neg (by decide),if_neg (by decide),if_pos rfl]
 have e5:condsM b1 b2 b3 sItem=some ⟨false,87,some b1,100,96⟩:=by unfold condsM updC;rw[if_neg (by decide),if_neg (by decide),if_neg (by decide),if_pos rfl]
 have e6:condsM b1 b2 b3 sMore=some ⟨true,87,some b2,102,103⟩:=by unfold condsM updC;rw[if_neg (by decide),if_neg (by decide),if_pos rfl]
 have e7:condsM b1 b2 b3 sStep=some ⟨true,104,none,85,98⟩:=by unfold condsM updC;rw[if_neg (by decide),if_pos rfl]
 have e8:condsM b1 b2 b3 sAccount=some ⟨false,87,some b3,85,93⟩:=by unfold condsM updC;rw[if_pos rfl]
 unfold isOp at h;simp only[Bool.or_eq_true,decide_eq_true_eq]at h;rcases h with ((((((rfl|rfl)|rfl)|rfl)|rfl)|rfl)|rfl)|rfl
 ·exact⟨_,e1,by decide,nm_any,en85,rg_kind,en91⟩
 ·exact⟨_,e2,by decide,nm_any,en85,rg_account,en93⟩
 ·exact⟨_,e3,by decide,nm_rule,en95,rg_always,en96⟩
 ·exact⟨_,e4,by decide,nm_any,en85,rg_range,en98⟩
 ·exact⟨_,e5,(by decide:false=usesB sItem),nm_item,en100,rg_always,en96⟩
 ·exact⟨_,e6,(by decide:true=usesB sMore),nm_more,en102,rg_more,en103⟩
 ·exact⟨_,e7,by decide,nm_any,en85,rg_range,en98⟩
 ·exact⟨_,e8,(by decide:false=usesB sAccount),nm_any,en85,rg_account,en93⟩
theorem count_any (most:Nat) (hm1:1<=most) (hm:most<=1000):∀(d:Nat),d<=1000->∀(M:MkM) (w:World) (P:Nat->Prop),M.Ok w 49 P->Calls Tryz.prog 54 #[.agg #[.string M.op,.int .i64 M.a,.int .i64 M.b,.slice M.s.A M.s.n M.s.c],.int .i64 most,.int .i64 d] w fun e w'=>e=.returned (.int .i64 (cntP most d M.core:Nat))∧Below w.heap.size w w':=by
 intro d
 induction d with
 | zero =>
   intro _ M w P h;have y:Below w.heap.size w (w.alloc (.cells #[.string M.op,.int .i64 M.a,.int .i64 M.b,.slice M.s.A M.s.n M.s.c] 49)):=(Below.refl _ _).alloc (Nat.le_refl _) _;have e:cntP most 0 M.core=most+1:=rfl;have hw:IntKind.i64.wrap ((most:Int)+1)=((most+1:Nat):Int):=by simp[IntKind.wrap_i64];omega
   rw[e];clear h e;go_enter Tryz.func54,Tryz.ntmps54;go_wp2;go_ret;exact⟨by simp,y⟩
 | succ d ih =>
   intro hd M w P h;have y:Below w.heap.size w (w.alloc (.cells #[.string M.op,.int .i64 M.a,.int .i64 M.b,.slice M.s.A M.s.n M.s.c] 49)):=(Below.refl _ _).alloc (Nat.le_refl _) _;have Hn:=iH h.len;have H:=iH h;have hs:=h.small;have hT:cntP most (d+1) M.core=cntL (cntP most d) most ((M.ks.drop 0).map MkM.core) 1:=by
    rw[List.drop_zero,<- coreL_map];cases M;rfl
   have hw:IntKind.i64.wrap ((most:Int)+1)=((most+1:Nat):Int):=by simp[IntKind.wrap_i64];omega
   have hd1:IntKind.i64.wrap (((d+1:Nat):Int)-1)=(d:Int):=by simp[IntKind.wrap_i64];omega
   have hd0:(((d+1:Nat):Int) == 0)=false:=by simp;omega
   have HT:=iH hT;generalize cntP most (d+1) M.core=T at *;have HI:=iH (ih (by omega));obtain⟨mop,ma,mbb,l,s⟩:=M;dsimp only[MkM.ks,MkM.s,MkM.op,MkM.a,MkM.b]at *;obtain⟨A,n,c⟩:=s;dsimp only at *;clear h hT ih;generalize hdd:((d+1:Nat):Int)=D at *;go_enter Tryz.func54,Tryz.ntmps54;go_wp2_with fail;go_loopw [7,17] (fun v i wr=>∃k x:Nat,k<=n∧x<=most∧v=.int .i64 x∧i=.int .i64 k∧T=cntL (cntP most d) most ((l.drop k).map MkM.core) x∧Below w.heap.size w wr) (fun _ i _=>n-(intOf i).toNat)
   case atStart=>exact⟨0,1,Nat.zero_le _,hm1,rfl,rfl,HT.out,y⟩
   case round =>
    obtain⟨k,x,hk,hx,rfl,rfl,hR,hb⟩:=hrel;have HR:=iH hR;have HB:=iH hb;have hsz:=hb.size;by_cases hlt:k<n
    ·have hkl:k<l.length:=by have:=Hn.out;omega
     obtain⟨b,off,rfl,hbb,c0,c1,c2,c3⟩:=(H.out.bel hb).at_ k hkl;dsimp only[MkM.ks,MkM.s]at c0 c1 c2 c3;have hdr:l.drop k=l[k] :: l.drop (k+1):=List.drop_eq_getElem_cons hkl;have HR2:Hid (T=if most<x+cntP most d l[k].core then most+1 else cntL (cntP most d) most ((l.drop (k+1)).map MkM.core) (x+cntP most d l[k].core)):=by
      show T=_;rw[hR,hdr,List.map_cons];rfl
     have hmem:=List.getElem_mem hkl;have y2:Below wr.heap.size wr (wr.alloc (.cells #[.string l[k].op,.int .i64 l[k].a,.int .i64 l[k].b,.slice l[k].s.A l[k].s.n l[k].s.c] 49)):=(Below.refl _ _).alloc (Nat.le_refl _) _;have HC:=iH (HI.out l[k] _ P (((H.out.bel hb).each l[k] hmem).bel y2));have HB2:=iH (hb.trans (y2.mono hsz));have hcm:=(cntP_is most hm1 d l[k].core).2.2;clear hmem hdr hR HR hb y2;generalize l[k]=t at *;generalize cntP most d t.core=z at *;clear hkl;have hwz:IntKind.i64.wrap ((x:Int)+(z:Int))=((x+z:Nat):Int):=by simp[IntKind.wrap_i64];omega
     go_wp2_with fail;refine HC.out.mono ?_;rintro e w1 ⟨rfl,hb1⟩;have HB3:=iH (HB2.out.trans (hb1.mono HB2.out.size));clear HC hb1 HB2;by_cases hov:most<x+z
     ·have HF:Hid (T=most+1):=by show T=_;rw[HR2.out,if_pos hov]
      have hov':(most:Int)<((x+z:Nat):Int):=by omega
      clear HR2 hov;generalize hxz:((x+z:Nat):Int)=XZ at *;go_wp2;go_ret;exact⟨by rw[HF.out];rfl,HB3.out⟩
     ·have HF:Hid (T=cntL (cntP most d) most ((l.drop (k+1)).map MkM.core) (x+z)):=by show T=_;rw[HR2.out,if_neg hov]
      have hov':¬ (most:Int)<((x+z:Nat):Int):=by omega
      have hxm:x+z<=most:=by omega
      clear HR2 hov;have HXZ:Hid (((x+z:Nat):Int)=((x+z:Nat):Int)):=iH rfl;generalize hxz:x+z=xz at *;go_wp2;go_roundw
      case rel=>exact⟨k+1,xz,by omega,hxm,rfl,by go_num,HF.out,HB3.out⟩
      case measure=>simp[intOf];omega
    ·have hkn:k=n:=by omega
     have HF:Hid (T=x):=by
      show T=x;rw[hR,hkn,List.drop_of_length_le (by have:=Hn.out;omega)];rfl
     clear hR HR hkn;go_wp2;go_ret;exact⟨by rw[HF.out];rfl,HB.out⟩
end Go.Proofs.YtocodlpgaamblaaGreatDoor

/- plus. minus. times. Products, sums, signs of wide integers. weighted: the sum of products. -/
import Derived.Test.YtiecjoijnkghbaaGreatDoorY7
import Derived.Test.YtiecjoijnkghbaaGreatDoorY21
import Derived.Test.YtiecjoijnkghbaaGreatDoorY22
import Derived.Laws.CopyOwn
set_option linter.unusedVariables false
set_option linter.unusedSimpArgs false
set_option maxRecDepth 100000
set_option maxHeartbeats 4000000
open Go.RowKit
namespace Go.Proofs.YtiecjoijnkghbaaGreatDoor
theorem info386:(Tryz.prog.info? 386).map (fun i=>(i.zero,i.size,i.bytes))=some (some (.int .u32 0),1,4):=by kernel_rfl
theorem Bk.ne2 {w:World} {g g':Nat} {t t':TypeId} {xs ys:List Value} (h:Bk w g t xs) (k:Bk w g' t' ys) (hne:t≠t'):g≠g':=fun e=>by
 subst e;unfold Bk at h k;rw[h]at k;cases k;exact hne rfl
theorem wzero (n:Nat):wcells (List.replicate n 0)=List.replicate n (.int .u32 0):=by simp[wcells]
theorem make_words (n:Nat) (hn:n<=1000) (W:World) :
 (Instr.makeSlice 138 (.int .i64 (n:Int)) (.int .i64 (n:Int))).run Tryz.prog W=.ok (.slice (some ⟨W.heap.size,0,none⟩) n n) (W.alloc (.cells (wcells (List.replicate n 0)).toArray 386)):=by
 obtain⟨i,hi,hz0,hz1,hz2⟩:=info_parts info386;have h:=run_make (P:=Tryz.prog) W 138 386 i (.int .u32 0) Tryz.underlying138 hi hz0 .i64 .i64 n n (by omega) (by omega) (by rw[hz2];omega) (by omega);rw[hz1]at h;simp only[Int.toNat_natCast,Nat.mul_one]at h;have e:madeCells (Value.int .u32 0).cells n=(wcells (List.replicate n 0)).toArray:=by
  show madeCells #[.int .u32 0] n=_;rw[made_zero,wzero]
 rw[e]at h;exact h
theorem wcells_append (a b:List Nat):wcells (a ++ b)=wcells a ++ wcells b:=by simp[wcells]
theorem one_words (l:List Nat):∀v∈wcells l,v.oneCell'=true:=fun v hv=>by
 obtain⟨x,_,rfl⟩:=List.mem_map.1 hv;rfl
theorem run_copy_words {w:World} {g m cap n c:Nat} {A:Option Addr} {l:List Nat} (hW:WdV w A n c l) (hg:Bk w g 386 (wcells (List.replicate m 0))) (hn:n<=m) :
 ∃w',(Builtin.copy_ #[138,138] 3 #[.slice (some ⟨g,0,none⟩) m cap,.slice A n c]).run Tryz.prog w=.ok (goInt n) w'∧Bk w' g 386 (wcells (l ++ List.replicate (m-n) 0))∧w.grownBy w' (some g):=by
 have hsz:(Tryz.prog.info? 386).map (·.size)=some 1:=by obtain⟨i,hi,_,hz1,_⟩:=info_parts info386;rw[hi];simp[hz1]
 have hl:=hW.len;rcases Nat.eq_zero_or_pos n with rfl|hpos
 ·have:l=[]:=List.eq_nil_of_length_eq_zero hl.symm;subst this;exact⟨w,run_copy_none w 138 138 3 386 _ _ m cap 0 c Tryz.underlying138 hsz (by simp),by simpa using hg,⟨rfl,rfl,rfl,Nat.le_refl _,fun _ _ _=>rfl⟩⟩
 ·obtain⟨b,off,rfl,hb,hc⟩:=hW.row.row.at_ 0 (by rw[wcells_length];omega);have ea:∀j,(⟨b,off,none⟩:Addr).add j=⟨b,off+j,none⟩:=fun j=>by unfold Addr.add;split <;> simp_all
  have e2:(wcells l).length=n:=by rw[wcells_length];exact hl.symm
  have e:(wcells (List.replicate m 0)).drop (0+(wcells l).length)=wcells (List.replicate (m-n) 0):=by
   rw[e2,wzero,wzero];simp
  have hrun:=run_copy_row (P:=Tryz.prog) w 138 138 3 386 g 0 m cap ⟨b,off,none⟩ n c (wcells (List.replicate m 0)).toArray 386 (wcells l) Tryz.underlying138 hsz hg (by rw[e2];exact(Nat.min_eq_left hn).symm) (fun j v hv=>by rw[ea];exact hc j v hv) (by simp[e2,wcells_length];omega) (one_words l);rw[e2]at hrun;refine⟨_,hrun,?_,⟨rfl,rfl,rfl,by simp[World.setRow],fun k hk hne=>setRow_other w g k _ (fun e=>hne (by rw[e]))⟩⟩;have hs:=setRow_heap w g (wcells (List.replicate m 0)).toArray (wcells (l ++ List.replicate (m-n) 0)).toArray 386 (0,0) hg;rw[wcells_append,<- e,e2]at hs⊢;unfold Bk;simpa using hs
structure PlSt (W : World) (cb sb g cap : Nat) (S : List Nat) (c : Nat) : Prop where
 carry:Bk W cb 271 [.int .u64 (c:Int)]
 sl:Bk W sb 138 [.slice (some ⟨g,0,none⟩) S.length cap]
 row:Bk W g 386 (wcells S)
 cap:S.length<=cap
 small:S.length<=100000
theorem PlSt.below {W W':World} {cb sb g cap:Nat} {S:List Nat} {c:Nat} (h:PlSt W cb sb g cap S c) (hb:Below W.heap.size W W'):PlSt W' cb sb g cap S c:=⟨h.carry.below hb h.carry.lt,h.sl.below hb h.sl.lt,h.row.below hb h.row.lt,h.cap,h.small⟩
theorem PlSt.carryTo {W:World} {cb sb g cap:Nat} {S:List Nat} {c:Nat} (h:PlSt W cb sb g cap S c) (v:Nat):PlSt (W.setCell ⟨cb,0,none⟩ (.int .u64 (v:Int))).drew cb sb g cap S v:=by
 have n1:cb≠sb:=h.carry.ne2 h.sl (by decide);have n2:cb≠g:=h.carry.ne2 h.row (by decide);exact⟨(h.carry.set 0 _).drew,(h.sl.far (p:=⟨cb,0,none⟩) n1.symm _).drew,(h.row.far (p:=⟨cb,0,none⟩) n2.symm _).drew,h.cap,h.small⟩
theorem PlSt.done2 {W:World} {cb sb g cap:Nat} {S:List Nat} {c:Nat} (h:PlSt W cb sb g cap S c) {k y v:Nat} :
 PlSt ((W.setCell ⟨g,k,none⟩ (.int .u32 (y:Int))).setCell ⟨cb,0,none⟩ (.int .u64 (v:Int))) cb sb g cap (S.set k y) v:=by
 have n1:cb≠sb:=h.carry.ne2 h.sl (by decide);have n2:cb≠g:=h.carry.ne2 h.row (by decide);have n3:sb≠g:=h.sl.ne2 h.row (by decide);refine⟨((h.carry.far (p:=⟨g,k,none⟩) n2 _).set 0 _),?_,?_,by rw[List.length_set];exact h.cap,by rw[List.length_set];exact h.small⟩
 ·rw[List.length_set];exact(h.sl.far (p:=⟨g,k,none⟩) n3 _).far (p:=⟨cb,0,none⟩) n1.symm _
 ·rw[<- wcells_set];exact(h.row.set k _).far (p:=⟨cb,0,none⟩) n2.symm _
def PlQ (W:World) (cb sb g cap:Nat) (S:List Nat) (k x c:Nat) (e:Ending) (w':World):Prop :=
 e=.returned (.tuple #[])∧(∀(hk:k<S.length),PlSt w' cb sb g cap (S.set k ((c+S[k]+x) % BW)) ((c+S[k]+x) / BW))∧∀B V,B<=cb->B<=g->Below B V W->Below B V w'
theorem plusF_any {W:World} {cb sb g cap:Nat} {S:List Nat} {c:Nat} (h:PlSt W cb sb g cap S c) (k x:Nat) (hk:k<S.length) (hs:S[k]<BW) (hx:x<BW) (hc:c<=1) :
 Calls Tryz.prog 381 #[.int .i64 (k:Int),.int .u32 (x:Int),.pointer (some ⟨cb,0,none⟩),.pointer (some ⟨sb,0,none⟩)] W (PlQ W cb sb g cap S k x c):=by
 have H:=iH h;have lc:=h.carry.lt;have ls:=h.sl.lt;have lg:=h.row.lt;have c0:=h.carry.k0;have f0:=h.carry.frozen 0;have s0:=h.sl.k0;have g0:W.cell? ⟨g,k,none⟩=some (.int .u32 (S[k]:Int)):=(h.row.cell k).trans (wcells_get hk);have fg:=h.row.frozen k;have n1:cb≠sb:=h.carry.ne2 h.sl (by decide);have n2:cb≠g:=h.carry.ne2 h.row (by decide);have n3:sb≠g:=h.sl.ne2 h.row (by decide);have hkn:k<S.length:=hk;obtain⟨t,ht⟩:∃t:Nat,t=c+S[k]+x:=⟨_,rfl⟩;have htl:t<8589934592:=by unfold BW at *;omega
 have H1:=iH (H.out.carryTo t);have HB1:Hid (∀B V,B<=cb->Below B V W->Below B V (W.setCell ⟨cb,0,none⟩ (.int .u64 (t:Int))).drew):=fun B V h1 hb=>(hb.setCell (p:=⟨cb,0,none⟩) h1 _).drew
 have HQ:Hid (∀W1:World,PlSt W1 cb sb g cap S t->(∀B V,B<=cb->Below B V W->Below B V W1)->PlQ W cb sb g cap S k x c (.returned (.tuple #[])) ((W1.setCell ⟨g,k,none⟩ (.int .u32 ((t:Int) % 4294967296))).setCell ⟨cb,0,none⟩ (.int .u64 ((t:Int) / 4294967296)))):=fun W1 h1 h2=>by
  rw[show(t:Int) % 4294967296=((t % BW:Nat):Int) by unfold BW;omega,show(t:Int) / 4294967296=((t / BW:Nat):Int) by unfold BW;omega];subst ht;exact⟨rfl,fun _=>h1.done2,fun B V hc hg hb=>((h2 B V hc hb).setCell (p:=⟨g,k,none⟩) hg _).setCell (p:=⟨cb,0,none⟩) hc _⟩
 have HT:=iH ht;have wa:IntKind.u64.wrap (S[k]:Int)=(S[k]:Int):=by rw[IntKind.wrap_u64];unfold BW at *;omega
 have wb:IntKind.u64.wrap (x:Int)=(x:Int):=by rw[IntKind.wrap_u64];unfold BW at *;omega
 have wc:IntKind.u64.wrap ((S[k]:Int)+(x:Int))=(S[k]:Int)+(x:Int):=by rw[IntKind.wrap_u64];unfold BW at *;omega
 have wd:IntKind.u64.wrap ((c:Int)+((S[k]:Int)+(x:Int)))=(t:Int):=by rw[IntKind.wrap_u64,ht];unfold BW at *;omega
 clear ht;generalize S[k]=s at *;clear hs hx hc h;go_enter Tryz.func381,Tryz.ntmps381;go_wp2_with fail
 go_region
 clear wa wb wc wd c0 f0 s0 g0 fg;have HF:=iH (HQ.out _ H1.out HB1.out);clear HQ HB1 H;generalize(W.setCell ⟨cb,0,none⟩ (.int .u64 (t:Int))).drew=W1 at *;have lc:=H1.out.carry.lt;have ls:=H1.out.sl.lt;have lg:=H1.out.row.lt;have c0:=H1.out.carry.k0;have f0:=H1.out.carry.frozen 0;have s0:=H1.out.sl.k0;have g0:W1.cell? ⟨g,k,none⟩=some (.int .u32 (S[k]:Int)):=(H1.out.row.cell k).trans (wcells_get hk);have fg:=H1.out.row.frozen k;clear H1;go_wp2
 go_end0
 exact HF.out
def WrdQ (w:World) (v:Nat) (e:Ending) (w':World):Prop:=∃A n c l,e=.returned (.slice A n c)∧WdV w' A n c l∧Dig l∧Tight l∧valL l=v∧Below w.heap.size w w'
theorem plus_fin {w W:World} {a b S:List Nat} {k:Nat} (hp:PlusAt a b S k 0) (hb:Below w.heap.size w W) (hk:b.length<=k) {v:Nat} (hv:valL a+valL b=v) {e:Ending} {w':World} (ht:TrimQ W S e w'):WrdQ w v e w':=by
 obtain⟨A,n,c,l,rfl,rfl,h1,h2,h3,h4⟩:=ht;exact⟨A,n,c,l,rfl,h1,h4 hp.dig,h2,(h3.trans (hp.done hk)).trans hv,hb⟩
theorem PlSt.wd {W:World} {cb sb g cap:Nat} {S:List Nat} {c:Nat} (h:PlSt W cb sb g cap S c):WdV W (some ⟨g,0,none⟩) S.length cap S:=⟨.inr ⟨g,0,_,_,rfl,h.row,fun j u hu=>by rw[Nat.zero_add];simpa using hu⟩,rfl,h.cap,h.small⟩
theorem plus_any {w:World} {A A':Option Addr} {n n' c c':Nat} {a b:List Nat} (h:WdV w A n c a) (h':WdV w A' n' c' b) (ha:Dig a) (hb:Dig b) (hn:n<=100) (hn':n'<=100) :
 Calls Tryz.prog 319 #[.slice A n c,.slice A' n' c'] w (WrdQ w (valL a+valL b)):=by
 obtain⟨X,x,cx,Y,y,cy,p,q,hX,hY,hp,hq,hxy,hv,hsw⟩:∃(X:Option Addr) (x cx:Nat) (Y:Option Addr) (y cy:Nat) (p q:List Nat),WdV w X x cx p∧WdV w Y y cy q∧Dig p∧Dig q∧y<=x∧valL p+valL q=valL a+valL b ∧
  ((n<n'∧X=A'∧x=n'∧cx=c'∧Y=A∧y=n∧cy=c)∨(¬ n<n'∧X=A∧x=n∧cx=c∧Y=A'∧y=n'∧cy=c')):=by
  by_cases hl:n<n'
  ·exact⟨A',n',c',A,n,c,b,a,h',h,hb,ha,by omega,by omega,.inl ⟨hl,rfl,rfl,rfl,rfl,rfl,rfl⟩⟩
  ·exact⟨A,n,c,A',n',c',a,b,h,h',ha,hb,by omega,rfl,.inr ⟨hl,rfl,rfl,rfl,rfl,rfl,rfl⟩⟩
 have hx:x<=100:=by rcases hsw with h | h <;> omega
 have HX:=iH hX;have HY:=iH hY;have HP:=iH hp;have HQ:=iH hq;have HV:=iH hv;clear h h' ha hb hX hY hp hq hv;have hm:∀W:World,(Instr.makeSlice 138 (.int .i64 ((x:Int)+1)) (.int .i64 ((x:Int)+1))).run Tryz.prog W=.ok (.slice (some ⟨W.heap.size,0,none⟩) (x+1) (x+1)) (W.alloc (.cells (wcells (List.replicate (x+1) 0)).toArray 386)):=make_words (x+1) (by omega);go_enter Tryz.func319,Tryz.ntmps319;go_upto_if 15 with fail;go_cut [0,1] (fun u v wx=>u=.slice X x cx∧v=.slice Y y cy∧wx=w)
 case first =>
  rcases hsw with ⟨hl,rfl,rfl,rfl,rfl,rfl,rfl⟩|⟨hl,rfl,rfl,rfl,rfl,rfl,rfl⟩
  ·have d0:decide ((y:Int)<(x:Int))=true:=by simp;omega
   clear HX HY hm;go_wp2;go_meet;exact⟨rfl,rfl,rfl⟩
  ·have d0:decide ((x:Int)<(y:Int))=false:=by simp;omega
   clear HX HY hm;go_wp2;go_meet;exact⟨rfl,rfl,rfl⟩
 case rest =>
  obtain⟨rfl,rfl,rfl⟩:=hcut;clear hsw;have X1:=((Below.refl wc.heap.size wc).alloc (Nat.le_refl _) (.cells (wcells (List.replicate (x+1) 0)).toArray 386)).alloc (by simp) (.cells #[.slice (some ⟨wc.heap.size,0,none⟩) (x+1) (x+1)] 138);obtain⟨w1,hrun,hB,hg⟩:=run_copy_words (cap:=x+1) (HX.out.below X1) ((Bk.new wc 386 (wcells (List.replicate (x+1) 0))).alloc (.cells #[.slice (some ⟨wc.heap.size,0,none⟩) (x+1) (x+1)] 138)) (Nat.le_succ x);have HB:=iH hB;have kS:Bk w1 (wc.heap.size+1) 138 [.slice (some ⟨wc.heap.size,0,none⟩) (x+1) (x+1)]:=by
   have h:=Bk.new (wc.alloc (.cells (wcells (List.replicate (x+1) 0)).toArray 386)) 138 [.slice (some ⟨wc.heap.size,0,none⟩) (x+1) (x+1)];rw[World.size_alloc]at h;exact h.grown hg (by simp)
  have HS:=iH kS;have HX2:Hid (Below wc.heap.size wc w1):=X1.grown hg X1.size (fun k e=>by cases e;exact Nat.le_refl _);clear X1 hB hg kS;go_upto_region 5 with fail;clear hm hrun;obtain⟨B,hBe⟩:∃B,B=wc.heap.size:=⟨_,rfl⟩;have hS0:PlSt (w1.alloc (.cells #[.int .u64 0] 271)) w1.heap.size (wc.heap.size+1) wc.heap.size (x+1) (p ++ [0]) 0:=by
   have e:x+1-x=1:=by omega
   have hl:(p ++ [0]).length=x+1:=by simp[HX.out.len]
   refine⟨Bk.new w1 271 [.int .u64 0],?_,?_,by omega,by omega⟩
   ·rw[hl];exact HS.out.alloc _
   ·have:=HB.out;rw[e]at this;exact this.alloc _
  have hy100:y<=100:=by omega
  have hb0:=HX2.out.alloc HX2.out.size (.cells #[.int .u64 0] 271);have hsz1:=HX2.out.size;have HS0:=iH hS0;have HB0:=iH hb0;have Hcb:Hid (wc.heap.size<=w1.heap.size):=hsz1;clear hS0 hb0 HS HB hsz1;go_wp2_with fail;have HBe:=iH hBe;rw[<- hBe]at HS0 HB0 Hcb⊢;clear hBe HX2;generalize w1.heap.size=cb at *;go_loopw [28] (fun i wr=>∃k S c,k<=y∧i=.int .i64 (k:Int)∧PlSt wr cb (B+1) B (x+1) S c∧PlusAt p q S k c∧Below B wc wr) (fun i _=>y-(intOf i).toNat)
  case atStart=>exact⟨0,p ++ [0],0,Nat.zero_le _,rfl,HS0.out,.start HP.out,HB0.out⟩
  case round =>
   obtain⟨k,S,c0,hk,rfl,hSt,hPl,hbe⟩:=hrel;have HSt:=iH hSt;have HPl:=iH hPl;have HB1:=iH hbe;by_cases hlt:k<y
   ·have hkq:k<q.length:=by have:=HY.out.len;omega
    have hkS:k<S.length:=by have:=HPl.out.len;have:=HX.out.len;omega
    obtain⟨g,off,rfl,hg,d0⟩:=(HY.out.below (by rw[<- HBe.out];exact hbe)).at_ k hkq;have KF:=iH (plusF_any HSt.out k q[k] hkS (HPl.out.dig.get k hkS) (HQ.out.get k hkq) HPl.out.c1);have HN:=iH (HPl.out.next HQ.out hkq hkS);generalize q[k]=z at *;clear hSt hPl hbe hkq HS0 HB0;go_wp2_with fail;(with_reducible refine KF.out.mono ?_);rintro e w2 ⟨rfl,h1,h2⟩;have HSt2:=iH (h1 hkS);have HB2:=iH (h2 B wc Hcb.out (Nat.le_refl _) HB1.out);clear h1 h2 KF HB1 HSt hg d0;go_wp2_with fail;go_roundw
    case rel=>exact⟨k+1,_,_,by omega,by go_num,HSt2.out,HN.out,HB2.out⟩
    case measure=>simp[intOf];omega
   ·have hky:k=y:=by omega
    subst hky;clear hSt hPl hbe HS0 HB0 hlt;go_wp2_with fail;go_loopw [10] (fun i wr=>∃j S c,k<=j∧j<=x+1∧i=.int .i64 (j:Int)∧PlSt wr cb (B+1) B (x+1) S c∧PlusAt p q S j c∧Below B wc wr) (fun i _=>x+2-(intOf i).toNat)
    case atStart=>exact⟨k,S,c0,Nat.le_refl _,by omega,rfl,HSt.out,HPl.out,HB1.out⟩
    case round =>
     obtain⟨j,T,c1,hj,hjx,rfl,hSt,hPl,hbe⟩:=hrel;have HSt:=iH hSt;have HPl:=iH hPl;have HB1:=iH hbe;have hjq:q.length<=j:=by have:=HY.out.len;omega
     have c0:=hSt.carry.k0;have lc:=hSt.carry.lt;rcases Nat.eq_zero_or_pos c1 with rfl|hc1
     ·have hsl:=hSt.sl.k0;have ls:=hSt.sl.lt;have KT:=iH (trim_any hSt.wd);have HF:=iH (fun(e:Ending) (w':World) (ht:TrimQ wr T e w')=>plus_fin HPl.out (by rw[<- HBe.out];exact HB1.out) hjq HV.out ht);clear hSt hPl hbe hjq;go_wp2_with fail;(with_reducible refine KT.out.mono ?_);rintro e w2 ht;have HR:=iH (HF.out _ _ ht);obtain⟨A1,n1,c2,l1,rfl,rfl,-⟩:=ht;clear HF KT;go_wp2;go_ret;exact HR.out
     ·have hjS:j<T.length:=HPl.out.room HP.out HQ.out (by have:=HX.out.len;have:=HY.out.len;omega) hc1 (by have:=HX.out.len;omega);have KF:Hid (Calls Tryz.prog 381 #[.int .i64 (j:Int),.int .u32 0,.pointer (some ⟨cb,0,none⟩),.pointer (some ⟨B+1,0,none⟩)] wr (PlQ wr cb (B+1) B (x+1) T j 0 c1)):=plusF_any HSt.out j 0 hjS (HPl.out.dig.get j hjS) (by decide) HPl.out.c1;have HN:=iH (HPl.out.carry hjq hjS);have hjl:j<x+1:=by have:=HPl.out.len;have:=HX.out.len;omega
      have d1:decide ((0:Int)<(c1:Int))=true:=by simp;omega
      clear hSt hPl hbe hjq;go_wp2_with fail;(with_reducible refine KF.out.mono ?_);rintro e w2 ⟨rfl,h1,h2⟩;have HSt2:=iH (h1 hjS);have HB2:=iH (h2 B wc Hcb.out (Nat.le_refl _) HB1.out);clear h1 h2 KF HB1 HSt c0 lc d1;go_wp2_with fail;go_roundw
      case rel=>exact⟨j+1,_,_,by omega,by omega,by go_num,HSt2.out,HN.out,HB2.out⟩
      case measure=>simp[intOf];omega
theorem wclone_any {w:World} {A:Option Addr} {n c:Nat} {l:List Nat} (h:WdV w A n c l) (hn:n<=1000):Calls Tryz.prog 382 #[.slice A n c] w fun e w'=>e=.returned (.slice (some ⟨w.heap.size,0,none⟩) n n)∧Bk w' w.heap.size 386 (wcells l)∧Below w.heap.size w w':=by
 have hm:=make_words n hn;have X1:Below w.heap.size w (w.alloc (.cells (wcells (List.replicate n 0)).toArray 386)):=(Below.refl _ _).alloc (Nat.le_refl _) _;obtain⟨w1,hrun,hB,hg⟩:=run_copy_words (cap:=n) (h.below X1) (Bk.new w 386 (wcells (List.replicate n 0))) (Nat.le_refl n);have HB:Hid (Bk w1 w.heap.size 386 (wcells l)):=by
  show Bk _ _ _ _;simpa using hB
 have HL:Hid (Below w.heap.size w w1):=X1.grown hg X1.size (fun k e=>by cases e;exact Nat.le_refl _);clear hB hg X1 h;go_enter Tryz.func382,Tryz.ntmps382;go_wp2;go_ret;exact⟨rfl,HB.out,HL.out⟩
def MiQ (W:World) (cb sb g cap:Nat) (S:List Nat) (k x c:Nat) (e:Ending) (w':World):Prop :=
 e=.returned (.tuple #[])∧(∀(hk:k<S.length),PlSt w' cb sb g cap (S.set k (lowD S[k] x c)) (borD S[k] x c))∧∀B V,B<=cb->B<=g->Below B V W->Below B V w'
theorem minusF_any {W:World} {cb sb g cap:Nat} {S:List Nat} {c:Nat} (h:PlSt W cb sb g cap S c) (k x:Nat) (hk:k<S.length) (hs:S[k]<BW) (hx:x<BW) (hc:c<=1) :
 Calls Tryz.prog 383 #[.int .i64 (k:Int),.int .u32 (x:Int),.pointer (some ⟨sb,0,none⟩),.pointer (some ⟨cb,0,none⟩)] W (MiQ W cb sb g cap S k x c):=by
 have H:=iH h;have lc:=h.carry.lt;have ls:=h.sl.lt;have lg:=h.row.lt;have c0:=h.carry.k0;have f0:=h.carry.frozen 0;have s0:=h.sl.k0;have g0:W.cell? ⟨g,k,none⟩=some (.int .u32 (S[k]:Int)):=(h.row.cell k).trans (wcells_get hk);have fg:=h.row.frozen k;have n1:cb≠sb:=h.carry.ne2 h.sl (by decide);have n2:cb≠g:=h.carry.ne2 h.row (by decide);have n3:sb≠g:=h.sl.ne2 h.row (by decide);have hkn:k<S.length:=hk;have HQ:Hid (∀y v:Nat,y=lowD S[k] x c->v=borD S[k] x c->MiQ W cb sb g cap S k x c (.returned (.tuple #[])) ((W.setCell ⟨g,k,none⟩ (.int .u32 (y:Int))).setCell ⟨cb,0,none⟩ (.int .u64 (v:Int)))):=fun y v ey ev=>by
  subst ey ev;exact⟨rfl,fun _=>H.out.done2,fun B V h1 h2 hb=>(hb.setCell (p:=⟨g,k,none⟩) h2 _).setCell (p:=⟨cb,0,none⟩) h1 _⟩
 have ew:∀s:Nat,s<BW->IntKind.u64.wrap (IntKind.u64.wrap ((s:Int)-(x:Int))-(c:Int))=(if s<x+c then(s:Int)-x-c+18446744073709551616 else(s:Int)-x-c):=fun s hs=>by
  rw[IntKind.wrap_u64,IntKind.wrap_u64];unfold BW at *;split <;> omega
 obtain⟨d,hd⟩:∃d:Nat,(d:Int)=(if S[k]<x+c then(S[k]:Int)-x-c+18446744073709551616 else(S[k]:Int)-x-c):=⟨(if S[k]<x+c then(S[k]:Int)-x-c+18446744073709551616 else(S[k]:Int)-x-c).toNat,by split <;> (unfold BW at *;omega)⟩;have hdl:(d:Int) % 4294967296=((lowD S[k] x c:Nat):Int):=by rw[hd];unfold lowD BW at *;split <;> omega
 have hdh:(d:Int) / 9223372036854775808=((borD S[k] x c:Nat):Int):=by rw[hd];unfold borD BW at *;split <;> omega
 have wa:IntKind.u64.wrap (S[k]:Int)=(S[k]:Int):=by rw[IntKind.wrap_u64];unfold BW at *;omega
 have wb:IntKind.u64.wrap (x:Int)=(x:Int):=by rw[IntKind.wrap_u64];unfold BW at *;omega
 have wd:IntKind.u64.wrap (IntKind.u64.wrap ((S[k]:Int)-(x:Int))-(c:Int))=(d:Int):=by rw[ew _ hs,hd]
 have HF:=iH (fun(W1:World) (h1:PlSt W1 cb sb g cap S c) (h2:∀B V,Below B V W->Below B V W1)=>(show MiQ W cb sb g cap S k x c (.returned (.tuple #[])) ((W1.setCell ⟨g,k,none⟩ (.int .u32 ((d:Int) % 4294967296))).setCell ⟨cb,0,none⟩ (.int .u64 ((d:Int) / 9223372036854775808))) from by
  rw[hdl,hdh]
  exact⟨rfl,fun _=>h1.done2,fun B V hc hg hb=>((h2 B V hb).setCell (p:=⟨g,k,none⟩) hg _).setCell (p:=⟨cb,0,none⟩) hc _⟩))
 clear hd hdl hdh HQ ew;generalize S[k]=s at *;clear hs hx hc h;go_enter Tryz.func383,Tryz.ntmps383;go_wp2_with fail;go_quiet (fail);have H1:=iH (H.out.below (bel_drewN (Below.refl _ _) nq));have HF1:=iH (HF.out _ H1.out (fun B V hb=>bel_drewN hb nq));clear c0 f0 s0 g0 fg lc ls lg HF H wa wb wd;generalize W.drewN nq=W1 at *;have lc:=H1.out.carry.lt;have ls:=H1.out.sl.lt;have lg:=H1.out.row.lt;have f0:=H1.out.carry.frozen 0;have c0:=H1.out.carry.k0;have s0:=H1.out.sl.k0;have g0:W1.cell? ⟨g,k,none⟩=some (.int .u32 (S[k]:Int)):=(H1.out.row.cell k).trans (wcells_get hk);have fg:=H1.out.row.frozen k;clear H1;go_wp2
 go_end0
 exact HF1.out
theorem minus_fin {w W:World} {a b S:List Nat} {k:Nat} (hp:MinusAt a b S k 0) (hb:Below w.heap.size w W) (hk:b.length<=k) {e:Ending} {w':World} (ht:TrimQ W S e w'):WrdQ w (valL a-valL b) e w':=by
 obtain⟨A,n,c,l,rfl,rfl,h1,h2,h3,h4⟩:=ht;exact⟨A,n,c,l,rfl,h1,h4 hp.dig,h2,h3.trans (hp.done hk),hb⟩
theorem minus_any {w:World} {A A':Option Addr} {n n' c c':Nat} {a b:List Nat} (h:WdV w A n c a) (h':WdV w A' n' c' b) (ha:Dig a) (hb:Dig b) (tb:Tight b) (hle:valL b<=valL a) (hn:n<=100) :
 Calls Tryz.prog 320 #[.slice A n c,.slice A' n' c'] w (WrdQ w (valL a-valL b)):=by
 have hlen:b.length<=a.length:=tb.short (Nat.lt_of_le_of_lt hle (valL_lt ha));have hnn:n'<=n:=by rw[h.len,h'.len];exact hlen
 have HX:=iH h;have HY:=iH h';have HP:=iH ha;have HQ:=iH hb;have HL:=iH hle;have KC:=iH (wclone_any h (by omega));clear h h' ha hb hle tb;go_enter Tryz.func320,Tryz.ntmps320;go_wp2_with fail;(with_reducible refine KC.out.mono ?_);rintro e w1 ⟨rfl,hB,hbe⟩;obtain⟨B,hBe⟩:∃B,B=w.heap.size:=⟨_,rfl⟩;have hS0:PlSt ((w1.alloc (.cells #[.slice (some ⟨w.heap.size,0,none⟩) n n] 138)).alloc (.cells #[.int .u64 0] 271)) (w1.heap.size+1) w1.heap.size w.heap.size n a 0:=by
  have hl:a.length=n:=HX.out.len.symm;have k2:=Bk.new (w1.alloc (.cells #[.slice (some ⟨w.heap.size,0,none⟩) n n] 138)) 271 [.int .u64 0];rw[World.size_alloc]at k2;refine⟨k2,?_,(hB.alloc _).alloc _,by omega,by omega⟩;rw[hl];exact(Bk.new w1 138 [.slice (some ⟨w.heap.size,0,none⟩) n n]).alloc _
 have hb0:=(hbe.alloc hbe.size (.cells #[.slice (some ⟨w.heap.size,0,none⟩) n n] 138)).alloc (by have:=hbe.size;simp;omega) (.cells #[.int .u64 0] 271);have HS0:=iH hS0;have HB0:=iH hb0;have Hcb:Hid (w.heap.size<=w1.heap.size+1):=by show _<=_;have:=hbe.size;omega
 clear hS0 hb0 hB hbe KC;go_upto_region 3 with fail;have HBe:=iH hBe;obtain⟨cb,hcb⟩:∃cb,cb=w1.heap.size+1:=⟨_,rfl⟩;rw[<- hcb]at HS0 Hcb;(try rw[<- hcb]);obtain⟨W0,hW0⟩:∃W0,W0=(w1.alloc (.cells #[.slice (some ⟨w.heap.size,0,none⟩) n n] 138)).alloc (.cells #[.int .u64 0] 271):=⟨_,rfl⟩;rw[<- hW0]at HS0 HB0⊢;rw[<- hBe]at HS0 HB0 Hcb;(try rw[<- hBe]);clear hBe hW0 hcb;generalize w1.heap.size=sb at *;go_wp2_with fail;go_loopw [16] (fun i wr=>∃k S c,k<=n'∧i=.int .i64 (k:Int)∧PlSt wr cb sb B n S c∧MinusAt a b S k c∧Below B w wr) (fun i _=>n'-(intOf i).toNat)
 case atStart=>exact⟨0,a,0,Nat.zero_le _,rfl,HS0.out,.start HP.out,HB0.out⟩
 case round =>
  obtain⟨k,S,c0,hk,rfl,hSt,hPl,hbe⟩:=hrel;have HSt:=iH hSt;have HPl:=iH hPl;have HB1:=iH hbe;by_cases hlt:k<n'
  ·have hkq:k<b.length:=by have:=HY.out.len;omega
   have hkS:k<S.length:=by have:=HPl.out.len;have:=HX.out.len;omega
   obtain⟨g,off,rfl,hg,d0⟩:=(HY.out.below (by rw[<- HBe.out];exact hbe)).at_ k hkq;have KF:=iH (minusF_any HSt.out k b[k] hkS (HPl.out.dig.get k hkS) (HQ.out.get k hkq) HPl.out.c1);have HN:=iH (HPl.out.next HQ.out hkq hkS);generalize b[k]=z at *;clear hSt hPl hbe hkq HS0 HB0 hlen;go_wp2_with fail;(with_reducible refine KF.out.mono ?_);rintro e w2 ⟨rfl,h1,h2⟩;have HSt2:=iH (h1 hkS);have HB2:=iH (h2 B w Hcb.out (Nat.le_refl _) HB1.out);clear h1 h2 KF HB1 HSt hg d0;go_wp2_with fail;go_roundw
   case rel=>exact⟨k+1,_,_,by omega,by go_num,HSt2.out,HN.out,HB2.out⟩
   case measure=>simp[intOf];omega
  ·have hky:k=n':=by omega
   subst hky;clear hSt hPl hbe HS0 HB0 hlt hlen;go_wp2_with fail;go_loopw [10] (fun i wr=>∃j S c,k<=j∧j<=n∧i=.int .i64 (j:Int)∧PlSt wr cb sb B n S c∧MinusAt a b S j c∧Below B w wr) (fun i _=>n+1-(intOf i).toNat)
   case atStart=>exact⟨k,S,c0,Nat.le_refl _,by omega,rfl,HSt.out,HPl.out,HB1.out⟩
   case round =>
    obtain⟨j,T,c1,hj,hjx,rfl,hSt,hPl,hbe⟩:=hrel;have HSt:=iH hSt;have HPl:=iH hPl;have HB1:=iH hbe;have hjq:b.length<=j:=by have:=HY.out.len;omega
    have c0:=hSt.carry.k0;have lc:=hSt.carry.lt;rcases Nat.eq_zero_or_pos c1 with rfl|hc1
    ·have hsl:=hSt.sl.k0;have ls:=hSt.sl.lt;have KT:=iH (trim_any hSt.wd);have HF:=iH (fun(e:Ending) (w':World) (ht:TrimQ wr T e w')=>minus_fin HPl.out (by rw[<- HBe.out];exact HB1.out) hjq ht);clear hSt hPl hbe hjq;go_wp2_with fail;(with_reducible refine KT.out.mono ?_);rintro e w2 ht;have HR:=iH (HF.out _ _ ht);obtain⟨A1,n1,c2,l1,rfl,rfl,-⟩:=ht;clear HF KT;go_wp2;go_ret;exact HR.out
    ·have hjS:j<T.length:=HPl.out.room HL.out hc1 (by have:=HX.out.len;omega) hjq;have KF:Hid (Calls Tryz.prog 383 #[.int .i64 (j:Int),.int .u32 0,.pointer (some ⟨sb,0,none⟩),.pointer (some ⟨cb,0,none⟩)] wr (MiQ wr cb sb B n T j 0 c1)):=minusF_any HSt.out j 0 hjS (HPl.out.dig.get j hjS) (by decide) HPl.out.c1;have HN:=iH (HPl.out.carry hjq hjS);have hjl:j<n:=by have:=HPl.out.len;have:=HX.out.len;omega
     have d1:decide ((0:Int)<(c1:Int))=true:=by simp;omega
     clear hSt hPl hbe hjq;go_wp2_with fail;(with_reducible refine KF.out.mono ?_);rintro e w2 ⟨rfl,h1,h2⟩;have HSt2:=iH (h1 hjS);have HB2:=iH (h2 B w Hcb.out (Nat.le_refl _) HB1.out);clear h1 h2 KF HB1 HSt c0 lc d1;go_wp2_with fail;go_roundw
     case rel=>exact⟨j+1,_,_,by omega,by omega,by go_num,HSt2.out,HN.out,HB2.out⟩
     case measure=>simp[intOf];omega
theorem run_mid (w:World) (g m i j:Nat) (h1:i<j) (h2:j<=m):(Instr.slice 138 (.slice (some ⟨g,0,none⟩) m m) (some (.int .i64 (i:Int))) (some (.int .i64 (j:Int))) none).run Tryz.prog w=.ok (.slice (some ⟨g,i,none⟩) (j-i) (m-i)) w:=by
 simp[Instr.slice,Instr.sliceBounds,Instr.sliceBound,asIntOf,run_underlying Tryz.underlying138,go_sem];rw[if_pos h2,if_pos (Nat.le_of_lt h1),if_neg (by omega)]
theorem times_fin {w W:World} {a b P:List Nat} (hp:TimesAt a b P a.length) (hb:Below w.heap.size w W) {e:Ending} {w':World} (ht:TrimQ W P e w'):WrdQ w (valL a*valL b) e w':=by
 obtain⟨A,n,c,l,rfl,rfl,h1,h2,h3,h4⟩:=ht;exact⟨A,n,c,l,rfl,h1,h4 hp.dig,h2,h3.trans hp.done,hb⟩
theorem times_any {w : World} {A A' : Option Addr} {n n' c c' : Nat} {a b : List Nat} (h : WdV w A n c a) (h' : WdV w A' n' c' b) (ha : Dig a) (hb : Dig b) (hn : n <= 100) (hn' : n' <= 100) :
 Calls Tryz.prog 316 #[.slice A n c,.slice A' n' c'] w (WrdQ w (valL a*valL b)):=by
 have H:=iH h;have H':=iH h';have Hn:=iH h.len;have Hn':=iH h'.len;clear h h';by_cases h0:n=0∨n'=0
 ·have HQ:Hid (WrdQ w (valL a*valL b) (.returned (.slice none 0 0)) w):=⟨none,0,0,[],rfl,⟨.inl rfl,rfl,Nat.le_refl _,by omega⟩,fun x hx=>by simp at hx,fun hh=>absurd rfl hh,by
   rcases h0 with h0|h0
   ·have:a=[]:=List.eq_nil_of_length_eq_zero (by rw[<- Hn.out];exact h0)
    subst this;simp[valL]
   ·have:b=[]:=List.eq_nil_of_length_eq_zero (by rw[<- Hn'.out];exact h0)
    subst this;simp[valL],Below.refl _ _⟩
  clear ha hb H H' Hn Hn';by_cases h1:n=0
  ·subst h1;go_enter Tryz.func316,Tryz.ntmps316;go_wp2;go_ret;exact HQ.out
  ·have h2:n'=0:=by omega
   subst h2;have d1:decide ((n:Int)=0)=false:=by simpa using h1
   go_enter Tryz.func316,Tryz.ntmps316;go_wp2;go_ret;exact HQ.out
 ·have p1 : 0 < n := by omega
  have p2:0<n':=by omega
  have d1:((n:Int) == 0)=false:=by simp;omega
  have d2:((n':Int) == 0)=false:=by simp;omega
  have HD:=iH ha;have HD':=iH hb;obtain⟨m,hm⟩:∃m,m=n+n':=⟨_,rfl⟩;have Hm:=iH hm;have hmk:(Instr.makeSlice 138 (.int .i64 ((n:Int)+(n':Int))) (.int .i64 ((n:Int)+(n':Int)))).run Tryz.prog w=.ok (.slice (some ⟨w.heap.size,0,none⟩) m m) (w.alloc (.cells (wcells (List.replicate m 0)).toArray 386)):=by
   have:=make_words m (by omega) w;rw[hm]at this⊢;exact this
  have X1:Below w.heap.size w (w.alloc (.cells (wcells (List.replicate m 0)).toArray 386)):=(Below.refl _ _).alloc (Nat.le_refl _) _;have k1:=Bk.new w 386 (wcells (List.replicate m 0));have HX1:=iH X1;have HK1:=iH k1;clear ha hb h0 X1 k1 hm;go_enter Tryz.func316,Tryz.ntmps316;go_wp2_with fail;clear hmk d1 d2;obtain⟨B,hB⟩:∃B,B=w.heap.size:=⟨_,rfl⟩;have HBe:=iH hB;rw[<- hB]at HX1 HK1⊢;clear hB;generalize w.alloc (.cells (wcells (List.replicate m 0)).toArray 386)=W0 at *;go_loopw [29] (fun i wr=>∃k P,k<=n∧i=.int .i64 (k:Int)∧Bk wr B 386 (wcells P)∧TimesAt a b P k∧Below B w wr) (fun i _=>n-(intOf i).toNat)
  case atStart =>
   refine⟨0,List.replicate m 0,Nat.zero_le _,rfl,HK1.out,?_,HX1.out⟩;have:m=a.length+b.length:=by rw[Hm.out,Hn.out,Hn'.out]
   rw[this];exact .start
  case round =>
   obtain⟨k,P,hk,rfl,hBk,hTi,hbe⟩:=hrel;have HBk:=iH hBk;have HTi:=iH hTi;have HB1:=iH hbe;by_cases hlt:k<n
   ·have hka:k<a.length:=by have:=Hn.out;omega
    have hbe2:Below w.heap.size w wr:=by rw[<- HBe.out];exact hbe
    obtain⟨g,off,rfl,hg,e0⟩:=(H.out.below hbe2).at_ k hka;have HR:=iH (HTi.out.row a[k]);have HS:=iH (fun h0=>HTi.out.skip hka h0);have Hx:=iH (HD.out.get k hka);have HDn:Hid (∀P' c,RowAt a b P' k b.length c a[k]->(hk:k+b.length<P'.length)->TimesAt a b (P'.set (k+b.length) c) (k+1)):=fun P' c h hk=>h.done hka hk
    generalize a[k]=x at *;clear hBk hTi hbe hbe2 HX1 HK1;by_cases hx0:x=0
    ·have HS':=iH (HS.out hx0);subst hx0;clear HS HR HDn Hx;go_wp2_with fail;go_roundw
     case rel=>exact⟨k+1,P,by omega,by go_num,HBk.out,HS'.out,HB1.out⟩
     case measure=>simp[intOf];omega
    ·have q1:((x:Int) == 0)=false:=by simp;omega
     have q2:IntKind.u64.wrap (x:Int)=(x:Int):=by rw[IntKind.wrap_u64];have:=Hx.out;unfold BW at *;omega
     have q3:IntKind.i64.wrap ((k:Int)+(n':Int))=(k:Int)+(n':Int):=IntWalk.i64_in _ (by omega);have q4:IntKind.i64.wrap ((k:Int)+(n':Int)+1)=(k:Int)+(n':Int)+1:=IntWalk.i64_in _ (by omega);have hmid:(Instr.slice 138 (.slice (some ⟨B,0,none⟩) m m) (some (.int .i64 (k:Int))) (some (.int .i64 ((k:Int)+(n':Int)+1))) none).run Tryz.prog wr=.ok (.slice (some ⟨B,k,none⟩) (k+n'+1-k) (m-k)) wr:=run_mid wr B m k (k+n'+1) (by omega) (by have:=Hm.out;omega);have q5:k+n'+1-k=n'+1:=by omega
     rw[q5]at hmid;clear q5 HS;go_wp2_with fail;clear q1 q2 q3 q4 hmid e0;go_loopw [9,48] (fun v i wr'=>∃(j:Nat) (R:List Nat) (c:Nat),j<=n'∧i=.int .i64 (j:Int)∧v=.int .u64 (c:Int)∧Bk wr' B 386 (wcells R)∧RowAt a b R k j c x∧Below B w wr') (fun _ i _=>n'-(intOf i).toNat)
     case atStart=>exact⟨0,P,0,Nat.zero_le _,rfl,rfl,HBk.out,HR.out,HB1.out⟩
     case round =>
      clear HBk HR HB1 HTi;obtain⟨j,R,c2,hj,rfl,rfl,hBk,hRo,hbe⟩:=hrel;have HBk:=iH hBk;have HRo:=iH hRo;have HB1:=iH hbe;have hlR:k+n'<R.length:=by have:=hRo.len;have:=Hn.out;have:=Hn'.out;omega
      have lB:=hBk.lt;by_cases hjn:j<n'
      ·have hjb:j<b.length:=by have:=Hn'.out;omega
       have hkj:k+j<R.length:=by omega
       have hbe2:Below w.heap.size w wr:=by rw[<- HBe.out];exact hbe
       obtain⟨g',off',rfl,hg',e1⟩:=(H'.out.below hbe2).at_ j hjb;have g0:wr.cell? ⟨B,k+j,none⟩=some (.int .u32 (R[k+j]:Int)):=(hBk.cell _).trans (wcells_get hkj);have fg:=hBk.frozen (k+j);have hy:=HD'.out.get j hjb;have hp:=hRo.dig.get (k+j) hkj;have hmb:=mul_bound hRo.c1 Hx.out hy hp;have HN:=iH (hRo.next HD'.out Hx.out hka hjb hkj);generalize b[j]=y at *;generalize hpe:R[k+j]=p at *;obtain⟨z,hz⟩:∃z:Nat,z=x*y:=⟨_,rfl⟩;obtain⟨t,ht⟩:∃t:Nat,t=c2+(x*y+p):=⟨_,rfl⟩;rw[<- ht]at HN;rw[<- ht]at hmb;have hzt:(t:Int)=(c2:Int)+((x:Int)*(y:Int)+(p:Int)):=by rw[ht];push_cast;rfl
       have hzz:(z:Int)=(x:Int)*(y:Int):=by rw[hz];push_cast;rfl
       have r1:IntKind.u64.wrap (y:Int)=(y:Int):=by rw[IntKind.wrap_u64];unfold BW at *;omega
       have r2:IntKind.u64.wrap (p:Int)=(p:Int):=by rw[IntKind.wrap_u64];unfold BW at *;omega
       have r3:IntKind.u64.wrap ((x:Int)*(y:Int))=(z:Int):=by rw[IntKind.wrap_u64,<- hzz];omega
       have r4:IntKind.u64.wrap ((z:Int)+(p:Int))=(z:Int)+(p:Int):=by rw[IntKind.wrap_u64];omega
       have r5:IntKind.u64.wrap ((c2:Int)+((z:Int)+(p:Int)))=(t:Int):=by rw[IntKind.wrap_u64,hzt,hzz];omega
       have HK:Hid (Bk (wr.setCell ⟨B,k+j,none⟩ (.int .u32 ((t:Int) % 4294967296))) B 386 (wcells (R.set (k+j) (t % BW)))):=by
        show Bk _ _ _ _;rw[<- wcells_set,show((t % BW:Nat):Int)=(t:Int) % 4294967296 by unfold BW;omega];exact hBk.set _ _
       have HB2:Hid (Below B w (wr.setCell ⟨B,k+j,none⟩ (.int .u32 ((t:Int) % 4294967296)))):=hbe.setCell (p:=⟨B,k+j,none⟩) (Nat.le_refl _) _;have hq:(t:Int) / 4294967296=((t / BW:Nat):Int):=by unfold BW;omega
       have Hq:=iH hq;clear hBk hRo hbe hbe2 hjb hkj hy hp hmb ht hz hzt hzz hpe hq HRo HBk HB1;go_wp2_with fail;go_roundw
       case rel=>exact⟨j+1,_,t / BW,by omega,by go_num,by rw[Hq.out],HK.out,HN.out,HB2.out⟩
       case measure=>simp[intOf];omega
      ·have hjn':j=n':=by omega
       subst hjn';have hlb:b.length=j:=Hn'.out.symm;have fg:=hBk.frozen (k+j);have g0:wr.cell? ⟨B,k+j,none⟩=some (.int .u32 (R[k+j]:Int)):=(hBk.cell _).trans (wcells_get hlR);have hc:=hRo.c1;have r1:IntKind.u32.wrap (c2:Int)=(c2:Int):=by rw[IntKind.wrap_u32];unfold BW at *;omega
       have r2:(c2:Int) % 4294967296=(c2:Int):=by unfold BW at *;omega
       have HK:Hid (Bk (wr.setCell ⟨B,k+j,none⟩ (.int .u32 (c2:Int))) B 386 (wcells (R.set (k+j) c2))):=by
        show Bk _ _ _ _;rw[<- wcells_set];exact hBk.set _ _
       have HB2:Hid (Below B w (wr.setCell ⟨B,k+j,none⟩ (.int .u32 (c2:Int)))):=hbe.setCell (p:=⟨B,k+j,none⟩) (Nat.le_refl _) _;have HN:Hid (TimesAt a b (R.set (k+j) c2) (k+1)):=by
        have:=HDn.out R c2 (by rw[hlb];exact hRo) (by rw[hlb];exact hlR);rw[hlb]at this;exact this
       generalize R[k+j]=p at *;clear hBk hRo hbe hlb hc HRo HBk HB1 HDn hlR hjn;go_wp2_with fail;go_roundw
       case rel=>exact⟨k+1,_,by omega,by go_num,HK.out,HN.out,HB2.out⟩
       case measure=>simp[intOf];omega
   ·have hkn:k=n:=by omega
    subst hkn;have hla:a.length=k:=Hn.out.symm;have hl:P.length=m:=by have:=hTi.len;have:=Hn'.out;have:=Hm.out;omega
    have hW:WdV wr (some ⟨B,0,none⟩) m m P:=⟨.inr ⟨B,0,_,_,rfl,hBk,fun j u hu=>by rw[Nat.zero_add];simpa using hu⟩,hl.symm,Nat.le_refl _,by have:=Hm.out;omega⟩;have KT:=iH (trim_any hW);have HF:=iH (fun(e:Ending) (w':World) (ht:TrimQ wr P e w')=>times_fin (w:=w) (by rw[hla];exact HTi.out) (by rw[<- HBe.out];exact hbe) ht);clear hW hla hl hBk hTi hbe HX1 HK1 hlt;go_wp2_with fail;(with_reducible refine KT.out.mono ?_);rintro e w2 ht;have HR:=iH (HF.out _ _ ht);obtain⟨A1,n1,c2,l1,rfl,rfl,-⟩:=ht;clear HF KT;go_wp2;go_ret;exact HR.out
theorem wd_far {w:World} {A:Option Addr} {n c g:Nat} {l:List Nat} {xs:List Value} {u v:Value} (h:WdV w A n c l) (hB:Bk w g 140 xs):WdV ((w.setCell ⟨g,0,none⟩ u).setCell ⟨g,1,none⟩ v) A n c l :=
 ⟨(h.row.keep (.setCell hB (by decide) _)).keep (.setCell (hB.set 0 _) (by decide) _),h.len,h.cap,h.small⟩
def TwoQ (w:World) (z:Int) (e:Ending) (w':World):Prop:=∃v,e=.returned (.tuple #[v,.int .i64 0])∧WideQ w' z v∧Below w.heap.size w w'
theorem wmul_any {w:World} {A A':Option Addr} {n n' c c':Nat} {n1 n2:Bool} {a b:List Nat} {x y:Int} (h:WdV w A n c a) (h':WdV w A' n' c' b) (h1:WI n1 a x) (h2:WI n2 b y) (hn:n<=100) (hn':n'<=100) (hz:(x*y).natAbs<BW ^ 4) :
 Calls Tryz.prog 217 #[wideV n1 A n c,wideV n2 A' n' c'] w (TwoQ w (x*y)):=by
 obtain⟨bx,hbx⟩:∃bx,bx=w.heap.size:=⟨_,rfl⟩;obtain⟨W0,hW0⟩:∃W0,W0=((w.alloc (.cells #[.bool n1,.slice A n c] 140)).alloc (.cells #[.bool n2,.slice A' n' c'] 140)).alloc (.cells #[.bool false,.slice none 0 0] 140):=⟨_,rfl⟩;have hK1:Bk W0 bx 140 [.bool n1,.slice A n c]:=by rw[hW0,hbx];exact((Bk.new w 140 [.bool n1,.slice A n c]).alloc _).alloc _
 have hK2:Bk W0 (bx+1) 140 [.bool n2,.slice A' n' c']:=by
  rw[hW0,hbx];have h:=Bk.new (w.alloc (.cells #[.bool n1,.slice A n c] 140)) 140 [.bool n2,.slice A' n' c'];rw[World.size_alloc]at h;exact h.alloc _
 have hK3:Bk W0 (bx+2) 140 [.bool false,.slice none 0 0]:=by
  rw[hW0,hbx];have h:=Bk.new ((w.alloc (.cells #[.bool n1,.slice A n c] 140)).alloc (.cells #[.bool n2,.slice A' n' c'] 140)) 140 [.bool false,.slice none 0 0];rw[World.size_alloc,World.size_alloc]at h;exact h
 have hB0:Below w.heap.size w W0:=by
  rw[hW0];exact(((Below.refl _ w).alloc (Nat.le_refl _) _).alloc (by simp) _).alloc (by simp;omega) _
 have HK:=iH (And.intro hK1 hK2);have HC:=iH hK3;have HB:=iH hB0;have HX:=iH (h.below hB0);have HY:=iH (h'.below hB0);have Hbx:=iH hbx;clear hK1 hK2 hK3 hB0;have H1:=iH h1;have H2:=iH h2;have HZ:=iH hz;clear h h' h1 h2 hz;go_enter Tryz.func217,Tryz.ntmps217;go_upto_region 1 with fail;rw[<- hW0];(try rw[<- hbx]);clear hW0 hbx;have hd0:Below W0.heap.size W0 W0.drew:=(Below.refl _ _).drew;have HBx:=HB.out.drew;refine wp_region_X (fun w'=>Bk w' bx 140 [.bool n1,.slice A n c]∧Bk w' (bx+1) 140 [.bool n2,.slice A' n' c']) 15 (n:=15) rfl (by kernel_rfl) (⟨HK.out.1.drew,HK.out.2.drew⟩) (fun hS=>?_);refine uS 0 6 hS ?_;refine uS 1 7 hS ?_ (hy:=fun w' hS'=>by have e0:=hS'.1.cell 0;have e1:=hS'.1.cell 1;have f0:=hS'.2.cell 0;have f1:=hS'.2.cell 1;have el:=hS'.1.lt;have fl:=hS'.2.lt;(go_simp;try with_reducible rfl));refine uS 2 8 hS ?_;refine uS 3 9 hS ?_ (hy:=fun w' hS'=>by have e0:=hS'.1.cell 0;have e1:=hS'.1.cell 1;have f0:=hS'.2.cell 0;have f1:=hS'.2.cell 1;have el:=hS'.1.lt;have fl:=hS'.2.lt;(go_simp;try with_reducible rfl));refine uS 4 10 hS ?_;refine uS 5 11 hS ?_;refine uS 6 12 hS ?_ (hy:=fun w' hS'=>by have e0:=hS'.1.cell 0;have e1:=hS'.1.cell 1;have f0:=hS'.2.cell 0;have f1:=hS'.2.cell 1;have el:=hS'.1.lt;have fl:=hS'.2.lt;(go_simp;try with_reducible rfl));refine uS 7 13 hS ?_;refine uS 8 14 hS ?_ (hy:=fun w' hS'=>by have e0:=hS'.1.cell 0;have e1:=hS'.1.cell 1;have f0:=hS'.2.cell 0;have f1:=hS'.2.cell 1;have el:=hS'.1.lt;have fl:=hS'.2.lt;(go_simp;try with_reducible rfl));refine X_oR 9 rfl fun K hK=>?_
 go_simp;have K1:=iH (times_any (HX.out.below hd0) (HY.out.below hd0) H1.out.dig H2.out.dig hn hn');(with_reducible refine K1.out.mono ?_);rintro e w2 ⟨A1,m,c1,l1,rfl,hw,hd,ht,hv,hb⟩;have hk1:=hS.1.below hb hS.1.lt;have hk2:=hS.2.below hb hS.2.lt;have HK2:=iH (And.intro hk1 hk2);have HC2:=iH (HC.out.drew.below hb HC.out.drew.lt);have HB2:=iH (HBx.trans (hb.mono HBx.size));have HR:=iH (show WI ((!(n1 == n2)) && decide (0<l1.length)) l1 (x*y) from H1.out.mul H2.out hd ht hv);rw[<- hw.len]at HR;have HWd:=iH hw;have hm:=hw.len;have hml:m<=512:=by have:=HR.out.short HZ.out;omega
 refine hK _ _ HK2.out ?_;clear hK K1 hk1 hk2 hw hd ht hv hb hm;refine X_oR 10 rfl fun K hK=>?_
 go_simp;have K2:=iH (limited_any (!(n1 == n2)) A1 m c1 hml w2);(with_reducible refine K2.out.mono ?_);rintro e w3 ⟨rfl,hb⟩;have hk1:=HK2.out.1.below hb HK2.out.1.lt;have hk2:=HK2.out.2.below hb HK2.out.2.lt;have HK3:=iH (And.intro hk1 hk2);have HC3:=iH (HC2.out.below hb HC2.out.lt);have HB3:=iH (HB2.out.trans (hb.mono HB2.out.size));have HWd3:=iH (HWd.out.below hb);generalize((!(n1 == n2)) && decide (0<m))=ng at *;refine hK _ _ HK3.out ?_;clear hK K2 hk1 hk2 hb HK2 HB2 HWd HC2 HC;refine uS 11 17 HK3.out ?_;refine uS 12 18 HK3.out ?_;have e0:=HC3.out.k0;have e1:=HC3.out.k1;have g0:=HC3.out.frozen 0;have g1:=HC3.out.frozen 1;have el:=HC3.out.lt;have HC4:=iH ((HC3.out.set 0 (.bool ng)).set 1 (.slice A1 m c1));have HKw:=iH (And.intro ((HK3.out.1.far (p:=⟨bx+2,0,none⟩) (by simp) (.bool ng)).far (p:=⟨bx+2,1,none⟩) (by simp) (.slice A1 m c1)) ((HK3.out.2.far (p:=⟨bx+2,0,none⟩) (by simp) (.bool ng)).far (p:=⟨bx+2,1,none⟩) (by simp) (.slice A1 m c1)));have HB4:=iH ((HB3.out.setCell (p:=⟨bx+2,0,none⟩) (by rw[Hbx.out];simp) (.bool ng)).setCell (p:=⟨bx+2,1,none⟩) (by rw[Hbx.out];simp) (.slice A1 m c1));have HWd4:=iH (wd_far (u:=.bool ng) (v:=.slice A1 m c1) HWd3.out HC3.out);refine X_oR 13 rfl fun K hK=>?_
 go_simp;refine hK _ _ HKw.out ?_;clear hK e0 e1 g0 g1 el HC3 HB3 HWd3 HK3;generalize(w3.setCell ⟨bx+2,0,none⟩ (.bool ng)).setCell ⟨bx+2,1,none⟩ (.slice A1 m c1)=W4 at *;refine X_oR 14 rfl fun K hK=>?_
 go_simp;refine hK _ _ HKw.out ?_;clear hK;refine X_done (by kernel_rfl) ?_;have r0:=HC4.out.cell 0;have r1:=HC4.out.cell 1;go_wp2;refine bodyPost_ret (v:=.tuple #[wideV ng A1 m c1,.int .i64 0]) (by simp[results,Tryz.results217,go_sem,r0,r1]) rfl ?_;exact⟨_,rfl,⟨ng,A1,m,c1,l1,rfl,HWd4.out,HR.out⟩,HB4.out⟩
theorem wadd_any {w:World} {A A':Option Addr} {n n' c c':Nat} {n1 n2:Bool} {a b:List Nat} {x y:Int} (h:WdV w A n c a) (h':WdV w A' n' c' b) (h1:WI n1 a x) (h2:WI n2 b y) (hn:n<=100) (hn':n'<=100) (hz:(x+y).natAbs<BW ^ 4) :
 Calls Tryz.prog 219 #[wideV n1 A n c,wideV n2 A' n' c'] w (TwoQ w (x+y)):=by
 obtain⟨bx,hbx⟩:∃bx,bx=w.heap.size:=⟨_,rfl⟩;obtain⟨W0,hW0⟩:∃W0,W0=((w.alloc (.cells #[.bool n1,.slice A n c] 140)).alloc (.cells #[.bool n2,.slice A' n' c'] 140)).alloc (.cells #[.bool false,.slice none 0 0] 140):=⟨_,rfl⟩;have hK1:Bk W0 bx 140 [.bool n1,.slice A n c]:=by rw[hW0,hbx];exact((Bk.new w 140 [.bool n1,.slice A n c]).alloc _).alloc _
 have hK2:Bk W0 (bx+1) 140 [.bool n2,.slice A' n' c']:=by
  rw[hW0,hbx];have h:=Bk.new (w.alloc (.cells #[.bool n1,.slice A n c] 140)) 140 [.bool n2,.slice A' n' c'];rw[World.size_alloc]at h;exact h.alloc _
 have hK3:Bk W0 (bx+2) 140 [.bool false,.slice none 0 0]:=by
  rw[hW0,hbx];have h:=Bk.new ((w.alloc (.cells #[.bool n1,.slice A n c] 140)).alloc (.cells #[.bool n2,.slice A' n' c'] 140)) 140 [.bool false,.slice none 0 0];rw[World.size_alloc,World.size_alloc]at h;exact h
 have hB0:Below w.heap.size w W0:=by
  rw[hW0];exact(((Below.refl _ w).alloc (Nat.le_refl _) _).alloc (by simp) _).alloc (by simp;omega) _
 have HK:=iH (And.intro hK1 hK2);have HC:=iH hK3;have HB:=iH hB0;have HX:=iH (h.below hB0);have HY:=iH (h'.below hB0);have Hbx:=iH hbx;clear hK1 hK2 hK3 hB0;have H1:=iH h1;have H2:=iH h2;have HZ:=iH hz;clear h h' h1 h2 hz;by_cases hnn:n1=n2
 ·subst hnn;have q:(n1 == n1)=true:=by simp
  go_enter Tryz.func219,Tryz.ntmps219;go_upto_region 1 with fail;rw[<- hW0];(try rw[<- hbx]);clear hW0 hbx;have e0:=HK.out.1.k0;have e1:=HK.out.1.k1;have f0:=HK.out.2.k0;have f1:=HK.out.2.k1;have el:=HK.out.1.lt;have fl:=HK.out.2.lt;go_upto_region 2 with fail;clear e0 e1 f0 f1 el fl;have hd0:Below W0.heap.size W0 W0.drew:=(Below.refl _ _).drew;have HBx:=HB.out.drew;refine wp_region_X (fun w'=>Bk w' bx 140 [.bool n1,.slice A n c]∧Bk w' (bx+1) 140 [.bool n1,.slice A' n' c']) 12 (n:=12) rfl (by kernel_rfl) (⟨HK.out.1.drew,HK.out.2.drew⟩) (fun hS=>?_);refine uS 0 11 hS ?_;refine uS 1 12 hS ?_ (hy:=fun w' hS'=>by have e0:=hS'.1.cell 0;have e1:=hS'.1.cell 1;have f0:=hS'.2.cell 0;have f1:=hS'.2.cell 1;have el:=hS'.1.lt;have fl:=hS'.2.lt;(go_simp;try with_reducible rfl));refine uS 2 13 hS ?_;refine uS 3 14 hS ?_ (hy:=fun w' hS'=>by have e0:=hS'.1.cell 0;have e1:=hS'.1.cell 1;have f0:=hS'.2.cell 0;have f1:=hS'.2.cell 1;have el:=hS'.1.lt;have fl:=hS'.2.lt;(go_simp;try with_reducible rfl));refine uS 4 15 hS ?_;refine uS 5 16 hS ?_ (hy:=fun w' hS'=>by have e0:=hS'.1.cell 0;have e1:=hS'.1.cell 1;have f0:=hS'.2.cell 0;have f1:=hS'.2.cell 1;have el:=hS'.1.lt;have fl:=hS'.2.lt;(go_simp;try with_reducible rfl));refine X_oR 6 rfl fun K hK=>?_
  go_simp;have K1:=iH (plus_any (HX.out.below hd0) (HY.out.below hd0) H1.out.dig H2.out.dig hn hn');(with_reducible refine K1.out.mono ?_);rintro e w2 ⟨A1,m,c1,l1,rfl,hw,hd,ht,hv,hb⟩;have hk1:=hS.1.below hb hS.1.lt;have hk2:=hS.2.below hb hS.2.lt;have HK2:=iH (And.intro hk1 hk2);have HC2:=iH (HC.out.drew.below hb HC.out.drew.lt);have HB2:=iH (HBx.trans (hb.mono HBx.size));have HR:=iH (H1.out.plus H2.out hd ht hv);rw[<- hw.len]at HR;have HWd:=iH hw;have hm:=hw.len;have hml:m<=512:=by have:=HR.out.short HZ.out;omega
  refine hK _ _ HK2.out ?_;clear hK K1 hk1 hk2 hw hd ht hv hb hm;refine X_oR 7 rfl fun K hK=>?_
  go_simp;have K2:=iH (limited_any n1 A1 m c1 hml w2);(with_reducible refine K2.out.mono ?_);rintro e w3 ⟨rfl,hb⟩;have hk1:=HK2.out.1.below hb HK2.out.1.lt;have hk2:=HK2.out.2.below hb HK2.out.2.lt;have HK3:=iH (And.intro hk1 hk2);have HC3:=iH (HC2.out.below hb HC2.out.lt);have HB3:=iH (HB2.out.trans (hb.mono HB2.out.size));have HWd3:=iH (HWd.out.below hb);generalize(n1 && decide (0<m))=ng at *;refine hK _ _ HK3.out ?_;clear hK K2 hk1 hk2 hb HK2 HB2 HWd HC2 HC;refine uS 8 19 HK3.out ?_;refine uS 9 20 HK3.out ?_;have e0:=HC3.out.k0;have e1:=HC3.out.k1;have g0:=HC3.out.frozen 0;have g1:=HC3.out.frozen 1;have el:=HC3.out.lt;have HC4:=iH ((HC3.out.set 0 (.bool ng)).set 1 (.slice A1 m c1));have HKw:=iH (And.intro ((HK3.out.1.far (p:=⟨bx+2,0,none⟩) (by simp) (.bool ng)).far (p:=⟨bx+2,1,none⟩) (by simp) (.slice A1 m c1)) ((HK3.out.2.far (p:=⟨bx+2,0,none⟩) (by simp) (.bool ng)).far (p:=⟨bx+2,1,none⟩) (by simp) (.slice A1 m c1)));have HB4:=iH ((HB3.out.setCell (p:=⟨bx+2,0,none⟩) (by rw[Hbx.out];simp) (.bool ng)).setCell (p:=⟨bx+2,1,none⟩) (by rw[Hbx.out];simp) (.slice A1 m c1));have HWd4:=iH (wd_far (u:=.bool ng) (v:=.slice A1 m c1) HWd3.out HC3.out);refine X_oR 10 rfl fun K hK=>?_
  go_simp;refine hK _ _ HKw.out ?_;clear hK e0 e1 g0 g1 el HC3 HB3 HWd3 HK3;generalize(w3.setCell ⟨bx+2,0,none⟩ (.bool ng)).setCell ⟨bx+2,1,none⟩ (.slice A1 m c1)=W4 at *;refine X_oR 11 rfl fun K hK=>?_
  go_simp;refine hK _ _ HKw.out ?_;clear hK;refine X_done (by kernel_rfl) ?_;have r0:=HC4.out.cell 0;have r1:=HC4.out.cell 1;go_wp2;refine bodyPost_ret (v:=.tuple #[wideV ng A1 m c1,.int .i64 0]) (by simp[results,Tryz.results219,go_sem,r0,r1]) rfl ?_;exact⟨_,rfl,⟨ng,A1,m,c1,l1,rfl,HWd4.out,HR.out⟩,HB4.out⟩
 ·have q:(n1 == n2)=false:=by simpa using hnn
  have KC:=iH (wcompare_any HX.out HY.out H1.out.dig H2.out.dig H1.out.tight H2.out.tight);go_enter Tryz.func219,Tryz.ntmps219;go_upto_region 1 with fail;rw[<- hW0];(try rw[<- hbx]);clear hW0 hbx;have e0:=HK.out.1.k0;have e1:=HK.out.1.k1;have f0:=HK.out.2.k0;have f1:=HK.out.2.k1;have el:=HK.out.1.lt;have fl:=HK.out.2.lt;go_wp2_with fail;(with_reducible refine KC.out.mono ?_);rintro e w1 ⟨r,rfl,hb,hlt,hgt⟩;clear e0 e1 f0 f1 el fl KC;have HX:=iH (HX.out.below hb);have HY:=iH (HY.out.below hb);have HK:=iH (And.intro (HK.out.1.below hb HK.out.1.lt) (HK.out.2.below hb HK.out.2.lt));have HC:=iH (HC.out.below hb HC.out.lt);have HB:=iH (HB.out.trans (hb.mono HB.out.size));have HLT:=iH hlt;clear hlt hgt hb;by_cases hr:r<0
  ·have d0:decide (0<=r)=false:=by simp;omega
   have hle:valL a<=valL b:=by have:=HLT.out.1 hr;omega
   have e0:=HK.out.1.k0;have e1:=HK.out.1.k1;have f0:=HK.out.2.k0;have f1:=HK.out.2.k1;have el:=HK.out.1.lt;have fl:=HK.out.2.lt;go_upto_region 5 with fail;clear e0 e1 f0 f1 el fl;have hd0:Below w1.heap.size w1 w1.drew:=(Below.refl _ _).drew;have HBx:=HB.out.drew;refine wp_region_X (fun w'=>Bk w' bx 140 [.bool n1,.slice A n c]∧Bk w' (bx+1) 140 [.bool n2,.slice A' n' c']) 12 (n:=12) rfl (by kernel_rfl) (⟨HK.out.1.drew,HK.out.2.drew⟩) (fun hS=>?_);refine uS 0 37 hS ?_;refine uS 1 38 hS ?_ (hy:=fun w' hS'=>by have e0:=hS'.1.cell 0;have e1:=hS'.1.cell 1;have f0:=hS'.2.cell 0;have f1:=hS'.2.cell 1;have el:=hS'.1.lt;have fl:=hS'.2.lt;(go_simp;try with_reducible rfl));refine uS 2 39 hS ?_;refine uS 3 40 hS ?_ (hy:=fun w' hS'=>by have e0:=hS'.1.cell 0;have e1:=hS'.1.cell 1;have f0:=hS'.2.cell 0;have f1:=hS'.2.cell 1;have el:=hS'.1.lt;have fl:=hS'.2.lt;(go_simp;try with_reducible rfl));refine uS 4 41 hS ?_;refine uS 5 42 hS ?_ (hy:=fun w' hS'=>by have e0:=hS'.1.cell 0;have e1:=hS'.1.cell 1;have f0:=hS'.2.cell 0;have f1:=hS'.2.cell 1;have el:=hS'.1.lt;have fl:=hS'.2.lt;(go_simp;try with_reducible rfl));refine X_oR 6 rfl fun K hK=>?_
   go_simp;have K1:=iH (minus_any (HY.out.below hd0) (HX.out.below hd0) H2.out.dig H1.out.dig H1.out.tight hle hn');(with_reducible refine K1.out.mono ?_);rintro e w2 ⟨A1,m,c1,l1,rfl,hw,hd,ht,hv,hb⟩;have hk1:=hS.1.below hb hS.1.lt;have hk2:=hS.2.below hb hS.2.lt;have HK2:=iH (And.intro hk1 hk2);have HC2:=iH (HC.out.drew.below hb HC.out.drew.lt);have HB2:=iH (HBx.trans (hb.mono HBx.size));have HR:=iH (H1.out.minus2 H2.out hnn hd ht hle hv);rw[<- hw.len]at HR;have HWd:=iH hw;have hm:=hw.len;have hml:m<=512:=by have:=HR.out.short HZ.out;omega
   refine hK _ _ HK2.out ?_;clear hK K1 hk1 hk2 hw hd ht hv hb hm;refine X_oR 7 rfl fun K hK=>?_
   go_simp;have K2:=iH (limited_any n2 A1 m c1 hml w2);(with_reducible refine K2.out.mono ?_);rintro e w3 ⟨rfl,hb⟩;have hk1:=HK2.out.1.below hb HK2.out.1.lt;have hk2:=HK2.out.2.below hb HK2.out.2.lt;have HK3:=iH (And.intro hk1 hk2);have HC3:=iH (HC2.out.below hb HC2.out.lt);have HB3:=iH (HB2.out.trans (hb.mono HB2.out.size));have HWd3:=iH (HWd.out.below hb);generalize(n2 && decide (0<m))=ng at *;refine hK _ _ HK3.out ?_;clear hK K2 hk1 hk2 hb HK2 HB2 HWd HC2 HC;refine uS 8 45 HK3.out ?_;refine uS 9 46 HK3.out ?_;have e0:=HC3.out.k0;have e1:=HC3.out.k1;have g0:=HC3.out.frozen 0;have g1:=HC3.out.frozen 1;have el:=HC3.out.lt;have HC4:=iH ((HC3.out.set 0 (.bool ng)).set 1 (.slice A1 m c1));have HKw:=iH (And.intro ((HK3.out.1.far (p:=⟨bx+2,0,none⟩) (by simp) (.bool ng)).far (p:=⟨bx+2,1,none⟩) (by simp) (.slice A1 m c1)) ((HK3.out.2.far (p:=⟨bx+2,0,none⟩) (by simp) (.bool ng)).far (p:=⟨bx+2,1,none⟩) (by simp) (.slice A1 m c1)));have HB4:=iH ((HB3.out.setCell (p:=⟨bx+2,0,none⟩) (by rw[Hbx.out];simp) (.bool ng)).setCell (p:=⟨bx+2,1,none⟩) (by rw[Hbx.out];simp) (.slice A1 m c1));have HWd4:=iH (wd_far (u:=.bool ng) (v:=.slice A1 m c1) HWd3.out HC3.out);refine X_oR 10 rfl fun K hK=>?_
   go_simp;refine hK _ _ HKw.out ?_;clear hK e0 e1 g0 g1 el HC3 HB3 HWd3 HK3;generalize(w3.setCell ⟨bx+2,0,none⟩ (.bool ng)).setCell ⟨bx+2,1,none⟩ (.slice A1 m c1)=W4 at *;refine X_oR 11 rfl fun K hK=>?_
   go_simp;refine hK _ _ HKw.out ?_;clear hK;refine X_done (by kernel_rfl) ?_;have r0:=HC4.out.cell 0;have r1:=HC4.out.cell 1;go_wp2;refine bodyPost_ret (v:=.tuple #[wideV ng A1 m c1,.int .i64 0]) (by simp[results,Tryz.results219,go_sem,r0,r1]) rfl ?_;exact⟨_,rfl,⟨ng,A1,m,c1,l1,rfl,HWd4.out,HR.out⟩,HB4.out⟩
  ·have d0:decide (0<=r)=true:=by simp;omega
   have hle:valL b<=valL a:=by have:=HLT.out;omega
   have e0:=HK.out.1.k0;have e1:=HK.out.1.k1;have f0:=HK.out.2.k0;have f1:=HK.out.2.k1;have el:=HK.out.1.lt;have fl:=HK.out.2.lt;go_upto_region 4 with fail;clear e0 e1 f0 f1 el fl;have hd0:Below w1.heap.size w1 w1.drew:=(Below.refl _ _).drew;have HBx:=HB.out.drew;refine wp_region_X (fun w'=>Bk w' bx 140 [.bool n1,.slice A n c]∧Bk w' (bx+1) 140 [.bool n2,.slice A' n' c']) 12 (n:=12) rfl (by kernel_rfl) (⟨HK.out.1.drew,HK.out.2.drew⟩) (fun hS=>?_);refine uS 0 27 hS ?_;refine uS 1 28 hS ?_ (hy:=fun w' hS'=>by have e0:=hS'.1.cell 0;have e1:=hS'.1.cell 1;have f0:=hS'.2.cell 0;have f1:=hS'.2.cell 1;have el:=hS'.1.lt;have fl:=hS'.2.lt;(go_simp;try with_reducible rfl));refine uS 2 29 hS ?_;refine uS 3 30 hS ?_ (hy:=fun w' hS'=>by have e0:=hS'.1.cell 0;have e1:=hS'.1.cell 1;have f0:=hS'.2.cell 0;have f1:=hS'.2.cell 1;have el:=hS'.1.lt;have fl:=hS'.2.lt;(go_simp;try with_reducible rfl));refine uS 4 31 hS ?_;refine uS 5 32 hS ?_ (hy:=fun w' hS'=>by have e0:=hS'.1.cell 0;have e1:=hS'.1.cell 1;have f0:=hS'.2.cell 0;have f1:=hS'.2.cell 1;have el:=hS'.1.lt;have fl:=hS'.2.lt;(go_simp;try with_reducible rfl));refine X_oR 6 rfl fun K hK=>?_
   go_simp;have K1:=iH (minus_any (HX.out.below hd0) (HY.out.below hd0) H1.out.dig H2.out.dig H2.out.tight hle hn);(with_reducible refine K1.out.mono ?_);rintro e w2 ⟨A1,m,c1,l1,rfl,hw,hd,ht,hv,hb⟩;have hk1:=hS.1.below hb hS.1.lt;have hk2:=hS.2.below hb hS.2.lt;have HK2:=iH (And.intro hk1 hk2);have HC2:=iH (HC.out.drew.below hb HC.out.drew.lt);have HB2:=iH (HBx.trans (hb.mono HBx.size));have HR:=iH (H1.out.minus1 H2.out hnn hd ht hle hv);rw[<- hw.len]at HR;have HWd:=iH hw;have hm:=hw.len;have hml:m<=512:=by have:=HR.out.short HZ.out;omega
   refine hK _ _ HK2.out ?_;clear hK K1 hk1 hk2 hw hd ht hv hb hm;refine X_oR 7 rfl fun K hK=>?_
   go_simp;have K2:=iH (limited_any n1 A1 m c1 hml w2);(with_reducible refine K2.out.mono ?_);rintro e w3 ⟨rfl,hb⟩;have hk1:=HK2.out.1.below hb HK2.out.1.lt;have hk2:=HK2.out.2.below hb HK2.out.2.lt;have HK3:=iH (And.intro hk1 hk2);have HC3:=iH (HC2.out.below hb HC2.out.lt);have HB3:=iH (HB2.out.trans (hb.mono HB2.out.size));have HWd3:=iH (HWd.out.below hb);generalize(n1 && decide (0<m))=ng at *;refine hK _ _ HK3.out ?_;clear hK K2 hk1 hk2 hb HK2 HB2 HWd HC2 HC;refine uS 8 35 HK3.out ?_;refine uS 9 36 HK3.out ?_;have e0:=HC3.out.k0;have e1:=HC3.out.k1;have g0:=HC3.out.frozen 0;have g1:=HC3.out.frozen 1;have el:=HC3.out.lt;have HC4:=iH ((HC3.out.set 0 (.bool ng)).set 1 (.slice A1 m c1));have HKw:=iH (And.intro ((HK3.out.1.far (p:=⟨bx+2,0,none⟩) (by simp) (.bool ng)).far (p:=⟨bx+2,1,none⟩) (by simp) (.slice A1 m c1)) ((HK3.out.2.far (p:=⟨bx+2,0,none⟩) (by simp) (.bool ng)).far (p:=⟨bx+2,1,none⟩) (by simp) (.slice A1 m c1)));have HB4:=iH ((HB3.out.setCell (p:=⟨bx+2,0,none⟩) (by rw[Hbx.out];simp) (.bool ng)).setCell (p:=⟨bx+2,1,none⟩) (by rw[Hbx.out];simp) (.slice A1 m c1));have HWd4:=iH (wd_far (u:=.bool ng) (v:=.slice A1 m c1) HWd3.out HC3.out);refine X_oR 10 rfl fun K hK=>?_
   go_simp;refine hK _ _ HKw.out ?_;clear hK e0 e1 g0 g1 el HC3 HB3 HWd3 HK3;generalize(w3.setCell ⟨bx+2,0,none⟩ (.bool ng)).setCell ⟨bx+2,1,none⟩ (.slice A1 m c1)=W4 at *;refine X_oR 11 rfl fun K hK=>?_
   go_simp;refine hK _ _ HKw.out ?_;clear hK;refine X_done (by kernel_rfl) ?_;have r0:=HC4.out.cell 0;have r1:=HC4.out.cell 1;go_wp2;refine bodyPost_ret (v:=.tuple #[wideV ng A1 m c1,.int .i64 0]) (by simp[results,Tryz.results219,go_sem,r0,r1]) rfl ?_;exact⟨_,rfl,⟨ng,A1,m,c1,l1,rfl,HWd4.out,HR.out⟩,HB4.out⟩
theorem nilWd (w:World):WdV w none 0 0 []:=⟨.inl rfl,rfl,Nat.le_refl _,by omega⟩
theorem wcomp0_any {w:World} {A:Option Addr} {n c:Nat} {neg:Bool} {a:List Nat} {x:Int} (h:WdV w A n c a) (h1:WI neg a x) :
 Calls Tryz.prog 216 #[wideV neg A n c,wideV false none 0 0] w fun e w'=>∃r:Int,e=.returned (.int .i64 r)∧(r=0 ↔ x=0)∧Below w.heap.size w w':=by
 have X0:Below w.heap.size w ((w.alloc (.cells #[.bool neg,.slice A n c] 140)).alloc (.cells #[.bool false,.slice none 0 0] 140)):=((Below.refl _ w).alloc (Nat.le_refl _) _).alloc (by simp) _;have H1:=iH h1;cases neg
 ·have KC:=iH (wcompare_any (h.below X0) (nilWd _) h1.dig (fun x hx=>by simp at hx) h1.tight (fun hh=>absurd rfl hh));have HX:=iH X0;clear h h1 X0;go_enter Tryz.func216,Tryz.ntmps216;go_wp2_with fail;(with_reducible refine KC.out.mono ?_);rintro e w1 ⟨r,rfl,hb,hlt,hgt⟩;have HF:Hid (r=0 ↔ x=0):=by
   show _ ↔ _;have e1:=H1.out.val;have e2:valL []=0:=rfl;rw[e2]at hlt hgt;simp at e1;constructor <;> intro hh <;> omega
  have HB:=iH (HX.out.trans (hb.mono HX.out.size));clear hlt hgt hb KC;go_wp2;go_ret;exact⟨r,rfl,HF.out,HB.out⟩
 ·have HF:Hid ((-1:Int)=0 ↔ x=0):=by
   show _ ↔ _;have e1:=H1.out.zero;simp at e1;constructor <;> intro hh
   ·omega
   ·exact absurd hh e1
  have HX:=iH X0;clear h h1 X0 H1;go_enter Tryz.func216,Tryz.ntmps216;go_wp2;go_ret;exact⟨-1,rfl,HF.out,HX.out⟩
theorem sign_any {w:World} {x:Int} {v:Value} (h:WideQ w x v):Calls Tryz.prog 77 #[v] w fun e w'=>∃r:Int,e=.returned (.int .i64 r)∧(r=0 ↔ x=0)∧Below w.heap.size w w':=by
 obtain⟨neg,A,n,c,l,rfl,hw,hi⟩:=h;have X0:Below w.heap.size w (w.alloc (.cells #[.bool neg,.slice A n c] 140)):=(Below.refl _ w).alloc (Nat.le_refl _) _;have KC:=iH (wcomp0_any (hw.below X0) hi);have HX:=iH X0;clear hw hi X0;go_enter Tryz.func77,Tryz.ntmps77;go_wp2_with fail;(with_reducible refine KC.out.mono ?_);rintro e w1 ⟨r,rfl,hr,hb⟩;have HF:=iH hr;have HB:=iH (HX.out.trans (hb.mono HX.out.size));clear hr hb KC;go_wp2;go_ret;exact⟨r,rfl,HF.out,HB.out⟩
theorem mul_w {w:World} {x y:Int} {u v:Value} (h:WideQ w x u) (h':WideQ w y v) (hx:x.natAbs<BW ^ 2) (hy:y.natAbs<BW ^ 2):Calls Tryz.prog 217 #[u,v] w (TwoQ w (x*y)):=by
 obtain⟨n1,A,n,c,a,rfl,hw,hi⟩:=h;obtain⟨n2,A',n',c',b,rfl,hw',hi'⟩:=h';have e1:=hi.short hx;have e2:=hi'.short hy;refine wmul_any hw hw' hi hi' (by have:=hw.len;omega) (by have:=hw'.len;omega) ?_;rw[Int.natAbs_mul]
 calc x.natAbs*y.natAbs<BW ^ 2*BW ^ 2:=Nat.mul_lt_mul'' hx hy
  _=BW ^ 4:=by rw[<- Nat.pow_add]
theorem add_w {w:World} {x y:Int} {u v:Value} (h:WideQ w x u) (h':WideQ w y v) (hx:x.natAbs<BW ^ 2) (hy:y.natAbs<BW ^ 2):Calls Tryz.prog 219 #[u,v] w (TwoQ w (x+y)):=by
 obtain⟨n1,A,n,c,a,rfl,hw,hi⟩:=h;obtain⟨n2,A',n',c',b,rfl,hw',hi'⟩:=h';have e1:=hi.short hx;have e2:=hi'.short hy;refine wadd_any hw hw' hi hi' (by have:=hw.len;omega) (by have:=hw'.len;omega) ?_;have h4:BW ^ 2+BW ^ 2<=BW ^ 4:=by decide
 omega
theorem mul_small {y x:Int} (hy : -3<=y∧y<=3) (hx : -140737488355328<=x∧x<=140737488355328) : -422212465065984<=y*x∧y*x<=422212465065984:=by
 obtain⟨h1,h2⟩:=hy;have:y = -3∨y = -2∨y = -1∨y=0∨y=1∨y=2∨y=3:=by omega
 rcases this with rfl|rfl|rfl|rfl|rfl|rfl|rfl <;> omega
theorem dot_bound {ws ls:List Int} (hw:∀k,-3<=wAt ws k∧wAt ws k<=3) (hl:∀k,-140737488355328<=wAt ls k∧wAt ls k<=140737488355328) (k:Nat) : -((k:Int)*422212465065984)<=dotTo ws ls k∧dotTo ws ls k<=(k:Int)*422212465065984:=by
 induction k with
 | zero=>simp[dotTo]
 | succ k ih =>
   have:=mul_small (hw k) (hl k);simp only[dotTo];have e:((k+1:Nat):Int)=(k:Int)+1:=by omega
   rw[e,Int.add_mul];omega
theorem two_small {z:Int} (h : -1000000000000000000<=z∧z<=1000000000000000000):z.natAbs<BW ^ 2:=by
 have:BW ^ 2=18446744073709551616:=by decide
 omega
theorem weighted_any {w:World} {A A':Option Addr} {n:Nat} (c c':Nat) {ws ls:List Int} (h:IntsV w A n ws) (h':IntsV w A' n ls) (hn:n<=64) (hw:∀k,-3<=wAt ws k∧wAt ws k<=3) (hl:∀k,-140737488355328<=wAt ls k∧wAt ls k<=140737488355328) :
 Calls Tryz.prog 78 #[.slice A n c,.slice A' n c'] w fun e w'=>∃v,e=.returned v∧WideQ w' (dotTo ws ls n) v∧Below w.heap.size w w':=by
 have H:=iH h;have H':=iH h';have HW:=iH hw;have HL:=iH hl;have HD:=iH (dot_bound hw hl);clear h h' hw hl;have X0:Below w.heap.size w ((w.alloc (.cells #[.bool false,.slice none 0 0] 140)).alloc (.cells #[.bool false,.slice none 0 0] 140)):=((Below.refl _ w).alloc (Nat.le_refl _) _).alloc (by simp) _;have k1:=(Bk.new w 140 [.bool false,.slice none 0 0]).alloc (.cells #[.bool false,.slice none 0 0] 140);have k2:=Bk.new (w.alloc (.cells #[.bool false,.slice none 0 0] 140)) 140 [.bool false,.slice none 0 0];rw[World.size_alloc]at k2;have HX:=iH X0;have HK1:=iH k1;have HK2:=iH k2;clear X0 k1 k2;go_enter Tryz.func78,Tryz.ntmps78;go_wp2_with fail;obtain⟨B,hB⟩:∃B,B=w.heap.size:=⟨_,rfl⟩;have HBe:=iH hB;rw[<- hB]at HX HK1 HK2⊢;clear hB;generalize(w.alloc (.cells #[.bool false,.slice none 0 0] 140)).alloc (.cells #[.bool false,.slice none 0 0] 140)=W0 at *;go_loopw [12] (fun i wr=>∃(k:Nat) (ng:Bool) (X:Option Addr) (m cx:Nat) (l:List Nat),k<=n∧i=.int .i64 (k:Int)∧Bk wr B 140 [.bool false,.slice none 0 0]∧Bk wr (B+1) 140 [.bool ng,.slice X m cx]∧WdV wr X m cx l∧WI ng l (dotTo ws ls k)∧Below B w wr) (fun i _=>n-(intOf i).toNat)
 case atStart=>exact⟨0,false,none,0,0,[],Nat.zero_le _,rfl,HK1.out,HK2.out,⟨.inl rfl,rfl,Nat.le_refl _,by omega⟩,⟨fun x hx=>by simp at hx,fun hh=>absurd rfl hh,fun hh=>by simp at hh,rfl⟩,HX.out⟩
 case round =>
  obtain⟨k,ng,X,m,cx,l,hk,rfl,hk1,hk2,hwd,hwi,hbe⟩:=hrel;have HK1:=iH hk1;have HK2:=iH hk2;have HWd:=iH hwd;have HWi:=iH hwi;have HBel:=iH hbe;by_cases hlt:k<n
  ·have hbe2:Below w.heap.size w wr:=by rw[<- HBe.out];exact hbe
   obtain⟨g,off,rfl,hg,e0⟩:=(H.out.below hbe2).row.at_ k (by rw[ints_length,<- H.out.len];exact hlt);obtain⟨g',off',rfl,hg',e1⟩:=(H'.out.below hbe2).row.at_ k (by rw[ints_length,<- H'.out.len];exact hlt);have c0:wr.cell? ⟨g,off+k,none⟩=some (.int .i64 (wAt ws k)):=e0 k _ (ints_at ws k (by rw[<- H.out.len];exact hlt));have c1:wr.cell? ⟨g',off'+k,none⟩=some (.int .i64 (wAt ls k)):=e1 k _ (ints_at ls k (by rw[<- H'.out.len];exact hlt));have hy:=HW.out k;have hx:=HL.out k;have HS:Hid (dotTo ws ls (k+1)=dotTo ws ls k+wAt ws k*wAt ls k):=rfl;have HP:=iH (mul_small hy hx);generalize wAt ws k=y at *;generalize wAt ls k=x at *;clear e0 e1 hbe2 hk1 hk2 hwd hwi hbe;by_cases hx0:x=0
   ·have q1:(x != 0)=false:=by simpa using hx0
    have HZ:Hid (dotTo ws ls (k+1)=dotTo ws ls k):=by show _=_;rw[HS.out,hx0];omega
    clear HS HP hx0;go_wp2_with fail;go_roundw
    case rel=>exact⟨k+1,ng,X,m,cx,l,by omega,by go_num,HK1.out,HK2.out,HWd.out,by rw[HZ.out];exact HWi.out,HBel.out⟩
    case measure=>simp[intOf];omega
   ·have q1:(x != 0)=true:=by simpa using hx0
    by_cases hy0:y=0
    ·have q2:(y != 0)=false:=by simpa using hy0
     have HZ:Hid (dotTo ws ls (k+1)=dotTo ws ls k):=by show _=_;rw[HS.out,hy0];omega
     clear HS HP hy0 hx0;go_wp2_with fail;go_roundw
     case rel=>exact⟨k+1,ng,X,m,cx,l,by omega,by go_num,HK1.out,HK2.out,HWd.out,by rw[HZ.out];exact HWi.out,HBel.out⟩
     case measure=>simp[intOf];omega
    ·have q2:(y != 0)=true:=by simpa using hy0
     have KF:=iH (fun(z:Int) (hz : -9223372036854775808<=z∧z<=9223372036854775807) (W:World)=>from_any hz W);have Hy:=iH hy;have Hx:=iH hx;clear hy0 hx0 hy hx;go_wp2_with fail;(with_reducible refine(KF.out y (by have:=Hy.out;omega) _).mono ?_);rintro e w1 ⟨u,rfl,hu,hb1⟩;have HU1:=iH hu;have HB1:=iH hb1;clear hu hb1;go_wp2_with fail;(with_reducible refine(KF.out x (by have:=Hx.out;omega) _).mono ?_);rintro e w2 ⟨v,rfl,hv,hb2⟩;have HM:=iH (mul_w (HU1.out.below hb2) hv (two_small (by have:=Hy.out;omega)) (two_small (by have:=Hx.out;omega)));have HB2:=iH (HB1.out.trans (hb2.mono HB1.out.size));clear hv hb2 HU1 HB1;go_wp2_with fail;(with_reducible refine HM.out.mono ?_);rintro e w3 ⟨p,rfl,hp,hb3⟩;obtain⟨pn,PA,pm,pc,pl,rfl,hpw,hpi⟩:=hp;have hb03:=HB2.out.trans (hb3.mono HB2.out.size);have k1:=HK1.out.below hb03 HK1.out.lt;have k2:=HK2.out.below hb03 HK2.out.lt;have y3:Below w3.heap.size w3 (w3.alloc (.cells #[.bool pn,.slice PA pm pc] 140)):=(Below.refl _ _).alloc (Nat.le_refl _) _;have HK13:=iH (k1.below y3 k1.lt);have HK23:=iH (k2.below y3 k2.lt);have HP3:=iH (Bk.new w3 140 [.bool pn,.slice PA pm pc]);have HSum:Hid (WideQ (w3.alloc (.cells #[.bool pn,.slice PA pm pc] 140)) (dotTo ws ls k) (wideV ng X m cx)):=⟨ng,X,m,cx,l,rfl,(HWd.out.below hb03).below y3,HWi.out⟩;have HPr:Hid (WideQ (w3.alloc (.cells #[.bool pn,.slice PA pm pc] 140)) (y*x) (wideV pn PA pm pc)):=⟨pn,PA,pm,pc,pl,rfl,hpw.below y3,hpi⟩;have HB3:=iH (HBel.out.trans ((hb03.trans (y3.mono hb03.size)).mono (by rw[HBe.out];exact HBel.out.size)));have HA:=iH (add_w HSum.out HPr.out (two_small (by have:=HD.out k;omega)) (two_small (by have:=HP.out;omega)));clear hb03 k1 k2 y3 hpw hpi hb3 HM HB2 HK1 HK2 HWd HWi HBel HSum HPr c0 c1 hg hg';go_upto_region 7 with fail;obtain⟨P,hPe⟩:∃P,P=w3.heap.size:=⟨_,rfl⟩;rw[<- hPe]at HP3;(try rw[<- hPe]);clear hPe;generalize w3.alloc (.cells #[.bool pn,.slice PA pm pc] 140)=W4 at *;have s0:=HK23.out.k0;have s1:=HK23.out.k1;have p0:=HP3.out.k0;have p1:=HP3.out.k1;have sl:=HK23.out.lt;have pl':=HP3.out.lt;go_wp2_with fail;(with_reducible refine HA.out.mono ?_);rintro e w5 ⟨q,rfl,hq,hb5⟩;obtain⟨qn,QA,qm,qc,ql,rfl,hqw,hqi⟩:=hq;clear s0 s1 p0 p1 sl pl' HA HP3;have k1:=HK13.out.below hb5 HK13.out.lt;have k2:=HK23.out.below hb5 HK23.out.lt;have s0:=k2.k0;have s1:=k2.k1;have f0:=k2.frozen 0;have f1:=k2.frozen 1;have sl:=k2.lt;have HK15:=iH ((k1.far (p:=⟨B+1,0,none⟩) (by simp) (.bool qn)).far (p:=⟨B+1,1,none⟩) (by simp) (.slice QA qm qc));have HK25:=iH ((k2.set 0 (.bool qn)).set 1 (.slice QA qm qc));have HW5:=iH (wd_far (u:=.bool qn) (v:=.slice QA qm qc) hqw k2);have HI5:Hid (WI qn ql (dotTo ws ls (k+1))):=by show WI _ _ _;rw[HS.out];exact hqi
     have HB5:=iH (((HB3.out.trans (hb5.mono (by rw[HBe.out];exact HB3.out.size))).setCell (p:=⟨B+1,0,none⟩) (by simp) (.bool qn)).setCell (p:=⟨B+1,1,none⟩) (by simp) (.slice QA qm qc));clear k1 k2 hqw hqi hb5 HK13 HK23 HB3 HS HP;go_wp2_with fail;go_roundw
     case rel=>exact⟨k+1,qn,QA,qm,qc,ql,by omega,by go_num,HK15.out,HK25.out,HW5.out,HI5.out,HB5.out⟩
     case measure=>simp[intOf];omega
  ·have hkn:k=n:=by omega
   subst hkn;have s0:=hk2.k0;have s1:=hk2.k1;have r0:=hk1.k0;have r1:=hk1.k1;have f0:=hk1.frozen 0;have f1:=hk1.frozen 1;have sl:=hk2.lt;have rl:=hk1.lt;have HKf:=iH ((hk1.set 0 (.bool ng)).set 1 (.slice X m cx));have HWf:=iH (wd_far (u:=.bool ng) (v:=.slice X m cx) hwd hk1);have HBf:=iH ((hbe.setCell (p:=⟨B,0,none⟩) (Nat.le_refl _) (.bool ng)).setCell (p:=⟨B,1,none⟩) (Nat.le_refl _) (.slice X m cx));clear hk1 hk2 hwd hwi hbe HK1 HK2 HWd HBel;go_wp2_with fail;have r0:=HKf.out.cell 0;have r1:=HKf.out.cell 1;refine bodyPost_ret (v:=wideV ng X m cx) (by simp[results,Tryz.results78,go_sem,r0,r1]) rfl ?_;exact⟨_,rfl,⟨ng,X,m,cx,l,rfl,HWf.out,HWi.out⟩,by rw[<- HBe.out];exact HBf.out⟩
end Go.Proofs.YtiecjoijnkghbaaGreatDoor

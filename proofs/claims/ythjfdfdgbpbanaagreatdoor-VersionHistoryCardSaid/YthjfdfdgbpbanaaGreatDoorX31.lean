/- The contract of Held (turned from A5). catalog.Equal on two catalogs that say the same: true. The reference's Equal on two catalogs that say the same: true. A history of catalogs in memory; Start, At. What a catalog's core says. What Add keeps; a history that gets a version. -/
import Derived.Test.YthjfdfdgbpbanaaGreatDoorX1
import Derived.Test.YthjfdfdgbpbanaaGreatDoorX8
import Derived.Test.YthjfdfdgbpbanaaGreatDoorX12
import Derived.Test.YthjfdfdgbpbanaaGreatDoorX13
import Derived.Test.YthjfdfdgbpbanaaGreatDoorX14
import Derived.Test.YthjfdfdgbpbanaaGreatDoorX16
import Derived.Test.YthjfdfdgbpbanaaGreatDoorX19
import Derived.Test.YthjfdfdgbpbanaaGreatDoorX24
import Derived.Test.YthjfdfdgbpbanaaGreatDoorX28
import Derived.Test.YthjfdfdgbpbanaaGreatDoorX29
import Derived.Laws.StructEq
import Derived.BigQuiet
import Derived.StillTailTactics
set_option linter.unusedVariables false
set_option linter.unusedSimpArgs false
set_option maxRecDepth 100000
set_option maxHeartbeats 4000000
open Go.RowKit
namespace Go.Proofs.YthjfdfdgbpbanaaGreatDoor
theorem heldL_succS (zs:List Int) (a k:Nat):heldL zs a (k+1)=heldL zs a k ++ [heldAt zs a k]:=by simp[heldL,List.range_succ]
theorem heldOf_bdS (n:Int):0<=heldOf n∧heldOf n<=1099511627776:=by
 unfold heldOf
 repeat' split
 all_goals omega
theorem ints_snocS (l:List Int) (x:Int):ints (l ++ [x])=ints l ++ [.int .i64 x]:=by simp[ints]
theorem one1S (x:Int):∀u∈([.int .i64 x]:List Value),u.oneCell'=true:=by
 intro u hu;simp only[List.mem_cons,List.not_mem_nil,or_false]at hu;subst hu;rfl
theorem held_anyS {w:World} {A:Option Addr} {n:Nat} (c K a:Nat) {zs:List Int} (h:IntsV w A n zs) (hK:K<=1000) (ha:a<=1000) :
 Calls Tryz.prog 23 #[.int .i64 K,.slice A n c,.int .i64 a] w (RowPost w 3 1 K (ints (heldL zs a K))):=by
 obtain⟨i0,hi,hz0,hz1,hz2⟩:=info_parts info3;have H:=iH h;clear h;go_enter Tryz.func23,Tryz.ntmps23;go_wp2_with fail;go_loopw [7,8] (fun v i wr=>∃k:Nat,k<=K∧i=.int .i64 k∧wr.ownsRow w.heap.size 3 1 v k (ints (heldL zs a k))∧Below w.heap.size w wr) (fun _ i _=>K-(intOf i).toNat)
 case atStart=>exact⟨0,Nat.zero_le _,rfl,World.ownsRow_nil _ _ _ _,Below.refl _ _⟩
 case round =>
  obtain⟨k,hk,rfl,hown,hb⟩:=hrel;have HO:=iH hown;have hsz:=hb.size;clear hown;by_cases hlt:k<K
  ·have HP:=iH ((H.out.below hb).pick c ((a:Int)+(k:Int)) 1048576 (by omega) (by omega) (by omega) (by omega));have p0:=pick_lo zs ((a:Int)+(k:Int)) 1048576 (by omega);have p1:=pick_hi zs ((a:Int)+(k:Int)) 1048576 (by omega);have HS:=iH (heldL_succS zs a k);have HA:Hid (heldAt zs a k=heldOf (pick zs ((a:Int)+(k:Int)) 1048576)):=rfl;generalize pick zs ((a:Int)+(k:Int)) 1048576=p at *;by_cases h61:p % 61=0
   ·have q1:(p % 61 == 0)=true:=by simpa using h61
    have hx:heldAt zs a k=1099511627776-p / 61 % 9:=by rw[HA.out,heldOf,if_pos h61]
    rw[hx]at HS;clear hx HA h61;by_cases h4:p % 4=0
    ·have q2:(p % 4 == 0)=true:=by simpa using h4
     go_wp2_with fail;refine HP.out.mono ?_;rintro e w' ⟨rfl,rfl⟩;go_wp2_with(at_builtin;refine wpList_append_own_at _ rfl _ _ 22 rfl w.heap.size 3 i0 (.int .i64 0) 1 8 Tryz.underlying22 hi hz0 hz1 hz2 rfl (by decide) _ k (ints (heldL zs a k)) rfl (HO.out.alloc _) ⟨wr.heap.size,0,none⟩ 1 1 [.int .i64 (1099511627776-p / 61 % 9)] rfl rfl (new1 _ _ _) (one1S _) (by unfold maxLen;omega) (by omega) (by simp;omega) ?_);intro v' w1 hown' hgrow _ _;have hb1:Below w.heap.size w w1:=(hb.alloc hsz _).grown hgrow (by simp;omega) (row_base HO.out);have HO1:=iH hown';clear hown' hgrow;go_wp2;go_roundw
     case rel=>exact⟨k+1,by omega,by go_num,by rw[HS.out,ints_snocS];exact HO1.out,hb1⟩
     case measure=>simp[intOf];omega
    ·have q2:(p % 4 == 0)=false:=by simpa using h4
     go_wp2_with fail;refine HP.out.mono ?_;rintro e w' ⟨rfl,rfl⟩;go_wp2_with(at_builtin;refine wpList_append_own_at _ rfl _ _ 22 rfl w.heap.size 3 i0 (.int .i64 0) 1 8 Tryz.underlying22 hi hz0 hz1 hz2 rfl (by decide) _ k (ints (heldL zs a k)) rfl (HO.out.alloc _) ⟨wr.heap.size,0,none⟩ 1 1 [.int .i64 (1099511627776-p / 61 % 9)] rfl rfl (new1 _ _ _) (one1S _) (by unfold maxLen;omega) (by omega) (by simp;omega) ?_);intro v' w1 hown' hgrow _ _;have hb1:Below w.heap.size w w1:=(hb.alloc hsz _).grown hgrow (by simp;omega) (row_base HO.out);have HO1:=iH hown';clear hown' hgrow;go_wp2;go_roundw
     case rel=>exact⟨k+1,by omega,by go_num,by rw[HS.out,ints_snocS];exact HO1.out,hb1⟩
     case measure=>simp[intOf];omega
   ·have q1:(p % 61 == 0)=false:=by simpa using h61
    by_cases h4:p % 4=0
    ·have q2:(p % 4 == 0)=true:=by simpa using h4
     have hx:heldAt zs a k=0:=by rw[HA.out,heldOf,if_neg h61,if_pos h4]
     rw[hx]at HS;clear hx HA h61;go_wp2_with fail;refine HP.out.mono ?_;rintro e w' ⟨rfl,rfl⟩;go_wp2_with(at_builtin;refine wpList_append_own_at _ rfl _ _ 22 rfl w.heap.size 3 i0 (.int .i64 0) 1 8 Tryz.underlying22 hi hz0 hz1 hz2 rfl (by decide) _ k (ints (heldL zs a k)) rfl (HO.out.alloc _) ⟨wr.heap.size,0,none⟩ 1 1 [.int .i64 0] rfl rfl (new1 _ _ _) (one1S _) (by unfold maxLen;omega) (by omega) (by simp;omega) ?_);intro v' w1 hown' hgrow _ _;have hb1:Below w.heap.size w w1:=(hb.alloc hsz _).grown hgrow (by simp;omega) (row_base HO.out);have HO1:=iH hown';clear hown' hgrow;go_wp2;go_roundw
     case rel=>exact⟨k+1,by omega,by go_num,by rw[HS.out,ints_snocS];exact HO1.out,hb1⟩
     case measure=>simp[intOf];omega
    ·have q2:(p % 4 == 0)=false:=by simpa using h4
     have hx:heldAt zs a k=p / 4 % 50:=by rw[HA.out,heldOf,if_neg h61,if_neg h4]
     rw[hx]at HS;clear hx HA h61;go_wp2_with fail;refine HP.out.mono ?_;rintro e w' ⟨rfl,rfl⟩;go_wp2_with(at_builtin;refine wpList_append_own_at _ rfl _ _ 22 rfl w.heap.size 3 i0 (.int .i64 0) 1 8 Tryz.underlying22 hi hz0 hz1 hz2 rfl (by decide) _ k (ints (heldL zs a k)) rfl (HO.out.alloc _) ⟨wr.heap.size,0,none⟩ 1 1 [.int .i64 (p / 4 % 50)] rfl rfl (new1 _ _ _) (one1S _) (by unfold maxLen;omega) (by omega) (by simp;omega) ?_);intro v' w1 hown' hgrow _ _;have hb1:Below w.heap.size w w1:=(hb.alloc hsz _).grown hgrow (by simp;omega) (row_base HO.out);have HO1:=iH hown';clear hown' hgrow;go_wp2;go_roundw
     case rel=>exact⟨k+1,by omega,by go_num,by rw[HS.out,ints_snocS];exact HO1.out,hb1⟩
     case measure=>simp[intOf];omega
  ·obtain rfl:k=K:=by omega
   go_wp2;go_ret;exact⟨_,rfl,HO.out,hb⟩
theorem neq136 (x0:Int) (x1:Int) (W:World):(binOp .neq 136 (.agg #[.int .i64 x0,.int .i64 x1]) (.agg #[.int .i64 x0,.int .i64 x1])).run Tryz.prog W=.ok (.bool false) W:=by
 rw[run_neq_struct,run_equalIn_struct W 9999 136 _ _ (by kernel_rfl) (by kernel_rfl)]
 have hf : (Tryz.prog.fieldsOf 136).toList.map (fun f => (f.name, f.type, f.offset)) = [("Item", 3, 0), ("N", 3, 1)] := by kernel_rfl
 generalize(Tryz.prog.fieldsOf 136).toList=L at hf⊢;obtain⟨f0,f1,rfl⟩:∃f0 f1,L=[f0,f1]:=by
  have hl:L.length=2:=by have:=congrArg List.length hf;simpa using this
  rcases L with _|⟨f0,_|⟨f1,_|⟨f2,L⟩⟩⟩ <;> simp at hl
  exact⟨f0,f1,rfl⟩
 ·skip
  simp only[List.map_cons,List.map_nil,List.cons.injEq,Prod.mk.injEq,and_true]at hf;obtain⟨⟨n0,t0,o0⟩,⟨n1,t1,o1⟩⟩:=hf;have p0:∀(W:World),(part 3 #[Value.int .i64 x0,.int .i64 x1] 0).run Tryz.prog W=.ok (.int .i64 x0) W:=fun W=>by kernel_rfl
  have p1:∀(W:World),(part 3 #[Value.int .i64 x0,.int .i64 x1] 1).run Tryz.prog W=.ok (.int .i64 x1) W:=fun W=>by kernel_rfl
  have qi:∀(W:World) (u:Int),(Op.equalIn 9999 3 (.int .i64 u) (.int .i64 u)).run Tryz.prog W=.ok true W:=fun W u=>by
   rw[run_equalIn_int W 9998 3 .i64 .i64 u u Tryz.underlying3];simp
  simp[Op.eqFields,n0,t0,o0,p0,n1,t1,o1,p1,Sem.run_bind,qi]
theorem neq129 (x0:Int) (x1:Int) (W:World):(binOp .neq 129 (.agg #[.int .i64 x0,.int .i64 x1]) (.agg #[.int .i64 x0,.int .i64 x1])).run Tryz.prog W=.ok (.bool false) W:=by
 rw[run_neq_struct,run_equalIn_struct W 9999 129 _ _ (by kernel_rfl) (by kernel_rfl)]
 have hf : (Tryz.prog.fieldsOf 129).toList.map (fun f => (f.name, f.type, f.offset)) = [("From", 3, 0), ("Per", 3, 1)] := by kernel_rfl
 generalize(Tryz.prog.fieldsOf 129).toList=L at hf⊢;obtain⟨f0,f1,rfl⟩:∃f0 f1,L=[f0,f1]:=by
  have hl:L.length=2:=by have:=congrArg List.length hf;simpa using this
  rcases L with _|⟨f0,_|⟨f1,_|⟨f2,L⟩⟩⟩ <;> simp at hl
  exact⟨f0,f1,rfl⟩
 ·skip
  simp only[List.map_cons,List.map_nil,List.cons.injEq,Prod.mk.injEq,and_true]at hf;obtain⟨⟨n0,t0,o0⟩,⟨n1,t1,o1⟩⟩:=hf;have p0:∀(W:World),(part 3 #[Value.int .i64 x0,.int .i64 x1] 0).run Tryz.prog W=.ok (.int .i64 x0) W:=fun W=>by kernel_rfl
  have p1:∀(W:World),(part 3 #[Value.int .i64 x0,.int .i64 x1] 1).run Tryz.prog W=.ok (.int .i64 x1) W:=fun W=>by kernel_rfl
  have qi:∀(W:World) (u:Int),(Op.equalIn 9999 3 (.int .i64 u) (.int .i64 u)).run Tryz.prog W=.ok true W:=fun W u=>by
   rw[run_equalIn_int W 9998 3 .i64 .i64 u u Tryz.underlying3];simp
  simp[Op.eqFields,n0,t0,o0,p0,n1,t1,o1,p1,Sem.run_bind,qi]
theorem neq89 (x0:ByteArray) (x1:Bool) (x2:Bool) (x3:Bool) (x4:Int) (x5:Int) (x6:Int) (W:World):(binOp .neq 89 (.agg #[.string x0,.bool x1,.bool x2,.bool x3,.int .i64 x4,.int .i64 x5,.int .i64 x6]) (.agg #[.string x0,.bool x1,.bool x2,.bool x3,.int .i64 x4,.int .i64 x5,.int .i64 x6])).run Tryz.prog W=.ok (.bool false) W:=by
 rw[run_neq_struct,run_equalIn_struct W 9999 89 _ _ (by kernel_rfl) (by kernel_rfl)]
 have hf : (Tryz.prog.fieldsOf 89).toList.map (fun f => (f.name, f.type, f.offset)) = [("Name", 9, 0), ("Object", 4, 1), ("Mixed", 4, 2), ("Coin", 4, 3), ("Wear", 3, 4), ("Bind", 3, 5), ("Level", 3, 6)] := by kernel_rfl
 generalize(Tryz.prog.fieldsOf 89).toList=L at hf⊢;obtain⟨f0,f1,f2,f3,f4,f5,f6,rfl⟩:∃f0 f1 f2 f3 f4 f5 f6,L=[f0,f1,f2,f3,f4,f5,f6]:=by
  have hl:L.length=7:=by have:=congrArg List.length hf;simpa using this
  rcases L with _|⟨f0,_|⟨f1,_|⟨f2,_|⟨f3,_|⟨f4,_|⟨f5,_|⟨f6,_|⟨f7,L⟩⟩⟩⟩⟩⟩⟩⟩ <;> simp at hl
  exact⟨f0,f1,f2,f3,f4,f5,f6,rfl⟩
 ·skip
  simp only[List.map_cons,List.map_nil,List.cons.injEq,Prod.mk.injEq,and_true]at hf;obtain⟨⟨n0,t0,o0⟩,⟨n1,t1,o1⟩,⟨n2,t2,o2⟩,⟨n3,t3,o3⟩,⟨n4,t4,o4⟩,⟨n5,t5,o5⟩,⟨n6,t6,o6⟩⟩:=hf;have p0:∀(W:World),(part 9 #[Value.string x0,.bool x1,.bool x2,.bool x3,.int .i64 x4,.int .i64 x5,.int .i64 x6] 0).run Tryz.prog W=.ok (.string x0) W:=fun W=>by kernel_rfl
  have p1:∀(W:World),(part 4 #[Value.string x0,.bool x1,.bool x2,.bool x3,.int .i64 x4,.int .i64 x5,.int .i64 x6] 1).run Tryz.prog W=.ok (.bool x1) W:=fun W=>by kernel_rfl
  have p2:∀(W:World),(part 4 #[Value.string x0,.bool x1,.bool x2,.bool x3,.int .i64 x4,.int .i64 x5,.int .i64 x6] 2).run Tryz.prog W=.ok (.bool x2) W:=fun W=>by kernel_rfl
  have p3:∀(W:World),(part 4 #[Value.string x0,.bool x1,.bool x2,.bool x3,.int .i64 x4,.int .i64 x5,.int .i64 x6] 3).run Tryz.prog W=.ok (.bool x3) W:=fun W=>by kernel_rfl
  have p4:∀(W:World),(part 3 #[Value.string x0,.bool x1,.bool x2,.bool x3,.int .i64 x4,.int .i64 x5,.int .i64 x6] 4).run Tryz.prog W=.ok (.int .i64 x4) W:=fun W=>by kernel_rfl
  have p5:∀(W:World),(part 3 #[Value.string x0,.bool x1,.bool x2,.bool x3,.int .i64 x4,.int .i64 x5,.int .i64 x6] 5).run Tryz.prog W=.ok (.int .i64 x5) W:=fun W=>by kernel_rfl
  have p6:∀(W:World),(part 3 #[Value.string x0,.bool x1,.bool x2,.bool x3,.int .i64 x4,.int .i64 x5,.int .i64 x6] 6).run Tryz.prog W=.ok (.int .i64 x6) W:=fun W=>by kernel_rfl
  have qi:∀(W:World) (u:Int),(Op.equalIn 9999 3 (.int .i64 u) (.int .i64 u)).run Tryz.prog W=.ok true W:=fun W u=>by
   rw[run_equalIn_int W 9998 3 .i64 .i64 u u Tryz.underlying3];simp
  have qb:∀(W:World) (u:Bool),(Op.equalIn 9999 4 (.bool u) (.bool u)).run Tryz.prog W=.ok true W:=fun W u=>by
   rw[run_equalIn_bool W 9998 4 u u Tryz.underlying4];simp
  have qs:∀(W:World) (u:ByteArray),(Op.equalIn 9999 9 (.string u) (.string u)).run Tryz.prog W=.ok true W:=fun W u=>by
   rw[run_equalIn_string W 9998 9 u u Tryz.underlying9];simp
  simp[Op.eqFields,n0,t0,o0,p0,n1,t1,o1,p1,n2,t2,o2,p2,n3,t3,o3,p3,n4,t4,o4,p4,n5,t5,o5,p5,n6,t6,o6,p6,Sem.run_bind,qb,qi,qs]
theorem RuM.okb {w w':World} {r:RuM} (h:r.Ok w) (hb:Below w.heap.size w w'):r.Ok w':=h.keep (.below hb)
theorem RwM.okb {w w':World} {r:RwM} (h:r.Ok w) (hb:Below w.heap.size w w'):r.Ok w':=PrV.below h hb
theorem TbM.okb {w w':World} {r:TbM} (h:r.Ok w) (hb:Below w.heap.size w w'):r.Ok w':=⟨h.rows.below hb,h.name⟩
theorem TxM.okb {w w':World} {r:TxM} (h:r.Ok w) (hb:Below w.heap.size w w'):r.Ok w':=⟨h.brs.below hb,h.name⟩
theorem drewN_two (w:World) (a b:Nat):(w.drewN a).drewN b=w.drewN (a+b):=by simp[World.drewN,Nat.add_assoc]
theorem rsam {w:World} {s s':Sl} {l:List P2} (h:PrV w 136 s l) (h':PrV w 136 s' l):Calls Tryz.prog 99 #[.slice s.A s.n s.c,.slice s'.A s'.n s'.c] w fun e w'=>e=.returned (.bool true)∧∃m,w'=w.drewN m:=by
 have H:=iH h;have H':=iH h';have Hn:=iH h.len;have hs:=h.small;have hnn:s'.n=s.n:=by rw[h.len,h'.len]
 clear h h';obtain⟨A,n,c⟩:=s;obtain⟨A',n',c'⟩:=s';dsimp only at *;subst hnn;have e1:((n':Int) != (n':Int))=false:=by simp
 go_enter Tryz.func99,Tryz.ntmps99;go_wp2_with fail;go_loopw [5] (fun i wr=>∃k:Nat,k<=n'∧i=.int .i64 k∧∃m,wr=w.drewN m) (fun i _=>n'-(intOf i).toNat)
 case atStart=>exact⟨0,Nat.zero_le _,rfl,0,rfl⟩
 case round =>
  obtain⟨k,hk,rfl,m,hm⟩:=hrel;have hb:Below w.heap.size w wr:=by rw[hm];exact bel_drewN (Below.refl _ _) _
  by_cases hlt:k<n'
  ·have hkl:k<l.length:=by have:=Hn.out;omega
   obtain⟨b,off,hA,hbb,c0,c1⟩:=(H.out.below hb).at_ k hkl;obtain⟨b',off',hA',hbb',d0,d1⟩:=(H'.out.below hb).at_ k hkl;dsimp only at hA hA';subst hA hA';generalize l[k].1=y0 at *;generalize l[k].2=y1 at *;clear hkl;have k0:(0:Int)<=(k:Int):=by omega
   have k1:(k:Int)<(n':Int):=by omega
   have hne:=fun W=>neq136 y0 y1 W
   have HM:=iH hm;clear hm hb;go_wp2_with fail;go_quiet (fail);have HB:Hid (∃m,wr.drewN nq=w.drewN m):=⟨m+nq,by rw[HM.out,drewN_two]⟩;generalize wr.drewN nq=W at *;clear c0 c1 d0 d1;go_wp2_with fail;go_roundw
   case rel=>exact⟨k+1,by omega,by go_num,HB.out⟩
   case measure=>simp[intOf];omega
  ·go_wp2_with fail;go_ret;exact⟨rfl,m,by first | rfl | exact hm⟩
theorem rsamB {w:World} {s s':Sl} {l:List P2} (h:PrV w 136 s l) (h':PrV w 136 s' l):Calls Tryz.prog 99 #[.slice s.A s.n s.c,.slice s'.A s'.n s'.c] w fun e w'=>e=.returned (.bool true)∧Below w.heap.size w w' :=
 (rsam h h').mono fun e w' ⟨he,m,hm⟩=>⟨he,by rw[hm];exact bel_drewN (Below.refl _ _) _⟩
theorem req_ru {w:World} (r r':RuM) (hr:r.Ok w) (hr':r'.Ok w) (he:r'.core=r.core):Calls Tryz.prog 54 #[r.val,r'.val] w (fun e w'=>e=.returned (.bool true)∧Below w.heap.size w w'):=by
 obtain⟨nm,sp,le,ti,ch,of_,tk,gv,bk,⟨A1,n1,c1⟩,⟨A2,n2,c2⟩,⟨A3,n3,c3⟩⟩:=r;obtain⟨nm',sp',le',ti',ch',of',tk',gv',bk',⟨A4,n4,c4⟩,⟨A5,n5,c5⟩,⟨A6,n6,c6⟩⟩:=r';simp only[RuM.core,RuM.mk.injEq,and_true]at he;obtain⟨rfl,rfl,rfl,rfl,rfl,rfl,rfl,rfl,rfl⟩:=he;have X0:Below w.heap.size w ((w.alloc (.cells #[.string nm',.bool sp',.int .i64 le',.int .i64 ti',.int .i64 ch',.int .i64 of',.slice A1 n1 c1,.slice A2 n2 c2,.slice A3 n3 c3] 103)).alloc (.cells #[.string nm',.bool sp',.int .i64 le',.int .i64 ti',.int .i64 ch',.int .i64 of',.slice A4 n4 c4,.slice A5 n5 c5,.slice A6 n6 c6] 103)):=((Below.refl _ _).alloc (Nat.le_refl _) _).alloc (by simp) _;have B1:=(Bk.new w 103 [.string nm',.bool sp',.int .i64 le',.int .i64 ti',.int .i64 ch',.int .i64 of',.slice A1 n1 c1,.slice A2 n2 c2,.slice A3 n3 c3]).alloc (.cells #[.string nm',.bool sp',.int .i64 le',.int .i64 ti',.int .i64 ch',.int .i64 of',.slice A4 n4 c4,.slice A5 n5 c5,.slice A6 n6 c6] 103);have B2:=Bk.new (w.alloc (.cells #[.string nm',.bool sp',.int .i64 le',.int .i64 ti',.int .i64 ch',.int .i64 of',.slice A1 n1 c1,.slice A2 n2 c2,.slice A3 n3 c3] 103)) 103 [.string nm',.bool sp',.int .i64 le',.int .i64 ti',.int .i64 ch',.int .i64 of',.slice A4 n4 c4,.slice A5 n5 c5,.slice A6 n6 c6];rw[World.size_alloc]at B2;have K0:Hid (∀W:World,Below w.heap.size w W->Calls Tryz.prog 99 #[.slice A1 n1 c1,.slice A4 n4 c4] W fun e w'=>e=.returned (.bool true)∧Below W.heap.size W w'):=fun W hW=>rsamB (s:=⟨A1,n1,c1⟩) (s':=⟨A4,n4,c4⟩) (hr.take.below hW) (hr'.take.below hW)
 have K1:Hid (∀W:World,Below w.heap.size w W->Calls Tryz.prog 99 #[.slice A2 n2 c2,.slice A5 n5 c5] W fun e w'=>e=.returned (.bool true)∧Below W.heap.size W w'):=fun W hW=>rsamB (s:=⟨A2,n2,c2⟩) (s':=⟨A5,n5,c5⟩) (hr.give.below hW) (hr'.give.below hW)
 have K2:Hid (∀W:World,Below w.heap.size w W->Calls Tryz.prog 99 #[.slice A3 n3 c3,.slice A6 n6 c6] W fun e w'=>e=.returned (.bool true)∧Below W.heap.size W w'):=fun W hW=>rsamB (s:=⟨A3,n3,c3⟩) (s':=⟨A6,n6,c6⟩) (hr.back.below hW) (hr'.back.below hW)
 have HX0:=iH X0;have HB1:=iH B1;have HB2:=iH B2;clear X0 B1 B2 hr hr';go_enter Tryz.func54,Tryz.ntmps54;have hnb:(sp' != sp')=false:=by simp
 go_wp2_with fail;(with_reducible refine(K0.out _ HX0.out).mono ?_);rintro e w1 ⟨rfl,hb1⟩;have HX1:=iH (HX0.out.trans (hb1.mono HX0.out.size));have C1:=iH (HB1.out.below hb1 HB1.out.lt);have C2:=iH (HB2.out.below hb1 HB2.out.lt);have f1:=C1.out.k7;have f2:=C2.out.k7;have l1:=C1.out.lt;have l2:=C2.out.lt;have D1:=iH C1.out;have D2:=iH C2.out;clear C1 C2 hb1;go_wp2_with fail;(with_reducible refine(K1.out _ HX1.out).mono ?_);rintro e w2 ⟨rfl,hb2⟩;have HX2:=iH (HX1.out.trans (hb2.mono HX1.out.size));have C1:=iH (D1.out.below hb2 D1.out.lt);have C2:=iH (D2.out.below hb2 D2.out.lt);clear f1 f2 l1 l2 D1 D2;have f1:=C1.out.k8;have f2:=C2.out.k8;have l1:=C1.out.lt;have l2:=C2.out.lt;have D1:=iH C1.out;have D2:=iH C2.out;clear C1 C2 hb2;go_wp2_with fail;(with_reducible refine(K2.out _ HX2.out).mono ?_);rintro e w3 ⟨rfl,hb3⟩;have HX3:=iH (HX2.out.trans (hb3.mono HX2.out.size));have C1:=iH (D1.out.below hb3 D1.out.lt);have C2:=iH (D2.out.below hb3 D2.out.lt);clear f1 f2 l1 l2 D1 D2;clear hb3;go_wp2_with fail;go_ret;exact⟨rfl,HX3.out⟩
theorem req_tx {w:World} (r r':TxM) (hr:r.Ok w) (hr':r'.Ok w) (he:r'.core=r.core):Calls Tryz.prog 56 #[r.val,r'.val] w (fun e w'=>e=.returned (.bool true)∧Below w.heap.size w w'):=by
 obtain⟨nm,rows,⟨A1,n1,c1⟩⟩:=r;obtain⟨nm',rows',⟨A4,n4,c4⟩⟩:=r';simp only[TxM.core,TxM.mk.injEq,and_true]at he;obtain⟨rfl,rfl⟩:=he;have X0:Below w.heap.size w ((w.alloc (.cells #[.string nm',.slice A1 n1 c1] 115)).alloc (.cells #[.string nm',.slice A4 n4 c4] 115)):=((Below.refl _ _).alloc (Nat.le_refl _) _).alloc (by simp) _;have B1:=(Bk.new w 115 [.string nm',.slice A1 n1 c1]).alloc (.cells #[.string nm',.slice A4 n4 c4] 115);have B2:=Bk.new (w.alloc (.cells #[.string nm',.slice A1 n1 c1] 115)) 115 [.string nm',.slice A4 n4 c4];rw[World.size_alloc]at B2;have HX:=iH X0;have HB1:=iH B1;have HB2:=iH B2;have hnn:n1=n4:=by have q1:n1=rows'.length:=hr.brs.len;have q2:n4=rows'.length:=hr'.brs.len;omega
 have H:=iH (hr.brs.below HX.out);have H':=iH (hr'.brs.below HX.out);have Hn:Hid (n1=rows'.length):=hr.brs.len;have hsm:n1<=100000:=hr.brs.small;clear X0 B1 B2 hr hr';subst hnn;have e1:((n1:Int) != (n1:Int))=false:=by simp
 go_enter Tryz.func56,Tryz.ntmps56;go_wp2_with fail;obtain⟨g1,hg1⟩:∃g1,w.heap.size=g1:=⟨_,rfl⟩;have hg2:w.heap.size+1=g1+1:=by rw[hg1]
 generalize(w.alloc (.cells #[.string nm',.slice A1 n1 c1] 115)).alloc (.cells #[.string nm',.slice A4 n1 c4] 115)=W0 at HX HB1 HB2 H H'⊢;rw[hg1]at HB1;rw[hg2]at HB2;(try rw[hg2]);(try rw[hg1]);clear hg2;go_loopw [5] (fun i wr=>∃k:Nat,k<=n1∧i=.int .i64 k∧Below W0.heap.size W0 wr) (fun i _=>n1-(intOf i).toNat)
 case atStart=>exact⟨0,Nat.zero_le _,rfl,Below.refl _ _⟩
 case round =>
  obtain⟨k,hk,rfl,hb⟩:=hrel;have C1:=HB1.out.below hb HB1.out.lt;have C2:=HB2.out.below hb HB2.out.lt;have f1:=C1.k1;have f2:=C2.k1;have l1:=C1.lt;have l2:=C2.lt;have HB:=iH hb;clear C1 C2 hb;by_cases hlt:k<n1
  ·have hkl:k<rows'.length:=by have:=Hn.out;omega
   obtain⟨b,off,hA,hbb,c0,c1'⟩:=(H.out.below HB.out).at_ k hkl;obtain⟨b',off',hA',hbb',d0,d1⟩:=(H'.out.below HB.out).at_ k hkl;dsimp only at hA hA';subst hA hA';generalize rows'[k].1=y0 at *;generalize rows'[k].2=y1 at *;clear hkl;have k0:(0:Int)<=(k:Int):=by omega
   have k1:(k:Int)<(n1:Int):=by omega
   have hne:=fun W=>neq129 y0 y1 W
   go_wp2_with fail;go_quiet (fail);have HF:=iH (bel_drewN HB.out nq);generalize wr.drewN nq=W at *;clear c0 c1' d0 d1 f1 f2 HB;go_wp2_with fail;go_roundw
   case rel=>exact⟨k+1,by omega,by go_num,HF.out⟩
   case measure=>simp[intOf];omega
  ·have HF:=iH (HX.out.trans (HB.out.mono HX.out.size));clear HB;go_wp2_with fail;go_ret;exact⟨rfl,HF.out⟩
theorem req_tb {w:World} (r r':TbM) (hr:r.Ok w) (hr':r'.Ok w) (he:r'.core=r.core):Calls Tryz.prog 55 #[r.val,r'.val] w (fun e w'=>e=.returned (.bool true)∧Below w.heap.size w w'):=by
 obtain⟨nm,rows,⟨A1,n1,c1⟩⟩:=r;obtain⟨nm',rows',⟨A4,n4,c4⟩⟩:=r';simp only[TbM.core,TbM.mk.injEq,and_true]at he;obtain⟨rfl,he⟩:=he;have X0:Below w.heap.size w ((w.alloc (.cells #[.string nm',.slice A1 n1 c1] 107)).alloc (.cells #[.string nm',.slice A4 n4 c4] 107)):=((Below.refl _ _).alloc (Nat.le_refl _) _).alloc (by simp) _;have B1:=(Bk.new w 107 [.string nm',.slice A1 n1 c1]).alloc (.cells #[.string nm',.slice A4 n4 c4] 107);have B2:=Bk.new (w.alloc (.cells #[.string nm',.slice A1 n1 c1] 107)) 107 [.string nm',.slice A4 n4 c4];rw[World.size_alloc]at B2;have HX:=iH X0;have HB1:=iH B1;have HB2:=iH B2;have hll:rows'.length=rows.length:=by have:=congrArg List.length he;simpa using this
 have hnn:n1=n4:=by have q1:n1=rows.length:=hr.rows.len;have q2:n4=rows'.length:=hr'.rows.len;omega
 have H:=iH (hr.rows.below HX.out);have H':=iH (hr'.rows.below HX.out);have Hn:Hid (n1=rows.length):=hr.rows.len;have Hll:=iH hll;have hsm:n1<=100000:=hr.rows.small;have He:Hid (∀k (h1:k<rows.length) (h2:k<rows'.length),(rows'[k]).core=(rows[k]).core):=by
  show ∀k (h1:k<rows.length) (h2:k<rows'.length),(rows'[k]).core=(rows[k]).core;intro k h1 h2;have:=congrArg (fun x=>x[k]?) he;simpa[h1,h2]using this
 clear hll he;clear X0 B1 B2 hr hr';subst hnn;have e1:((n1:Int) != (n1:Int))=false:=by simp
 go_enter Tryz.func55,Tryz.ntmps55;go_wp2_with fail;obtain⟨g1,hg1⟩:∃g1,w.heap.size=g1:=⟨_,rfl⟩;have hg2:w.heap.size+1=g1+1:=by rw[hg1]
 generalize(w.alloc (.cells #[.string nm',.slice A1 n1 c1] 107)).alloc (.cells #[.string nm',.slice A4 n1 c4] 107)=W0 at HX HB1 HB2 H H'⊢;rw[hg1]at HB1;rw[hg2]at HB2;(try rw[hg2]);(try rw[hg1]);clear hg2;go_loopw [5] (fun i wr=>∃k:Nat,k<=n1∧i=.int .i64 k∧Below W0.heap.size W0 wr) (fun i _=>n1-(intOf i).toNat)
 case atStart=>exact⟨0,Nat.zero_le _,rfl,Below.refl _ _⟩
 case round =>
  obtain⟨k,hk,rfl,hb⟩:=hrel;have C1:=HB1.out.below hb HB1.out.lt;have C2:=HB2.out.below hb HB2.out.lt;have f1:=C1.k1;have f2:=C2.k1;have l1:=C1.lt;have l2:=C2.lt;have HB:=iH hb;clear C1 C2 hb;by_cases hlt:k<n1
  ·have hkl:k<rows.length:=by have:=Hn.out;omega
   have hkl':k<rows'.length:=by have:=Hll.out;omega
   obtain⟨b,off,hA,hbb,c0,c1'⟩:=(H.out.below HB.out).at_ k hkl;obtain⟨b',off',hA',hbb',d0,d1⟩:=(H'.out.below HB.out).at_ k hkl';dsimp only at hA hA';subst hA hA';have hr:=(H.out.below HB.out).each _ (List.getElem_mem hkl);have hr':=(H'.out.below HB.out).each _ (List.getElem_mem hkl');have hc:=He.out k hkl hkl';generalize rows[k]=r at *;generalize rows'[k]=r' at *;clear hkl hkl';obtain⟨we,gv,⟨A7,n7,c7⟩⟩:=r;obtain⟨we',gv',⟨A8,n8,c8⟩⟩:=r';simp only[RwM.core,RwM.mk.injEq,and_true]at hc;obtain⟨rfl,rfl⟩:=hc;dsimp only at c0 c1' d0 d1;have hwe:(we' != we')=false:=by simp
   have KS:Hid (∀q,Calls Tryz.prog 99 #[.slice A7 n7 c7,.slice A8 n8 c8] (wr.drewN q) fun e w'=>e=.returned (.bool true)∧∃m,w'=(wr.drewN q).drewN m):=fun q=>rsam (s:=⟨A7,n7,c7⟩) (s':=⟨A8,n8,c8⟩) (PrV.below hr (bel_drewN (Below.refl _ _) q)) (PrV.below hr' (bel_drewN (Below.refl _ _) q))
   have k0:(0:Int)<=(k:Int):=by omega
   have k1:(k:Int)<(n1:Int):=by omega
   clear hr hr';go_wp2_with fail;go_quiet ((go_at_call 99;refine Calls.quiet_of (KS.out _)));have HF:=iH (bel_drewN HB.out nq);generalize wr.drewN nq=W at *;clear c0 c1' d0 d1 f1 f2 HB;go_wp2_with fail;go_roundw
   case rel=>exact⟨k+1,by omega,by go_num,HF.out⟩
   case measure=>simp[intOf];omega
  ·have HF:=iH (HX.out.trans (HB.out.mono HX.out.size));clear HB;go_wp2_with fail;go_ret;exact⟨rfl,HF.out⟩
theorem REqual_eq {w : World} {a b : CatM} (ha : a.Ok w) (hb : b.Ok w) (he : b.core = a.core) : Calls Tryz.prog 20 #[a.val, b.val] w (fun e w' => e = .returned (.bool true) ∧ Below w.heap.size w w') := by
 obtain⟨i1,r1,t1,x1,⟨Ai,ni,aic⟩,⟨Ar,nr,arc⟩,⟨At,nt,atc⟩,⟨Ax,nx,axc⟩⟩:=a;obtain⟨i2,r2,t2,x2,⟨Bi,mi,bic⟩,⟨Br,mr,brc⟩,⟨Bt,mt,btc⟩,⟨Bx,mx,bxc⟩⟩:=b;simp only[CatM.core,CatM.mk.injEq,and_true]at he;obtain⟨rfl,q2,q3,q4⟩:=he;have hni:ni=mi:=by have u1:ni=i2.length:=ha.items.len;have u2:mi=i2.length:=hb.items.len;omega
 have si:ni<=100000:=ha.items.small;have Hni:Hid (ni=i2.length):=ha.items.len;have hlr:r2.length=r1.length:=by have:=congrArg List.length q2;simpa using this
 have Hlr:=iH hlr;have hnr:nr=mr:=by have u1:nr=r1.length:=ha.rules.len;have u2:mr=r2.length:=hb.rules.len;omega
 have sr:nr<=100000:=ha.rules.small;have Hnr:Hid (nr=r1.length):=ha.rules.len;have hlt:t2.length=t1.length:=by have:=congrArg List.length q3;simpa using this
 have Hlt:=iH hlt;have hnt:nt=mt:=by have u1:nt=t1.length:=ha.tables.len;have u2:mt=t2.length:=hb.tables.len;omega
 have st:nt<=100000:=ha.tables.small;have Hnt:Hid (nt=t1.length):=ha.tables.len;have hlx:x2.length=x1.length:=by have:=congrArg List.length q4;simpa using this
 have Hlx:=iH hlx;have hnx:nx=mx:=by have u1:nx=x1.length:=ha.taxes.len;have u2:mx=x2.length:=hb.taxes.len;omega
 have sx:nx<=100000:=ha.taxes.small;have Hnx:Hid (nx=x1.length):=ha.taxes.len;subst hni hnr hnt hnx;have Her:Hid (∀k (h1:k<r1.length) (h2:k<r2.length),(r2[k]).core=(r1[k]).core):=by
  show ∀k (h1:k<r1.length) (h2:k<r2.length),(r2[k]).core=(r1[k]).core;intro k h1 h2;have:=congrArg (fun x=>x[k]?) q2;simpa[h1,h2]using this
 have Het:Hid (∀k (h1:k<t1.length) (h2:k<t2.length),(t2[k]).core=(t1[k]).core):=by
  show ∀k (h1:k<t1.length) (h2:k<t2.length),(t2[k]).core=(t1[k]).core;intro k h1 h2;have:=congrArg (fun x=>x[k]?) q3;simpa[h1,h2]using this
 have Hex:Hid (∀k (h1:k<x1.length) (h2:k<x2.length),(x2[k]).core=(x1[k]).core):=by
  show ∀k (h1:k<x1.length) (h2:k<x2.length),(x2[k]).core=(x1[k]).core;intro k h1 h2;have:=congrArg (fun x=>x[k]?) q4;simpa[h1,h2]using this
 have X0:Below w.heap.size w ((w.alloc (.cells #[.slice Ai ni aic,.slice Ar nr arc,.slice At nt atc,.slice Ax nx axc] 28)).alloc (.cells #[.slice Bi ni bic,.slice Br nr brc,.slice Bt nt btc,.slice Bx nx bxc] 28)):=((Below.refl _ _).alloc (Nat.le_refl _) _).alloc (by simp) _;have B1:=(Bk.new w 28 [.slice Ai ni aic,.slice Ar nr arc,.slice At nt atc,.slice Ax nx axc]).alloc (.cells #[.slice Bi ni bic,.slice Br nr brc,.slice Bt nt btc,.slice Bx nx bxc] 28);have B2:=Bk.new (w.alloc (.cells #[.slice Ai ni aic,.slice Ar nr arc,.slice At nt atc,.slice Ax nx axc] 28)) 28 [.slice Bi ni bic,.slice Br nr brc,.slice Bt nt btc,.slice Bx nx bxc];rw[World.size_alloc]at B2;have HA:=iH (ha.below X0);have HA':=iH (hb.below X0);have HX:=iH X0;have HB1:=iH B1;have HB2:=iH B2;clear X0 B1 B2 ha hb q2 q3 q4 hlr hlt hlx;have ei:((ni:Int) != (ni:Int))=false:=by simp
 have er:((nr:Int) != (nr:Int))=false:=by simp
 have et:((nt:Int) != (nt:Int))=false:=by simp
 have ex:((nx:Int) != (nx:Int))=false:=by simp
 go_enter Tryz.func20,Tryz.ntmps20;go_wp2_with fail;obtain⟨g1,hg1⟩:∃g1,w.heap.size=g1:=⟨_,rfl⟩;have hg2:w.heap.size+1=g1+1:=by rw[hg1]
 generalize(w.alloc (.cells #[.slice Ai ni aic,.slice Ar nr arc,.slice At nt atc,.slice Ax nx axc] 28)).alloc (.cells #[.slice Bi ni bic,.slice Br nr brc,.slice Bt nt btc,.slice Bx nx bxc] 28)=W0 at HX HB1 HB2 HA HA'⊢;rw[hg1]at HB1;rw[hg2]at HB2;(try rw[hg2]);(try rw[hg1]);clear hg2 ei er et ex;go_loopw [5] (fun i wr=>∃k:Nat,k<=ni∧i=.int .i64 k∧Below W0.heap.size W0 wr) (fun i _=>ni-(intOf i).toNat)
 case atStart=>exact⟨0,Nat.zero_le _,rfl,Below.refl _ _⟩
 case round =>
  obtain⟨k,hk,rfl,hb⟩:=hrel;have C1:=HB1.out.below hb HB1.out.lt;have C2:=HB2.out.below hb HB2.out.lt;have f1:=C1.k0;have f2:=C2.k0;have l1:=C1.lt;have l2:=C2.lt;have HB:=iH hb;clear C1 C2 hb;by_cases hlt:k<ni
  ·have hkl:k<i2.length:=by have:=Hni.out;omega
   obtain⟨b,off,hA,hbb,c0,c1,c2,c3,c4,c5,c6⟩:=(HA.out.items.below HB.out).at_ k hkl;obtain⟨b',off',hA',hbb',d0,d1,d2,d3,d4,d5,d6⟩:=(HA'.out.items.below HB.out).at_ k hkl;dsimp only at hA hA';subst hA hA';generalize i2[k].name=y0 at *;generalize i2[k].object=y1 at *;generalize i2[k].mixed=y2 at *;generalize i2[k].coin=y3 at *;generalize i2[k].wear=y4 at *;generalize i2[k].bnd=y5 at *;generalize i2[k].level=y6 at *;clear hkl;have k0:(0:Int)<=(k:Int):=by omega
   have k1:(k:Int)<(ni:Int):=by omega
   have hne:=fun W=>neq89 y0 y1 y2 y3 y4 y5 y6 W
   go_wp2_with fail;go_quiet (fail);have HF:=iH (bel_drewN HB.out nq);generalize wr.drewN nq=W at *;clear c0 c1 c2 c3 c4 c5 c6 d0 d1 d2 d3 d4 d5 d6 f1 f2 HB;go_wp2_with fail;go_roundw
   case rel=>exact⟨k+1,by omega,by go_num,HF.out⟩
   case measure=>simp[intOf];omega
  ·clear l1 l2;go_wp2_with fail;clear f1 f2;go_loopw [6] (fun i wr=>∃k:Nat,k<=nr∧i=.int .i64 k∧Below W0.heap.size W0 wr) (fun i _=>nr-(intOf i).toNat)
   case atStart=>exact⟨0,Nat.zero_le _,rfl,HB.out⟩
   case round =>
    clear HB hk hlt;obtain⟨k,hk,rfl,hb⟩:=hrel;have C1:=HB1.out.below hb HB1.out.lt;have C2:=HB2.out.below hb HB2.out.lt;have f1:=C1.k1;have f2:=C2.k1;have l1:=C1.lt;have l2:=C2.lt;have HB:=iH hb;clear C1 C2 hb;by_cases hlt:k<nr
    ·have hkl:k<r1.length:=by have:=Hnr.out;omega
     have hkl':k<r2.length:=by have:=Hlr.out;omega
     obtain⟨b,off,hA,hbb,c0,c1,c2,c3,c4,c5,c6,c7,c8⟩:=(HA.out.rules.below HB.out).at_ k hkl;obtain⟨b',off',hA',hbb',d0,d1,d2,d3,d4,d5,d6,d7,d8⟩:=(HA'.out.rules.below HB.out).at_ k hkl';dsimp only at hA hA';subst hA hA';have hr:=(HA.out.rules.below HB.out).each _ (List.getElem_mem hkl);have hr':=(HA'.out.rules.below HB.out).each _ (List.getElem_mem hkl');have hc:=Her.out k hkl hkl';generalize r1[k]=r at *;generalize r2[k]=r' at *;clear hkl hkl';have KC:=iH (req_ru r r' (RuM.okb hr (Below.refl _ wr).drew) (RuM.okb hr' (Below.refl _ wr).drew) hc);have k0:(0:Int)<=(k:Int):=by omega
     have k1:(k:Int)<(nr:Int):=by omega
     clear hr hr' hc;go_wp2_with fail;go_still_tail 10,(by kernel_rfl);change wpList _ _ _ _ _ wr.drew;go_wp2_with fail;(with_reducible refine KC.out.mono ?_);rintro e w1 ⟨rfl,hb1⟩;have HF:=iH (HB.out.drew.trans (hb1.mono HB.out.size));clear KC hb1 c0 c1 c2 c3 c4 c5 c6 c7 c8 d0 d1 d2 d3 d4 d5 d6 d7 d8 f1 f2 HB;go_wp2_with fail;go_roundw
     case rel=>exact⟨k+1,by omega,by go_num,HF.out⟩
     case measure=>simp[intOf];omega
    ·clear l1 l2;go_wp2_with fail;clear f1 f2;go_loopw [7] (fun i wr=>∃k:Nat,k<=nt∧i=.int .i64 k∧Below W0.heap.size W0 wr) (fun i _=>nt-(intOf i).toNat)
     case atStart=>exact⟨0,Nat.zero_le _,rfl,HB.out⟩
     case round =>
      clear HB hk hlt;obtain⟨k,hk,rfl,hb⟩:=hrel;have C1:=HB1.out.below hb HB1.out.lt;have C2:=HB2.out.below hb HB2.out.lt;have f1:=C1.k2;have f2:=C2.k2;have l1:=C1.lt;have l2:=C2.lt;have HB:=iH hb;clear C1 C2 hb;by_cases hlt:k<nt
      ·have hkl:k<t1.length:=by have:=Hnt.out;omega
       have hkl':k<t2.length:=by have:=Hlt.out;omega
       obtain⟨b,off,hA,hbb,c0,c1⟩:=(HA.out.tables.below HB.out).at_ k hkl;obtain⟨b',off',hA',hbb',d0,d1⟩:=(HA'.out.tables.below HB.out).at_ k hkl';dsimp only at hA hA';subst hA hA';have hr:=(HA.out.tables.below HB.out).each _ (List.getElem_mem hkl);have hr':=(HA'.out.tables.below HB.out).each _ (List.getElem_mem hkl');have hc:=Het.out k hkl hkl';generalize t1[k]=r at *;generalize t2[k]=r' at *;clear hkl hkl';have KC:=iH (req_tb r r' (TbM.okb hr (Below.refl _ wr).drew) (TbM.okb hr' (Below.refl _ wr).drew) hc);have k0:(0:Int)<=(k:Int):=by omega
       have k1:(k:Int)<(nt:Int):=by omega
       clear hr hr' hc;go_wp2_with fail;go_still_tail 10,(by kernel_rfl);change wpList _ _ _ _ _ wr.drew;go_wp2_with fail;(with_reducible refine KC.out.mono ?_);rintro e w1 ⟨rfl,hb1⟩;have HF:=iH (HB.out.drew.trans (hb1.mono HB.out.size));clear KC hb1 c0 c1 d0 d1 f1 f2 HB;go_wp2_with fail;go_roundw
       case rel=>exact⟨k+1,by omega,by go_num,HF.out⟩
       case measure=>simp[intOf];omega
      ·clear l1 l2;go_wp2_with fail;clear f1 f2;go_loopw [8] (fun i wr=>∃k:Nat,k<=nx∧i=.int .i64 k∧Below W0.heap.size W0 wr) (fun i _=>nx-(intOf i).toNat)
       case atStart=>exact⟨0,Nat.zero_le _,rfl,HB.out⟩
       case round =>
        clear HB hk hlt;obtain⟨k,hk,rfl,hb⟩:=hrel;have C1:=HB1.out.below hb HB1.out.lt;have C2:=HB2.out.below hb HB2.out.lt;have f1:=C1.k3;have f2:=C2.k3;have l1:=C1.lt;have l2:=C2.lt;have HB:=iH hb;clear C1 C2 hb;by_cases hlt:k<nx
        ·have hkl:k<x1.length:=by have:=Hnx.out;omega
         have hkl':k<x2.length:=by have:=Hlx.out;omega
         obtain⟨b,off,hA,hbb,c0,c1⟩:=(HA.out.taxes.below HB.out).at_ k hkl;obtain⟨b',off',hA',hbb',d0,d1⟩:=(HA'.out.taxes.below HB.out).at_ k hkl';dsimp only at hA hA';subst hA hA';have hr:=(HA.out.taxes.below HB.out).each _ (List.getElem_mem hkl);have hr':=(HA'.out.taxes.below HB.out).each _ (List.getElem_mem hkl');have hc:=Hex.out k hkl hkl';generalize x1[k]=r at *;generalize x2[k]=r' at *;clear hkl hkl';have KC:=iH (req_tx r r' (TxM.okb hr (Below.refl _ wr).drew) (TxM.okb hr' (Below.refl _ wr).drew) hc);have k0:(0:Int)<=(k:Int):=by omega
         have k1:(k:Int)<(nx:Int):=by omega
         clear hr hr' hc;go_wp2_with fail;go_still_tail 10,(by kernel_rfl);change wpList _ _ _ _ _ wr.drew;go_wp2_with fail;(with_reducible refine KC.out.mono ?_);rintro e w1 ⟨rfl,hb1⟩;have HF:=iH (HB.out.drew.trans (hb1.mono HB.out.size));clear KC hb1 c0 c1 d0 d1 f1 f2 HB;go_wp2_with fail;go_roundw
         case rel=>exact⟨k+1,by omega,by go_num,HF.out⟩
         case measure=>simp[intOf];omega
        ·clear l1 l2;have HF:=iH (HX.out.trans (HB.out.mono HX.out.size));clear HB;go_wp2_with fail;go_ret;exact⟨rfl,HF.out⟩
abbrev CatM.cells (m:CatM):List Value:=[.slice m.si.A m.si.n m.si.c,.slice m.sr.A m.sr.n m.sr.c,.slice m.st.A m.st.n m.st.c,.slice m.sx.A m.sx.n m.sx.c]
theorem CatM.len (m:CatM):m.cells.length=4:=rfl
def ccells (l:List CatM):List Value:=l.flatMap CatM.cells
theorem ccells_snoc (l:List CatM) (m:CatM):ccells (l ++ [m])=ccells l ++ m.cells:=by simp[ccells]
def scells (l:List Sl):List Value:=l.map fun s=>.slice s.A s.n s.c
theorem scells_snoc (l:List Sl) (s:Sl):scells (l ++ [s])=scells l ++ [.slice s.A s.n s.c]:=by simp[scells]
def TosT (W:World) (s:Sl) (ts:List Tr):Prop:=(∃t,(t=64∨t=68)∧TRow W t s.A (tcells ts))∧s.n=ts.length
theorem TosT.keep {W W':World} {s:Sl} {ts:List Tr} (h:TosT W s ts) (h1:Keep 64 W W') (h2:Keep 68 W W'):TosT W' s ts:=by
 obtain⟨⟨t,ht,hr⟩,hn⟩:=h;refine⟨⟨t,ht,?_⟩,hn⟩;rcases ht with rfl|rfl
 ·exact hr.keep h1
 ·exact hr.keep h2
theorem TosT.below {W W':World} {s:Sl} {ts:List Tr} (h:TosT W s ts) (hb:Below W.heap.size W W'):TosT W' s ts:=h.keep (.below hb) (.below hb)
theorem TosT.tosV {W:World} {s:Sl} {ts:List Tr} (h:TosT W s ts):TosV W s.A s.n ts:=by
 obtain⟨⟨t,_,hr⟩,hn⟩:=h;refine⟨?_,hn⟩;rcases hr with hr|⟨b,off,cur,fl,hA,hb,hc⟩
 ·exact .inl hr
 ·exact .inr ⟨b,off,hA,(Array.getElem?_eq_some_iff.1 hb).1,fun j u hu=>by simpa[World.cell?,hb]using hc j u hu⟩
theorem FR.tosT {w w':World} {A:Option Addr} {ts:List Tr} {n:Nat} (c:Nat) (h:FR w w' A (tcells ts)) (hn:n=ts.length):TosT w' ⟨A,n,c⟩ ts:=by
 rcases h with h|⟨g,cur,t,fl,hA,_,ht,hh,hc⟩
 ·exact⟨⟨64,.inl rfl,.inl h⟩,hn⟩
 ·refine⟨⟨t,ht,.inr ⟨g,0,cur,fl,hA,hh,fun j u hu=>?_⟩⟩,hn⟩;have:=hc j u hu;simpa[World.cell?,hh]using this
structure HistS (W : World) (B h : Nat) (vc vh : Value) (ms : List CatM) (sls : List Sl) (chs : List (List Tr)) : Prop where
 ge:B<=h
 bk:Bk W h 143 [vc,vh]
 rc:W.ownsRow B 28 4 vc ms.length (ccells ms)
 rh:W.ownsRow B 33 1 vh sls.length (scells sls)
 cats:∀m∈ms,m.Ok W
 num:sls.length=chs.length
 chg:∀(i:Nat) (s:Sl) (ts:List Tr),sls[i]? = some s->chs[i]? = some ts->TosT W s ts
theorem HistS.below {W W':World} {B h:Nat} {vc vh:Value} {ms:List CatM} {sls:List Sl} {chs:List (List Tr)} (H:HistS W B h vc vh ms sls chs) (hb:Below W.heap.size W W'):HistS W' B h vc vh ms sls chs :=
 ⟨H.ge,H.bk.below hb H.bk.lt,own_below H.rc hb,own_below H.rh hb,fun m hm=>(H.cats m hm).below hb,H.num,fun i s ts h1 h2=>(H.chg i s ts h1 h2).below hb⟩
def StartC (w:World) (m:CatM) (e:Ending) (w':World):Prop :=
 if codeC m=0 then(∃h g m',e=.returned (.tuple #[.pointer (some ⟨h,0,none⟩),.int .i64 0])∧HistS w' w.heap.size h (.slice (some ⟨g,0,none⟩) 1 1) (.slice none 0 0) [m'] [] []∧m'.core=m.core∧Below w.heap.size w w')
 else e=.returned (.tuple #[.pointer none,.int .i64 (codeC m)])∧Below w.heap.size w w'
theorem StartC.good {w w':World} {m:CatM} {e:Ending} (hq:codeC m=0) (h:∃h g m',e=.returned (.tuple #[.pointer (some ⟨h,0,none⟩),.int .i64 0])∧HistS w' w.heap.size h (.slice (some ⟨g,0,none⟩) 1 1) (.slice none 0 0) [m'] [] []∧m'.core=m.core∧Below w.heap.size w w'):StartC w m e w':=by
 unfold StartC;rw[if_pos hq];exact h
theorem StartC.bad {w w':World} {m:CatM} {e:Ending} {q:Int} (hq:codeC m=q) (h:q≠0) (he:e=.returned (.tuple #[.pointer none,.int .i64 q])) (hb:Below w.heap.size w w'):StartC w m e w':=by
 unfold StartC;rw[if_neg (by rw[hq];exact h),hq];exact⟨he,hb⟩
theorem start_cat {w:World} {m:CatM} (hm:m.Ok w) (hT:Tab w):Calls Tryz.prog 34 #[.agg #[.slice m.si.A m.si.n m.si.c,.slice m.sr.A m.sr.n m.sr.c,.slice m.st.A m.st.n m.st.c,.slice m.sx.A m.sx.n m.sx.c]] w (StartC w m):=by
 have y:Below w.heap.size w (w.alloc (.cells #[.slice m.si.A m.si.n m.si.c,.slice m.sr.A m.sr.n m.sr.c,.slice m.st.A m.st.n m.st.c,.slice m.sx.A m.sx.n m.sx.c] 28)):=(Below.refl _ _).alloc (Nat.le_refl _) _;have HB:=iH (Bk.new w 28 [.slice m.si.A m.si.n m.si.c,.slice m.sr.A m.sr.n m.sr.c,.slice m.st.A m.st.n m.st.c,.slice m.sx.A m.sx.n m.sx.c]);have Y:=iH y;have HM:=iH hm;have KV:=iH (valid_cat (hm.below y) (hT.below y hT.1));have c0:(w.alloc (.cells #[.slice m.si.A m.si.n m.si.c,.slice m.sr.A m.sr.n m.sr.c,.slice m.st.A m.st.n m.st.c,.slice m.sx.A m.sx.n m.sx.c] 28)).cell? ⟨w.heap.size,0,none⟩=some (.slice m.si.A m.si.n m.si.c):=HB.out.cell 0;have c1:(w.alloc (.cells #[.slice m.si.A m.si.n m.si.c,.slice m.sr.A m.sr.n m.sr.c,.slice m.st.A m.st.n m.st.c,.slice m.sx.A m.sx.n m.sx.c] 28)).cell? ⟨w.heap.size,1,none⟩=some (.slice m.sr.A m.sr.n m.sr.c):=HB.out.cell 1;have c2:(w.alloc (.cells #[.slice m.si.A m.si.n m.si.c,.slice m.sr.A m.sr.n m.sr.c,.slice m.st.A m.st.n m.st.c,.slice m.sx.A m.sx.n m.sx.c] 28)).cell? ⟨w.heap.size,2,none⟩=some (.slice m.st.A m.st.n m.st.c):=HB.out.cell 2;have c3:(w.alloc (.cells #[.slice m.si.A m.si.n m.si.c,.slice m.sr.A m.sr.n m.sr.c,.slice m.st.A m.st.n m.st.c,.slice m.sx.A m.sx.n m.sx.c] 28)).cell? ⟨w.heap.size,3,none⟩=some (.slice m.sx.A m.sx.n m.sx.c):=HB.out.cell 3;have cl:=HB.out.lt;clear y hm hT;generalize hq:codeC m=q at *;have HC:=iH hq;clear hq;go_enter Tryz.func34,Tryz.ntmps34;go_wp2_with fail;refine KV.out.mono ?_;rintro e w1 ⟨rfl,hb⟩;have Y1:=iH (Y.out.trans (hb.mono Y.out.size));have HB1:=iH (HB.out.below hb HB.out.lt);clear KV hb c0 c1 c2 c3 cl HB Y;by_cases h0:q=0
 ·subst h0;have KC:=iH (copy_cat m (HM.out.below Y1.out));have c0:=HB1.out.k0;have c1:=HB1.out.k1;have c2:=HB1.out.k2;have c3:=HB1.out.k3;have cl:=HB1.out.lt;go_wp2_with fail;refine KC.out.mono ?_;rintro e w2 ⟨m2,rfl,hc,hb⟩;have Y2:=iH (Y1.out.trans (hb.mono Y1.out.size));have hok:=hc.ok (HM.out.below Y1.out);have y1:Below w2.heap.size w2 (w2.alloc (.cells #[.slice m2.si.A m2.si.n m2.si.c,.slice m2.sr.A m2.sr.n m2.sr.c,.slice m2.st.A m2.st.n m2.st.c,.slice m2.sx.A m2.sx.n m2.sx.c] 28)):=(Below.refl _ _).alloc (Nat.le_refl _) _;have y2:Below w2.heap.size w2 ((w2.alloc (.cells #[.slice m2.si.A m2.si.n m2.si.c,.slice m2.sr.A m2.sr.n m2.sr.c,.slice m2.st.A m2.st.n m2.st.c,.slice m2.sx.A m2.sx.n m2.sx.c] 28)).alloc (.cells #[.slice (some ⟨w2.heap.size,0,none⟩) 1 1,.slice none 0 0] 143)):=y1.alloc y1.size _;have Y3:=iH (Y2.out.trans (y2.mono Y2.out.size));have hrow:=World.ownsRow_lit (base:=w.heap.size) (e:=28) (size:=4) w2 #[.slice m2.si.A m2.si.n m2.si.c,.slice m2.sr.A m2.sr.n m2.sr.c,.slice m2.st.A m2.st.n m2.st.c,.slice m2.sx.A m2.sx.n m2.sx.c] 1 Y2.out.size (by decide) rfl;have hh:=Bk.new (w2.alloc (.cells #[.slice m2.si.A m2.si.n m2.si.c,.slice m2.sr.A m2.sr.n m2.sr.c,.slice m2.st.A m2.st.n m2.st.c,.slice m2.sx.A m2.sx.n m2.sx.c] 28)) 143 [.slice (some ⟨w2.heap.size,0,none⟩) 1 1,.slice none 0 0];rw[World.size_alloc]at hh;have HH:Hid (HistS ((w2.alloc (.cells #[.slice m2.si.A m2.si.n m2.si.c,.slice m2.sr.A m2.sr.n m2.sr.c,.slice m2.st.A m2.st.n m2.st.c,.slice m2.sx.A m2.sx.n m2.sx.c] 28)).alloc (.cells #[.slice (some ⟨w2.heap.size,0,none⟩) 1 1,.slice none 0 0] 143)) w.heap.size (w2.heap.size+1) (.slice (some ⟨w2.heap.size,0,none⟩) 1 1) (.slice none 0 0) [m2] [] []) :=
   iH ⟨by have:=Y2.out.size;omega,hh,own_below hrow ((Below.refl _ _).alloc (Nat.le_refl _) _),World.ownsRow_nil _ _ _ _,fun x hx=>by
    obtain rfl:x=m2:=by simpa using hx
    exact hok.below y2,rfl,fun i s ts h=>by simp at h⟩
  have HCo:=iH hc.core;clear KC hc hb hok y1 y2 hrow hh c0 c1 c2 c3 cl;go_wp2;go_ret2;refine StartC.good HC.out ⟨_,_,m2,rfl,HH.out,HCo.out,Y3.out⟩
 ·go_wp2;go_ret2;refine StartC.bad HC.out h0 rfl Y1.out
theorem laid4 {w V:World} {r:Nat} {m:CatM} {x0 x1 x2 x3:Value} (hr:Bk V r 28 [x0,x1,x2,x3]) (hw:w.heap.size<=r) (hb:Below w.heap.size w V) :
 Bk ((((V.setCell ⟨r,0,none⟩ (.slice m.si.A m.si.n m.si.c)).setCell ⟨r,1,none⟩ (.slice m.sr.A m.sr.n m.sr.c)).setCell ⟨r,2,none⟩ (.slice m.st.A m.st.n m.st.c)).setCell ⟨r,3,none⟩ (.slice m.sx.A m.sx.n m.sx.c)) r 28 [.slice m.si.A m.si.n m.si.c,.slice m.sr.A m.sr.n m.sr.c,.slice m.st.A m.st.n m.st.c,.slice m.sx.A m.sx.n m.sx.c]∧Below w.heap.size w ((((V.setCell ⟨r,0,none⟩ (.slice m.si.A m.si.n m.si.c)).setCell ⟨r,1,none⟩ (.slice m.sr.A m.sr.n m.sr.c)).setCell ⟨r,2,none⟩ (.slice m.st.A m.st.n m.st.c)).setCell ⟨r,3,none⟩ (.slice m.sx.A m.sx.n m.sx.c)) :=
 ⟨(((hr.set 0 _).set 1 _).set 2 _).set 3 _,(((hb.setCell hw _).setCell hw _).setCell hw _).setCell hw _⟩
theorem laid4_ok {V:World} {r:Nat} {m m':CatM} {x0 x1 x2 x3:Value} (hr:Bk V r 28 [x0,x1,x2,x3]) (hm:m'.Ok V):m'.Ok ((((V.setCell ⟨r,0,none⟩ (.slice m.si.A m.si.n m.si.c)).setCell ⟨r,1,none⟩ (.slice m.sr.A m.sr.n m.sr.c)).setCell ⟨r,2,none⟩ (.slice m.st.A m.st.n m.st.c)).setCell ⟨r,3,none⟩ (.slice m.sx.A m.sx.n m.sx.c)):=by
 have s:∀(U:World) (ys:List Value) (k:Nat) (u:Value),Bk U r 28 ys->m'.Ok U->m'.Ok (U.setCell ⟨r,k,none⟩ u):=fun U ys k u hB h=>h.keeps fun t _ h2=>Keep.setCell hB (Ne.symm h2) u
 exact s _ _ _ _ (((hr.set 0 _).set 1 _).set 2 _) (s _ _ _ _ ((hr.set 0 _).set 1 _) (s _ _ _ _ (hr.set 0 _) (s _ _ _ _ hr hm)))
def AtC (W:World) (ms:List CatM) (i:Int) (e:Ending) (w':World):Prop :=
 ((i<0∨(ms.length:Int)<=i)∧e=.returned (.tuple #[.agg #[.slice none 0 0,.slice none 0 0,.slice none 0 0,.slice none 0 0],.int .i64 7])∧Below W.heap.size W w') ∨
 (∃(k:Nat) (hk:k<ms.length) (m2:CatM),i=k∧e=.returned (.tuple #[.agg #[.slice m2.si.A m2.si.n m2.si.c,.slice m2.sr.A m2.sr.n m2.sr.c,.slice m2.st.A m2.st.n m2.st.c,.slice m2.sx.A m2.sx.n m2.sx.c],.int .i64 0])∧m2.Ok w'∧m2.core=ms[k].core∧Below W.heap.size W w')
theorem at_cat {W:World} {B h:Nat} {vc vh:Value} {ms:List CatM} {sls:List Sl} {chs:List (List Tr)} (H:HistS W B h vc vh ms sls chs) (hms:ms.length<=100) (i:Int) :
 Calls Tryz.prog 39 #[.pointer (some ⟨h,0,none⟩),.int .i64 i] W (AtC W ms i):=by
 obtain⟨A,c,hv,-⟩:=row_of_owns H.rc;subst hv;have y:Below W.heap.size W (W.alloc (.cells #[.slice none 0 0,.slice none 0 0,.slice none 0 0,.slice none 0 0] 28)):=(Below.refl _ _).alloc (Nat.le_refl _) _;have HB:=iH (Bk.new W 28 [.slice none 0 0,.slice none 0 0,.slice none 0 0,.slice none 0 0]);have Y:=iH y;have HH:=iH (H.below y);have b0:(W.alloc (.cells #[.slice none 0 0,.slice none 0 0,.slice none 0 0,.slice none 0 0] 28)).cell? ⟨h,0,none⟩=some (.slice A ms.length c):=HH.out.bk.cell 0;have bl:=HH.out.bk.lt;have hhl:=H.bk.lt;have KL:=iH (last_any (by omega) b0);have hn0:(ms.length:Int)<=1000:=by omega
 have z0:(W.alloc (.cells #[.slice none 0 0,.slice none 0 0,.slice none 0 0,.slice none 0 0] 28)).cell? ⟨W.heap.size,0,none⟩=some (.slice none 0 0):=HB.out.cell 0;have fz0:=HB.out.frozen 0;have z1:(W.alloc (.cells #[.slice none 0 0,.slice none 0 0,.slice none 0 0,.slice none 0 0] 28)).cell? ⟨W.heap.size,1,none⟩=some (.slice none 0 0):=HB.out.cell 1;have fz1:=HB.out.frozen 1;have z2:(W.alloc (.cells #[.slice none 0 0,.slice none 0 0,.slice none 0 0,.slice none 0 0] 28)).cell? ⟨W.heap.size,2,none⟩=some (.slice none 0 0):=HB.out.cell 2;have fz2:=HB.out.frozen 2;have z3:(W.alloc (.cells #[.slice none 0 0,.slice none 0 0,.slice none 0 0,.slice none 0 0] 28)).cell? ⟨W.heap.size,3,none⟩=some (.slice none 0 0):=HB.out.cell 3;have fz3:=HB.out.frozen 3;have zl:=HB.out.lt;clear y H;generalize hl:ms.length=n at *;have HN:=iH hl;clear hl;by_cases h0:i<0
 ·have HI:Hid (i<0∨(ms.length:Int)<=i):=iH (.inl h0);clear KL;go_enter Tryz.func39,Tryz.ntmps39;go_wp2;refine bodyPost_ret (v:=.tuple #[.agg #[.slice none 0 0,.slice none 0 0,.slice none 0 0,.slice none 0 0],.int .i64 7]) (by simp[results,Tryz.results39,go_sem,z0,z1,z2,z3]) rfl ?_;exact .inl ⟨HI.out,rfl,Y.out⟩
 ·by_cases h1:(n:Int)-1<i
  ·have HI:Hid (i<0∨(ms.length:Int)<=i):=iH (.inr (by have:=HN.out;omega));go_enter Tryz.func39,Tryz.ntmps39;go_wp2_with fail;refine KL.out.mono ?_;rintro e w' ⟨rfl,rfl⟩;clear KL;go_wp2;refine bodyPost_ret (v:=.tuple #[.agg #[.slice none 0 0,.slice none 0 0,.slice none 0 0,.slice none 0 0],.int .i64 7]) (by simp[results,Tryz.results39,go_sem,z0,z1,z2,z3]) rfl ?_;exact .inl ⟨HI.out,rfl,Y.out⟩
  ·obtain⟨k,rfl⟩:∃k:Nat,i=k:=⟨i.toNat,by omega⟩;have hk:k<ms.length:=by have:=HN.out;omega
   have HI:=iH hk;have hrc:=HH.out.rc;rw[HN.out]at hrc;have htr:=TRow.of_own hrc;obtain⟨b,off,rfl,hbb,hc⟩:=TRow.at_ CatM.len htr k hk (by omega);have e0:(W.alloc (.cells #[.slice none 0 0,.slice none 0 0,.slice none 0 0,.slice none 0 0] 28)).cell? ⟨b,off+k*4,none⟩=some (.slice ms[k].si.A ms[k].si.n ms[k].si.c):=hc 0 _ rfl;have e1:(W.alloc (.cells #[.slice none 0 0,.slice none 0 0,.slice none 0 0,.slice none 0 0] 28)).cell? ⟨b,off+k*4+1,none⟩=some (.slice ms[k].sr.A ms[k].sr.n ms[k].sr.c):=hc 1 _ rfl;have e2:(W.alloc (.cells #[.slice none 0 0,.slice none 0 0,.slice none 0 0,.slice none 0 0] 28)).cell? ⟨b,off+k*4+2,none⟩=some (.slice ms[k].st.A ms[k].st.n ms[k].st.c):=hc 2 _ rfl;have e3:(W.alloc (.cells #[.slice none 0 0,.slice none 0 0,.slice none 0 0,.slice none 0 0] 28)).cell? ⟨b,off+k*4+3,none⟩=some (.slice ms[k].sx.A ms[k].sx.n ms[k].sx.c):=hc 3 _ rfl;have KC:=iH (copy_cat ms[k] (HH.out.cats _ (List.getElem_mem hk)));have HO:=iH (HH.out.cats _ (List.getElem_mem hk));have hkn:k<n:=by omega
   clear htr hc hrc;generalize hm:ms[k]'HI.out=m at *;have HM:=iH hm;clear hm;go_enter Tryz.func39,Tryz.ntmps39;go_wp2_with fail;refine KL.out.mono ?_;rintro e w' ⟨rfl,rfl⟩;clear KL;go_wp2_with fail;refine KC.out.mono ?_;rintro e w2 ⟨m2,rfl,hc,hb⟩;have Y2:=iH (Y.out.trans (hb.mono Y.out.size));have HB2:=iH (HB.out.below hb HB.out.lt);have HO2:=iH (hc.ok HO.out);have HCo:=iH hc.core;clear KC hc hb e0 e1 e2 e3 z0 z1 z2 z3 fz0 fz1 fz2 fz3 zl b0 bl HB Y;have z0:=HB2.out.k0;have fz0:=HB2.out.frozen 0;have z1:=HB2.out.k1;have fz1:=HB2.out.frozen 1;have z2:=HB2.out.k2;have fz2:=HB2.out.frozen 2;have z3:=HB2.out.k3;have fz3:=HB2.out.frozen 3;have zl:=HB2.out.lt;go_wp2;have HX:=laid4 (r:=W.heap.size) (m:=m2) HB2.out (Nat.le_refl _) Y2.out;have HOX:=laid4_ok (m:=m2) HB2.out HO2.out;generalize(((w2.setCell ⟨W.heap.size,0,none⟩ (.slice m2.si.A m2.si.n m2.si.c)).setCell ⟨W.heap.size,1,none⟩ (.slice m2.sr.A m2.sr.n m2.sr.c)).setCell ⟨W.heap.size,2,none⟩ (.slice m2.st.A m2.st.n m2.st.c)).setCell ⟨W.heap.size,3,none⟩ (.slice m2.sx.A m2.sx.n m2.sx.c)=X at *;have ⟨x0,x1,x2,x3,xl⟩:=HX.1.p4;refine bodyPost_ret (v:=.tuple #[.agg #[.slice m2.si.A m2.si.n m2.si.c,.slice m2.sr.A m2.sr.n m2.sr.c,.slice m2.st.A m2.st.n m2.st.c,.slice m2.sx.A m2.sx.n m2.sx.c],.int .i64 0]) (by simp[results,Tryz.results39,go_sem,x0,x1,x2,x3]) rfl ?_;exact .inr ⟨k,HI.out,m2,rfl,rfl,HOX,by rw[HM.out];exact HCo.out,HX.2⟩
theorem all_map {α:Type} {l:List α} {f:α->α} {p:α->Bool} (h:∀x,p (f x)=p x):(l.map f).all p=l.all p:=by
 induction l with
 | nil=>rfl
 | cons x xs ih=>simp[h,ih]
theorem map_map_id {α β:Type} {l:List α} {f:α->α} {g:α->β} (h:∀x,g (f x)=g x):(l.map f).map g=l.map g:=by
 rw[List.map_map];exact List.map_congr_left fun x _=>h x
theorem code_core (m:CatM):codeC m.core=codeC m:=by
 have h1:limC m.core=limC m:=by
  simp only[limC,CatM.core,List.length_map];rw[all_map (f:=RuM.core) (p:=ruLim) (fun _=>rfl),all_map (f:=TbM.core) (p:=tbLim) (fun t=>by simp[tbLim,TbM.core]),all_map (f:=TxM.core) (p:=txLim) (fun _=>rfl)];rfl
 have h2:fitB m.core=fitB m:=by
  simp only[fitB,CatM.core];rw[all_map (f:=RuM.core) (fun _=>rfl),all_map (f:=TbM.core) (fun _=>rfl),all_map (f:=TxM.core) (fun _=>rfl)]
 have h3:diffC m.core=diffC m:=by
  simp only[diffC,CatM.core];rw[map_map_id (f:=RuM.core) (fun _=>rfl),map_map_id (f:=TbM.core) (fun _=>rfl),map_map_id (f:=TxM.core) (fun _=>rfl)]
 have h4:wfC m.core=wfC m:=by
  simp only[wfC,CatM.core];rw[all_map (f:=RuM.core) (fun _=>rfl),all_map (f:=TbM.core) (fun t=>by unfold wfT;simp only[TbM.core,List.length_map];rw[all_map (f:=RwM.core) (fun _=>rfl)]),all_map (f:=TxM.core) (fun _=>rfl)]
 have h5:rgC m.core=rgC m:=by
  simp only[rgC,CatM.core];rw[all_map (f:=RuM.core) (fun _=>rfl),all_map (f:=TbM.core) (fun t=>by unfold rgT;simp only[TbM.core];rw[all_map (f:=RwM.core) (fun _=>rfl),all_map (f:=RwM.core) (fun _=>rfl)]),all_map (f:=TxM.core) (fun _=>rfl)]
 simp only[codeC,h1,h2,h3,h4,h5]
theorem code_of_core {m m':CatM} (h:m'.core=m.core):codeC m'=codeC m:=by rw[<- code_core m',h,code_core m]
theorem items_of_core {m m':CatM} (h:m'.core=m.core):m'.items=m.items:=by
 have:=congrArg CatM.items h;exact this
theorem newCE_core {a a' b b':CatM} (h:a'.core=a.core) (h2:b'.core=b.core) (rs:List Ren):newCE a' b' rs=newCE a b rs:=by
 unfold newCE codeBoth;rw[code_of_core h,code_of_core h2,items_of_core h,items_of_core h2]
theorem newCL_core {a a' b b':CatM} (h:a'.core=a.core) (h2:b'.core=b.core) (rs:List Ren):newCL a' b' rs=newCL a b rs:=by
 unfold newCL codeBoth;rw[code_of_core h,code_of_core h2,items_of_core h,items_of_core h2]
section
structure HKeep (W W' : World) (h : Nat) (vc vh : Value) : Prop where
 os:W'.os=W.os
 tape:W'.tape=W.tape
 output:W'.output=W.output
 size:W.heap.size<=W'.heap.size
 block:∀i,i<W.heap.size->i≠h->some i≠vc.ownBlock->some i≠vh.ownBlock->W'.heap[i]? = W.heap[i]?
def Moved (W:World) (v v':Value):Prop:=∀b,b<W.heap.size->v'.ownBlock=some b->v.ownBlock=some b
section
variable {W W' W'' : World} {B h : Nat} {vc vh vc' vh' : Value} {ms : List CatM} {sls : List Sl} {chs : List (List Tr)}
theorem Moved.refl (W:World) (v:Value):Moved W v v:=fun _ _ e=>e
theorem HKeep.of_below (hb:Below W.heap.size W W'):HKeep W W' h vc vh:=⟨hb.os,hb.tape,hb.output,hb.size,fun i hi _ _ _=>hb.block i hi⟩
theorem HKeep.trans (k:HKeep W W' h vc vh) (k2:HKeep W' W'' h vc' vh') (m1:Moved W vc vc') (m2:Moved W vh vh'):HKeep W W'' h vc vh :=
 ⟨k2.os.trans k.os,k2.tape.trans k.tape,k2.output.trans k.output,Nat.le_trans k.size k2.size,fun i hi h1 h2 h3 =>
  (k2.block i (Nat.lt_of_lt_of_le hi k.size) h1 (fun e=>h2 (m1 i hi e.symm).symm) (fun e=>h3 (m2 i hi e.symm).symm)).trans (k.block i hi h1 h2 h3)⟩
theorem HKeep.below {B0:Nat} (k:HKeep W W' h vc vh) (h0:B0<=W.heap.size) (h1:B0<=h) (h2:∀g,vc.ownBlock=some g->B0<=g) (h3:∀g,vh.ownBlock=some g->B0<=g):Below B0 W W' :=
 ⟨k.os,k.tape,k.output,k.size,fun i hi=>k.block i (by omega) (by omega) (fun e=>by have:=h2 i e.symm;omega) (fun e=>by have:=h3 i e.symm;omega)⟩
theorem HKeep.hist (k:HKeep W W' h vc vh) (H:HistS W B h vc vh ms sls chs) (hB:B<=W.heap.size):Below B W W':=k.below hB H.ge (row_base H.rc) (row_base H.rh)
theorem HKeep.keep {t:TypeId} (k:HKeep W W' h vc vh) (H:HistS W B h vc vh ms sls chs) (h1:t≠143) (h2:t≠28) (h3:t≠33):Keep t W W':=fun b cur fl hb=>by
 have hlt:=(Array.getElem?_eq_some_iff.1 hb).1;refine(k.block b hlt ?_ ?_ ?_).trans hb
 ·intro e;subst e;have:=H.bk;unfold Bk at this;rw[hb]at this;cases this;exact h1 rfl
 ·intro e;rcases H.rc.2 with ⟨hv,_⟩|⟨g,cap,c2,hv,_,hc,_⟩
  ·rw[hv]at e;cases e
  ·rw[hv]at e;cases e;rw[hb]at hc;cases hc;exact h2 rfl
 ·intro e;rcases H.rh.2 with ⟨hv,_⟩|⟨g,cap,c2,hv,_,hc,_⟩
  ·rw[hv]at e;cases e
  ·rw[hv]at e;cases e;rw[hb]at hc;cases hc;exact h3 rfl
theorem HKeep.bk {g:Nat} {xs:List Value} (k:HKeep W W' h vc vh) (H:HistS W B h vc vh ms sls chs) (hb:Bk W g 28 xs) (hne:vc.ownBlock≠some g):Bk W' g 28 xs:=by
 refine(k.block g hb.lt ?_ (fun e=>hne e.symm) (fun e=>row_neT H.rh hb (by decide) e.symm)).trans hb;intro e;subst e;have h1:=H.bk;unfold Bk at h1 hb;rw[hb]at h1;cases h1
theorem HKeep.own {B2 n:Nat} {v:Value} {xs:List Value} (k:HKeep W W' h vc vh) (H:HistS W B h vc vh ms sls chs) (ho:W.ownsRow B2 28 4 v n xs) (hne:∀b,vc.ownBlock=some b->v.ownBlock≠some b):W'.ownsRow B2 28 4 v n xs:=by
 refine⟨ho.1,?_⟩;rcases ho.2 with h0|⟨g,cap,cur,hv,hb,hc,hr⟩
 ·exact .inl h0
 ·refine .inr ⟨g,cap,cur,hv,hb,?_,hr⟩;have hbk:Bk W g 28 cur.toList:=by unfold Bk;rw[hc]
  have:=k.bk H hbk (fun e=>hne g e (by rw[hv];rfl));unfold Bk at this;rw[this]
theorem CatM.Ok.keep7 {m:CatM} (hm:m.Ok W) (k:∀t,t≠143->t≠28->t≠33->Keep t W W'):m.Ok W' :=
 ⟨hm.items.keep (k 89 (by decide) (by decide) (by decide)),hm.rules.keep (k 103 (by decide) (by decide) (by decide)) (k 136 (by decide) (by decide) (by decide)),
  hm.tables.keep (k 107 (by decide) (by decide) (by decide)) (k 109 (by decide) (by decide) (by decide)) (k 136 (by decide) (by decide) (by decide)),hm.taxes.keep (k 115 (by decide) (by decide) (by decide)) (k 129 (by decide) (by decide) (by decide))⟩
theorem HistS.addC {W8:World} {m:CatM} {n:Nat} (H:HistS W B h vc vh ms sls chs) (hg:W.grownBy W8 vc.ownBlock) (ho:W8.ownsRow B 28 4 vc' n (ccells ms ++ m.cells)) (hn:n=ms.length+1) (hm:m.Ok W) :
 Bk W8 h 143 [vc,vh]∧HistS (W8.setCell ⟨h,0,none⟩ vc') B h vc' vh (ms ++ [m]) sls chs∧HKeep W (W8.setCell ⟨h,0,none⟩ vc') h vc vh:=by
 have b8:Bk W8 h 143 [vc,vh]:=H.bk.grown hg (fun e=>row_neT H.rc H.bk (by decide) e.symm);have h8:=own_far H.rh H.rc (by decide) hg;have ne1:=row_neT ho b8 (by decide);have ne2:=row_neT h8 b8 (by decide);have kp:∀t,t≠143->t≠28->t≠33->Keep t W (W8.setCell ⟨h,0,none⟩ vc'):=fun t h1 h2 _=>(Keep.own H.rc hg (Ne.symm h2)).trans (Keep.setCell b8 (Ne.symm h1) _)
 refine⟨b8,⟨H.ge,b8.set 0 vc',?_,h8.kept (grown_setCell W8 h 0 _) (.inr ne2),fun x hx=>?_,H.num,fun i s ts h1 h2=>(H.chg i s ts h1 h2).keep (kp 64 (by decide) (by decide) (by decide)) (kp 68 (by decide) (by decide) (by decide))⟩,?_⟩
 ·rw[ccells_snoc,List.length_append,List.length_singleton,<- hn];exact ho.kept (grown_setCell W8 h 0 _) (.inr ne1)
 ·rcases List.mem_append.1 hx with hx | hx
  ·exact(H.cats x hx).keep7 kp
  ·rw[List.mem_singleton.1 hx];exact hm.keep7 kp
 ·have g8:=grown_setCell W8 h 0 vc';exact⟨g8.os.trans hg.os,g8.tape.trans hg.tape,g8.output.trans hg.output,Nat.le_trans hg.size g8.size,fun i hi h1 h2 _=>(g8.block i (Nat.lt_of_lt_of_le hi hg.size) (by simpa using h1)).trans (hg.block i hi h2)⟩
theorem HistS.addH {W8:World} {s:Sl} {ts:List Tr} {n:Nat} (H:HistS W B h vc vh ms sls chs) (hg:W.grownBy W8 vh.ownBlock) (ho:W8.ownsRow B 33 1 vh' n (scells sls ++ [.slice s.A s.n s.c])) (hn:n=sls.length+1) (hs:TosT W s ts) :
 Bk W8 h 143 [vc,vh]∧HistS (W8.setCell ⟨h,1,none⟩ vh') B h vc vh' ms (sls ++ [s]) (chs ++ [ts])∧HKeep W (W8.setCell ⟨h,1,none⟩ vh') h vc vh:=by
 have b8:Bk W8 h 143 [vc,vh]:=H.bk.grown hg (fun e=>row_neT H.rh H.bk (by decide) e.symm);have h8:=own_far H.rc H.rh (by decide) hg;have ne1:=row_neT ho b8 (by decide);have ne2:=row_neT h8 b8 (by decide);have kp:∀t,t≠143->t≠28->t≠33->Keep t W (W8.setCell ⟨h,1,none⟩ vh'):=fun t h1 _ h3=>(Keep.own H.rh hg (Ne.symm h3)).trans (Keep.setCell b8 (Ne.symm h1) _)
 refine⟨b8,⟨H.ge,b8.set 1 vh',h8.kept (grown_setCell W8 h 1 _) (.inr ne2),?_,fun x hx=>(H.cats x hx).keep7 kp,by simp[H.num],fun i s' ts' h1 h2=>?_⟩,?_⟩
 ·rw[scells_snoc,List.length_append,List.length_singleton,<- hn];exact ho.kept (grown_setCell W8 h 1 _) (.inr ne1)
 ·have k64:=kp 64 (by decide) (by decide) (by decide);have k68:=kp 68 (by decide) (by decide) (by decide);by_cases hi:i<sls.length
  ·rw[List.getElem?_append_left hi]at h1;rw[List.getElem?_append_left (by rw[<- H.num];exact hi)]at h2;exact(H.chg i s' ts' h1 h2).keep k64 k68
  ·have e1:i=sls.length:=by
    have:=(List.getElem?_eq_some_iff.1 h1).1;simp at this;omega
   subst e1;rw[List.getElem?_append_right (Nat.le_refl _)]at h1;rw[List.getElem?_append_right (by rw[H.num];exact Nat.le_refl _),<- H.num]at h2;simp at h1 h2;subst h1 h2;exact hs.keep k64 k68
 ·have g8:=grown_setCell W8 h 1 vh';exact⟨g8.os.trans hg.os,g8.tape.trans hg.tape,g8.output.trans hg.output,Nat.le_trans hg.size g8.size,fun i hi h1 _ h3=>(g8.block i (Nat.lt_of_lt_of_le hi hg.size) (by simpa using h1)).trans (hg.block i hi h3)⟩
end
def addE (a b:CatM) (rs:List Ren) (hs:List Int):Int :=
 if newCE a b rs≠0 then newCE a b rs else if hs.length≠a.items.length then 1 else if(missI (newCL a b rs) hs).isSome=true then 13 else 0
def addI (n:Nat) (a b:CatM) (rs:List Ren) (hs:List Int):Int :=
 if newCE a b rs≠0 then 0 else if hs.length≠a.items.length then 0 else match missI (newCL a b rs) hs with | some k=>(k:Int) | none=>(n:Int)
theorem addE_core {a a' b b':CatM} (h:a'.core=a.core) (h2:b'.core=b.core) (rs:List Ren) (hs:List Int):addE a' b' rs hs=addE a b rs hs:=by
 unfold addE;rw[newCE_core h h2,newCL_core h h2,items_of_core h]
theorem addI_core {a a' b b':CatM} (h:a'.core=a.core) (h2:b'.core=b.core) (n:Nat) (rs:List Ren) (hs:List Int):addI n a' b' rs hs=addI n a b rs hs:=by
 unfold addI;rw[newCE_core h h2,newCL_core h h2,items_of_core h]
def AddQ (W:World) (B h:Nat) (vc vh:Value) (ms:List CatM) (sls:List Sl) (chs:List (List Tr)) (a b:CatM) (rs:List Ren) (hs:List Int) (e:Ending) (W':World):Prop :=
 e=.returned (.tuple #[.int .i64 (addI ms.length a b rs hs),.int .i64 (addE a b rs hs)]) ∧
 ((addE a b rs hs≠0∧Below W.heap.size W W') ∨
  (addE a b rs hs=0∧∃(vc' vh':Value) (b':CatM) (s:Sl),HistS W' B h vc' vh' (ms ++ [b']) (sls ++ [s]) (chs ++ [newCL a b rs])∧b'.core=b.core∧s.n=(newCL a b rs).length∧HKeep W W' h vc vh∧Moved W vc vc'∧Moved W vh vh'))
theorem AddQ.e1 {W:World} {B h:Nat} {vc vh:Value} {ms:List CatM} {sls:List Sl} {chs:List (List Tr)} {a b:CatM} {rs:List Ren} {hs:List Int} {W':World} {q:Int} (h1:newCE a b rs=q) (h2:q≠0) (hb:Below W.heap.size W W') :
 AddQ W B h vc vh ms sls chs a b rs hs (.returned (.tuple #[.int .i64 0,.int .i64 q])) W':=by
 have e1:addE a b rs hs=q:=by unfold addE;rw[h1,if_pos h2]
 have e2:addI ms.length a b rs hs=0:=by unfold addI;rw[h1,if_pos h2]
 exact⟨by rw[e1,e2],.inl ⟨by rw[e1];exact h2,hb⟩⟩
theorem AddQ.e2 {W:World} {B h:Nat} {vc vh:Value} {ms:List CatM} {sls:List Sl} {chs:List (List Tr)} {a b:CatM} {rs:List Ren} {hs:List Int} {W':World} (h1:newCE a b rs=0) (h2:hs.length≠a.items.length) (hb:Below W.heap.size W W') :
 AddQ W B h vc vh ms sls chs a b rs hs (.returned (.tuple #[.int .i64 0,.int .i64 1])) W':=by
 have e1:addE a b rs hs=1:=by unfold addE;rw[h1,if_neg (by simp),if_pos h2]
 have e2:addI ms.length a b rs hs=0:=by unfold addI;rw[h1,if_neg (by simp),if_pos h2]
 exact⟨by rw[e1,e2],.inl ⟨by rw[e1];decide,hb⟩⟩
theorem AddQ.e3 {W:World} {B h:Nat} {vc vh:Value} {ms:List CatM} {sls:List Sl} {chs:List (List Tr)} {a b:CatM} {rs:List Ren} {hs:List Int} {W':World} {k:Nat} (h1:newCE a b rs=0) (h2:hs.length=a.items.length) (h3:missI (newCL a b rs) hs=some k) (hb:Below W.heap.size W W') :
 AddQ W B h vc vh ms sls chs a b rs hs (.returned (.tuple #[.int .i64 k,.int .i64 13])) W':=by
 have e1:addE a b rs hs=13:=by unfold addE;rw[h1,if_neg (by simp),if_neg (by simpa using h2),h3];rfl
 have e2:addI ms.length a b rs hs=k:=by unfold addI;rw[h1,if_neg (by simp),if_neg (by simpa using h2),h3]
 exact⟨by rw[e1,e2],.inl ⟨by rw[e1];decide,hb⟩⟩
theorem AddQ.ok {W:World} {B h:Nat} {vc vh vc' vh':Value} {ms:List CatM} {sls:List Sl} {chs:List (List Tr)} {a b b':CatM} {s:Sl} {rs:List Ren} {hs:List Int} {W':World} (h1:newCE a b rs=0) (h2:hs.length=a.items.length) (h3:missI (newCL a b rs) hs=none)
 (hH:HistS W' B h vc' vh' (ms ++ [b']) (sls ++ [s]) (chs ++ [newCL a b rs])) (hc:b'.core=b.core) (hsn:s.n=(newCL a b rs).length) (hk:HKeep W W' h vc vh) (m1:Moved W vc vc') (m2:Moved W vh vh') :
 AddQ W B h vc vh ms sls chs a b rs hs (.returned (.tuple #[.int .i64 (ms.length:Int),.int .i64 0])) W':=by
 have e1:addE a b rs hs=0:=by unfold addE;rw[h1,if_neg (by simp),if_neg (by simpa using h2),h3];rfl
 have e2:addI ms.length a b rs hs=ms.length:=by unfold addI;rw[h1,if_neg (by simp),if_neg (by simpa using h2),h3]
 exact⟨by rw[e1,e2],.inr ⟨e1,vc',vh',b',s,hH,hc,hsn,hk,m1,m2⟩⟩
end
end Go.Proofs.YthjfdfdgbpbanaaGreatDoor

/- The arguments opened, the table of kinds. What a row's end wants: the tables, a world for the witness, five and six parameters opened and shut. -/
import Derived.Test.YtocodlpgaamblaaGreatDoorL1
import Derived.Test.YtocodlpgaamblaaGreatDoorL11
import Derived.RegionTactic
import Derived.StillTailTactics
import Derived.BigQuiet
import Derived.OrdersHeld
import Derived.Deep.MidRow
import Derived.Test.YtocodlpgaamblaaGreatDoorCards
import Derived.Test.YtocodlpgaamblaaGreatDoorTie
import Derived.WalkKit
import Derived.ProofKit
import Derived.OpenShut
import Derived.Deep.DeepHandedRow
import Derived.Lib.LaidTab
import Derived.LaidSub
set_option linter.unusedVariables false
set_option linter.unusedSimpArgs false
set_option maxRecDepth 100000
open Go.RowKit
namespace Go.Proofs.YtocodlpgaamblaaGreatDoor
section
open Go.ChangeAt Go.ChangeShapes Go.WideShapes
set_option linter.unusedVariables false
set_option linter.unusedSimpArgs false
section
theorem ownOff:ownKnob Tryz.prog.godebug=none:=by kernel_rfl
theorem laidOutAll:laidOutB Tryz.prog=true:=by kernel_rfl
theorem gKinds : Tryz.prog.globalNamed "worldmint/lexer.kinds" = some 1 := by kernel_rfl
theorem cellsInt:Tryz.prog.cellsOf 3=1:=by kernel_rfl
theorem hrec22:Tryz.prog.readableRec 22=true:=by kernel_rfl
theorem hlt22:22<Tryz.prog.types.size:=of_decide_eq_true (by kernel_rfl)
theorem ints_opened {H:Type} {enc:TypeId×Value->H} {W:World} {A:Option Addr} {n c:Nat} {d:DataW H} {p:List MemPlace} (h:DataW.Trod enc Tryz.prog W 0 (fun _=>true) true 22 (.slice A n c) d p):∃zs,IntsV W A n zs:=by
 obtain⟨fuel,hf⟩:=h;rcases open_ints Tryz.underlying22 Tryz.underlying3 cellsInt hf with ⟨hcs,hx⟩|⟨a,len,cap,zs,hcs,_,hl,hm,hz,hx,hcell,hwz⟩
 ·change[Value.slice A n c]=_ at hcs;obtain⟨rfl,rfl,rfl⟩:A=none∧n=0∧c=0:=by simpa using hcs
  exact⟨[],.inl rfl,rfl,fun z hz=>by cases hz⟩
 ·change[Value.slice A n c]=_ at hcs;obtain⟨rfl,rfl,rfl⟩:A=some a∧n=len∧c=cap:=by simpa using hcs
  rw[if_pos rfl]at hz;refine⟨zs.take n,?_,by simp;omega,fun z hz'=>?_⟩
  ·by_cases h0:n=0
   ·left;simp[ints,h0]
   ·right;have hc0:=hcell 0 (by omega);have ha:a.add 0=a:=by simp[Addr.add]
    rw[ha]at hc0;obtain⟨b,off,sp⟩:=a;cases sp with
    | some s=>simp[World.cell?]at hc0;split at hc0 <;> simp at hc0
    | none =>
      have hb:b<W.heap.size:=by
       rcases Nat.lt_or_ge b W.heap.size with h|h
       ·exact h
       ·simp[World.cell?,Array.getElem?_eq_none h]at hc0
      refine⟨b,off,rfl,hb,fun j u hu=>?_⟩;have hj:j<n∧j<zs.length:=by
       have:=(List.getElem?_eq_some_iff.1 hu).1;simp[ints]at this;omega
      have hcj:=hcell j hj.2;have e1:(⟨b,off,none⟩:Addr).add j=⟨b,off+j,none⟩:=by
       unfold Addr.add;split
       ·subst_vars;rfl
       ·rfl
      rw[e1]at hcj;rw[hcj,<- hu];simp[ints,hj.1,hj.2]
  ·have:=hwz z (List.mem_of_mem_take hz');have:=bounds_i64 this;omega
theorem kindsType:(Tryz.prog.globals[1]?).map (·.type)=some 222:=by kernel_rfl
theorem kindsU:Tryz.prog.underlying 222=some (.array 128 5):=by kernel_rfl
theorem u8U:Tryz.prog.underlying 5=some (.int .u8):=by kernel_rfl
theorem u8C:Tryz.prog.cellsOf 5=1:=by kernel_rfl
theorem kindsC:Tryz.prog.cellsOf 222=128:=by kernel_rfl
theorem table_of {W : World} (h : laidMetH Tryz.prog [("math/bits.deBruijn32tab", Rows.laid_math_bits_deBruijn32tab), ("math/bits.deBruijn64tab", Rows.laid_math_bits_deBruijn64tab), ("internal/strconv.uint64pow10", Rows.laid_internal_strconv_uint64pow10), ("worldmint/lexer.kinds", Rows.laid_worldmint_lexer_kinds)] W) : Tab W := by
 have h' := laidMetH.filter (fun x => x.1 == "worldmint/lexer.kinds") h
 have ht : Lib.TabIs Tryz.prog W "worldmint/lexer.kinds" .u8 kindL := Lib.tabIs_of_head (rest := []) gKinds kindsType kindsU u8U u8C kindsC h'
 have hc:∀i,i<128->W.cell? ⟨1,i,none⟩=some (.int .u8 (kindOf i)):=fun i hi=>by
  have:=ht.cell gKinds i hi;simpa[kindOf]using this
 refine⟨?_,hc⟩;have:=hc 0 (by omega);rcases Nat.lt_or_ge 1 W.heap.size with h|h
 ·exact h
 ·simp[World.cell?,Array.getElem?_eq_none h]at this
end
end
section
open Go.ChangeAt Go.ChangeShapes Go.WideShapes
theorem far_opened {W:World} {base:Nat} {A:Option Addr} {n c:Nat} (h:Value.okWide Tryz.prog W .any base 22 (.slice A n c)):∀b off,A=some ⟨b,off,none⟩->b<W.heap.size:=by
 intro b off e;subst e;simp only[Value.okWide,Tryz.underlying22,Cell.okWide,Cell.ok]at h;obtain⟨_,_,_,_,row,cells,hs,_⟩:=h;rcases Nat.lt_or_ge b W.heap.size with h1|h1
 ·exact h1
 ·exfalso;simp[World.shape?,Array.getElem?_eq_none h1]at hs
theorem powType:(Tryz.prog.globals[0]?).map (·.type)=some 216:=by kernel_rfl
theorem powU:Tryz.prog.underlying 216=some (.array 20 208):=by kernel_rfl
theorem u64U:Tryz.prog.underlying 208=some (.int .u64):=by kernel_rfl
theorem u64C:Tryz.prog.cellsOf 208=1:=by kernel_rfl
theorem powC:Tryz.prog.cellsOf 216=20:=by kernel_rfl
theorem pow_of {W : World} (h : laidMetH Tryz.prog [("math/bits.deBruijn32tab", Rows.laid_math_bits_deBruijn32tab), ("math/bits.deBruijn64tab", Rows.laid_math_bits_deBruijn64tab), ("internal/strconv.uint64pow10", Rows.laid_internal_strconv_uint64pow10), ("worldmint/lexer.kinds", Rows.laid_worldmint_lexer_kinds)] W) : TabP W := by
 have h' := laidMetH.filter (fun x => x.1 == "internal/strconv.uint64pow10") h
 exact Lib.tabIs_of_head (rest:=[]) gPow powType powU u64U u64C powC h'
def litVals (d:DataW Unit):List Value:=match d with
 | .agg l=>l.filterMap fun | .lit (.int k z)=>some (Value.int k z) | _=>none
 | _=>[]
def putL (xs:List Value):Obj->Obj
 | .cells _ t frozen=>.cells xs.toArray t frozen
 | o=>o
noncomputable def laidW4 (os:Os):World :=
 { World.holding Tryz.prog os ⟨#[],#[],[]⟩with heap:=((((World.holding Tryz.prog os ⟨#[],#[],[]⟩).heap.modify 0 (putL (litVals Rows.laid_internal_strconv_uint64pow10))).modify 1 (putL (litVals Rows.laid_worldmint_lexer_kinds))).modify 2 (putL (litVals Rows.laid_math_bits_deBruijn32tab))).modify 3 (putL (litVals Rows.laid_math_bits_deBruijn64tab)) }
section
variable {H : Type} {enc : TypeId × Value -> H} {P : Program} {w : World} {base : Nat} {spare : Nat -> Bool} {held : Bool}
variable {t0 t1 t2 t3 t4 t5 : TypeId} {v0 v1 v2 v3 v4 v5 : Value} {d0 d1 d2 d3 d4 d5 : DataW H} {p0 p1 p2 p3 p4 p5 : List MemPlace}
theorem trodAll_five {args:Array Value} {ds:List (DataW H)} {ps:List MemPlace} (h:DataW.TrodAll enc P w base spare held [t0,t1,t2,t3,t4] args.toList ds ps) :
 ∃v0 v1 v2 v3 v4 d0 d1 d2 d3 d4 p0 p1 p2 p3 p4,args=#[v0,v1,v2,v3,v4]∧ds=[d0,d1,d2,d3,d4]∧ps=p0 ++ p1 ++ p2 ++ p3 ++ p4∧DataW.Trod enc P w base spare held t0 v0 d0 p0∧DataW.Trod enc P w base spare held t1 v1 d1 p1 ∧
  DataW.Trod enc P w base spare held t2 v2 d2 p2∧DataW.Trod enc P w base spare held t3 v3 d3 p3∧DataW.Trod enc P w base spare held t4 v4 d4 p4:=by
 obtain⟨v0,vs0,d0,ds0,p0,q0,hargs,rfl,rfl,h0,r0⟩:=trodAll_cons h;obtain⟨v1,vs1,d1,ds1,p1,q1,rfl,rfl,rfl,h1,r1⟩:=trodAll_cons r0;obtain⟨v2,vs2,d2,ds2,p2,q2,rfl,rfl,rfl,h2,r2⟩:=trodAll_cons r1;obtain⟨v3,vs3,d3,ds3,p3,q3,rfl,rfl,rfl,h3,r3⟩:=trodAll_cons r2;obtain⟨v4,vs4,d4,ds4,p4,q4,rfl,rfl,rfl,h4,r4⟩:=trodAll_cons r3;obtain⟨rfl,rfl,rfl⟩:=trodAll_nil r4;exact⟨v0,v1,v2,v3,v4,d0,d1,d2,d3,d4,p0,p1,p2,p3,p4,by cases args;simp_all,rfl,by simp,h0,h1,h2,h3,h4⟩
theorem trodAll_mk5 (h0:DataW.Trod enc P w base spare held t0 v0 d0 p0) (h1:DataW.Trod enc P w base spare held t1 v1 d1 p1) (h2:DataW.Trod enc P w base spare held t2 v2 d2 p2) (h3:DataW.Trod enc P w base spare held t3 v3 d3 p3) (h4:DataW.Trod enc P w base spare held t4 v4 d4 p4) :
 DataW.TrodAll enc P w base spare held [t0,t1,t2,t3,t4] [v0,v1,v2,v3,v4] [d0,d1,d2,d3,d4] (p0 ++ (p1 ++ (p2 ++ (p3 ++ p4)))):=⟨p0,p1 ++ (p2 ++ (p3 ++ p4)),h0,trodAll_mk4 h1 h2 h3 h4,rfl⟩
end
end
end Go.Proofs.YtocodlpgaamblaaGreatDoor

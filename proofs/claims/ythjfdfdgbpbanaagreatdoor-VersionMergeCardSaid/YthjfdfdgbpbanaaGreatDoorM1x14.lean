/- version.names and New on items with any names (turned from A21, A23). -/
import Derived.Test.YthjfdfdgbpbanaaGreatDoorM1x5
import Derived.Test.YthjfdfdgbpbanaaGreatDoorM1x12
set_option linter.unusedVariables false
set_option linter.unusedSimpArgs false
open Go.RowKit
namespace Go.Proofs.YthjfdfdgbpbanaaGreatDoor
/-- Items in memory, with any names. -/
structure ItsR (w : World) (A : Option Addr) (n : Nat) (l : List It) : Prop where
 row:Row w w.heap.size A (icells l)
 len:n=l.length
 small:n≤1000000
 name:∀t∈l,t.name.size≤8192
theorem ItsR.below {w w':World} {A:Option Addr} {n:Nat} {l:List It} (h:ItsR w A n l) (hb:Below w.heap.size w w'):ItsR w' A n l:=⟨(h.row.below hb).more hb.size,h.len,h.small,h.name⟩
theorem ItsR.at_ {w:World} {A:Option Addr} {n:Nat} {l:List It} (h:ItsR w A n l) (k:Nat) (hk:k<n):∃b off,A=some ⟨b,off,none⟩∧b<w.heap.size ∧
 w.cell? ⟨b,off+k*7,none⟩=some (.string (itAt l k).name)∧w.cell? ⟨b,off+k*7+1,none⟩=some (.bool (itAt l k).object)∧w.cell? ⟨b,off+k*7+2,none⟩=some (.bool (itAt l k).mixed) ∧
 w.cell? ⟨b,off+k*7+3,none⟩=some (.bool (itAt l k).coin)∧w.cell? ⟨b,off+k*7+4,none⟩=some (.int .i64 (itAt l k).wear)∧w.cell? ⟨b,off+k*7+5,none⟩=some (.int .i64 (itAt l k).bnd)∧w.cell? ⟨b,off+k*7+6,none⟩=some (.int .i64 (itAt l k).level):=by
 have hl:k<l.length:=by have:=h.len;omega
 obtain⟨b,off,hA,hb,hc⟩:=h.row.at_ 0 (by rw[icells_length];omega);have g:=fun r hr=>icells_get l k r hl hr
 refine⟨b,off,hA,hb,?_,?_,?_,?_,?_,?_,?_⟩
 ·exact hc _ _ (g 0 (by omega))
 ·rw[Nat.add_assoc];exact hc _ _ (g 1 (by omega))
 ·rw[Nat.add_assoc];exact hc _ _ (g 2 (by omega))
 ·rw[Nat.add_assoc];exact hc _ _ (g 3 (by omega))
 ·rw[Nat.add_assoc];exact hc _ _ (g 4 (by omega))
 ·rw[Nat.add_assoc];exact hc _ _ (g 5 (by omega))
 ·rw[Nat.add_assoc];exact hc _ _ (g 6 (by omega))
theorem ItsV.itsR {w:World} {s:Sl} {l:List It} (h:ItsV w s l):ItsR w s.A s.n l:=⟨h.row.row,h.len,by have:=h.small;omega,h.each⟩
set_option maxRecDepth 100000 in
set_option maxHeartbeats 1000000 in
theorem names_any2 {w:World} {i r t x:Sl} {l:List It} (h:ItsR w i.A i.n l):Calls Tryz.prog 44 #[catS i r t x] w (NamesPost w l i.n):=by
 obtain⟨A,n,c⟩:=i;dsimp only at *;have hmm:=fun W:World=>run_mapHint (P:=Tryz.prog) 91 9 3 .i64 n Tryz.underlying91 W
 have Hn:=Lib.hid h.len;have H:=Lib.hid h;have hs:=h.small;clear h;go_enter Tryz.func44,Tryz.ntmps44;go_wp2_with fail;have Hm0:=MapI.made (w.alloc (catSO ⟨A,n,c⟩ r t x));rw[World.size_alloc]at Hm0;have HM0:=Lib.hid Hm0;have hB0:Below w.heap.size w ((w.alloc (catSO ⟨A,n,c⟩ r t x)).alloc (.map #[] 0)):=((Below.refl _ _).alloc (Nat.le_refl _) _).alloc (by simp) _;clear Hm0;go_loopw [13] (fun i wr=>∃k:Nat,k≤n∧i=.int .i64 k∧MapI wr (w.heap.size+1) k (idxTo l k)∧Below w.heap.size w wr) (fun i _=>n-(intOf i).toNat)
 case atStart=>exact⟨0,Nat.zero_le _,rfl,HM0.out,hB0⟩
 case round =>
  obtain⟨k,hk,rfl,hm,hb⟩:=hrel;have HM:=Lib.hid hm;have hsz:=hb.size;clear hm hmm HM0;by_cases hlt:k<n
  ·have hkl:k<l.length:=by have:=Hn.out;omega
   obtain⟨b,off,rfl,hbb,c0,c1,c2,c3,c4,c5,c6⟩:=(H.out.below hb).at_ k hlt;have hpm:=size_max (H.out.name _ (itAt_mem hkl));have hb2:Below w.heap.size w (wr.alloc (.cells #[.string (itAt l k).name,.bool (itAt l k).object,.bool (itAt l k).mixed,.bool (itAt l k).coin,.int .i64 (itAt l k).wear,.int .i64 (itAt l k).bnd,.int .i64 (itAt l k).level] 89)):=hb.alloc hsz _;have HT:Hid (idxTo l (k+1)=fun s=>if s=(itAt l k).name then some k else idxTo l k s):=rfl;have HM2:=HM.out.below ((Below.refl _ wr).alloc (Nat.le_refl _) (.cells #[.string (itAt l k).name,.bool (itAt l k).object,.bool (itAt l k).mixed,.bool (itAt l k).coin,.int .i64 (itAt l k).wear,.int .i64 (itAt l k).bnd,.int .i64 (itAt l k).level] 89));obtain⟨w3,hrun,hM4,hg4⟩:=HM2.put hpm k (by omega) (by omega);have hb5:Below w.heap.size w w3:=hb2.grown hg4 (by simp;omega) (fun g e=>by cases e;omega);have HM4:=Lib.hid hM4;clear hkl HM HM2 hM4 hg4;generalize itAt l k=t at *;obtain⟨nm,ob,mi,co,we,bi,le⟩:=t;dsimp only at *;go_wp2;go_roundw
   case rel=>exact⟨k+1,by omega,by go_num,by rw[HT.out];exact HM4.out,hb5⟩
   case measure=>simp[intOf];omega
  ·obtain rfl:k=n:=by omega
   go_wp2;go_ret;exact⟨_,rfl,HM.out,by omega,hb⟩
end Go.Proofs.YthjfdfdgbpbanaaGreatDoor

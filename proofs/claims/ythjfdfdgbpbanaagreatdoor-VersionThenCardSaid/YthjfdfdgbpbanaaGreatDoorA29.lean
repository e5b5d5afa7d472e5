/- The contract of Add where an item without counterpart is held. -/
import Derived.Test.YthjfdfdgbpbanaaGreatDoorA28
namespace Go.Proofs.YthjfdfdgbpbanaaGreatDoor
open Go.RowKit

theorem rensV_nil (w : World) : RensV w none 0 [] := ⟨.inl rfl, rfl, by omega, fun k hk => by omega⟩

set_option maxRecDepth 100000 in
set_option maxHeartbeats 2000000 in
theorem add_busy {w : World} {h gc : Nat} {a ax : Addr} {n nx c : Nat} (cx : Nat) {lo ln : List It} {Ah : Option Addr} {ch i : Nat} {hs : List Int} (hH : HistAt w h gc (some a) n c lo) (ho : CatV w (some a) n lo) (hn : CatV w (some ax) nx ln)
    (hh : IntsV w Ah n hs) (hu : unitsB hs = true) (hE : newE lo ln [] = 0) (hM : missI (newL lo ln []) hs = some i) :
    Calls Tryz.prog 37 #[.pointer (some ⟨h, 0, none⟩), catV (some ax) nx cx, .slice none 0 0, .slice Ah n ch] w fun e w' => e = .returned (.tuple #[.int .i64 (i : Int), .int .i64 13]) ∧ Below w.heap.size w w' := by
  have hb0 : Below w.heap.size w (w.alloc (catO (some ax) nx cx)) := (Below.refl _ _).alloc (Nat.le_refl _) _
  have hn64 := ho.n64
  have HH := Lib.hid hH
  have Ho := Lib.hid ho
  have Hn := Lib.hid hn
  have Hh := Lib.hid hh
  have Hu := Lib.hid hu
  have HE := Lib.hid hE
  have HM := Lib.hid hM
  clear hH ho hn hh hu hE hM
  have kx := Bk.new w 28 (catL (some ax) nx cx)
  have HKX := Lib.hid kx
  clear kx
  go_enter Tryz.func37, Tryz.ntmps37
  go_wp2_with fail
  have HH1 := Lib.hid (HH.out.grow hb0)
  have Ho1 := Lib.hid (Ho.out.below hb0)
  have Hn1 := Lib.hid (Hn.out.below hb0)
  have Hh1 := Lib.hid (Hh.out.below hb0)
  generalize w.alloc (catO (some ax) nx cx) = W at *
  generalize hgx : w.heap.size = gx at *
  have Hgx := Lib.hid hgx
  clear hgx HH Ho Hn Hh
  have hLs : Hid (∀ U : World, Below W.heap.size W U → Calls Tryz.prog 38 #[.pointer (some ⟨h, 0, none⟩)] U fun e w' => e = .returned (.int .i64 (((1 : Nat) : Int) - 1)) ∧ U = w') := fun U hU => last_any (by omega) ((HH1.out.grow hU).bh.cell 0)
  have HS : Hid (∀ U : World, Below W.heap.size W U → U.cell? ⟨h, 0, none⟩ = some (.slice (some ⟨gc, 0, none⟩) 1 1) ∧ U.cell? ⟨gc, 0, none⟩ = some (.slice (some a) n c) ∧ U.cell? ⟨gc, 1, none⟩ = some nilS ∧ U.cell? ⟨gc, 2, none⟩ = some nilS ∧ U.cell? ⟨gc, 3, none⟩ = some nilS) := fun U hU => by
    have e := HH1.out.grow hU
    exact ⟨e.bh.cell 0, e.bc.cell 0, e.bc.cell 1, e.bc.cell 2, e.bc.cell 3⟩
  go_cut [10] (fun x wx => ∃ g, x = .pointer (some ⟨g, 0, none⟩) ∧ Bk wx g 28 [.slice (some a) n c, nilS, nilS, nilS] ∧ Below W.heap.size W wx)
  case first =>
    go_region_held3 (fun U => U.cell? ⟨h, 0, none⟩ = some (.slice (some ⟨gc, 0, none⟩) 1 1) ∧ U.cell? ⟨gc, 0, none⟩ = some (.slice (some a) n c) ∧ U.cell? ⟨gc, 1, none⟩ = some nilS ∧ U.cell? ⟨gc, 2, none⟩ = some nilS ∧ U.cell? ⟨gc, 3, none⟩ = some nilS) (first | exact HS.out _ (Below.refl _ W).drew | exact HS.out _ ((Below.refl _ W).drew.alloc (Nat.le_refl _) _))
      (first | (go_at_call 38; (with_reducible refine (hLs.out _ ?_).mono ?_); (first | exact (Below.refl _ W).drew | exact (Below.refl _ W).drew.alloc (Nat.le_refl _) _); rintro e w' ⟨rfl, rfl⟩))
    all_goals (try go_wp2_with fail)
    all_goals go_meet
    all_goals exact ⟨_, rfl, Bk.new _ 28 [.slice (some a) n c, nilS, nilS, nilS], (Below.refl _ W).drew.alloc (Nat.le_refl _) _⟩
  case rest =>
    obtain ⟨g, rfl, kg, hbc⟩ := hcut
    have kx := HKX.out.below hbc HKX.out.lt
    have p0 : wc.cell? ⟨g, 0, none⟩ = some (.slice (some a) n c) := kg.cell 0
    have p1 : wc.cell? ⟨g, 1, none⟩ = some nilS := kg.cell 1
    have p2 : wc.cell? ⟨g, 2, none⟩ = some nilS := kg.cell 2
    have p3 : wc.cell? ⟨g, 3, none⟩ = some nilS := kg.cell 3
    have q0 : wc.cell? ⟨gx, 0, none⟩ = some (.slice (some ax) nx cx) := kx.cell 0
    have q1 : wc.cell? ⟨gx, 1, none⟩ = some nilS := kx.cell 1
    have q2 : wc.cell? ⟨gx, 2, none⟩ = some nilS := kx.cell 2
    have q3 : wc.cell? ⟨gx, 3, none⟩ = some nilS := kx.cell 3
    have Ho2 := Ho1.out.below hbc
    have Hn2 := Hn1.out.below hbc
    have KN := Lib.hid (New_valid (w := wc) (io := ⟨some a, n, c⟩) (ro := ⟨none, 0, 0⟩) (to_ := ⟨none, 0, 0⟩) (xo := ⟨none, 0, 0⟩) (ix := ⟨some ax, nx, cx⟩) (rx := ⟨none, 0, 0⟩) (tx := ⟨none, 0, 0⟩) (xx := ⟨none, 0, 0⟩) (R := ⟨none, 0, 0⟩) (rs := []) Ho2.items Hn2.items (rensV_nil wc) (fun V hV => both_items c cx (Ho2.below hV) (Hn2.below hV)))
    have Hh2 := Lib.hid (Hh1.out.below hbc)
    have HB := Lib.hid hbc
    have KG := Lib.hid kg
    clear kx hbc Ho2 Hn2 HS hLs
    go_wp2_with fail
    refine KN.out.mono ?_
    rintro e w1 ⟨A1, c1, rfl, hr1, hb1⟩
    rw [HE.out]
    have kg1 := KG.out.below hb1 KG.out.lt
    have r0 : w1.cell? ⟨g, 0, none⟩ = some (.slice (some a) n c) := kg1.cell 0
    have KU := units_any (c := ch) (Hh2.out.below hb1).row (Hh2.out.below hb1).len (by omega)
    rw [Hu.out] at KU
    have HKU := Lib.hid KU
    have en : ((n : Int) != (n : Int)) = false := by simp
    have hlen : (newL lo ln []).length ≤ 1000000 := by
      have h1 : (newL lo ln []).length ≤ lo.length := by unfold newL; split <;> simp
      have := Ho1.out.items.len; omega
    have KM := missing_any (c := c1) (c' := ch) (⟨hr1, rfl⟩ : TosV w1 A1 (newL lo ln []).length (newL lo ln [])) (Hh2.out.below hb1) hlen (by omega)
    have HKM := Lib.hid KM
    have G1 := HB.out.trans (hb1.mono HB.out.size)
    clear p0 p1 p2 p3 q0 q1 q2 q3 KN KU KM kg1 hb1 hr1 KG
    go_wp2_with fail
    refine HKU.out.mono ?_
    rintro e w2 ⟨rfl, rfl⟩
    go_wp2_with fail
    refine HKM.out.mono ?_
    rintro e w2 ⟨rfl, rfl⟩
    rw [HM.out]
    simp only [Option.getD_some, Option.isSome_some]
    go_wp2_with fail
    go_ret2
    refine ⟨rfl, ?_⟩
    rw [Hgx.out]
    exact hb0.trans (G1.mono (by have := HKX.out.lt; omega))

end Go.Proofs.YthjfdfdgbpbanaaGreatDoor

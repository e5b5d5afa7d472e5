/- The walk of version.rewrite. -/
import Derived.Test.YthjfdfdgbpbanaaGreatDoorS1x22
set_option linter.unusedVariables false
set_option linter.unusedSimpArgs false
open Go.RowKit
namespace Go.Proofs.YthjfdfdgbpbanaaGreatDoor
theorem mvC_core {pl : List Int} {K : Nat} {m m' : CatM} (h : m'.core = m.core) : (mvC pl K m').core = (mvC pl K m).core := by
 have e1 : m'.items = m.items := by have q := congrArg CatM.items h; exact q
 have e2 : m'.rules.map RuM.core = m.rules.map RuM.core := by have q := congrArg CatM.rules h; exact q
 have e3 : m'.tables.map TbM.core = m.tables.map TbM.core := by have q := congrArg CatM.tables h; exact q
 have e4 : m'.taxes.map TxM.core = m.taxes.map TxM.core := by have q := congrArg CatM.taxes h; exact q
 have f2 : ∀ l : List RuM, (l.map (mvR pl K)).map RuM.core = (l.map RuM.core).map (mvR pl K) := fun l => by simp only [List.map_map]; rfl
 have f3 : ∀ l : List TbM, (l.map (mvT pl K)).map TbM.core = (l.map TbM.core).map (mvT pl K) := fun l => by
  simp only [List.map_map]
  refine List.map_congr_left fun t _ => ?_
  simp only [Function.comp, TbM.core, mvT, List.map_map]
  rfl
 simp only [CatM.core, mvC, f2, f3, e1, e2, e3, e4]
theorem allL_same {W : World} {base : Nat} {m m' : CatM} (h : CatC W base m m') : ∀ x ∈ allL m', ∃ y ∈ allL m, x.2 = y.2 := by
 intro x hx
 rcases List.mem_append.1 hx with hx | hx
 ·obtain ⟨r', hr, hx⟩ := List.mem_flatMap.1 hx
  obtain ⟨r, hr0, hc⟩ := h.rules.from hr
  have hs := hc.same
  simp only [ruL, List.mem_cons, List.not_mem_nil, or_false] at hx
  have key : ∀ y ∈ ruL r, y ∈ allL m := fun y hy => List.mem_append_left _ (List.mem_flatMap.2 ⟨r, hr0, hy⟩)
  rcases hx with rfl | rfl | rfl
  ·exact ⟨_, key (r.st, r.take) (by simp [ruL]), by rw [hs]⟩
  ·exact ⟨_, key (r.sg, r.give) (by simp [ruL]), by rw [hs]⟩
  ·exact ⟨_, key (r.sb, r.back) (by simp [ruL]), by rw [hs]⟩
 ·obtain ⟨t', ht, hx⟩ := List.mem_flatMap.1 hx
  obtain ⟨t, ht0, hc⟩ := h.tables.from ht
  obtain ⟨r', hr, rfl⟩ := List.mem_map.1 hx
  obtain ⟨r, hr0, hd⟩ := hc.rows.from hr
  exact ⟨(r.sg, r.give), List.mem_append_right _ (List.mem_flatMap.2 ⟨t, ht0, List.mem_map.2 ⟨r, hr0, rfl⟩⟩), by rw [hd.same]⟩
theorem CatM.Ok.set28a {W : World} {g k : Nat} {u : Value} {xs : List Value} {m : CatM} (h : m.Ok W) (hb : Bk W g 28 xs) : m.Ok (W.setCell ⟨g, k, none⟩ u) :=
 ⟨h.items.keep (Keep.setCell hb (by decide) u), h.rules.keep (Keep.setCell hb (by decide) u) (Keep.setCell hb (by decide) u), h.tables.keep (Keep.setCell hb (by decide) u) (Keep.setCell hb (by decide) u) (Keep.setCell hb (by decide) u), h.taxes.keep (Keep.setCell hb (by decide) u) (Keep.setCell hb (by decide) u)⟩
def RwtQ (w : World) (pl : List Int) (K : Nat) (m : CatM) (its : List It) (e : Ending) (w' : World) : Prop :=
 ∃ m2 : CatM, e = .returned m2.val ∧ m2.Ok w' ∧ m2.core = (mvC pl K { m with items := its }).core ∧ Below w.heap.size w w'
set_option maxRecDepth 100000 in
set_option maxHeartbeats 8000000 in
theorem rewrite_any {w : World} {m : CatM} {si : Sl} {its : List It} {pb K : Nat} {pl : List Int} (hok : m.Ok w) (hi : ItsV w si its) (hp : PlV w pb pl) (hpos : ∀ x ∈ pl, 0 ≤ x ∧ x < (K : Int)) (hK : K ≤ 1000000)
 (hsh : ∀ x ∈ allL m, x.2.length ≤ 12 ∧ ∀ p ∈ x.2, 0 ≤ p.1 ∧ p.1 < (pl.length : Int)) :
 Calls Tryz.prog 51 #[m.val, .slice si.A si.n si.c, .func (.func 52) #[] #[.pointer (some ⟨pb, 0, none⟩)]] w (RwtQ w pl K m its) := by
 have X0 : Below w.heap.size w (((w.alloc (.cells #[.slice m.si.A m.si.n m.si.c, .slice m.sr.A m.sr.n m.sr.c, .slice m.st.A m.st.n m.st.c, .slice m.sx.A m.sx.n m.sx.c] 28)).alloc (.cells #[.func (.func 52) #[] #[.pointer (some ⟨pb, 0, none⟩)]] 100)).alloc (.cells #[.slice none 0 0, .slice none 0 0, .slice none 0 0, .slice none 0 0] 28)) := (((Below.refl _ _).alloc (Nat.le_refl _) _).alloc (by simp) _).alloc (by simp; omega) _
 have h5 := (Bk.new (w.alloc (.cells #[.slice m.si.A m.si.n m.si.c, .slice m.sr.A m.sr.n m.sr.c, .slice m.st.A m.st.n m.st.c, .slice m.sx.A m.sx.n m.sx.c] 28)) 100 [.func (.func 52) #[] #[.pointer (some ⟨pb, 0, none⟩)]]).alloc (.cells #[.slice none 0 0, .slice none 0 0, .slice none 0 0, .slice none 0 0] 28)
 have h6 := Bk.new ((w.alloc (.cells #[.slice m.si.A m.si.n m.si.c, .slice m.sr.A m.sr.n m.sr.c, .slice m.st.A m.st.n m.st.c, .slice m.sx.A m.sx.n m.sx.c] 28)).alloc (.cells #[.func (.func 52) #[] #[.pointer (some ⟨pb, 0, none⟩)]] 100)) 28 [.slice none 0 0, .slice none 0 0, .slice none 0 0, .slice none 0 0]
 rw [World.size_alloc] at h5
 rw [World.size_alloc, World.size_alloc] at h6
 have K5 := Lib.hid h5
 have K6 := Lib.hid h6
 have HX := Lib.hid X0
 have KC := Lib.hid (copy_cat m (hok.below X0))
 have Hok := Lib.hid hok
 have Hi := Lib.hid (hi.below X0)
 have Hp := Lib.hid (hp.below X0)
 have Hpos := Lib.hid hpos
 have Hsh := Lib.hid hsh
 clear h5 h6 X0 hok hi hp hpos hsh
 go_enter Tryz.func51, Tryz.ntmps51
 go_wp2_with fail
 obtain ⟨tb, htb⟩ : ∃ tb, w.heap.size + 1 = tb := ⟨_, rfl⟩
 have htb2 : w.heap.size + 1 + 1 = tb + 1 := by rw [htb]
 generalize ((w.alloc (.cells #[.slice m.si.A m.si.n m.si.c, .slice m.sr.A m.sr.n m.sr.c, .slice m.st.A m.st.n m.st.c, .slice m.sx.A m.sx.n m.sx.c] 28)).alloc (.cells #[.func (.func 52) #[] #[.pointer (some ⟨pb, 0, none⟩)]] 100)).alloc (.cells #[.slice none 0 0, .slice none 0 0, .slice none 0 0, .slice none 0 0] 28) = W0 at K5 K6 HX KC Hi Hp ⊢
 rw [htb2] at K6
 rw [htb] at K5
 (try rw [htb2])
 (try rw [htb])
 (with_reducible refine KC.out.mono ?_)
 rintro e w1 ⟨m1, rfl, hc, hb1⟩
 have hx0 := HX.out.size
 have HX1 := Lib.hid (HX.out.trans (hb1.mono hx0))
 have HC := Lib.hid hc
 have k5 := Lib.hid (K5.out.below hb1 K5.out.lt)
 have k6 := Lib.hid (K6.out.below hb1 K6.out.lt)
 have Hi1 := Lib.hid (Hi.out.below hb1)
 have Hp1 := Lib.hid (Hp.out.below hb1)
 clear hc hb1 KC K5 K6 HX Hi Hp
 obtain ⟨Ai, ni, ci⟩ := si
 dsimp only at Hi1 ⊢
 obtain ⟨i1, r1, t1, x1, ⟨Bi, bin, bic⟩, ⟨Br, brn, brc⟩, ⟨Bt, btn, btc⟩, ⟨Bx, bxn, bxc⟩⟩ := m1
 have hz7 := Bk.new w1 28 [.slice Bi bin bic, .slice Br brn brc, .slice Bt btn btc, .slice Bx bxn bxc]
 have z7 := Bk.new w1 28 [.slice Ai ni ci, .slice Br brn brc, .slice Bt btn btc, .slice Bx bxn bxc]
 have y7 := (Below.refl w1.heap.size w1).alloc (Nat.le_refl _) (.cells #[.slice Ai ni ci, .slice Br brn brc, .slice Bt btn btc, .slice Bx bxn bxc] 28)
 have HS0 : Hid (RwSt w (w1.alloc (.cells #[.slice Ai ni ci, .slice Br brn brc, .slice Bt btn btc, .slice Bx bxn bxc] 28)) tb pb (tb + 1) w1.heap.size K pl ⟨its, r1, t1, x1, ⟨Ai, ni, ci⟩, ⟨Br, brn, brc⟩, ⟨Bt, btn, btc⟩, ⟨Bx, bxn, bxc⟩⟩) :=
  ⟨HX1.out.trans (y7.mono HX1.out.size), (RwK.mk k5.out Hp1.out Hpos.out hK).below y7, k6.out.below y7 k6.out.lt, z7, (Hi1.out.below y7).row, HC.out.rrow.keep (.below y7), HC.out.trow.keep (.below y7), fun t ht => (by obtain ⟨t0, ht0⟩ := HC.out.tables.mem ht; exact ht0.row.keep (.below y7)), HC.out.xrow.keep (.below y7), fun t ht => (by obtain ⟨t0, ht0⟩ := HC.out.taxes.mem ht; exact ht0.brs.prV.keep (.below y7))⟩
 have HA0 : Hid (AmS (w1.alloc (.cells #[.slice Ai ni ci, .slice Br brn brc, .slice Bt btn btc, .slice Bx bxn bxc] 28)) W0.heap.size pl K [] (allL ⟨i1, r1, t1, x1, ⟨Bi, bin, bic⟩, ⟨Br, brn, brc⟩, ⟨Bt, btn, btc⟩, ⟨Bx, bxn, bxc⟩⟩)) :=
  ⟨HC.out.allP.below y7, by simpa using HC.out.apartL, fun x hx => by
   obtain ⟨y, hy, hxy⟩ := allL_same HC.out x hx
   rw [hxy]; exact Hsh.out y hy⟩
 have Hnr := Lib.hid HC.out.nr
 have Hnt := Lib.hid HC.out.nt
 have Htn : Hid (∀ t ∈ t1, t.sr.n = t.rows.length) := fun t ht => by obtain ⟨t0, ht0⟩ := HC.out.tables.mem ht; exact ht0.len
 have Hit := Lib.hid (Hi1.out.below y7)
 have HOK := Lib.hid (HC.out.ok Hok.out)
 have Hcore : Hid ((mvC pl K ⟨its, r1, t1, x1, ⟨Ai, ni, ci⟩, ⟨Br, brn, brc⟩, ⟨Bt, btn, btc⟩, ⟨Bx, bxn, bxc⟩⟩).core = (mvC pl K { m with items := its }).core) := by
  show _ = _
  refine mvC_core ?_
  have h := HC.out.core
  have e2 : r1.map RuM.core = m.rules.map RuM.core := by have q := congrArg CatM.rules h; exact q
  have e3 : t1.map TbM.core = m.tables.map TbM.core := by have q := congrArg CatM.tables h; exact q
  have e4 : x1.map TxM.core = m.taxes.map TxM.core := by have q := congrArg CatM.taxes h; exact q
  simp only [CatM.core, e2, e3, e4]
 have hbase : w.heap.size ≤ W0.heap.size := hx0
 clear hz7 z7 y7 k5 k6 Hi1 Hp1 Hpos Hsh HC HX1 Hok
 dsimp only at *
 have c0 : brn ≤ 100000 := HOK.out.rules.small
 have c1 : btn ≤ 100000 := HOK.out.tables.small
 go_wp2_with fail
 obtain ⟨b7, hb7⟩ : ∃ b7, w1.heap.size = b7 := ⟨_, rfl⟩
 generalize w1.alloc (.cells #[.slice Ai ni ci, .slice Br brn brc, .slice Bt btn btc, .slice Bx bxn bxc] 28) = W2 at HS0 HA0 Hit ⊢
 rw [hb7] at HS0
 (try rw [hb7])
 obtain ⟨base, hbs⟩ : ∃ base, W0.heap.size = base := ⟨_, rfl⟩
 rw [hbs] at HA0 hbase
 clear hb7 hbs hx0 htb2
 go_loopw [23] (fun i wr => ∃ (k : Nat) (done : List SlP), k ≤ brn ∧ i = .int .i64 k ∧ RwSt w wr tb pb (tb + 1) b7 K pl ⟨its, r1, t1, x1, ⟨Ai, ni, ci⟩, ⟨Br, brn, brc⟩, ⟨Bt, btn, btc⟩, ⟨Bx, bxn, bxc⟩⟩ ∧ AmS wr base pl K done ((r1.drop k).flatMap ruL ++ t1.flatMap tbL) ∧ done ++ ((r1.drop k).flatMap ruL ++ t1.flatMap tbL) = r1.flatMap ruL ++ t1.flatMap tbL) (fun i _ => brn - (intOf i).toNat)
 case atStart => exact ⟨0, [], Nat.zero_le _, rfl, HS0.out, HA0.out, rfl⟩
 case round =>
  obtain ⟨k, done, hk, rfl, hS, hA, hD⟩ := hrel
  have HS := Lib.hid hS
  have HA := Lib.hid hA
  have HD := Lib.hid hD
  clear hS hA hD HS0 HA0
  by_cases hlt : k < brn
  ·have hkl : k < r1.length := by have := Hnr.out; omega
   have hd := List.drop_eq_getElem_cons hkl
   rw [hd] at HA HD
   obtain ⟨b, off, hA', hbl, hcs⟩ := TRow.at_ RuM.len HS.out.rr k hkl (by omega)
   dsimp only at hA'
   subst hA'
   generalize r1[k] = r at *
   have e0 : wr.cell? ⟨b, off + k * 9, none⟩ = some (.string r.name) := hcs 0 _ rfl; have e1 : wr.cell? ⟨b, off + k * 9 + 1, none⟩ = some (.bool r.spawn) := hcs 1 _ rfl; have e2 : wr.cell? ⟨b, off + k * 9 + 2, none⟩ = some (.int .i64 r.level) := hcs 2 _ rfl; have e3 : wr.cell? ⟨b, off + k * 9 + 3, none⟩ = some (.int .i64 r.time) := hcs 3 _ rfl; have e4 : wr.cell? ⟨b, off + k * 9 + 4, none⟩ = some (.int .i64 r.chance) := hcs 4 _ rfl; have e5 : wr.cell? ⟨b, off + k * 9 + 5, none⟩ = some (.int .i64 r.of_) := hcs 5 _ rfl; have e6 : wr.cell? ⟨b, off + k * 9 + 6, none⟩ = some (.slice r.st.A r.st.n r.st.c) := hcs 6 _ rfl; have e7 : wr.cell? ⟨b, off + k * 9 + 7, none⟩ = some (.slice r.sg.A r.sg.n r.sg.c) := hcs 7 _ rfl; have e8 : wr.cell? ⟨b, off + k * 9 + 8, none⟩ = some (.slice r.sb.A r.sb.n r.sb.c) := hcs 8 _ rfl
   clear hcs hd
   have i0 : (0 : Int) ≤ (k : Int) := by omega
   have i1 : (k : Int) < (brn : Int) := by omega
   have y := (Below.refl wr.heap.size wr).alloc (Nat.le_refl _) (.cells #[.string r.name, .bool r.spawn, .int .i64 r.level, .int .i64 r.time, .int .i64 r.chance, .int .i64 r.of_, .slice r.st.A r.st.n r.st.c, .slice r.sg.A r.sg.n r.sg.c, .slice r.sb.A r.sb.n r.sb.c] 103)
   have HT := Lib.hid (Bk.new wr 103 [.string r.name, .bool r.spawn, .int .i64 r.level, .int .i64 r.time, .int .i64 r.chance, .int .i64 r.of_, .slice r.st.A r.st.n r.st.c, .slice r.sg.A r.sg.n r.sg.c, .slice r.sb.A r.sb.n r.sb.c])
   have HS1 := Lib.hid (HS.out.below y)
   have HA1 : Hid (AmS (wr.alloc (.cells #[.string r.name, .bool r.spawn, .int .i64 r.level, .int .i64 r.time, .int .i64 r.chance, .int .i64 r.of_, .slice r.st.A r.st.n r.st.c, .slice r.sg.A r.sg.n r.sg.c, .slice r.sb.A r.sb.n r.sb.c] 103)) base pl K done ((r.st, r.take) :: (r.sg, r.give) :: (r.sb, r.back) :: ((r1.drop (k + 1)).flatMap ruL ++ t1.flatMap tbL))) := HA.out.below y
   have KK := Lib.hid (HA1.out.call HS1.out)
   dsimp only at KK
   clear y HS HA
   go_wp2_with fail
   obtain ⟨bx, hbx⟩ : ∃ bx, wr.heap.size = bx := ⟨_, rfl⟩
   generalize wr.alloc (.cells #[.string r.name, .bool r.spawn, .int .i64 r.level, .int .i64 r.time, .int .i64 r.chance, .int .i64 r.of_, .slice r.st.A r.st.n r.st.c, .slice r.sg.A r.sg.n r.sg.c, .slice r.sb.A r.sb.n r.sb.c] 103) = Z0 at HT HS1 HA1 KK ⊢
   rw [hbx] at HT
   (try rw [hbx])
   clear hbx e0 e1 e2 e3 e4 e5 e6 e7 e8 hbl
   (with_reducible refine KK.out.mono ?_)
   rintro e w2 hs
   obtain rfl := hs.1
   have HT2 := Lib.hid (HT.out.keep (keep_sort hs HA1.out.head 103 (by decide)))
   have HS2 := Lib.hid (HS1.out.sort hs HA1.out.head hbase)
   have HA2 := Lib.hid (HA1.out.step hs)
   have KK2 := Lib.hid (HA2.out.call HS2.out)
   dsimp only at KK2
   clear hs KK HT HS1 HA1
   have e7 : w2.cell? ⟨bx, 7, none⟩ = some (.slice r.sg.A r.sg.n r.sg.c) := HT2.out.cell 7
   have l7 := HT2.out.lt
   go_wp2_with fail
   (with_reducible refine KK2.out.mono ?_)
   rintro e w3 hs
   obtain rfl := hs.1
   have HT3 := Lib.hid (HT2.out.keep (keep_sort hs HA2.out.head 103 (by decide)))
   have HS3 := Lib.hid (HS2.out.sort hs HA2.out.head hbase)
   have HA3 := Lib.hid (HA2.out.step hs)
   have KK3 := Lib.hid (HA3.out.call HS3.out)
   dsimp only at KK3
   clear hs KK2 HT2 HS2 HA2 e7 l7
   have e8 : w3.cell? ⟨bx, 8, none⟩ = some (.slice r.sb.A r.sb.n r.sb.c) := HT3.out.cell 8
   have l8 := HT3.out.lt
   go_wp2_with fail
   (with_reducible refine KK3.out.mono ?_)
   rintro e w4 hs
   obtain rfl := hs.1
   have HS4 := Lib.hid (HS3.out.sort hs HA3.out.head hbase)
   have HA4 := Lib.hid (HA3.out.step hs)
   clear hs KK3 HT3 HS3 HA3 e8 l8
   go_wp2_with fail
   go_roundw
   case rel => exact ⟨k + 1, _, by omega, by go_num, HS4.out, HA4.out, by have h := HD.out; simpa [ruL] using h⟩
   case measure => simp [intOf]; omega
  ·obtain rfl : brn = k := by omega
   have hdr : r1.drop brn = [] := List.drop_of_length_le (by have := Hnr.out; omega)
   have HA0 : Hid (AmS wr base pl K done (t1.flatMap tbL)) := by have h := HA.out; rw [hdr] at h; exact Lib.hid h
   have HD0 : Hid (done ++ t1.flatMap tbL = r1.flatMap ruL ++ t1.flatMap tbL) := by have h := HD.out; rw [hdr] at h; exact Lib.hid h
   clear HA HD hdr
   have e2 : wr.cell? ⟨b7, 2, none⟩ = some (.slice Bt btn btc) := HS.out.k7.cell 2
   have l2 := HS.out.k7.lt
   go_wp2_with fail
   clear e2 l2
   go_loopw [43] (fun i wq => ∃ (k : Nat) (done : List SlP), k ≤ btn ∧ i = .int .i64 k ∧ RwSt w wq tb pb (tb + 1) b7 K pl ⟨its, r1, t1, x1, ⟨Ai, ni, ci⟩, ⟨Br, brn, brc⟩, ⟨Bt, btn, btc⟩, ⟨Bx, bxn, bxc⟩⟩ ∧ AmS wq base pl K done ((t1.drop k).flatMap tbL) ∧ done ++ (t1.drop k).flatMap tbL = r1.flatMap ruL ++ t1.flatMap tbL) (fun i _ => btn - (intOf i).toNat)
   case atStart => exact ⟨0, done, Nat.zero_le _, rfl, HS.out, HA0.out, HD0.out⟩
   case round =>
    clear HS HA0 HD0 hk hlt
    obtain ⟨k, done, hk, rfl, hS, hA, hD⟩ := hrel
    have HS := Lib.hid hS
    have HA := Lib.hid hA
    have HD := Lib.hid hD
    clear hS hA hD
    by_cases hlt : k < btn
    ·have hkl : k < t1.length := by have := Hnt.out; omega
     have hd := List.drop_eq_getElem_cons hkl
     rw [hd] at HA HD
     obtain ⟨b, off, hA', hbl, hcs⟩ := TRow.at_ TbM.len HS.out.tt k hkl (by omega)
     dsimp only at hA'
     subst hA'
     have htm := List.getElem_mem hkl
     have Hro := Lib.hid (fun W (h : RwSt w W tb pb (tb + 1) b7 K pl ⟨its, r1, t1, x1, ⟨Ai, ni, ci⟩, ⟨Br, brn, brc⟩, ⟨some ⟨b, off, none⟩, btn, btc⟩, ⟨Bx, bxn, bxc⟩⟩) => h.ro _ htm)
     have htl : Hid ((t1[k]).sr.n = (t1[k]).rows.length) := Htn.out _ htm
     have hts : (t1[k]).sr.n ≤ 100000 := (HOK.out.tables.each _ htm).rows.small
     clear htm
     generalize t1[k] = t at *
     obtain ⟨tn, rows, ⟨TA, tnn, tcc⟩⟩ := t
     dsimp only at *
     have e0 : wr.cell? ⟨b, off + k * 2, none⟩ = some (.string tn) := hcs 0 _ rfl
     have e1 : wr.cell? ⟨b, off + k * 2 + 1, none⟩ = some (.slice TA tnn tcc) := hcs 1 _ rfl
     clear hcs hd
     have i0 : (0 : Int) ≤ (k : Int) := by omega
     have i1 : (k : Int) < (btn : Int) := by omega
     have y := (Below.refl wr.heap.size wr).alloc (Nat.le_refl _) (.cells #[.string tn, .slice TA tnn tcc] 107)
     have HS1 := Lib.hid (HS.out.below y)
     have HA1 : Hid (AmS (wr.alloc (.cells #[.string tn, .slice TA tnn tcc] 107)) base pl K done (tbL ⟨tn, rows, ⟨TA, tnn, tcc⟩⟩ ++ (t1.drop (k + 1)).flatMap tbL)) := by have h := HA.out.below y; rw [List.flatMap_cons] at h; exact Lib.hid h
     have HD1 : Hid (done ++ (tbL ⟨tn, rows, ⟨TA, tnn, tcc⟩⟩ ++ (t1.drop (k + 1)).flatMap tbL) = r1.flatMap ruL ++ t1.flatMap tbL) := by have h := HD.out; rw [List.flatMap_cons] at h; exact Lib.hid h
     clear y HS HA HD
     go_wp2_with fail
     generalize wr.alloc (.cells #[.string tn, .slice TA tnn tcc] 107) = Z0 at HS1 HA1 ⊢
     clear e0 e1 hbl
     go_loopw [50] (fun i wq => ∃ (q : Nat) (done : List SlP), q ≤ tnn ∧ i = .int .i64 q ∧ RwSt w wq tb pb (tb + 1) b7 K pl ⟨its, r1, t1, x1, ⟨Ai, ni, ci⟩, ⟨Br, brn, brc⟩, ⟨some ⟨b, off, none⟩, btn, btc⟩, ⟨Bx, bxn, bxc⟩⟩ ∧ AmS wq base pl K done ((rows.drop q).map (fun r => (r.sg, r.give)) ++ (t1.drop (k + 1)).flatMap tbL) ∧ done ++ ((rows.drop q).map (fun r => (r.sg, r.give)) ++ (t1.drop (k + 1)).flatMap tbL) = r1.flatMap ruL ++ t1.flatMap tbL) (fun i _ => tnn - (intOf i).toNat)
     case atStart => exact ⟨0, done, Nat.zero_le _, rfl, HS1.out, HA1.out, HD1.out⟩
     case round =>
      clear HS1 HA1 HD1
      obtain ⟨q, done, hq, rfl, hS, hA, hD⟩ := hrel
      have HS := Lib.hid hS
      have HA := Lib.hid hA
      have HD := Lib.hid hD
      clear hS hA hD
      by_cases hqt : q < tnn
      ·have hql : q < rows.length := by have := htl.out; omega
       have hd := List.drop_eq_getElem_cons hql
       rw [hd, List.map_cons, List.cons_append] at HA HD
       obtain ⟨b9, off9, hA', hbl, hcs⟩ := TRow.at_ RwM.len (Hro.out _ HS.out) q hql (by omega)
       subst hA'
       generalize rows[q] = r at *
       have e0 : wr.cell? ⟨b9, off9 + q * 2, none⟩ = some (.int .i64 r.weight) := hcs 0 _ rfl
       have e1 : wr.cell? ⟨b9, off9 + q * 2 + 1, none⟩ = some (.slice r.sg.A r.sg.n r.sg.c) := hcs 1 _ rfl
       clear hcs hd
       have j0 : (0 : Int) ≤ (q : Int) := by omega
       have j1 : (q : Int) < (tnn : Int) := by omega
       have y := (Below.refl wr.heap.size wr).alloc (Nat.le_refl _) (.cells #[.int .i64 r.weight, .slice r.sg.A r.sg.n r.sg.c] 109)
       have HS1 := Lib.hid (HS.out.below y)
       have HA1 := Lib.hid (HA.out.below y)
       have KK := Lib.hid (HA1.out.call HS1.out)
       dsimp only at KK
       clear y HS HA
       go_wp2_with fail
       generalize wr.alloc (.cells #[.int .i64 r.weight, .slice r.sg.A r.sg.n r.sg.c] 109) = Z1 at HS1 HA1 KK ⊢
       clear e0 e1 hbl
       (with_reducible refine KK.out.mono ?_)
       rintro e w4 hs
       obtain rfl := hs.1
       have HS4 := Lib.hid (HS1.out.sort hs HA1.out.head hbase)
       have HA4 := Lib.hid (HA1.out.step hs)
       clear hs KK HS1 HA1
       go_wp2_with fail
       go_roundw
       case rel => exact ⟨q + 1, _, by omega, by go_num, HS4.out, HA4.out, by have h := HD.out; simpa using h⟩
       case measure => simp [intOf]; omega
      ·obtain rfl : tnn = q := by omega
       have hdr : rows.drop tnn = [] := List.drop_of_length_le (by have := htl.out; omega)
       have HA0 : Hid (AmS wr base pl K done ((t1.drop (k + 1)).flatMap tbL)) := by have h := HA.out; rw [hdr] at h; exact Lib.hid h
       have HD0 : Hid (done ++ (t1.drop (k + 1)).flatMap tbL = r1.flatMap ruL ++ t1.flatMap tbL) := by have h := HD.out; rw [hdr] at h; exact Lib.hid h
       clear HA HD hdr
       go_wp2_with fail
       go_roundw
       case rel => exact ⟨k + 1, done, by omega, by go_num, HS.out, HA0.out, HD0.out⟩
       case measure => simp [intOf]; omega
    ·obtain rfl : btn = k := by omega
     have hdr : t1.drop btn = [] := List.drop_of_length_le (by have := Hnt.out; omega)
     have HA0 : Hid (AmS wr base pl K (r1.flatMap ruL ++ t1.flatMap tbL) []) := by
      have h := HA.out
      have h2 := HD.out
      rw [hdr] at h h2
      simp only [List.flatMap_nil, List.append_nil] at h h2
      rw [h2] at h
      exact Lib.hid h
     have HM : Hid ((mvC pl K ⟨its, r1, t1, x1, ⟨Ai, ni, ci⟩, ⟨Br, brn, brc⟩, ⟨Bt, btn, btc⟩, ⟨Bx, bxn, bxc⟩⟩).Ok wr) := by
      show CatM.Ok wr _
      refine rw_ok HS.out HA0.out ?_ Hnr.out Hnt.out HOK.out.taxes.len ⟨HOK.out.rules.small, HOK.out.tables.small, HOK.out.taxes.small⟩ ⟨fun r hr => (HOK.out.rules.each r hr).name, fun t ht => ⟨(HOK.out.tables.each t ht).name, (HOK.out.tables.each t ht).rows.len, (HOK.out.tables.each t ht).rows.small⟩, fun t ht => (HOK.out.taxes.each t ht).name⟩
      exact ⟨HS.out.its, Hit.out.len, Hit.out.small, Hit.out.each⟩
     clear HA HD HA0 hdr
     have e0 : wr.cell? ⟨b7, 0, none⟩ = some (.slice Ai ni ci) := HS.out.k7.cell 0; have e1 : wr.cell? ⟨b7, 1, none⟩ = some (.slice Br brn brc) := HS.out.k7.cell 1; have e2 : wr.cell? ⟨b7, 2, none⟩ = some (.slice Bt btn btc) := HS.out.k7.cell 2; have e3 : wr.cell? ⟨b7, 3, none⟩ = some (.slice Bx bxn bxc) := HS.out.k7.cell 3
     have d0 : wr.cell? ⟨tb + 1, 0, none⟩ = some (.slice none 0 0) := HS.out.k6.cell 0; have d1 : wr.cell? ⟨tb + 1, 1, none⟩ = some (.slice none 0 0) := HS.out.k6.cell 1; have d2 : wr.cell? ⟨tb + 1, 2, none⟩ = some (.slice none 0 0) := HS.out.k6.cell 2; have d3 : wr.cell? ⟨tb + 1, 3, none⟩ = some (.slice none 0 0) := HS.out.k6.cell 3
     have f0 : wr.frozen? ⟨tb + 1, 0, none⟩ = false := HS.out.k6.frozen 0; have f1 : wr.frozen? ⟨tb + 1, 1, none⟩ = false := HS.out.k6.frozen 1; have f2 : wr.frozen? ⟨tb + 1, 2, none⟩ = false := HS.out.k6.frozen 2; have f3 : wr.frozen? ⟨tb + 1, 3, none⟩ = false := HS.out.k6.frozen 3
     have l7 := HS.out.k7.lt
     have l6 := HS.out.k6.lt
     go_wp2_with fail
     have q4 := ((((HS.out.k6.set 0 (.slice Ai ni ci)).set 1 (.slice Br brn brc)).set 2 (.slice Bt btn btc)).set 3 (.slice Bx bxn bxc))
     have r0 := q4.cell 0
     have r1' := q4.cell 1
     have r2 := q4.cell 2
     have r3 := q4.cell 3
     refine bodyPost_ret (v := .agg #[.slice Ai ni ci, .slice Br brn brc, .slice Bt btn btc, .slice Bx bxn bxc]) (by simp [results, Tryz.results51, go_sem, r0, r1', r2, r3]) rfl ?_
     exact ⟨mvC pl K ⟨its, r1, t1, x1, ⟨Ai, ni, ci⟩, ⟨Br, brn, brc⟩, ⟨Bt, btn, btc⟩, ⟨Bx, bxn, bxc⟩⟩, rfl, ((((HM.out.set28a (k := 0) (u := .slice Ai ni ci) HS.out.k6).set28a (k := 1) (u := .slice Br brn brc) (HS.out.k6.set 0 (.slice Ai ni ci))).set28a (k := 2) (u := .slice Bt btn btc) ((HS.out.k6.set 0 (.slice Ai ni ci)).set 1 (.slice Br brn brc))).set28a (k := 3) (u := .slice Bx bxn bxc) (((HS.out.k6.set 0 (.slice Ai ni ci)).set 1 (.slice Br brn brc)).set 2 (.slice Bt btn btc))), Hcore.out, ((((HS.out.bel.setCell (p := ⟨tb + 1, 0, none⟩) (by simp; omega) (.slice Ai ni ci)).setCell (p := ⟨tb + 1, 1, none⟩) (by simp; omega) (.slice Br brn brc)).setCell (p := ⟨tb + 1, 2, none⟩) (by simp; omega) (.slice Bt btn btc)).setCell (p := ⟨tb + 1, 3, none⟩) (by simp; omega) (.slice Bx bxn bxc))⟩
end Go.Proofs.YthjfdfdgbpbanaaGreatDoor

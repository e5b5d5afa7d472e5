/- The walk of version.rewrite. version.Merge on any two catalogs. -/
import Derived.Test.YtiecjoijnkghbaaGreatDoorY1
import Derived.Test.YtiecjoijnkghbaaGreatDoorY5
import Derived.Test.YtiecjoijnkghbaaGreatDoorY6
import Derived.Test.YtiecjoijnkghbaaGreatDoorY7
import Derived.Test.YtiecjoijnkghbaaGreatDoorY8
import Derived.Test.YtiecjoijnkghbaaGreatDoorY9
import Derived.Test.YtiecjoijnkghbaaGreatDoorY14
import Derived.Deep.MidRow
import Derived.StillTailTactics
set_option linter.unusedVariables false
set_option linter.unusedSimpArgs false
set_option maxRecDepth 100000
set_option maxHeartbeats 8000000
open Go.RowKit
namespace Go.Proofs.YtiecjoijnkghbaaGreatDoor
set_option linter.unusedVariables false
set_option linter.unusedSimpArgs false
theorem mvC_core {pl:List Int} {K:Nat} {m m':CatM} (h:m'.core=m.core):(mvC pl K m').core=(mvC pl K m).core:=by
 have e1:m'.items=m.items:=by have q:=congrArg CatM.items h;exact q
 have e2:m'.rules.map RuM.core=m.rules.map RuM.core:=by have q:=congrArg CatM.rules h;exact q
 have e3:m'.tables.map TbM.core=m.tables.map TbM.core:=by have q:=congrArg CatM.tables h;exact q
 have e4:m'.taxes.map TxM.core=m.taxes.map TxM.core:=by have q:=congrArg CatM.taxes h;exact q
 have f2:∀l:List RuM,(l.map (mvR pl K)).map RuM.core=(l.map RuM.core).map (mvR pl K):=fun l=>by simp only[List.map_map];rfl
 have f3:∀l:List TbM,(l.map (mvT pl K)).map TbM.core=(l.map TbM.core).map (mvT pl K):=fun l=>by
  simp only[List.map_map];refine List.map_congr_left fun t _=>?_
  simp only[Function.comp,TbM.core,mvT,List.map_map];rfl
 simp only[CatM.core,mvC,f2,f3,e1,e2,e3,e4]
theorem allL_same {W:World} {base:Nat} {m m':CatM} (h:CatC W base m m'):∀x∈allL m',∃y∈allL m,x.2=y.2:=by
 intro x hx;rcases List.mem_append.1 hx with hx|hx
 ·obtain⟨r',hr,hx⟩:=List.mem_flatMap.1 hx;obtain⟨r,hr0,hc⟩:=h.rules.from hr;have hs:=hc.same;simp only[ruL,List.mem_cons,List.not_mem_nil,or_false]at hx;have key:∀y∈ruL r,y∈allL m:=fun y hy=>List.mem_append_left _ (List.mem_flatMap.2 ⟨r,hr0,hy⟩)
  rcases hx with rfl|rfl|rfl
  ·exact⟨_,key (r.st,r.take) (by simp[ruL]),by rw[hs]⟩
  ·exact⟨_,key (r.sg,r.give) (by simp[ruL]),by rw[hs]⟩
  ·exact⟨_,key (r.sb,r.back) (by simp[ruL]),by rw[hs]⟩
 ·obtain⟨t',ht,hx⟩:=List.mem_flatMap.1 hx;obtain⟨t,ht0,hc⟩:=h.tables.from ht;obtain⟨r',hr,rfl⟩:=List.mem_map.1 hx;obtain⟨r,hr0,hd⟩:=hc.rows.from hr;exact⟨(r.sg,r.give),List.mem_append_right _ (List.mem_flatMap.2 ⟨t,ht0,List.mem_map.2 ⟨r,hr0,rfl⟩⟩),by rw[hd.same]⟩
theorem CatM.Ok.set28a {W:World} {g k:Nat} {u:Value} {xs:List Value} {m:CatM} (h:m.Ok W) (hb:Bk W g 28 xs):m.Ok (W.setCell ⟨g,k,none⟩ u) :=
 ⟨h.items.keep (Keep.setCell hb (by decide) u),h.rules.keep (Keep.setCell hb (by decide) u) (Keep.setCell hb (by decide) u),h.tables.keep (Keep.setCell hb (by decide) u) (Keep.setCell hb (by decide) u) (Keep.setCell hb (by decide) u),h.taxes.keep (Keep.setCell hb (by decide) u) (Keep.setCell hb (by decide) u)⟩
def RwtQ (w:World) (pl:List Int) (K:Nat) (m:CatM) (its:List It) (e:Ending) (w':World):Prop :=
 ∃m2:CatM,e=.returned m2.val∧m2.Ok w'∧m2.core=(mvC pl K { m with items:=its }).core∧Below w.heap.size w w'
theorem rewrite_any {w:World} {m:CatM} {si:Sl} {its:List It} {pb K:Nat} {pl:List Int} (hok:m.Ok w) (hi:ItsV w si its) (hp:PlV w pb pl) (hpos:∀x∈pl,0<=x∧x<(K:Int)) (hK:K<=1000000)
 (hsh:∀x∈allL m,x.2.length<=12∧∀p∈x.2,0<=p.1∧p.1<(pl.length:Int)) :
 Calls Tryz.prog 69 #[m.val,.slice si.A si.n si.c,.func (.func 70) #[] #[.pointer (some ⟨pb,0,none⟩)]] w (RwtQ w pl K m its):=by
 have X0:Below w.heap.size w (((w.alloc (.cells #[.slice m.si.A m.si.n m.si.c,.slice m.sr.A m.sr.n m.sr.c,.slice m.st.A m.st.n m.st.c,.slice m.sx.A m.sx.n m.sx.c] 28)).alloc (.cells #[.func (.func 70) #[] #[.pointer (some ⟨pb,0,none⟩)]] 122)).alloc (.cells #[.slice none 0 0,.slice none 0 0,.slice none 0 0,.slice none 0 0] 28)):=(((Below.refl _ _).alloc (Nat.le_refl _) _).alloc (by simp) _).alloc (by simp;omega) _;have h5:=(Bk.new (w.alloc (.cells #[.slice m.si.A m.si.n m.si.c,.slice m.sr.A m.sr.n m.sr.c,.slice m.st.A m.st.n m.st.c,.slice m.sx.A m.sx.n m.sx.c] 28)) 122 [.func (.func 70) #[] #[.pointer (some ⟨pb,0,none⟩)]]).alloc (.cells #[.slice none 0 0,.slice none 0 0,.slice none 0 0,.slice none 0 0] 28);have h6:=Bk.new ((w.alloc (.cells #[.slice m.si.A m.si.n m.si.c,.slice m.sr.A m.sr.n m.sr.c,.slice m.st.A m.st.n m.st.c,.slice m.sx.A m.sx.n m.sx.c] 28)).alloc (.cells #[.func (.func 70) #[] #[.pointer (some ⟨pb,0,none⟩)]] 122)) 28 [.slice none 0 0,.slice none 0 0,.slice none 0 0,.slice none 0 0];rw[World.size_alloc]at h5;rw[World.size_alloc,World.size_alloc]at h6;have K5:=iH h5;have K6:=iH h6;have HX:=iH X0;have KC:=iH (copy_cat m (hok.below X0));have Hok:=iH hok;have Hi:=iH (hi.below X0);have Hp:=iH (hp.below X0);have Hpos:=iH hpos;have Hsh:=iH hsh;clear h5 h6 X0 hok hi hp hpos hsh;go_enter Tryz.func69,Tryz.ntmps69;go_wp2_with fail;obtain⟨tb,htb⟩:∃tb,w.heap.size+1=tb:=⟨_,rfl⟩;have htb2:w.heap.size+1+1=tb+1:=by rw[htb]
 generalize((w.alloc (.cells #[.slice m.si.A m.si.n m.si.c,.slice m.sr.A m.sr.n m.sr.c,.slice m.st.A m.st.n m.st.c,.slice m.sx.A m.sx.n m.sx.c] 28)).alloc (.cells #[.func (.func 70) #[] #[.pointer (some ⟨pb,0,none⟩)]] 122)).alloc (.cells #[.slice none 0 0,.slice none 0 0,.slice none 0 0,.slice none 0 0] 28)=W0 at K5 K6 HX KC Hi Hp⊢;rw[htb2]at K6;rw[htb]at K5;(try rw[htb2]);(try rw[htb]);(with_reducible refine KC.out.mono ?_);rintro e w1 ⟨m1,rfl,hc,hb1⟩;have hx0:=HX.out.size;have HX1:=iH (HX.out.trans (hb1.mono hx0));have HC:=iH hc;have k5:=iH (K5.out.below hb1 K5.out.lt);have k6:=iH (K6.out.below hb1 K6.out.lt);have Hi1:=iH (Hi.out.below hb1);have Hp1:=iH (Hp.out.below hb1);clear hc hb1 KC K5 K6 HX Hi Hp;obtain⟨Ai,ni,ci⟩:=si;dsimp only at Hi1⊢;obtain⟨i1,r1,t1,x1,⟨Bi,bin,bic⟩,⟨Br,brn,brc⟩,⟨Bt,btn,btc⟩,⟨Bx,bxn,bxc⟩⟩:=m1;have hz7:=Bk.new w1 28 [.slice Bi bin bic,.slice Br brn brc,.slice Bt btn btc,.slice Bx bxn bxc];have z7:=Bk.new w1 28 [.slice Ai ni ci,.slice Br brn brc,.slice Bt btn btc,.slice Bx bxn bxc];have y7:=(Below.refl w1.heap.size w1).alloc (Nat.le_refl _) (.cells #[.slice Ai ni ci,.slice Br brn brc,.slice Bt btn btc,.slice Bx bxn bxc] 28);have HS0:Hid (RwSt w (w1.alloc (.cells #[.slice Ai ni ci,.slice Br brn brc,.slice Bt btn btc,.slice Bx bxn bxc] 28)) tb pb (tb+1) w1.heap.size K pl ⟨its,r1,t1,x1,⟨Ai,ni,ci⟩,⟨Br,brn,brc⟩,⟨Bt,btn,btc⟩,⟨Bx,bxn,bxc⟩⟩) :=
  ⟨HX1.out.trans (y7.mono HX1.out.size),(RwK.mk k5.out Hp1.out Hpos.out hK).below y7,k6.out.below y7 k6.out.lt,z7,(Hi1.out.below y7).row,HC.out.rrow.keep (.below y7),HC.out.trow.keep (.below y7),fun t ht=>(by obtain⟨t0,ht0⟩:=HC.out.tables.mem ht;exact ht0.row.keep (.below y7)),HC.out.xrow.keep (.below y7),fun t ht=>(by obtain⟨t0,ht0⟩:=HC.out.taxes.mem ht;exact ht0.brs.prV.keep (.below y7))⟩
 have HA0:Hid (AmS (w1.alloc (.cells #[.slice Ai ni ci,.slice Br brn brc,.slice Bt btn btc,.slice Bx bxn bxc] 28)) W0.heap.size pl K [] (allL ⟨i1,r1,t1,x1,⟨Bi,bin,bic⟩,⟨Br,brn,brc⟩,⟨Bt,btn,btc⟩,⟨Bx,bxn,bxc⟩⟩)) :=
  ⟨HC.out.allP.below y7,by simpa using HC.out.apartL,fun x hx=>by
   obtain⟨y,hy,hxy⟩:=allL_same HC.out x hx
   rw[hxy];exact Hsh.out y hy⟩
 have Hnr:=iH HC.out.nr;have Hnt:=iH HC.out.nt;have Htn:Hid (∀t∈t1,t.sr.n=t.rows.length):=fun t ht=>by obtain⟨t0,ht0⟩:=HC.out.tables.mem ht;exact ht0.len
 have Hit:=iH (Hi1.out.below y7);have HOK:=iH (HC.out.ok Hok.out);have Hcore:Hid ((mvC pl K ⟨its,r1,t1,x1,⟨Ai,ni,ci⟩,⟨Br,brn,brc⟩,⟨Bt,btn,btc⟩,⟨Bx,bxn,bxc⟩⟩).core=(mvC pl K { m with items:=its }).core):=by
  show _=_;refine mvC_core ?_;have h:=HC.out.core;have e2:r1.map RuM.core=m.rules.map RuM.core:=by have q:=congrArg CatM.rules h;exact q
  have e3:t1.map TbM.core=m.tables.map TbM.core:=by have q:=congrArg CatM.tables h;exact q
  have e4:x1.map TxM.core=m.taxes.map TxM.core:=by have q:=congrArg CatM.taxes h;exact q
  simp only[CatM.core,e2,e3,e4]
 have hbase:w.heap.size<=W0.heap.size:=hx0;clear hz7 z7 y7 k5 k6 Hi1 Hp1 Hpos Hsh HC HX1 Hok;dsimp only at *;have c0:brn<=100000:=HOK.out.rules.small;have c1:btn<=100000:=HOK.out.tables.small;go_wp2_with fail;obtain⟨b7,hb7⟩:∃b7,w1.heap.size=b7:=⟨_,rfl⟩;generalize w1.alloc (.cells #[.slice Ai ni ci,.slice Br brn brc,.slice Bt btn btc,.slice Bx bxn bxc] 28)=W2 at HS0 HA0 Hit⊢;rw[hb7]at HS0;(try rw[hb7]);obtain⟨base,hbs⟩:∃base,W0.heap.size=base:=⟨_,rfl⟩;rw[hbs]at HA0 hbase;clear hb7 hbs hx0 htb2;go_loopw [23] (fun i wr=>∃(k:Nat) (done:List SlP),k<=brn∧i=.int .i64 k∧RwSt w wr tb pb (tb+1) b7 K pl ⟨its,r1,t1,x1,⟨Ai,ni,ci⟩,⟨Br,brn,brc⟩,⟨Bt,btn,btc⟩,⟨Bx,bxn,bxc⟩⟩∧AmS wr base pl K done ((r1.drop k).flatMap ruL ++ t1.flatMap tbL)∧done ++ ((r1.drop k).flatMap ruL ++ t1.flatMap tbL)=r1.flatMap ruL ++ t1.flatMap tbL) (fun i _=>brn-(intOf i).toNat)
 case atStart=>exact⟨0,[],Nat.zero_le _,rfl,HS0.out,HA0.out,rfl⟩
 case round =>
  obtain⟨k,done,hk,rfl,hS,hA,hD⟩:=hrel;have HS:=iH hS;have HA:=iH hA;have HD:=iH hD;clear hS hA hD HS0 HA0;by_cases hlt:k<brn
  ·have hkl:k<r1.length:=by have:=Hnr.out;omega
   have hd:=List.drop_eq_getElem_cons hkl;rw[hd]at HA HD;obtain⟨b,off,hA',hbl,hcs⟩:=TRow.at_ RuM.len HS.out.rr k hkl (by omega);dsimp only at hA';subst hA';generalize r1[k]=r at *;have e0:wr.cell? ⟨b,off+k*9,none⟩=some (.string r.name):=hcs 0 _ rfl;have e1:wr.cell? ⟨b,off+k*9+1,none⟩=some (.bool r.spawn):=hcs 1 _ rfl;have e2:wr.cell? ⟨b,off+k*9+2,none⟩=some (.int .i64 r.level):=hcs 2 _ rfl;have e3:wr.cell? ⟨b,off+k*9+3,none⟩=some (.int .i64 r.time):=hcs 3 _ rfl;have e4:wr.cell? ⟨b,off+k*9+4,none⟩=some (.int .i64 r.chance):=hcs 4 _ rfl;have e5:wr.cell? ⟨b,off+k*9+5,none⟩=some (.int .i64 r.of_):=hcs 5 _ rfl;have e6:wr.cell? ⟨b,off+k*9+6,none⟩=some (.slice r.st.A r.st.n r.st.c):=hcs 6 _ rfl;have e7:wr.cell? ⟨b,off+k*9+7,none⟩=some (.slice r.sg.A r.sg.n r.sg.c):=hcs 7 _ rfl;have e8:wr.cell? ⟨b,off+k*9+8,none⟩=some (.slice r.sb.A r.sb.n r.sb.c):=hcs 8 _ rfl;clear hcs hd;have i0:(0:Int)<=(k:Int):=by omega
   have i1:(k:Int)<(brn:Int):=by omega
   have y:=(Below.refl wr.heap.size wr).alloc (Nat.le_refl _) (.cells #[.string r.name,.bool r.spawn,.int .i64 r.level,.int .i64 r.time,.int .i64 r.chance,.int .i64 r.of_,.slice r.st.A r.st.n r.st.c,.slice r.sg.A r.sg.n r.sg.c,.slice r.sb.A r.sb.n r.sb.c] 149);have HT:=iH (Bk.new wr 149 [.string r.name,.bool r.spawn,.int .i64 r.level,.int .i64 r.time,.int .i64 r.chance,.int .i64 r.of_,.slice r.st.A r.st.n r.st.c,.slice r.sg.A r.sg.n r.sg.c,.slice r.sb.A r.sb.n r.sb.c]);have HS1:=iH (HS.out.below y);have HA1:Hid (AmS (wr.alloc (.cells #[.string r.name,.bool r.spawn,.int .i64 r.level,.int .i64 r.time,.int .i64 r.chance,.int .i64 r.of_,.slice r.st.A r.st.n r.st.c,.slice r.sg.A r.sg.n r.sg.c,.slice r.sb.A r.sb.n r.sb.c] 149)) base pl K done ((r.st,r.take) :: (r.sg,r.give) :: (r.sb,r.back) :: ((r1.drop (k+1)).flatMap ruL ++ t1.flatMap tbL))):=HA.out.below y;have KK:=iH (HA1.out.call HS1.out);dsimp only at KK;clear y HS HA;go_wp2_with fail;obtain⟨bx,hbx⟩:∃bx,wr.heap.size=bx:=⟨_,rfl⟩;generalize wr.alloc (.cells #[.string r.name,.bool r.spawn,.int .i64 r.level,.int .i64 r.time,.int .i64 r.chance,.int .i64 r.of_,.slice r.st.A r.st.n r.st.c,.slice r.sg.A r.sg.n r.sg.c,.slice r.sb.A r.sb.n r.sb.c] 149)=Z0 at HT HS1 HA1 KK⊢;rw[hbx]at HT;(try rw[hbx]);clear hbx e0 e1 e2 e3 e4 e5 e6 e7 e8 hbl;(with_reducible refine KK.out.mono ?_);rintro e w2 hs;obtain rfl:=hs.1;have HT2:=iH (HT.out.keep (keep_sort hs HA1.out.head 149 (by decide)));have HS2:=iH (HS1.out.sort hs HA1.out.head hbase);have HA2:=iH (HA1.out.step hs);have KK2:=iH (HA2.out.call HS2.out);dsimp only at KK2;clear hs KK HT HS1 HA1;have e7:=HT2.out.k7;have l7:=HT2.out.lt;go_wp2_with fail;(with_reducible refine KK2.out.mono ?_);rintro e w3 hs;obtain rfl:=hs.1;have HT3:=iH (HT2.out.keep (keep_sort hs HA2.out.head 149 (by decide)));have HS3:=iH (HS2.out.sort hs HA2.out.head hbase);have HA3:=iH (HA2.out.step hs);have KK3:=iH (HA3.out.call HS3.out);dsimp only at KK3;clear hs KK2 HT2 HS2 HA2 e7 l7;have e8:=HT3.out.k8;have l8:=HT3.out.lt;go_wp2_with fail;(with_reducible refine KK3.out.mono ?_);rintro e w4 hs;obtain rfl:=hs.1;have HS4:=iH (HS3.out.sort hs HA3.out.head hbase);have HA4:=iH (HA3.out.step hs);clear hs KK3 HT3 HS3 HA3 e8 l8;go_wp2_with fail;go_roundw
   case rel=>exact⟨k+1,_,by omega,by go_num,HS4.out,HA4.out,by have h:=HD.out;simpa[ruL]using h⟩
   case measure=>simp[intOf];omega
  ·obtain rfl:brn=k:=by omega
   have hdr:r1.drop brn=[]:=List.drop_of_length_le (by have:=Hnr.out;omega);have HA0:Hid (AmS wr base pl K done (t1.flatMap tbL)):=by have h:=HA.out;rw[hdr]at h;exact iH h
   have HD0:Hid (done ++ t1.flatMap tbL=r1.flatMap ruL ++ t1.flatMap tbL):=by have h:=HD.out;rw[hdr]at h;exact iH h
   clear HA HD hdr;have e2:=HS.out.k7.k2;have l2:=HS.out.k7.lt;go_wp2_with fail;clear e2 l2;go_loopw [43] (fun i wq=>∃(k:Nat) (done:List SlP),k<=btn∧i=.int .i64 k∧RwSt w wq tb pb (tb+1) b7 K pl ⟨its,r1,t1,x1,⟨Ai,ni,ci⟩,⟨Br,brn,brc⟩,⟨Bt,btn,btc⟩,⟨Bx,bxn,bxc⟩⟩∧AmS wq base pl K done ((t1.drop k).flatMap tbL)∧done ++ (t1.drop k).flatMap tbL=r1.flatMap ruL ++ t1.flatMap tbL) (fun i _=>btn-(intOf i).toNat)
   case atStart=>exact⟨0,done,Nat.zero_le _,rfl,HS.out,HA0.out,HD0.out⟩
   case round =>
    clear HS HA0 HD0 hk hlt;obtain⟨k,done,hk,rfl,hS,hA,hD⟩:=hrel;have HS:=iH hS;have HA:=iH hA;have HD:=iH hD;clear hS hA hD;by_cases hlt:k<btn
    ·have hkl:k<t1.length:=by have:=Hnt.out;omega
     have hd:=List.drop_eq_getElem_cons hkl;rw[hd]at HA HD;obtain⟨b,off,hA',hbl,hcs⟩:=TRow.at_ TbM.len HS.out.tt k hkl (by omega);dsimp only at hA';subst hA';have htm:=List.getElem_mem hkl;have Hro:=iH (fun W (h:RwSt w W tb pb (tb+1) b7 K pl ⟨its,r1,t1,x1,⟨Ai,ni,ci⟩,⟨Br,brn,brc⟩,⟨some ⟨b,off,none⟩,btn,btc⟩,⟨Bx,bxn,bxc⟩⟩)=>h.ro _ htm);have htl:Hid ((t1[k]).sr.n=(t1[k]).rows.length):=Htn.out _ htm;have hts:(t1[k]).sr.n<=100000:=(HOK.out.tables.each _ htm).rows.small;clear htm;generalize t1[k]=t at *;obtain⟨tn,rows,⟨TA,tnn,tcc⟩⟩:=t;dsimp only at *;have e0:wr.cell? ⟨b,off+k*2,none⟩=some (.string tn):=hcs 0 _ rfl;have e1:wr.cell? ⟨b,off+k*2+1,none⟩=some (.slice TA tnn tcc):=hcs 1 _ rfl;clear hcs hd;have i0:(0:Int)<=(k:Int):=by omega
     have i1:(k:Int)<(btn:Int):=by omega
     have y:=(Below.refl wr.heap.size wr).alloc (Nat.le_refl _) (.cells #[.string tn,.slice TA tnn tcc] 173);have HS1:=iH (HS.out.below y);have HA1:Hid (AmS (wr.alloc (.cells #[.string tn,.slice TA tnn tcc] 173)) base pl K done (tbL ⟨tn,rows,⟨TA,tnn,tcc⟩⟩ ++ (t1.drop (k+1)).flatMap tbL)):=by have h:=HA.out.below y;rw[List.flatMap_cons]at h;exact iH h
     have HD1:Hid (done ++ (tbL ⟨tn,rows,⟨TA,tnn,tcc⟩⟩ ++ (t1.drop (k+1)).flatMap tbL)=r1.flatMap ruL ++ t1.flatMap tbL):=by have h:=HD.out;rw[List.flatMap_cons]at h;exact iH h
     clear y HS HA HD;go_wp2_with fail;generalize wr.alloc (.cells #[.string tn,.slice TA tnn tcc] 173)=Z0 at HS1 HA1⊢;clear e0 e1 hbl;go_loopw [50] (fun i wq=>∃(q:Nat) (done:List SlP),q<=tnn∧i=.int .i64 q∧RwSt w wq tb pb (tb+1) b7 K pl ⟨its,r1,t1,x1,⟨Ai,ni,ci⟩,⟨Br,brn,brc⟩,⟨some ⟨b,off,none⟩,btn,btc⟩,⟨Bx,bxn,bxc⟩⟩∧AmS wq base pl K done ((rows.drop q).map (fun r=>(r.sg,r.give)) ++ (t1.drop (k+1)).flatMap tbL)∧done ++ ((rows.drop q).map (fun r=>(r.sg,r.give)) ++ (t1.drop (k+1)).flatMap tbL)=r1.flatMap ruL ++ t1.flatMap tbL) (fun i _=>tnn-(intOf i).toNat)
     case atStart=>exact⟨0,done,Nat.zero_le _,rfl,HS1.out,HA1.out,HD1.out⟩
     case round =>
      clear HS1 HA1 HD1;obtain⟨q,done,hq,rfl,hS,hA,hD⟩:=hrel;have HS:=iH hS;have HA:=iH hA;have HD:=iH hD;clear hS hA hD;by_cases hqt:q<tnn
      ·have hql:q<rows.length:=by have:=htl.out;omega
       have hd:=List.drop_eq_getElem_cons hql;rw[hd,List.map_cons,List.cons_append]at HA HD;obtain⟨b9,off9,hA',hbl,hcs⟩:=TRow.at_ RwM.len (Hro.out _ HS.out) q hql (by omega);subst hA';generalize rows[q]=r at *;have e0:wr.cell? ⟨b9,off9+q*2,none⟩=some (.int .i64 r.weight):=hcs 0 _ rfl;have e1:wr.cell? ⟨b9,off9+q*2+1,none⟩=some (.slice r.sg.A r.sg.n r.sg.c):=hcs 1 _ rfl;clear hcs hd;have j0:(0:Int)<=(q:Int):=by omega
       have j1:(q:Int)<(tnn:Int):=by omega
       have y:=(Below.refl wr.heap.size wr).alloc (Nat.le_refl _) (.cells #[.int .i64 r.weight,.slice r.sg.A r.sg.n r.sg.c] 175);have HS1:=iH (HS.out.below y);have HA1:=iH (HA.out.below y);have KK:=iH (HA1.out.call HS1.out);dsimp only at KK;clear y HS HA;go_wp2_with fail;generalize wr.alloc (.cells #[.int .i64 r.weight,.slice r.sg.A r.sg.n r.sg.c] 175)=Z1 at HS1 HA1 KK⊢;clear e0 e1 hbl;(with_reducible refine KK.out.mono ?_);rintro e w4 hs;obtain rfl:=hs.1;have HS4:=iH (HS1.out.sort hs HA1.out.head hbase);have HA4:=iH (HA1.out.step hs);clear hs KK HS1 HA1;go_wp2_with fail;go_roundw
       case rel=>exact⟨q+1,_,by omega,by go_num,HS4.out,HA4.out,by have h:=HD.out;simpa using h⟩
       case measure=>simp[intOf];omega
      ·obtain rfl:tnn=q:=by omega
       have hdr:rows.drop tnn=[]:=List.drop_of_length_le (by have:=htl.out;omega);have HA0:Hid (AmS wr base pl K done ((t1.drop (k+1)).flatMap tbL)):=by have h:=HA.out;rw[hdr]at h;exact iH h
       have HD0:Hid (done ++ (t1.drop (k+1)).flatMap tbL=r1.flatMap ruL ++ t1.flatMap tbL):=by have h:=HD.out;rw[hdr]at h;exact iH h
       clear HA HD hdr;go_wp2_with fail;go_roundw
       case rel=>exact⟨k+1,done,by omega,by go_num,HS.out,HA0.out,HD0.out⟩
       case measure=>simp[intOf];omega
    ·obtain rfl:btn=k:=by omega
     have hdr:t1.drop btn=[]:=List.drop_of_length_le (by have:=Hnt.out;omega);have HA0:Hid (AmS wr base pl K (r1.flatMap ruL ++ t1.flatMap tbL) []):=by
      have h:=HA.out;have h2:=HD.out;rw[hdr]at h h2;simp only[List.flatMap_nil,List.append_nil]at h h2;rw[h2]at h;exact iH h
     have HM:Hid ((mvC pl K ⟨its,r1,t1,x1,⟨Ai,ni,ci⟩,⟨Br,brn,brc⟩,⟨Bt,btn,btc⟩,⟨Bx,bxn,bxc⟩⟩).Ok wr):=by
      show CatM.Ok wr _;refine rw_ok HS.out HA0.out ?_ Hnr.out Hnt.out HOK.out.taxes.len ⟨HOK.out.rules.small,HOK.out.tables.small,HOK.out.taxes.small⟩ ⟨fun r hr=>(HOK.out.rules.each r hr).name,fun t ht=>⟨(HOK.out.tables.each t ht).name,(HOK.out.tables.each t ht).rows.len,(HOK.out.tables.each t ht).rows.small⟩,fun t ht=>(HOK.out.taxes.each t ht).name⟩;exact⟨HS.out.its,Hit.out.len,Hit.out.small,Hit.out.each⟩
     clear HA HD HA0 hdr;have e0:=HS.out.k7.k0;have e1:=HS.out.k7.k1;have e2:=HS.out.k7.k2;have e3:=HS.out.k7.k3;have d0:=HS.out.k6.k0;have d1:=HS.out.k6.k1;have d2:=HS.out.k6.k2;have d3:=HS.out.k6.k3;have f0:wr.frozen? ⟨tb+1,0,none⟩=false:=HS.out.k6.frozen 0;have f1:wr.frozen? ⟨tb+1,1,none⟩=false:=HS.out.k6.frozen 1;have f2:wr.frozen? ⟨tb+1,2,none⟩=false:=HS.out.k6.frozen 2;have f3:wr.frozen? ⟨tb+1,3,none⟩=false:=HS.out.k6.frozen 3;have l7:=HS.out.k7.lt;have l6:=HS.out.k6.lt;go_wp2_with fail;have q4:=((((HS.out.k6.set 0 (.slice Ai ni ci)).set 1 (.slice Br brn brc)).set 2 (.slice Bt btn btc)).set 3 (.slice Bx bxn bxc));have r0:=q4.cell 0;have r1':=q4.cell 1;have r2:=q4.cell 2;have r3:=q4.cell 3;refine bodyPost_ret (v:=.agg #[.slice Ai ni ci,.slice Br brn brc,.slice Bt btn btc,.slice Bx bxn bxc]) (by simp[results,Tryz.results69,go_sem,r0,r1',r2,r3]) rfl ?_;exact⟨mvC pl K ⟨its,r1,t1,x1,⟨Ai,ni,ci⟩,⟨Br,brn,brc⟩,⟨Bt,btn,btc⟩,⟨Bx,bxn,bxc⟩⟩,rfl,((((HM.out.set28a (k:=0) (u:=.slice Ai ni ci) HS.out.k6).set28a (k:=1) (u:=.slice Br brn brc) (HS.out.k6.set 0 (.slice Ai ni ci))).set28a (k:=2) (u:=.slice Bt btn btc) ((HS.out.k6.set 0 (.slice Ai ni ci)).set 1 (.slice Br brn brc))).set28a (k:=3) (u:=.slice Bx bxn bxc) (((HS.out.k6.set 0 (.slice Ai ni ci)).set 1 (.slice Br brn brc)).set 2 (.slice Bt btn btc))),Hcore.out,((((HS.out.bel.setCell (p:=⟨tb+1,0,none⟩) (by simp;omega) (.slice Ai ni ci)).setCell (p:=⟨tb+1,1,none⟩) (by simp;omega) (.slice Br brn brc)).setCell (p:=⟨tb+1,2,none⟩) (by simp;omega) (.slice Bt btn btc)).setCell (p:=⟨tb+1,3,none⟩) (by simp;omega) (.slice Bx bxn bxc))⟩
section
set_option linter.unusedVariables false
set_option linter.unusedSimpArgs false
section
structure MgB (w W : World) (a b : CatM) (bo bn : Nat) (v : Value) (its : List It) : Prop where
 mo:MapI W bo a.si.n (idxTo a.items a.si.n)
 mn:MapI W bn b.si.n (idxTo b.items b.si.n)
 b1:Bk W w.heap.size 28 (catSL a.si a.sr a.st a.sx)
 b2:Bk W (w.heap.size+1) 28 (catSL b.si b.sr b.st b.sx)
 b3:Bk W (w.heap.size+2) 28 [.slice none 0 0,.slice none 0 0,.slice none 0 0,.slice none 0 0]
 own:W.ownsRow (w.heap.size+3) 42 7 v its.length (icells its)
 below:Below w.heap.size w W
section
variable {w W W' : World} {a b : CatM} {bo bn : Nat} {v : Value} {its : List It}
theorem MgB.grow (h:MgB w W a b bo bn v its) (hb:Below W.heap.size W W'):MgB w W' a b bo bn v its :=
 ⟨h.mo.below hb,h.mn.below hb,h.b1.below hb h.b1.lt,h.b2.below hb h.b2.lt,h.b3.below hb h.b3.lt,h.own.kept (grown_of_below hb none) (by cases v.ownBlock <;> simp),h.below.trans (hb.mono h.below.size)⟩
theorem MapI.ne_rowB {b n:Nat} {M:ByteArray->Option Nat} {base e size m:Nat} {u:Value} {xs:List Value} (h:MapI W b n M) (ho:W.ownsRow base e size u m xs):some b≠u.ownBlock:=by
 intro e1;obtain⟨D,⟨es,clock,hh,_⟩,_⟩:=h;rcases ho.2 with ⟨rfl,_⟩|⟨g,cap,cur,rfl,_,hg,_⟩
 ·simp[Value.ownBlock]at e1
 ·simp[Value.ownBlock]at e1;subst e1;rw[hh]at hg;cases hg
theorem MgB.turn {its':List It} {v':Value} (h:MgB w W a b bo bn v its) (hg:W.grownBy W' v.ownBlock) (ho:W'.ownsRow (w.heap.size+3) 42 7 v' its'.length (icells its')):MgB w W' a b bo bn v' its':=by
 have hr:=row_base h.own;refine⟨h.mo.kept hg (h.mo.ne_rowB h.own),h.mn.kept hg (h.mn.ne_rowB h.own),h.b1.grown hg ?_,h.b2.grown hg ?_,h.b3.grown hg ?_,ho,h.below.grown hg h.below.size (fun g e=>by have:=hr g e;omega)⟩
 ·intro e;have:=hr _ e.symm;omega
 ·intro e;have:=hr _ e.symm;omega
 ·intro e;have:=hr _ e.symm;omega
theorem MgB.setIt {g cap:Nat} (h:MgB w W a b bo bn (.slice (some ⟨g,0,none⟩) its.length cap) its) (k:Nat) (t:It) (hk:k<its.length) :
 MgB w (((((((W.setCell ⟨g,k*7,none⟩ (.string t.name)).setCell ⟨g,k*7+1,none⟩ (.bool t.object)).setCell ⟨g,k*7+2,none⟩ (.bool t.mixed)).setCell ⟨g,k*7+3,none⟩ (.bool t.coin)).setCell ⟨g,k*7+4,none⟩ (.int .i64 t.wear)).setCell ⟨g,k*7+5,none⟩ (.int .i64 t.bnd)).setCell ⟨g,k*7+6,none⟩ (.int .i64 t.level)) a b bo bn (.slice (some ⟨g,0,none⟩) its.length cap) (its.set k t):=by
 have hr:=row_base h.own g rfl;have o7:=(((((((h.own.stored (k*7) (.string t.name)).1.stored (k*7+1) (.bool t.object)).1.stored (k*7+2) (.bool t.mixed)).1.stored (k*7+3) (.bool t.coin)).1.stored (k*7+4) (.int .i64 t.wear)).1.stored (k*7+5) (.int .i64 t.bnd)).1.stored (k*7+6) (.int .i64 t.level)).1;rw[<- icells_set its k t hk]at o7;have hl:(its.set k t).length=its.length:=by simp
 refine⟨?_,?_,?_,?_,?_,by rw[hl];exact o7,?_⟩
 ·have hne:some bo≠some g:=h.mo.ne_rowB h.own;exact((((((h.mo.kept (grown_setCell W g _ _) hne).kept (grown_setCell _ g _ _) hne).kept (grown_setCell _ g _ _) hne).kept (grown_setCell _ g _ _) hne).kept (grown_setCell _ g _ _) hne).kept (grown_setCell _ g _ _) hne).kept (grown_setCell _ g _ _) hne
 ·have hne:some bn≠some g:=h.mn.ne_rowB h.own;exact((((((h.mn.kept (grown_setCell W g _ _) hne).kept (grown_setCell _ g _ _) hne).kept (grown_setCell _ g _ _) hne).kept (grown_setCell _ g _ _) hne).kept (grown_setCell _ g _ _) hne).kept (grown_setCell _ g _ _) hne).kept (grown_setCell _ g _ _) hne
 ·have hne:w.heap.size≠g:=by omega
  exact((((((h.b1.far hne _).far hne _).far hne _).far hne _).far hne _).far hne _).far hne _
 ·have hne:w.heap.size+1≠g:=by omega
  exact((((((h.b2.far hne _).far hne _).far hne _).far hne _).far hne _).far hne _).far hne _
 ·have hne:w.heap.size+2≠g:=by omega
  exact((((((h.b3.far hne _).far hne _).far hne _).far hne _).far hne _).far hne _).far hne _
 ·have hle:w.heap.size<=g:=by omega
  exact((((((h.below.setCell (p:=⟨g,_,none⟩) hle _).setCell (p:=⟨g,_,none⟩) hle _).setCell (p:=⟨g,_,none⟩) hle _).setCell (p:=⟨g,_,none⟩) hle _).setCell (p:=⟨g,_,none⟩) hle _).setCell (p:=⟨g,_,none⟩) hle _).setCell (p:=⟨g,_,none⟩) hle _
end
theorem MgB.setP {w W:World} {a b:CatM} {bo bn:Nat} {v:Value} {its:List It} {g t:Nat} {xs:List Value} (h:MgB w W a b bo bn v its) (hk:Bk W g t xs) (ht:42≠t) (hg:w.heap.size+3<=g) (j:Nat) (u:Value):MgB w (W.setCell ⟨g,j,none⟩ u) a b bo bn v its:=by
 have gr:=grown_setCell W g j u;exact⟨h.mo.kept gr (fun e=>h.mo.ne_bk hk (Option.some.inj e)),h.mn.kept gr (fun e=>h.mn.ne_bk hk (Option.some.inj e)),h.b1.far (by simp;omega) _,h.b2.far (by simp;omega) _,h.b3.far (by simp;omega) _,h.own.kept gr (.inr (row_neP h.own hk ht)),h.below.setCell (by simp;omega) _⟩
def placeOf (lo ln:List It) (k:Nat):Int:=match idxTo lo lo.length (itAt ln k).name with | some a=>(a:Int) | none=>((lo.length+(newTo lo ln k).length:Nat):Int)
def mgErr (lo ln:List It):Nat->Int
 | 0=>0
 | k+1=>if mgErr lo ln k≠0 then mgErr lo ln k else keepErr ln (itAt lo k)
def placeL (lo ln:List It):List Int:=(List.range ln.length).map (placeOf lo ln)
def mgE (a b:CatM):Int :=
 if codeBoth a b≠0 then codeBoth a b else if mgErr a.items b.items a.items.length≠0 then 9 else if 64<(mergeL a.items b.items b.items.length).length then 4 else 0
def cat0:CatM:=⟨[],[],[],[],sz0,sz0,sz0,sz0⟩
def mgC (a b:CatM):CatM :=
 if mgE a b≠0 then cat0 else mvC (placeL a.items b.items) (mergeL a.items b.items b.items.length).length { b with items:=mergeL a.items b.items b.items.length }
def MgQ (w:World) (a b:CatM) (e:Ending) (w':World):Prop:=∃m:CatM,e=.returned (.tuple #[m.val,.int .i64 (mgE a b)])∧m.Ok w'∧m.core=(mgC a b).core∧Below w.heap.size w w'
theorem cat0_ok (W:World):cat0.Ok W:=⟨⟨.inl rfl,rfl,by simp[cat0,sz0],by simp[cat0]⟩,⟨.inl rfl,rfl,by simp[cat0,sz0],by simp[cat0]⟩,⟨.inl rfl,rfl,by simp[cat0,sz0],by simp[cat0]⟩,⟨.inl rfl,rfl,by simp[cat0,sz0],by simp[cat0]⟩⟩
theorem MgQ.bad {w w':World} {a b:CatM} {q:Int} (h:mgE a b=q) (hq:q≠0) (hb:Below w.heap.size w w'):MgQ w a b (.returned (.tuple #[.agg #[.slice none 0 0,.slice none 0 0,.slice none 0 0,.slice none 0 0],.int .i64 q])) w' :=
 ⟨cat0,by rw[h];rfl,cat0_ok _,by rw[mgC,if_pos (by rw[h];exact hq)],hb⟩
theorem mgErr_stay (lo ln:List It) {k:Nat} (h:mgErr lo ln k≠0):∀d,mgErr lo ln (k+d)=mgErr lo ln k:=by
 intro d
 induction d with
 | zero=>rfl
 | succ d ih =>
   show mgErr lo ln (k+d+1)=_;simp only[mgErr,ih,if_pos h]
theorem mgE_type {a b:CatM} (hq:codeBoth a b=0) {k:Nat} (hk:k<a.items.length) (h0:mgErr a.items b.items k=0) (h:keepErr b.items (itAt a.items k)≠0):mgE a b=9:=by
 have h1:mgErr a.items b.items (k+1)≠0:=by simp only[mgErr,h0];simpa using h
 have h2:=mgErr_stay a.items b.items h1 (a.items.length-(k+1));rw[show k+1+(a.items.length-(k+1))=a.items.length by omega]at h2;simp only[mgE,hq,h2];simp[h1]
theorem mgE_good {a b:CatM} (hq:codeBoth a b=0) (h0:mgErr a.items b.items a.items.length=0):mgE a b=if 64<(mergeL a.items b.items b.items.length).length then 4 else 0:=by
 simp only[mgE,hq,h0];simp
theorem placeOf_range (lo ln:List It) (k:Nat) (hk:k<ln.length):0<=placeOf lo ln k∧placeOf lo ln k<((mergeL lo ln ln.length).length:Int):=by
 have hl:(mergeL lo ln ln.length).length=lo.length+(newTo lo ln ln.length).length:=by simp[mergeL]
 have hmono:∀d j,(newTo lo ln j).length<=(newTo lo ln (j+d)).length:=by
  intro d j
  induction d with
  | zero=>exact Nat.le_refl _
  | succ d ih =>
    refine Nat.le_trans ih ?_;show _<=(newTo lo ln (j+d+1)).length;simp only[newTo];split
    ·exact Nat.le_refl _
    ·simp
 unfold placeOf;cases hx:idxTo lo lo.length (itAt ln k).name with
 | some x =>
   have:=(idxTo_lt hx).1;rw[hl];refine⟨by simp,?_⟩;show(x:Int)<_;omega
 | none =>
   have h2:=hmono (ln.length-(k+1)) (k+1);rw[show k+1+(ln.length-(k+1))=ln.length by omega]at h2;have h3:(newTo lo ln (k+1)).length=(newTo lo ln k).length+1:=by simp[newTo,hx]
   rw[hl];show(0:Int)<=((lo.length+(newTo lo ln k).length:Nat):Int)∧((lo.length+(newTo lo ln k).length:Nat):Int)<_;omega
theorem placeL_len (lo ln:List It):(placeL lo ln).length=ln.length:=by simp[placeL]
theorem placeL_pos (lo ln:List It):∀x∈placeL lo ln,0<=x∧x<((mergeL lo ln ln.length).length:Int):=by
 intro x hx;obtain⟨k,hk,rfl⟩:=List.mem_map.1 hx;exact placeOf_range lo ln k (List.mem_range.1 hk)
theorem placeL_eq {lo ln:List It} {pl:List Int} (hl:pl.length=ln.length) (h:∀i,i<ln.length->wAt pl i=placeOf lo ln i):pl=placeL lo ln:=by
 apply List.ext_getElem
 ·rw[hl,placeL_len]
 ·intro i h1 h2;have:=h i (by omega);simp only[wAt,List.getElem?_eq_getElem h1,Option.getD_some]at this;rw[this];simp[placeL]
theorem itAt_mem2 {l:List It} {k:Nat} (h:k<l.length):itAt l k∈l:=by simp[itAt,h]
theorem mergeL_names {lo ln:List It} (h1:∀t∈lo,t.name.size<=8192) (h2:∀t∈ln,t.name.size<=8192):∀t∈mergeL lo ln ln.length,t.name.size<=8192:=by
 intro t ht;rcases List.mem_append.1 ht with ht|ht
 ·obtain⟨i,hi,rfl⟩:=List.mem_map.1 ht;have hi':=List.mem_range.1 hi;rw[if_pos hi'];unfold mergeIt;split
  ·rename_i x hx
   exact h2 _ (itAt_mem2 (idxTo_lt hx).1)
  ·exact h1 _ (itAt_mem2 hi')
 ·have key:∀k,k<=ln.length->∀t∈newTo lo ln k,t∈ln:=by
   intro k
   induction k with
   | zero=>intro _ t h;simp[newTo]at h
   | succ k ih =>
     intro hk t h;simp only[newTo]at h;split at h
     ·exact ih (by omega) t h
     ·rcases List.mem_append.1 h with h | h
      ·exact ih (by omega) t h
      ·rw[List.mem_singleton.1 h];exact itAt_mem2 (by omega)
  exact h2 t (key _ (Nat.le_refl _) t ht)
theorem Merge_any {w : World} {a b : CatM} (ha : a.Ok w) (hb : b.Ok w) (hT : Tab w) (hsh : ∀ x ∈ allL b, x.2.length <= 12) (h64 : codeC b = 0 -> b.items.length <= 64) (hrg : codeC b = 0 -> ∀ x ∈ allL b, ∀ p ∈ x.2, 0 <= p.1 ∧ p.1 < (b.items.length : Int)) :
 Calls Tryz.prog 14 #[a.val,b.val] w (MgQ w a b):=by
 obtain⟨i0,hi,hz0,hz1,hz2⟩:=info_parts info89h;obtain⟨lo,ra,ta,xa,⟨Ao,no,co⟩,⟨Ar,arn,arc⟩,⟨At,atn,atc⟩,⟨Ax,axn,axc⟩⟩:=a;obtain⟨ln,rb,tb,xb,⟨Bo,nx,cx⟩,⟨Br,brn,brc⟩,⟨Bt,btn,btc⟩,⟨Bx,bxn,bxc⟩⟩:=b;have Ho:=iH ha.items.itsR;have Hn:=iH hb.items.itsR;have Hbk:=iH hb;have Hak:=iH ha;have Hlo:=iH Ho.out.len;have Hln:=iH Hn.out.len;have sno:no<=100000:=ha.items.small;have snx:nx<=100000:=hb.items.small;have hb0:Below w.heap.size w (((w.alloc (.cells #[.slice Ao no co,.slice Ar arn arc,.slice At atn atc,.slice Ax axn axc] 28)).alloc (.cells #[.slice Bo nx cx,.slice Br brn brc,.slice Bt btn btc,.slice Bx bxn bxc] 28)).alloc (.cells #[.slice none 0 0,.slice none 0 0,.slice none 0 0,.slice none 0 0] 28)):=(((Below.refl _ _).alloc (Nat.le_refl _) _).alloc (by simp) _).alloc (by simp;omega) _;have k0:=((Bk.new w 28 [.slice Ao no co,.slice Ar arn arc,.slice At atn atc,.slice Ax axn axc]).alloc (.cells #[.slice Bo nx cx,.slice Br brn brc,.slice Bt btn btc,.slice Bx bxn bxc] 28)).alloc (.cells #[.slice none 0 0,.slice none 0 0,.slice none 0 0,.slice none 0 0] 28);have k0':=(Bk.new (w.alloc (.cells #[.slice Ao no co,.slice Ar arn arc,.slice At atn atc,.slice Ax axn axc] 28)) 28 [.slice Bo nx cx,.slice Br brn brc,.slice Bt btn btc,.slice Bx bxn bxc]).alloc (.cells #[.slice none 0 0,.slice none 0 0,.slice none 0 0,.slice none 0 0] 28);have k0'':=Bk.new ((w.alloc (.cells #[.slice Ao no co,.slice Ar arn arc,.slice At atn atc,.slice Ax axn axc] 28)).alloc (.cells #[.slice Bo nx cx,.slice Br brn brc,.slice Bt btn btc,.slice Bx bxn bxc] 28)) 28 [.slice none 0 0,.slice none 0 0,.slice none 0 0,.slice none 0 0];rw[World.size_alloc]at k0';rw[World.size_alloc,World.size_alloc]at k0'';have HV:=iH (both_cat (ha.below hb0) (hb.below hb0) (hT.below hb0 hT.1));have HBad:Hid (∀(q:Int) (w':World),mgE ⟨lo,ra,ta,xa,⟨Ao,no,co⟩,⟨Ar,arn,arc⟩,⟨At,atn,atc⟩,⟨Ax,axn,axc⟩⟩ ⟨ln,rb,tb,xb,⟨Bo,nx,cx⟩,⟨Br,brn,brc⟩,⟨Bt,btn,btc⟩,⟨Bx,bxn,bxc⟩⟩=q->q≠0->Below w.heap.size w w'->MgQ w ⟨lo,ra,ta,xa,⟨Ao,no,co⟩,⟨Ar,arn,arc⟩,⟨At,atn,atc⟩,⟨Ax,axn,axc⟩⟩ ⟨ln,rb,tb,xb,⟨Bo,nx,cx⟩,⟨Br,brn,brc⟩,⟨Bt,btn,btc⟩,⟨Bx,bxn,bxc⟩⟩ (.returned (.tuple #[.agg #[.slice none 0 0,.slice none 0 0,.slice none 0 0,.slice none 0 0],.int .i64 q])) w'):=fun q w' h1 h2 h3=>MgQ.bad h1 h2 h3
 have HGd:Hid (codeBoth ⟨lo,ra,ta,xa,⟨Ao,no,co⟩,⟨Ar,arn,arc⟩,⟨At,atn,atc⟩,⟨Ax,axn,axc⟩⟩ ⟨ln,rb,tb,xb,⟨Bo,nx,cx⟩,⟨Br,brn,brc⟩,⟨Bt,btn,btc⟩,⟨Bx,bxn,bxc⟩⟩=0->mgErr lo ln lo.length=0->mgE ⟨lo,ra,ta,xa,⟨Ao,no,co⟩,⟨Ar,arn,arc⟩,⟨At,atn,atc⟩,⟨Ax,axn,axc⟩⟩ ⟨ln,rb,tb,xb,⟨Bo,nx,cx⟩,⟨Br,brn,brc⟩,⟨Bt,btn,btc⟩,⟨Bx,bxn,bxc⟩⟩=if 64<(mergeL lo ln ln.length).length then 4 else 0):=fun h1 h2=>mgE_good h1 h2
 have HTy:Hid (codeBoth ⟨lo,ra,ta,xa,⟨Ao,no,co⟩,⟨Ar,arn,arc⟩,⟨At,atn,atc⟩,⟨Ax,axn,axc⟩⟩ ⟨ln,rb,tb,xb,⟨Bo,nx,cx⟩,⟨Br,brn,brc⟩,⟨Bt,btn,btc⟩,⟨Bx,bxn,bxc⟩⟩=0->∀k,k<lo.length->mgErr lo ln k=0->keepErr ln (itAt lo k)≠0->mgE ⟨lo,ra,ta,xa,⟨Ao,no,co⟩,⟨Ar,arn,arc⟩,⟨At,atn,atc⟩,⟨Ax,axn,axc⟩⟩ ⟨ln,rb,tb,xb,⟨Bo,nx,cx⟩,⟨Br,brn,brc⟩,⟨Bt,btn,btc⟩,⟨Bx,bxn,bxc⟩⟩=9):=fun h1 k h2 h3 h4=>mgE_type h1 h2 h3 h4
 have HBt:Hid (codeBoth ⟨lo,ra,ta,xa,⟨Ao,no,co⟩,⟨Ar,arn,arc⟩,⟨At,atn,atc⟩,⟨Ax,axn,axc⟩⟩ ⟨ln,rb,tb,xb,⟨Bo,nx,cx⟩,⟨Br,brn,brc⟩,⟨Bt,btn,btc⟩,⟨Bx,bxn,bxc⟩⟩≠0->mgE ⟨lo,ra,ta,xa,⟨Ao,no,co⟩,⟨Ar,arn,arc⟩,⟨At,atn,atc⟩,⟨Ax,axn,axc⟩⟩ ⟨ln,rb,tb,xb,⟨Bo,nx,cx⟩,⟨Br,brn,brc⟩,⟨Bt,btn,btc⟩,⟨Bx,bxn,bxc⟩⟩=codeBoth ⟨lo,ra,ta,xa,⟨Ao,no,co⟩,⟨Ar,arn,arc⟩,⟨At,atn,atc⟩,⟨Ax,axn,axc⟩⟩ ⟨ln,rb,tb,xb,⟨Bo,nx,cx⟩,⟨Br,brn,brc⟩,⟨Bt,btn,btc⟩,⟨Bx,bxn,bxc⟩⟩):=fun h=>by simp only[mgE,if_pos h]
 have HSh:Hid (codeBoth ⟨lo,ra,ta,xa,⟨Ao,no,co⟩,⟨Ar,arn,arc⟩,⟨At,atn,atc⟩,⟨Ax,axn,axc⟩⟩ ⟨ln,rb,tb,xb,⟨Bo,nx,cx⟩,⟨Br,brn,brc⟩,⟨Bt,btn,btc⟩,⟨Bx,bxn,bxc⟩⟩=0->∀x∈allL ⟨ln,rb,tb,xb,⟨Bo,nx,cx⟩,⟨Br,brn,brc⟩,⟨Bt,btn,btc⟩,⟨Bx,bxn,bxc⟩⟩,x.2.length<=12∧∀p∈x.2,0<=p.1∧p.1<(nx:Int)):=fun h x hx=>⟨hsh x hx,by have h2:=hrg (codeBoth_zero h).2 x hx;rw[show(nx:Int)=(ln.length:Int) from congrArg Nat.cast Hln.out];exact h2⟩
 have HMc:Hid (mgE ⟨lo,ra,ta,xa,⟨Ao,no,co⟩,⟨Ar,arn,arc⟩,⟨At,atn,atc⟩,⟨Ax,axn,axc⟩⟩ ⟨ln,rb,tb,xb,⟨Bo,nx,cx⟩,⟨Br,brn,brc⟩,⟨Bt,btn,btc⟩,⟨Bx,bxn,bxc⟩⟩=0->mgC ⟨lo,ra,ta,xa,⟨Ao,no,co⟩,⟨Ar,arn,arc⟩,⟨At,atn,atc⟩,⟨Ax,axn,axc⟩⟩ ⟨ln,rb,tb,xb,⟨Bo,nx,cx⟩,⟨Br,brn,brc⟩,⟨Bt,btn,btc⟩,⟨Bx,bxn,bxc⟩⟩=mvC (placeL lo ln) (mergeL lo ln ln.length).length { (⟨ln,rb,tb,xb,⟨Bo,nx,cx⟩,⟨Br,brn,brc⟩,⟨Bt,btn,btc⟩,⟨Bx,bxn,bxc⟩⟩:CatM)with items:=mergeL lo ln ln.length }):=fun h=>by rw[mgC,if_neg (by rw[h];decide)]
 have H64:Hid (codeBoth ⟨lo,ra,ta,xa,⟨Ao,no,co⟩,⟨Ar,arn,arc⟩,⟨At,atn,atc⟩,⟨Ax,axn,axc⟩⟩ ⟨ln,rb,tb,xb,⟨Bo,nx,cx⟩,⟨Br,brn,brc⟩,⟨Bt,btn,btc⟩,⟨Bx,bxn,bxc⟩⟩=0->nx<=64):=fun h=>by have e:nx=ln.length:=Hln.out;rw[e];exact h64 (codeBoth_zero h).2
 have HK0:=iH k0;have HK0':=iH k0';have HK0'':=iH k0'';clear k0 k0' k0'' ha hb hT hsh hrg h64;obtain⟨E,hE⟩:∃E,mgE ⟨lo,ra,ta,xa,⟨Ao,no,co⟩,⟨Ar,arn,arc⟩,⟨At,atn,atc⟩,⟨Ax,axn,axc⟩⟩ ⟨ln,rb,tb,xb,⟨Bo,nx,cx⟩,⟨Br,brn,brc⟩,⟨Bt,btn,btc⟩,⟨Bx,bxn,bxc⟩⟩=E:=⟨_,rfl⟩;obtain⟨Q,hQ⟩:∃Q,codeBoth ⟨lo,ra,ta,xa,⟨Ao,no,co⟩,⟨Ar,arn,arc⟩,⟨At,atn,atc⟩,⟨Ax,axn,axc⟩⟩ ⟨ln,rb,tb,xb,⟨Bo,nx,cx⟩,⟨Br,brn,brc⟩,⟨Bt,btn,btc⟩,⟨Bx,bxn,bxc⟩⟩=Q:=⟨_,rfl⟩;rw[hQ]at HV;have HE:=iH hE;have HQ:=iH hQ;clear hE hQ;go_enter Tryz.func14,Tryz.ntmps14;go_wp2_with fail;(with_reducible refine HV.out.mono ?_);rintro e w1 ⟨rfl,hb1⟩;have K1:=iH (HK0.out.below hb1 (by simp;omega));have K2:=iH (HK0'.out.below hb1 (by simp));have K3:=iH (HK0''.out.below hb1 (by simp));have G1:Below w.heap.size w w1:=hb0.trans (hb1.mono (by simp;omega));clear hb1 hb0 HK0 HK0' HK0'' HV;by_cases hq:Q=0
 case neg =>
  have d1:(Q != 0)=true:=by simpa using hq
  have HF:=iH (fun w' h=>HBad.out Q w' (by rw[HBt.out (by rw[HQ.out];exact hq),HQ.out]) hq h);have d:=fun q=>K3.out.cell q
  have d0:=K3.out.k0;have d1:=K3.out.k1;have d2:=K3.out.k2;have d3:=K3.out.k3;have f0:w1.frozen? ⟨w.heap.size+1+1,0,none⟩=false:=K3.out.frozen 0;have f1:w1.frozen? ⟨w.heap.size+1+1,1,none⟩=false:=K3.out.frozen 1;have f2:w1.frozen? ⟨w.heap.size+1+1,2,none⟩=false:=K3.out.frozen 2;have f3:w1.frozen? ⟨w.heap.size+1+1,3,none⟩=false:=K3.out.frozen 3;have lz:w.heap.size+1+1<w1.heap.size:=K3.out.lt;clear d HGd HTy HBt HSh HMc hq;go_wp2_with fail;have q4:=(((K3.out.set 0 (.slice none 0 0)).set 1 (.slice none 0 0)).set 2 (.slice none 0 0)).set 3 (.slice none 0 0);have r0:=q4.cell 0;have r1:=q4.cell 1;have r2:=q4.cell 2;have r3:=q4.cell 3;refine bodyPost_ret (v:=.tuple #[.agg #[.slice none 0 0,.slice none 0 0,.slice none 0 0,.slice none 0 0],.int .i64 Q]) (by simp[results,Tryz.results14,go_sem,r0,r1,r2,r3]) rfl (HF.out _ ?_);exact(((G1.setCell (p:=⟨w.heap.size+2,0,none⟩) (by simp) _).setCell (p:=⟨w.heap.size+2,1,none⟩) (by simp) _).setCell (p:=⟨w.heap.size+2,2,none⟩) (by simp) _).setCell (p:=⟨w.heap.size+2,3,none⟩) (by simp) _
 case pos =>
 subst hq;have N1:Hid (∀W:World,Below w1.heap.size w1 W->Calls Tryz.prog 66 #[.agg #[.slice Ao no co,.slice Ar arn arc,.slice At atn atc,.slice Ax axn axc]] W (NamesPost W lo no)):=fun W hW=>names_any2 (i:=⟨Ao,no,co⟩) (r:=⟨Ar,arn,arc⟩) (t:=⟨At,atn,atc⟩) (x:=⟨Ax,axn,axc⟩) (Ho.out.below (G1.trans (hW.mono G1.size)))
 have N2:Hid (∀W:World,Below w1.heap.size w1 W->Calls Tryz.prog 66 #[.agg #[.slice Bo nx cx,.slice Br brn brc,.slice Bt btn btc,.slice Bx bxn bxc]] W (NamesPost W ln nx)):=fun W hW=>names_any2 (i:=⟨Bo,nx,cx⟩) (r:=⟨Br,brn,brc⟩) (t:=⟨Bt,btn,btc⟩) (x:=⟨Bx,bxn,bxc⟩) (Hn.out.below (G1.trans (hW.mono G1.size)))
 have HC:Hid (∀U:World,Below w1.heap.size w1 U->(U.cell? ⟨w.heap.size,0,none⟩=some (.slice Ao no co)∧U.cell? ⟨w.heap.size,1,none⟩=some (.slice Ar arn arc)∧U.cell? ⟨w.heap.size,2,none⟩=some (.slice At atn atc)∧U.cell? ⟨w.heap.size,3,none⟩=some (.slice Ax axn axc))∧(U.cell? ⟨w.heap.size+1,0,none⟩=some (.slice Bo nx cx)∧U.cell? ⟨w.heap.size+1,1,none⟩=some (.slice Br brn brc)∧U.cell? ⟨w.heap.size+1,2,none⟩=some (.slice Bt btn btc)∧U.cell? ⟨w.heap.size+1,3,none⟩=some (.slice Bx bxn bxc))):=fun U hU=>by
  have q1:=K1.out.below hU K1.out.lt;have q2:=K2.out.below hU K2.out.lt;exact⟨⟨q1.cell 0,q1.cell 1,q1.cell 2,q1.cell 3⟩,q2.cell 0,q2.cell 1,q2.cell 2,q2.cell 3⟩
 obtain⟨⟨p0,p1,p2,p3⟩,r0,r1,r2,r3⟩:=HC.out w1 (Below.refl _ _);go_wp2_with fail;go_cut [7,8] (fun a b wx=>∃bo bn,a=.map (some bo)∧b=.map (some bn)∧MapI wx bo no (idxTo lo no)∧MapI wx bn nx (idxTo ln nx)∧Below w1.heap.size w1 wx)
 case first =>
  go_region_with (first
   | (go_at_call 66;(with_reducible refine(N1.out _ ?_).mono ?_);(first | exact(Below.refl _ _).drew | exact GB);rintro e wA ⟨b,rfl,hm,hge,hba⟩;(first | (have GC:=GB.trans (hba.mono GB.size);have hm1:=hm;have hm2:=hmB.below hba) | (have GA:=(Below.refl w1.heap.size w1).drew.trans hba;have hmA:=hm;obtain⟨⟨p0,p1,p2,p3⟩,r0,r1,r2,r3⟩:=HC.out _ GA)))
   | (go_at_call 66;(with_reducible refine(N2.out _ ?_).mono ?_);(first | exact(Below.refl _ _).drew | exact GA);rintro e wA ⟨b,rfl,hm,hge,hba⟩;(first | (have GC:=GA.trans (hba.mono GA.size);have hm2:=hm;have hm1:=hmA.below hba) | (have GB:=(Below.refl w1.heap.size w1).drew.trans hba;have hmB:=hm;obtain⟨⟨p0,p1,p2,p3⟩,r0,r1,r2,r3⟩:=HC.out _ GB))))
  all_goals (try go_wp2_with fail)
  all_goals go_meet
  all_goals exact⟨_,_,rfl,rfl,hm1,hm2,GC⟩
 case rest =>
  obtain⟨bo,bn,rfl,rfl,hm1,hm2,hbc⟩:=hcut;obtain⟨⟨q0,q1,q2,q3⟩,q4,q5,q6,q7⟩:=HC.out _ hbc;have G2:=G1.trans (hbc.mono G1.size);have KC:=iH (clone_its (s:=⟨Ao,no,co⟩) (Hak.out.items.below G2));have K1':=iH (K1.out.below hbc K1.out.lt);have K2':=iH (K2.out.below hbc K2.out.lt);have K3':=iH (K3.out.below hbc K3.out.lt);have HM1:=iH hm1;have HM2:=iH hm2;clear hm1 hm2 hbc p0 p1 p2 p3 r0 r1 r2 r3 N1 N2 HC K1 K2 K3 G1;go_wp2_with fail;refine KC.out.mono ?_;rintro e wB ⟨s1,rfl,hoB,hn1,hbB⟩;obtain⟨Ai,ni,ci⟩:=s1;dsimp only at hoB hn1⊢;have hn2:no=ni:=by rw[hn1];exact Hlo.out
  subst hn2;have hs3:w.heap.size+3<=wc.heap.size:=K3'.out.lt;have S0:MgB w wB ⟨lo,ra,ta,xa,⟨Ao,no,co⟩,⟨Ar,arn,arc⟩,⟨At,atn,atc⟩,⟨Ax,axn,axc⟩⟩ ⟨ln,rb,tb,xb,⟨Bo,nx,cx⟩,⟨Br,brn,brc⟩,⟨Bt,btn,btc⟩,⟨Bx,bxn,bxc⟩⟩ bo bn (.slice Ai no ci) (mergeTo lo ln 0) :=
   ⟨HM1.out.below hbB,HM2.out.below hbB,K1'.out.below hbB K1'.out.lt,K2'.out.below hbB K2'.out.lt,K3'.out.below hbB K3'.out.lt,by rw[mergeTo_zero,<- hn1];exact⟨hoB.1,hoB.2.imp id fun⟨g,cap,cur,h1,h2,h3⟩=>⟨g,cap,cur,h1,by omega,h3⟩⟩,G2.trans (hbB.mono G2.size)⟩
  have HS0:=iH S0;clear S0 hoB hbB KC K1' K2' K3' HM1 HM2 q0 q1 q2 q3 q4 q5 q6 q7 G2 hs3 hn1;go_wp2_with fail;go_loopw [35] (fun i wr=>∃k:Nat,k<=no∧i=.int .i64 k∧mgErr lo ln k=0∧MgB w wr ⟨lo,ra,ta,xa,⟨Ao,no,co⟩,⟨Ar,arn,arc⟩,⟨At,atn,atc⟩,⟨Ax,axn,axc⟩⟩ ⟨ln,rb,tb,xb,⟨Bo,nx,cx⟩,⟨Br,brn,brc⟩,⟨Bt,btn,btc⟩,⟨Bx,bxn,bxc⟩⟩ bo bn (.slice Ai no ci) (mergeTo lo ln k)) (fun i _=>no-(intOf i).toNat)
  case atStart=>exact⟨0,Nat.zero_le _,rfl,rfl,HS0.out⟩
  case round =>
   obtain⟨k,hk,rfl,h0,hA⟩:=hrel;have HA:=iH hA;have H0:=iH h0;clear hA HS0 h0;by_cases hlt:k<no
   ·have hkl:k<lo.length:=by have:=Hlo.out;omega
    have hlen:(mergeTo lo ln k).length=no:=by simp[Hlo.out]
    have hown:=HA.out.own;rw[hlen]at hown;obtain⟨gi,cap,hv⟩:=row_some hown (by omega);cases hv;have hit:itAt (mergeTo lo ln k) k=itAt lo k:=by rw[itAt_merge _ _ _ _ hkl,if_neg (by omega)]
    have gc:=fun r (hr:r<7)=>(hown.cellAt (k*7+r) (by omega)).trans (icells_get (mergeTo lo ln k) k r (by rw[hlen];exact hlt) hr)
    rw[hit]at gc;have c0:wr.cell? ⟨gi,k*7,none⟩=some (.string (itAt lo k).name):=gc 0 (by omega);have c1:wr.cell? ⟨gi,k*7+1,none⟩=some (.bool (itAt lo k).object):=gc 1 (by omega);have c2:wr.cell? ⟨gi,k*7+2,none⟩=some (.bool (itAt lo k).mixed):=gc 2 (by omega);have c3:wr.cell? ⟨gi,k*7+3,none⟩=some (.bool (itAt lo k).coin):=gc 3 (by omega);have c4:wr.cell? ⟨gi,k*7+4,none⟩=some (.int .i64 (itAt lo k).wear):=gc 4 (by omega);have c5:wr.cell? ⟨gi,k*7+5,none⟩=some (.int .i64 (itAt lo k).bnd):=gc 5 (by omega);have c6:wr.cell? ⟨gi,k*7+6,none⟩=some (.int .i64 (itAt lo k).level):=gc 6 (by omega);have hgi:gi<wr.heap.size:=(hown.lt gi rfl).2;have hpm:=size_max (Ho.out.name _ (itAt_mem hkl));have HA1:=iH (HA.out.grow ((Below.refl _ wr).alloc (Nat.le_refl _) (.cells #[.string (itAt lo k).name,.bool (itAt lo k).object,.bool (itAt lo k).mixed,.bool (itAt lo k).coin,.int .i64 (itAt lo k).wear,.int .i64 (itAt lo k).bnd,.int .i64 (itAt lo k).level] 42)));have HX:=iH (Bk.new wr 42 [.string (itAt lo k).name,.bool (itAt lo k).object,.bool (itAt lo k).mixed,.bool (itAt lo k).coin,.int .i64 (itAt lo k).wear,.int .i64 (itAt lo k).bnd,.int .i64 (itAt lo k).level]);have lk:=HA1.out.mn.look hpm;have Hsk:=iH (mergeTo_skip lo ln k hkl);have Hse:=iH (mergeTo_set lo ln k hkl);have Hmi:Hid (mergeIt ln (itAt lo k)=match idxTo ln nx (itAt lo k).name with | some b=>itAt ln b | none=>itAt lo k):=by show mergeIt ln (itAt lo k)=_;rw[Hln.out];rfl
    have Hke:Hid (keepErr ln (itAt lo k)=match idxTo ln nx (itAt lo k).name with | some b=>if alikeB (itAt lo k) (itAt ln b)=false then 9 else 0 | none=>0):=by show _=_;rw[Hln.out];rfl
    have Hnx:Hid (keepErr ln (itAt lo k)=0->mgErr lo ln (k+1)=0):=fun h=>by simp only[mgErr,H0.out];simpa using h
    have Hty:Hid (keepErr ln (itAt lo k)≠0->E=9):=fun h=>HE.out.symm.trans (HTy.out HQ.out k hkl H0.out h)
    have Hlen:=iH hlen;have k0:(0:Int)<=(k:Int):=by omega
    have k1:(k:Int)<(no:Int):=by omega
    clear hkl hlen hown hit gc HA H0;generalize itAt lo k=ta at *;cases hb:idxTo ln nx ta.name with
    | none =>
      rw[hb]at lk Hmi Hke;dsimp only at Hmi Hke;have Hs2:=iH (Hsk.out Hmi.out);have Hn2:=iH (Hnx.out Hke.out);simp only[Option.isSome_none,Option.getD_none]at lk;obtain⟨n1,o1,m1,c1',w1',b1,l1⟩:=ta;dsimp only at *;clear hb Hke Hse Hsk Hmi Hnx Hty;go_wp2_with fail;go_roundw
      case rel=>exact⟨k+1,by omega,by go_num,Hn2.out,by rw[<- Hs2.out];exact HA1.out⟩
      case measure=>simp[intOf];omega
    | some b' =>
      have hb1:=(idxTo_lt hb).1;rw[hb]at lk Hmi Hke;dsimp only at Hmi Hke;rw[Hmi.out]at Hse;simp only[Option.isSome_some,Option.getD_some]at lk;have AK:=iH (fun U:World=>alike_any ta (itAt ln b') U);have i2:(0:Int)<=(b':Int):=by omega
      have i3:(b':Int)<(nx:Int):=by omega
      obtain⟨bp,op,hax,hbp,pc0,pc1,pc2,pc3,pc4,pc5,pc6⟩:=(Hn.out.below HA1.out.below).at_ b' hb1;subst hax;have p0:=HA1.out.b2.cell 0;generalize hal:alikeB ta (itAt ln b')=al at *;clear hb Hsk Hmi hal;generalize itAt ln b'=tb at *;obtain⟨n1,o1,m1,c1',w1',b1,l1⟩:=ta;obtain⟨n2,o2,m2,c2',w2',b2,l2⟩:=tb;dsimp only at *;have x0:=HX.out.cell 0;have x1:=HX.out.cell 1;have x2:=HX.out.cell 2;have x3:=HX.out.cell 3;have x4:=HX.out.cell 4;have x5:=HX.out.cell 5;have x6:=HX.out.cell 6;go_wp2_with fail;generalize wr.alloc (.cells #[.string n1,.bool o1,.bool m1,.bool c1',.int .i64 w1',.int .i64 b1,.int .i64 l1] 42)=W at *;clear c0 c1 c2 c3 c4 c5 c6 hgi lk;generalize wr.heap.size=gx at *;go_still_tail 6,(by kernel_rfl);change wpList _ _ _ _ _ W.drew;go_wp2_with fail;refine(AK.out _).mono ?_;rintro e wA ⟨rfl,hbA⟩;have BA:Below W.heap.size W wA:=(Below.refl W.heap.size W).drew.trans hbA;have HA3:=iH (HA1.out.grow BA);cases al with
      | false =>
        have hE9:E=9:=Hty.out (by rw[Hke.out];decide);have HF:=iH (fun w' h=>HBad.out 9 w' (by rw[HE.out,hE9]) (by decide) h);have HB3:=iH HA3.out.b3;have HBe:=iH HA3.out.below;have d0:=HB3.out.k0;have d1:=HB3.out.k1;have d2:=HB3.out.k2;have d3:=HB3.out.k3;have f0:wA.frozen? ⟨w.heap.size+1+1,0,none⟩=false:=HB3.out.frozen 0;have f1:wA.frozen? ⟨w.heap.size+1+1,1,none⟩=false:=HB3.out.frozen 1;have f2:wA.frozen? ⟨w.heap.size+1+1,2,none⟩=false:=HB3.out.frozen 2;have f3:wA.frozen? ⟨w.heap.size+1+1,3,none⟩=false:=HB3.out.frozen 3;have lz:w.heap.size+1+1<wA.heap.size:=HB3.out.lt;clear Hty Hke Hnx HA3 HA1 BA hbA hE9 pc0 pc1 pc2 pc3 pc4 pc5 pc6 x0 x1 x2 x3 x4 x5 x6 p0 Hse HX;go_wp2_with fail;have q4:=(((HB3.out.set 0 (.slice none 0 0)).set 1 (.slice none 0 0)).set 2 (.slice none 0 0)).set 3 (.slice none 0 0);have r0:=q4.cell 0;have r1:=q4.cell 1;have r2:=q4.cell 2;have r3:=q4.cell 3;refine bodyPost_ret (v:=.tuple #[.agg #[.slice none 0 0,.slice none 0 0,.slice none 0 0,.slice none 0 0],.int .i64 9]) (by simp[results,Tryz.results14,go_sem,r0,r1,r2,r3]) rfl (HF.out _ ?_);exact(((HBe.out.setCell (p:=⟨w.heap.size+2,0,none⟩) (by simp) _).setCell (p:=⟨w.heap.size+2,1,none⟩) (by simp) _).setCell (p:=⟨w.heap.size+2,2,none⟩) (by simp) _).setCell (p:=⟨w.heap.size+2,3,none⟩) (by simp) _
      | true =>
      have Hn2:=iH (Hnx.out (by rw[Hke.out];rfl));have s0:=HA3.out.b2.cell 0;have t0:wA.cell? ⟨bp,op+b'*7,none⟩=some (.string n2):=(BA.cell (p:=⟨bp,_,none⟩) hbp).trans pc0;have t1:wA.cell? ⟨bp,op+b'*7+1,none⟩=some (.bool o2):=(BA.cell (p:=⟨bp,_,none⟩) hbp).trans pc1;have t2:wA.cell? ⟨bp,op+b'*7+2,none⟩=some (.bool m2):=(BA.cell (p:=⟨bp,_,none⟩) hbp).trans pc2;have t3:wA.cell? ⟨bp,op+b'*7+3,none⟩=some (.bool c2'):=(BA.cell (p:=⟨bp,_,none⟩) hbp).trans pc3;have t4:wA.cell? ⟨bp,op+b'*7+4,none⟩=some (.int .i64 w2'):=(BA.cell (p:=⟨bp,_,none⟩) hbp).trans pc4;have t5:wA.cell? ⟨bp,op+b'*7+5,none⟩=some (.int .i64 b2):=(BA.cell (p:=⟨bp,_,none⟩) hbp).trans pc5;have t6:wA.cell? ⟨bp,op+b'*7+6,none⟩=some (.int .i64 l2):=(BA.cell (p:=⟨bp,_,none⟩) hbp).trans pc6;have ho3:=HA3.out.own;rw[Hlen.out]at ho3;have hg3:gi<wA.heap.size:=(ho3.lt gi rfl).2;have ex:=fun r (hr:r<7)=>(ho3.cellAt (k*7+r) (by omega)).trans (icells_get (mergeTo lo ln k) k r (by rw[Hlen.out];exact hlt) hr)
      generalize itAt (mergeTo lo ln k) k=tq at *;obtain⟨y1,y2,y3,y4,y5,y6,y7⟩:=tq;have e0:wA.cell? ⟨gi,k*7,none⟩=some (.string y1):=ex 0 (by omega);have e1:wA.cell? ⟨gi,k*7+1,none⟩=some (.bool y2):=ex 1 (by omega);have e2:wA.cell? ⟨gi,k*7+2,none⟩=some (.bool y3):=ex 2 (by omega);have e3:wA.cell? ⟨gi,k*7+3,none⟩=some (.bool y4):=ex 3 (by omega);have e4:wA.cell? ⟨gi,k*7+4,none⟩=some (.int .i64 y5):=ex 4 (by omega);have e5:wA.cell? ⟨gi,k*7+5,none⟩=some (.int .i64 y6):=ex 5 (by omega);have e6:wA.cell? ⟨gi,k*7+6,none⟩=some (.int .i64 y7):=ex 6 (by omega);have z0:=ho3.frozenAt (k*7);have z1:=ho3.frozenAt (k*7+1);have z2:=ho3.frozenAt (k*7+2);have z3:=ho3.frozenAt (k*7+3);have z4:=ho3.frozenAt (k*7+4);have z5:=ho3.frozenAt (k*7+5);have z6:=ho3.frozenAt (k*7+6);have hset:MgB w (((((((wA.setCell ⟨gi,k*7,none⟩ (.string n2)).setCell ⟨gi,k*7+1,none⟩ (.bool o2)).setCell ⟨gi,k*7+2,none⟩ (.bool m2)).setCell ⟨gi,k*7+3,none⟩ (.bool c2')).setCell ⟨gi,k*7+4,none⟩ (.int .i64 w2')).setCell ⟨gi,k*7+5,none⟩ (.int .i64 b2)).setCell ⟨gi,k*7+6,none⟩ (.int .i64 l2)) ⟨lo,ra,ta,xa,⟨Ao,no,co⟩,⟨Ar,arn,arc⟩,⟨At,atn,atc⟩,⟨Ax,axn,axc⟩⟩ ⟨ln,rb,tb,xb,⟨some ⟨bp,op,none⟩,nx,cx⟩,⟨Br,brn,brc⟩,⟨Bt,btn,btc⟩,⟨Bx,bxn,bxc⟩⟩ bo bn (.slice (some ⟨gi,0,none⟩) no ci) (mergeTo lo ln (k+1)):=by
       have hx:=HA3.out;rw[<- Hlen.out]at hx;have h2:=hx.setIt k ⟨n2,o2,m2,c2',w2',b2,l2⟩ (by rw[Hlen.out];exact hlt);rw[Hse.out,Hlen.out]at h2;exact h2
      have HF:=iH hset;clear hset ho3 ex pc0 pc1 pc2 pc3 pc4 pc5 pc6 x0 x1 x2 x3 x4 x5 x6 p0 hbA BA HA3 HA1 HX Hty Hke Hnx;go_wp2_with fail;go_roundw
      case rel=>exact⟨k+1,by omega,by go_num,Hn2.out,HF.out⟩
      case measure=>simp[intOf];omega
   ·obtain rfl:no=k:=by omega
    have hA0:=HA.out;have hmL:mergeTo lo ln no=mergeL lo ln 0:=by simp[mergeL,newTo,Hlo.out]
    have HG2:Hid (mgErr lo ln lo.length=0):=by rw[<- Hlo.out];exact H0
    have hnx64:=H64.out HQ.out;clear H0;rw[hmL]at hA0;have q4:=hA0.b2.k0;have hl1:=hA0.b1.lt;have hl2:=hA0.b2.lt;have hl3:=hA0.b3.lt;have mk:=fun W=>make_ints nx (by omega) W
    have hgw:Below wr.heap.size wr ((wr.alloc (.cells (ints (List.replicate nx 0)).toArray 3)).alloc (.cells #[.slice (some ⟨wr.heap.size,0,none⟩) nx nx] 22)):=((Below.refl _ _).alloc (Nat.le_refl _) _).alloc (by simp) _;have HS:=iH (hA0.grow hgw);have kp:=(Bk.new wr 3 (ints (List.replicate nx 0))).alloc (.cells #[.slice (some ⟨wr.heap.size,0,none⟩) nx nx] 22);have kb:=Bk.new (wr.alloc (.cells (ints (List.replicate nx 0)).toArray 3)) 22 [.slice (some ⟨wr.heap.size,0,none⟩) nx nx];rw[World.size_alloc]at kb;have KP:=iH kp;have KB:=iH kb;have hgp:w.heap.size+3<=wr.heap.size:=by omega
    clear hA0 hmL hgw kp kb HA;go_wp2_with fail;generalize(wr.alloc (.cells (ints (List.replicate nx 0)).toArray 3)).alloc (.cells #[.slice (some ⟨wr.heap.size,0,none⟩) nx nx] 22)=W0 at *;have hgb:w.heap.size+3<=wr.heap.size+1:=by omega
    have hgbp:wr.heap.size+1≠wr.heap.size:=by omega
    generalize wr.heap.size+1=gb at *;generalize wr.heap.size=gp at *;clear q4 mk hl1 hl2 hl3;go_loopw [9,74] (fun x i wz=>∃k:Nat,k<=nx∧i=.int .i64 k∧MgB w wz ⟨lo,ra,ta,xa,⟨Ao,no,co⟩,⟨Ar,arn,arc⟩,⟨At,atn,atc⟩,⟨Ax,axn,axc⟩⟩ ⟨ln,rb,tb,xb,⟨Bo,nx,cx⟩,⟨Br,brn,brc⟩,⟨Bt,btn,btc⟩,⟨Bx,bxn,bxc⟩⟩ bo bn x (mergeL lo ln k)∧Bk wz gb 22 [.slice (some ⟨gp,0,none⟩) nx nx]∧∃pl:List Int,pl.length=nx∧(∀i,i<k->wAt pl i=placeOf lo ln i)∧Bk wz gp 3 (ints pl)) (fun _ i _=>nx-(intOf i).toNat)
    case atStart=>exact⟨0,Nat.zero_le _,rfl,HS.out,KB.out,_,by simp,fun i h=>absurd h (by omega),KP.out⟩
    case round =>
     obtain⟨k,hk,rfl,hA,kb,pl,hpl,hpv,kp⟩:=hrel;have Hpv:=iH hpv;clear hpv;have HA:=iH hA;have KB1:=iH kb;have KP1:=iH kp;have Hpl:=iH hpl;clear hA kb kp hpl HS KB KP;have hll:=mergeL_le lo ln k;rw[<- Hlo.out]at hll;by_cases hlt:k<nx
     ·have hkl:k<ln.length:=by have:=Hln.out;omega
      obtain⟨bp,op,hax,hbp,pc0,pc1,pc2,pc3,pc4,pc5,pc6⟩:=(Hn.out.below HA.out.below).at_ k hlt;subst hax;have hpm:=size_max (Hn.out.name _ (itAt_mem hkl));have HA1:=iH (HA.out.grow ((Below.refl _ wr).alloc (Nat.le_refl _) (.cells #[.string (itAt ln k).name,.bool (itAt ln k).object,.bool (itAt ln k).mixed,.bool (itAt ln k).coin,.int .i64 (itAt ln k).wear,.int .i64 (itAt ln k).bnd,.int .i64 (itAt ln k).level] 42)));have lk:=HA1.out.mo.look hpm;have Hso:Hid ((idxTo lo no (itAt ln k).name).isSome=true->mergeL lo ln (k+1)=mergeL lo ln k):=fun h=>mergeL_succ_old (by rw[<- Hlo.out];exact h)
      have Hsn:Hid ((idxTo lo no (itAt ln k).name).isSome=false->mergeL lo ln (k+1)=mergeL lo ln k ++ [itAt ln k]):=fun h=>mergeL_succ_new (by rw[<- Hlo.out];exact h)
      have HX:=iH (Bk.new wr 42 [.string (itAt ln k).name,.bool (itAt ln k).object,.bool (itAt ln k).mixed,.bool (itAt ln k).coin,.int .i64 (itAt ln k).wear,.int .i64 (itAt ln k).bnd,.int .i64 (itAt ln k).level]);have k0:(0:Int)<=(k:Int):=by omega
      have k1:(k:Int)<(nx:Int):=by omega
      obtain⟨Ax9,cx9,hx9,_,_,_⟩:=row_form HA.out.own;subst hx9;have Hpo:Hid (placeOf lo ln k=match idxTo lo no (itAt ln k).name with | some a=>(a:Int) | none=>((mergeL lo ln k).length:Int)):=by
       show placeOf lo ln k=_;rw[Hlo.out];unfold placeOf;cases idxTo lo lo.length (itAt ln k).name with
       | some a=>rfl
       | none=>show((lo.length+(newTo lo ln k).length:Nat):Int)=((mergeL lo ln k).length:Int);simp[mergeL]
      have Hps:Hid (∀v,placeOf lo ln k=v->∀i,i<k+1->wAt (pl.set k v) i=placeOf lo ln i):=by
       show ∀v,_->∀i,_;intro v hv i hi;by_cases e:i=k
       ·subst e;simp only[wAt];rw[List.getElem?_set_self (by rw[Hpl.out];exact hlt)];exact hv.symm
       ·simp only[wAt];rw[List.getElem?_set_ne (fun h=>e h.symm)];exact Hpv.out i (by omega)
      clear hkl Hpv;generalize itAt ln k=tb at *;obtain⟨n2,o2,m2,c2',w2',b2,l2⟩:=tb;dsimp only at *;have hgpl:gp<wr.heap.size:=KP1.out.lt;have hgbl:gb<wr.heap.size:=KB1.out.lt;have hpc:∀X:World,Bk X gp 3 (ints pl)->X.cell? ⟨gp,k,none⟩=some (.int .i64 (wAt pl k)):=fun X hX=>(hX.cell k).trans (ints_at pl k (by rw[Hpl.out];exact hlt))
      cases hb:idxTo lo no n2 with
      | some a =>
        rw[hb]at lk Hso Hpo;have HPS:=iH (Hps.out _ Hpo.out);clear Hpo Hps;simp only[Option.isSome_some,Option.getD_some]at lk;have Hs:=iH (Hso.out rfl);have y0:=KB1.out.k0;have y1:=hpc _ KP1.out;have y2:=KP1.out.frozen k;have hF:=(HA.out.setP KP1.out (by decide) hgp k (.int .i64 (a:Int))).grow ((Below.refl _ _).alloc (Nat.le_refl _) (.cells #[.string n2,.bool o2,.bool m2,.bool c2',.int .i64 w2',.int .i64 b2,.int .i64 l2] 42));have kp3:=(KP1.out.set k (.int .i64 (a:Int))).alloc (.cells #[.string n2,.bool o2,.bool m2,.bool c2',.int .i64 w2',.int .i64 b2,.int .i64 l2] 42);rw[ints_set]at kp3;have kb3:=(KB1.out.far (p:=⟨gp,k,none⟩) hgbp (.int .i64 (a:Int))).alloc (.cells #[.string n2,.bool o2,.bool m2,.bool c2',.int .i64 w2',.int .i64 b2,.int .i64 l2] 42);have HF:=iH hF;have KP3:=iH kp3;have KB3:=iH kb3;clear hF kp3 kb3 hb Hso Hsn hpc;go_wp2_with fail;go_roundw
        case rel=>exact⟨k+1,by omega,by go_num,by rw[Hs.out];exact HF.out,KB3.out,_,by rw[List.length_set];exact Hpl.out,HPS.out,KP3.out⟩
        case measure=>simp[intOf];omega
      | none =>
        rw[hb]at lk Hsn Hpo;have HPS:=iH (Hps.out _ Hpo.out);clear Hpo Hps;simp only[Option.isSome_none,Option.getD_none]at lk;have Hs:=iH (Hsn.out rfl);have hown2:=HA1.out.own.alloc (.cells #[.string n2,.bool o2,.bool m2,.bool c2',.int .i64 w2',.int .i64 b2,.int .i64 l2] 42);have HO2:=iH hown2;have kb2:=(KB1.out.alloc (.cells #[.string n2,.bool o2,.bool m2,.bool c2',.int .i64 w2',.int .i64 b2,.int .i64 l2] 42)).alloc (.cells #[.string n2,.bool o2,.bool m2,.bool c2',.int .i64 w2',.int .i64 b2,.int .i64 l2] 42);have kp2:=(KP1.out.alloc (.cells #[.string n2,.bool o2,.bool m2,.bool c2',.int .i64 w2',.int .i64 b2,.int .i64 l2] 42)).alloc (.cells #[.string n2,.bool o2,.bool m2,.bool c2',.int .i64 w2',.int .i64 b2,.int .i64 l2] 42);have HA2:=iH (HA1.out.grow ((Below.refl _ _).alloc (Nat.le_refl _) (.cells #[.string n2,.bool o2,.bool m2,.bool c2',.int .i64 w2',.int .i64 b2,.int .i64 l2] 42)));have KB2:=iH kb2;have KP2:=iH kp2;have C1:=new7a (wr.alloc (.cells #[.string n2,.bool o2,.bool m2,.bool c2',.int .i64 w2',.int .i64 b2,.int .i64 l2] 42)) 42 (.string n2) (.bool o2) (.bool m2) (.bool c2') (.int .i64 w2') (.int .i64 b2) (.int .i64 l2);rw[World.size_alloc]at C1;have HC1:=iH C1;have hbig:w.heap.size+3<=wr.heap.size:=by omega
        clear kb2 kp2 hown2 C1 hb Hso Hsn;go_wp2_with(at_builtin;refine wpList_append_own_at _ rfl _ _ 23 rfl (w.heap.size+3) 42 i0 (.agg #[.string ⟨#[]⟩,.bool false,.bool false,.bool false,.int .i64 0,.int .i64 0,.int .i64 0]) 7 48 Tryz.underlying23 hi hz0 hz1 hz2 rfl (by decide) _ (mergeL lo ln k).length (icells (mergeL lo ln k)) rfl HO2.out ⟨wr.heap.size+1,0,none⟩ 1 1 [.string n2,.bool o2,.bool m2,.bool c2',.int .i64 w2',.int .i64 b2,.int .i64 l2] rfl rfl HC1.out (icells_one [⟨n2,o2,m2,c2',w2',b2,l2⟩]) ?c3 ?c4 ?c5 ?_)
        case c3=>unfold maxLen;omega
        case c4=>omega
        case c5=>(try simp);omega
        intro v' w3 hown' hgrow _ _;have h1:=row_neP HO2.out KB2.out (by decide);have h2:=row_neP HO2.out KP2.out (by decide);have hT:MgB w w3 ⟨lo,ra,ta,xa,⟨Ao,no,co⟩,⟨Ar,arn,arc⟩,⟨At,atn,atc⟩,⟨Ax,axn,axc⟩⟩ ⟨ln,rb,tb,xb,⟨some ⟨bp,op,none⟩,nx,cx⟩,⟨Br,brn,brc⟩,⟨Bt,btn,btc⟩,⟨Bx,bxn,bxc⟩⟩ bo bn v' (mergeL lo ln (k+1)):=by
         refine HA2.out.turn hgrow ?_;rw[Hs.out,icells_snoc,List.length_append];exact hown'
        have kb4:=KB2.out.grown hgrow (Ne.symm h1);have kp4:=KP2.out.grown hgrow (Ne.symm h2);have y0:=kb4.k0;have y1:=hpc _ kp4;have y2:=kp4.frozen k;have y3:=kp4.lt;have hF:=hT.setP kp4 (by decide) hgp k (.int .i64 ((mergeL lo ln k).length:Int));have kp5:=kp4.set k (.int .i64 ((mergeL lo ln k).length:Int));rw[ints_set]at kp5;have kb5:=kb4.far (p:=⟨gp,k,none⟩) hgbp (.int .i64 ((mergeL lo ln k).length:Int));have HF:=iH hF;have KP3:=iH kp5;have KB3:=iH kb5;clear hF kp5 kb5 hT kb4 kp4 h1 h2 hown' hgrow hpc;go_wp2_with fail;go_roundw
        case rel=>exact⟨k+1,by omega,by go_num,HF.out,KB3.out,_,by rw[List.length_set];exact Hpl.out,HPS.out,KP3.out⟩
        case measure=>simp[intOf];omega
     ·obtain rfl:nx=k:=by omega
      obtain⟨Ax9,cx9,hx9,_,_,_⟩:=row_form HA.out.own;subst hx9;have Hplq:Hid (pl=placeL lo ln):=placeL_eq (by rw[Hpl.out];exact Hln.out) (fun i hi=>Hpv.out i (by have:=Hln.out;omega));have hlm:(mergeL lo ln nx).length<=no+nx:=hll;have HEe:Hid (E=if 64<(mergeL lo ln nx).length then 4 else 0):=by
       have h:=HGd.out HQ.out HG2.out;rw[HE.out]at h;show E=_;rw[h,<- Hln.out]
      have hso:=HA.out.own;have q0:=HA.out.b2.k0;have q1:=HA.out.b2.k1;have q2:=HA.out.b2.k2;have q3:=HA.out.b2.k3;have d0:=HA.out.b3.k0;have d1:=HA.out.b3.k1;have d2:=HA.out.b3.k2;have d3:=HA.out.b3.k3;have f0:wr.frozen? ⟨w.heap.size+1+1,0,none⟩=false:=HA.out.b3.frozen 0;have f1:wr.frozen? ⟨w.heap.size+1+1,1,none⟩=false:=HA.out.b3.frozen 1;have f2:wr.frozen? ⟨w.heap.size+1+1,2,none⟩=false:=HA.out.b3.frozen 2;have f3:wr.frozen? ⟨w.heap.size+1+1,3,none⟩=false:=HA.out.b3.frozen 3;have lz:w.heap.size+1+1<wr.heap.size:=HA.out.b3.lt;by_cases hbig:64<(mergeL lo ln nx).length
      ·have hE4:E=4:=by rw[HEe.out,if_pos hbig]
       have HF:=iH (fun w' h=>HBad.out 4 w' (by rw[HE.out,hE4]) (by decide) h);have dd:decide ((64:Int)<((mergeL lo ln nx).length:Int))=true:=by simp;omega
       clear hE4 HEe hso;go_wp2_with fail;have q4:=(((HA.out.b3.set 0 (.slice none 0 0)).set 1 (.slice none 0 0)).set 2 (.slice none 0 0)).set 3 (.slice none 0 0);have r0:=q4.cell 0;have r1:=q4.cell 1;have r2:=q4.cell 2;have r3:=q4.cell 3;refine bodyPost_ret (v:=.tuple #[.agg #[.slice none 0 0,.slice none 0 0,.slice none 0 0,.slice none 0 0],.int .i64 4]) (by simp[results,Tryz.results14,go_sem,r0,r1,r2,r3]) rfl (HF.out _ ?_);exact(((HA.out.below.setCell (p:=⟨w.heap.size+2,0,none⟩) (by simp) _).setCell (p:=⟨w.heap.size+2,1,none⟩) (by simp) _).setCell (p:=⟨w.heap.size+2,2,none⟩) (by simp) _).setCell (p:=⟨w.heap.size+2,3,none⟩) (by simp) _
      ·have hE0:E=0:=by rw[HEe.out,if_neg hbig]
       have dd:decide ((64:Int)<((mergeL lo ln nx).length:Int))=false:=by simp;omega
       have HMC:=iH (HMc.out (by rw[HE.out,hE0]));have hle:(mergeL lo ln nx).length<=64:=by omega
       have HItm:Hid (ItsV wr ⟨Ax9,(mergeL lo ln nx).length,cx9⟩ (mergeL lo ln nx)):=⟨TRow.of_own hso,rfl,by show(mergeL lo ln nx).length<=100000;omega,by rw[Hln.out];exact mergeL_names Hak.out.items.each Hbk.out.items.each⟩;have HPl:Hid (PlV wr gb (placeL lo ln)):=by
        show PlV wr gb (placeL lo ln);refine⟨gp,?_,?_⟩
        ·have h:=KB1.out;rw[Hln.out]at h;rw[placeL_len];exact h
        ·rw[<- Hplq.out];exact KP1.out
       have HPp:Hid (∀x∈placeL lo ln,0<=x∧x<((mergeL lo ln nx).length:Int)):=by rw[Hln.out];exact placeL_pos lo ln
       have HSS:Hid (∀x∈allL ⟨ln,rb,tb,xb,⟨Bo,nx,cx⟩,⟨Br,brn,brc⟩,⟨Bt,btn,btc⟩,⟨Bx,bxn,bxc⟩⟩,x.2.length<=12∧∀p∈x.2,0<=p.1∧p.1<((placeL lo ln).length:Int)):=fun x hx=>by rw[placeL_len,<- Hln.out];exact HSh.out HQ.out x hx
       have KR:Hid (Calls Tryz.prog 69 #[.agg #[.slice Bo nx cx,.slice Br brn brc,.slice Bt btn btc,.slice Bx bxn bxc],.slice Ax9 (mergeL lo ln nx).length cx9,.func (.func 70) #[] #[.pointer (some ⟨gb,0,none⟩)]] wr (RwtQ wr (placeL lo ln) (mergeL lo ln nx).length ⟨ln,rb,tb,xb,⟨Bo,nx,cx⟩,⟨Br,brn,brc⟩,⟨Bt,btn,btc⟩,⟨Bx,bxn,bxc⟩⟩ (mergeL lo ln nx))) :=
        rewrite_any (m:=⟨ln,rb,tb,xb,⟨Bo,nx,cx⟩,⟨Br,brn,brc⟩,⟨Bt,btn,btc⟩,⟨Bx,bxn,bxc⟩⟩) (si:=⟨Ax9,(mergeL lo ln nx).length,cx9⟩) (Hbk.out.below HA.out.below) HItm.out HPl.out HPp.out (by omega) HSS.out
       have HBb:=iH HA.out.below;have HB3:=iH HA.out.b3;clear HEe hso HItm HPl HPp HSS HA KB1 KP1 Hplq d0 d1 d2 d3 f0 f1 f2 f3;go_wp2_with fail;refine KR.out.mono ?_;rintro e w3 ⟨⟨i5,r5,t5,x5,⟨Ci,cin,cic⟩,⟨Cr,crn,crc⟩,⟨Ct,ctn,ctc⟩,⟨Cx,cxn,cxc⟩⟩,rfl,hok5,hcore5,hb5⟩;have k3:=HB3.out.below hb5 HB3.out.lt;have d0:=k3.k0;have d1:=k3.k1;have d2:=k3.k2;have d3:=k3.k3;have f0:w3.frozen? ⟨w.heap.size+1+1,0,none⟩=false:=k3.frozen 0;have f1:w3.frozen? ⟨w.heap.size+1+1,1,none⟩=false:=k3.frozen 1;have f2:w3.frozen? ⟨w.heap.size+1+1,2,none⟩=false:=k3.frozen 2;have f3:w3.frozen? ⟨w.heap.size+1+1,3,none⟩=false:=k3.frozen 3;have zl:w.heap.size+1+1<w3.heap.size:=k3.lt;have HB5:=iH (HBb.out.trans (hb5.mono HBb.out.size));have K3:=iH k3;have HO5:=iH hok5;have HC5:=iH hcore5;clear k3 hb5 hok5 hcore5 KR q0 q1 q2 q3;go_wp2_with fail;have q4:=(((K3.out.set 0 (.slice Ci cin cic)).set 1 (.slice Cr crn crc)).set 2 (.slice Ct ctn ctc)).set 3 (.slice Cx cxn cxc);have r0:=q4.cell 0;have r1:=q4.cell 1;have r2:=q4.cell 2;have r3:=q4.cell 3;refine bodyPost_ret (v:=.tuple #[.agg #[.slice Ci cin cic,.slice Cr crn crc,.slice Ct ctn ctc,.slice Cx cxn cxc],.int .i64 0]) (by simp[results,Tryz.results14,go_sem,r0,r1,r2,r3]) rfl ?_;refine⟨⟨i5,r5,t5,x5,⟨Ci,cin,cic⟩,⟨Cr,crn,crc⟩,⟨Ct,ctn,ctc⟩,⟨Cx,cxn,cxc⟩⟩,by rw[HE.out,hE0],?_,?_,?_⟩
       ·exact(((HO5.out.set28a K3.out).set28a (K3.out.set 0 (.slice Ci cin cic))).set28a ((K3.out.set 0 (.slice Ci cin cic)).set 1 (.slice Cr crn crc))).set28a (((K3.out.set 0 (.slice Ci cin cic)).set 1 (.slice Cr crn crc)).set 2 (.slice Ct ctn ctc))
       ·rw[HMC.out,<- Hln.out];exact HC5.out
       ·exact(((HB5.out.setCell (p:=⟨w.heap.size+2,0,none⟩) (by simp) _).setCell (p:=⟨w.heap.size+2,1,none⟩) (by simp) _).setCell (p:=⟨w.heap.size+2,2,none⟩) (by simp) _).setCell (p:=⟨w.heap.size+2,3,none⟩) (by simp) _
end
end
end Go.Proofs.YtiecjoijnkghbaaGreatDoor

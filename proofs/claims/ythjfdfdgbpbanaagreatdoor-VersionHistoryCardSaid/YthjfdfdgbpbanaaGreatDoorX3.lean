/- What version.New computes, and its memory. What Then answers, plainly. Plain: counterparts whose Den is cut to 1, and holdings cut to less than 1000, one by one. -/
import Derived.Test.YthjfdfdgbpbanaaGreatDoorX1
import Derived.Test.YthjfdfdgbpbanaaGreatDoorX2
set_option linter.unusedVariables false
set_option linter.unusedSimpArgs false
open Go.RowKit
namespace Go.Proofs.YthjfdfdgbpbanaaGreatDoor
section
structure Ren where
 old:ByteArray
 new:ByteArray
 num:Int
 den:Int
def Ren.none:Ren:=⟨⟨#[]⟩,⟨#[]⟩,0,0⟩
abbrev Ren.cells (r:Ren):List Value:=[.string r.old,.string r.new,.int .i64 r.num,.int .i64 r.den]
def renAt (l:List Ren) (k:Nat):Ren:=l[k]?.getD Ren.none
def rcells (l:List Ren):List Value:=l.flatMap Ren.cells
theorem rcells_cons (t:Ren) (l:List Ren):rcells (t :: l)=t.cells ++ rcells l:=by simp[rcells]
theorem rcells_snoc (l:List Ren) (t:Ren):rcells (l ++ [t])=rcells l ++ t.cells:=by simp[rcells]
theorem rcells_length (l:List Ren):(rcells l).length=l.length*4:=by
 induction l with
 | nil=>rfl
 | cons t l ih=>rw[rcells_cons,List.length_append,ih];simp;omega
theorem rcells_get (l:List Ren) (k r:Nat) (h:k<l.length) (hr:r<4):(rcells l)[k*4+r]? = (renAt l k).cells[r]?:=by
 induction l generalizing k with
 | nil=>simp at h
 | cons t l ih =>
   rw[rcells_cons];cases k with
   | zero=>rw[List.getElem?_append_left (by simp;omega)];simp[renAt]
   | succ k =>
     rw[List.getElem?_append_right (by simp;omega)];have e:(k+1)*4+r-t.cells.length=k*4+r:=by simp;omega
     rw[e,ih k (by simpa using h)];simp[renAt]
structure RensV (w : World) (A : Option Addr) (n : Nat) (l : List Ren) : Prop where
 row:Row w w.heap.size A (rcells l)
 len:n=l.length
 small:n<=1000
 size:∀k,k<n->(renAt l k).old.size<=maxLen∧(renAt l k).new.size<=maxLen
theorem RensV.below {w w':World} {A:Option Addr} {n:Nat} {l:List Ren} (h:RensV w A n l) (hb:Below w.heap.size w w'):RensV w' A n l:=⟨(h.row.below hb).more hb.size,h.len,h.small,h.size⟩
theorem RensV.at_ {w:World} {A:Option Addr} {n:Nat} {l:List Ren} (h:RensV w A n l) (k:Nat) (hk:k<n):∃b off,A=some ⟨b,off,none⟩∧b<w.heap.size ∧
 w.cell? ⟨b,off+k*4,none⟩=some (.string (renAt l k).old)∧w.cell? ⟨b,off+k*4+1,none⟩=some (.string (renAt l k).new)∧w.cell? ⟨b,off+k*4+2,none⟩=some (.int .i64 (renAt l k).num)∧w.cell? ⟨b,off+k*4+3,none⟩=some (.int .i64 (renAt l k).den):=by
 have hl:k<l.length:=by have:=h.len;omega
 obtain⟨b,off,hA,hb,hc⟩:=h.row.at_ 0 (by rw[rcells_length];omega);have g:=fun r hr=>rcells_get l k r hl hr
 refine⟨b,off,hA,hb,?_,?_,?_,?_⟩
 ·exact hc _ _ (g 0 (by omega))
 ·rw[Nat.add_assoc];exact hc _ _ (g 1 (by omega))
 ·rw[Nat.add_assoc];exact hc _ _ (g 2 (by omega))
 ·rw[Nat.add_assoc];exact hc _ _ (g 3 (by omega))
def bools (l:List Bool):List Value:=l.map Value.bool
theorem bools_set (l:List Bool) (k:Nat) (x:Bool):(bools l).set k (.bool x)=bools (l.set k x):=by simp[bools,List.map_set]
def bAt (l:List Bool) (k:Nat):Bool:=l[k]?.getD false
theorem bools_at (l:List Bool) (k:Nat) (h:k<l.length):(bools l)[k]? = some (.bool (bAt l k)):=by simp[bools,bAt,h]
def factorB (r:Ren):Bool:=decide (1<=r.num) && decide (r.num<=1048576) && decide (1<=r.den) && decide (r.den<=1048576)
def typeB (a b:It) (r:Ren):Bool:=alikeB a b && (!a.object || (r.num == 1 && r.den == 1))
def renErr (lo ln:List It) (ren:List Bool) (r:Ren):Int :=
 match idxTo lo lo.length r.old,idxTo ln ln.length r.new with
 | some a,some b=>if bAt ren a=true then 8 else if factorB r=false then 5 else if typeB (itAt lo a) (itAt ln b) r=false then 9 else 0
 | _,_=>6
def renSt (lo ln:List It) (st:List Bool×List Tr) (r:Ren):List Bool×List Tr :=
 match idxTo lo lo.length r.old,idxTo ln ln.length r.new with
 | some a,some b=>(st.1.set a true,st.2.set a ((b:Int),r.num,r.den))
 | _,_=>st
def renTo (lo ln:List It) (rs:List Ren):Nat->List Bool×List Tr
 | 0=>(List.replicate lo.length false,List.replicate lo.length (0,0,0))
 | k+1=>renSt lo ln (renTo lo ln rs k) (renAt rs k)
theorem renTo_len (lo ln:List It) (rs:List Ren) (k:Nat):(renTo lo ln rs k).1.length=lo.length∧(renTo lo ln rs k).2.length=lo.length:=by
 induction k with
 | zero=>simp[renTo]
 | succ k ih =>
   simp only[renTo,renSt];split
   ·simp[ih.1,ih.2]
   ·exact ih
def renE (lo ln:List It) (rs:List Ren):Nat->Int
 | 0=>0
 | k+1=>if renE lo ln rs k≠0 then renE lo ln rs k else renErr lo ln (renTo lo ln rs k).1 (renAt rs k)
theorem renE_stays {lo ln:List It} {rs:List Ren} {k:Nat} (h:renE lo ln rs k≠0):∀m,k<=m->renE lo ln rs m=renE lo ln rs k:=by
 intro m hm
 induction m with
 | zero => obtain rfl : k = 0 := by omega
           rfl
 | succ m ih =>
   by_cases e:k=m+1
   ·subst e;rfl
   ·have h1:=ih (by omega);simp only[renE];rw[if_pos (by rw[h1];exact h),h1]
def keepT (ln:List It) (t:It):Tr:=match idxTo ln ln.length t.name with | some b=>((b:Int),1,1) | none=>(-1,0,0)
def keepErr (ln:List It) (t:It):Int:=match idxTo ln ln.length t.name with | some b=>if alikeB t (itAt ln b)=false then 9 else 0 | none=>0
def endAt (lo ln:List It) (st:List Bool×List Tr) (i:Nat):Tr:=if bAt st.1 i=true then st.2[i]?.getD (0,0,0) else keepT ln (itAt lo i)
def endTo (lo ln:List It) (st:List Bool×List Tr) (k:Nat):List Tr:=(List.range lo.length).map fun i=>if i<k then endAt lo ln st i else st.2[i]?.getD (0,0,0)
def endE (lo ln:List It) (st:List Bool×List Tr):Nat->Int
 | 0=>0
 | k+1=>if endE lo ln st k≠0 then endE lo ln st k else if bAt st.1 k=true then 0 else keepErr ln (itAt lo k)
theorem endE_stays {lo ln:List It} {st:List Bool×List Tr} {k:Nat} (h:endE lo ln st k≠0):∀m,k<=m->endE lo ln st m=endE lo ln st k:=by
 intro m hm
 induction m with
 | zero => obtain rfl : k = 0 := by omega
           rfl
 | succ m ih =>
   by_cases e:k=m+1
   ·subst e;rfl
   ·have h1:=ih (by omega);simp only[endE];rw[if_pos (by rw[h1];exact h),h1]
@[simp] theorem endTo_length (lo ln : List It) (st : List Bool × List Tr) (k : Nat) : (endTo lo ln st k).length = lo.length := by simp [endTo]
theorem endTo_zero (lo ln:List It) (st:List Bool×List Tr) (h:st.2.length=lo.length):endTo lo ln st 0=st.2:=by
 apply List.ext_getElem?;intro i;by_cases hi:i<lo.length
 ·simp[endTo,hi,h]
 ·rw[List.getElem?_eq_none (by simp;omega),List.getElem?_eq_none (by omega)]
theorem endTo_at (lo ln:List It) (st:List Bool×List Tr) (k i:Nat) (hi:i<lo.length):(endTo lo ln st k)[i]? = some (if i<k then endAt lo ln st i else st.2[i]?.getD (0,0,0)):=by
 simp[endTo,hi]
theorem endTo_skip (lo ln:List It) (st:List Bool×List Tr) (k:Nat) (h:bAt st.1 k=true):endTo lo ln st (k+1)=endTo lo ln st k:=by
 apply List.ext_getElem?;intro i;by_cases hi:i<lo.length
 ·rw[endTo_at _ _ _ _ _ hi,endTo_at _ _ _ _ _ hi];by_cases e:i=k
  ·subst e;rw[if_pos (by omega),if_neg (by omega),endAt,if_pos h]
  ·by_cases h2:i<k
   ·rw[if_pos h2,if_pos (by omega)]
   ·rw[if_neg h2,if_neg (by omega)]
 ·rw[List.getElem?_eq_none (by simp;omega),List.getElem?_eq_none (by simp;omega)]
theorem endTo_set (lo ln:List It) (st:List Bool×List Tr) (k:Nat) (hk:k<lo.length) (h:¬ bAt st.1 k=true):(endTo lo ln st k).set k (keepT ln (itAt lo k))=endTo lo ln st (k+1):=by
 apply List.ext_getElem?;intro i;by_cases e:k=i
 ·subst e;rw[List.getElem?_set_self (by simpa using hk),endTo_at _ _ _ _ _ hk,if_pos (by omega),endAt,if_neg h]
 ·rw[List.getElem?_set_ne e];by_cases hi:i<lo.length
  ·rw[endTo_at _ _ _ _ _ hi,endTo_at _ _ _ _ _ hi];by_cases h2:i<k
   ·rw[if_pos h2,if_pos (by omega)]
   ·rw[if_neg h2,if_neg (by omega)]
  ·rw[List.getElem?_eq_none (by simp;omega),List.getElem?_eq_none (by simp;omega)]
def newE (lo ln:List It) (rs:List Ren):Int:=if renE lo ln rs rs.length≠0 then renE lo ln rs rs.length else endE lo ln (renTo lo ln rs rs.length) lo.length
def newL (lo ln:List It) (rs:List Ren):List Tr:=if newE lo ln rs=0 then endTo lo ln (renTo lo ln rs rs.length) lo.length else[]
theorem FR.of_bk {w w':World} {g:Nat} {t:TypeId} {xs:List Value} (h:Bk w' g t xs) (hg:w.heap.size<=g) (ht:t=64∨t=68):FR w w' (some ⟨g,0,none⟩) xs :=
 .inr ⟨g,_,t,_,rfl,hg,ht,h,fun j u hu=>(h.cell j).trans hu⟩
def NewPost (w:World) (lo ln:List It) (rs:List Ren) (e:Ending) (w':World):Prop :=
 ∃A c,e=.returned (.tuple #[.slice A (newL lo ln rs).length c,.int .i64 (newE lo ln rs)])∧FR w w' A (tcells (newL lo ln rs))∧Below w.heap.size w w'
theorem newPost_err {w w':World} {lo ln:List It} {rs:List Ren} {E:Int} (h:newE lo ln rs=E) (hE:E≠0) (hb:Below w.heap.size w w'):NewPost w lo ln rs (.returned (.tuple #[.slice none 0 0,.int .i64 E])) w':=by
 have h1:newL lo ln rs=[]:=by unfold newL;rw[if_neg (by omega)]
 exact⟨none,0,by rw[h1,h];rfl,by rw[h1];exact .inl rfl,hb⟩
theorem newE_ren {lo ln:List It} {rs:List Ren} {k:Nat} (hk:k<rs.length) (h0:renE lo ln rs k=0) (h:renErr lo ln (renTo lo ln rs k).1 (renAt rs k)≠0):newE lo ln rs=renErr lo ln (renTo lo ln rs k).1 (renAt rs k):=by
 have h1:renE lo ln rs (k+1)=renErr lo ln (renTo lo ln rs k).1 (renAt rs k):=by simp only[renE];rw[if_neg (by omega)]
 have h2:=renE_stays (m:=rs.length) (by rw[h1];exact h) hk;unfold newE;rw[h2,h1,if_pos h]
structure NewAt (w W : World) (io ro to_ xo ix rx tx xx : Sl) (bo bn gm gr : Nat) (lo ln : List It) (ren : List Bool) (m : List Tr) : Prop where
 mo:MapI W bo io.n (idxTo lo io.n)
 mn:MapI W bn ix.n (idxTo ln ix.n)
 bm:Bk W gm 64 (tcells m)
 br:Bk W gr 4 (bools ren)
 b1:Bk W w.heap.size 28 (catSL io ro to_ xo)
 b2:Bk W (w.heap.size+1) 28 (catSL ix rx tx xx)
 below:Below w.heap.size w W
 gm2:w.heap.size+2<=gm
 gr2:w.heap.size+2<=gr
 ne:gm≠gr
theorem MapI.ne_bk {W:World} {b n g:Nat} {M:ByteArray->Option Nat} {t:TypeId} {xs:List Value} (h:MapI W b n M) (hb:Bk W g t xs):b≠g:=by
 rintro rfl;obtain⟨D,⟨es,clock,hh,_⟩,_⟩:=h;unfold Bk at hb;rw[hh]at hb;cases hb
section
variable {w W W' : World} {io ro to_ xo ix rx tx xx : Sl} {bo bn gm gr : Nat} {lo ln : List It} {ren : List Bool} {m : List Tr}
theorem NewAt.grow (h:NewAt w W io ro to_ xo ix rx tx xx bo bn gm gr lo ln ren m) (hb:Below W.heap.size W W'):NewAt w W' io ro to_ xo ix rx tx xx bo bn gm gr lo ln ren m :=
 ⟨h.mo.below hb,h.mn.below hb,h.bm.below hb h.bm.lt,h.br.below hb h.br.lt,h.b1.below hb h.b1.lt,h.b2.below hb h.b2.lt,h.below.trans (hb.mono h.below.size),h.gm2,h.gr2,h.ne⟩
theorem NewAt.setR (h:NewAt w W io ro to_ xo ix rx tx xx bo bn gm gr lo ln ren m) (a:Nat):NewAt w (W.setCell ⟨gr,a,none⟩ (.bool true)) io ro to_ xo ix rx tx xx bo bn gm gr lo ln (ren.set a true) m:=by
 have g:=grown_setCell W gr a (.bool true);have h1:=h.gr2;exact⟨h.mo.kept g (fun e=>h.mo.ne_bk h.br (Option.some.inj e)),h.mn.kept g (fun e=>h.mn.ne_bk h.br (Option.some.inj e)),h.bm.far h.ne _,by rw[<- bools_set];exact h.br.set a _,
  h.b1.far (by simp;omega) _,h.b2.far (by simp;omega) _,h.below.setCell (by simp;omega) _,h.gm2,h.gr2,h.ne⟩
theorem NewAt.setM1 (h:NewAt w W io ro to_ xo ix rx tx xx bo bn gm gr lo ln ren m) (a:Nat) (t:Tr) (ha:a<m.length) :
 NewAt w (((W.setCell ⟨gm,a*3,none⟩ (.int .i64 t.1)).setCell ⟨gm,a*3+1,none⟩ (.int .i64 t.2.1)).setCell ⟨gm,a*3+2,none⟩ (.int .i64 t.2.2)) io ro to_ xo ix rx tx xx bo bn gm gr lo ln ren (m.set a t):=by
 have h1:=h.gm2;have k:∀(b n:Nat) (M:ByteArray->Option Nat),MapI W b n M->MapI (((W.setCell ⟨gm,a*3,none⟩ (.int .i64 t.1)).setCell ⟨gm,a*3+1,none⟩ (.int .i64 t.2.1)).setCell ⟨gm,a*3+2,none⟩ (.int .i64 t.2.2)) b n M:=fun b n M hM=>by
  have hne:some b≠some gm:=fun e=>hM.ne_bk h.bm (Option.some.inj e)
  exact((hM.kept (grown_setCell W gm _ _) hne).kept (grown_setCell _ gm _ _) hne).kept (grown_setCell _ gm _ _) hne
 refine⟨k _ _ _ h.mo,k _ _ _ h.mn,?_,((h.br.far (Ne.symm h.ne) _).far (Ne.symm h.ne) _).far (Ne.symm h.ne) _,((h.b1.far (by simp;omega) _).far (by simp;omega) _).far (by simp;omega) _,((h.b2.far (by simp;omega) _).far (by simp;omega) _).far (by simp;omega) _,
  ((h.below.setCell (by simp;omega) _).setCell (by simp;omega) _).setCell (by simp;omega) _,h.gm2,h.gr2,h.ne⟩
 rw[tcells_set _ _ _ ha];exact((h.bm.set _ _).set _ _).set _ _
end
theorem make_tos (n:Nat) (hn:n<=1000000) (W:World) :
 (Instr.makeSlice 33 (.int .i64 (n:Int)) (.int .i64 (n:Int))).run Tryz.prog W=.ok (.slice (some ⟨W.heap.size,0,none⟩) n n) (W.alloc (.cells (tcells (List.replicate n (0,0,0))).toArray 64)):=by
 obtain⟨i,hi,hz0,hz1,hz2⟩:=info_parts info64;have h:=run_make (P:=Tryz.prog) W 33 64 i (.agg #[.int .i64 0,.int .i64 0,.int .i64 0]) Tryz.underlying33 hi hz0 .i64 .i64 n n (by omega) (by omega) (by rw[hz2];omega) (by omega);rw[hz1]at h;simp only[Int.toNat_natCast]at h;have e:madeCells (Value.agg #[.int .i64 0,.int .i64 0,.int .i64 0]).cells (n*3)=(tcells (List.replicate n (0,0,0))).toArray:=by
  have hc:(Value.agg #[.int .i64 0,.int .i64 0,.int .i64 0]).cells=#[.int .i64 0,.int .i64 0,.int .i64 0]:=by rfl
  rw[hc];apply Array.ext
  ·simp[madeCells,tcells_length]
  ·intro j h1 h2;have h2':j<n*3:=by simpa[tcells_length]using h2
   have hj:j / 3<n:=by omega
   have ht:=tcells_at (List.replicate n ((0,0,0):Tr)) (j / 3) (by simpa using hj);have hr:(List.replicate n ((0,0,0):Tr))[j / 3]? = some (0,0,0):=by simp[hj]
   simp only[itemAt,numAt,denAt,hr,Option.getD_some]at ht;have key:(tcells (List.replicate n ((0,0,0):Tr)))[j]? = some (.int .i64 0):=by
    rcases(show j=j / 3*3∨j=j / 3*3+1∨j=j / 3*3+2 by omega)with e|e|e
    ·rw[e];exact ht.1
    ·rw[e];exact ht.2.1
    ·rw[e];exact ht.2.2
   have key2:(tcells (List.replicate n ((0,0,0):Tr)))[j]'(by rw[tcells_length];simpa using h2')=.int .i64 0:=by
    have:=List.getElem?_eq_some_iff.1 key;exact this.2
   have e2:(tcells (List.replicate n ((0,0,0):Tr))).toArray[j]=.int .i64 0:=by simpa using key2
   rw[e2];simp only[madeCells,Array.getElem_ofFn];rcases(show j % 3=0∨j % 3=1∨j % 3=2 by omega)with e|e|e <;> simp[e]
 rw[e]at h;exact h
theorem info4:(Tryz.prog.info? 4).map (fun i=>(i.zero,i.size,i.bytes))=some (some (.bool false),1,1):=by kernel_rfl
theorem make_bools (n:Nat) (hn:n<=1000000) (W:World) :
 (Instr.makeSlice 93 (.int .i64 (n:Int)) (.int .i64 (n:Int))).run Tryz.prog W=.ok (.slice (some ⟨W.heap.size,0,none⟩) n n) (W.alloc (.cells (bools (List.replicate n false)).toArray 4)):=by
 obtain⟨i,hi,hz0,hz1,hz2⟩:=info_parts info4;have h:=run_make (P:=Tryz.prog) W 93 4 i (.bool false) Tryz.underlying93 hi hz0 .i64 .i64 n n (by omega) (by omega) (by rw[hz2];omega) (by omega);rw[hz1]at h;simp only[Int.toNat_natCast,Nat.mul_one]at h;have e:madeCells (Value.bool false).cells n=(bools (List.replicate n false)).toArray:=by
  show madeCells #[.bool false] n=_;rw[made_zero];simp[bools]
 rw[e]at h;exact h
end
def midAt (ts:List Tr) (i:Nat):Nat:=(itemAt ts i).toNat
def liveB (ts us:List Tr) (i:Nat):Bool:=decide (0<=itemAt ts i) && decide (0<=itemAt us (midAt ts i))
def pAt (ts us:List Tr) (i:Nat):Int:=numAt ts i*numAt us (midAt ts i)
def qAt (ts us:List Tr) (i:Nat):Int:=denAt ts i*denAt us (midAt ts i)
def gAt (ts us:List Tr) (i:Nat):Int:=(Int.gcd (pAt ts us i) (qAt ts us i):Int)
def thenAt (ts us:List Tr) (i:Nat):Tr:=if liveB ts us i=true then(itemAt us (midAt ts i),pAt ts us i / gAt ts us i,qAt ts us i / gAt ts us i) else(-1,0,0)
def fatB (ts us:List Tr) (i:Nat):Bool:=liveB ts us i && (decide (1048576<pAt ts us i / gAt ts us i) || decide (1048576<qAt ts us i / gAt ts us i))
def fatTo (ts us:List Tr):Nat->Bool
 | 0=>false
 | k+1=>fatTo ts us k || fatB ts us k
def thenArg (ts us:List Tr):Bool:=validB ts (us.length:Int) && validB us 64
def thenE (ts us:List Tr):Int:=if thenArg ts us=false then 1 else if fatTo ts us ts.length=true then 5 else 0
def thenN (ts us:List Tr) (k:Nat):List Tr:=(List.range k).map (thenAt ts us)
def thenL (ts us:List Tr):List Tr:=if thenE ts us=0 then thenN ts us ts.length else[]
def ThenPost (w:World) (ts us:List Tr) (e:Ending) (w':World):Prop :=
 ∃A c,e=.returned (.tuple #[.slice A (thenL ts us).length c,.int .i64 (thenE ts us)])∧FR w w' A (tcells (thenL ts us))∧Below w.heap.size w w'
theorem thenN_next (ts us:List Tr) (k:Nat):thenN ts us (k+1)=thenN ts us k ++ [thenAt ts us k]:=by simp[thenN,List.range_succ]
@[simp] theorem thenN_length (ts us : List Tr) (k : Nat) : (thenN ts us k).length = k := by simp [thenN]
theorem fatTo_stays {ts us:List Tr} {k:Nat} (h:fatTo ts us k=true):∀m,k<=m->fatTo ts us m=true:=by
 intro m hm
 induction m with
 | zero => obtain rfl : k = 0 := by omega
           exact h
 | succ m ih =>
   by_cases e:k=m+1
   ·subst e;exact h
   ·simp[fatTo,ih (by omega)]
theorem thenPost_err {w w':World} {ts us:List Tr} {E:Int} (h:thenE ts us=E) (hE:E≠0) (hb:Below w.heap.size w w') :
 ThenPost w ts us (.returned (.tuple #[.slice none 0 0,.int .i64 E])) w':=by
 have h1:thenL ts us=[]:=by unfold thenL;rw[if_neg (by omega)]
 refine⟨none,0,?_,?_,hb⟩
 ·rw[h1,h];rfl
 ·rw[h1];exact .inl rfl
theorem thenE_bad {ts us:List Tr} (h:thenArg ts us=false):thenE ts us=1:=by unfold thenE;rw[if_pos h]
theorem thenE_fat {ts us:List Tr} (h:thenArg ts us=true) (h2:fatTo ts us ts.length=true):thenE ts us=5:=by
 unfold thenE;rw[if_neg (by rw[h];decide),if_pos h2]
theorem thenE_ok {ts us:List Tr} (h:thenArg ts us=true) (h2:fatTo ts us ts.length=false):thenE ts us=0:=by
 unfold thenE;rw[if_neg (by rw[h];decide),if_neg (by rw[h2];decide)]
theorem thenPost_ok {w W:World} {ts us:List Tr} {A:Option Addr} {m c:Nat} (h:thenArg ts us=true) (h2:fatTo ts us ts.length=false) (hm:m=ts.length) (hr:FR w W A (tcells (thenN ts us m))) (hb:Below w.heap.size w W) :
 ThenPost w ts us (.returned (.tuple #[.slice A m c,.int .i64 0])) W:=by
 have h0:=thenE_ok h h2;have e1:thenL ts us=thenN ts us m:=by unfold thenL;rw[if_pos h0,hm]
 exact⟨A,c,by rw[e1,h0];simp,by rw[e1];exact hr,hb⟩
theorem live_facts {ts us:List Tr} {i:Nat} (h:thenArg ts us=true) (hi:i<ts.length) (h0:0<=itemAt ts i) :
 midAt ts i<us.length∧itemAt ts i=(midAt ts i:Int)∧(itemAt us (midAt ts i)<0 ∨
  (0<=itemAt us (midAt ts i)∧itemAt us (midAt ts i)<64∧1<=numAt ts i∧numAt ts i<=1048576∧1<=denAt ts i∧denAt ts i<=1048576 ∧
   1<=numAt us (midAt ts i)∧numAt us (midAt ts i)<=1048576∧1<=denAt us (midAt ts i)∧denAt us (midAt ts i)<=1048576)):=by
 simp only[thenArg,Bool.and_eq_true]at h;have h1:=okT_cases (validTo_at h.1 i hi);rcases h1 with h1|⟨a0,a1,p0,p1,q0,q1⟩
 ·omega
 have hm:midAt ts i<us.length:=by unfold midAt;omega
 have h2:=okT_cases (validTo_at h.2 (midAt ts i) hm);refine⟨hm,by unfold midAt;omega,?_⟩;rcases h2 with h2|⟨b0,b1,r0,r1,s0,s1⟩
 ·left;omega
 ·right;exact⟨b0,b1,p0,p1,q0,q1,r0,r1,s0,s1⟩
theorem prod_bd2 {a b:Int} (a0:1<=a) (a1:a<=1048576) (b0:1<=b) (b1:b<=1048576):1<=a*b∧a*b<=1099511627776:=by
 constructor
 ·have:=Int.mul_le_mul a0 b0 (by omega) (by omega:(0:Int)<=a);omega
 ·have h1:=Int.mul_le_mul_of_nonneg_left b1 (show 0<=a by omega);have h2:=Int.mul_le_mul_of_nonneg_right a1 (show(0:Int)<=1048576 by omega);omega
theorem gcd_bd {p q:Int} (hp:1<=p):1<=(Int.gcd p q:Int)∧(Int.gcd p q:Int)<=p:=by
 have h:Int.gcd p q≠0:=fun e=>by
  have:=Int.gcd_eq_zero_iff.1 e;omega
 refine⟨by omega,?_⟩;exact Int.le_of_dvd (by omega) (Int.gcd_dvd_left ..)
theorem quo_bd {p g:Int} (hp:1<=p) (hg:1<=g) (hd:g ∣ p):1<=p / g∧p / g<=p:=by
 refine⟨?_,Int.ediv_le_self _ (by omega)⟩;exact Int.le_ediv_of_mul_le (by omega) (by have:=Int.le_of_dvd (by omega) hd;omega)
def cutTo (ts:List Tr):Nat->List Tr
 | 0=>ts
 | k+1=>setDen (cutTo ts k) k (min (denAt (cutTo ts k) k) 1)
@[simp] theorem cutTo_length (ts : List Tr) (k : Nat) : (cutTo ts k).length = ts.length := by
 induction k with
 | zero=>rfl
 | succ k ih=>simp[cutTo,setDen,ih]
def cutH (hs:List Int):Nat->List Int
 | 0=>hs
 | k+1=>(cutH hs k).set k (wAt (cutH hs k) k % 1000)
@[simp] theorem cutH_length (hs : List Int) (k : Nat) : (cutH hs k).length = hs.length := by
 induction k with
 | zero=>rfl
 | succ k ih=>simp[cutH,ih]
def Units (hs:List Int):Prop:=∀z∈hs,0<=z∧z<=1099511627776
theorem Units.at_ {hs:List Int} (h:Units hs) (i:Nat):0<=wAt hs i∧wAt hs i<=1099511627776:=by
 by_cases hi:i<hs.length
 ·have:wAt hs i=hs[i]:=by simp[wAt,hi]
  rw[this];exact h _ (List.getElem_mem hi)
 ·have:wAt hs i=0:=by simp[wAt,List.getElem?_eq_none (Nat.le_of_not_lt hi)]
  rw[this];omega
theorem Units.set {hs:List Int} (h:Units hs) (k:Nat) (x:Int) (x0:0<=x) (x1:x<=1099511627776):Units (hs.set k x):=fun z hz=>by
 rcases List.mem_or_eq_of_mem_set hz with hz|rfl
 ·exact h z hz
 ·exact⟨x0,x1⟩
theorem Units.wf {hs:List Int} (h:Units hs):Wf hs:=fun z hz=>by have:=h z hz;omega
end Go.Proofs.YthjfdfdgbpbanaaGreatDoor

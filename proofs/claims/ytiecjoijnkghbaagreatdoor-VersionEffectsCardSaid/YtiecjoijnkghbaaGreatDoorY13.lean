/- Copies of lists of rules, rows, tables and taxes. A copy of any catalog. -/
import Derived.Test.YtiecjoijnkghbaaGreatDoorY12
set_option linter.unusedVariables false
set_option linter.unusedSimpArgs false
set_option maxRecDepth 100000
set_option maxHeartbeats 4000000
open Go.RowKit
namespace Go.Proofs.YtiecjoijnkghbaaGreatDoor
section
set_option linter.unusedVariables false
set_option linter.unusedSimpArgs false
section
section
variable {α : Type} {C : World -> Nat -> α -> α -> Prop} {sls : α -> List Sl} {W W' : World} {base base' : Nat} {l l' : List α}
def Cp (C:World->Nat->α->α->Prop) (sls:α->List Sl) (W:World) (base:Nat) (l l':List α):Prop :=
 l'.length=l.length∧(∀(i:Nat) (x x':α),l[i]? = some x->l'[i]? = some x'->C W base x x')∧(l'.flatMap sls).Pairwise Apart
theorem Cp.nil:Cp C sls W base [] []:=⟨rfl,fun i x x' h=>by simp at h,.nil⟩
theorem Cp.to (h:Cp C sls W base l l') (hC:∀x x',C W base x x'->C W' base' x x'):Cp C sls W' base' l l':=⟨h.1,fun i x x' h1 h2=>hC x x' (h.2.1 i x x' h1 h2),h.2.2⟩
theorem Cp.snoc {k:Nat} (h:Cp C sls W base (l.take k) l') (hk:k<l.length) {x':α} (hx:C W base l[k] x') (hp:(sls x').Pairwise Apart) (hap:∀y'∈l',∀s∈sls y',∀s2∈sls x',Apart s s2):Cp C sls W base (l.take (k+1)) (l' ++ [x']):=by
 have hl:l'.length=k:=by have:=h.1;rw[List.length_take]at this;omega
 have e:l.take (k+1)=l.take k ++ [l[k]]:=by rw[List.take_add_one,List.getElem?_eq_getElem hk];rfl
 rw[e];refine⟨by simp[hl];omega,fun i x y h1 h2=>?_,?_⟩
 ·by_cases hi:i<k
  ·rw[List.getElem?_append_left (by rw[List.length_take];omega)]at h1;rw[List.getElem?_append_left (by omega)]at h2;exact h.2.1 i x y h1 h2
  ·have hik:i=k:=by
    have:=(List.getElem?_eq_some_iff.1 h2).1;simp[hl]at this;omega
   subst hik;rw[List.getElem?_append_right (by rw[List.length_take];omega)]at h1;rw[List.getElem?_append_right (by omega)]at h2;have e1:i-(l.take i).length=0:=by rw[List.length_take];omega
   have e2:i-l'.length=0:=by omega
   rw[e1]at h1;rw[e2]at h2;simp at h1 h2;subst h1 h2;exact hx
 ·rw[List.flatMap_append,List.pairwise_append];refine⟨h.2.2,by simpa using hp,fun a ha b hb=>?_⟩;obtain⟨y,hy,hya⟩:=List.mem_flatMap.1 ha;simp at hb;exact hap y hy a hya b hb
theorem Cp.mem (h:Cp C sls W base l l') {y:α} (hy:y∈l'):∃x,C W base x y:=by
 obtain⟨i,hi,rfl⟩:=List.getElem_of_mem hy;have:i<l.length:=by have:=h.1;omega
 exact⟨l[i],h.2.1 i _ _ (List.getElem?_eq_getElem this) (List.getElem?_eq_getElem hi)⟩
theorem mid_get {f:α->List Value} {m:Nat} (hf:∀x,(f x).length=m) (l':List α) (z:α) {k n r:Nat} (hl:l'.length=k) (hk:k<n) (hr:r<m):((l' ++ List.replicate (n-k) z).flatMap f)[k*m+r]? = (f z)[r]?:=by
 rw[flat_get hf _ k r (by simp;omega) hr];rw[List.getElem_append_right (by omega)];simp
theorem mid_set (l':List α) (z x:α) {k n:Nat} (hl:l'.length=k) (hk:k<n):(l' ++ List.replicate (n-k) z).set k x=(l' ++ [x]) ++ List.replicate (n-(k+1)) z:=by
 have e:n-k=(n-(k+1))+1:=by omega
 rw[List.set_append_right _ _ (by omega),e,List.replicate_succ,hl,Nat.sub_self];simp
theorem made_rep (z:Array Value) (f:α->List Value) {m:Nat} (hf:∀x,(f x).length=m) (hm:0<m) (x:α) (hz:z=(f x).toArray) (n:Nat):madeCells z (n*m)=((List.replicate n x).flatMap f).toArray:=by
 have hsz:z.size=m:=by rw[hz];simp[hf]
 apply Array.ext
 ·simp[madeCells,flat_len hf]
 ·intro i h1 h2;have hi:i<n*m:=by simpa[madeCells]using h1
  have hq:i / m<n:=Nat.div_lt_of_lt_mul (by rw[Nat.mul_comm];exact hi);have hr:i % m<m:=Nat.mod_lt _ hm;have hd:i / m*m+i % m=i:=by rw[Nat.mul_comm];exact Nat.div_add_mod i m
  have key:=flat_get hf (List.replicate n x) (i / m) (i % m) (by simpa using hq) hr;rw[hd]at key;simp only[List.getElem_replicate]at key;have h3:i<((List.replicate n x).flatMap f).length:=by simpa using h2
  rw[List.getElem?_eq_getElem h3,List.getElem?_eq_getElem (by rw[hf];exact hr)]at key;have key2:=Option.some.inj key;have e3:(((List.replicate n x).flatMap f).toArray)[i]=(f x)[i % m]'(by rw[hf];exact hr):=by simpa using key2
  rw[e3];subst hz;have e4:i % (f x).toArray.size=i % m:=by rw[List.size_toArray,hf]
  simp[madeCells,hf,hr]
theorem trow_bk {t:TypeId} {g:Nat} {xs:List Value} (h:Bk W g t xs):TRow W t (some ⟨g,0,none⟩) xs:=.inr ⟨g,0,xs.toArray,(0,0),rfl,h,fun j u hu=>by simpa using hu⟩
end
def ruS (r:RuM):List Sl:=[r.st,r.sg,r.sb]
def rwS (r:RwM):List Sl:=[r.sg]
def tbS (t:TbM):List Sl:=t.rows.flatMap rwS
def txS (_:TxM):List Sl:=[]
def InB (W:World) (base:Nat) (s:Sl):Prop:=∀g,(Value.slice s.A s.n s.c).ownBlock=some g->base<=g∧g<W.heap.size
theorem RuC.at_ {W:World} {base:Nat} {r r':RuM} (h:RuC W base r r'):∀s∈ruS r',InB W base s:=fun s hs g hg=>by
 simp only[ruS,List.mem_cons,List.not_mem_nil,or_false]at hs;rcases hs with rfl|rfl|rfl
 ·exact h.take.at_ hg
 ·exact h.give.at_ hg
 ·exact h.back.at_ hg
theorem RwC.at_ {W:World} {base:Nat} {r r':RwM} (h:RwC W base r r'):∀s∈rwS r',InB W base s:=fun s hs g hg=>by
 simp only[rwS,List.mem_cons,List.not_mem_nil,or_false]at hs;subst hs;exact h.give.at_ hg
theorem TxC.at_ {W:World} {base:Nat} {r r':TxM} (h:TxC W base r r'):∀s∈txS r',InB W base s:=fun s hs=>by simp[txS]at hs
theorem apart_in {W W2:World} {b1 b2:Nat} {s s2:Sl} (h:InB W b1 s) (k:InB W2 b2 s2) (hb:W.heap.size<=b2):Apart s s2:=fun g hg hk=>by
 have:=(h g hg).2;have:=(k g hk).1;omega
structure TbC (W : World) (base : Nat) (t t' : TbM) : Prop where
 name:t'.name=t.name
 row:TRow W 175 t'.sr.A (t'.rows.flatMap RwM.cells)
 len:t'.sr.n=t'.rows.length
 rows:Cp RwC rwS W base t.rows t'.rows
theorem TbC.below {W W':World} {base:Nat} {r r':TbM} (h:TbC W base r r') (hb:Below W.heap.size W W'):TbC W' base r r':=⟨h.name,h.row.keep (.below hb),h.len,h.rows.to fun _ _ k=>k.below hb⟩
theorem TbC.mono {W:World} {b0 base:Nat} {r r':TbM} (h:TbC W base r r') (hb:b0<=base):TbC W b0 r r':=⟨h.name,h.row,h.len,h.rows.to fun _ _ k=>k.mono hb⟩
theorem TbC.at_ {W:World} {base:Nat} {r r':TbM} (h:TbC W base r r'):∀s∈tbS r',InB W base s:=fun s hs=>by
 obtain⟨y,hy,hys⟩:=List.mem_flatMap.1 hs;obtain⟨x,hx⟩:=h.rows.mem hy;exact hx.at_ s hys
def ru0:RuM:=⟨⟨#[]⟩,false,0,0,0,0,[],[],[],⟨none,0,0⟩,⟨none,0,0⟩,⟨none,0,0⟩⟩
def rw0:RwM:=⟨0,[],⟨none,0,0⟩⟩
def tb0:TbM:=⟨⟨#[]⟩,[],⟨none,0,0⟩⟩
def tx0:TxM:=⟨⟨#[]⟩,[],⟨none,0,0⟩⟩
theorem info103e:(Tryz.prog.info? 149).map (fun i=>(i.zero,i.size,i.bytes))=some (some (.agg #[.string ⟨#[]⟩,.bool false,.int .i64 0,.int .i64 0,.int .i64 0,.int .i64 0,.slice none 0 0,.slice none 0 0,.slice none 0 0]),9,128):=by kernel_rfl
theorem make_ru (n:Nat) (hn:n<=1000000) (W:World) :
 (Instr.makeSlice 24 (.int .i64 (n:Int)) (.int .i64 (n:Int))).run Tryz.prog W=.ok (.slice (some ⟨W.heap.size,0,none⟩) n n) (W.alloc (.cells ((List.replicate n ru0).flatMap RuM.cells).toArray 149)):=by
 obtain⟨i,hi,hz0,hz1,hz2⟩:=info_parts info103e;have h:=run_make (P:=Tryz.prog) W 24 149 i (.agg #[.string ⟨#[]⟩,.bool false,.int .i64 0,.int .i64 0,.int .i64 0,.int .i64 0,.slice none 0 0,.slice none 0 0,.slice none 0 0]) Tryz.underlying24 hi hz0 .i64 .i64 n n (by omega) (by omega) (by rw[hz2];omega) (by omega);rw[hz1]at h;simp only[Int.toNat_natCast]at h;rw[made_rep _ RuM.cells RuM.len (by omega) ru0 (by rfl) n]at h;exact h
theorem ru_set (l:List RuM) (k:Nat) (t:RuM) (h:k<l.length):(l.set k t).flatMap RuM.cells=((((((((((l.flatMap RuM.cells).set (k*9) (.string t.name)).set (k*9+1) (.bool t.spawn)).set (k*9+2) (.int .i64 t.level)).set (k*9+3) (.int .i64 t.time)).set (k*9+4) (.int .i64 t.chance)).set (k*9+5) (.int .i64 t.of_)).set (k*9+6) (.slice t.st.A t.st.n t.st.c)).set (k*9+7) (.slice t.sg.A t.sg.n t.sg.c)).set (k*9+8) (.slice t.sb.A t.sb.n t.sb.c)):=by
 induction l generalizing k with
 | nil=>simp at h
 | cons a l ih =>
   cases k with
   | zero=>simp
   | succ k =>
     have:=ih k (by simpa using h);have e:(k+1)*9=k*9+1+1+1+1+1+1+1+1+1:=by omega
     simp only[List.set_cons_succ,List.flatMap_cons]at this⊢;rw[this,e];simp[RuM.cells,List.set_cons_succ]
theorem RuC.kept {W:World} {base g k:Nat} {u:Value} {xs:List Value} {r r':RuM} (h:RuC W base r r') (hB:Bk W g 149 xs):RuC (W.setCell ⟨g,k,none⟩ u) base r r' :=
 ⟨h.same,bk_keeps hB (by decide) h.take,bk_keeps hB (by decide) h.give,bk_keeps hB (by decide) h.back,h.ap⟩
def RuQs (w:World) (l:List RuM) (e:Ending) (w':World):Prop:=∃(s:Sl) (l':List RuM),e=.returned (.slice s.A s.n s.c)∧TRow w' 149 s.A (l'.flatMap RuM.cells)∧s.n=l'.length∧Cp RuC ruS w' w.heap.size l l'∧Below w.heap.size w w'
theorem each_ru {w:World} {s:Sl} {l:List RuM} (h:RulesV w s l):Calls Tryz.prog 307 #[.slice s.A s.n s.c,.func (.func 308) #[] #[]] w (RuQs w l):=by
 have Hn:=iH h.len;have H:=iH h;have hs:=h.small;clear h;obtain⟨A,n,c⟩:=s;dsimp only at Hn hs⊢;rcases Nat.eq_zero_or_pos n with hz|hz
 ·subst hz;have hl0:l=[]:=List.eq_nil_of_length_eq_zero Hn.out.symm;subst hl0;clear H Hn;go_enter Tryz.func307,Tryz.ntmps307;go_wp2;go_ret;exact⟨⟨none,0,0⟩,[],rfl,.inl rfl,rfl,Cp.nil,Below.refl _ _⟩
 have ez:((n:Int) == 0)=false:=by simp;omega
 have mk:=fun W=>make_ru n (by omega) W
 have hG0:=Bk.new w 149 ((List.replicate n ru0).flatMap RuM.cells);have HG0:=iH hG0;have HX0:=iH ((Below.refl w.heap.size w).alloc (Nat.le_refl _) (.cells ((List.replicate n ru0).flatMap RuM.cells).toArray 149));clear hG0;go_enter Tryz.func307,Tryz.ntmps307;go_wp2_with fail;obtain⟨g,hg⟩:∃g,w.heap.size=g:=⟨_,rfl⟩;have hge:w.heap.size<=g:=by omega
 generalize w.alloc (.cells ((List.replicate n ru0).flatMap RuM.cells).toArray 149)=W0 at HG0 HX0⊢;rw[hg]at HG0;(try rw[hg]);clear mk ez;go_loopw [16] (fun i wr=>∃(k:Nat) (l':List RuM),k<=n∧i=.int .i64 k∧Bk wr g 149 ((l' ++ List.replicate (n-k) ru0).flatMap RuM.cells)∧Cp RuC ruS wr w.heap.size (l.take k) l'∧Below w.heap.size w wr) (fun i _=>n-(intOf i).toNat)
 case atStart=>exact⟨0,[],Nat.zero_le _,rfl,by simpa using HG0.out,Cp.nil,HX0.out⟩
 case round =>
  obtain⟨k,l',hk,rfl,hG,hC,hb⟩:=hrel;have HG:=iH hG;have HC:=iH hC;have HX:=iH hb;clear hG hC hb HG0 HX0;by_cases hlt:k<n
  ·have hkl:k<l.length:=by have:=Hn.out;omega
   obtain⟨b,off,rfl,hbb,c0,c1,c2,c3,c4,c5,c6,c7,c8⟩:=(H.out.below HX.out).at_ k hkl;have Hl:Hid (l'.length=k):=by
    show l'.length=k;have:=HC.out.1;rw[List.length_take]at this;omega
   have hsn:∀(W:World) (x':RuM),Cp RuC ruS W w.heap.size (l.take k) l'->RuC W w.heap.size l[k] x'->(∀y'∈l',∀s∈ruS y',∀s2∈ruS x',Apart s s2)->Cp RuC ruS W w.heap.size (l.take (k+1)) (l' ++ [x']) :=
    fun W x' h1 h ha=>h1.snoc hkl h (h.ap) ha
   have HS:=iH hsn;have x2:=HX.out.alloc HX.out.size (.cells #[.string l[k].name,.bool l[k].spawn,.int .i64 l[k].level,.int .i64 l[k].time,.int .i64 l[k].chance,.int .i64 l[k].of_,.slice l[k].st.A l[k].st.n l[k].st.c,.slice l[k].sg.A l[k].sg.n l[k].sg.c,.slice l[k].sb.A l[k].sb.n l[k].sb.c] 149);have HX2:=iH x2;have hok:l[k].Ok _:=(H.out.below HX2.out).each l[k] (List.getElem_mem hkl);have K:=iH (copy_ru l[k] hok);have HA:=iH (fun s (hs:∃y'∈l',s∈ruS y')=>(by obtain⟨y',hy,hys⟩:=hs;obtain⟨x,hx⟩:=HC.out.mem hy;exact hx.at_ s hys:InB wr w.heap.size s));have b2:=(Below.refl wr.heap.size wr).alloc (Nat.le_refl _) (.cells #[.string l[k].name,.bool l[k].spawn,.int .i64 l[k].level,.int .i64 l[k].time,.int .i64 l[k].chance,.int .i64 l[k].of_,.slice l[k].st.A l[k].st.n l[k].st.c,.slice l[k].sg.A l[k].sg.n l[k].sg.c,.slice l[k].sb.A l[k].sb.n l[k].sb.c] 149);have HG2:=iH (HG.out.below b2 HG.out.lt);have HC2:=iH (HC.out.to fun _ _ h=>h.below b2);have hw2:wr.heap.size<=(wr.alloc (.cells #[.string l[k].name,.bool l[k].spawn,.int .i64 l[k].level,.int .i64 l[k].time,.int .i64 l[k].chance,.int .i64 l[k].of_,.slice l[k].st.A l[k].st.n l[k].st.c,.slice l[k].sg.A l[k].sg.n l[k].sg.c,.slice l[k].sb.A l[k].sb.n l[k].sb.c] 149)).heap.size:=b2.size;have HW2:=iH hw2;have hgw:=HG.out.lt;have hww:=HX.out.size;clear hsn x2 hok b2 HC HG hw2;generalize l[k]=t at *;clear hkl;have k0:(0:Int)<=(k:Int):=by omega
   have k1:(k:Int)<(n:Int):=by omega
   go_wp2_with fail;generalize wr.alloc (.cells #[.string t.name,.bool t.spawn,.int .i64 t.level,.int .i64 t.time,.int .i64 t.chance,.int .i64 t.of_,.slice t.st.A t.st.n t.st.c,.slice t.sg.A t.sg.n t.sg.c,.slice t.sb.A t.sb.n t.sb.c] 149)=W2 at HX2 K HG2 HC2 HW2⊢;(with_reducible refine K.out.mono ?_);rintro e w1 ⟨t',rfl,hc,hb1⟩;have hw3:=HX2.out.size;have HX3:=iH (HX2.out.trans (hb1.mono hw3));have HG3:=iH (HG2.out.below hb1 HG2.out.lt);have HC3:=iH (HC2.out.to fun _ _ h=>h.below hb1);have HT:=iH (hc.mono hw3);have HA3:Hid (∀y'∈l',∀s∈ruS y',∀s2∈ruS t',Apart s s2):=by
    show ∀y'∈l',∀s∈ruS y',∀s2∈ruS t',Apart s s2;intro y' hy s hs s2 hs2;exact apart_in (HA.out s ⟨y',hy,hs⟩) (hc.at_ s2 hs2) HW2.out
   clear hc hb1 K HX2 HG2 HC2 HX HA HW2;have HF:Hid (Bk (((((((((w1.setCell ⟨g,k*9,none⟩ (.string t'.name)).setCell ⟨g,k*9+1,none⟩ (.bool t'.spawn)).setCell ⟨g,k*9+2,none⟩ (.int .i64 t'.level)).setCell ⟨g,k*9+3,none⟩ (.int .i64 t'.time)).setCell ⟨g,k*9+4,none⟩ (.int .i64 t'.chance)).setCell ⟨g,k*9+5,none⟩ (.int .i64 t'.of_)).setCell ⟨g,k*9+6,none⟩ (.slice t'.st.A t'.st.n t'.st.c)).setCell ⟨g,k*9+7,none⟩ (.slice t'.sg.A t'.sg.n t'.sg.c)).setCell ⟨g,k*9+8,none⟩ (.slice t'.sb.A t'.sb.n t'.sb.c)) g 149 (((l' ++ [t']) ++ List.replicate (n-(k+1)) ru0).flatMap RuM.cells)∧Cp RuC ruS (((((((((w1.setCell ⟨g,k*9,none⟩ (.string t'.name)).setCell ⟨g,k*9+1,none⟩ (.bool t'.spawn)).setCell ⟨g,k*9+2,none⟩ (.int .i64 t'.level)).setCell ⟨g,k*9+3,none⟩ (.int .i64 t'.time)).setCell ⟨g,k*9+4,none⟩ (.int .i64 t'.chance)).setCell ⟨g,k*9+5,none⟩ (.int .i64 t'.of_)).setCell ⟨g,k*9+6,none⟩ (.slice t'.st.A t'.st.n t'.st.c)).setCell ⟨g,k*9+7,none⟩ (.slice t'.sg.A t'.sg.n t'.sg.c)).setCell ⟨g,k*9+8,none⟩ (.slice t'.sb.A t'.sb.n t'.sb.c)) w.heap.size (l.take (k+1)) (l' ++ [t'])∧Below w.heap.size w (((((((((w1.setCell ⟨g,k*9,none⟩ (.string t'.name)).setCell ⟨g,k*9+1,none⟩ (.bool t'.spawn)).setCell ⟨g,k*9+2,none⟩ (.int .i64 t'.level)).setCell ⟨g,k*9+3,none⟩ (.int .i64 t'.time)).setCell ⟨g,k*9+4,none⟩ (.int .i64 t'.chance)).setCell ⟨g,k*9+5,none⟩ (.int .i64 t'.of_)).setCell ⟨g,k*9+6,none⟩ (.slice t'.st.A t'.st.n t'.st.c)).setCell ⟨g,k*9+7,none⟩ (.slice t'.sg.A t'.sg.n t'.sg.c)).setCell ⟨g,k*9+8,none⟩ (.slice t'.sb.A t'.sb.n t'.sb.c))):=by
    show _∧_∧_;refine⟨?_,?_,(((((((((HX3.out.setCell (p:=⟨g,k*9,none⟩) hge (.string t'.name)).setCell (p:=⟨g,k*9+1,none⟩) hge (.bool t'.spawn)).setCell (p:=⟨g,k*9+2,none⟩) hge (.int .i64 t'.level)).setCell (p:=⟨g,k*9+3,none⟩) hge (.int .i64 t'.time)).setCell (p:=⟨g,k*9+4,none⟩) hge (.int .i64 t'.chance)).setCell (p:=⟨g,k*9+5,none⟩) hge (.int .i64 t'.of_)).setCell (p:=⟨g,k*9+6,none⟩) hge (.slice t'.st.A t'.st.n t'.st.c)).setCell (p:=⟨g,k*9+7,none⟩) hge (.slice t'.sg.A t'.sg.n t'.sg.c)).setCell (p:=⟨g,k*9+8,none⟩) hge (.slice t'.sb.A t'.sb.n t'.sb.c))⟩
    ·rw[<- mid_set l' ru0 t' Hl.out hlt,ru_set _ _ _ (by rw[List.length_append,List.length_replicate,Hl.out];omega)];exact(((((((((HG3.out.set (k*9) (.string t'.name)).set (k*9+1) (.bool t'.spawn)).set (k*9+2) (.int .i64 t'.level)).set (k*9+3) (.int .i64 t'.time)).set (k*9+4) (.int .i64 t'.chance)).set (k*9+5) (.int .i64 t'.of_)).set (k*9+6) (.slice t'.st.A t'.st.n t'.st.c)).set (k*9+7) (.slice t'.sg.A t'.sg.n t'.sg.c)).set (k*9+8) (.slice t'.sb.A t'.sb.n t'.sb.c))
    ·refine HS.out _ _ ?_ ?_ HA3.out
     ·exact Cp.to (Cp.to (Cp.to (Cp.to (Cp.to (Cp.to (Cp.to (Cp.to (Cp.to (HC3.out) (fun _ _ h=>h.kept (HG3.out))) (fun _ _ h=>h.kept ((HG3.out.set (k*9) (.string t'.name))))) (fun _ _ h=>h.kept (((HG3.out.set (k*9) (.string t'.name)).set (k*9+1) (.bool t'.spawn))))) (fun _ _ h=>h.kept ((((HG3.out.set (k*9) (.string t'.name)).set (k*9+1) (.bool t'.spawn)).set (k*9+2) (.int .i64 t'.level))))) (fun _ _ h=>h.kept (((((HG3.out.set (k*9) (.string t'.name)).set (k*9+1) (.bool t'.spawn)).set (k*9+2) (.int .i64 t'.level)).set (k*9+3) (.int .i64 t'.time))))) (fun _ _ h=>h.kept ((((((HG3.out.set (k*9) (.string t'.name)).set (k*9+1) (.bool t'.spawn)).set (k*9+2) (.int .i64 t'.level)).set (k*9+3) (.int .i64 t'.time)).set (k*9+4) (.int .i64 t'.chance))))) (fun _ _ h=>h.kept (((((((HG3.out.set (k*9) (.string t'.name)).set (k*9+1) (.bool t'.spawn)).set (k*9+2) (.int .i64 t'.level)).set (k*9+3) (.int .i64 t'.time)).set (k*9+4) (.int .i64 t'.chance)).set (k*9+5) (.int .i64 t'.of_))))) (fun _ _ h=>h.kept ((((((((HG3.out.set (k*9) (.string t'.name)).set (k*9+1) (.bool t'.spawn)).set (k*9+2) (.int .i64 t'.level)).set (k*9+3) (.int .i64 t'.time)).set (k*9+4) (.int .i64 t'.chance)).set (k*9+5) (.int .i64 t'.of_)).set (k*9+6) (.slice t'.st.A t'.st.n t'.st.c))))) (fun _ _ h=>h.kept (((((((((HG3.out.set (k*9) (.string t'.name)).set (k*9+1) (.bool t'.spawn)).set (k*9+2) (.int .i64 t'.level)).set (k*9+3) (.int .i64 t'.time)).set (k*9+4) (.int .i64 t'.chance)).set (k*9+5) (.int .i64 t'.of_)).set (k*9+6) (.slice t'.st.A t'.st.n t'.st.c)).set (k*9+7) (.slice t'.sg.A t'.sg.n t'.sg.c))))
     ·exact(((((((((HT.out.kept (HG3.out)).kept ((HG3.out.set (k*9) (.string t'.name)))).kept (((HG3.out.set (k*9) (.string t'.name)).set (k*9+1) (.bool t'.spawn)))).kept ((((HG3.out.set (k*9) (.string t'.name)).set (k*9+1) (.bool t'.spawn)).set (k*9+2) (.int .i64 t'.level)))).kept (((((HG3.out.set (k*9) (.string t'.name)).set (k*9+1) (.bool t'.spawn)).set (k*9+2) (.int .i64 t'.level)).set (k*9+3) (.int .i64 t'.time)))).kept ((((((HG3.out.set (k*9) (.string t'.name)).set (k*9+1) (.bool t'.spawn)).set (k*9+2) (.int .i64 t'.level)).set (k*9+3) (.int .i64 t'.time)).set (k*9+4) (.int .i64 t'.chance)))).kept (((((((HG3.out.set (k*9) (.string t'.name)).set (k*9+1) (.bool t'.spawn)).set (k*9+2) (.int .i64 t'.level)).set (k*9+3) (.int .i64 t'.time)).set (k*9+4) (.int .i64 t'.chance)).set (k*9+5) (.int .i64 t'.of_)))).kept ((((((((HG3.out.set (k*9) (.string t'.name)).set (k*9+1) (.bool t'.spawn)).set (k*9+2) (.int .i64 t'.level)).set (k*9+3) (.int .i64 t'.time)).set (k*9+4) (.int .i64 t'.chance)).set (k*9+5) (.int .i64 t'.of_)).set (k*9+6) (.slice t'.st.A t'.st.n t'.st.c)))).kept (((((((((HG3.out.set (k*9) (.string t'.name)).set (k*9+1) (.bool t'.spawn)).set (k*9+2) (.int .i64 t'.level)).set (k*9+3) (.int .i64 t'.time)).set (k*9+4) (.int .i64 t'.chance)).set (k*9+5) (.int .i64 t'.of_)).set (k*9+6) (.slice t'.st.A t'.st.n t'.st.c)).set (k*9+7) (.slice t'.sg.A t'.sg.n t'.sg.c))))
   clear HX3 HC3 HT HA3 HS hw3;have e0:w1.cell? ⟨g,k*9,none⟩=some (.string ⟨#[]⟩):=(HG3.out.cell (k*9)).trans (mid_get (r:=0) RuM.len l' ru0 Hl.out hlt (by omega));have z0:=HG3.out.frozen (k*9);have e1:w1.cell? ⟨g,k*9+1,none⟩=some (.bool false):=(HG3.out.cell (k*9+1)).trans (mid_get (r:=1) RuM.len l' ru0 Hl.out hlt (by omega));have z1:=HG3.out.frozen (k*9+1);have e2:w1.cell? ⟨g,k*9+2,none⟩=some (.int .i64 0):=(HG3.out.cell (k*9+2)).trans (mid_get (r:=2) RuM.len l' ru0 Hl.out hlt (by omega));have z2:=HG3.out.frozen (k*9+2);have e3:w1.cell? ⟨g,k*9+3,none⟩=some (.int .i64 0):=(HG3.out.cell (k*9+3)).trans (mid_get (r:=3) RuM.len l' ru0 Hl.out hlt (by omega));have z3:=HG3.out.frozen (k*9+3);have e4:w1.cell? ⟨g,k*9+4,none⟩=some (.int .i64 0):=(HG3.out.cell (k*9+4)).trans (mid_get (r:=4) RuM.len l' ru0 Hl.out hlt (by omega));have z4:=HG3.out.frozen (k*9+4);have e5:w1.cell? ⟨g,k*9+5,none⟩=some (.int .i64 0):=(HG3.out.cell (k*9+5)).trans (mid_get (r:=5) RuM.len l' ru0 Hl.out hlt (by omega));have z5:=HG3.out.frozen (k*9+5);have e6:w1.cell? ⟨g,k*9+6,none⟩=some (.slice none 0 0):=(HG3.out.cell (k*9+6)).trans (mid_get (r:=6) RuM.len l' ru0 Hl.out hlt (by omega));have z6:=HG3.out.frozen (k*9+6);have e7:w1.cell? ⟨g,k*9+7,none⟩=some (.slice none 0 0):=(HG3.out.cell (k*9+7)).trans (mid_get (r:=7) RuM.len l' ru0 Hl.out hlt (by omega));have z7:=HG3.out.frozen (k*9+7);have e8:w1.cell? ⟨g,k*9+8,none⟩=some (.slice none 0 0):=(HG3.out.cell (k*9+8)).trans (mid_get (r:=8) RuM.len l' ru0 Hl.out hlt (by omega));have z8:=HG3.out.frozen (k*9+8);have gl:=HG3.out.lt;go_wp2_with fail;go_roundw
   case rel=>exact⟨k+1,l' ++ [t'],by omega,by go_num,HF.out.1,HF.out.2.1,HF.out.2.2⟩
   case measure=>simp[intOf];omega
  ·obtain rfl:n=k:=by omega
   have HC1:Hid (Cp RuC ruS wr w.heap.size l l'):=by
    have h:=HC.out;rw[Hn.out,List.take_length]at h;exact iH h
   have HG1:Hid (Bk wr g 149 (l'.flatMap RuM.cells)):=by
    have h:=HG.out;rw[Nat.sub_self,List.replicate_zero,List.append_nil]at h;exact iH h
   clear HC HG;go_wp2;go_ret;exact⟨⟨some ⟨g,0,none⟩,n,n⟩,l',rfl,trow_bk HG1.out,by rw[HC1.out.1];exact Hn.out,HC1.out,HX.out⟩
theorem info109e:(Tryz.prog.info? 175).map (fun i=>(i.zero,i.size,i.bytes))=some (some (.agg #[.int .i64 0,.slice none 0 0]),2,32):=by kernel_rfl
theorem make_rw (n:Nat) (hn:n<=1000000) (W:World) :
 (Instr.makeSlice 171 (.int .i64 (n:Int)) (.int .i64 (n:Int))).run Tryz.prog W=.ok (.slice (some ⟨W.heap.size,0,none⟩) n n) (W.alloc (.cells ((List.replicate n rw0).flatMap RwM.cells).toArray 175)):=by
 obtain⟨i,hi,hz0,hz1,hz2⟩:=info_parts info109e;have h:=run_make (P:=Tryz.prog) W 171 175 i (.agg #[.int .i64 0,.slice none 0 0]) Tryz.underlying171 hi hz0 .i64 .i64 n n (by omega) (by omega) (by rw[hz2];omega) (by omega);rw[hz1]at h;simp only[Int.toNat_natCast]at h;rw[made_rep _ RwM.cells RwM.len (by omega) rw0 (by rfl) n]at h;exact h
theorem rw_set (l:List RwM) (k:Nat) (t:RwM) (h:k<l.length):(l.set k t).flatMap RwM.cells=(((l.flatMap RwM.cells).set (k*2) (.int .i64 t.weight)).set (k*2+1) (.slice t.sg.A t.sg.n t.sg.c)):=by
 induction l generalizing k with
 | nil=>simp at h
 | cons a l ih =>
   cases k with
   | zero=>simp
   | succ k =>
     have:=ih k (by simpa using h);have e:(k+1)*2=k*2+1+1:=by omega
     simp only[List.set_cons_succ,List.flatMap_cons]at this⊢;rw[this,e];simp[RwM.cells,List.set_cons_succ]
theorem RwC.kept {W:World} {base g k:Nat} {u:Value} {xs:List Value} {r r':RwM} (h:RwC W base r r') (hB:Bk W g 175 xs):RwC (W.setCell ⟨g,k,none⟩ u) base r r' :=
 ⟨h.same,bk_keeps hB (by decide) h.give⟩
def RwQs (w:World) (l:List RwM) (e:Ending) (w':World):Prop:=∃(s:Sl) (l':List RwM),e=.returned (.slice s.A s.n s.c)∧TRow w' 175 s.A (l'.flatMap RwM.cells)∧s.n=l'.length∧Cp RwC rwS w' w.heap.size l l'∧Below w.heap.size w w'
theorem each_rw {w:World} {s:Sl} {l:List RwM} (h:RowsV w s l):Calls Tryz.prog 370 #[.slice s.A s.n s.c,.func (.func 371) #[] #[]] w (RwQs w l):=by
 have Hn:=iH h.len;have H:=iH h;have hs:=h.small;clear h;obtain⟨A,n,c⟩:=s;dsimp only at Hn hs⊢;rcases Nat.eq_zero_or_pos n with hz|hz
 ·subst hz;have hl0:l=[]:=List.eq_nil_of_length_eq_zero Hn.out.symm;subst hl0;clear H Hn;go_enter Tryz.func370,Tryz.ntmps370;go_wp2;go_ret;exact⟨⟨none,0,0⟩,[],rfl,.inl rfl,rfl,Cp.nil,Below.refl _ _⟩
 have ez:((n:Int) == 0)=false:=by simp;omega
 have mk:=fun W=>make_rw n (by omega) W
 have hG0:=Bk.new w 175 ((List.replicate n rw0).flatMap RwM.cells);have HG0:=iH hG0;have HX0:=iH ((Below.refl w.heap.size w).alloc (Nat.le_refl _) (.cells ((List.replicate n rw0).flatMap RwM.cells).toArray 175));clear hG0;go_enter Tryz.func370,Tryz.ntmps370;go_wp2_with fail;obtain⟨g,hg⟩:∃g,w.heap.size=g:=⟨_,rfl⟩;have hge:w.heap.size<=g:=by omega
 generalize w.alloc (.cells ((List.replicate n rw0).flatMap RwM.cells).toArray 175)=W0 at HG0 HX0⊢;rw[hg]at HG0;(try rw[hg]);clear mk ez;go_loopw [16] (fun i wr=>∃(k:Nat) (l':List RwM),k<=n∧i=.int .i64 k∧Bk wr g 175 ((l' ++ List.replicate (n-k) rw0).flatMap RwM.cells)∧Cp RwC rwS wr w.heap.size (l.take k) l'∧Below w.heap.size w wr) (fun i _=>n-(intOf i).toNat)
 case atStart=>exact⟨0,[],Nat.zero_le _,rfl,by simpa using HG0.out,Cp.nil,HX0.out⟩
 case round =>
  obtain⟨k,l',hk,rfl,hG,hC,hb⟩:=hrel;have HG:=iH hG;have HC:=iH hC;have HX:=iH hb;clear hG hC hb HG0 HX0;by_cases hlt:k<n
  ·have hkl:k<l.length:=by have:=Hn.out;omega
   obtain⟨b,off,rfl,hbb,c0,c1⟩:=(H.out.below HX.out).at_ k hkl;have Hl:Hid (l'.length=k):=by
    show l'.length=k;have:=HC.out.1;rw[List.length_take]at this;omega
   have hsn:∀(W:World) (x':RwM),Cp RwC rwS W w.heap.size (l.take k) l'->RwC W w.heap.size l[k] x'->(∀y'∈l',∀s∈rwS y',∀s2∈rwS x',Apart s s2)->Cp RwC rwS W w.heap.size (l.take (k+1)) (l' ++ [x']) :=
    fun W x' h1 h ha=>h1.snoc hkl h (by simp[rwS]) ha
   have HS:=iH hsn;have x2:=HX.out.alloc HX.out.size (.cells #[.int .i64 l[k].weight,.slice l[k].sg.A l[k].sg.n l[k].sg.c] 175);have HX2:=iH x2;have hok:l[k].Ok _:=(H.out.below HX2.out).each l[k] (List.getElem_mem hkl);have K:=iH (copy_rw l[k] hok);have HA:=iH (fun s (hs:∃y'∈l',s∈rwS y')=>(by obtain⟨y',hy,hys⟩:=hs;obtain⟨x,hx⟩:=HC.out.mem hy;exact hx.at_ s hys:InB wr w.heap.size s));have b2:=(Below.refl wr.heap.size wr).alloc (Nat.le_refl _) (.cells #[.int .i64 l[k].weight,.slice l[k].sg.A l[k].sg.n l[k].sg.c] 175);have HG2:=iH (HG.out.below b2 HG.out.lt);have HC2:=iH (HC.out.to fun _ _ h=>h.below b2);have hw2:wr.heap.size<=(wr.alloc (.cells #[.int .i64 l[k].weight,.slice l[k].sg.A l[k].sg.n l[k].sg.c] 175)).heap.size:=b2.size;have HW2:=iH hw2;have hgw:=HG.out.lt;have hww:=HX.out.size;clear hsn x2 hok b2 HC HG hw2;generalize l[k]=t at *;clear hkl;have k0:(0:Int)<=(k:Int):=by omega
   have k1:(k:Int)<(n:Int):=by omega
   go_wp2_with fail;generalize wr.alloc (.cells #[.int .i64 t.weight,.slice t.sg.A t.sg.n t.sg.c] 175)=W2 at HX2 K HG2 HC2 HW2⊢;(with_reducible refine K.out.mono ?_);rintro e w1 ⟨t',rfl,hc,hb1⟩;have hw3:=HX2.out.size;have HX3:=iH (HX2.out.trans (hb1.mono hw3));have HG3:=iH (HG2.out.below hb1 HG2.out.lt);have HC3:=iH (HC2.out.to fun _ _ h=>h.below hb1);have HT:=iH (hc.mono hw3);have HA3:Hid (∀y'∈l',∀s∈rwS y',∀s2∈rwS t',Apart s s2):=by
    show ∀y'∈l',∀s∈rwS y',∀s2∈rwS t',Apart s s2;intro y' hy s hs s2 hs2;exact apart_in (HA.out s ⟨y',hy,hs⟩) (hc.at_ s2 hs2) HW2.out
   clear hc hb1 K HX2 HG2 HC2 HX HA HW2;have HF:Hid (Bk ((w1.setCell ⟨g,k*2,none⟩ (.int .i64 t'.weight)).setCell ⟨g,k*2+1,none⟩ (.slice t'.sg.A t'.sg.n t'.sg.c)) g 175 (((l' ++ [t']) ++ List.replicate (n-(k+1)) rw0).flatMap RwM.cells)∧Cp RwC rwS ((w1.setCell ⟨g,k*2,none⟩ (.int .i64 t'.weight)).setCell ⟨g,k*2+1,none⟩ (.slice t'.sg.A t'.sg.n t'.sg.c)) w.heap.size (l.take (k+1)) (l' ++ [t'])∧Below w.heap.size w ((w1.setCell ⟨g,k*2,none⟩ (.int .i64 t'.weight)).setCell ⟨g,k*2+1,none⟩ (.slice t'.sg.A t'.sg.n t'.sg.c))):=by
    show _∧_∧_;refine⟨?_,?_,((HX3.out.setCell (p:=⟨g,k*2,none⟩) hge (.int .i64 t'.weight)).setCell (p:=⟨g,k*2+1,none⟩) hge (.slice t'.sg.A t'.sg.n t'.sg.c))⟩
    ·rw[<- mid_set l' rw0 t' Hl.out hlt,rw_set _ _ _ (by rw[List.length_append,List.length_replicate,Hl.out];omega)];exact((HG3.out.set (k*2) (.int .i64 t'.weight)).set (k*2+1) (.slice t'.sg.A t'.sg.n t'.sg.c))
    ·refine HS.out _ _ ?_ ?_ HA3.out
     ·exact Cp.to (Cp.to (HC3.out) (fun _ _ h=>h.kept (HG3.out))) (fun _ _ h=>h.kept ((HG3.out.set (k*2) (.int .i64 t'.weight))))
     ·exact((HT.out.kept (HG3.out)).kept ((HG3.out.set (k*2) (.int .i64 t'.weight))))
   clear HX3 HC3 HT HA3 HS hw3;have e0:w1.cell? ⟨g,k*2,none⟩=some (.int .i64 0):=(HG3.out.cell (k*2)).trans (mid_get (r:=0) RwM.len l' rw0 Hl.out hlt (by omega));have z0:=HG3.out.frozen (k*2);have e1:w1.cell? ⟨g,k*2+1,none⟩=some (.slice none 0 0):=(HG3.out.cell (k*2+1)).trans (mid_get (r:=1) RwM.len l' rw0 Hl.out hlt (by omega));have z1:=HG3.out.frozen (k*2+1);have gl:=HG3.out.lt;go_wp2_with fail;go_roundw
   case rel=>exact⟨k+1,l' ++ [t'],by omega,by go_num,HF.out.1,HF.out.2.1,HF.out.2.2⟩
   case measure=>simp[intOf];omega
  ·obtain rfl:n=k:=by omega
   have HC1:Hid (Cp RwC rwS wr w.heap.size l l'):=by
    have h:=HC.out;rw[Hn.out,List.take_length]at h;exact iH h
   have HG1:Hid (Bk wr g 175 (l'.flatMap RwM.cells)):=by
    have h:=HG.out;rw[Nat.sub_self,List.replicate_zero,List.append_nil]at h;exact iH h
   clear HC HG;go_wp2;go_ret;exact⟨⟨some ⟨g,0,none⟩,n,n⟩,l',rfl,trow_bk HG1.out,by rw[HC1.out.1];exact Hn.out,HC1.out,HX.out⟩
theorem info115e:(Tryz.prog.info? 93).map (fun i=>(i.zero,i.size,i.bytes))=some (some (.agg #[.string ⟨#[]⟩,.slice none 0 0]),2,40):=by kernel_rfl
theorem make_tx (n:Nat) (hn:n<=1000000) (W:World) :
 (Instr.makeSlice 26 (.int .i64 (n:Int)) (.int .i64 (n:Int))).run Tryz.prog W=.ok (.slice (some ⟨W.heap.size,0,none⟩) n n) (W.alloc (.cells ((List.replicate n tx0).flatMap TxM.cells).toArray 93)):=by
 obtain⟨i,hi,hz0,hz1,hz2⟩:=info_parts info115e;have h:=run_make (P:=Tryz.prog) W 26 93 i (.agg #[.string ⟨#[]⟩,.slice none 0 0]) Tryz.underlying26 hi hz0 .i64 .i64 n n (by omega) (by omega) (by rw[hz2];omega) (by omega);rw[hz1]at h;simp only[Int.toNat_natCast]at h;rw[made_rep _ TxM.cells TxM.len (by omega) tx0 (by rfl) n]at h;exact h
theorem tx_set (l:List TxM) (k:Nat) (t:TxM) (h:k<l.length):(l.set k t).flatMap TxM.cells=(((l.flatMap TxM.cells).set (k*2) (.string t.name)).set (k*2+1) (.slice t.sb.A t.sb.n t.sb.c)):=by
 induction l generalizing k with
 | nil=>simp at h
 | cons a l ih =>
   cases k with
   | zero=>simp
   | succ k =>
     have:=ih k (by simpa using h);have e:(k+1)*2=k*2+1+1:=by omega
     simp only[List.set_cons_succ,List.flatMap_cons]at this⊢;rw[this,e];simp[TxM.cells,List.set_cons_succ]
theorem TxC.kept {W:World} {base g k:Nat} {u:Value} {xs:List Value} {r r':TxM} (h:TxC W base r r') (hB:Bk W g 93 xs):TxC (W.setCell ⟨g,k,none⟩ u) base r r' :=
 ⟨h.same,bk_keeps hB (by decide) h.brs⟩
def TxQs (w:World) (l:List TxM) (e:Ending) (w':World):Prop:=∃(s:Sl) (l':List TxM),e=.returned (.slice s.A s.n s.c)∧TRow w' 93 s.A (l'.flatMap TxM.cells)∧s.n=l'.length∧Cp TxC txS w' w.heap.size l l'∧Below w.heap.size w w'
theorem each_tx {w:World} {s:Sl} {l:List TxM} (h:TaxesV w s l):Calls Tryz.prog 311 #[.slice s.A s.n s.c,.func (.func 312) #[] #[]] w (TxQs w l):=by
 have Hn:=iH h.len;have H:=iH h;have hs:=h.small;clear h;obtain⟨A,n,c⟩:=s;dsimp only at Hn hs⊢;rcases Nat.eq_zero_or_pos n with hz|hz
 ·subst hz;have hl0:l=[]:=List.eq_nil_of_length_eq_zero Hn.out.symm;subst hl0;clear H Hn;go_enter Tryz.func311,Tryz.ntmps311;go_wp2;go_ret;exact⟨⟨none,0,0⟩,[],rfl,.inl rfl,rfl,Cp.nil,Below.refl _ _⟩
 have ez:((n:Int) == 0)=false:=by simp;omega
 have mk:=fun W=>make_tx n (by omega) W
 have hG0:=Bk.new w 93 ((List.replicate n tx0).flatMap TxM.cells);have HG0:=iH hG0;have HX0:=iH ((Below.refl w.heap.size w).alloc (Nat.le_refl _) (.cells ((List.replicate n tx0).flatMap TxM.cells).toArray 93));clear hG0;go_enter Tryz.func311,Tryz.ntmps311;go_wp2_with fail;obtain⟨g,hg⟩:∃g,w.heap.size=g:=⟨_,rfl⟩;have hge:w.heap.size<=g:=by omega
 generalize w.alloc (.cells ((List.replicate n tx0).flatMap TxM.cells).toArray 93)=W0 at HG0 HX0⊢;rw[hg]at HG0;(try rw[hg]);clear mk ez;go_loopw [16] (fun i wr=>∃(k:Nat) (l':List TxM),k<=n∧i=.int .i64 k∧Bk wr g 93 ((l' ++ List.replicate (n-k) tx0).flatMap TxM.cells)∧Cp TxC txS wr w.heap.size (l.take k) l'∧Below w.heap.size w wr) (fun i _=>n-(intOf i).toNat)
 case atStart=>exact⟨0,[],Nat.zero_le _,rfl,by simpa using HG0.out,Cp.nil,HX0.out⟩
 case round =>
  obtain⟨k,l',hk,rfl,hG,hC,hb⟩:=hrel;have HG:=iH hG;have HC:=iH hC;have HX:=iH hb;clear hG hC hb HG0 HX0;by_cases hlt:k<n
  ·have hkl:k<l.length:=by have:=Hn.out;omega
   obtain⟨b,off,rfl,hbb,c0,c1⟩:=(H.out.below HX.out).at_ k hkl;have Hl:Hid (l'.length=k):=by
    show l'.length=k;have:=HC.out.1;rw[List.length_take]at this;omega
   have hsn:∀(W:World) (x':TxM),Cp TxC txS W w.heap.size (l.take k) l'->TxC W w.heap.size l[k] x'->(∀y'∈l',∀s∈txS y',∀s2∈txS x',Apart s s2)->Cp TxC txS W w.heap.size (l.take (k+1)) (l' ++ [x']) :=
    fun W x' h1 h ha=>h1.snoc hkl h (by simp[txS]) ha
   have HS:=iH hsn;have x2:=HX.out.alloc HX.out.size (.cells #[.string l[k].name,.slice l[k].sb.A l[k].sb.n l[k].sb.c] 93);have HX2:=iH x2;have hok:l[k].Ok _:=(H.out.below HX2.out).each l[k] (List.getElem_mem hkl);have K:=iH (copy_tx l[k] hok);have HA:=iH (fun s (hs:∃y'∈l',s∈txS y')=>(by obtain⟨y',hy,hys⟩:=hs;obtain⟨x,hx⟩:=HC.out.mem hy;exact hx.at_ s hys:InB wr w.heap.size s));have b2:=(Below.refl wr.heap.size wr).alloc (Nat.le_refl _) (.cells #[.string l[k].name,.slice l[k].sb.A l[k].sb.n l[k].sb.c] 93);have HG2:=iH (HG.out.below b2 HG.out.lt);have HC2:=iH (HC.out.to fun _ _ h=>h.below b2);have hw2:wr.heap.size<=(wr.alloc (.cells #[.string l[k].name,.slice l[k].sb.A l[k].sb.n l[k].sb.c] 93)).heap.size:=b2.size;have HW2:=iH hw2;have hgw:=HG.out.lt;have hww:=HX.out.size;clear hsn x2 hok b2 HC HG hw2;generalize l[k]=t at *;clear hkl;have k0:(0:Int)<=(k:Int):=by omega
   have k1:(k:Int)<(n:Int):=by omega
   go_wp2_with fail;generalize wr.alloc (.cells #[.string t.name,.slice t.sb.A t.sb.n t.sb.c] 93)=W2 at HX2 K HG2 HC2 HW2⊢;(with_reducible refine K.out.mono ?_);rintro e w1 ⟨t',rfl,hc,hb1⟩;have hw3:=HX2.out.size;have HX3:=iH (HX2.out.trans (hb1.mono hw3));have HG3:=iH (HG2.out.below hb1 HG2.out.lt);have HC3:=iH (HC2.out.to fun _ _ h=>h.below hb1);have HT:=iH (hc.mono hw3);have HA3:Hid (∀y'∈l',∀s∈txS y',∀s2∈txS t',Apart s s2):=by
    show ∀y'∈l',∀s∈txS y',∀s2∈txS t',Apart s s2;intro y' hy s hs s2 hs2;exact apart_in (HA.out s ⟨y',hy,hs⟩) (hc.at_ s2 hs2) HW2.out
   clear hc hb1 K HX2 HG2 HC2 HX HA HW2;have HF:Hid (Bk ((w1.setCell ⟨g,k*2,none⟩ (.string t'.name)).setCell ⟨g,k*2+1,none⟩ (.slice t'.sb.A t'.sb.n t'.sb.c)) g 93 (((l' ++ [t']) ++ List.replicate (n-(k+1)) tx0).flatMap TxM.cells)∧Cp TxC txS ((w1.setCell ⟨g,k*2,none⟩ (.string t'.name)).setCell ⟨g,k*2+1,none⟩ (.slice t'.sb.A t'.sb.n t'.sb.c)) w.heap.size (l.take (k+1)) (l' ++ [t'])∧Below w.heap.size w ((w1.setCell ⟨g,k*2,none⟩ (.string t'.name)).setCell ⟨g,k*2+1,none⟩ (.slice t'.sb.A t'.sb.n t'.sb.c))):=by
    show _∧_∧_;refine⟨?_,?_,((HX3.out.setCell (p:=⟨g,k*2,none⟩) hge (.string t'.name)).setCell (p:=⟨g,k*2+1,none⟩) hge (.slice t'.sb.A t'.sb.n t'.sb.c))⟩
    ·rw[<- mid_set l' tx0 t' Hl.out hlt,tx_set _ _ _ (by rw[List.length_append,List.length_replicate,Hl.out];omega)];exact((HG3.out.set (k*2) (.string t'.name)).set (k*2+1) (.slice t'.sb.A t'.sb.n t'.sb.c))
    ·refine HS.out _ _ ?_ ?_ HA3.out
     ·exact Cp.to (Cp.to (HC3.out) (fun _ _ h=>h.kept (HG3.out))) (fun _ _ h=>h.kept ((HG3.out.set (k*2) (.string t'.name))))
     ·exact((HT.out.kept (HG3.out)).kept ((HG3.out.set (k*2) (.string t'.name))))
   clear HX3 HC3 HT HA3 HS hw3;have e0:w1.cell? ⟨g,k*2,none⟩=some (.string ⟨#[]⟩):=(HG3.out.cell (k*2)).trans (mid_get (r:=0) TxM.len l' tx0 Hl.out hlt (by omega));have z0:=HG3.out.frozen (k*2);have e1:w1.cell? ⟨g,k*2+1,none⟩=some (.slice none 0 0):=(HG3.out.cell (k*2+1)).trans (mid_get (r:=1) TxM.len l' tx0 Hl.out hlt (by omega));have z1:=HG3.out.frozen (k*2+1);have gl:=HG3.out.lt;go_wp2_with fail;go_roundw
   case rel=>exact⟨k+1,l' ++ [t'],by omega,by go_num,HF.out.1,HF.out.2.1,HF.out.2.2⟩
   case measure=>simp[intOf];omega
  ·obtain rfl:n=k:=by omega
   have HC1:Hid (Cp TxC txS wr w.heap.size l l'):=by
    have h:=HC.out;rw[Hn.out,List.take_length]at h;exact iH h
   have HG1:Hid (Bk wr g 93 (l'.flatMap TxM.cells)):=by
    have h:=HG.out;rw[Nat.sub_self,List.replicate_zero,List.append_nil]at h;exact iH h
   clear HC HG;go_wp2;go_ret;exact⟨⟨some ⟨g,0,none⟩,n,n⟩,l',rfl,trow_bk HG1.out,by rw[HC1.out.1];exact Hn.out,HC1.out,HX.out⟩
def TbQ (w:World) (r:TbM) (e:Ending) (w':World):Prop:=∃r',e=.returned r'.val∧TbC w' w.heap.size r r'∧Below w.heap.size w w'
theorem info107e:(Tryz.prog.info? 173).map (fun i=>(i.zero,i.size,i.bytes))=some (some (.agg #[.string ⟨#[]⟩,.slice none 0 0]),2,40):=by kernel_rfl
theorem make_tb (n:Nat) (hn:n<=1000000) (W:World) :
 (Instr.makeSlice 25 (.int .i64 (n:Int)) (.int .i64 (n:Int))).run Tryz.prog W=.ok (.slice (some ⟨W.heap.size,0,none⟩) n n) (W.alloc (.cells ((List.replicate n tb0).flatMap TbM.cells).toArray 173)):=by
 obtain⟨i,hi,hz0,hz1,hz2⟩:=info_parts info107e;have h:=run_make (P:=Tryz.prog) W 25 173 i (.agg #[.string ⟨#[]⟩,.slice none 0 0]) Tryz.underlying25 hi hz0 .i64 .i64 n n (by omega) (by omega) (by rw[hz2];omega) (by omega);rw[hz1]at h;simp only[Int.toNat_natCast]at h;rw[made_rep _ TbM.cells TbM.len (by omega) tb0 (by rfl) n]at h;exact h
theorem tb_set (l:List TbM) (k:Nat) (t:TbM) (h:k<l.length):(l.set k t).flatMap TbM.cells=(((l.flatMap TbM.cells).set (k*2) (.string t.name)).set (k*2+1) (.slice t.sr.A t.sr.n t.sr.c)):=by
 induction l generalizing k with
 | nil=>simp at h
 | cons a l ih =>
   cases k with
   | zero=>simp
   | succ k =>
     have:=ih k (by simpa using h);have e:(k+1)*2=k*2+1+1:=by omega
     simp only[List.set_cons_succ,List.flatMap_cons]at this⊢;rw[this,e];simp[TbM.cells,List.set_cons_succ]
theorem TbC.kept {W:World} {base g k:Nat} {u:Value} {xs:List Value} {r r':TbM} (h:TbC W base r r') (hB:Bk W g 173 xs):TbC (W.setCell ⟨g,k,none⟩ u) base r r' :=
 ⟨h.name,h.row.keep (Keep.setCell hB (by decide) u),h.len,h.rows.to fun _ _ k=>⟨k.same,bk_keeps hB (by decide) k.give⟩⟩
theorem copy_tb {w:World} (r:TbM) (hok:r.Ok w):Calls Tryz.prog 310 #[r.val] w (TbQ w r):=by
 have X0:Below w.heap.size w ((w.alloc (.cells #[.string r.name,.slice r.sr.A r.sr.n r.sr.c] 173)).alloc (.cells #[.string ⟨#[]⟩,.slice none 0 0] 173)):=((Below.refl _ _).alloc (Nat.le_refl _) _).alloc (by simp) _;have hB0:Bk ((w.alloc (.cells #[.string r.name,.slice r.sr.A r.sr.n r.sr.c] 173)).alloc (.cells #[.string ⟨#[]⟩,.slice none 0 0] 173)) w.heap.size 173 [.string r.name,.slice r.sr.A r.sr.n r.sr.c]:=(Bk.new w 173 [.string r.name,.slice r.sr.A r.sr.n r.sr.c]).alloc _;have hR0:=Bk.new (w.alloc (.cells #[.string r.name,.slice r.sr.A r.sr.n r.sr.c] 173)) 173 [.string ⟨#[]⟩,.slice none 0 0];rw[World.size_alloc]at hR0;have HB:=iH hB0;have HR:=iH hR0;have HX:=iH X0;have K:=iH (each_rw (s:=r.sr) (hok.rows.below X0));clear hB0 hR0 X0;go_enter Tryz.func310,Tryz.ntmps310;go_wp2_with fail;obtain⟨bx,hbx⟩:∃bx,w.heap.size=bx:=⟨_,rfl⟩;generalize(w.alloc (.cells #[.string r.name,.slice r.sr.A r.sr.n r.sr.c] 173)).alloc (.cells #[.string ⟨#[]⟩,.slice none 0 0] 173)=W0 at HB HR HX K⊢;have hbr:w.heap.size+1=bx+1:=by rw[hbx]
 rw[hbx]at HB;rw[hbr]at HR;(try rw[hbr]);(try rw[hbx]);clear hbr;(with_reducible refine K.out.mono ?_);rintro e w3 ⟨s1,rows1,rfl,hrow1,hlen1,ho1,hb1⟩;have hc1:TbC w3 W0.heap.size r ⟨r.name,rows1,s1⟩:=⟨rfl,hrow1,hlen1,ho1⟩;have HX3:=iH (HX.out.trans (hb1.mono HX.out.size));have HB3:=iH (HB.out.below hb1 HB.out.lt);have HR2:=iH (HR.out.below hb1 HR.out.lt);have HO1:=iH (hc1.mono HX.out.size);have hw1:w.heap.size<=W0.heap.size:=HX.out.size;clear ho1 hc1 hrow1 hlen1 hb1 K HB HR HX;have e0:=HB3.out.k0;have e1:=HB3.out.k1;have g1:w3.frozen? ⟨bx,1,none⟩=false:=HB3.out.frozen 1;have el:=HB3.out.lt;have Q1:Hid (Bk (w3.setCell ⟨bx,1,none⟩ (.slice s1.A s1.n s1.c)) bx 173 [.string r.name,.slice s1.A s1.n s1.c]):=HB3.out.set 1 _;have HX4:=iH (HX3.out.setCell (p:=⟨bx,1,none⟩) (by simp;omega) (.slice s1.A s1.n s1.c));have HR3:=iH (HR2.out.far (p:=⟨bx,1,none⟩) (by simp) (.slice s1.A s1.n s1.c));have HO1':=iH (HO1.out.kept (k:=1) (u:=.slice s1.A s1.n s1.c) HB3.out);clear HR2 HO1 HX3;go_upto_region 2 with fail;clear e0 e1 g1 el HB3;obtain⟨Z3,hZ⟩:∃Z3,w3.setCell ⟨bx,1,none⟩ (.slice s1.A s1.n s1.c)=Z3:=⟨_,rfl⟩;rw[hZ]at Q1 HX4 HR3 HO1'⊢;clear hZ;have c0:=Q1.out.k0;have c1:=Q1.out.k1;have d0:=HR3.out.k0;have f0:Z3.frozen? ⟨bx+1,0,none⟩=false:=HR3.out.frozen 0;have d1:=HR3.out.k1;have f1:Z3.frozen? ⟨bx+1,1,none⟩=false:=HR3.out.frozen 1;have l1:=Q1.out.lt;have l2:=HR3.out.lt;go_wp2_with fail;have k9:Bk ((Z3.setCell ⟨bx+1,0,none⟩ (.string r.name)).setCell ⟨bx+1,1,none⟩ (.slice s1.A s1.n s1.c)) (bx+1) 173 [.string r.name,.slice s1.A s1.n s1.c]:=((HR3.out.set 0 (.string r.name)).set 1 (.slice s1.A s1.n s1.c));have r0:=k9.cell 0;have r1:=k9.cell 1;refine bodyPost_ret (v:=.agg #[.string r.name,.slice s1.A s1.n s1.c]) (by simp[results,Tryz.results310,go_sem,r0,r1]) rfl ?_;exact⟨⟨r.name,rows1,s1⟩,rfl,(HO1'.out.kept HR3.out).kept (HR3.out.set 0 (.string r.name)),((HX4.out.setCell (p:=⟨bx+1,0,none⟩) (by simp;omega) (.string r.name)).setCell (p:=⟨bx+1,1,none⟩) (by simp;omega) (.slice s1.A s1.n s1.c))⟩
def TbQs (w:World) (l:List TbM) (e:Ending) (w':World):Prop:=∃(s:Sl) (l':List TbM),e=.returned (.slice s.A s.n s.c)∧TRow w' 173 s.A (l'.flatMap TbM.cells)∧s.n=l'.length∧Cp TbC tbS w' w.heap.size l l'∧Below w.heap.size w w'
theorem each_tb {w:World} {s:Sl} {l:List TbM} (h:TablesV w s l):Calls Tryz.prog 309 #[.slice s.A s.n s.c,.func (.func 310) #[] #[]] w (TbQs w l):=by
 have Hn:=iH h.len;have H:=iH h;have hs:=h.small;clear h;obtain⟨A,n,c⟩:=s;dsimp only at Hn hs⊢;rcases Nat.eq_zero_or_pos n with hz|hz
 ·subst hz;have hl0:l=[]:=List.eq_nil_of_length_eq_zero Hn.out.symm;subst hl0;clear H Hn;go_enter Tryz.func309,Tryz.ntmps309;go_wp2;go_ret;exact⟨⟨none,0,0⟩,[],rfl,.inl rfl,rfl,Cp.nil,Below.refl _ _⟩
 have ez:((n:Int) == 0)=false:=by simp;omega
 have mk:=fun W=>make_tb n (by omega) W
 have hG0:=Bk.new w 173 ((List.replicate n tb0).flatMap TbM.cells);have HG0:=iH hG0;have HX0:=iH ((Below.refl w.heap.size w).alloc (Nat.le_refl _) (.cells ((List.replicate n tb0).flatMap TbM.cells).toArray 173));clear hG0;go_enter Tryz.func309,Tryz.ntmps309;go_wp2_with fail;obtain⟨g,hg⟩:∃g,w.heap.size=g:=⟨_,rfl⟩;have hge:w.heap.size<=g:=by omega
 generalize w.alloc (.cells ((List.replicate n tb0).flatMap TbM.cells).toArray 173)=W0 at HG0 HX0⊢;rw[hg]at HG0;(try rw[hg]);clear mk ez;go_loopw [16] (fun i wr=>∃(k:Nat) (l':List TbM),k<=n∧i=.int .i64 k∧Bk wr g 173 ((l' ++ List.replicate (n-k) tb0).flatMap TbM.cells)∧Cp TbC tbS wr w.heap.size (l.take k) l'∧Below w.heap.size w wr) (fun i _=>n-(intOf i).toNat)
 case atStart=>exact⟨0,[],Nat.zero_le _,rfl,by simpa using HG0.out,Cp.nil,HX0.out⟩
 case round =>
  obtain⟨k,l',hk,rfl,hG,hC,hb⟩:=hrel;have HG:=iH hG;have HC:=iH hC;have HX:=iH hb;clear hG hC hb HG0 HX0;by_cases hlt:k<n
  ·have hkl:k<l.length:=by have:=Hn.out;omega
   obtain⟨b,off,rfl,hbb,c0,c1⟩:=(H.out.below HX.out).at_ k hkl;have Hl:Hid (l'.length=k):=by
    show l'.length=k;have:=HC.out.1;rw[List.length_take]at this;omega
   have hsn:∀(W:World) (x':TbM),Cp TbC tbS W w.heap.size (l.take k) l'->TbC W w.heap.size l[k] x'->(∀y'∈l',∀s∈tbS y',∀s2∈tbS x',Apart s s2)->Cp TbC tbS W w.heap.size (l.take (k+1)) (l' ++ [x']) :=
    fun W x' h1 h ha=>h1.snoc hkl h (h.rows.2.2) ha
   have HS:=iH hsn;have x2:=HX.out.alloc HX.out.size (.cells #[.string l[k].name,.slice l[k].sr.A l[k].sr.n l[k].sr.c] 173);have HX2:=iH x2;have hok:l[k].Ok _:=(H.out.below HX2.out).each l[k] (List.getElem_mem hkl);have K:=iH (copy_tb l[k] hok);have HA:=iH (fun s (hs:∃y'∈l',s∈tbS y')=>(by obtain⟨y',hy,hys⟩:=hs;obtain⟨x,hx⟩:=HC.out.mem hy;exact hx.at_ s hys:InB wr w.heap.size s));have b2:=(Below.refl wr.heap.size wr).alloc (Nat.le_refl _) (.cells #[.string l[k].name,.slice l[k].sr.A l[k].sr.n l[k].sr.c] 173);have HG2:=iH (HG.out.below b2 HG.out.lt);have HC2:=iH (HC.out.to fun _ _ h=>h.below b2);have hw2:wr.heap.size<=(wr.alloc (.cells #[.string l[k].name,.slice l[k].sr.A l[k].sr.n l[k].sr.c] 173)).heap.size:=b2.size;have HW2:=iH hw2;have hgw:=HG.out.lt;have hww:=HX.out.size;clear hsn x2 hok b2 HC HG hw2;generalize l[k]=t at *;clear hkl;have k0:(0:Int)<=(k:Int):=by omega
   have k1:(k:Int)<(n:Int):=by omega
   go_wp2_with fail;generalize wr.alloc (.cells #[.string t.name,.slice t.sr.A t.sr.n t.sr.c] 173)=W2 at HX2 K HG2 HC2 HW2⊢;(with_reducible refine K.out.mono ?_);rintro e w1 ⟨t',rfl,hc,hb1⟩;have hw3:=HX2.out.size;have HX3:=iH (HX2.out.trans (hb1.mono hw3));have HG3:=iH (HG2.out.below hb1 HG2.out.lt);have HC3:=iH (HC2.out.to fun _ _ h=>h.below hb1);have HT:=iH (hc.mono hw3);have HA3:Hid (∀y'∈l',∀s∈tbS y',∀s2∈tbS t',Apart s s2):=by
    show ∀y'∈l',∀s∈tbS y',∀s2∈tbS t',Apart s s2;intro y' hy s hs s2 hs2;exact apart_in (HA.out s ⟨y',hy,hs⟩) (hc.at_ s2 hs2) HW2.out
   clear hc hb1 K HX2 HG2 HC2 HX HA HW2;have HF:Hid (Bk ((w1.setCell ⟨g,k*2,none⟩ (.string t'.name)).setCell ⟨g,k*2+1,none⟩ (.slice t'.sr.A t'.sr.n t'.sr.c)) g 173 (((l' ++ [t']) ++ List.replicate (n-(k+1)) tb0).flatMap TbM.cells)∧Cp TbC tbS ((w1.setCell ⟨g,k*2,none⟩ (.string t'.name)).setCell ⟨g,k*2+1,none⟩ (.slice t'.sr.A t'.sr.n t'.sr.c)) w.heap.size (l.take (k+1)) (l' ++ [t'])∧Below w.heap.size w ((w1.setCell ⟨g,k*2,none⟩ (.string t'.name)).setCell ⟨g,k*2+1,none⟩ (.slice t'.sr.A t'.sr.n t'.sr.c))):=by
    show _∧_∧_;refine⟨?_,?_,((HX3.out.setCell (p:=⟨g,k*2,none⟩) hge (.string t'.name)).setCell (p:=⟨g,k*2+1,none⟩) hge (.slice t'.sr.A t'.sr.n t'.sr.c))⟩
    ·rw[<- mid_set l' tb0 t' Hl.out hlt,tb_set _ _ _ (by rw[List.length_append,List.length_replicate,Hl.out];omega)];exact((HG3.out.set (k*2) (.string t'.name)).set (k*2+1) (.slice t'.sr.A t'.sr.n t'.sr.c))
    ·refine HS.out _ _ ?_ ?_ HA3.out
     ·exact Cp.to (Cp.to (HC3.out) (fun _ _ h=>h.kept (HG3.out))) (fun _ _ h=>h.kept ((HG3.out.set (k*2) (.string t'.name))))
     ·exact((HT.out.kept (HG3.out)).kept ((HG3.out.set (k*2) (.string t'.name))))
   clear HX3 HC3 HT HA3 HS hw3;have e0:w1.cell? ⟨g,k*2,none⟩=some (.string ⟨#[]⟩):=(HG3.out.cell (k*2)).trans (mid_get (r:=0) TbM.len l' tb0 Hl.out hlt (by omega));have z0:=HG3.out.frozen (k*2);have e1:w1.cell? ⟨g,k*2+1,none⟩=some (.slice none 0 0):=(HG3.out.cell (k*2+1)).trans (mid_get (r:=1) TbM.len l' tb0 Hl.out hlt (by omega));have z1:=HG3.out.frozen (k*2+1);have gl:=HG3.out.lt;go_wp2_with fail;go_roundw
   case rel=>exact⟨k+1,l' ++ [t'],by omega,by go_num,HF.out.1,HF.out.2.1,HF.out.2.2⟩
   case measure=>simp[intOf];omega
  ·obtain rfl:n=k:=by omega
   have HC1:Hid (Cp TbC tbS wr w.heap.size l l'):=by
    have h:=HC.out;rw[Hn.out,List.take_length]at h;exact iH h
   have HG1:Hid (Bk wr g 173 (l'.flatMap TbM.cells)):=by
    have h:=HG.out;rw[Nat.sub_self,List.replicate_zero,List.append_nil]at h;exact iH h
   clear HC HG;go_wp2;go_ret;exact⟨⟨some ⟨g,0,none⟩,n,n⟩,l',rfl,trow_bk HG1.out,by rw[HC1.out.1];exact Hn.out,HC1.out,HX.out⟩
end
def ItQ (w:World) (l:List It) (e:Ending) (w':World):Prop:=∃s:Sl,e=.returned (.slice s.A s.n s.c)∧w'.ownsRow w.heap.size 42 7 (.slice s.A s.n s.c) s.n (icells l)∧s.n=l.length∧Below w.heap.size w w'
theorem info89h:(Tryz.prog.info? 42).map (fun i=>(i.zero,i.size,i.bytes))=some (some (.agg #[.string ⟨#[]⟩,.bool false,.bool false,.bool false,.int .i64 0,.int .i64 0,.int .i64 0]),7,48):=by kernel_rfl
theorem icells_oneg (l:List It):∀u∈icells l,u.oneCell'=true:=by
 intro u hu;simp only[icells,List.mem_flatMap,List.mem_cons,List.not_mem_nil,or_false]at hu;obtain⟨t,_,h|h|h|h|h|h|h⟩:=hu <;> (subst h;rfl)
theorem clone_its {w:World} {s:Sl} {l:List It} (h:ItsV w s l):Calls Tryz.prog 67 #[.slice s.A s.n s.c] w (ItQ w l):=by
 obtain⟨i0,hi,hz0,hz1,hz2⟩:=info_parts info89h;obtain⟨A,n,c⟩:=s;have hlen:n=l.length:=h.len;have Hn:=iH hlen;have hsm:n<=100000:=h.small;cases A with
 | none =>
   have hnil:∀W:World,(binOp .eql 23 (.slice none n c) (.slice none 0 0)).run Tryz.prog W=.ok (.bool true) W:=fun W=>by kernel_rfl
   have hl0:l=[]:=by
    rcases h.row with h1|⟨b,off,cur,fl,hA,_⟩
    ·cases l with
     | nil=>rfl
     | cons p l=>simp[It.cells]at h1
    ·cases hA
   subst hl0;clear h hlen Hn;go_enter Tryz.func67,Tryz.ntmps67;go_wp2;go_ret;exact⟨⟨none,0,0⟩,rfl,⟨rfl,.inl ⟨rfl,rfl⟩⟩,rfl,Below.refl _ _⟩
 | some a =>
   have hnil:∀W:World,(binOp .eql 23 (.slice (some a) n c) (.slice none 0 0)).run Tryz.prog W=.ok (.bool false) W:=fun W=>by kernel_rfl
   have hown:(w.alloc (.cells #[] 42)).ownsRow w.heap.size 42 7 (.slice (some ⟨w.heap.size,0,none⟩) 0 0) 0 [] :=
    ⟨rfl,.inr ⟨w.heap.size,0,_,rfl,Nat.le_refl _,heap_alloc_new w _,by omega,by unfold maxLen;omega,rfl,rfl⟩⟩
   have HO:=iH hown;have HL:Hid ((icells l).length=n*7):=by show _=_;rw[icells_length];omega
   have hcells:∀j u,(icells l)[j]? = some u->(w.alloc (.cells #[] 42)).cell? (a.add j)=some u:=by
    intro j u hj;have hjl:=(List.getElem?_eq_some_iff.1 hj).1;obtain⟨b,off,e,hb,hc⟩:=h.row.row.at_ j hjl;cases e;have e1:(⟨b,off,none⟩:Addr).add j=⟨b,off+j,none⟩:=by
     unfold Addr.add;split
     ·subst_vars;rfl
     ·rfl
    rw[e1,World.cell?_alloc_past _ _ _ hb];exact hc j u hj
   have HC:=iH hcells;clear hown hcells h hlen;go_enter Tryz.func67,Tryz.ntmps67;go_wp2_with(at_builtin;refine wpList_append_own_at _ rfl _ _ 23 rfl w.heap.size 42 i0 (.agg #[.string ⟨#[]⟩,.bool false,.bool false,.bool false,.int .i64 0,.int .i64 0,.int .i64 0]) 7 48 Tryz.underlying23 hi hz0 hz1 hz2 rfl (by decide) _ 0 [] rfl HO.out a n c (icells l) rfl HL.out HC.out (icells_oneg l) ?c3a ?c4a (by simp) ?_)
   case c3a=>unfold maxLen;omega
   case c4a=>omega
   intro v' w1 hown' hgrow _ _;have HO':=iH hown';have hb1:Below w.heap.size w w1:=((Below.refl _ w).alloc (Nat.le_refl _) _).grown hgrow (by simp) (fun k e=>by cases e;exact Nat.le_refl _);obtain⟨A1,c1,hv,_⟩:=row_of_owns hown';subst hv;clear hown' hgrow;go_wp2;go_ret;exact⟨⟨A1,n,c1⟩,by simp,by simpa using HO'.out,Hn.out,hb1⟩
structure CatC (W : World) (base : Nat) (m m' : CatM) : Prop where
 items:m'.items=m.items
 oi:W.ownsRow base 42 7 (.slice m'.si.A m'.si.n m'.si.c) m'.si.n (icells m'.items)
 ni:m'.si.n=m'.items.length
 rrow:TRow W 149 m'.sr.A (m'.rules.flatMap RuM.cells)
 nr:m'.sr.n=m'.rules.length
 rules:Cp RuC ruS W base m.rules m'.rules
 trow:TRow W 173 m'.st.A (m'.tables.flatMap TbM.cells)
 nt:m'.st.n=m'.tables.length
 tables:Cp TbC tbS W base m.tables m'.tables
 xrow:TRow W 93 m'.sx.A (m'.taxes.flatMap TxM.cells)
 nx:m'.sx.n=m'.taxes.length
 taxes:Cp TxC txS W base m.taxes m'.taxes
 ap:∀s∈m'.rules.flatMap ruS,∀s2∈m'.tables.flatMap tbS,Apart s s2
theorem CatC.below {W W':World} {base:Nat} {m m':CatM} (h:CatC W base m m') (hb:Below W.heap.size W W'):CatC W' base m m' :=
 ⟨h.items,h.oi.kept (grown_of_below hb none) (by cases(Value.slice m'.si.A m'.si.n m'.si.c).ownBlock <;> simp),h.ni,h.rrow.keep (.below hb),h.nr,h.rules.to fun _ _ k=>k.below hb,h.trow.keep (.below hb),h.nt,h.tables.to fun _ _ k=>k.below hb,h.xrow.keep (.below hb),h.nx,h.taxes.to fun _ _ k=>k.below hb,h.ap⟩
theorem Cp.from {α:Type} {C:World->Nat->α->α->Prop} {sls:α->List Sl} {W:World} {base:Nat} {l l':List α} (h:Cp C sls W base l l') {y:α} (hy:y∈l'):∃x∈l,C W base x y:=by
 obtain⟨i,hi,rfl⟩:=List.getElem_of_mem hy;have:i<l.length:=by have:=h.1;omega
 exact⟨l[i],List.getElem_mem this,h.2.1 i _ _ (List.getElem?_eq_getElem this) (List.getElem?_eq_getElem hi)⟩
theorem CatC.ok {W w:World} {base:Nat} {m m':CatM} (h:CatC W base m m') (hm:m.Ok w):m'.Ok W:=by
 refine⟨⟨TRow.of_own h.oi,h.ni,by rw[h.ni,h.items,<- hm.items.len];exact hm.items.small,by rw[h.items];exact hm.items.each⟩,
  ⟨h.rrow,h.nr,by rw[h.nr,h.rules.1,<- hm.rules.len];exact hm.rules.small,fun r' hr=>?_⟩,
  ⟨h.trow,h.nt,by rw[h.nt,h.tables.1,<- hm.tables.len];exact hm.tables.small,fun r' hr=>?_⟩,
  ⟨h.xrow,h.nx,by rw[h.nx,h.taxes.1,<- hm.taxes.len];exact hm.taxes.small,fun r' hr=>?_⟩⟩
 ·obtain⟨r,hr,hc⟩:=h.rules.from hr;exact⟨hc.take.prV,hc.give.prV,hc.back.prV,by rw[hc.same];exact(hm.rules.each r hr).name⟩
 ·obtain⟨t,ht,hc⟩:=h.tables.from hr;refine⟨⟨hc.row,hc.len,by rw[hc.len,hc.rows.1,<- (hm.tables.each t ht).rows.len];exact(hm.tables.each t ht).rows.small,fun r' hr=>?_⟩,by rw[hc.name];exact(hm.tables.each t ht).name⟩;obtain⟨r,_,hc⟩:=hc.rows.from hr;exact hc.give.prV
 ·obtain⟨r,hr,hc⟩:=h.taxes.from hr;exact⟨hc.brs.prV,by rw[hc.same];exact(hm.taxes.each r hr).name⟩
def CatQ (w:World) (m:CatM) (e:Ending) (w':World):Prop:=∃m':CatM,e=.returned m'.val∧CatC w' w.heap.size m m'∧Below w.heap.size w w'
theorem Cp.kept28 {W:World} {base g k:Nat} {u:Value} {xs:List Value} {l l':List RuM} (h:Cp RuC ruS W base l l') (hB:Bk W g 28 xs):Cp RuC ruS (W.setCell ⟨g,k,none⟩ u) base l l' :=
 h.to fun _ _ c=>⟨c.same,bk_keeps hB (by decide) c.take,bk_keeps hB (by decide) c.give,bk_keeps hB (by decide) c.back,c.ap⟩
theorem CatC.set28 {W:World} {base g k:Nat} {u:Value} {xs:List Value} {m m':CatM} (h:CatC W base m m') (hB:Bk W g 28 xs):CatC (W.setCell ⟨g,k,none⟩ u) base m m' :=
 ⟨h.items,h.oi.kept (grown_setCell W g k u) (.inr (row_neP h.oi hB (by decide))),h.ni,h.rrow.keep (Keep.setCell hB (by decide) u),h.nr,h.rules.kept28 hB,h.trow.keep (Keep.setCell hB (by decide) u),h.nt,
  h.tables.to fun _ _ c=>⟨c.name,c.row.keep (Keep.setCell hB (by decide) u),c.len,c.rows.to fun _ _ d=>⟨d.same,bk_keeps hB (by decide) d.give⟩⟩,h.xrow.keep (Keep.setCell hB (by decide) u),h.nx,h.taxes.to fun _ _ c=>⟨c.same,bk_keeps hB (by decide) c.brs⟩,h.ap⟩
theorem CatC.mono {W:World} {b0 base:Nat} {m m':CatM} (h:CatC W base m m') (hb:b0<=base):CatC W b0 m m' :=
 ⟨h.items,⟨h.oi.1,h.oi.2.imp id fun⟨g,cap,cur,h1,h2,h3⟩=>⟨g,cap,cur,h1,by omega,h3⟩⟩,h.ni,h.rrow,h.nr,h.rules.to fun _ _ k=>k.mono hb,h.trow,h.nt,h.tables.to fun _ _ k=>k.mono hb,h.xrow,h.nx,h.taxes.to fun _ _ k=>k.mono hb,h.ap⟩
theorem CatC.own_mono {W:World} {b0 base e size n:Nat} {v:Value} {xs:List Value} (h:W.ownsRow base e size v n xs) (hb:b0<=base):W.ownsRow b0 e size v n xs:=⟨h.1,h.2.imp id fun⟨g,cap,cur,h1,h2,h3⟩=>⟨g,cap,cur,h1,by omega,h3⟩⟩
theorem copy_cat {w:World} (m:CatM) (hok:m.Ok w):Calls Tryz.prog 206 #[m.val] w (CatQ w m):=by
 have X0:Below w.heap.size w ((w.alloc (.cells #[.slice m.si.A m.si.n m.si.c,.slice m.sr.A m.sr.n m.sr.c,.slice m.st.A m.st.n m.st.c,.slice m.sx.A m.sx.n m.sx.c] 28)).alloc (.cells #[.slice none 0 0,.slice none 0 0,.slice none 0 0,.slice none 0 0] 28)):=((Below.refl _ _).alloc (Nat.le_refl _) _).alloc (by simp) _;have hB0:Bk ((w.alloc (.cells #[.slice m.si.A m.si.n m.si.c,.slice m.sr.A m.sr.n m.sr.c,.slice m.st.A m.st.n m.st.c,.slice m.sx.A m.sx.n m.sx.c] 28)).alloc (.cells #[.slice none 0 0,.slice none 0 0,.slice none 0 0,.slice none 0 0] 28)) w.heap.size 28 [.slice m.si.A m.si.n m.si.c,.slice m.sr.A m.sr.n m.sr.c,.slice m.st.A m.st.n m.st.c,.slice m.sx.A m.sx.n m.sx.c]:=(Bk.new w 28 [.slice m.si.A m.si.n m.si.c,.slice m.sr.A m.sr.n m.sr.c,.slice m.st.A m.st.n m.st.c,.slice m.sx.A m.sx.n m.sx.c]).alloc _;have hR0:=Bk.new (w.alloc (.cells #[.slice m.si.A m.si.n m.si.c,.slice m.sr.A m.sr.n m.sr.c,.slice m.st.A m.st.n m.st.c,.slice m.sx.A m.sx.n m.sx.c] 28)) 28 [.slice none 0 0,.slice none 0 0,.slice none 0 0,.slice none 0 0];rw[World.size_alloc]at hR0;have HB:=iH hB0;have HR:=iH hR0;have HX:=iH X0;clear hB0 hR0 X0;go_enter Tryz.func206,Tryz.ntmps206;go_upto_region 1 with fail;obtain⟨bx,hbx⟩:∃bx,w.heap.size=bx:=⟨_,rfl⟩;generalize(w.alloc (.cells #[.slice m.si.A m.si.n m.si.c,.slice m.sr.A m.sr.n m.sr.c,.slice m.st.A m.st.n m.st.c,.slice m.sx.A m.sx.n m.sx.c] 28)).alloc (.cells #[.slice none 0 0,.slice none 0 0,.slice none 0 0,.slice none 0 0] 28)=W0 at HB HR HX⊢;have HX0:Hid (Below w.heap.size w W0.drew):=iH (HX.out.drew);have hbr:w.heap.size+1=bx+1:=by rw[hbx]
 rw[hbx]at HB;rw[hbr]at HR;(try rw[hbr]);(try rw[hbx]);have HB0:Hid (Bk W0.drew bx 28 [.slice m.si.A m.si.n m.si.c,.slice m.sr.A m.sr.n m.sr.c,.slice m.st.A m.st.n m.st.c,.slice m.sx.A m.sx.n m.sx.c]):=HB.out.drew;have HR0:Hid (Bk W0.drew (bx+1) 28 [.slice none 0 0,.slice none 0 0,.slice none 0 0,.slice none 0 0]):=HR.out.drew;clear HX hbr HR;refine wp_region_X (fun w'=>Bk w' bx 28 [.slice m.si.A m.si.n m.si.c,.slice m.sr.A m.sr.n m.sr.c,.slice m.st.A m.st.n m.st.c,.slice m.sx.A m.sx.n m.sx.c]) 13 (n:=14) rfl (by kernel_rfl) (HB.out.drew) (fun hS=>?_);refine X_take 0 (some 3) (v:=?_) (listed':=#[true,false,false,false,false,false,false,false,false,false,false,false,false,false]) rfl rfl rfl (by kernel_rfl) (fun _ _ _ h=>h) ⟨rfl,?_⟩ hS ?_;rotate_left
 ·intro w' hS';(go_simp;try with_reducible rfl)
 simp only[Act.put,Pa,Pb,Pc];refine X_take 1 (some 4) (v:=?_) (listed':=#[true,true,false,false,false,false,false,false,false,false,false,false,false,false]) rfl rfl rfl (by kernel_rfl) (fun _ _ _ h=>h) ⟨rfl,?_⟩ hS ?_;rotate_left
 ·intro w' hS';have e:=hS'.k0;have el:=hS'.lt;(go_simp;try with_reducible rfl)
 simp only[Act.put,Pa,Pb,Pc];refine X_take 3 (some 6) (v:=?_) (listed':=#[true,true,false,true,false,false,false,false,false,false,false,false,false,false]) rfl rfl rfl (by kernel_rfl) (fun _ _ _ h=>h) ⟨rfl,?_⟩ hS ?_;rotate_left
 ·intro w' hS';(go_simp;try with_reducible rfl)
 simp only[Act.put,Pa,Pb,Pc];refine X_take 4 (some 7) (v:=?_) (listed':=#[true,true,false,true,true,false,false,false,false,false,false,false,false,false]) rfl rfl rfl (by kernel_rfl) (fun _ _ _ h=>h) ⟨rfl,?_⟩ hS ?_;rotate_left
 ·intro w' hS';have e:=hS'.k1;have el:=hS'.lt;(go_simp;try with_reducible rfl)
 simp only[Act.put,Pa,Pb,Pc];refine X_take 6 (some 9) (v:=?_) (listed':=#[true,true,false,true,true,false,true,false,false,false,false,false,false,false]) rfl rfl rfl (by kernel_rfl) (fun _ _ _ h=>h) ⟨rfl,?_⟩ hS ?_;rotate_left
 ·intro w' hS';(go_simp;try with_reducible rfl)
 simp only[Act.put,Pa,Pb,Pc];refine X_take 7 (some 10) (v:=?_) (listed':=#[true,true,false,true,true,false,true,true,false,false,false,false,false,false]) rfl rfl rfl (by kernel_rfl) (fun _ _ _ h=>h) ⟨rfl,?_⟩ hS ?_;rotate_left
 ·intro w' hS';have e:=hS'.k2;have el:=hS'.lt;(go_simp;try with_reducible rfl)
 simp only[Act.put,Pa,Pb,Pc];refine X_take 9 (some 12) (v:=?_) (listed':=#[true,true,false,true,true,false,true,true,false,true,false,false,false,false]) rfl rfl rfl (by kernel_rfl) (fun _ _ _ h=>h) ⟨rfl,?_⟩ hS ?_;rotate_left
 ·intro w' hS';(go_simp;try with_reducible rfl)
 simp only[Act.put,Pa,Pb,Pc];refine X_take 10 (some 13) (v:=?_) (listed':=#[true,true,false,true,true,false,true,true,false,true,true,false,false,false]) rfl rfl rfl (by kernel_rfl) (fun _ _ _ h=>h) ⟨rfl,?_⟩ hS ?_;rotate_left
 ·intro w' hS';have e:=hS'.k3;have el:=hS'.lt;(go_simp;try with_reducible rfl)
 simp only[Act.put,Pa,Pb,Pc];refine X_one 2 (listed':=#[true,true,true,true,true,false,true,true,false,true,true,false,false,false]) (by kernel_rfl) rfl rfl (fun K hK=>?_);go_simp;have K:=iH (clone_its (s:=m.si) (hok.items.below (HX0.out.trans (Below.refl _ _))));(with_reducible refine K.out.mono ?_);rintro e w1 ⟨s1,rfl,ho1,hn1,hb1⟩;have HX1:=iH (HX0.out.trans (hb1.mono HX0.out.size));have HB1:=iH (HB0.out.below hb1 HB0.out.lt);have HR1:=iH (HR0.out.below hb1 HR0.out.lt);have HI1:=iH ho1;have HN1:=iH hn1;clear ho1 hn1;refine hK _ _ HB1.out ?_;clear hK hb1 K;refine X_one 5 (listed':=#[true,true,true,true,true,true,true,true,false,true,true,false,false,false]) (by kernel_rfl) rfl rfl (fun K hK=>?_);go_simp;have K:=iH (each_ru (s:=m.sr) (hok.rules.below (HX1.out.trans (Below.refl _ _))));(with_reducible refine K.out.mono ?_);rintro e w2 ⟨s2,l2,rfl,hr2,hn2,hc2,hb2⟩;have HX2:=iH (HX1.out.trans (hb2.mono HX1.out.size));have HB2:=iH (HB1.out.below hb2 HB1.out.lt);have HR2:=iH (HR1.out.below hb2 HR1.out.lt);have HI2:=iH (HI1.out.kept (grown_of_below hb2 none) (by cases(Value.slice s1.A s1.n s1.c).ownBlock <;> simp));have HT2:=iH hr2;have HN2:=iH hn2;have HC2:=iH hc2;clear hr2 hn2 hc2 HI1;refine hK _ _ HB2.out ?_;clear hK hb2 K;refine X_one 8 (listed':=#[true,true,true,true,true,true,true,true,true,true,true,false,false,false]) (by kernel_rfl) rfl rfl (fun K hK=>?_);go_simp;have K:=iH (each_tb (s:=m.st) (hok.tables.below (HX2.out.trans (Below.refl _ _))));(with_reducible refine K.out.mono ?_);rintro e w3 ⟨s3,l3,rfl,hr3,hn3,hc3,hb3⟩;have HX3:=iH (HX2.out.trans (hb3.mono HX2.out.size));have HB3:=iH (HB2.out.below hb3 HB2.out.lt);have HR3:=iH (HR2.out.below hb3 HR2.out.lt);have HI3:=iH (HI2.out.kept (grown_of_below hb3 none) (by cases(Value.slice s1.A s1.n s1.c).ownBlock <;> simp));have HT3:=iH (HT2.out.keep (.below hb3));have HC3:=iH (HC2.out.to fun _ _ k=>RuC.below k hb3);have HU3:=iH hr3;have HN3:=iH hn3;have HD3:=iH hc3;have HAp:Hid (∀s∈l2.flatMap ruS,∀s2∈l3.flatMap tbS,Apart s s2):=by
  show ∀s∈l2.flatMap ruS,∀s2∈l3.flatMap tbS,Apart s s2;intro s hs s' hs';obtain⟨y,hy,hys⟩:=List.mem_flatMap.1 hs;obtain⟨x,hx⟩:=HC2.out.mem hy;obtain⟨y',hy',hys'⟩:=List.mem_flatMap.1 hs';obtain⟨x',hx'⟩:=HD3.out.mem hy';exact apart_in (hx.at_ s hys) (hx'.at_ s' hys') (Nat.le_refl _)
 clear hr3 hn3 hc3 HI2 HT2 HC2;refine hK _ _ HB3.out ?_;clear hK hb3 K;refine X_one 11 (listed':=#[true,true,true,true,true,true,true,true,true,true,true,true,false,false]) (by kernel_rfl) rfl rfl (fun K hK=>?_);go_simp;have K:=iH (each_tx (s:=m.sx) (hok.taxes.below (HX3.out.trans (Below.refl _ _))));(with_reducible refine K.out.mono ?_);rintro e w4 ⟨s4,l4,rfl,hr4,hn4,hc4,hb4⟩;have HX4:=iH (HX3.out.trans (hb4.mono HX3.out.size));have HB4:=iH (HB3.out.below hb4 HB3.out.lt);have HR4:=iH (HR3.out.below hb4 HR3.out.lt);have HI4:=iH (HI3.out.kept (grown_of_below hb4 none) (by cases(Value.slice s1.A s1.n s1.c).ownBlock <;> simp));have HT4:=iH (HT3.out.keep (.below hb4));have HC4:=iH (HC3.out.to fun _ _ k=>RuC.below k hb4);have HU4:=iH (HU3.out.keep (.below hb4));have HD4:=iH (HD3.out.to fun _ _ k=>TbC.below k hb4);have HV4:=iH hr4;have HN4:=iH hn4;have HE4:=iH hc4;clear hr4 hn4 hc4 HI3 HT3 HC3 HU3 HD3;refine hK _ _ HB4.out ?_;clear hK hb4 K;refine X_one 12 (listed':=#[true,true,true,true,true,true,true,true,true,true,true,true,true,false]) (by kernel_rfl) rfl rfl (fun K hK=>?_);go_simp;refine hK _ _ HB4.out ?_;clear hK;refine X_tail (by kernel_rfl) ?_;refine A_one 13 (listed':=#[true,true,true,true,true,true,true,true,true,true,true,true,true,true]) (by kernel_rfl) rfl rfl (fun K hK=>?_);have d0:=HR4.out.k0;have f0:=HR4.out.frozen 0;have d1:=HR4.out.k1;have f1:=HR4.out.frozen 1;have d2:=HR4.out.k2;have f2:=HR4.out.frozen 2;have d3:=HR4.out.k3;have f3:=HR4.out.frozen 3;have el:=HR4.out.lt;have HM:Hid (CatC w4 w.heap.size m ⟨m.items,l2,l3,l4,s1,s2,s3,s4⟩):=⟨rfl,(CatC.own_mono HI4.out HX0.out.size),HN1.out,HT4.out,HN2.out,HC4.out.to fun _ _ k=>k.mono HX1.out.size,HU4.out,HN3.out,HD4.out.to fun _ _ k=>k.mono HX2.out.size,HV4.out,HN4.out,HE4.out.to fun _ _ k=>k.mono HX3.out.size,HAp.out⟩;have HQ:Hid (CatC ((((w4.setCell ⟨bx+1,0,none⟩ (.slice s1.A s1.n s1.c)).setCell ⟨bx+1,1,none⟩ (.slice s2.A s2.n s2.c)).setCell ⟨bx+1,2,none⟩ (.slice s3.A s3.n s3.c)).setCell ⟨bx+1,3,none⟩ (.slice s4.A s4.n s4.c)) w.heap.size m ⟨m.items,l2,l3,l4,s1,s2,s3,s4⟩∧Below w.heap.size w ((((w4.setCell ⟨bx+1,0,none⟩ (.slice s1.A s1.n s1.c)).setCell ⟨bx+1,1,none⟩ (.slice s2.A s2.n s2.c)).setCell ⟨bx+1,2,none⟩ (.slice s3.A s3.n s3.c)).setCell ⟨bx+1,3,none⟩ (.slice s4.A s4.n s4.c))∧Bk ((((w4.setCell ⟨bx+1,0,none⟩ (.slice s1.A s1.n s1.c)).setCell ⟨bx+1,1,none⟩ (.slice s2.A s2.n s2.c)).setCell ⟨bx+1,2,none⟩ (.slice s3.A s3.n s3.c)).setCell ⟨bx+1,3,none⟩ (.slice s4.A s4.n s4.c)) (bx+1) 28 [.slice s1.A s1.n s1.c,.slice s2.A s2.n s2.c,.slice s3.A s3.n s3.c,.slice s4.A s4.n s4.c]):=⟨((((HM.out.set28 (k:=0) (u:=.slice s1.A s1.n s1.c) HR4.out).set28 (k:=1) (u:=.slice s2.A s2.n s2.c) (HR4.out.set 0 (.slice s1.A s1.n s1.c))).set28 (k:=2) (u:=.slice s3.A s3.n s3.c) ((HR4.out.set 0 (.slice s1.A s1.n s1.c)).set 1 (.slice s2.A s2.n s2.c))).set28 (k:=3) (u:=.slice s4.A s4.n s4.c) (((HR4.out.set 0 (.slice s1.A s1.n s1.c)).set 1 (.slice s2.A s2.n s2.c)).set 2 (.slice s3.A s3.n s3.c))),((((HX4.out.setCell (p:=⟨bx+1,0,none⟩) (by simp;omega) (.slice s1.A s1.n s1.c)).setCell (p:=⟨bx+1,1,none⟩) (by simp;omega) (.slice s2.A s2.n s2.c)).setCell (p:=⟨bx+1,2,none⟩) (by simp;omega) (.slice s3.A s3.n s3.c)).setCell (p:=⟨bx+1,3,none⟩) (by simp;omega) (.slice s4.A s4.n s4.c)),((((HR4.out.set 0 (.slice s1.A s1.n s1.c)).set 1 (.slice s2.A s2.n s2.c)).set 2 (.slice s3.A s3.n s3.c)).set 3 (.slice s4.A s4.n s4.c))⟩;clear HM HI4 HT4 HC4 HU4 HD4 HV4 HE4 HX0 HX1 HX2 HX3 HX4;go_simp;refine hK _ _ ?_;clear hK;refine A_done (by kernel_rfl) ?_;obtain⟨Z,hZ⟩:∃Z,((((w4.setCell ⟨bx+1,0,none⟩ (.slice s1.A s1.n s1.c)).setCell ⟨bx+1,1,none⟩ (.slice s2.A s2.n s2.c)).setCell ⟨bx+1,2,none⟩ (.slice s3.A s3.n s3.c)).setCell ⟨bx+1,3,none⟩ (.slice s4.A s4.n s4.c))=Z:=⟨_,rfl⟩;rw[hZ]at HQ⊢;clear hZ d0 f0 d1 f1 d2 f2 d3 f3 el;have r0:=HQ.out.2.2.cell 0;have r1:=HQ.out.2.2.cell 1;have r2:=HQ.out.2.2.cell 2;have r3:=HQ.out.2.2.cell 3;go_wp2_with fail;refine bodyPost_ret (v:=.agg #[.slice s1.A s1.n s1.c,.slice s2.A s2.n s2.c,.slice s3.A s3.n s3.c,.slice s4.A s4.n s4.c]) (by simp[results,Tryz.results206,go_sem,r0,r1,r2,r3]) rfl ?_;exact⟨⟨m.items,l2,l3,l4,s1,s2,s3,s4⟩,rfl,HQ.out.1,HQ.out.2.1⟩
end
end Go.Proofs.YtiecjoijnkghbaaGreatDoor

/- Catalogs in memory: rows of a type, and what keeps them. Cells of the elements of a catalog's lists; every, on these lists, with whatever test. differ, on the lists of a catalog. catalog's namesFit, namesDiffer and withinLimits on any catalog. -/
import Derived.Test.YtiecjoijnkghbaaGreatDoorY3
set_option linter.unusedVariables false
set_option linter.unusedSimpArgs false
set_option maxRecDepth 100000
set_option maxHeartbeats 1000000
open Go.RowKit
namespace Go.Proofs.YtiecjoijnkghbaaGreatDoor
section
set_option linter.unusedVariables false
set_option linter.unusedSimpArgs false
section
def Keep (t:TypeId) (w w':World):Prop:=∀(b:Nat) (cur:Array Value) (fl:Nat×Nat),w.heap[b]? = some (Obj.cells cur t fl)->w'.heap[b]? = some (Obj.cells cur t fl)
theorem Keep.refl (t:TypeId) (w:World):Keep t w w:=fun _ _ _ h=>h
theorem Keep.trans {t:TypeId} {a b c:World} (h:Keep t a b) (k:Keep t b c):Keep t a c:=fun b cur fl hb=>k b cur fl (h b cur fl hb)
theorem Keep.below {t:TypeId} {w w':World} (hb:Below w.heap.size w w'):Keep t w w':=fun b _ _ h=>(hb.block b (Array.getElem?_eq_some_iff.1 h).1).trans h
theorem Keep.grown {t:TypeId} {w w':World} {g:Nat} (hg:w.grownBy w' (some g)) (hn:∀cur fl,w.heap[g]? ≠ some (.cells cur t fl)):Keep t w w':=fun b cur fl h=>by
 have hne:some b≠some g:=fun e=>hn cur fl (by cases e;exact h)
 exact(hg.block b (Array.getElem?_eq_some_iff.1 h).1 hne).trans h
theorem Keep.alloc (t:TypeId) (w:World) (o:Obj):Keep t w (w.alloc o):=.below ((Below.refl _ _).alloc (Nat.le_refl _) o)
theorem Keep.setCell {t t':TypeId} {w:World} {g k:Nat} {xs:List Value} (hB:Bk w g t' xs) (hne:t'≠t) (u:Value):Keep t w (w.setCell ⟨g,k,none⟩ u) :=
 .grown (grown_setCell w g k u) fun cur fl h=>by
  unfold Bk at hB;rw[hB]at h;cases h;exact hne rfl
theorem Keep.own {t e:TypeId} {w w':World} {base size n:Nat} {v:Value} {xs:List Value} (h:w.ownsRow base e size v n xs) (hg:w.grownBy w' v.ownBlock) (hne:e≠t):Keep t w w':=by
 rcases h.2 with ⟨rfl,_⟩|⟨g,cap,cur,rfl,_,hc,_⟩
 ·exact fun b cur fl h=>(hg.block b (Array.getElem?_eq_some_iff.1 h).1 (by simp[Value.ownBlock])).trans h
 ·refine .grown (g:=g) hg fun cur' fl' h'=>?_
  rw[hc]at h';cases h';exact hne rfl
def TRow (w:World) (t:TypeId) (A:Option Addr) (xs:List Value):Prop :=
 xs=[]∨∃b off cur fl,A=some ⟨b,off,none⟩∧w.heap[b]? = some (.cells cur t fl)∧∀j u,xs[j]? = some u->cur[off+j]? = some u
theorem TRow.keep {w w':World} {t:TypeId} {A:Option Addr} {xs:List Value} (h:TRow w t A xs) (hk:Keep t w w'):TRow w' t A xs:=by
 rcases h with h|⟨b,off,cur,fl,hA,hb,hc⟩
 ·exact .inl h
 ·exact .inr ⟨b,off,cur,fl,hA,hk b cur fl hb,hc⟩
theorem TRow.row {w:World} {t:TypeId} {A:Option Addr} {xs:List Value} (h:TRow w t A xs):Row w w.heap.size A xs:=by
 rcases h with h|⟨b,off,cur,fl,hA,hb,hc⟩
 ·exact .inl h
 ·refine .inr ⟨b,off,hA,(Array.getElem?_eq_some_iff.1 hb).1,fun j u hu=>?_⟩;simp[World.cell?,hb,hc j u hu]
theorem TRow.of_own {w:World} {e:TypeId} {base size n:Nat} {A:Option Addr} {c:Nat} {xs:List Value} (h:w.ownsRow base e size (.slice A n c) n xs):TRow w e A xs:=by
 rcases h.2 with ⟨hv,hn⟩|⟨g,cap,cur,hv,_,hc,_,_,_,ht⟩
 ·left;have:=h.1;rw[hn]at this;exact List.eq_nil_of_length_eq_zero (by simpa using this)
 ·cases hv;refine .inr ⟨g,0,cur,(0,0),rfl,hc,fun j u hu=>?_⟩;rw[Nat.zero_add];rw[<- ht,List.getElem?_take]at hu;split at hu
  ·simpa using hu
  ·cases hu
section
variable {α : Type} {f : α -> List Value} {n : Nat}
theorem flat_len (hf:∀x,(f x).length=n) (l:List α):(l.flatMap f).length=l.length*n:=by
 induction l with
 | nil=>simp
 | cons x l ih=>rw[List.flatMap_cons,List.length_append,ih,hf,List.length_cons,Nat.add_mul];omega
theorem flat_get (hf:∀x,(f x).length=n) (l:List α) (k r:Nat) (hk:k<l.length) (hr:r<n):(l.flatMap f)[k*n+r]? = (f l[k])[r]?:=by
 induction l generalizing k with
 | nil=>simp at hk
 | cons x l ih =>
   rw[List.flatMap_cons];cases k with
   | zero =>
     rw[List.getElem?_append_left (by rw[hf];omega)];simp
   | succ k =>
     rw[List.getElem?_append_right (by rw[hf,Nat.add_mul];omega)];have e:(k+1)*n+r-(f x).length=k*n+r:=by rw[hf,Nat.add_mul];omega
     rw[e,ih k (by simpa using hk)];simp
theorem TRow.at_ {w:World} {t:TypeId} {A:Option Addr} {l:List α} (hf:∀x,(f x).length=n) (h:TRow w t A (l.flatMap f)) (k:Nat) (hk:k<l.length) (hn:0<n) :
 ∃b off,A=some ⟨b,off,none⟩∧b<w.heap.size∧∀r u,(f l[k])[r]? = some u->w.cell? ⟨b,off+k*n+r,none⟩=some u:=by
 have hlen:=flat_len hf l;have hkn:k*n+n<=l.length*n:=by
  have:(k+1)*n<=l.length*n:=Nat.mul_le_mul_right n hk;rw[Nat.add_mul]at this;omega
 obtain⟨b,off,hA,hb,hc⟩:=h.row.at_ 0 (by rw[hlen];omega);refine⟨b,off,hA,hb,fun r u hu=>?_⟩;have hr:r<n:=by have:=(List.getElem?_eq_some_iff.1 hu).1;rw[hf]at this;exact this
 rw[Nat.add_assoc];exact hc _ u ((flat_get hf l k r hk hr).trans hu)
end
abbrev P2:=Int×Int
abbrev pc (p:P2):List Value:=[.int .i64 p.1,.int .i64 p.2]
def pcells (l:List P2):List Value:=l.flatMap pc
theorem pc_len (p:P2):(pc p).length=2:=rfl
theorem pcells_snoc (l:List P2) (p:P2):pcells (l ++ [p])=pcells l ++ pc p:=by simp[pcells]
structure PrV (w : World) (t : TypeId) (s : Sl) (l : List P2) : Prop where
 row:TRow w t s.A (pcells l)
 len:s.n=l.length
 small:s.n<=100000
 wf:∀p∈l,(-9223372036854775808<=p.1∧p.1<=9223372036854775807)∧-9223372036854775808<=p.2∧p.2<=9223372036854775807
theorem PrV.keep {w w':World} {t:TypeId} {s:Sl} {l:List P2} (h:PrV w t s l) (hk:Keep t w w'):PrV w' t s l:=⟨h.row.keep hk,h.len,h.small,h.wf⟩
theorem PrV.below {w w':World} {t:TypeId} {s:Sl} {l:List P2} (h:PrV w t s l) (hb:Below w.heap.size w w'):PrV w' t s l:=h.keep (.below hb)
theorem PrV.at_ {w:World} {t:TypeId} {s:Sl} {l:List P2} (h:PrV w t s l) (k:Nat) (hk:k<l.length):∃b off,s.A=some ⟨b,off,none⟩∧b<w.heap.size∧w.cell? ⟨b,off+k*2,none⟩=some (.int .i64 l[k].1)∧w.cell? ⟨b,off+k*2+1,none⟩=some (.int .i64 l[k].2):=by
 obtain⟨b,off,hA,hb,hc⟩:=TRow.at_ (f:=pc) pc_len h.row k hk (by omega);exact⟨b,off,hA,hb,hc 0 _ rfl,hc 1 _ rfl⟩
structure RuM where
 name:ByteArray
 spawn:Bool
 level:Int
 time:Int
 chance:Int
 of_:Int
 take:List P2
 give:List P2
 back:List P2
 st:Sl
 sg:Sl
 sb:Sl
abbrev RuM.cells (r:RuM):List Value:=[.string r.name,.bool r.spawn,.int .i64 r.level,.int .i64 r.time,.int .i64 r.chance,.int .i64 r.of_,.slice r.st.A r.st.n r.st.c,.slice r.sg.A r.sg.n r.sg.c,.slice r.sb.A r.sb.n r.sb.c]
abbrev RuM.val (r:RuM):Value:=.agg #[.string r.name,.bool r.spawn,.int .i64 r.level,.int .i64 r.time,.int .i64 r.chance,.int .i64 r.of_,.slice r.st.A r.st.n r.st.c,.slice r.sg.A r.sg.n r.sg.c,.slice r.sb.A r.sb.n r.sb.c]
theorem RuM.len (r:RuM):r.cells.length=9:=rfl
structure RuM.Ok (w : World) (r : RuM) : Prop where
 take:PrV w 151 r.st r.take
 give:PrV w 151 r.sg r.give
 back:PrV w 151 r.sb r.back
 name:r.name.size<=8192
theorem RuM.Ok.keep {w w':World} {r:RuM} (h:r.Ok w) (hk:Keep 151 w w'):r.Ok w':=⟨h.take.keep hk,h.give.keep hk,h.back.keep hk,h.name⟩
structure RulesV (w : World) (s : Sl) (l : List RuM) : Prop where
 row:TRow w 149 s.A (l.flatMap RuM.cells)
 len:s.n=l.length
 small:s.n<=100000
 each:∀r∈l,r.Ok w
theorem RulesV.keep {w w':World} {s:Sl} {l:List RuM} (h:RulesV w s l) (h1:Keep 149 w w') (h2:Keep 151 w w'):RulesV w' s l:=⟨h.row.keep h1,h.len,h.small,fun r hr=>(h.each r hr).keep h2⟩
theorem RulesV.below {w w':World} {s:Sl} {l:List RuM} (h:RulesV w s l) (hb:Below w.heap.size w w'):RulesV w' s l:=h.keep (.below hb) (.below hb)
structure RwM where
 weight:Int
 give:List P2
 sg:Sl
abbrev RwM.cells (r:RwM):List Value:=[.int .i64 r.weight,.slice r.sg.A r.sg.n r.sg.c]
abbrev RwM.val (r:RwM):Value:=.agg #[.int .i64 r.weight,.slice r.sg.A r.sg.n r.sg.c]
theorem RwM.len (r:RwM):r.cells.length=2:=rfl
def RwM.Ok (w:World) (r:RwM):Prop:=PrV w 151 r.sg r.give
structure RowsV (w : World) (s : Sl) (l : List RwM) : Prop where
 row:TRow w 175 s.A (l.flatMap RwM.cells)
 len:s.n=l.length
 small:s.n<=100000
 each:∀r∈l,r.Ok w
theorem RowsV.keep {w w':World} {s:Sl} {l:List RwM} (h:RowsV w s l) (h1:Keep 175 w w') (h2:Keep 151 w w'):RowsV w' s l:=⟨h.row.keep h1,h.len,h.small,fun r hr=>PrV.keep (h.each r hr) h2⟩
theorem RowsV.below {w w':World} {s:Sl} {l:List RwM} (h:RowsV w s l) (hb:Below w.heap.size w w'):RowsV w' s l:=h.keep (.below hb) (.below hb)
structure TbM where
 name:ByteArray
 rows:List RwM
 sr:Sl
abbrev TbM.cells (t:TbM):List Value:=[.string t.name,.slice t.sr.A t.sr.n t.sr.c]
abbrev TbM.val (t:TbM):Value:=.agg #[.string t.name,.slice t.sr.A t.sr.n t.sr.c]
theorem TbM.len (t:TbM):t.cells.length=2:=rfl
structure TbM.Ok (w : World) (t : TbM) : Prop where
 rows:RowsV w t.sr t.rows
 name:t.name.size<=8192
structure TablesV (w : World) (s : Sl) (l : List TbM) : Prop where
 row:TRow w 173 s.A (l.flatMap TbM.cells)
 len:s.n=l.length
 small:s.n<=100000
 each:∀t∈l,t.Ok w
theorem TablesV.keep {w w':World} {s:Sl} {l:List TbM} (h:TablesV w s l) (h0:Keep 173 w w') (h1:Keep 175 w w') (h2:Keep 151 w w'):TablesV w' s l:=⟨h.row.keep h0,h.len,h.small,fun r hr=>⟨(h.each r hr).rows.keep h1 h2,(h.each r hr).name⟩⟩
theorem TablesV.below {w w':World} {s:Sl} {l:List TbM} (h:TablesV w s l) (hb:Below w.heap.size w w'):TablesV w' s l:=h.keep (.below hb) (.below hb) (.below hb)
structure TxM where
 name:ByteArray
 brs:List P2
 sb:Sl
abbrev TxM.cells (t:TxM):List Value:=[.string t.name,.slice t.sb.A t.sb.n t.sb.c]
abbrev TxM.val (t:TxM):Value:=.agg #[.string t.name,.slice t.sb.A t.sb.n t.sb.c]
theorem TxM.len (t:TxM):t.cells.length=2:=rfl
structure TxM.Ok (w : World) (t : TxM) : Prop where
 brs:PrV w 186 t.sb t.brs
 name:t.name.size<=8192
structure TaxesV (w : World) (s : Sl) (l : List TxM) : Prop where
 row:TRow w 93 s.A (l.flatMap TxM.cells)
 len:s.n=l.length
 small:s.n<=100000
 each:∀t∈l,t.Ok w
theorem TaxesV.keep {w w':World} {s:Sl} {l:List TxM} (h:TaxesV w s l) (h0:Keep 93 w w') (h1:Keep 186 w w'):TaxesV w' s l:=⟨h.row.keep h0,h.len,h.small,fun r hr=>⟨(h.each r hr).brs.keep h1,(h.each r hr).name⟩⟩
theorem TaxesV.below {w w':World} {s:Sl} {l:List TxM} (h:TaxesV w s l) (hb:Below w.heap.size w w'):TaxesV w' s l:=h.keep (.below hb) (.below hb)
structure ItsV (w : World) (s : Sl) (l : List It) : Prop where
 row:TRow w 42 s.A (l.flatMap It.cells)
 len:s.n=l.length
 small:s.n<=100000
 each:∀t∈l,t.name.size<=8192
theorem It.len (t:It):t.cells.length=7:=rfl
theorem ItsV.keep {w w':World} {s:Sl} {l:List It} (h:ItsV w s l) (h0:Keep 42 w w'):ItsV w' s l:=⟨h.row.keep h0,h.len,h.small,h.each⟩
theorem ItsV.below {w w':World} {s:Sl} {l:List It} (h:ItsV w s l) (hb:Below w.heap.size w w'):ItsV w' s l:=h.keep (.below hb)
structure CatM where
 items:List It
 rules:List RuM
 tables:List TbM
 taxes:List TxM
 si:Sl
 sr:Sl
 st:Sl
 sx:Sl
abbrev CatM.val (m:CatM):Value:=catS m.si m.sr m.st m.sx
structure CatM.Ok (w : World) (m : CatM) : Prop where
 items:ItsV w m.si m.items
 rules:RulesV w m.sr m.rules
 tables:TablesV w m.st m.tables
 taxes:TaxesV w m.sx m.taxes
theorem CatM.Ok.below {w w':World} {m:CatM} (h:m.Ok w) (hb:Below w.heap.size w w'):m.Ok w':=⟨h.items.below hb,h.rules.below hb,h.tables.below hb,h.taxes.below hb⟩
end
section
section
variable {α : Type}
def allK (f:α->Bool) (l:List α) (k:Nat):Bool:=(l.take k).all f
theorem allK_succ (f:α->Bool) (l:List α) (k:Nat) (h:k<l.length):allK f l (k+1)=(allK f l k && f l[k]):=by
 unfold allK;rw[List.take_succ_eq_append_getElem h,List.all_append];simp
theorem allK_no (f:α->Bool) (l:List α) (k:Nat) (h:k<l.length) (hf:f l[k]=false):l.all f=false:=by
 rw[List.all_eq_false];exact⟨l[k],List.getElem_mem h,by simp[hf]⟩
theorem allK_all (f:α->Bool) (l:List α) (n:Nat) (h:n=l.length):allK f l n=l.all f:=by
 unfold allK;rw[h,List.take_length]
end
theorem RulesV.at_ {w:World} {s:Sl} {l:List RuM} (h:RulesV w s l) (k:Nat) (hk:k<l.length):∃b off,s.A=some ⟨b,off,none⟩∧b<w.heap.size∧w.cell? ⟨b,off+k*9,none⟩=some (.string l[k].name)∧w.cell? ⟨b,off+k*9+1,none⟩=some (.bool l[k].spawn)∧w.cell? ⟨b,off+k*9+2,none⟩=some (.int .i64 l[k].level)∧w.cell? ⟨b,off+k*9+3,none⟩=some (.int .i64 l[k].time)∧w.cell? ⟨b,off+k*9+4,none⟩=some (.int .i64 l[k].chance)∧w.cell? ⟨b,off+k*9+5,none⟩=some (.int .i64 l[k].of_)∧w.cell? ⟨b,off+k*9+6,none⟩=some (.slice l[k].st.A l[k].st.n l[k].st.c)∧w.cell? ⟨b,off+k*9+7,none⟩=some (.slice l[k].sg.A l[k].sg.n l[k].sg.c)∧w.cell? ⟨b,off+k*9+8,none⟩=some (.slice l[k].sb.A l[k].sb.n l[k].sb.c):=by
 obtain⟨b,off,hA,hb,hc⟩:=TRow.at_ RuM.len h.row k hk (by omega);exact⟨b,off,hA,hb,hc 0 _ rfl,hc 1 _ rfl,hc 2 _ rfl,hc 3 _ rfl,hc 4 _ rfl,hc 5 _ rfl,hc 6 _ rfl,hc 7 _ rfl,hc 8 _ rfl⟩
theorem RowsV.at_ {w:World} {s:Sl} {l:List RwM} (h:RowsV w s l) (k:Nat) (hk:k<l.length):∃b off,s.A=some ⟨b,off,none⟩∧b<w.heap.size∧w.cell? ⟨b,off+k*2,none⟩=some (.int .i64 l[k].weight)∧w.cell? ⟨b,off+k*2+1,none⟩=some (.slice l[k].sg.A l[k].sg.n l[k].sg.c):=by
 obtain⟨b,off,hA,hb,hc⟩:=TRow.at_ RwM.len h.row k hk (by omega);exact⟨b,off,hA,hb,hc 0 _ rfl,hc 1 _ rfl⟩
theorem TablesV.at_ {w:World} {s:Sl} {l:List TbM} (h:TablesV w s l) (k:Nat) (hk:k<l.length):∃b off,s.A=some ⟨b,off,none⟩∧b<w.heap.size∧w.cell? ⟨b,off+k*2,none⟩=some (.string l[k].name)∧w.cell? ⟨b,off+k*2+1,none⟩=some (.slice l[k].sr.A l[k].sr.n l[k].sr.c):=by
 obtain⟨b,off,hA,hb,hc⟩:=TRow.at_ TbM.len h.row k hk (by omega);exact⟨b,off,hA,hb,hc 0 _ rfl,hc 1 _ rfl⟩
theorem TaxesV.at_ {w:World} {s:Sl} {l:List TxM} (h:TaxesV w s l) (k:Nat) (hk:k<l.length):∃b off,s.A=some ⟨b,off,none⟩∧b<w.heap.size∧w.cell? ⟨b,off+k*2,none⟩=some (.string l[k].name)∧w.cell? ⟨b,off+k*2+1,none⟩=some (.slice l[k].sb.A l[k].sb.n l[k].sb.c):=by
 obtain⟨b,off,hA,hb,hc⟩:=TRow.at_ TxM.len h.row k hk (by omega);exact⟨b,off,hA,hb,hc 0 _ rfl,hc 1 _ rfl⟩
theorem ItsV.at_ {w:World} {s:Sl} {l:List It} (h:ItsV w s l) (k:Nat) (hk:k<l.length):∃b off,s.A=some ⟨b,off,none⟩∧b<w.heap.size∧w.cell? ⟨b,off+k*7,none⟩=some (.string l[k].name)∧w.cell? ⟨b,off+k*7+1,none⟩=some (.bool l[k].object)∧w.cell? ⟨b,off+k*7+2,none⟩=some (.bool l[k].mixed)∧w.cell? ⟨b,off+k*7+3,none⟩=some (.bool l[k].coin)∧w.cell? ⟨b,off+k*7+4,none⟩=some (.int .i64 l[k].wear)∧w.cell? ⟨b,off+k*7+5,none⟩=some (.int .i64 l[k].bnd)∧w.cell? ⟨b,off+k*7+6,none⟩=some (.int .i64 l[k].level):=by
 obtain⟨b,off,hA,hb,hc⟩:=TRow.at_ It.len h.row k hk (by omega);exact⟨b,off,hA,hb,hc 0 _ rfl,hc 1 _ rfl,hc 2 _ rfl,hc 3 _ rfl,hc 4 _ rfl,hc 5 _ rfl,hc 6 _ rfl⟩
theorem every_ru (q:FuncId) (caps:Array Value) (hq:∀(args:Array Value) (W:World),(callFunc q args).run Tryz.prog W=.ok (.enter q args) W) {w:World} {s:Sl} {l:List RuM} (f:RuM->Bool) (h:RulesV w s l)
 (hF:Hid (∀(t:RuM) (W:World),t∈l->Below w.heap.size w W->Calls Tryz.prog q (#[t.val] ++ caps) W fun e w'=>e=.returned (.bool (f t))∧Below W.heap.size W w')) :
 Calls Tryz.prog 252 #[.slice s.A s.n s.c,.func (.func q) #[] caps] w fun e w'=>e=.returned (.bool (l.all f))∧Below w.heap.size w w':=by
 have Hn:=iH h.len;have H:=iH h;have hs:=h.small;clear h;obtain⟨A,n,c⟩:=s;dsimp only at Hn hs⊢;go_enter Tryz.func252,Tryz.ntmps252;go_wp2_with fail;go_loopw [9] (fun i wr=>∃k:Nat,k<=n∧i=.int .i64 k∧allK f l k=true∧Below w.heap.size w wr) (fun i _=>n-(intOf i).toNat)
 case atStart=>exact⟨0,Nat.zero_le _,rfl,rfl,Below.refl _ _⟩
 case round =>
  obtain⟨k,hk,rfl,hR,hb⟩:=hrel;have HR:=iH hR;have hsz:=hb.size;clear hR;by_cases hlt:k<n
  ·have hkl:k<l.length:=by have:=Hn.out;omega
   obtain⟨b,off,rfl,hbb,c0,c1,c2,c3,c4,c5,c6,c7,c8⟩:=(H.out.below hb).at_ k hkl;have Hs:=iH (allK_succ f l k hkl);have Hno:=iH (allK_no f l k hkl);have hmem:=List.getElem_mem hkl;have HF:=iH (fun W hW=>hF.out l[k] W hmem hW);clear hmem hF;generalize l[k]=t at *;have hb2:Below w.heap.size w (wr.alloc (.cells #[.string t.name,.bool t.spawn,.int .i64 t.level,.int .i64 t.time,.int .i64 t.chance,.int .i64 t.of_,.slice t.st.A t.st.n t.st.c,.slice t.sg.A t.sg.n t.sg.c,.slice t.sb.A t.sb.n t.sb.c] 149)):=hb.alloc hsz _;have HC:=iH (HF.out _ hb2);clear HF hkl;go_wp2_with fail;refine HC.out.mono ?_;rintro e w1 ⟨rfl,hb1⟩;have hb3:Below w.heap.size w w1:=hb2.trans (hb1.mono (by simp;omega));clear HC;cases hq:f t
   ·have Hq:=iH (Hno.out hq);clear hq Hs Hno;go_wp2;go_ret;exact⟨by rw[Hq.out];rfl,hb3⟩
   ·rw[hq,HR.out]at Hs;clear hq Hno;go_wp2;go_roundw
    case rel=>exact⟨k+1,by omega,by go_num,Hs.out,hb3⟩
    case measure=>simp[intOf];omega
  ·have hkn:k=n:=by omega
   have HT:Hid (l.all f=true):=by
    show l.all f=true;rw[<- allK_all f l n Hn.out,<- hkn];exact HR.out
   clear hkn;go_wp2;go_ret;exact⟨by rw[HT.out];rfl,hb⟩
theorem every_rw (q:FuncId) (caps:Array Value) (hq:∀(args:Array Value) (W:World),(callFunc q args).run Tryz.prog W=.ok (.enter q args) W) {w:World} {s:Sl} {l:List RwM} (f:RwM->Bool) (h:RowsV w s l)
 (hF:Hid (∀(t:RwM) (W:World),t∈l->Below w.heap.size w W->Calls Tryz.prog q (#[t.val] ++ caps) W fun e w'=>e=.returned (.bool (f t))∧Below W.heap.size W w')) :
 Calls Tryz.prog 274 #[.slice s.A s.n s.c,.func (.func q) #[] caps] w fun e w'=>e=.returned (.bool (l.all f))∧Below w.heap.size w w':=by
 have Hn:=iH h.len;have H:=iH h;have hs:=h.small;clear h;obtain⟨A,n,c⟩:=s;dsimp only at Hn hs⊢;go_enter Tryz.func274,Tryz.ntmps274;go_wp2_with fail;go_loopw [9] (fun i wr=>∃k:Nat,k<=n∧i=.int .i64 k∧allK f l k=true∧Below w.heap.size w wr) (fun i _=>n-(intOf i).toNat)
 case atStart=>exact⟨0,Nat.zero_le _,rfl,rfl,Below.refl _ _⟩
 case round =>
  obtain⟨k,hk,rfl,hR,hb⟩:=hrel;have HR:=iH hR;have hsz:=hb.size;clear hR;by_cases hlt:k<n
  ·have hkl:k<l.length:=by have:=Hn.out;omega
   obtain⟨b,off,rfl,hbb,c0,c1⟩:=(H.out.below hb).at_ k hkl;have Hs:=iH (allK_succ f l k hkl);have Hno:=iH (allK_no f l k hkl);have hmem:=List.getElem_mem hkl;have HF:=iH (fun W hW=>hF.out l[k] W hmem hW);clear hmem hF;generalize l[k]=t at *;have hb2:Below w.heap.size w (wr.alloc (.cells #[.int .i64 t.weight,.slice t.sg.A t.sg.n t.sg.c] 175)):=hb.alloc hsz _;have HC:=iH (HF.out _ hb2);clear HF hkl;go_wp2_with fail;refine HC.out.mono ?_;rintro e w1 ⟨rfl,hb1⟩;have hb3:Below w.heap.size w w1:=hb2.trans (hb1.mono (by simp;omega));clear HC;cases hq:f t
   ·have Hq:=iH (Hno.out hq);clear hq Hs Hno;go_wp2;go_ret;exact⟨by rw[Hq.out];rfl,hb3⟩
   ·rw[hq,HR.out]at Hs;clear hq Hno;go_wp2;go_roundw
    case rel=>exact⟨k+1,by omega,by go_num,Hs.out,hb3⟩
    case measure=>simp[intOf];omega
  ·have hkn:k=n:=by omega
   have HT:Hid (l.all f=true):=by
    show l.all f=true;rw[<- allK_all f l n Hn.out,<- hkn];exact HR.out
   clear hkn;go_wp2;go_ret;exact⟨by rw[HT.out];rfl,hb⟩
theorem every_tb (q:FuncId) (caps:Array Value) (hq:∀(args:Array Value) (W:World),(callFunc q args).run Tryz.prog W=.ok (.enter q args) W) {w:World} {s:Sl} {l:List TbM} (f:TbM->Bool) (h:TablesV w s l)
 (hF:Hid (∀(t:TbM) (W:World),t∈l->Below w.heap.size w W->Calls Tryz.prog q (#[t.val] ++ caps) W fun e w'=>e=.returned (.bool (f t))∧Below W.heap.size W w')) :
 Calls Tryz.prog 254 #[.slice s.A s.n s.c,.func (.func q) #[] caps] w fun e w'=>e=.returned (.bool (l.all f))∧Below w.heap.size w w':=by
 have Hn:=iH h.len;have H:=iH h;have hs:=h.small;clear h;obtain⟨A,n,c⟩:=s;dsimp only at Hn hs⊢;go_enter Tryz.func254,Tryz.ntmps254;go_wp2_with fail;go_loopw [9] (fun i wr=>∃k:Nat,k<=n∧i=.int .i64 k∧allK f l k=true∧Below w.heap.size w wr) (fun i _=>n-(intOf i).toNat)
 case atStart=>exact⟨0,Nat.zero_le _,rfl,rfl,Below.refl _ _⟩
 case round =>
  obtain⟨k,hk,rfl,hR,hb⟩:=hrel;have HR:=iH hR;have hsz:=hb.size;clear hR;by_cases hlt:k<n
  ·have hkl:k<l.length:=by have:=Hn.out;omega
   obtain⟨b,off,rfl,hbb,c0,c1⟩:=(H.out.below hb).at_ k hkl;have Hs:=iH (allK_succ f l k hkl);have Hno:=iH (allK_no f l k hkl);have hmem:=List.getElem_mem hkl;have HF:=iH (fun W hW=>hF.out l[k] W hmem hW);clear hmem hF;generalize l[k]=t at *;have hb2:Below w.heap.size w (wr.alloc (.cells #[.string t.name,.slice t.sr.A t.sr.n t.sr.c] 173)):=hb.alloc hsz _;have HC:=iH (HF.out _ hb2);clear HF hkl;go_wp2_with fail;refine HC.out.mono ?_;rintro e w1 ⟨rfl,hb1⟩;have hb3:Below w.heap.size w w1:=hb2.trans (hb1.mono (by simp;omega));clear HC;cases hq:f t
   ·have Hq:=iH (Hno.out hq);clear hq Hs Hno;go_wp2;go_ret;exact⟨by rw[Hq.out];rfl,hb3⟩
   ·rw[hq,HR.out]at Hs;clear hq Hno;go_wp2;go_roundw
    case rel=>exact⟨k+1,by omega,by go_num,Hs.out,hb3⟩
    case measure=>simp[intOf];omega
  ·have hkn:k=n:=by omega
   have HT:Hid (l.all f=true):=by
    show l.all f=true;rw[<- allK_all f l n Hn.out,<- hkn];exact HR.out
   clear hkn;go_wp2;go_ret;exact⟨by rw[HT.out];rfl,hb⟩
theorem every_tx (q:FuncId) (caps:Array Value) (hq:∀(args:Array Value) (W:World),(callFunc q args).run Tryz.prog W=.ok (.enter q args) W) {w:World} {s:Sl} {l:List TxM} (f:TxM->Bool) (h:TaxesV w s l)
 (hF:Hid (∀(t:TxM) (W:World),t∈l->Below w.heap.size w W->Calls Tryz.prog q (#[t.val] ++ caps) W fun e w'=>e=.returned (.bool (f t))∧Below W.heap.size W w')) :
 Calls Tryz.prog 256 #[.slice s.A s.n s.c,.func (.func q) #[] caps] w fun e w'=>e=.returned (.bool (l.all f))∧Below w.heap.size w w':=by
 have Hn:=iH h.len;have H:=iH h;have hs:=h.small;clear h;obtain⟨A,n,c⟩:=s;dsimp only at Hn hs⊢;go_enter Tryz.func256,Tryz.ntmps256;go_wp2_with fail;go_loopw [9] (fun i wr=>∃k:Nat,k<=n∧i=.int .i64 k∧allK f l k=true∧Below w.heap.size w wr) (fun i _=>n-(intOf i).toNat)
 case atStart=>exact⟨0,Nat.zero_le _,rfl,rfl,Below.refl _ _⟩
 case round =>
  obtain⟨k,hk,rfl,hR,hb⟩:=hrel;have HR:=iH hR;have hsz:=hb.size;clear hR;by_cases hlt:k<n
  ·have hkl:k<l.length:=by have:=Hn.out;omega
   obtain⟨b,off,rfl,hbb,c0,c1⟩:=(H.out.below hb).at_ k hkl;have Hs:=iH (allK_succ f l k hkl);have Hno:=iH (allK_no f l k hkl);have hmem:=List.getElem_mem hkl;have HF:=iH (fun W hW=>hF.out l[k] W hmem hW);clear hmem hF;generalize l[k]=t at *;have hb2:Below w.heap.size w (wr.alloc (.cells #[.string t.name,.slice t.sb.A t.sb.n t.sb.c] 93)):=hb.alloc hsz _;have HC:=iH (HF.out _ hb2);clear HF hkl;go_wp2_with fail;refine HC.out.mono ?_;rintro e w1 ⟨rfl,hb1⟩;have hb3:Below w.heap.size w w1:=hb2.trans (hb1.mono (by simp;omega));clear HC;cases hq:f t
   ·have Hq:=iH (Hno.out hq);clear hq Hs Hno;go_wp2;go_ret;exact⟨by rw[Hq.out];rfl,hb3⟩
   ·rw[hq,HR.out]at Hs;clear hq Hno;go_wp2;go_roundw
    case rel=>exact⟨k+1,by omega,by go_num,Hs.out,hb3⟩
    case measure=>simp[intOf];omega
  ·have hkn:k=n:=by omega
   have HT:Hid (l.all f=true):=by
    show l.all f=true;rw[<- allK_all f l n Hn.out,<- hkn];exact HR.out
   clear hkn;go_wp2;go_ret;exact⟨by rw[HT.out];rfl,hb⟩
theorem every_it (q:FuncId) (caps:Array Value) (hq:∀(args:Array Value) (W:World),(callFunc q args).run Tryz.prog W=.ok (.enter q args) W) {w:World} {s:Sl} {l:List It} (f:It->Bool) (h:ItsV w s l)
 (hF:Hid (∀(t:It) (W:World),t∈l->Below w.heap.size w W->Calls Tryz.prog q (#[t.val] ++ caps) W fun e w'=>e=.returned (.bool (f t))∧Below W.heap.size W w')) :
 Calls Tryz.prog 258 #[.slice s.A s.n s.c,.func (.func q) #[] caps] w fun e w'=>e=.returned (.bool (l.all f))∧Below w.heap.size w w':=by
 have Hn:=iH h.len;have H:=iH h;have hs:=h.small;clear h;obtain⟨A,n,c⟩:=s;dsimp only at Hn hs⊢;go_enter Tryz.func258,Tryz.ntmps258;go_wp2_with fail;go_loopw [9] (fun i wr=>∃k:Nat,k<=n∧i=.int .i64 k∧allK f l k=true∧Below w.heap.size w wr) (fun i _=>n-(intOf i).toNat)
 case atStart=>exact⟨0,Nat.zero_le _,rfl,rfl,Below.refl _ _⟩
 case round =>
  obtain⟨k,hk,rfl,hR,hb⟩:=hrel;have HR:=iH hR;have hsz:=hb.size;clear hR;by_cases hlt:k<n
  ·have hkl:k<l.length:=by have:=Hn.out;omega
   obtain⟨b,off,rfl,hbb,c0,c1,c2,c3,c4,c5,c6⟩:=(H.out.below hb).at_ k hkl;have Hs:=iH (allK_succ f l k hkl);have Hno:=iH (allK_no f l k hkl);have hmem:=List.getElem_mem hkl;have HF:=iH (fun W hW=>hF.out l[k] W hmem hW);clear hmem hF;generalize l[k]=t at *;have hb2:Below w.heap.size w (wr.alloc (.cells #[.string t.name,.bool t.object,.bool t.mixed,.bool t.coin,.int .i64 t.wear,.int .i64 t.bnd,.int .i64 t.level] 42)):=hb.alloc hsz _;have HC:=iH (HF.out _ hb2);clear HF hkl;go_wp2_with fail;refine HC.out.mono ?_;rintro e w1 ⟨rfl,hb1⟩;have hb3:Below w.heap.size w w1:=hb2.trans (hb1.mono (by simp;omega));clear HC;cases hq:f t
   ·have Hq:=iH (Hno.out hq);clear hq Hs Hno;go_wp2;go_ret;exact⟨by rw[Hq.out];rfl,hb3⟩
   ·rw[hq,HR.out]at Hs;clear hq Hno;go_wp2;go_roundw
    case rel=>exact⟨k+1,by omega,by go_num,Hs.out,hb3⟩
    case measure=>simp[intOf];omega
  ·have hkn:k=n:=by omega
   have HT:Hid (l.all f=true):=by
    show l.all f=true;rw[<- allK_all f l n Hn.out,<- hkn];exact HR.out
   clear hkn;go_wp2;go_ret;exact⟨by rw[HT.out];rfl,hb⟩
theorem every_am (q:FuncId) (caps:Array Value) (hq:∀(args:Array Value) (W:World),(callFunc q args).run Tryz.prog W=.ok (.enter q args) W) {w:World} {s:Sl} {l:List P2} (f:P2->Bool) (h:PrV w 151 s l)
 (hF:Hid (∀(t:P2) (W:World),t∈l->Below w.heap.size w W->Calls Tryz.prog q (#[.agg #[.int .i64 t.1,.int .i64 t.2]] ++ caps) W fun e w'=>e=.returned (.bool (f t))∧Below W.heap.size W w')) :
 Calls Tryz.prog 278 #[.slice s.A s.n s.c,.func (.func q) #[] caps] w fun e w'=>e=.returned (.bool (l.all f))∧Below w.heap.size w w':=by
 have Hn:=iH h.len;have H:=iH h;have hs:=h.small;clear h;obtain⟨A,n,c⟩:=s;dsimp only at Hn hs⊢;go_enter Tryz.func278,Tryz.ntmps278;go_wp2_with fail;go_loopw [9] (fun i wr=>∃k:Nat,k<=n∧i=.int .i64 k∧allK f l k=true∧Below w.heap.size w wr) (fun i _=>n-(intOf i).toNat)
 case atStart=>exact⟨0,Nat.zero_le _,rfl,rfl,Below.refl _ _⟩
 case round =>
  obtain⟨k,hk,rfl,hR,hb⟩:=hrel;have HR:=iH hR;have hsz:=hb.size;clear hR;by_cases hlt:k<n
  ·have hkl:k<l.length:=by have:=Hn.out;omega
   obtain⟨b,off,rfl,hbb,c0,c1⟩:=(H.out.below hb).at_ k hkl;have Hs:=iH (allK_succ f l k hkl);have Hno:=iH (allK_no f l k hkl);have hmem:=List.getElem_mem hkl;have HF:=iH (fun W hW=>hF.out l[k] W hmem hW);clear hmem hF;generalize l[k]=t at *;have hb2:Below w.heap.size w (wr.alloc (.cells #[.int .i64 t.1,.int .i64 t.2] 151)):=hb.alloc hsz _;have HC:=iH (HF.out _ hb2);clear HF hkl;go_wp2_with fail;refine HC.out.mono ?_;rintro e w1 ⟨rfl,hb1⟩;have hb3:Below w.heap.size w w1:=hb2.trans (hb1.mono (by simp;omega));clear HC;cases hq:f t
   ·have Hq:=iH (Hno.out hq);clear hq Hs Hno;go_wp2;go_ret;exact⟨by rw[Hq.out];rfl,hb3⟩
   ·rw[hq,HR.out]at Hs;clear hq Hno;go_wp2;go_roundw
    case rel=>exact⟨k+1,by omega,by go_num,Hs.out,hb3⟩
    case measure=>simp[intOf];omega
  ·have hkn:k=n:=by omega
   have HT:Hid (l.all f=true):=by
    show l.all f=true;rw[<- allK_all f l n Hn.out,<- hkn];exact HR.out
   clear hkn;go_wp2;go_ret;exact⟨by rw[HT.out];rfl,hb⟩
theorem every_br (q:FuncId) (caps:Array Value) (hq:∀(args:Array Value) (W:World),(callFunc q args).run Tryz.prog W=.ok (.enter q args) W) {w:World} {s:Sl} {l:List P2} (f:P2->Bool) (h:PrV w 186 s l)
 (hF:Hid (∀(t:P2) (W:World),t∈l->Below w.heap.size w W->Calls Tryz.prog q (#[.agg #[.int .i64 t.1,.int .i64 t.2]] ++ caps) W fun e w'=>e=.returned (.bool (f t))∧Below W.heap.size W w')) :
 Calls Tryz.prog 348 #[.slice s.A s.n s.c,.func (.func q) #[] caps] w fun e w'=>e=.returned (.bool (l.all f))∧Below w.heap.size w w':=by
 have Hn:=iH h.len;have H:=iH h;have hs:=h.small;clear h;obtain⟨A,n,c⟩:=s;dsimp only at Hn hs⊢;go_enter Tryz.func348,Tryz.ntmps348;go_wp2_with fail;go_loopw [9] (fun i wr=>∃k:Nat,k<=n∧i=.int .i64 k∧allK f l k=true∧Below w.heap.size w wr) (fun i _=>n-(intOf i).toNat)
 case atStart=>exact⟨0,Nat.zero_le _,rfl,rfl,Below.refl _ _⟩
 case round =>
  obtain⟨k,hk,rfl,hR,hb⟩:=hrel;have HR:=iH hR;have hsz:=hb.size;clear hR;by_cases hlt:k<n
  ·have hkl:k<l.length:=by have:=Hn.out;omega
   obtain⟨b,off,rfl,hbb,c0,c1⟩:=(H.out.below hb).at_ k hkl;have Hs:=iH (allK_succ f l k hkl);have Hno:=iH (allK_no f l k hkl);have hmem:=List.getElem_mem hkl;have HF:=iH (fun W hW=>hF.out l[k] W hmem hW);clear hmem hF;generalize l[k]=t at *;have hb2:Below w.heap.size w (wr.alloc (.cells #[.int .i64 t.1,.int .i64 t.2] 186)):=hb.alloc hsz _;have HC:=iH (HF.out _ hb2);clear HF hkl;go_wp2_with fail;refine HC.out.mono ?_;rintro e w1 ⟨rfl,hb1⟩;have hb3:Below w.heap.size w w1:=hb2.trans (hb1.mono (by simp;omega));clear HC;cases hq:f t
   ·have Hq:=iH (Hno.out hq);clear hq Hs Hno;go_wp2;go_ret;exact⟨by rw[Hq.out];rfl,hb3⟩
   ·rw[hq,HR.out]at Hs;clear hq Hno;go_wp2;go_roundw
    case rel=>exact⟨k+1,by omega,by go_num,Hs.out,hb3⟩
    case measure=>simp[intOf];omega
  ·have hkn:k=n:=by omega
   have HT:Hid (l.all f=true):=by
    show l.all f=true;rw[<- allK_all f l n Hn.out,<- hkn];exact HR.out
   clear hkn;go_wp2;go_ret;exact⟨by rw[HT.out];rfl,hb⟩
end
def hasS (l:List ByteArray) (s:ByteArray):Bool:=l.any fun t=>decide (s=t)
theorem hasS_snoc (l:List ByteArray) (t s:ByteArray):hasS (l ++ [t]) s=(decide (s=t) || hasS l s):=by simp[hasS,Bool.or_comm]
def diffTo (l:List ByteArray):Nat->Bool
 | 0=>true
 | k+1=>diffTo l k && !hasS (l.take k) (l[k]?.getD ⟨#[]⟩)
def diffB (l:List ByteArray):Bool:=diffTo l l.length
theorem diffTo_no {l:List ByteArray} {k:Nat} (h:hasS (l.take k) (l[k]?.getD ⟨#[]⟩)=true):∀m,k<m->diffTo l m=false:=by
 intro m hm
 induction m with
 | zero=>omega
 | succ m ih =>
   by_cases e:k=m
   ·subst e;simp[diffTo,h]
   ·simp[diffTo,ih (by omega)]
theorem name_at {α:Type} (nm:α->ByteArray) (l:List α) (k:Nat) (h:k<l.length):(l.map nm)[k]?.getD ⟨#[]⟩=nm l[k]:=by simp[h]
theorem name_take {α:Type} (nm:α->ByteArray) (l:List α) (k:Nat) (h:k<l.length):(l.map nm).take (k+1)=(l.map nm).take k ++ [nm l[k]]:=by
 rw[List.take_succ_eq_append_getElem (by simpa using h)];simp
theorem size_max {s:ByteArray} (h:s.size<=8192):s.size<=maxLen:=by unfold maxLen;omega
theorem nm_ru (t:RuM) (w:World):Calls Tryz.prog 117 #[t.val] w fun e w'=>e=.returned (.string t.name)∧Below w.heap.size w w':=by
 go_enter Tryz.func117,Tryz.ntmps117;go_wp2;go_ret;exact⟨rfl,(Below.refl _ _).alloc (Nat.le_refl _) _⟩
theorem differ_ru {w:World} {s:Sl} {l:List RuM} (h:RulesV w s l) :
 Calls Tryz.prog 265 #[.slice s.A s.n s.c,.func (.func 117) #[] #[]] w fun e w'=>e=.returned (.bool (diffB (l.map RuM.name)))∧Below w.heap.size w w':=by
 have Hn:=iH h.len;have H:=iH h;have hs:=h.small;clear h;obtain⟨A,n,c⟩:=s;dsimp only at Hn hs⊢;have hmm:=fun W:World=>run_mapHint (P:=Tryz.prog) 409 9 4 .i64 n Tryz.underlying409 W
 go_enter Tryz.func265,Tryz.ntmps265;go_wp2_with fail;have Hm0:=iH (MapS.made w);have hB0:Below w.heap.size w (w.alloc (.map #[] 0)):=(Below.refl _ _).alloc (Nat.le_refl _) _;go_loopw [13] (fun i wr=>∃k:Nat,k<=n∧i=.int .i64 k∧diffTo (l.map RuM.name) k=true∧MapS wr w.heap.size k (hasS ((l.map RuM.name).take k))∧Below w.heap.size w wr) (fun i _=>n-(intOf i).toNat)
 case atStart=>exact⟨0,Nat.zero_le _,rfl,rfl,Hm0.out,hB0⟩
 case round =>
  obtain⟨k,hk,rfl,hR,hm,hb⟩:=hrel;have HR:=iH hR;have HM:=iH hm;have hsz:=hb.size;clear hR hm hmm Hm0;by_cases hlt:k<n
  ·have hkl:k<l.length:=by have:=Hn.out;omega
   obtain⟨b,off,rfl,hbb,c0,c1,c2,c3,c4,c5,c6,c7,c8⟩:=(H.out.below hb).at_ k hkl;have hmem:=List.getElem_mem hkl;have hpm:=size_max (H.out.each _ hmem).name;have Hst:Hid (hasS ((l.map RuM.name).take k) l[k].name=false->diffTo (l.map RuM.name) (k+1)=true):=fun h=>by
    simp only[diffTo,HR.out,name_at RuM.name l k hkl,h];rfl
   have Hno:Hid (hasS ((l.map RuM.name).take k) l[k].name=true->diffB (l.map RuM.name)=false):=fun h=>diffTo_no (by rw[name_at RuM.name l k hkl];exact h) _ (by simpa using hkl)
   have HT:Hid (hasS ((l.map RuM.name).take (k+1))=fun s=>decide (s=l[k].name) || hasS ((l.map RuM.name).take k) s):=by
    show hasS ((l.map RuM.name).take (k+1))=_;funext s;rw[name_take RuM.name l k hkl,hasS_snoc]
   clear hmem;generalize l[k]=t at *;clear hkl;have hb2:Below w.heap.size w (wr.alloc (.cells #[.string t.name,.bool t.spawn,.int .i64 t.level,.int .i64 t.time,.int .i64 t.chance,.int .i64 t.of_,.slice t.st.A t.st.n t.st.c,.slice t.sg.A t.sg.n t.sg.c,.slice t.sb.A t.sb.n t.sb.c] 149)):=hb.alloc hsz _;have HM2:=iH (HM.out.below ((Below.refl _ wr).alloc (Nat.le_refl _) (.cells #[.string t.name,.bool t.spawn,.int .i64 t.level,.int .i64 t.time,.int .i64 t.chance,.int .i64 t.of_,.slice t.st.A t.st.n t.st.c,.slice t.sg.A t.sg.n t.sg.c,.slice t.sb.A t.sb.n t.sb.c] 149)));clear HM;go_wp2_with fail;have HB:=iH (Bk.new wr 149 [.string t.name,.bool t.spawn,.int .i64 t.level,.int .i64 t.time,.int .i64 t.chance,.int .i64 t.of_,.slice t.st.A t.st.n t.st.c,.slice t.sg.A t.sg.n t.sg.c,.slice t.sb.A t.sb.n t.sb.c]);refine(nm_ru t _).mono ?_;rintro e w1 ⟨rfl,hb1⟩;have hb3:Below w.heap.size w w1:=hb2.trans (hb1.mono (by simp;omega));have HM3:=iH (HM2.out.below hb1);have HB3:=iH (HB.out.below hb1 (by simp));have hlk:=HM3.out.look hpm;clear HM2 HB hb1;cases hq:hasS ((l.map RuM.name).take k) t.name
   ·have Hq:=iH (Hst.out hq);rw[hq]at hlk;clear hq Hst Hno;have d0:=HB3.out.k0;have d1:=HB3.out.k1;have d2:=HB3.out.k2;have d3:=HB3.out.k3;have d4:=HB3.out.k4;have d5:=HB3.out.k5;have d6:=HB3.out.k6;have d7:=HB3.out.k7;have d8:=HB3.out.k8;go_wp2_with fail;refine(nm_ru t _).mono ?_;rintro e w2 ⟨rfl,hb4⟩;obtain⟨w3,hrun,hM4,hg4⟩:=(HM3.out.below hb4).put hpm (by omega);have hb5:Below w.heap.size w w3:=(hb3.trans (hb4.mono hb3.size)).grown hg4 (Nat.le_trans hb3.size hb4.size) (fun g e=>by cases e;exact Nat.le_refl _);have HM4:=iH hM4;clear hM4 hg4 hb4 d0 d1 d2 d3 d4 d5 d6 d7 d8 hlk;go_wp2;go_roundw
    case rel=>exact⟨k+1,by omega,by go_num,Hq.out,by rw[HT.out];exact HM4.out,hb5⟩
    case measure=>simp[intOf];omega
   ·have Hq:=iH (Hno.out hq);rw[hq]at hlk;clear hq Hst Hno;go_wp2;go_ret;exact⟨by rw[Hq.out];rfl,hb3⟩
  ·have hkn:k=(l.map RuM.name).length:=by have:=Hn.out;simp;omega
   have HT:Hid (diffB (l.map RuM.name)=true):=by show diffB (l.map RuM.name)=true;unfold diffB;rw[<- hkn];exact HR.out
   clear hkn;go_wp2;go_ret;exact⟨by rw[HT.out];rfl,hb⟩
theorem nm_tb (t:TbM) (w:World):Calls Tryz.prog 119 #[t.val] w fun e w'=>e=.returned (.string t.name)∧Below w.heap.size w w':=by
 go_enter Tryz.func119,Tryz.ntmps119;go_wp2;go_ret;exact⟨rfl,(Below.refl _ _).alloc (Nat.le_refl _) _⟩
theorem differ_tb {w:World} {s:Sl} {l:List TbM} (h:TablesV w s l) :
 Calls Tryz.prog 266 #[.slice s.A s.n s.c,.func (.func 119) #[] #[]] w fun e w'=>e=.returned (.bool (diffB (l.map TbM.name)))∧Below w.heap.size w w':=by
 have Hn:=iH h.len;have H:=iH h;have hs:=h.small;clear h;obtain⟨A,n,c⟩:=s;dsimp only at Hn hs⊢;have hmm:=fun W:World=>run_mapHint (P:=Tryz.prog) 409 9 4 .i64 n Tryz.underlying409 W
 go_enter Tryz.func266,Tryz.ntmps266;go_wp2_with fail;have Hm0:=iH (MapS.made w);have hB0:Below w.heap.size w (w.alloc (.map #[] 0)):=(Below.refl _ _).alloc (Nat.le_refl _) _;go_loopw [13] (fun i wr=>∃k:Nat,k<=n∧i=.int .i64 k∧diffTo (l.map TbM.name) k=true∧MapS wr w.heap.size k (hasS ((l.map TbM.name).take k))∧Below w.heap.size w wr) (fun i _=>n-(intOf i).toNat)
 case atStart=>exact⟨0,Nat.zero_le _,rfl,rfl,Hm0.out,hB0⟩
 case round =>
  obtain⟨k,hk,rfl,hR,hm,hb⟩:=hrel;have HR:=iH hR;have HM:=iH hm;have hsz:=hb.size;clear hR hm hmm Hm0;by_cases hlt:k<n
  ·have hkl:k<l.length:=by have:=Hn.out;omega
   obtain⟨b,off,rfl,hbb,c0,c1⟩:=(H.out.below hb).at_ k hkl;have hmem:=List.getElem_mem hkl;have hpm:=size_max (H.out.each _ hmem).name;have Hst:Hid (hasS ((l.map TbM.name).take k) l[k].name=false->diffTo (l.map TbM.name) (k+1)=true):=fun h=>by
    simp only[diffTo,HR.out,name_at TbM.name l k hkl,h];rfl
   have Hno:Hid (hasS ((l.map TbM.name).take k) l[k].name=true->diffB (l.map TbM.name)=false):=fun h=>diffTo_no (by rw[name_at TbM.name l k hkl];exact h) _ (by simpa using hkl)
   have HT:Hid (hasS ((l.map TbM.name).take (k+1))=fun s=>decide (s=l[k].name) || hasS ((l.map TbM.name).take k) s):=by
    show hasS ((l.map TbM.name).take (k+1))=_;funext s;rw[name_take TbM.name l k hkl,hasS_snoc]
   clear hmem;generalize l[k]=t at *;clear hkl;have hb2:Below w.heap.size w (wr.alloc (.cells #[.string t.name,.slice t.sr.A t.sr.n t.sr.c] 173)):=hb.alloc hsz _;have HM2:=iH (HM.out.below ((Below.refl _ wr).alloc (Nat.le_refl _) (.cells #[.string t.name,.slice t.sr.A t.sr.n t.sr.c] 173)));clear HM;go_wp2_with fail;have HB:=iH (Bk.new wr 173 [.string t.name,.slice t.sr.A t.sr.n t.sr.c]);refine(nm_tb t _).mono ?_;rintro e w1 ⟨rfl,hb1⟩;have hb3:Below w.heap.size w w1:=hb2.trans (hb1.mono (by simp;omega));have HM3:=iH (HM2.out.below hb1);have HB3:=iH (HB.out.below hb1 (by simp));have hlk:=HM3.out.look hpm;clear HM2 HB hb1;cases hq:hasS ((l.map TbM.name).take k) t.name
   ·have Hq:=iH (Hst.out hq);rw[hq]at hlk;clear hq Hst Hno;have d0:=HB3.out.k0;have d1:=HB3.out.k1;go_wp2_with fail;refine(nm_tb t _).mono ?_;rintro e w2 ⟨rfl,hb4⟩;obtain⟨w3,hrun,hM4,hg4⟩:=(HM3.out.below hb4).put hpm (by omega);have hb5:Below w.heap.size w w3:=(hb3.trans (hb4.mono hb3.size)).grown hg4 (Nat.le_trans hb3.size hb4.size) (fun g e=>by cases e;exact Nat.le_refl _);have HM4:=iH hM4;clear hM4 hg4 hb4 d0 d1 hlk;go_wp2;go_roundw
    case rel=>exact⟨k+1,by omega,by go_num,Hq.out,by rw[HT.out];exact HM4.out,hb5⟩
    case measure=>simp[intOf];omega
   ·have Hq:=iH (Hno.out hq);rw[hq]at hlk;clear hq Hst Hno;go_wp2;go_ret;exact⟨by rw[Hq.out];rfl,hb3⟩
  ·have hkn:k=(l.map TbM.name).length:=by have:=Hn.out;simp;omega
   have HT:Hid (diffB (l.map TbM.name)=true):=by show diffB (l.map TbM.name)=true;unfold diffB;rw[<- hkn];exact HR.out
   clear hkn;go_wp2;go_ret;exact⟨by rw[HT.out];rfl,hb⟩
theorem nm_tx (t:TxM) (w:World):Calls Tryz.prog 121 #[t.val] w fun e w'=>e=.returned (.string t.name)∧Below w.heap.size w w':=by
 go_enter Tryz.func121,Tryz.ntmps121;go_wp2;go_ret;exact⟨rfl,(Below.refl _ _).alloc (Nat.le_refl _) _⟩
theorem differ_tx {w:World} {s:Sl} {l:List TxM} (h:TaxesV w s l) :
 Calls Tryz.prog 267 #[.slice s.A s.n s.c,.func (.func 121) #[] #[]] w fun e w'=>e=.returned (.bool (diffB (l.map TxM.name)))∧Below w.heap.size w w':=by
 have Hn:=iH h.len;have H:=iH h;have hs:=h.small;clear h;obtain⟨A,n,c⟩:=s;dsimp only at Hn hs⊢;have hmm:=fun W:World=>run_mapHint (P:=Tryz.prog) 409 9 4 .i64 n Tryz.underlying409 W
 go_enter Tryz.func267,Tryz.ntmps267;go_wp2_with fail;have Hm0:=iH (MapS.made w);have hB0:Below w.heap.size w (w.alloc (.map #[] 0)):=(Below.refl _ _).alloc (Nat.le_refl _) _;go_loopw [13] (fun i wr=>∃k:Nat,k<=n∧i=.int .i64 k∧diffTo (l.map TxM.name) k=true∧MapS wr w.heap.size k (hasS ((l.map TxM.name).take k))∧Below w.heap.size w wr) (fun i _=>n-(intOf i).toNat)
 case atStart=>exact⟨0,Nat.zero_le _,rfl,rfl,Hm0.out,hB0⟩
 case round =>
  obtain⟨k,hk,rfl,hR,hm,hb⟩:=hrel;have HR:=iH hR;have HM:=iH hm;have hsz:=hb.size;clear hR hm hmm Hm0;by_cases hlt:k<n
  ·have hkl:k<l.length:=by have:=Hn.out;omega
   obtain⟨b,off,rfl,hbb,c0,c1⟩:=(H.out.below hb).at_ k hkl;have hmem:=List.getElem_mem hkl;have hpm:=size_max (H.out.each _ hmem).name;have Hst:Hid (hasS ((l.map TxM.name).take k) l[k].name=false->diffTo (l.map TxM.name) (k+1)=true):=fun h=>by
    simp only[diffTo,HR.out,name_at TxM.name l k hkl,h];rfl
   have Hno:Hid (hasS ((l.map TxM.name).take k) l[k].name=true->diffB (l.map TxM.name)=false):=fun h=>diffTo_no (by rw[name_at TxM.name l k hkl];exact h) _ (by simpa using hkl)
   have HT:Hid (hasS ((l.map TxM.name).take (k+1))=fun s=>decide (s=l[k].name) || hasS ((l.map TxM.name).take k) s):=by
    show hasS ((l.map TxM.name).take (k+1))=_;funext s;rw[name_take TxM.name l k hkl,hasS_snoc]
   clear hmem;generalize l[k]=t at *;clear hkl;have hb2:Below w.heap.size w (wr.alloc (.cells #[.string t.name,.slice t.sb.A t.sb.n t.sb.c] 93)):=hb.alloc hsz _;have HM2:=iH (HM.out.below ((Below.refl _ wr).alloc (Nat.le_refl _) (.cells #[.string t.name,.slice t.sb.A t.sb.n t.sb.c] 93)));clear HM;go_wp2_with fail;have HB:=iH (Bk.new wr 93 [.string t.name,.slice t.sb.A t.sb.n t.sb.c]);refine(nm_tx t _).mono ?_;rintro e w1 ⟨rfl,hb1⟩;have hb3:Below w.heap.size w w1:=hb2.trans (hb1.mono (by simp;omega));have HM3:=iH (HM2.out.below hb1);have HB3:=iH (HB.out.below hb1 (by simp));have hlk:=HM3.out.look hpm;clear HM2 HB hb1;cases hq:hasS ((l.map TxM.name).take k) t.name
   ·have Hq:=iH (Hst.out hq);rw[hq]at hlk;clear hq Hst Hno;have d0:=HB3.out.k0;have d1:=HB3.out.k1;go_wp2_with fail;refine(nm_tx t _).mono ?_;rintro e w2 ⟨rfl,hb4⟩;obtain⟨w3,hrun,hM4,hg4⟩:=(HM3.out.below hb4).put hpm (by omega);have hb5:Below w.heap.size w w3:=(hb3.trans (hb4.mono hb3.size)).grown hg4 (Nat.le_trans hb3.size hb4.size) (fun g e=>by cases e;exact Nat.le_refl _);have HM4:=iH hM4;clear hM4 hg4 hb4 d0 d1 hlk;go_wp2;go_roundw
    case rel=>exact⟨k+1,by omega,by go_num,Hq.out,by rw[HT.out];exact HM4.out,hb5⟩
    case measure=>simp[intOf];omega
   ·have Hq:=iH (Hno.out hq);rw[hq]at hlk;clear hq Hst Hno;go_wp2;go_ret;exact⟨by rw[Hq.out];rfl,hb3⟩
  ·have hkn:k=(l.map TxM.name).length:=by have:=Hn.out;simp;omega
   have HT:Hid (diffB (l.map TxM.name)=true):=by show diffB (l.map TxM.name)=true;unfold diffB;rw[<- hkn];exact HR.out
   clear hkn;go_wp2;go_ret;exact⟨by rw[HT.out];rfl,hb⟩
theorem nm_it (t:It) (w:World):Calls Tryz.prog 76 #[t.val] w fun e w'=>e=.returned (.string t.name)∧Below w.heap.size w w':=by
 go_enter Tryz.func76,Tryz.ntmps76;go_wp2;go_ret;exact⟨rfl,(Below.refl _ _).alloc (Nat.le_refl _) _⟩
theorem differ_it {w:World} {s:Sl} {l:List It} (h:ItsV w s l) :
 Calls Tryz.prog 264 #[.slice s.A s.n s.c,.func (.func 76) #[] #[]] w fun e w'=>e=.returned (.bool (diffB (l.map It.name)))∧Below w.heap.size w w':=by
 have Hn:=iH h.len;have H:=iH h;have hs:=h.small;clear h;obtain⟨A,n,c⟩:=s;dsimp only at Hn hs⊢;have hmm:=fun W:World=>run_mapHint (P:=Tryz.prog) 409 9 4 .i64 n Tryz.underlying409 W
 go_enter Tryz.func264,Tryz.ntmps264;go_wp2_with fail;have Hm0:=iH (MapS.made w);have hB0:Below w.heap.size w (w.alloc (.map #[] 0)):=(Below.refl _ _).alloc (Nat.le_refl _) _;go_loopw [13] (fun i wr=>∃k:Nat,k<=n∧i=.int .i64 k∧diffTo (l.map It.name) k=true∧MapS wr w.heap.size k (hasS ((l.map It.name).take k))∧Below w.heap.size w wr) (fun i _=>n-(intOf i).toNat)
 case atStart=>exact⟨0,Nat.zero_le _,rfl,rfl,Hm0.out,hB0⟩
 case round =>
  obtain⟨k,hk,rfl,hR,hm,hb⟩:=hrel;have HR:=iH hR;have HM:=iH hm;have hsz:=hb.size;clear hR hm hmm Hm0;by_cases hlt:k<n
  ·have hkl:k<l.length:=by have:=Hn.out;omega
   obtain⟨b,off,rfl,hbb,c0,c1,c2,c3,c4,c5,c6⟩:=(H.out.below hb).at_ k hkl;have hmem:=List.getElem_mem hkl;have hpm:=size_max (H.out.each _ hmem);have Hst:Hid (hasS ((l.map It.name).take k) l[k].name=false->diffTo (l.map It.name) (k+1)=true):=fun h=>by
    simp only[diffTo,HR.out,name_at It.name l k hkl,h];rfl
   have Hno:Hid (hasS ((l.map It.name).take k) l[k].name=true->diffB (l.map It.name)=false):=fun h=>diffTo_no (by rw[name_at It.name l k hkl];exact h) _ (by simpa using hkl)
   have HT:Hid (hasS ((l.map It.name).take (k+1))=fun s=>decide (s=l[k].name) || hasS ((l.map It.name).take k) s):=by
    show hasS ((l.map It.name).take (k+1))=_;funext s;rw[name_take It.name l k hkl,hasS_snoc]
   clear hmem;generalize l[k]=t at *;clear hkl;have hb2:Below w.heap.size w (wr.alloc (.cells #[.string t.name,.bool t.object,.bool t.mixed,.bool t.coin,.int .i64 t.wear,.int .i64 t.bnd,.int .i64 t.level] 42)):=hb.alloc hsz _;have HM2:=iH (HM.out.below ((Below.refl _ wr).alloc (Nat.le_refl _) (.cells #[.string t.name,.bool t.object,.bool t.mixed,.bool t.coin,.int .i64 t.wear,.int .i64 t.bnd,.int .i64 t.level] 42)));clear HM;go_wp2_with fail;have HB:=iH (Bk.new wr 42 [.string t.name,.bool t.object,.bool t.mixed,.bool t.coin,.int .i64 t.wear,.int .i64 t.bnd,.int .i64 t.level]);refine(nm_it t _).mono ?_;rintro e w1 ⟨rfl,hb1⟩;have hb3:Below w.heap.size w w1:=hb2.trans (hb1.mono (by simp;omega));have HM3:=iH (HM2.out.below hb1);have HB3:=iH (HB.out.below hb1 (by simp));have hlk:=HM3.out.look hpm;clear HM2 HB hb1;cases hq:hasS ((l.map It.name).take k) t.name
   ·have Hq:=iH (Hst.out hq);rw[hq]at hlk;clear hq Hst Hno;have d0:=HB3.out.k0;have d1:=HB3.out.k1;have d2:=HB3.out.k2;have d3:=HB3.out.k3;have d4:=HB3.out.k4;have d5:=HB3.out.k5;have d6:=HB3.out.k6;go_wp2_with fail;refine(nm_it t _).mono ?_;rintro e w2 ⟨rfl,hb4⟩;obtain⟨w3,hrun,hM4,hg4⟩:=(HM3.out.below hb4).put hpm (by omega);have hb5:Below w.heap.size w w3:=(hb3.trans (hb4.mono hb3.size)).grown hg4 (Nat.le_trans hb3.size hb4.size) (fun g e=>by cases e;exact Nat.le_refl _);have HM4:=iH hM4;clear hM4 hg4 hb4 d0 d1 d2 d3 d4 d5 d6 hlk;go_wp2;go_roundw
    case rel=>exact⟨k+1,by omega,by go_num,Hq.out,by rw[HT.out];exact HM4.out,hb5⟩
    case measure=>simp[intOf];omega
   ·have Hq:=iH (Hno.out hq);rw[hq]at hlk;clear hq Hst Hno;go_wp2;go_ret;exact⟨by rw[Hq.out];rfl,hb3⟩
  ·have hkn:k=(l.map It.name).length:=by have:=Hn.out;simp;omega
   have HT:Hid (diffB (l.map It.name)=true):=by show diffB (l.map It.name)=true;unfold diffB;rw[<- hkn];exact HR.out
   clear hkn;go_wp2;go_ret;exact⟨by rw[HT.out];rfl,hb⟩
theorem enter_of {f : FuncId} {fn : Func} {c : Code} (hf : Tryz.prog.funcs[f]? = some fn) (hname : (fn.name == "runtime.NumGoroutine") = false) (hb : fn.body = some c) : ∀ (args : Array Value) (W : World), (callFunc f args).run Tryz.prog W = .ok (.enter f args) W := fun args W => by
 have h1 : fn.name ≠ "runtime.NumGoroutine" := by simpa using hname
 simp[callFunc,hf,h1,hb,mark]
theorem app_nil (v:Value):(#[v] ++ #[]:Array Value)=#[v]:=by simp
theorem fit_it (t:It) (hs:t.name.size<=8192) (w:World) (hT:Tab w):Calls Tryz.prog 259 #[t.val] w fun e w'=>e=.returned (.bool (fitG t.name))∧Below w.heap.size w w':=by
 have hb0:Below w.heap.size w (w.alloc (.cells #[.string t.name,.bool t.object,.bool t.mixed,.bool t.coin,.int .i64 t.wear,.int .i64 t.bnd,.int .i64 t.level] 42)):=(Below.refl _ _).alloc (Nat.le_refl _) _;have HT:=iH (hT.below hb0 hT.1);clear hT;go_enter Tryz.func259,Tryz.ntmps259;go_wp2_with fail;refine(fits_any t.name hs _ HT.out).mono ?_;rintro e w1 ⟨rfl,hb1⟩;go_wp2;go_ret;exact⟨rfl,hb0.trans (hb1.mono (by simp))⟩
theorem fit_ru (t:RuM) (hs:t.name.size<=8192) (w:World) (hT:Tab w):Calls Tryz.prog 261 #[t.val] w fun e w'=>e=.returned (.bool (fitG t.name))∧Below w.heap.size w w':=by
 have hb0:Below w.heap.size w (w.alloc (.cells #[.string t.name,.bool t.spawn,.int .i64 t.level,.int .i64 t.time,.int .i64 t.chance,.int .i64 t.of_,.slice t.st.A t.st.n t.st.c,.slice t.sg.A t.sg.n t.sg.c,.slice t.sb.A t.sb.n t.sb.c] 149)):=(Below.refl _ _).alloc (Nat.le_refl _) _;have HT:=iH (hT.below hb0 hT.1);clear hT;go_enter Tryz.func261,Tryz.ntmps261;go_wp2_with fail;refine(fits_any t.name hs _ HT.out).mono ?_;rintro e w1 ⟨rfl,hb1⟩;go_wp2;go_ret;exact⟨rfl,hb0.trans (hb1.mono (by simp))⟩
theorem fit_tb (t:TbM) (hs:t.name.size<=8192) (w:World) (hT:Tab w):Calls Tryz.prog 262 #[t.val] w fun e w'=>e=.returned (.bool (fitG t.name))∧Below w.heap.size w w':=by
 have hb0:Below w.heap.size w (w.alloc (.cells #[.string t.name,.slice t.sr.A t.sr.n t.sr.c] 173)):=(Below.refl _ _).alloc (Nat.le_refl _) _;have HT:=iH (hT.below hb0 hT.1);clear hT;go_enter Tryz.func262,Tryz.ntmps262;go_wp2_with fail;refine(fits_any t.name hs _ HT.out).mono ?_;rintro e w1 ⟨rfl,hb1⟩;go_wp2;go_ret;exact⟨rfl,hb0.trans (hb1.mono (by simp))⟩
theorem fit_tx (t:TxM) (hs:t.name.size<=8192) (w:World) (hT:Tab w):Calls Tryz.prog 263 #[t.val] w fun e w'=>e=.returned (.bool (fitG t.name))∧Below w.heap.size w w':=by
 have hb0:Below w.heap.size w (w.alloc (.cells #[.string t.name,.slice t.sb.A t.sb.n t.sb.c] 93)):=(Below.refl _ _).alloc (Nat.le_refl _) _;have HT:=iH (hT.below hb0 hT.1);clear hT;go_enter Tryz.func263,Tryz.ntmps263;go_wp2_with fail;refine(fits_any t.name hs _ HT.out).mono ?_;rintro e w1 ⟨rfl,hb1⟩;go_wp2;go_ret;exact⟨rfl,hb0.trans (hb1.mono (by simp))⟩
theorem ent259:∀(args:Array Value) (W:World),(callFunc 259 args).run Tryz.prog W=.ok (.enter 259 args) W:=enter_of Tryz.func259 (by kernel_rfl) rfl
theorem ev125 {w:World} {s:Sl} {l:List It} (h:ItsV w s l) (hT:Tab w):Calls Tryz.prog 258 #[.slice s.A s.n s.c,.func (.func 259) #[] #[]] w fun e w'=>e=.returned (.bool (l.all fun t=>fitG t.name))∧Below w.heap.size w w':=by
 refine every_it 259 #[] ent259 (fun t=>fitG t.name) h ?_;intro t U ht hU;rw[app_nil];exact fit_it t (h.each t ht) U (hT.below hU hT.1)
theorem ent261:∀(args:Array Value) (W:World),(callFunc 261 args).run Tryz.prog W=.ok (.enter 261 args) W:=enter_of Tryz.func261 (by kernel_rfl) rfl
theorem ev127 {w:World} {s:Sl} {l:List RuM} (h:RulesV w s l) (hT:Tab w):Calls Tryz.prog 252 #[.slice s.A s.n s.c,.func (.func 261) #[] #[]] w fun e w'=>e=.returned (.bool (l.all fun t=>fitG t.name))∧Below w.heap.size w w':=by
 refine every_ru 261 #[] ent261 (fun t=>fitG t.name) h ?_;intro t U ht hU;rw[app_nil];exact fit_ru t (h.each t ht).name U (hT.below hU hT.1)
theorem ent262:∀(args:Array Value) (W:World),(callFunc 262 args).run Tryz.prog W=.ok (.enter 262 args) W:=enter_of Tryz.func262 (by kernel_rfl) rfl
theorem ev128 {w:World} {s:Sl} {l:List TbM} (h:TablesV w s l) (hT:Tab w):Calls Tryz.prog 254 #[.slice s.A s.n s.c,.func (.func 262) #[] #[]] w fun e w'=>e=.returned (.bool (l.all fun t=>fitG t.name))∧Below w.heap.size w w':=by
 refine every_tb 262 #[] ent262 (fun t=>fitG t.name) h ?_;intro t U ht hU;rw[app_nil];exact fit_tb t (h.each t ht).name U (hT.below hU hT.1)
theorem ent263:∀(args:Array Value) (W:World),(callFunc 263 args).run Tryz.prog W=.ok (.enter 263 args) W:=enter_of Tryz.func263 (by kernel_rfl) rfl
theorem ev129 {w:World} {s:Sl} {l:List TxM} (h:TaxesV w s l) (hT:Tab w):Calls Tryz.prog 256 #[.slice s.A s.n s.c,.func (.func 263) #[] #[]] w fun e w'=>e=.returned (.bool (l.all fun t=>fitG t.name))∧Below w.heap.size w w':=by
 refine every_tx 263 #[] ent263 (fun t=>fitG t.name) h ?_;intro t U ht hU;rw[app_nil];exact fit_tx t (h.each t ht).name U (hT.below hU hT.1)
def fitB (m:CatM):Bool:=(m.items.all fun t=>fitG t.name) && (m.rules.all fun t=>fitG t.name) && (m.tables.all fun t=>fitG t.name) && (m.taxes.all fun t=>fitG t.name)
def diffC (m:CatM):Bool:=diffB (m.items.map It.name) && diffB (m.rules.map RuM.name) && diffB (m.tables.map TbM.name) && diffB (m.taxes.map TxM.name)
theorem fitC_any {w:World} {m:CatM} (h:m.Ok w) (hT:Tab w):Calls Tryz.prog 173 #[m.val] w fun e w'=>e=.returned (.bool (fitB m))∧Below w.heap.size w w':=by
 obtain⟨items,rules,tables,taxes,⟨Ai,ni,ci⟩,⟨Ar,nr,cr⟩,⟨At,nt,ct⟩,⟨Ax,nx,cx⟩⟩:=m;have X0:Below w.heap.size w (w.alloc (.cells #[.slice Ai ni ci,.slice Ar nr cr,.slice At nt ct,.slice Ax nx cx] 28)):=(Below.refl _ _).alloc (Nat.le_refl _) _;have k0:Bk (w.alloc (.cells #[.slice Ai ni ci,.slice Ar nr cr,.slice At nt ct,.slice Ax nx cx] 28)) w.heap.size 28 [.slice Ai ni ci,.slice Ar nr cr,.slice At nt ct,.slice Ax nx cx]:=Bk.new w 28 _;have G0:=Below.refl (w.alloc (.cells #[.slice Ai ni ci,.slice Ar nr cr,.slice At nt ct,.slice Ax nx cx] 28)).heap.size (w.alloc (.cells #[.slice Ai ni ci,.slice Ar nr cr,.slice At nt ct,.slice Ax nx cx] 28));have K0:Hid (∀W,Below (w.alloc (.cells #[.slice Ai ni ci,.slice Ar nr cr,.slice At nt ct,.slice Ax nx cx] 28)).heap.size (w.alloc (.cells #[.slice Ai ni ci,.slice Ar nr cr,.slice At nt ct,.slice Ax nx cx] 28)) W->Calls Tryz.prog 258 #[.slice Ai ni ci,.func (.func 259) #[] #[]] W fun e w'=>e=.returned (.bool (items.all fun t=>fitG t.name))∧Below W.heap.size W w'):=fun W hW =>
  ev125 (s:=⟨Ai,ni,ci⟩) ((h.items.below X0).below hW) ((hT.below X0 hT.1).below hW (by have:=hT.1;simp;omega))
 have K1:Hid (∀W,Below (w.alloc (.cells #[.slice Ai ni ci,.slice Ar nr cr,.slice At nt ct,.slice Ax nx cx] 28)).heap.size (w.alloc (.cells #[.slice Ai ni ci,.slice Ar nr cr,.slice At nt ct,.slice Ax nx cx] 28)) W->Calls Tryz.prog 252 #[.slice Ar nr cr,.func (.func 261) #[] #[]] W fun e w'=>e=.returned (.bool (rules.all fun t=>fitG t.name))∧Below W.heap.size W w'):=fun W hW =>
  ev127 (s:=⟨Ar,nr,cr⟩) ((h.rules.below X0).below hW) ((hT.below X0 hT.1).below hW (by have:=hT.1;simp;omega))
 have K2:Hid (∀W,Below (w.alloc (.cells #[.slice Ai ni ci,.slice Ar nr cr,.slice At nt ct,.slice Ax nx cx] 28)).heap.size (w.alloc (.cells #[.slice Ai ni ci,.slice Ar nr cr,.slice At nt ct,.slice Ax nx cx] 28)) W->Calls Tryz.prog 254 #[.slice At nt ct,.func (.func 262) #[] #[]] W fun e w'=>e=.returned (.bool (tables.all fun t=>fitG t.name))∧Below W.heap.size W w'):=fun W hW =>
  ev128 (s:=⟨At,nt,ct⟩) ((h.tables.below X0).below hW) ((hT.below X0 hT.1).below hW (by have:=hT.1;simp;omega))
 have K3:Hid (∀W,Below (w.alloc (.cells #[.slice Ai ni ci,.slice Ar nr cr,.slice At nt ct,.slice Ax nx cx] 28)).heap.size (w.alloc (.cells #[.slice Ai ni ci,.slice Ar nr cr,.slice At nt ct,.slice Ax nx cx] 28)) W->Calls Tryz.prog 256 #[.slice Ax nx cx,.func (.func 263) #[] #[]] W fun e w'=>e=.returned (.bool (taxes.all fun t=>fitG t.name))∧Below W.heap.size W w'):=fun W hW =>
  ev129 (s:=⟨Ax,nx,cx⟩) ((h.taxes.below X0).below hW) ((hT.below X0 hT.1).below hW (by have:=hT.1;simp;omega))
 have HV:Hid (fitB ⟨items,rules,tables,taxes,⟨Ai,ni,ci⟩,⟨Ar,nr,cr⟩,⟨At,nt,ct⟩,⟨Ax,nx,cx⟩⟩=((items.all fun t=>fitG t.name) && (rules.all fun t=>fitG t.name) && (tables.all fun t=>fitG t.name) && (taxes.all fun t=>fitG t.name))):=rfl;generalize fitB ⟨items,rules,tables,taxes,⟨Ai,ni,ci⟩,⟨Ar,nr,cr⟩,⟨At,nt,ct⟩,⟨Ax,nx,cx⟩⟩=R at *;generalize(items.all fun t=>fitG t.name)=q0 at *;generalize(rules.all fun t=>fitG t.name)=q1 at *;generalize(tables.all fun t=>fitG t.name)=q2 at *;generalize(taxes.all fun t=>fitG t.name)=q3 at *;clear h hT;go_enter Tryz.func173,Tryz.ntmps173;go_wp2_with fail;refine(K0.out _ G0).mono ?_;rintro e w1 ⟨rfl,hb1⟩;have k1:=k0.below hb1 k0.lt;have G1:=G0.trans (hb1.mono G0.size);have X1:=X0.trans (hb1.mono X0.size);have s1_0:=k1.k0;have s1_1:=k1.k1;have s1_2:=k1.k2;have s1_3:=k1.k3;clear hb1;cases q0
 ·go_wp2;go_ret;exact⟨by rw[HV.out];rfl,X1⟩
 ·skip
  go_wp2_with fail;refine(K1.out _ G1).mono ?_;rintro e w2 ⟨rfl,hb2⟩;have k2:=k1.below hb2 k1.lt;have G2:=G1.trans (hb2.mono G1.size);have X2:=X1.trans (hb2.mono X1.size);clear s1_0 s1_1 s1_2 s1_3;have s2_0:=k2.k0;have s2_1:=k2.k1;have s2_2:=k2.k2;have s2_3:=k2.k3;clear hb2;cases q1
  ·go_wp2;go_ret;exact⟨by rw[HV.out];rfl,X2⟩
  ·skip
   go_wp2_with fail;refine(K2.out _ G2).mono ?_;rintro e w3 ⟨rfl,hb3⟩;have k3:=k2.below hb3 k2.lt;have G3:=G2.trans (hb3.mono G2.size);have X3:=X2.trans (hb3.mono X2.size);clear s2_0 s2_1 s2_2 s2_3;have s3_0:=k3.k0;have s3_1:=k3.k1;have s3_2:=k3.k2;have s3_3:=k3.k3;clear hb3;cases q2
   ·go_wp2;go_ret;exact⟨by rw[HV.out];rfl,X3⟩
   ·skip
    go_wp2_with fail;refine(K3.out _ G3).mono ?_;rintro e w4 ⟨rfl,hb4⟩;have k4:=k3.below hb4 k3.lt;have G4:=G3.trans (hb4.mono G3.size);have X4:=X3.trans (hb4.mono X3.size);clear s3_0 s3_1 s3_2 s3_3;have s4_0:=k4.k0;have s4_1:=k4.k1;have s4_2:=k4.k2;have s4_3:=k4.k3;clear hb4;cases q3
    ·go_wp2;go_ret;exact⟨by rw[HV.out];rfl,X4⟩
    ·go_wp2;go_ret;exact⟨by rw[HV.out];rfl,X4⟩
theorem diffC_any {w:World} {m:CatM} (h:m.Ok w):Calls Tryz.prog 174 #[m.val] w fun e w'=>e=.returned (.bool (diffC m))∧Below w.heap.size w w':=by
 obtain⟨items,rules,tables,taxes,⟨Ai,ni,ci⟩,⟨Ar,nr,cr⟩,⟨At,nt,ct⟩,⟨Ax,nx,cx⟩⟩:=m;have X0:Below w.heap.size w (w.alloc (.cells #[.slice Ai ni ci,.slice Ar nr cr,.slice At nt ct,.slice Ax nx cx] 28)):=(Below.refl _ _).alloc (Nat.le_refl _) _;have k0:Bk (w.alloc (.cells #[.slice Ai ni ci,.slice Ar nr cr,.slice At nt ct,.slice Ax nx cx] 28)) w.heap.size 28 [.slice Ai ni ci,.slice Ar nr cr,.slice At nt ct,.slice Ax nx cx]:=Bk.new w 28 _;have G0:=Below.refl (w.alloc (.cells #[.slice Ai ni ci,.slice Ar nr cr,.slice At nt ct,.slice Ax nx cx] 28)).heap.size (w.alloc (.cells #[.slice Ai ni ci,.slice Ar nr cr,.slice At nt ct,.slice Ax nx cx] 28));have K0:Hid (∀W,Below (w.alloc (.cells #[.slice Ai ni ci,.slice Ar nr cr,.slice At nt ct,.slice Ax nx cx] 28)).heap.size (w.alloc (.cells #[.slice Ai ni ci,.slice Ar nr cr,.slice At nt ct,.slice Ax nx cx] 28)) W->Calls Tryz.prog 264 #[.slice Ai ni ci,.func (.func 76) #[] #[]] W fun e w'=>e=.returned (.bool (diffB (items.map It.name)))∧Below W.heap.size W w'):=fun W hW =>
  differ_it (s:=⟨Ai,ni,ci⟩) ((h.items.below X0).below hW)
 have K1:Hid (∀W,Below (w.alloc (.cells #[.slice Ai ni ci,.slice Ar nr cr,.slice At nt ct,.slice Ax nx cx] 28)).heap.size (w.alloc (.cells #[.slice Ai ni ci,.slice Ar nr cr,.slice At nt ct,.slice Ax nx cx] 28)) W->Calls Tryz.prog 265 #[.slice Ar nr cr,.func (.func 117) #[] #[]] W fun e w'=>e=.returned (.bool (diffB (rules.map RuM.name)))∧Below W.heap.size W w'):=fun W hW =>
  differ_ru (s:=⟨Ar,nr,cr⟩) ((h.rules.below X0).below hW)
 have K2:Hid (∀W,Below (w.alloc (.cells #[.slice Ai ni ci,.slice Ar nr cr,.slice At nt ct,.slice Ax nx cx] 28)).heap.size (w.alloc (.cells #[.slice Ai ni ci,.slice Ar nr cr,.slice At nt ct,.slice Ax nx cx] 28)) W->Calls Tryz.prog 266 #[.slice At nt ct,.func (.func 119) #[] #[]] W fun e w'=>e=.returned (.bool (diffB (tables.map TbM.name)))∧Below W.heap.size W w'):=fun W hW =>
  differ_tb (s:=⟨At,nt,ct⟩) ((h.tables.below X0).below hW)
 have K3:Hid (∀W,Below (w.alloc (.cells #[.slice Ai ni ci,.slice Ar nr cr,.slice At nt ct,.slice Ax nx cx] 28)).heap.size (w.alloc (.cells #[.slice Ai ni ci,.slice Ar nr cr,.slice At nt ct,.slice Ax nx cx] 28)) W->Calls Tryz.prog 267 #[.slice Ax nx cx,.func (.func 121) #[] #[]] W fun e w'=>e=.returned (.bool (diffB (taxes.map TxM.name)))∧Below W.heap.size W w'):=fun W hW =>
  differ_tx (s:=⟨Ax,nx,cx⟩) ((h.taxes.below X0).below hW)
 have HV:Hid (diffC ⟨items,rules,tables,taxes,⟨Ai,ni,ci⟩,⟨Ar,nr,cr⟩,⟨At,nt,ct⟩,⟨Ax,nx,cx⟩⟩=(diffB (items.map It.name) && diffB (rules.map RuM.name) && diffB (tables.map TbM.name) && diffB (taxes.map TxM.name))):=rfl;generalize diffC ⟨items,rules,tables,taxes,⟨Ai,ni,ci⟩,⟨Ar,nr,cr⟩,⟨At,nt,ct⟩,⟨Ax,nx,cx⟩⟩=R at *;generalize diffB (items.map It.name)=q0 at *;generalize diffB (rules.map RuM.name)=q1 at *;generalize diffB (tables.map TbM.name)=q2 at *;generalize diffB (taxes.map TxM.name)=q3 at *;clear h;go_enter Tryz.func174,Tryz.ntmps174;go_wp2_with fail;refine(K0.out _ G0).mono ?_;rintro e w1 ⟨rfl,hb1⟩;have k1:=k0.below hb1 k0.lt;have G1:=G0.trans (hb1.mono G0.size);have X1:=X0.trans (hb1.mono X0.size);have s1_0:=k1.k0;have s1_1:=k1.k1;have s1_2:=k1.k2;have s1_3:=k1.k3;clear hb1;cases q0
 ·go_wp2;go_ret;exact⟨by rw[HV.out];rfl,X1⟩
 ·skip
  go_wp2_with fail;refine(K1.out _ G1).mono ?_;rintro e w2 ⟨rfl,hb2⟩;have k2:=k1.below hb2 k1.lt;have G2:=G1.trans (hb2.mono G1.size);have X2:=X1.trans (hb2.mono X1.size);clear s1_0 s1_1 s1_2 s1_3;have s2_0:=k2.k0;have s2_1:=k2.k1;have s2_2:=k2.k2;have s2_3:=k2.k3;clear hb2;cases q1
  ·go_wp2;go_ret;exact⟨by rw[HV.out];rfl,X2⟩
  ·skip
   go_wp2_with fail;refine(K2.out _ G2).mono ?_;rintro e w3 ⟨rfl,hb3⟩;have k3:=k2.below hb3 k2.lt;have G3:=G2.trans (hb3.mono G2.size);have X3:=X2.trans (hb3.mono X2.size);clear s2_0 s2_1 s2_2 s2_3;have s3_0:=k3.k0;have s3_1:=k3.k1;have s3_2:=k3.k2;have s3_3:=k3.k3;clear hb3;cases q2
   ·go_wp2;go_ret;exact⟨by rw[HV.out];rfl,X3⟩
   ·skip
    go_wp2_with fail;refine(K3.out _ G3).mono ?_;rintro e w4 ⟨rfl,hb4⟩;have k4:=k3.below hb4 k3.lt;have G4:=G3.trans (hb4.mono G3.size);have X4:=X3.trans (hb4.mono X3.size);clear s3_0 s3_1 s3_2 s3_3;have s4_0:=k4.k0;have s4_1:=k4.k1;have s4_2:=k4.k2;have s4_3:=k4.k3;clear hb4;cases q3
    ·go_wp2;go_ret;exact⟨by rw[HV.out];rfl,X4⟩
    ·go_wp2;go_ret;exact⟨by rw[HV.out];rfl,X4⟩
end
end Go.Proofs.YtiecjoijnkghbaaGreatDoor

/- MarkMany: the walk. A printed mark whose names are words is short. -/
import Derived.Test.YtocodlpgaamblaaGreatDoorO10
import Derived.Test.YtocodlpgaamblaaGreatDoorO15
import Derived.Test.YtocodlpgaamblaaGreatDoorO17
import Derived.Test.YtocodlpgaamblaaGreatDoorO19
set_option linter.unusedVariables false
set_option linter.unusedSimpArgs false
set_option maxRecDepth 100000
set_option maxHeartbeats 2000000
open Go.RowKit
namespace Go.Proofs.YtocodlpgaamblaaGreatDoor
def SomeS (W:World) (k:Nat) (e:Ending) (w':World):Prop:=∃s:ByteArray,s.size<=k∧e=.returned (.string s)∧Below W.heap.size W w'
theorem row_str (l:List ByteArray) (j:Nat) (hj:j<l.length) (w:World):(w.alloc (.cells (l.map Value.string).toArray 9)).cell? ⟨w.heap.size,j,none⟩=some (.string l[j]):=by
 rw[(Bk.new w 9 (l.map Value.string)).cell j];simp[hj]
def words:List ByteArray:=[⟨#[32,97,110,100,32]⟩,⟨#[32,111,114,32]⟩,⟨#[32,110,111,116,32]⟩,⟨#[32,40,32]⟩,⟨#[32,41,32]⟩,⟨#[32,107,105,110,100,32,116,114,97,100,101,32]⟩,⟨#[32,97,99,116,111,114,32,51,32]⟩,⟨#[32,114,117,108,101,32,115,109,101,108,116,32]⟩,⟨#[32,116,105,99,107,32,50,46,46,57,32]⟩,⟨#[32,105,116,101,109,32,103,111,108,100,32]⟩,⟨#[32,109,111,114,101,32,53,32,103,111,108,100,32]⟩,⟨#[32,115,116,101,112,32,49,32,46,32,46,32,52,32]⟩,⟨#[32,97,99,99,111,117,110,116,32,49,48,55,51,55,52,49,56,50,53,32]⟩,⟨#[32,107,105,110,100,32,115,109,105,116,104,32]⟩,⟨#[32,105,116,101,109,32,110,111,116,104,105,110,103,32]⟩,⟨#[32,116,105,99,107,32,57,46,46,50,32]⟩,⟨#[32,55,32]⟩,⟨#[32,46,46,32]⟩,⟨#[32,35,32,99,10]⟩,⟨#[]⟩,⟨#[45]⟩,⟨#[32,120,32]⟩]
theorem words_short:∀s∈words,s.size<=24:=by decide
theorem words_row (j:Nat) (hj:j<22):∃x:ByteArray,x.size<=24∧∀w:World,(w.alloc (.cells #[.string ⟨#[32,97,110,100,32]⟩,.string ⟨#[32,111,114,32]⟩,.string ⟨#[32,110,111,116,32]⟩,.string ⟨#[32,40,32]⟩,.string ⟨#[32,41,32]⟩,.string ⟨#[32,107,105,110,100,32,116,114,97,100,101,32]⟩,.string ⟨#[32,97,99,116,111,114,32,51,32]⟩,.string ⟨#[32,114,117,108,101,32,115,109,101,108,116,32]⟩,.string ⟨#[32,116,105,99,107,32,50,46,46,57,32]⟩,.string ⟨#[32,105,116,101,109,32,103,111,108,100,32]⟩,.string ⟨#[32,109,111,114,101,32,53,32,103,111,108,100,32]⟩,.string ⟨#[32,115,116,101,112,32,49,32,46,32,46,32,52,32]⟩,.string ⟨#[32,97,99,99,111,117,110,116,32,49,48,55,51,55,52,49,56,50,53,32]⟩,.string ⟨#[32,107,105,110,100,32,115,109,105,116,104,32]⟩,.string ⟨#[32,105,116,101,109,32,110,111,116,104,105,110,103,32]⟩,.string ⟨#[32,116,105,99,107,32,57,46,46,50,32]⟩,.string ⟨#[32,55,32]⟩,.string ⟨#[32,46,46,32]⟩,.string ⟨#[32,35,32,99,10]⟩,.string ⟨#[]⟩,.string ⟨#[45]⟩,.string ⟨#[32,120,32]⟩] 9)).cell? ⟨w.heap.size,j,none⟩=some (.string x) :=
 ⟨words[j]'hj,words_short _ (List.getElem_mem _),fun w=>row_str words j hj w⟩
theorem pair_row (a b:ByteArray) (n:Nat) (ha:a.size<=n) (hb:b.size<=n) (j:Nat) (hj:j<2):∃x:ByteArray,x.size<=n∧∀w:World,(w.alloc (.cells #[.string a,.string b] 9)).cell? ⟨w.heap.size,j,none⟩=some (.string x) :=
 ⟨[a,b][j]'hj,by
  have:=List.getElem_mem (l:=[a,b]) hj
  simp only[List.mem_cons,List.not_mem_nil,or_false]at this
  rcases this with e|e <;> rw[e] <;> assumption,fun w=>row_str [a,b] j hj w⟩
theorem word_any (n:Int) (hn:In64 n) (W:World):Calls Tryz.prog 13 #[.int .i64 n] W (SomeS W 24):=by
 have KA:=around_any n 22;have h0:=around_lo n 22 (by decide);have h1:=around_hi n 22 (by decide);obtain⟨j,hj⟩:∃j:Nat,around n 22=j:=⟨(around n 22).toNat,by omega⟩;rw[hj]at KA h0 h1;obtain⟨x,hx,hc⟩:=words_row j (by omega);have hcw:=hc W;have hjI:(j:Int)<22:=h1;have KA:=iH (KA (W.alloc (.cells #[.string ⟨#[32,97,110,100,32]⟩,.string ⟨#[32,111,114,32]⟩,.string ⟨#[32,110,111,116,32]⟩,.string ⟨#[32,40,32]⟩,.string ⟨#[32,41,32]⟩,.string ⟨#[32,107,105,110,100,32,116,114,97,100,101,32]⟩,.string ⟨#[32,97,99,116,111,114,32,51,32]⟩,.string ⟨#[32,114,117,108,101,32,115,109,101,108,116,32]⟩,.string ⟨#[32,116,105,99,107,32,50,46,46,57,32]⟩,.string ⟨#[32,105,116,101,109,32,103,111,108,100,32]⟩,.string ⟨#[32,109,111,114,101,32,53,32,103,111,108,100,32]⟩,.string ⟨#[32,115,116,101,112,32,49,32,46,32,46,32,52,32]⟩,.string ⟨#[32,97,99,99,111,117,110,116,32,49,48,55,51,55,52,49,56,50,53,32]⟩,.string ⟨#[32,107,105,110,100,32,115,109,105,116,104,32]⟩,.string ⟨#[32,105,116,101,109,32,110,111,116,104,105,110,103,32]⟩,.string ⟨#[32,116,105,99,107,32,57,46,46,50,32]⟩,.string ⟨#[32,55,32]⟩,.string ⟨#[32,46,46,32]⟩,.string ⟨#[32,35,32,99,10]⟩,.string ⟨#[]⟩,.string ⟨#[45]⟩,.string ⟨#[32,120,32]⟩] 9)) hn.1 hn.2 (by decide) (by decide));have y:Below W.heap.size W (W.alloc (.cells #[.string ⟨#[32,97,110,100,32]⟩,.string ⟨#[32,111,114,32]⟩,.string ⟨#[32,110,111,116,32]⟩,.string ⟨#[32,40,32]⟩,.string ⟨#[32,41,32]⟩,.string ⟨#[32,107,105,110,100,32,116,114,97,100,101,32]⟩,.string ⟨#[32,97,99,116,111,114,32,51,32]⟩,.string ⟨#[32,114,117,108,101,32,115,109,101,108,116,32]⟩,.string ⟨#[32,116,105,99,107,32,50,46,46,57,32]⟩,.string ⟨#[32,105,116,101,109,32,103,111,108,100,32]⟩,.string ⟨#[32,109,111,114,101,32,53,32,103,111,108,100,32]⟩,.string ⟨#[32,115,116,101,112,32,49,32,46,32,46,32,52,32]⟩,.string ⟨#[32,97,99,99,111,117,110,116,32,49,48,55,51,55,52,49,56,50,53,32]⟩,.string ⟨#[32,107,105,110,100,32,115,109,105,116,104,32]⟩,.string ⟨#[32,105,116,101,109,32,110,111,116,104,105,110,103,32]⟩,.string ⟨#[32,116,105,99,107,32,57,46,46,50,32]⟩,.string ⟨#[32,55,32]⟩,.string ⟨#[32,46,46,32]⟩,.string ⟨#[32,35,32,99,10]⟩,.string ⟨#[]⟩,.string ⟨#[45]⟩,.string ⟨#[32,120,32]⟩] 9)):=(Below.refl _ _).alloc (Nat.le_refl _) _;have Y:=iH y;clear hj hc y hn h0 h1;go_enter Tryz.func13,Tryz.ntmps13;go_wp2_with fail;refine KA.out.mono ?_;rintro e w' ⟨rfl,rfl⟩;clear KA;have hx2:Hid (x.size<=24):=iH hx;clear hx;go_wp2;go_ret;exact⟨x,hx2.out,rfl,Y.out⟩
theorem nmAt_16 {l:List ByteArray} (h:∀s∈l,s.size<=16) (k:Int):(nmAt l k).data.toList.length<=16:=by
 unfold nmAt;cases hq:l[k.toNat]? with
 | none=>decide
 | some s=>exact h s (List.mem_of_getElem? hq)
theorem kind_16:∀s∈kindNs,s.size<=16:=by decide
theorem condT_16 {rn it:List ByteArray} (h1:∀s∈rn,s.size<=16) (h2:∀s∈it,s.size<=16) {op:ByteArray} (ho:isOp op=true) {a b:Int} (ha:In64 a) (hb:In64 b):(condT rn it op a b).length<=60:=by
 have i1:=Lib.itoa_length_le a ha.1 ha.2;have i2:=Lib.itoa_length_le b hb.1 hb.2;have o:=isOp_size ho;have k0:=nmAt_16 kind_16 a;have k1:=nmAt_16 h1 a;have k2:=nmAt_16 h2 a;have k3:=nmAt_16 h2 b;unfold condT;simp only[List.length_append,List.length_cons,List.length_nil]
 repeat (first | omega | (simp only[List.length_append,List.length_cons,List.length_nil];omega) | split)
theorem textL_16 {rn it:List ByteArray} {op:ByteArray} (h:op=sAnd∨op=sOr∨op=sNot) {ks:List Mk} (hk:∀k∈ks,(Mk.text rn it k).length+7<=70*k.size):∀f,(Mk.textL rn it op f ks).length<=70*Mk.sizeL ks:=by
 induction ks with
 | nil=>intro f;simp[Mk.textL]
 | cons x xs ih =>
   intro f;have h1:=hk x (List.mem_cons_self ..);have h2:=ih (fun k hk'=>hk k (List.mem_cons_of_mem _ hk')) false;have h3:=wrapT_len (parT op x.op) (Mk.text rn it x);have h4:=sepT_len h f;simp only[Mk.textL,List.length_append,Mk.sizeL];omega
theorem text_16 {rn it:List ByteArray} {ni nr:Nat} (h1:∀s∈rn,s.size<=16) (h2:∀s∈it,s.size<=16):∀m:Mk,m.In->m.check ni nr=0->(Mk.text rn it m).length+7<=70*m.size:=by
 intro m
 induction m using Mk.ind with
 | h op a b ks ih =>
   intro hi hc;obtain⟨c1,c2⟩:=check_node hc;cases hi with
   | mk _ _ _ _ ha hb each =>
     have hks:=fun k hk=>ih k hk (each k hk) (c2 k hk)
     simp only[Mk.text,Mk.size];split
     ·rename_i hj
      have:=textL_16 (op:=op) (by rcases hj with h | h <;> simp[h]) hks true;omega
     ·rename_i hj
      split
      ·rename_i hn
       have:=textL_16 (op:=op) (by simp[hn]) hks true;simp only[List.length_append,List.length_cons,List.length_nil];omega
      ·rename_i hn
       simp only[not_or]at hj;obtain⟨ho,_,_,_⟩:=alone_cond c1 hj.1 hj.2 hn;have:=condT_16 h1 h2 ho ha hb;omega
theorem fit_16 {s:ByteArray} (h:fitG s=true):s.size<=16:=by
 unfold fitG at h;split at h
 ·rename_i t ht
  simp only[Bool.and_eq_true,decide_eq_true_eq]at h;obtain⟨⟨h1,h2⟩,h3⟩:=h;obtain⟨q,hq,rfl⟩:=toks_mem (s:=s) (t:=t) (skipS s 0) (by show t∈toks s;rw[ht];exact List.mem_singleton.2 rfl);rw[<- h3];revert h1 h2;unfold nextT;split
  ·split
   ·intro h;cases h
   ·intro _ _;show(s.extract q _).size<=16;rw[ByteArray.size_extract];omega
  ·split
   ·split
    ·intro h;cases h
    ·intro _ h;cases h
   ·split
    ·intro _ h;cases h
    ·split
     ·split
      ·intro _ h;cases h
      ·intro h;cases h
     ·intro h;cases h
 ·cases h
theorem code_names {m:CatM} (h:codeC m=0):(∀s∈m.rules.map RuM.name,s.size<=16)∧(∀s∈m.items.map It.name,s.size<=16):=by
 have hf:fitB m=true:=by
  unfold codeC codeOf at h;cases hb:fitB m
  ·rw[hb]at h;cases hl:limC m <;> simp[hl]at h
  ·rfl
 unfold fitB at hf;simp only[Bool.and_eq_true,List.all_eq_true]at hf;refine⟨fun s hs=>?_,fun s hs=>?_⟩
 ·obtain⟨x,hx,rfl⟩:=List.mem_map.1 hs;exact fit_16 (hf.1.1.2 x hx)
 ·obtain⟨x,hx,rfl⟩:=List.mem_map.1 hs;exact fit_16 (hf.1.1.1 x hx)
theorem print_short {rn it:List ByteArray} {m:Mk} (h1:∀s∈rn,s.size<=16) (h2:∀s∈it,s.size<=16) (hi:m.In):(printS rn it m).size<=4480:=by
 unfold printS;split
 ·rename_i he
  have hv:validM it.length rn.length m=0:=by
   unfold printE at he;split at he
   ·exact he
   ·rename_i h;exact Classical.not_not.1 h
  obtain⟨v1,v2⟩:=valid_zero hv;have:=text_16 h1 h2 m hi v2;show(Mk.text rn it m).toArray.size<=4480;rw[List.size_toArray];omega
 ·decide
end Go.Proofs.YtocodlpgaamblaaGreatDoor

/- bytes of a text · one block of the call's own may turn, the rest stays · a text that is ranged over, while memory grows behind the iterator · great numbers as lists of words, the least first: the plain laws -/
import Derived.Test.YtfhmcahfjoliiaaGreatDoorPk02
import Derived.Laws.RangeAny
import Derived.Test.YtfhmcahfjoliiaaGreatDoorOwn
import Derived.Test.YtfhmcahfjoliiaaGreatDoorPk01
set_option maxRecDepth 20000
set_option maxHeartbeats 8000000
set_option linter.unusedSimpArgs false
set_option linter.unusedVariables false
namespace Go.Proofs.YtfhmcahfjoliiaaGreatDoor
section
open Go.RowKit

/-- the byte at k -/
def bat (s:ByteArray) (k:Nat):Nat:=if h:k < s.size then (s[k]'h).toNat else 0
theorem bat_eq {s:ByteArray} {k:Nat} (h:k < s.size):(s[k]'h).toNat=bat s k:=by simp [bat,h]
theorem bat_lt (s:ByteArray) (k:Nat):bat s k < 256:=by
  unfold bat;split
  · exact UInt8.toNat_lt _
  · omega
/-- is the byte at k a digit? -/
def digAt (s:ByteArray) (k:Nat):Bool:=inB (bat s k) 48 57
/-- the digit at k -/
def dgt (s:ByteArray) (k:Nat):Int:=(bat s k:Int)-48
def allDig (s:ByteArray) (k:Nat):Bool:=(List.range k).all (digAt s)
theorem allDig_succ {s:ByteArray} {k:Nat} (h:allDig s k=true) (hk:digAt s k=true):allDig s (k+1)=true:=by
  unfold allDig at *;rw [List.range_succ,List.all_append,h];simp [hk]
theorem allDig_at {s:ByteArray} {n k:Nat} (h:allDig s n=true) (hk:k < n):digAt s k=true:=by
  unfold allDig at h;rw [List.all_eq_true] at h;exact h k (List.mem_range.2 hk)
theorem allDig_no {s:ByteArray} {n k:Nat} (hk:k < n) (h:digAt s k=false):allDig s n=false:=by
  rw [← Bool.not_eq_true];intro hh;rw [allDig_at hh hk] at h;cases h
theorem digAt_true {s:ByteArray} {k:Nat}:digAt s k=true↔48≤bat s k∧bat s k≤57:=by
  unfold digAt;rw [inB_true];omega
theorem dgt_bd {s:ByteArray} {k:Nat} (h:digAt s k=true):0≤dgt s k∧dgt s k≤9:=by
  have:=digAt_true.1 h;unfold dgt;omega

/-- the next rune where a text is ranged over, ASCII or not -/
theorem next_ascii {P:Program} (w:World) (s:ByteArray) (k:Nat) (ty:TypeId) (h:k < s.size) (ha:bat s k < 128):
    (Instr.next (.pointer (some ⟨w.heap.size,0,none⟩)) true ty).run P (w.iter s k)=.ok (.tuple #[.bool true,.int .i64 k,.int .i32 (bat s k)]) (w.iter s (k+1)):=by
  rw [← bat_eq h];exact run_next_ascii w s k ty h (by rw [bat_eq h];exact ha)
theorem next_high {P:Program} (w:World) (s:ByteArray) (k:Nat) (h:k < s.size) (ha:¬ bat s k < 128):
    ∃ (r:Nat) (q:Nat),128≤r∧r≤2147483647∧∀ ty,(Instr.next (.pointer (some ⟨w.heap.size,0,none⟩)) true ty).run P (w.iter s k)=.ok (.tuple #[.bool true,.int .i64 k,.int .i32 r]) (w.iter s q):=
  ⟨_,_,(decode_high s k h (by rw [bat_eq h];omega)).1,decode_le s k,fun ty=>run_next_any w s k ty h⟩

theorem iter_below (w:World) (s:ByteArray) (k:Nat):Below w.heap.size w (w.iter s k):=boxed_below w _

/-- ref.Digit -/
theorem Digit_any (n:Int) (w:World):Calls Tryz.prog 37 #[.int .u8 n] w (Pure (.bool (inB n 48 57)) w):=by
  go_enter Tryz.func37,Tryz.ntmps37;go_wp2
  all_goals
    go_ret;refine Pure.intro ?_;simp only [inB];simp [*]
    try omega

/-- what is wrong with a text of digits -/
def digsE (s:ByteArray):Int:=if s.size < 1 then 1 else if 200 < s.size then 1 else if allDig s s.size then 0 else 7
theorem digsE_zero {s:ByteArray} (h:digsE s=0):1≤s.size∧s.size≤200∧allDig s s.size=true:=by
  unfold digsE at h
  split at h
  · omega
  · split at h
    · omega
    · split at h
      · refine ⟨by omega,by omega,by assumption⟩
      · omega

theorem empty_toList {s:ByteArray} (h:0 < s.size):(s.toList==[])=false:=by
  rw [ByteArray.toList_eq];rw [beq_eq_false_iff_ne];intro hh;have:s.data.toList.length=0:=by rw [hh];rfl
  have e:s.size=s.data.toList.length:=Array.length_toList.symm;omega
end
section
open Go.RowKit

/-- of what was there only block z may have turned -/
structure Chg (z:Nat) (w w':World):Prop where
  os:w'.os=w.os
  tape:w'.tape=w.tape
  output:w'.output=w.output
  size:w.heap.size≤w'.heap.size
  block:∀ b,b < w.heap.size→b≠z→w'.heap[b]?=w.heap[b]?
theorem Chg.refl (z:Nat) (w:World):Chg z w w:=⟨rfl,rfl,rfl,Nat.le_refl _,fun _ _ _=>rfl⟩
theorem Chg.trans {z:Nat} {a b c:World} (h:Chg z a b) (k:Chg z b c):Chg z a c:=
  ⟨k.os.trans h.os,k.tape.trans h.tape,k.output.trans h.output,Nat.le_trans h.size k.size,fun i hi hz=>(k.block i (Nat.lt_of_lt_of_le hi h.size) hz).trans (h.block i hi hz)⟩
theorem Chg.of_below {z:Nat} {w w':World} (h:Below w.heap.size w w'):Chg z w w':=⟨h.os,h.tape,h.output,h.size,fun b hb _=>h.block b hb⟩
theorem Chg.below {z B:Nat} {a w w':World} (h:Below B a w) (hz:B≤z) (k:Chg z w w') (hB:B≤w.heap.size):Below B a w':=
  h.trans ⟨k.os,k.tape,k.output,k.size,fun b hb=>k.block b (by omega) (by omega)⟩
theorem Chg.set {z:Nat} {w w':World} (h:Chg z w w') (j:Nat) (x:Value):Chg z w (w'.setCell ⟨z,j,none⟩ x):=
  ⟨h.os,h.tape,h.output,by simp [World.setCell];exact h.size,fun b hb hz=>by
    rw [← h.block b hb hz];simp [World.setCell,Array.getElem?_modify,show ¬ z=b by omega]⟩
/-- v does not lie in block z -/
def Far (z:Nat) (v:Value):Prop:=∀ a n c,v=.slice (some a) n c→a.block≠z
theorem Own.grown {w w':World} {g:Nat} {cs:List Value} {row:Option Nat} (h:Own w g cs) (hg:w.grownBy w' row) (hne:some g≠row):Own w' g cs:=by
  have hl:=h.lt;obtain ⟨cur,e,h,hc⟩:=h;exact ⟨cur,e,(hg.block g hl hne).trans h,hc⟩
theorem Own.chg {z:Nat} {w w':World} {g:Nat} {cs:List Value} (h:Own w g cs) (k:Chg z w w') (hg:g≠z):Own w' g cs:=by
  have hl:=h.lt;obtain ⟨cur,e,h,hc⟩:=h;exact ⟨cur,e,(k.block g hl hg).trans h,hc⟩
end
section
open Go.RowKit

/-- the iterator in block g moved to p -/
def iterTo (w:World) (g:Nat) (s:ByteArray) (p:Nat):World:={ w with heap:=w.heap.setIfInBounds g (.stringIter s p) }
theorem iterTo_at {w:World} {g:Nat} {s:ByteArray} {p q:Nat} (h:w.heap[g]?=some (.stringIter s p)):(iterTo w g s q).heap[g]?=some (.stringIter s q):=by
  have hg:g < w.heap.size:=(Array.getElem?_eq_some_iff.1 h).1;simp [iterTo,hg]
theorem iterTo_size (w:World) (g:Nat) (s:ByteArray) (p:Nat):(iterTo w g s p).heap.size=w.heap.size:=by simp [iterTo]
theorem iterTo_below {B g:Nat} {a w:World} (h:Below B a w) (hg:B≤g) (s:ByteArray) (p:Nat):Below B a (iterTo w g s p):=
  ⟨h.os,h.tape,h.output,by simp [iterTo];exact h.size,fun b hb=>by rw [← h.block b hb];simp [iterTo,Array.getElem?_setIfInBounds,show ¬ g=b by omega]⟩
theorem Own.iterTo {w:World} {g g':Nat} {cs:List Value} (h:Own w g' cs) (hg:g≠g') (s:ByteArray) (p:Nat):Own (iterTo w g s p) g' cs:=by
  obtain ⟨cur,e,h,hc⟩:=h;exact ⟨cur,e,by rw [← h];simp [Go.Proofs.YtfhmcahfjoliiaaGreatDoor.iterTo,Array.getElem?_setIfInBounds,hg],hc⟩
theorem iterTo_pos {w:World} {g:Nat} {s:ByteArray} {p q:Nat} (h:w.heap[g]?=some (.stringIter s p)):(iterTo w g s q).iterPos g=q:=by
  simp [World.iterPos,iterTo_at h]
theorem iter_pos {w:World} {g:Nat} {s:ByteArray} {p:Nat} (h:w.heap[g]?=some (.stringIter s p)):w.iterPos g=p:=by simp [World.iterPos,h]
theorem next_ascii_at {P:Program} {w:World} {g:Nat} {s:ByteArray} {k:Nat} (hg:w.heap[g]?=some (.stringIter s k)) (h:k < s.size) (ha:bat s k < 128) (ty:TypeId):
    (Instr.next (.pointer (some ⟨g,0,none⟩)) true ty).run P w=.ok (.tuple #[.bool true,.int .i64 k,.int .i32 (bat s k)]) (iterTo w g s (k+1)):=by
  rw [← bat_eq h] at ha ⊢;simp only [Instr.next,getObj,setObj,Sem.run_bind,Sem.run,hg,Result.andThen,h,if_true,decode_ascii s k h ha];simp [goInt,Sem.run,iterTo,hg]
theorem next_high_at {P:Program} {w:World} {g:Nat} {s:ByteArray} {k:Nat} (hg:w.heap[g]?=some (.stringIter s k)) (h:k < s.size) (ha:¬ bat s k < 128):
    ∃ (r:Nat) (q:Nat),128≤r∧r≤2147483647∧∀ ty,(Instr.next (.pointer (some ⟨g,0,none⟩)) true ty).run P w=.ok (.tuple #[.bool true,.int .i64 k,.int .i32 r]) (iterTo w g s q):=
  ⟨_,_,(decode_high s k h (by rw [bat_eq h];omega)).1,decode_le s k,fun ty=>by
    simp only [Instr.next,getObj,setObj,Sem.run_bind,Sem.run,hg,Result.andThen,h,if_true]
    simp [goInt,Sem.run,iterTo,hg]
    rfl⟩
theorem next_end_at {P:Program} {w:World} {g:Nat} {s:ByteArray} {k:Nat} (hg:w.heap[g]?=some (.stringIter s k)) (h:¬ k < s.size) (ty:TypeId):
    (Instr.next (.pointer (some ⟨g,0,none⟩)) true ty).run P w=.ok (.tuple #[.bool false]) w:=by
  simp [Instr.next,getObj,Sem.run,hg,h]
/-- the number that the first k digits spell -/
def decV (s:ByteArray):Nat→Nat
  | 0=>0
  | k+1=>decV s k*10+(bat s k-48)
theorem decV_lt {s:ByteArray}:∀ k,allDig s k=true→decV s k < 10^k
  | 0,_=>by simp [decV]
  | k + 1, h => by
    have h1:allDig s k=true:=by
      unfold allDig at h ⊢;rw [List.range_succ,List.all_append,Bool.and_eq_true] at h;exact h.1
    have h2:=digAt_true.1 (allDig_at h (show k < k+1 by omega));have h3:=decV_lt k h1;rw [decV,Nat.pow_succ];omega
end
section
open Go.RowKit

def val:List Nat→Nat
  | []=>0
  | d::l=>d+4294967296*val l
theorem val_append:∀ l r:List Nat,val (l++r)=val l+4294967296^l.length*val r
  | [],r=>by simp [val]
  | d::l,r=>by
    simp only [List.cons_append,val,List.length_cons]
    rw [val_append l r,Nat.pow_succ,Nat.mul_add,Nat.mul_comm (4294967296^l.length) 4294967296,Nat.mul_assoc]
    omega
def allW (l:List Nat):Prop:=∀ d∈l,d < 4294967296
theorem val_lt:∀ {l:List Nat},allW l→val l < 4294967296^l.length
  | [],_=>by simp [val]
  | d::l,h=>by
    have h1:=h d (by simp)
    have h2:=val_lt (l:=l) (fun x hx=>h x (by simp [hx]))
    simp only [val,List.length_cons]
    rw [Nat.pow_succ]
    omega
/-- the words of n, without a nought at the end -/
def Can (l:List Nat) (n:Nat):Prop:=val l=n∧allW l∧(∀ k,l.length=k+1→l.getD k 0≠0)
theorem allW_take {l:List Nat} (h:allW l) (k:Nat):allW (l.take k):=fun d hd=>h d (List.mem_of_mem_take hd)
/-- one word fewer where it is nought -/
theorem val_take {l:List Nat} {q:Nat} (hq:q < l.length) (h0:l.getD q 0=0):val (l.take (q+1))=val (l.take q):=by
  rw [List.take_add_one,List.getElem?_eq_getElem hq,val_append];rw [List.getD_eq_getElem?_getD,List.getElem?_eq_getElem hq] at h0;simp only [Option.getD_some] at h0;simp [h0,val]
theorem can_take {l:List Nat} (h:allW l) {q:Nat} (hq:q≤l.length) (hv:val (l.take q)=val l) (hl:∀ k,q=k+1→l.getD k 0≠0):Can (l.take q) (val l):=by
  refine ⟨hv,allW_take h q,fun k hk=>?_⟩
  rw [List.length_take] at hk;have hqk:q=k+1:=by omega
  have:=hl k hqk;rw [List.getD_eq_getElem?_getD,List.getElem?_take,if_pos (by omega),← List.getD_eq_getElem?_getD];exact this
theorem can_zero {l : List Nat} (h : Can l 0) : l = [] := by
  obtain ⟨h1,h2,h3⟩:=h;cases l with
  | nil=>rfl
  | cons d r=>
    exfalso;have hk:=h3 r.length (by simp)
    have:∀ (l:List Nat) (k:Nat),val l=0→l.getD k 0=0:=by
      intro l
      induction l with
      | nil=>intro k _;simp
      | cons a l ih=>
        intro k hv;simp only [val] at hv;cases k with
        | zero=>simp;omega
        | succ k=>have:=ih k (by omega);simpa using this
    exact hk (this _ _ h1)
/-- so many words at the most -/
theorem can_len {l:List Nat} {n k:Nat} (h:Can l n) (hn:n < 4294967296^k):l.length≤k:=by
  refine Decidable.byContradiction fun hc=>?_
  obtain ⟨h1,h2,h3⟩:=h;obtain ⟨m,hm⟩:∃ m,l.length=m+1:=⟨l.length-1,by omega⟩;have hlast:=h3 m hm
  have e:l=l.take m++[l.getD m 0]:=by
    have:=List.take_add_one (l:=l) (i:=m);rw [List.take_of_length_le (by omega)] at this;rw [List.getD_eq_getElem?_getD];rw [List.getElem?_eq_getElem (by omega)] at this ⊢;exact this
  have hv:val l=val (l.take m)+4294967296^m*l.getD m 0:=by
    conv=>lhs;rw [e]
    rw [val_append,List.length_take,Nat.min_eq_left (by omega)];simp [val]
  have h5:4294967296^k≤4294967296^m:=Nat.pow_le_pow_right (by decide) (by omega);have h6:4294967296^m*1≤4294967296^m*l.getD m 0:=Nat.mul_le_mul_left _ (by omega);omega

/-- words as cells -/
def wcells (l:List Nat):List Value:=l.map fun (d:Nat)=>U32 d
theorem wcells_len (l:List Nat):(wcells l).length=l.length:=by simp [wcells]
/-- v reads as the words of n -/
def Abs (w:World) (v:Value) (n:Nat):Prop:=∃ l:List Nat,Sl w v 1 l.length (wcells l)∧Can l n
theorem Abs.below {w w':World} {v:Value} {n:Nat} (h:Abs w v n) (hb:Below w.heap.size w w'):Abs w' v n:=by
  obtain ⟨l,h1,h2⟩:=h;exact ⟨l,h1.below hb,h2⟩
/-- the call returns the words of n, in new memory -/
def GrewAbs (n:Nat) (w:World) (e:Ending) (w':World):Prop:=∃ v,e=.returned v∧Abs w' v n∧Below w.heap.size w w'
end
end Go.Proofs.YtfhmcahfjoliiaaGreatDoor

/- the reference's way through a receipt's lines, in plain terms; on lines that are written out it finds their texts -/
import Derived.Test.YtfhmcahfjoliiaaGreatDoorPk42
import Derived.Test.YtfhmcahfjoliiaaGreatDoorPk41
set_option maxRecDepth 20000
set_option maxHeartbeats 8000000
set_option linter.unusedSimpArgs false
set_option linter.unusedVariables false
namespace Go.Proofs.YtfhmcahfjoliiaaGreatDoor
open Go Go.RowKit

/-- where the line's first blank lies (-1: none yet), behind i -/
def blN (s:ByteArray) (i:Nat) (bl:Int):Int:=if bat s i=32∧bl < 0 then (i:Int) else bl
/-- the texts found in the first i bytes; where the line begins; its first blank -/
def vsN (s : ByteArray) : Nat → Option (List ByteArray × Nat × Int)
  | 0=>some ([],0,-1)
  | i+1=>match vsN s i with
    | none=>none
    | some (out,fr,bl)=>if bat s i=10 then (if blN s i bl < 0 then none else some (out++[s.extract ((blN s i bl).toNat+1) i],i+1,-1)) else some (out,fr,blN s i bl)
theorem vsN_none {s:ByteArray} {i:Nat} (h:vsN s i=none):∀ n,vsN s (i+n)=none
  | 0=>h
  | n+1=>by
    show (match vsN s (i+n) with | none=>none | some (out,fr,bl)=>_)=none
    rw [vsN_none h n]
theorem vsN_step {s:ByteArray} {i:Nat} {out:List ByteArray} {fr:Nat} {bl:Int} (h:vsN s i=some (out,fr,bl)) (h10:bat s i≠10):vsN s (i+1)=some (out,fr,blN s i bl):=by
  unfold vsN;rw [h];simp only [];rw [if_neg h10]
theorem vsN_end {s:ByteArray} {i:Nat} {out:List ByteArray} {fr:Nat} {bl:Int} (h:vsN s i=some (out,fr,bl)) (h10:bat s i=10) (hb:¬ blN s i bl < 0):vsN s (i+1)=some (out++[s.extract ((blN s i bl).toNat+1) i],i+1,-1):=by
  unfold vsN;rw [h];simp only [];rw [if_pos h10,if_neg hb]
theorem vsN_bad {s:ByteArray} {i:Nat} {out:List ByteArray} {fr:Nat} {bl:Int} (h:vsN s i=some (out,fr,bl)) (h10:bat s i=10) (hb:blN s i bl < 0):vsN s (i+1)=none:=by
  unfold vsN;rw [h];simp only [];rw [if_pos h10,if_pos hb]
/-- it looks at no byte beyond -/
theorem vsN_pre (a b : ByteArray) : ∀ i, i ≤ a.size → vsN (a ++ b) i = vsN a i
  | 0,_=>rfl
  | i + 1, h => by
    have hb:bat (a++b) i=bat a i:=by rw [bat_append,if_pos (by omega)]
    have hx:∀ j,(a++b).extract j i=a.extract j i:=by
      intro j;apply bat_ext
      · rw [ByteArray.size_extract,ByteArray.size_extract,ByteArray.size_append];omega
      · intro k hk
        rw [ByteArray.size_extract,ByteArray.size_append] at hk;rw [bat_extract _ _ _ _ (by rw [ByteArray.size_append];omega) (by omega),bat_extract _ _ _ _ (by omega) (by omega),bat_append,if_pos (by omega)]
    have hbl:∀ bl,blN (a++b) i bl=blN a i bl:=by intro bl;unfold blN;rw [hb]
    show (match vsN (a++b) i with | none=>none | some (out,fr,bl)=>_)=(match vsN a i with | none=>none | some (out,fr,bl)=>_);rw [vsN_pre a b i (by omega)];cases vsN a i with
    | none=>rfl
    | some x=>
      obtain ⟨out,fr,bl⟩:=x;simp only [hb,hbl,hx]
theorem bat_mem {x:ByteArray} {k:Nat} (hk:k < x.size) {P:UInt8→Prop} (h:∀ b∈x.data.toList,P b):∃ b:UInt8,P b∧bat x k=b.toNat:=by
  have hl:k < x.data.toList.length:=by rw [Array.length_toList];exact hk
  refine ⟨x.data.toList[k],h _ (List.getElem_mem hl),?_⟩;rw [bat_list,List.getElem?_eq_getElem hl];rfl
theorem bat_no {x:ByteArray} {k:Nat} (hk:k < x.size) {c:UInt8} (h:∀ b∈x.data.toList,b≠c):bat x k≠c.toNat:=by
  obtain ⟨b,h1,h2⟩:=bat_mem hk h;rw [h2];intro e;exact h1 (UInt8.toNat.inj e)
/-- A WHOLE LINE MORE: its text is found -/
theorem vsN_line (a n t:ByteArray) (out:List ByteArray) (hn:noBlank n.data.toList) (hn2:noNl n.data.toList) (ht:noNl t.data.toList) (h:vsN a a.size=some (out,a.size,-1)):
    vsN (a++(lnB n t++⟨#[10]⟩)) (a++(lnB n t++⟨#[10]⟩)).size=some (out++[t],(a++(lnB n t++⟨#[10]⟩)).size,-1):=by
  have z1:(⟨#[32]⟩:ByteArray).size=1:=rfl;have z2:(⟨#[10]⟩:ByteArray).size=1:=rfl
  have hz:(a++(lnB n t++⟨#[10]⟩)).size=a.size+n.size+1+t.size+1:=by
    unfold lnB;rw [ByteArray.size_append,ByteArray.size_append,ByteArray.size_append,ByteArray.size_append,z1,z2];omega
  have b1:∀ k,k < n.size→bat (a++(lnB n t++⟨#[10]⟩)) (a.size+k)=bat n k:=by
    intro k hk;unfold lnB;rw [bat_append,if_neg (by omega),bat_append,if_pos (by rw [ByteArray.size_append,ByteArray.size_append,z1];omega),bat_append,if_pos (by rw [ByteArray.size_append,z1];omega),bat_append,if_pos (by omega)]
    congr 1;omega
  have b2:bat (a++(lnB n t++⟨#[10]⟩)) (a.size+n.size)=32:=by
    unfold lnB;rw [bat_append,if_neg (by omega),bat_append,if_pos (by rw [ByteArray.size_append,ByteArray.size_append,z1];omega),bat_append,if_pos (by rw [ByteArray.size_append,z1];omega),bat_append,if_neg (by omega),show a.size+n.size-a.size-n.size=0 by omega];rfl
  have b3:∀ k,k < t.size→bat (a++(lnB n t++⟨#[10]⟩)) (a.size+n.size+1+k)=bat t k:=by
    intro k hk;unfold lnB;rw [bat_append,if_neg (by omega),bat_append,if_pos (by rw [ByteArray.size_append,ByteArray.size_append,z1];omega),bat_append,if_neg (by rw [ByteArray.size_append,z1];omega)]
    congr 1
    rw [ByteArray.size_append,z1];omega
  have b4:bat (a++(lnB n t++⟨#[10]⟩)) (a.size+n.size+1+t.size)=10:=by
    unfold lnB;rw [bat_append,if_neg (by omega),bat_append,if_neg (by rw [ByteArray.size_append,ByteArray.size_append,z1];omega)];rw [show a.size+n.size+1+t.size-a.size-(n++⟨#[32]⟩++t).size=0 by rw [ByteArray.size_append,ByteArray.size_append,z1];omega];rfl
  have h0:vsN (a++(lnB n t++⟨#[10]⟩)) a.size=some (out,a.size,-1):=by rw [vsN_pre a _ _ (Nat.le_refl _)];exact h
  have hx:(a++(lnB n t++⟨#[10]⟩)).extract (a.size+n.size+1) (a.size+n.size+1+t.size)=t:=by
    apply bat_ext
    · rw [size_extract _ _ _ (by omega)];omega
    · intro k hk
      rw [size_extract _ _ _ (by omega)] at hk;rw [bat_extract _ _ _ _ (by omega) (by omega),b3 k (by omega)]
  generalize a++(lnB n t++⟨#[10]⟩)=s at *
  have h1:∀ k,k≤n.size→vsN s (a.size+k)=some (out,a.size,-1):=by
    intro k
    induction k with
    | zero=>intro _;exact h0
    | succ k ih=>
      intro hk;have h32:bat s (a.size+k)≠32:=by rw [b1 k (by omega)];exact bat_no (c:=32) (by omega) hn
      have:=vsN_step (ih (by omega)) (by rw [b1 k (by omega)];exact bat_no (c:=10) (by omega) hn2);rw [show a.size+(k+1)=a.size+k+1 by omega,this];unfold blN;rw [if_neg (by rintro ⟨e,_⟩;exact h32 e)]
  have h2:∀ k,k≤t.size→vsN s (a.size+n.size+1+k)=some (out,a.size,((a.size+n.size:Nat):Int)):=by
    intro k
    induction k with
    | zero=>
      intro _;have:=vsN_step (h1 n.size (Nat.le_refl _)) (by rw [b2];decide);rw [Nat.add_zero,this];unfold blN;rw [if_pos ⟨b2,by decide⟩]
    | succ k ih=>
      intro hk;have:=vsN_step (ih (by omega)) (by rw [b3 k (by omega)];exact bat_no (c:=10) (by omega) ht);rw [show a.size+n.size+1+(k+1)=a.size+n.size+1+k+1 by omega,this];unfold blN;rw [if_neg (by omega)]
  have hbl:blN s (a.size+n.size+1+t.size) ((a.size+n.size:Nat):Int)=((a.size+n.size:Nat):Int):=by
    unfold blN;rw [if_neg (by omega)]
  have:=vsN_end (h2 t.size (Nat.le_refl _)) b4 (by rw [hbl];omega);rw [hz,this,hbl,Int.toNat_natCast,hx]
/-- a whole number of at most seven digits -/
def whI (s:ByteArray):Int:=if s.size < 1∨7 < s.size then -1 else if allDig s s.size=true then (decV s s.size:Int) else -1
theorem whI_dec (n:Nat) (hn:n < 10000000):whI (decS n)=(n:Int):=by
  obtain ⟨f1,f2,f3,f4⟩:=decS_facts n;have hz:(decS n).size≤7:=decS_size (by omega) (by decide);unfold whI;rw [if_neg (by omega),if_pos,f2];unfold allDig;rw [List.all_eq_true];exact fun k hk=>f3 k (List.mem_range.1 hk)
/-- what the reference makes of the nine texts of a text; nothing: there are none -/
def valN (s:ByteArray):Option (List ByteArray):=match vsN s s.size with
  | none=>none
  | some (out,fr,_)=>if out.length=9∧fr=s.size then some out else none
end Go.Proofs.YtfhmcahfjoliiaaGreatDoor

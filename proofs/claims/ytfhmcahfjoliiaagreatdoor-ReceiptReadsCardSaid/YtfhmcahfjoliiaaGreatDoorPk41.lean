/- what a text of an amount says: plain · strings.Cut at a blank, in plain terms: the first word and what stands behind it · the decimal digits of a number, byte by byte: plain -/
import Derived.Test.YtfhmcahfjoliiaaGreatDoorPk24
import Derived.Lib.IndexBytes
import Derived.Lib.IndexMore
import Derived.Lib.Join
import Derived.Lib.AtoiAllCases
import Derived.Lib.ItoaNum
import Derived.Test.YtfhmcahfjoliiaaGreatDoorPk29
import Derived.Test.YtfhmcahfjoliiaaGreatDoorPk05
set_option maxRecDepth 20000
set_option maxHeartbeats 8000000
set_option linter.unusedSimpArgs false
set_option linter.unusedVariables false
namespace Go.Proofs.YtfhmcahfjoliiaaGreatDoor
section
open Go.RowKit

/-- the number that the first k of some digits spell, no more than one beyond the greatest -/
def capN (f:Nat→Nat):Nat→Int
  | 0=>0
  | k+1=>min (10*capN f k+((f k:Int)-48)) 1000000000001
theorem capN_congr {f g:Nat→Nat}:∀ {k:Nat},(∀ j,j < k→f j=g j)→capN f k=capN g k
  | 0,_=>rfl
  | k+1,h=>by rw [capN,capN,capN_congr (k:=k) (fun j hj=>h j (by omega)),h k (by omega)]
theorem capN_bd {f:Nat→Nat}:∀ {k:Nat},(∀ j,j < k→48≤f j∧f j≤57)→0≤capN f k∧capN f k≤1000000000001
  | 0,_=>by simp [capN]
  | k+1,h=>by
    have h1:=capN_bd (f:=f) (k:=k) (fun j hj=>h j (by omega))
    have h2:=h k (by omega)
    rw [capN]
    omega
/-- where the digits begin -/
def cfr (s:ByteArray):Nat:=if 0 < s.size∧bat s 0=45 then 1 else 0
def cform (s:ByteArray):Bool:=decide (4≤s.size-cfr s∧bat s (s.size-3)=46∧¬ (bat s (cfr s)=48∧4 < s.size-cfr s))
/-- the k-th digit -/
def cdig (s:ByteArray) (k:Nat):Nat:=bat s (cfr s+if k < s.size-cfr s-3 then k else k+1)
def cdigs (s:ByteArray):Bool:=(List.range (s.size-cfr s-1)).all fun k=>inB (cdig s k) 48 57
def cval (s:ByteArray):Int:=capN (cdig s) (s.size-cfr s-1)
def centsE (s:ByteArray):Int:=if 20 < s.size then 1 else if cform s&&cdigs s then (if cfr s=1∧cval s=0 then 3 else if 1000000000000 < cval s then 2 else 0) else 3
def centsV (s:ByteArray):Int:=if centsE s=0 then (if cfr s=1 then-cval s else cval s) else 0
theorem centsE_bad {s:ByteArray} (h:¬ 20 < s.size) (hb:cform s=false∨cdigs s=false):centsE s=3:=by
  unfold centsE;rw [if_neg h,if_neg];rcases hb with hb | hb<;>simp [hb]
theorem cdigs_true {s:ByteArray}:cdigs s=true↔∀ k,k < s.size-cfr s-1→48≤cdig s k∧cdig s k≤57:=by
  unfold cdigs;rw [List.all_eq_true]
  constructor
  · intro h k hk
    have:=h k (List.mem_range.2 hk);rw [inB_true] at this;omega
  · intro h k hk
    have:=h k (List.mem_range.1 hk);rw [inB_true];omega
theorem cdigs_no {s:ByteArray} {k:Nat} (hk:k < s.size-cfr s-1) (h:¬ (48≤cdig s k∧cdig s k≤57)):cdigs s=false:=by
  rw [← Bool.not_eq_true,cdigs_true];intro hh;exact h (hh k hk)
/-- the body behind a sign -/
def cbody (s:ByteArray):ByteArray:=if cfr s=1 then s.extract 1 s.size else s
theorem cbody_size (s:ByteArray):(cbody s).size=s.size-cfr s:=by
  unfold cbody
  split
  · rename_i h;rw [size_extract _ _ _ (Nat.le_refl _),h]
  · rename_i h
    have:cfr s=0:=by unfold cfr at h ⊢;split<;>simp_all
    rw [this];rfl
theorem cbody_at (s:ByteArray) (k:Nat) (hk:k < s.size-cfr s):bat (cbody s) k=bat s (cfr s+k):=by
  unfold cbody
  split
  · rename_i h;rw [bat_extract _ _ _ _ (Nat.le_refl _) (by omega),h]
  · rename_i h
    have:cfr s=0:=by unfold cfr at h ⊢;split<;>simp_all
    rw [this,Nat.zero_add]
/-- no point, or one that does not stand third from the end -/
theorem cents_nopoint {s:ByteArray} (hs:¬ 20 < s.size) (h:∀ j,j < (cbody s).size→bat (cbody s) j≠46):centsE s=3:=by
  apply centsE_bad hs
  left
  rw [← Bool.not_eq_true];intro hf;unfold cform at hf;rw [decide_eq_true_eq] at hf;obtain ⟨h1,h2,_⟩:=hf;rw [cbody_size] at h;have h3:=h (s.size-cfr s-3) (by omega);rw [cbody_at _ _ (by omega)] at h3;exact h3 (by rw [← h2];congr 1;omega)
theorem cents_point {s : ByteArray} {i : Nat} (hs : ¬ 20 < s.size) (hi : i < (cbody s).size) (h : bat (cbody s) i = 46) (hn : ∀ j, j < i → bat (cbody s) j ≠ 46)
    (hb:i=0∨(cbody s).size≠i+3∨1 < i∧bat (cbody s) 0=48):centsE s=3:=by
  apply centsE_bad hs;rw [cbody_size] at hi hb;rw [cbody_at _ _ hi] at h
  by_cases hf:cform s=true
  · right
    unfold cform at hf;rw [decide_eq_true_eq] at hf;obtain ⟨h1,h2,h3⟩:=hf
    have hle:i≤s.size-cfr s-3:=by
      by_cases hc:s.size-cfr s-3 < i
      · have:=hn _ hc
        rw [cbody_at _ _ (by omega)] at this;exact absurd (by rw [← h2];congr 1;omega) this
      · omega
    by_cases he:i=s.size-cfr s-3
    · exfalso
      rcases hb with hb | hb | hb
      · omega
      · omega
      · rw [cbody_at _ _ (by omega),Nat.add_zero] at hb
        exact h3 ⟨hb.2,by omega⟩
    · apply cdigs_no (k:=i) (by omega)
      unfold cdig;rw [if_pos (by omega),h];omega
  · left;simpa using hf
/-- the two pieces side by side -/
def ctext (s:ByteArray):ByteArray:=(cbody s).extract 0 ((cbody s).size-3)++(cbody s).extract ((cbody s).size-3+1) (cbody s).size
theorem ctext_size {s:ByteArray} (h:4≤(cbody s).size):(ctext s).size=s.size-cfr s-1:=by
  unfold ctext;rw [ByteArray.size_append,size_extract _ _ _ (by omega),size_extract _ _ _ (Nat.le_refl _),cbody_size];rw [cbody_size] at h;omega
theorem ctext_at {s:ByteArray} (h:4≤(cbody s).size) {k:Nat} (hk:k < (ctext s).size):bat (ctext s) k=cdig s k:=by
  rw [ctext_size h] at hk;have hm:=cbody_size s;unfold ctext cdig;rw [bat_append,size_extract _ _ _ (by omega)]
  by_cases hc:k < s.size-cfr s-3
  · rw [if_pos (by omega),if_pos hc,bat_extract _ _ _ _ (by omega) (by omega),Nat.zero_add,cbody_at _ _ (by omega)]
  · rw [if_neg (by omega),if_neg hc,bat_extract _ _ _ _ (Nat.le_refl _) (by omega),cbody_at _ _ (by omega)]
    congr 1;omega
theorem cform_true {s:ByteArray} {i:Nat} (hi:i < (cbody s).size) (h:bat (cbody s) i=46) (h0:i≠0) (hl:(cbody s).size=i+3) (hz:¬ (1 < i∧bat (cbody s) 0=48)):cform s=true:=by
  rw [cbody_size] at hi hl;rw [cbody_at _ _ hi] at h;rw [cbody_at _ _ (by omega)] at hz;unfold cform;rw [decide_eq_true_eq];refine ⟨by omega,by rw [← h];congr 1;omega,?_⟩;rintro ⟨h1,h2⟩;exact hz ⟨by omega,h1⟩
end
section
open Go.Lib

def noBlank (x:List UInt8):Prop:=∀ b∈x,b≠32
theorem indexByte_hit (y:List UInt8):∀ (x:List UInt8),noBlank x→indexByte (x++32::y) 32=(x.length:Int)
  | [],_=>by simp [indexByte]
  | b :: x, h => by
    have hb:(b==32)=false:=by
      have:=h b (by simp);simpa using this
    have ih:=indexByte_hit y x (fun c hc=>h c (List.mem_cons_of_mem _ hc));have hn:((x.length:Int)==-1)=false:=by simp
    rw [List.cons_append,indexByte,hb,ih];simp [hn]
theorem cut_hit (x y:List UInt8) (h:noBlank x):cut (x++32::y) [32]=(x,y,true):=by
  unfold cut;rw [index_one,indexByte_hit y x h,if_pos (by omega),Int.toNat_natCast,List.take_left]
  have e:List.drop (x.length+[(32:UInt8)].length) (x++32::y)=y:=by
    have:List.drop (x.length+1) (x++32::y)=List.drop 1 (List.drop x.length (x++32::y)):=by rw [List.drop_drop]
    show List.drop (x.length+1) (x++32::y)=y;rw [this,List.drop_left];rfl
  rw [e]
theorem dig_toNat (d:Nat) (h:d < 10):(UInt8.ofNat (48+d)).toNat=48+d:=by
  rw [UInt8.toNat_ofNat'];omega
theorem decDigits_digs (n : Nat) : ∀ b ∈ decDigits n, 48 ≤ b.toNat ∧ b.toNat ≤ 57 := by
  induction n using Nat.strongRecOn with
  | ind n ih =>
    unfold decDigits
    split
    · intro b hb
      have:b=UInt8.ofNat (48+n):=by simpa using hb
      rw [this,dig_toNat n (by omega)];omega
    · intro b hb
      rcases List.mem_append.1 hb with hb | hb
      · exact ih (n / 10) (by omega) b hb
      · have:b=UInt8.ofNat (48+n%10):=by simpa using hb
        rw [this,dig_toNat (n%10) (by omega)];omega
theorem decDigits_ne (n:Nat):decDigits n≠[]:=by
  unfold decDigits
  split<;>simp
theorem parse_append (m : List UInt8) : ∀ (l : List UInt8) (acc u : Nat), parseUint10 acc l = .ok u → parseUint10 acc (l ++ m) = parseUint10 u m
  | [],acc,u,h=>by
    simp only [parseUint10] at h
    injection h with h
    subst h;rfl
  | c :: r, acc, u, h => by
    simp only [parseUint10,List.cons_append] at h ⊢
    split at h
    · rename_i hc
      rw [if_pos hc]
      split at h
      · cases h
      · rename_i h1
        rw [if_neg h1]
        split at h
        · cases h
        · rename_i h2
          rw [if_neg h2]
          exact parse_append m r _ u h
    · cases h
theorem parse_dec (n:Nat):n < 9223372036854775808→parseUint10 0 (decDigits n)=.ok n:=by
  induction n using Nat.strongRecOn with
  | ind n ih=>
    intro hn;unfold decDigits
    split
    · rename_i h
      simp only [parseUint10,dig_toNat n h];rw [if_pos (by omega),if_neg (by omega),if_neg (by omega)]
      congr 1;omega
    · rename_i h
      rw [parse_append _ _ _ _ (ih (n / 10) (by omega) (by omega))];simp only [parseUint10,dig_toNat (n%10) (by omega)];rw [if_pos (by omega),if_neg (by omega),if_neg (by omega)]
      congr 1;omega
theorem atoi_dec_all (n:Nat) (hn:n < 9223372036854775808):atoiAll (decDigits n)=.ok (n:Int):=by
  have hd:=decDigits_digs n;have hp:=parse_dec n hn;have hne:=decDigits_ne n;generalize decDigits n=l at *;cases l with
  | nil=>exact absurd rfl hne
  | cons c r=>
    have:=hd c (by simp);rw [atoiAll_plain c r (by omega) (by omega)];unfold parseMag;rw [if_neg (by simp),hp];unfold signless;simp only [];rw [if_neg (by omega)]
end
section
open Go Go.RowKit

theorem decV_congrD {s t:ByteArray}:∀ k,(∀ i,i < k→bat s i=bat t i)→decV s k=decV t k
  | 0,_=>rfl
  | k+1,h=>by show decV s k*10+(bat s k-48)=decV t k*10+(bat t k-48);rw [decV_congrD k (fun i hi=>h i (by omega)),h k (by omega)]
theorem decS_one {n:Nat} (h:n < 10):(decS n).size=1∧bat (decS n) 0=48+n:=by
  rw [decS_small h];refine ⟨rfl,?_⟩;rw [bat_list];show (UInt8.ofNat (48+n)).toNat=48+n;exact dig_toNat n h
theorem decS_facts : ∀ n : Nat, 0 < (decS n).size ∧ decV (decS n) (decS n).size = n ∧ (∀ k, k < (decS n).size → digAt (decS n) k = true) ∧ (bat (decS n) 0 = 48 → n < 10) := by
  intro n
  induction n using Nat.strongRecOn with
  | _ n ih =>
    have dg:∀ m,m < 10→digAt (decS m) 0=true:=fun m hm=>digAt_true.2 (by rw [(decS_one hm).2];omega)
    by_cases h:n < 10
    · obtain ⟨z,b⟩:=decS_one h
      rw [z];refine ⟨by omega,?_,?_,fun _=>h⟩
      · show 0*10+(bat (decS n) 0-48)=n
        rw [b];omega
      · intro k hk
        obtain rfl:k=0:=by omega
        exact dg n h
    · obtain ⟨h1,h2,h3,h4⟩:=ih (n / 10) (by omega)
      obtain ⟨z,b⟩:=decS_one (show n%10 < 10 by omega);have e:=decS_big h;have hz:(decS n).size=(decS (n / 10)).size+1:=by rw [e,ByteArray.size_append,z]
      have hbl:∀ i,i < (decS (n / 10)).size→bat (decS n) i=bat (decS (n / 10)) i:=fun i hi=>by rw [e,bat_append,if_pos hi]
      have hbr:bat (decS n) (decS (n / 10)).size=48+n%10:=by rw [e,bat_append,if_neg (by omega),Nat.sub_self,b]
      refine ⟨by omega,?_,?_,?_⟩
      · rw [hz]
        show decV (decS n) (decS (n / 10)).size*10+(bat (decS n) (decS (n / 10)).size-48)=n;rw [decV_congrD _ hbl,h2,hbr];omega
      · intro k hk
        by_cases hk2:k < (decS (n / 10)).size
        · have:=h3 k hk2
          unfold digAt at this ⊢
          rwa [hbl k hk2]
        · obtain rfl:k=(decS (n / 10)).size:=by omega
          exact digAt_true.2 (by rw [hbr];omega)
      · intro h0
        rw [hbl 0 h1] at h0;have:=h4 h0;have hs:=(decS_one this).2;omega
theorem decS_digs (n:Nat):∀ b∈(decS n).data.toList,48≤b.toNat∧b.toNat≤57:=by
  unfold decS;simpa using decDigits_digs n
end
end Go.Proofs.YtfhmcahfjoliiaaGreatDoor

/- pieces of texts: bytes of a cut, of two texts side by side; strings.Cut and strings.CutPrefix at one byte · what twenty digits say: plain -/
import Derived.Test.YtfhmcahfjoliiaaGreatDoorPk05
import Derived.Lib.CutLaws
import Derived.Lib.IndexBytes
import Derived.Test.YtfhmcahfjoliiaaGreatDoorTok
import Derived.Test.YtfhmcahfjoliiaaGreatDoorWRead
import Derived.Test.YtfhmcahfjoliiaaGreatDoorPk19
import Derived.Lib.TrimByte
set_option maxRecDepth 20000
set_option maxHeartbeats 8000000
set_option linter.unusedSimpArgs false
set_option linter.unusedVariables false
namespace Go.Proofs.YtfhmcahfjoliiaaGreatDoor
section
open Go.RowKit

theorem bat_list (s:ByteArray) (k:Nat):bat s k=(s.data.toList[k]?.map UInt8.toNat).getD 0:=by
  unfold bat
  by_cases h:k < s.size
  · have h':k < s.data.toList.length:=by rw [Array.length_toList];exact h
    rw [dif_pos h,List.getElem?_eq_getElem h'];simp [ByteArray.getElem_eq_getElem_data]
  · have h':s.data.toList.length≤k:=by rw [Array.length_toList];exact Nat.le_of_not_lt h
    rw [dif_neg h,List.getElem?_eq_none h']
    rfl
theorem bat_extract (s:ByteArray) (a b k:Nat) (_hb:b≤s.size) (h:a+k < b):bat (s.extract a b) k=bat s (a+k):=by
  rw [bat_list,bat_list,Go.Lib.extract_data,List.getElem?_take,if_pos (by omega),List.getElem?_drop]
theorem bat_append (a b:ByteArray) (k:Nat):bat (a++b) k=if k < a.size then bat a k else bat b (k-a.size):=by
  have e:a.size=a.data.toList.length:=Array.length_toList.symm;rw [bat_list,ByteArray.data_append,Array.toList_append]
  by_cases h:k < a.size
  · rw [if_pos h,bat_list,List.getElem?_append_left (by omega)]
  · rw [if_neg h,bat_list,List.getElem?_append_right (by omega),e]
theorem size_extract (s:ByteArray) (a b:Nat) (hb:b≤s.size):(s.extract a b).size=b-a:=by rw [ByteArray.size_extract];omega
theorem bat_ext {a b:ByteArray} (hs:a.size=b.size) (h:∀ k,k < a.size→bat a k=bat b k):a=b:=by
  apply ByteArray.ext;apply Array.ext
  · exact hs
  · intro i h1 h2
    have:=h i h1;unfold bat at this;rw [dif_pos (show i < a.size from h1),dif_pos (show i < b.size from h2)] at this;exact UInt8.toNat_inj.1 this

theorem occ1 (s:ByteArray) (c:UInt8) (j:Nat):Go.Lib.occAt s.data.toList [c] j=true↔j < s.size∧bat s j=c.toNat:=by
  unfold Go.Lib.occAt;rw [List.isPrefixOf_iff_prefix]
  by_cases h:j < s.size
  · have h':j < s.data.toList.length:=by rw [Array.length_toList];exact h
    rw [List.drop_eq_getElem_cons h'];have hb:bat s j=(s.data.toList[j]'h').toNat:=by rw [bat_list,List.getElem?_eq_getElem h'];rfl
    constructor
    · rintro ⟨r,hr⟩
      have:c=s.data.toList[j]'h':=by injection hr
      exact ⟨h,by rw [hb,this]⟩
    · rintro ⟨_,h2⟩
      have:c=s.data.toList[j]'h':=UInt8.toNat_inj.1 (by rw [← h2,hb]);exact ⟨_,by rw [this];rfl⟩
  · have h':s.data.toList.length≤j:=by rw [Array.length_toList];exact Nat.le_of_not_lt h
    rw [List.drop_eq_nil_of_le h']
    constructor
    · rintro ⟨r,hr⟩;simp at hr
    · rintro ⟨h2,_⟩;omega
/-- the first place of a byte -/
theorem index1 (s:ByteArray) (c:UInt8):(Go.Lib.index s.data.toList [c]=-1∧∀ j,j < s.size→bat s j≠c.toNat)∨∃ i:Nat,Go.Lib.index s.data.toList [c]=i∧i < s.size∧bat s i=c.toNat∧∀ j,j < i→bat s j≠c.toNat:=by
  rcases Go.Lib.index_spec s.data.toList [c] with ⟨h,hn⟩ | ⟨i,h,hi,ho,hn⟩
  · refine .inl ⟨h,fun j hj he=>?_⟩
    have:=hn j (by rw [Array.length_toList];exact Nat.le_of_lt hj);rw [(occ1 s c j).2 ⟨hj,he⟩] at this;cases this
  · obtain ⟨h1,h2⟩:=(occ1 s c i).1 ho
    refine .inr ⟨i,h,h1,h2,fun j hj he=>?_⟩
    have:=hn j hj;rw [(occ1 s c j).2 ⟨by omega,he⟩] at this;cases this
/-- strings.Cut at one byte, cell by cell -/
theorem cut1_miss (s:ByteArray) (c:UInt8) (h:Go.Lib.index s.data.toList [c]=-1):
    (⟨(Go.Lib.cut s.data.toList [c]).1.toArray⟩:ByteArray)=s∧(⟨(Go.Lib.cut s.data.toList [c]).2.1.toArray⟩:ByteArray)=⟨#[]⟩∧(Go.Lib.cut s.data.toList [c]).2.2=false:=
  Go.Lib.cutB_miss s ⟨#[c]⟩ h
theorem cut1_hit (s:ByteArray) (c:UInt8) (i:Nat) (h:Go.Lib.index s.data.toList [c]=i):
    (⟨(Go.Lib.cut s.data.toList [c]).1.toArray⟩:ByteArray)=s.extract 0 i∧(⟨(Go.Lib.cut s.data.toList [c]).2.1.toArray⟩:ByteArray)=s.extract (i+1) s.size∧(Go.Lib.cut s.data.toList [c]).2.2=true:=
  Go.Lib.cutB_hit s ⟨#[c]⟩ i h
theorem pre1_yes (s:ByteArray) (c:UInt8) (h:0 < s.size) (hc:bat s 0=c.toNat):(⟨(Go.Lib.trimPrefix s.data.toList [c]).toArray⟩:ByteArray)=s.extract 1 s.size∧Go.Lib.hasPrefix s.data.toList [c]=true:=by
  have hp:Go.Lib.hasPrefix s.data.toList [c]=true:=by
    have:=(occ1 s c 0).2 ⟨h,hc⟩;unfold Go.Lib.occAt at this
    rwa [List.drop_zero] at this
  refine ⟨?_,hp⟩;rw [Go.Lib.trimPrefix,if_pos hp];apply ByteArray.ext;apply Array.toList_inj.1;rw [Go.Lib.extract_to_end]
  rfl
theorem pre1_no (s:ByteArray) (c:UInt8) (h:¬ (0 < s.size∧bat s 0=c.toNat)):(⟨(Go.Lib.trimPrefix s.data.toList [c]).toArray⟩:ByteArray)=s∧Go.Lib.hasPrefix s.data.toList [c]=false:=by
  have hp:Go.Lib.hasPrefix s.data.toList [c]=false:=by
    rw [← Bool.not_eq_true];intro hh;exact h ((occ1 s c 0).1 (by unfold Go.Lib.occAt;rwa [List.drop_zero]))
  refine ⟨?_,hp⟩;rw [Go.Lib.trimPrefix,if_neg (by rw [hp];decide)]
end
section
open Go.RowKit

theorem dropWhile_cut (p : UInt8 → Bool) : ∀ l : List UInt8, ∃ k, k ≤ l.length ∧ l.dropWhile p = l.drop k ∧ (∀ j, (h : j < k) → (h' : j < l.length) → p (l[j]) = true) ∧ (k = l.length ∨ ∃ h : k < l.length, p (l[k]) = false)
  | []=>⟨0,by simp,rfl,fun j h=>by omega,.inl rfl⟩
  | x :: r => by
    by_cases hx:p x=true
    · obtain ⟨k,h1,h2,h3,h4⟩:=dropWhile_cut p r
      refine ⟨k+1,by simp;omega,by rw [List.dropWhile_cons_of_pos hx,h2];rfl,?_,?_⟩
      · intro j hj hl
        cases j with
        | zero=>exact hx
        | succ j=>exact h3 j (by omega) (by simp at hl;omega)
      · rcases h4 with h4 | ⟨h5,h6⟩
        · exact .inl (by simp [h4])
        · exact .inr ⟨by simp;omega,by simpa using h6⟩
    · have hx':p x=false:=by simpa using hx
      exact ⟨0,by simp,by rw [List.dropWhile_cons_of_neg hx];rfl,fun j h=>by omega,.inr ⟨by simp,hx'⟩⟩
/-- without the noughts ahead, but the last -/
def bareL (s:ByteArray):ByteArray:=⟨(Go.Lib.trimLeftB (s.extract 0 19).data.toList 48).toArray⟩
theorem bare_cut (s:ByteArray) (hs:s.size=20):∃ k,k≤19∧bareL s++s.extract 19 s.size=s.extract k 20∧(∀ j,j < k→bat s j=48)∧(k=19∨bat s k≠48):=by
  have hl:s.data.toList.length=20:=by rw [Array.length_toList];exact hs
  have e1:(s.extract 0 19).data.toList=s.data.toList.take 19:=by rw [Go.Lib.extract_data];simp
  obtain ⟨k,h1,h2,h3,h4⟩:=dropWhile_cut (·==(48:UInt8)) (s.data.toList.take 19);have hl9:(s.data.toList.take 19).length=19:=by simp [hl]
  rw [hl9] at h1;refine ⟨k,h1,?_,?_,?_⟩
  · unfold bareL Go.Lib.trimLeftB
    rw [e1,h2,hs];apply ByteArray.ext;apply Array.toList_inj.1;rw [ByteArray.data_append,Array.toList_append,Go.Lib.extract_data,Go.Lib.extract_data];rw [List.take_of_length_le (show (s.data.toList.drop 19).length≤20-19 by simp [hl]),List.take_of_length_le (show (s.data.toList.drop k).length≤20-k by simp [hl])]
    have:s.data.toList.drop k=(s.data.toList.take 19).drop k++s.data.toList.drop 19:=by
      conv=>lhs;rw [← List.take_append_drop 19 s.data.toList]
      rw [List.drop_append_of_le_length (by rw [hl9];exact h1)]
    rw [this]
  · intro j hj
    have:=h3 j hj (by rw [hl9];omega);rw [beq_iff_eq,List.getElem_take] at this;rw [bat_list,List.getElem?_eq_getElem (by rw [hl];omega)];simp [this]
  · rcases h4 with h4 | ⟨h5,h6⟩
    · exact .inl (by rw [h4,hl9])
    · right
      rw [beq_eq_false_iff_ne,List.getElem_take] at h6;rw [bat_list,List.getElem?_eq_getElem (by rw [hl];rw [hl9] at h5;omega)];intro hh;exact h6 (UInt8.toNat_inj.1 (by simpa using hh))
theorem decV_zeros {s:ByteArray}:∀ k,(∀ j,j < k→bat s j=48)→decV s k=0
  | 0,_=>rfl
  | k+1,h=>by rw [decV,decV_zeros k (fun j hj=>h j (by omega)),h k (by omega)]
theorem decV_cut {s:ByteArray} {k n:Nat} (hn:n≤s.size) (h0:decV s k=0):∀ j,k+j≤n→decV (s.extract k n) j=decV s (k+j)
  | 0,_=>by rw [Nat.add_zero,h0];rfl
  | j+1,h=>by
    rw [decV,decV_cut hn h0 j (by omega),bat_extract s k n j hn (by omega),← Nat.add_assoc,decV]
theorem decV_lt20 {s:ByteArray} (h:allDig s 20=true):decV s 20 < 100000000000000000000:=decV_lt 20 h
/-- the bare text is one that words.Read takes -/
theorem bare_reads {s:ByteArray} (hs:s.size=20) (hd:allDig s 20=true):¬ 40 < (bareL s++s.extract 19 s.size).size∧formS (bareL s++s.extract 19 s.size)=false ∧
    wrdE (bareL s++s.extract 19 s.size)=0∧readV (bareL s++s.extract 19 s.size)=decV s 20:=by
  obtain ⟨k,h1,h2,h3,h4⟩:=bare_cut s hs;rw [h2];have hz:(s.extract k 20).size=20-k:=size_extract s k 20 (by omega)
  have hf:formS (s.extract k 20)=false:=by
    unfold formS;rw [decide_eq_false_iff_not];rintro (h | ⟨h5,h6⟩)
    · omega
    · rw [bat_extract s k 20 0 (by omega) (by omega),Nat.add_zero] at h5
      rcases h4 with h4 | h4
      · omega
      · exact h4 h5
  have hall:allDig (s.extract k 20) (s.extract k 20).size=true:=by
    unfold allDig;rw [List.all_eq_true];intro j hj;have hj:=List.mem_range.1 hj;unfold digAt;rw [bat_extract s k 20 j (by omega) (by omega)];exact allDig_at hd (by omega)
  have hv:decV (s.extract k 20) (s.extract k 20).size=decV s 20:=by
    rw [hz,decV_cut (by omega) (decV_zeros k h3) (20-k) (by omega),show k+(20-k)=20 by omega]
  have hlt:=decV_lt20 hd
  have hE:wrdE (s.extract k 20)=0:=by
    unfold wrdE;rw [if_neg (by omega),hf,hall,hv];simp only [Bool.false_eq_true,if_false,if_true];rw [if_neg (by omega)]
  exact ⟨by omega,hf,hE,by unfold readV;rw [if_pos hE,hv]⟩
theorem bareL_size {s:ByteArray} (hs:s.size=20):(bareL s).size≤19:=by
  have e1:(s.extract 0 19).data.toList=s.data.toList.take 19:=by rw [Go.Lib.extract_data];simp
  have hl:s.data.toList.length=20:=by rw [Array.length_toList];exact hs
  show (bareL s).data.size≤19;unfold bareL Go.Lib.trimLeftB;rw [e1];have h1:=(List.dropWhile_sublist (·==(48:UInt8)) (l:=s.data.toList.take 19)).length_le;have h2:(s.data.toList.take 19).length=19:=by simp [hl]
  rw [List.size_toArray];omega

/-- the token in a number -/
def tokOf (Q:Nat):AToken:=⟨(Q / 2^57%4:Nat),(Q / 2^37%1048576:Nat),(Q / 2^16%2097152:Nat),(Q%65536:Nat)⟩
def numE (N:Nat):Int:=if 73786976294838206464≤N then 2 else if N%97=0 then (if 576460752303423488≤N / 97 then 2 else if tokFault (tokOf (N / 97))=0 then 0 else 2) else 8
def parE (s:ByteArray):Int:=if s.size=20 then (if allDig s 20 then numE (decV s 20) else 7) else 6
def parT (s:ByteArray):AToken:=if parE s=0 then tokOf (decV s 20 / 97) else ⟨0,0,0,0⟩
abbrev tokV (x:AToken):Value:=.agg #[I x.class_,I x.id,I x.amount,I x.tag]
def ParP (s:ByteArray) (w:World) (e:Ending) (w':World):Prop:=Grew (T2 (tokV (parT s)) (I (parE s))) w e w'
theorem ParP.bad {s:ByteArray} {w w':World} {k:Int} (h:parE s=k) (hk:k≠0) (hb:Below w.heap.size w w'):ParP s w (.returned (T2 (.agg #[I 0,I 0,I 0,I 0]) (I k))) w':=by
  refine ⟨?_,hb⟩;have:parT s=⟨0,0,0,0⟩:=by unfold parT;rw [if_neg (by rw [h];exact hk)]
  rw [this,h]
theorem parE_num {s:ByteArray} (hs:s.size=20) (hd:allDig s 20=true):parE s=numE (decV s 20):=by unfold parE;rw [if_pos hs,if_pos hd]
theorem ParP.ok {s:ByteArray} {w w':World} (h:parE s=0) {Q:Nat} (hQ:decV s 20 / 97=Q) {a b c d:Int} (hT:(⟨a,b,c,d⟩:AToken)=tokOf Q) (hb:Below w.heap.size w w'):
    ParP s w (.returned (T2 (.agg #[I a,I b,I c,I d]) (I 0))) w':=by
  subst hQ;refine ⟨?_,hb⟩;have:parT s=⟨a,b,c,d⟩:=by unfold parT;rw [if_pos h,hT]
  rw [this,h]
end
end Go.Proofs.YtfhmcahfjoliiaaGreatDoor

/- an amount that is shown reads as what it was: plain · the lines of a receipt's text, in plain terms: parted at their ends, each at its first blank -/
import Derived.Test.YtfhmcahfjoliiaaGreatDoorPk41
import Derived.Test.YtfhmcahfjoliiaaGreatDoorPk24
import Derived.Lib.Split
import Derived.Lib.SplitLaws
import Derived.Lib.Replace
set_option maxRecDepth 20000
set_option maxHeartbeats 8000000
set_option linter.unusedSimpArgs false
set_option linter.unusedVariables false
namespace Go.Proofs.YtfhmcahfjoliiaaGreatDoor
section
open Go Go.RowKit

theorem capN_dec {f:Nat→Nat} {t:ByteArray}:∀ k,(∀ i,i < k→f i=bat t i)→allDig t k=true→decV t k≤1000000000000→capN f k=(decV t k:Int)
  | 0,_,_,_=>rfl
  | k + 1, h, hd, hb => by
    have e:decV t (k+1)=decV t k*10+(bat t k-48):=rfl
    obtain ⟨d0,d1⟩:=digAt_true.1 (allDig_at hd (show k < k+1 by omega))
    have hd2:allDig t k=true:=by
      unfold allDig at *;rw [List.all_eq_true] at *;exact fun x hx=>hd x (List.mem_range.2 (by have:=List.mem_range.1 hx;omega))
    rw [capN,capN_dec k (fun i hi=>h i (by omega)) hd2 (by omega),h k (by omega),e];omega
/-- the digits of an amount, its point between them -/
def amtS (m:Nat):ByteArray:=decS (m / 100)++(⟨#[46]⟩++(decS (m / 10%10)++decS (m%10)))
theorem amt_bat (m:Nat):(amtS m).size=(decS (m / 100)).size+3∧(∀ k,k < (decS (m / 100)).size→bat (amtS m) k=bat (decS (m / 100)) k)∧bat (amtS m) (decS (m / 100)).size=46 ∧
    bat (amtS m) ((decS (m / 100)).size+1)=48+m / 10%10∧bat (amtS m) ((decS (m / 100)).size+2)=48+m%10:=by
  obtain ⟨z1,b1⟩:=decS_one (show m / 10%10 < 10 by omega);obtain ⟨z2,b2⟩:=decS_one (show m%10 < 10 by omega);have zp:(⟨#[46]⟩:ByteArray).size=1:=rfl;have bp:bat (⟨#[46]⟩:ByteArray) 0=46:=rfl;unfold amtS;refine ⟨?_,?_,?_,?_,?_⟩
  · rw [ByteArray.size_append,ByteArray.size_append,ByteArray.size_append,z1,z2,zp]
  · intro k hk
    rw [bat_append,if_pos hk]
  · rw [bat_append,if_neg (by omega),Nat.sub_self,bat_append,if_pos (by omega),bp]
  · rw [bat_append,if_neg (by omega),bat_append,if_neg (by omega),bat_append,if_pos (by omega),show (decS (m / 100)).size+1-(decS (m / 100)).size-(⟨#[46]⟩:ByteArray).size=0 by omega,b1]
  · rw [bat_append,if_neg (by omega),bat_append,if_neg (by omega),bat_append,if_neg (by omega),show (decS (m / 100)).size+2-(decS (m / 100)).size-(⟨#[46]⟩:ByteArray).size-(decS (m / 10%10)).size=0 by omega,b2]
theorem cents_amt (m : Nat) (hm : m ≤ 100000000) : centsV (amtS m) = (m : Int) := by
  obtain ⟨z,hq,hp,hd1,hd2⟩:=amt_bat m;obtain ⟨f1,f2,f3,f4⟩:=decS_facts (m / 100);have hzl:(decS (m / 100)).size≤7:=decS_size (by omega) (by decide);generalize hx:amtS m=x at *;generalize hy:(decS (m / 100)).size=y at *
  have hfr:cfr x=0:=by
    unfold cfr;rw [if_neg];rintro ⟨_,h⟩;have:=digAt_true.1 (f3 0 f1);rw [hq 0 f1] at h;omega
  have hform:cform x=true:=by
    unfold cform;rw [decide_eq_true_eq,hfr,z];refine ⟨by omega,?_,?_⟩
    · rw [show y+3-3=y by omega,hp]
    · rintro ⟨h1,h2⟩
      rw [hq 0 f1] at h1;have:=f4 h1;have:=(decS_one this).1;omega
  have dl:∀ k,k < y→cdig x k=bat (decS (m / 100)) k:=by
    intro k hk;unfold cdig;rw [hfr,z,if_pos (by omega),Nat.zero_add,hq k hk]
  have da:cdig x y=48+m / 10%10:=by
    unfold cdig;rw [hfr,z,if_neg (by omega),Nat.zero_add,hd1]
  have db:cdig x (y+1)=48+m%10:=by
    unfold cdig;rw [hfr,z,if_neg (by omega),Nat.zero_add,hd2]
  have hdigs:cdigs x=true:=by
    rw [cdigs_true,hfr,z];intro k hk
    by_cases h1:k < y
    · rw [dl k h1]
      exact digAt_true.1 (f3 k h1)
    · by_cases h2:k=y
      · rw [h2,da];omega
      · obtain rfl:k=y+1:=by omega
        rw [db];omega
  have hall:allDig (decS (m / 100)) y=true:=by
    unfold allDig;rw [List.all_eq_true];exact fun k hk=>f3 k (List.mem_range.1 hk)
  have hv:cval x=(m:Int):=by
    unfold cval;rw [hfr,z,show y+3-0-1=y+1+1 by omega,capN,capN,capN_dec y dl hall (by rw [f2];omega),da,db,f2];omega
  have hE:centsE x=0:=by
    unfold centsE;rw [if_neg (by omega),hform,hdigs,hv,hfr];simp;omega
  unfold centsV;rw [if_pos hE,hfr,if_neg (by omega),hv]
theorem amt_digs (m:Nat):∀ b∈(amtS m).data.toList,(48≤b.toNat∧b.toNat≤57)∨b=46:=by
  intro b hb;unfold amtS at hb;simp only [ByteArray.data_append,Array.toList_append,List.mem_append] at hb;rcases hb with h | h | h | h
  · exact Or.inl (decS_digs _ b h)
  · right;simpa using h
  · exact Or.inl (decS_digs _ b h)
  · exact Or.inl (decS_digs _ b h)
end
section
open Go Go.RowKit

def noNl (x:List UInt8):Prop:=∀ b∈x,b≠10
theorem indexByte_hitN (y:List UInt8):∀ (x:List UInt8),noNl x→Go.Lib.indexByte (x++10::y) 10=(x.length:Int)
  | [],_=>by simp [Go.Lib.indexByte]
  | b :: x, h => by
    have hb:(b==10)=false:=by
      have:=h b (by simp);simpa using this
    have ih:=indexByte_hitN y x (fun c hc=>h c (List.mem_cons_of_mem _ hc));have hn:((x.length:Int)==-1)=false:=by simp
    rw [List.cons_append,Go.Lib.indexByte,hb,ih];simp [hn]
theorem drop_past (x y:List UInt8) (c:UInt8):List.drop (x.length+[c].length) (x++c::y)=y:=by
  have:List.drop (x.length+1) (x++c::y)=List.drop 1 (List.drop x.length (x++c::y)):=by rw [List.drop_drop]
  show List.drop (x.length+1) (x++c::y)=y;rw [this,List.drop_left];rfl
theorem count_no (c:UInt8) (x:List UInt8) (h:∀ b∈x,b≠c):x.count c=0:=List.count_eq_zero.2 (fun hm=>h c hm rfl)
theorem split_hit (x y:List UInt8) (h:noNl x):Go.Lib.split (x++10::y) [10]=x::Go.Lib.split y [10]:=by
  have e:Go.Lib.index (x++10::y) [10]=(x.length:Int):=by rw [Go.Lib.index_one,indexByte_hitN y x h]
  have hc:Go.Lib.count (x++10::y) [10]=Go.Lib.count y [10]+1:=by
    rw [Go.Lib.count_one,Go.Lib.count_one,List.count_append,List.count_cons_self,count_no 10 x h];omega
  unfold Go.Lib.split;rw [hc,Go.Lib.splitK,e,if_neg (by simp),Int.toNat_natCast,drop_past,Nat.add_zero,List.take_left]
theorem repl_hit (x y:List UInt8) (h:noBlank x):Go.Lib.replaceAll (x++32::y) [32] []=x++Go.Lib.replaceAll y [32] []:=by
  have e:Go.Lib.index (x++32::y) [32]=(x.length:Int):=by rw [Go.Lib.index_one,indexByte_hit y x h]
  have hc:Go.Lib.count (x++32::y) [32]=Go.Lib.count y [32]+1:=by
    rw [Go.Lib.count_one,Go.Lib.count_one,List.count_append,List.count_cons_self,count_no 32 x h];omega
  have hne:(([32]:List UInt8)==[])=false:=rfl;unfold Go.Lib.replaceAll Go.Lib.replace;rw [hne,if_neg (by decide),if_neg (by decide)];unfold Go.Lib.replaceNum;rw [if_pos (Or.inl (by decide)),if_pos (Or.inl (by decide)),hc,Go.Lib.replaceK_hit _ _ _ _ _ e,drop_past,List.take_left,List.append_nil]
theorem repl_miss (x:List UInt8) (h:noBlank x):Go.Lib.replaceAll x [32] []=x:=by
  have hc:Go.Lib.count x [32]=0:=by rw [Go.Lib.count_one,count_no 32 x h]
  have hne:(([32]:List UInt8)==[])=false:=rfl;unfold Go.Lib.replaceAll Go.Lib.replace;rw [hne,if_neg (by decide)];unfold Go.Lib.replaceNum;rw [if_pos (Or.inl (by decide)),hc];rfl

/-! ### the lines, as the program keeps them -/
def spl (s:ByteArray):List ByteArray:=Go.Lib.splitB ⟨#[10]⟩ 0 (Go.Lib.countB s ⟨#[10]⟩) s
def hdL (r:ByteArray):ByteArray:=⟨(Go.Lib.cut r.data.toList (⟨#[32]⟩:ByteArray).data.toList).1.toArray⟩
def tlL (r:ByteArray):ByteArray:=⟨(Go.Lib.cut r.data.toList (⟨#[32]⟩:ByteArray).data.toList).2.1.toArray⟩
/-- what was said under a name in the first j lines: the last of them counts -/
def sdN (ls:List ByteArray):Nat→ByteArray→ByteArray
  | 0,_=>⟨#[]⟩
  | j+1,nm=>if hdL (ls.getD j ⟨#[]⟩)=nm then tlL (ls.getD j ⟨#[]⟩) else sdN ls j nm
theorem ba_eq {a:ByteArray} {l:List UInt8} (h:a.data.toList=l):a=⟨l.toArray⟩:=by
  apply ByteArray.ext;apply Array.toList_inj.1;rw [h]
theorem spl_data (s:ByteArray):(spl s).map (·.data.toList)=Go.Lib.split s.data.toList [10]:=by
  unfold spl;rw [Go.Lib.splitB_data];rfl
theorem spl_of {s:ByteArray} {L:List ByteArray} (h:Go.Lib.split s.data.toList [10]=L.map (·.data.toList)):spl s=L:=by
  have h1:=(spl_data s).trans h;generalize spl s=M at *;clear h
  induction M generalizing L with
  | nil=>cases L with
    | nil=>rfl
    | cons=>cases h1
  | cons x M ih=>cases L with
    | nil=>cases h1
    | cons y L=>
      simp only [List.map_cons,List.cons.injEq] at h1;rw [ih h1.2]
      congr 1
      exact ByteArray.ext (Array.toList_inj.1 h1.1)
/-- a line: its name, a blank, its text -/
def lnB (n t:ByteArray):ByteArray:=n++⟨#[32]⟩++t
theorem lnB_data (n t:ByteArray):(lnB n t).data.toList=n.data.toList++32::t.data.toList:=by
  unfold lnB;simp [ByteArray.data_append]
theorem ln_cut (n t:ByteArray) (h:noBlank n.data.toList):hdL (lnB n t)=n∧tlL (lnB n t)=t:=by
  unfold hdL tlL;rw [lnB_data,show (⟨#[32]⟩:ByteArray).data.toList=[32] from rfl,Go.Proofs.YtfhmcahfjoliiaaGreatDoor.cut_hit _ _ h];exact ⟨(ba_eq rfl).symm,(ba_eq rfl).symm⟩
theorem nil_cut:hdL ⟨#[]⟩=⟨#[]⟩∧tlL ⟨#[]⟩=⟨#[]⟩:=⟨rfl,rfl⟩
end
end Go.Proofs.YtfhmcahfjoliiaaGreatDoor

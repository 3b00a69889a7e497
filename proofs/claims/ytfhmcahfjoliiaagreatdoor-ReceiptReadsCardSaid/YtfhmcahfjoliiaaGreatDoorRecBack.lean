/- what each of the two readers makes of a receipt's text, in plain terms: out of the text of a receipt without fault both make that receipt -/
import Derived.Test.YtfhmcahfjoliiaaGreatDoorRecShown
import Derived.Test.YtfhmcahfjoliiaaGreatDoorRecMeter
import Derived.Test.YtfhmcahfjoliiaaGreatDoorPk42
import Derived.Test.YtfhmcahfjoliiaaGreatDoorRecVals
set_option maxRecDepth 20000
set_option maxHeartbeats 8000000
set_option linter.unusedSimpArgs false
set_option linter.unusedVariables false
namespace Go.Proofs.YtfhmcahfjoliiaaGreatDoor
open Go Go.RowKit

structure ARec where
  (me id te de fe pr ch un:Int)
  tk:ByteArray
def ARec.cells (y:ARec):List Value:=[I y.me,I y.id,I y.te,I y.de,I y.fe,I y.pr,I y.ch,I y.un,.string y.tk]
/-- without fault, and this is its text -/
def ARec.ok (y:ARec) (s:ByteArray):Prop:=recSE y.me y.id y.te y.de y.fe y.pr y.ch y.un y.tk=0∧recTxt y.me y.id y.te y.de y.fe y.pr y.ch y.un y.tk=s
abbrev zRec:List Value:=[I 0,I 0,I 0,I 0,I 0,I 0,I 0,I 0,.string ⟨#[]⟩]
def recAns (y:ARec) (s:ByteArray):Value:=if recSE y.me y.id y.te y.de y.fe y.pr y.ch y.un y.tk=0∧recTxt y.me y.id y.te y.de y.fe y.pr y.ch y.un y.tk=s then T2 (.agg y.cells.toArray) (I 0) else T2 (.agg zRec.toArray) (I 3)
def recAnsO (o:Option ARec) (s:ByteArray):Value:=match o with
  | none=>T2 (.agg zRec.toArray) (I 3)
  | some y=>recAns y s
/-- a number as strconv.Atoi gives it, whatever its error -/
def atV (t:ByteArray):Int:=match Go.Lib.atoiAll t.data.toList with
  | .ok v=>v
  | .range=>Go.Lib.atoiSat t.data.toList
  | _=>0
def rplB (t:ByteArray):ByteArray:=⟨(Go.Lib.replaceAll t.data.toList (⟨#[32]⟩:ByteArray).data.toList (⟨#[]⟩:ByteArray).data.toList).toArray⟩
def sdS (s:ByteArray) (nm:ByteArray):ByteArray:=sdN (spl s) (spl s).length nm
def recP2 (s:ByteArray):ARec:=⟨mnV (sdS s kMETER),atV (sdS s kNUMBER),centsV (sdS s kTENDER),centsV (sdS s kDEBT),centsV (sdS s kFEE),centsV (sdS s kPRICE),centsV (sdS s kCHANGE),atV (sdS s kUNITS),rplB (sdS s kTOKEN)⟩
def tok5 (t:ByteArray):ByteArray:=t.extract 0 4++t.extract 5 9++t.extract 10 14++t.extract 15 19++t.extract 20 24
def atL (l:List ByteArray) (k:Nat):ByteArray:=l.getD k ⟨#[]⟩
def recR2 (s:ByteArray):Option ARec:=match valN s with
  | none=>none
  | some l=>if (atL l 8).size=24 then some ⟨mnV (atL l 0),whI (atL l 1),centsV (atL l 2),centsV (atL l 3),centsV (atL l 4),centsV (atL l 5),centsV (atL l 6),whI (atL l 7),tok5 (atL l 8)⟩ else none

/-! ### the facts of a receipt without fault -/
structure Sound (y:ARec):Prop where
  me:0≤y.me∧y.me≤49
  id:1≤y.id∧y.id≤1048575
  te:0≤y.te∧y.te≤100000000
  de:0≤y.de∧y.de≤100000000
  fe:0≤y.fe∧y.fe≤100000000
  pr:0≤y.pr∧y.pr≤100000000
  ch:0≤y.ch∧y.ch≤100000000
  un:0≤y.un∧y.un≤2097151
  sz:y.tk.size=20
  dg:allDig y.tk 20=true
theorem sound_of {y : ARec} (h : recSE y.me y.id y.te y.de y.fe y.pr y.ch y.un y.tk = 0) : Sound y := by
  obtain ⟨z1,z2,z3,z4⟩:=recSE_zero h;unfold recSE recE at h;rw [if_neg (by omega)] at h
  split at h
  · cases h
  · rename_i ha
    have ha2:=amts_iff.1 (show amtsOk y.te y.de y.fe y.pr y.ch=true by simpa using ha);rw [if_neg (by omega)] at h
    split at h
    · cases h
    · split at h
      · rename_i h5;exact absurd h h5
      · rename_i h5
        have h6:parE y.tk=0:=Decidable.byContradiction h5;refine ⟨z1,z2,ha2.1,ha2.2.1,ha2.2.2.1,ha2.2.2.2.1,ha2.2.2.2.2,z3,z4,?_⟩;unfold parE at h6;rw [if_pos z4] at h6;cases hd:allDig y.tk 20 with
        | true=>rfl
        | false=>rw [hd,if_neg (by decide)] at h6;cases h6
theorem mnV_num:∀ m:Nat,m < 50→mnV (numV (m:Int))=(m:Int):=by
  have h:∀ m:Fin 50,mnV (numV (m.val:Int))=(m.val:Int):=by decide +kernel
  exact fun m hm=>h ⟨m,hm⟩
theorem numV_digs:∀ m:Nat,m < 50→∀ b∈(numV (m:Int)).data.toList,48≤b.toNat∧b.toNat≤57:=by
  have h:∀ m:Fin 50,∀ b∈(numV (m.val:Int)).data.toList,48≤b.toNat∧b.toNat≤57:=by decide +kernel
  exact fun m hm=>h ⟨m,hm⟩
theorem showV_amt {n:Int} (h:0≤n∧n≤100000000):showV n=amtS n.toNat:=by
  unfold showV;rw [if_pos (by rw [inB_true];omega)];unfold centsS;rw [if_neg (by omega),show n.natAbs=n.toNat by omega];rfl
theorem atV_dec {n:Nat} (h:n < 9223372036854775808):atV (decS n)=(n:Int):=by
  unfold atV decS;rw [show ((⟨(Go.Lib.decDigits n).toArray⟩:ByteArray).data.toList)=Go.Lib.decDigits n by simp,atoi_dec_all n h]
theorem digs_noNl {x:ByteArray} (h:∀ b∈x.data.toList,48≤b.toNat∧b.toNat≤57):noNl x.data.toList:=fun b hb e=>by
  have:=h b hb
  rw [e] at this
  have h2:(10:UInt8).toNat=10:=rfl
  omega
theorem amt_noNl (m:Nat):noNl (amtS m).data.toList:=fun b hb e=>by
  rcases amt_digs m b hb with h | h
  · rw [e] at h
    have h2:(10:UInt8).toNat=10:=rfl
    omega
  · rw [e] at h;cases h
theorem allDig_mem {s:ByteArray} (h:allDig s s.size=true):∀ b∈s.data.toList,48≤b.toNat∧b.toNat≤57:=by
  intro b hb;obtain ⟨k,hk,rfl⟩:=List.getElem_of_mem hb;have hk2:k < s.size:=by rw [Array.length_toList] at hk;exact hk
  have:=digAt_true.1 (allDig_at h hk2);rw [bat_list,List.getElem?_eq_getElem hk] at this;exact this
theorem ext_mem {s:ByteArray} {a b:Nat} {c:UInt8} (h:c∈(s.extract a b).data.toList):c∈s.data.toList:=by
  rw [Go.Lib.extract_data] at h;exact List.mem_of_mem_drop (List.mem_of_mem_take h)
theorem grp_back {s : ByteArray} (hs : s.size = 20) (hd : allDig s 20 = true) : noNl (grpS s).data.toList ∧ rplB (grpS s) = s ∧ (grpS s).size = 24 ∧ tok5 (grpS s) = s := by
  have hm:=allDig_mem (s:=s) (by rw [hs];exact hd)
  have hx:∀ a b,noBlank (s.extract a b).data.toList∧noNl (s.extract a b).data.toList:=fun a b=>
    ⟨fun c hc e=>by have:=hm c (ext_mem hc);rw [e] at this;have h2:(32:UInt8).toNat=32:=rfl;omega,fun c hc e=>by have:=hm c (ext_mem hc);rw [e] at this;have h2:(10:UInt8).toNat=10:=rfl;omega⟩
  have hz:∀ a,a≤16→(s.extract a (a+4)).size=4:=fun a ha=>by rw [size_extract _ _ _ (by omega)];omega
  have hall : s = s.extract 0 4 ++ s.extract 4 8 ++ s.extract 8 12 ++ s.extract 12 16 ++ s.extract 16 20 := by
    apply bat_ext
    · rw [ByteArray.size_append,ByteArray.size_append,ByteArray.size_append,ByteArray.size_append,hz 0 (by omega),hz 4 (by omega),hz 8 (by omega),hz 12 (by omega),hz 16 (by omega)];exact hs
    · intro k hk
      have z0:=hz 0 (by omega);have z1:=hz 4 (by omega);have z2:=hz 8 (by omega);have z3:=hz 12 (by omega);have z4:=hz 16 (by omega);simp only [Nat.zero_add,Nat.reduceAdd] at z0 z1 z2 z3 z4;rw [bat_append,bat_append,bat_append,bat_append,ByteArray.size_append,ByteArray.size_append,ByteArray.size_append,z0,z1,z2,z3]
      by_cases c1:k < 4
      · rw [if_pos (by omega),if_pos (by omega),if_pos (by omega),if_pos (by omega),bat_extract _ _ _ _ (by omega) (by omega)];congr 1;omega
      · by_cases c2:k < 8
        · rw [if_pos (by omega),if_pos (by omega),if_pos (by omega),if_neg (by omega),bat_extract _ _ _ _ (by omega) (by omega)];congr 1;omega
        · by_cases c3:k < 12
          · rw [if_pos (by omega),if_pos (by omega),if_neg (by omega),bat_extract _ _ _ _ (by omega) (by omega)];congr 1;omega
          · by_cases c4:k < 16
            · rw [if_pos (by omega),if_neg (by omega),bat_extract _ _ _ _ (by omega) (by omega)];congr 1;omega
            · rw [if_neg (by omega),bat_extract _ _ _ _ (by omega) (by omega)];congr 1;omega
  rw [grpS_eq];obtain ⟨p0,q0⟩:=hx 0 4;obtain ⟨p1,q1⟩:=hx 4 8;obtain ⟨p2,q2⟩:=hx 8 12;obtain ⟨p3,q3⟩:=hx 12 16;obtain ⟨p4,q4⟩:=hx 16 20;have z0:=hz 0 (by omega);have z1:=hz 4 (by omega);have z2:=hz 8 (by omega);have z3:=hz 12 (by omega);have z4:=hz 16 (by omega);simp only [Nat.zero_add,Nat.reduceAdd] at z0 z1 z2 z3 z4;clear hx hz hm hd hs;generalize s.extract 0 4=x0 at *;generalize s.extract 4 8=x1 at *;generalize s.extract 8 12=x2 at *;generalize s.extract 12 16=x3 at *;generalize s.extract 16 20=x4 at *;subst hall;have zb:(⟨#[32]⟩:ByteArray).size=1:=rfl
  have hlist:(x0++⟨#[32]⟩++x1++⟨#[32]⟩++x2++⟨#[32]⟩++x3++⟨#[32]⟩++x4).data.toList=x0.data.toList++32::(x1.data.toList++32::(x2.data.toList++32::(x3.data.toList++32::x4.data.toList))):=by
    simp [ByteArray.data_append]
  refine ⟨?_,?_,?_,?_⟩
  · rw [hlist]
    intro b hb e;subst e;simp only [List.mem_append,List.mem_cons] at hb;rcases hb with h | h | h | h | h | h | h | h | h
    · exact q0 10 h rfl
    · cases h
    · exact q1 10 h rfl
    · cases h
    · exact q2 10 h rfl
    · cases h
    · exact q3 10 h rfl
    · cases h
    · exact q4 10 h rfl
  · unfold rplB
    rw [hlist,show (⟨#[32]⟩:ByteArray).data.toList=[32] from rfl,show (⟨#[]⟩:ByteArray).data.toList=[] from rfl,repl_hit _ _ p0,repl_hit _ _ p1,repl_hit _ _ p2,repl_hit _ _ p3,repl_miss _ p4];apply ByteArray.ext;apply Array.toList_inj.1;simp [ByteArray.data_append]
  · simp only [ByteArray.size_append,z0,z1,z2,z3,z4,zb]
  · have l0 : x0.data.toList.length = 4 := by rw [Array.length_toList]; exact z0
    have l1:x1.data.toList.length=4:=by rw [Array.length_toList];exact z1
    have l2:x2.data.toList.length=4:=by rw [Array.length_toList];exact z2
    have l3:x3.data.toList.length=4:=by rw [Array.length_toList];exact z3
    have l4:x4.data.toList.length=4:=by rw [Array.length_toList];exact z4
    apply ByteArray.ext;apply Array.toList_inj.1;unfold tok5;simp only [ByteArray.data_append,Array.toList_append,Go.Lib.extract_data];generalize x0.data.toList=y0 at *;generalize x1.data.toList=y1 at *;generalize x2.data.toList=y2 at *;generalize x3.data.toList=y3 at *;generalize x4.data.toList=y4 at *
    match y0,l0 with
    | [a, b, c, d], _ => match y1, l1 with
      | [a, b, c, d], _ => match y2, l2 with
        | [a,b,c,d],_=>match y3,l3 with
          | [a,b,c,d],_=>match y4,l4 with
            | [a,b,c,d],_=>rfl

/-! ### nine lines -/
theorem line_lnB (a n t:ByteArray):lineS a n t=a++(lnB n t++⟨#[10]⟩):=by
  unfold lineS lnB;simp only [ByteArray.append_assoc]
theorem ln_noNl {n t:ByteArray} (hn:noNl n.data.toList) (ht:noNl t.data.toList):noNl (lnB n t).data.toList:=by
  rw [lnB_data];intro b hb e;subst e;simp only [List.mem_append,List.mem_cons] at hb;rcases hb with h | h | h
  · exact hn 10 h rfl
  · cases h
  · exact ht 10 h rfl
def bldT (L:List (ByteArray×ByteArray)):ByteArray:=L.foldl (fun a p=>a++(lnB p.1 p.2++⟨#[10]⟩)) ⟨#[]⟩
def flatT:List (ByteArray×ByteArray)→List UInt8
  | []=>[]
  | p::L=>(lnB p.1 p.2).data.toList++10::flatT L
theorem bld_flat (L:List (ByteArray×ByteArray)):∀ a:ByteArray,(L.foldl (fun a p=>a++(lnB p.1 p.2++⟨#[10]⟩)) a).data.toList=a.data.toList++flatT L:=by
  induction L with
  | nil=>intro a;simp [flatT]
  | cons p L ih=>
    intro a;rw [List.foldl_cons,ih];simp [flatT,ByteArray.data_append]
theorem split_flat (L:List (ByteArray×ByteArray)) (h:∀ p∈L,noNl p.1.data.toList∧noNl p.2.data.toList):Go.Lib.split (flatT L) [10]=L.map (fun p=>(lnB p.1 p.2).data.toList)++[[]]:=by
  induction L with
  | nil=>rfl
  | cons p L ih=>
    unfold flatT;rw [split_hit _ _ (ln_noNl (h p (by simp)).1 (h p (by simp)).2),ih (fun q hq=>h q (List.mem_cons_of_mem _ hq))];rfl
theorem spl_bld (L:List (ByteArray×ByteArray)) (h:∀ p∈L,noNl p.1.data.toList∧noNl p.2.data.toList):spl (bldT L)=L.map (fun p=>lnB p.1 p.2)++[⟨#[]⟩]:=by
  apply spl_of;unfold bldT;rw [bld_flat];have e:(⟨#[]⟩:ByteArray).data.toList++flatT L=flatT L:=rfl;rw [e,split_flat L h,List.map_append,List.map_map];rfl
theorem vs_bld (L:List (ByteArray×ByteArray)) (h:∀ p∈L,noBlank p.1.data.toList∧noNl p.1.data.toList∧noNl p.2.data.toList):∀ (a:ByteArray) (out:List ByteArray),vsN a a.size=some (out,a.size,-1) →
    vsN (L.foldl (fun a p=>a++(lnB p.1 p.2++⟨#[10]⟩)) a) (L.foldl (fun a p=>a++(lnB p.1 p.2++⟨#[10]⟩)) a).size=some (out++L.map (·.2),(L.foldl (fun a p=>a++(lnB p.1 p.2++⟨#[10]⟩)) a).size,-1):=by
  induction L with
  | nil=>intro a out h0;simpa using h0
  | cons p L ih=>
    intro a out h0;have hp:=h p (by simp);have h1:=vsN_line a p.1 p.2 out hp.1 hp.2.1 hp.2.2 h0;have:=ih (fun q hq=>h q (List.mem_cons_of_mem _ hq)) _ _ h1;rw [List.foldl_cons,this];simp
theorem rec_bld (me id te de fe pr ch un:Int) (tk:ByteArray):recTxt me id te de fe pr ch un tk=bldT [(kMETER,numV me),(kNUMBER,decS id.toNat),(kTENDER,showV te),(kDEBT,showV de),(kFEE,showV fe),(kPRICE,showV pr),(kCHANGE,showV ch),(kUNITS,decS un.toNat),(kTOKEN,grpS tk)]:=by
  unfold recTxt bldT;simp only [line_lnB,List.foldl_cons,List.foldl_nil]
theorem nm_ok:(noBlank kMETER.data.toList∧noNl kMETER.data.toList)∧(noBlank kNUMBER.data.toList∧noNl kNUMBER.data.toList)∧(noBlank kTENDER.data.toList∧noNl kTENDER.data.toList)∧(noBlank kDEBT.data.toList∧noNl kDEBT.data.toList)∧(noBlank kFEE.data.toList∧noNl kFEE.data.toList)∧(noBlank kPRICE.data.toList∧noNl kPRICE.data.toList)∧(noBlank kCHANGE.data.toList∧noNl kCHANGE.data.toList)∧(noBlank kUNITS.data.toList∧noNl kUNITS.data.toList)∧(noBlank kTOKEN.data.toList∧noNl kTOKEN.data.toList):=by
  unfold noBlank noNl
  decide
theorem recL_ok {y:ARec} (S:Sound y):∀ p∈[(kMETER,numV y.me),(kNUMBER,decS y.id.toNat),(kTENDER,showV y.te),(kDEBT,showV y.de),(kFEE,showV y.fe),(kPRICE,showV y.pr),(kCHANGE,showV y.ch),(kUNITS,decS y.un.toNat),(kTOKEN,grpS y.tk)],
    noBlank p.1.data.toList∧noNl p.1.data.toList∧noNl p.2.data.toList:=by
  have hn:noNl (numV y.me).data.toList:=by
    have hme:=S.me;have:=numV_digs y.me.toNat (by omega);rw [show ((y.me.toNat:Nat):Int)=y.me by omega] at this;exact digs_noNl this
  have hg:=(grp_back S.sz S.dg).1;intro p hp;simp only [List.mem_cons,List.not_mem_nil,or_false] at hp;rcases hp with rfl | rfl | rfl | rfl | rfl | rfl | rfl | rfl | rfl
  · exact ⟨nm_ok.1.1,nm_ok.1.2,hn⟩
  · exact ⟨nm_ok.2.1.1,nm_ok.2.1.2,digs_noNl (decS_digs _)⟩
  · exact ⟨nm_ok.2.2.1.1,nm_ok.2.2.1.2,by show noNl (showV y.te).data.toList;rw [showV_amt S.te];exact amt_noNl _⟩
  · exact ⟨nm_ok.2.2.2.1.1,nm_ok.2.2.2.1.2,by show noNl (showV y.de).data.toList;rw [showV_amt S.de];exact amt_noNl _⟩
  · exact ⟨nm_ok.2.2.2.2.1.1,nm_ok.2.2.2.2.1.2,by show noNl (showV y.fe).data.toList;rw [showV_amt S.fe];exact amt_noNl _⟩
  · exact ⟨nm_ok.2.2.2.2.2.1.1,nm_ok.2.2.2.2.2.1.2,by show noNl (showV y.pr).data.toList;rw [showV_amt S.pr];exact amt_noNl _⟩
  · exact ⟨nm_ok.2.2.2.2.2.2.1.1,nm_ok.2.2.2.2.2.2.1.2,by show noNl (showV y.ch).data.toList;rw [showV_amt S.ch];exact amt_noNl _⟩
  · exact ⟨nm_ok.2.2.2.2.2.2.2.1.1,nm_ok.2.2.2.2.2.2.2.1.2,digs_noNl (decS_digs _)⟩
  · exact ⟨nm_ok.2.2.2.2.2.2.2.2.1,nm_ok.2.2.2.2.2.2.2.2.2,hg⟩
theorem cents_showV {n:Int} (h:0≤n∧n≤100000000):centsV (showV n)=n:=by
  rw [showV_amt h,cents_amt _ (by omega)];omega
theorem mn_numV {n:Int} (h:0≤n∧n≤49):mnV (numV n)=n:=by
  have:=mnV_num n.toNat (by omega)
  rwa [show ((n.toNat:Nat):Int)=n by omega] at this
/-- OUT OF THE TEXT OF A RECEIPT WITHOUT FAULT THE REFERENCE READS THAT RECEIPT -/
theorem recR2_ok {y:ARec} {s:ByteArray} (h:y.ok s):recR2 s=some y:=by
  obtain ⟨h0,rfl⟩:=h;have S:=sound_of h0;have hL:=recL_ok S;have hv:=vs_bld _ hL ⟨#[]⟩ [] rfl;have hg:=grp_back S.sz S.dg;have h1:=S.id;have h2:=S.un
  have hval:valN (recTxt y.me y.id y.te y.de y.fe y.pr y.ch y.un y.tk)=some [numV y.me,decS y.id.toNat,showV y.te,showV y.de,showV y.fe,showV y.pr,showV y.ch,decS y.un.toNat,grpS y.tk]:=by
    rw [rec_bld];unfold valN bldT;rw [hv];exact if_pos ⟨rfl,rfl⟩
  unfold recR2;rw [hval];simp only [atL,List.getD_cons_zero,List.getD_cons_succ];rw [if_pos hg.2.2.1,mn_numV S.me,whI_dec _ (by omega),cents_showV S.te,cents_showV S.de,cents_showV S.fe,cents_showV S.pr,cents_showV S.ch,whI_dec _ (by omega),hg.2.2.2,show ((y.id.toNat:Nat):Int)=y.id by omega,show ((y.un.toNat:Nat):Int)=y.un by omega]
/-- .. AND SO DOES THE PROGRAM -/
theorem recP2_ok {y:ARec} {s:ByteArray} (h:y.ok s):recP2 s=y:=by
  obtain ⟨h0,rfl⟩:=h;have S:=sound_of h0;have hL:=recL_ok S;have hg:=grp_back S.sz S.dg;have h1:=S.id;have h2:=S.un
  have hs:spl (recTxt y.me y.id y.te y.de y.fe y.pr y.ch y.un y.tk)=[lnB kMETER (numV y.me),lnB kNUMBER (decS y.id.toNat),lnB kTENDER (showV y.te),lnB kDEBT (showV y.de),lnB kFEE (showV y.fe),lnB kPRICE (showV y.pr),lnB kCHANGE (showV y.ch),lnB kUNITS (decS y.un.toNat),lnB kTOKEN (grpS y.tk),⟨#[]⟩]:=by
    rw [rec_bld,spl_bld _ (fun p hp=>⟨(hL p hp).2.1,(hL p hp).2.2⟩)];rfl
  have c0:=ln_cut kMETER (numV y.me) (by unfold noBlank;decide);have c1:=ln_cut kNUMBER (decS y.id.toNat) (by unfold noBlank;decide);have c2:=ln_cut kTENDER (showV y.te) (by unfold noBlank;decide);have c3:=ln_cut kDEBT (showV y.de) (by unfold noBlank;decide);have c4:=ln_cut kFEE (showV y.fe) (by unfold noBlank;decide);have c5:=ln_cut kPRICE (showV y.pr) (by unfold noBlank;decide);have c6:=ln_cut kCHANGE (showV y.ch) (by unfold noBlank;decide);have c7:=ln_cut kUNITS (decS y.un.toNat) (by unfold noBlank;decide);have c8:=ln_cut kTOKEN (grpS y.tk) (by unfold noBlank;decide);have c9:=nil_cut
  have sd:∀ nm,sdS (recTxt y.me y.id y.te y.de y.fe y.pr y.ch y.un y.tk) nm=if (⟨#[]⟩:ByteArray)=nm then ⟨#[]⟩ else if kTOKEN=nm then grpS y.tk else if kUNITS=nm then decS y.un.toNat else if kCHANGE=nm then showV y.ch else if kPRICE=nm then showV y.pr else if kFEE=nm then showV y.fe else if kDEBT=nm then showV y.de else if kTENDER=nm then showV y.te else if kNUMBER=nm then decS y.id.toNat else if kMETER=nm then numV y.me else ⟨#[]⟩:=by
    intro nm;unfold sdS;rw [hs];simp only [sdN,List.length_cons,List.length_nil,Nat.zero_add,Nat.reduceAdd,List.getD_cons_zero,List.getD_cons_succ,c0.1,c0.2,c1.1,c1.2,c2.1,c2.2,c3.1,c3.2,c4.1,c4.2,c5.1,c5.2,c6.1,c6.2,c7.1,c7.2,c8.1,c8.2,c9.1,c9.2]
  generalize recTxt y.me y.id y.te y.de y.fe y.pr y.ch y.un y.tk=s at *;clear hs hL c0 c1 c2 c3 c4 c5 c6 c7 c8 c9;have d0:sdS s kMETER=numV y.me:=by rw [sd];simp only [show ((⟨#[]⟩:ByteArray)=kMETER)=False from eq_false (by decide),show (kTOKEN=kMETER)=False from eq_false (by decide),show (kUNITS=kMETER)=False from eq_false (by decide),show (kCHANGE=kMETER)=False from eq_false (by decide),show (kPRICE=kMETER)=False from eq_false (by decide),show (kFEE=kMETER)=False from eq_false (by decide),show (kDEBT=kMETER)=False from eq_false (by decide),show (kTENDER=kMETER)=False from eq_false (by decide),show (kNUMBER=kMETER)=False from eq_false (by decide),if_false,if_true]
  have d1:sdS s kNUMBER=decS y.id.toNat:=by rw [sd,if_neg (by decide),if_neg (by decide),if_neg (by decide),if_neg (by decide),if_neg (by decide),if_neg (by decide),if_neg (by decide),if_neg (by decide),if_pos rfl]
  have d2:sdS s kTENDER=showV y.te:=by rw [sd,if_neg (by decide),if_neg (by decide),if_neg (by decide),if_neg (by decide),if_neg (by decide),if_neg (by decide),if_neg (by decide),if_pos rfl]
  have d3:sdS s kDEBT=showV y.de:=by rw [sd,if_neg (by decide),if_neg (by decide),if_neg (by decide),if_neg (by decide),if_neg (by decide),if_neg (by decide),if_pos rfl]
  have d4:sdS s kFEE=showV y.fe:=by rw [sd,if_neg (by decide),if_neg (by decide),if_neg (by decide),if_neg (by decide),if_neg (by decide),if_pos rfl]
  have d5:sdS s kPRICE=showV y.pr:=by rw [sd,if_neg (by decide),if_neg (by decide),if_neg (by decide),if_neg (by decide),if_pos rfl]
  have d6:sdS s kCHANGE=showV y.ch:=by rw [sd,if_neg (by decide),if_neg (by decide),if_neg (by decide),if_pos rfl]
  have d7:sdS s kUNITS=decS y.un.toNat:=by rw [sd,if_neg (by decide),if_neg (by decide),if_pos rfl]
  have d8:sdS s kTOKEN=grpS y.tk:=by rw [sd,if_neg (by decide),if_pos rfl]
  unfold recP2;rw [d0,d1,d2,d3,d4,d5,d6,d7,d8,mn_numV S.me,atV_dec (by omega),cents_showV S.te,cents_showV S.de,cents_showV S.fe,cents_showV S.pr,cents_showV S.ch,atV_dec (by omega),hg.2.1,show ((y.id.toNat:Nat):Int)=y.id by omega,show ((y.un.toNat:Nat):Int)=y.un by omega]
/-- SO BOTH ANSWER ALIKE -/
theorem rec_same (s:ByteArray):recAns (recP2 s) s=recAnsO (recR2 s) s:=by
  by_cases h:(recP2 s).ok s
  · rw [recR2_ok h];rfl
  · have hp:recAns (recP2 s) s=T2 (.agg zRec.toArray) (I 3):=if_neg h
    rw [hp];cases hr:recR2 s with
    | none=>rfl
    | some y=>
      have hy:¬ y.ok s:=fun hy=>h (by rw [recP2_ok hy];exact hy);exact (if_neg hy).symm
end Go.Proofs.YtfhmcahfjoliiaaGreatDoor

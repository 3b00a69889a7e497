/- receipt.Meter and its reference -/
import Derived.Test.YtfhmcahfjoliiaaGreatDoorRecNum
import Derived.Test.YtfhmcahfjoliiaaGreatDoorPk05
set_option maxRecDepth 20000
set_option maxHeartbeats 8000000
set_option linter.unusedSimpArgs false
set_option linter.unusedVariables false
namespace Go.Proofs.YtfhmcahfjoliiaaGreatDoor
open Go.RowKit

theorem allDig_mono {s:ByteArray} {n k:Nat} (h:allDig s n=true) (hk:k≤n):allDig s k=true:=by
  unfold allDig at *;rw [List.all_eq_true] at *;intro x hx;exact h x (List.mem_range.2 (by have:=List.mem_range.1 hx;omega))
theorem decFrom_dec {t:ByteArray} (hall:allDig t t.size=true):∀ j k,k+j=t.size→Lib.decFrom (decV t k) (t.data.toList.drop k)=some (decV t t.size)
  | 0,k,h=>by
    obtain rfl:k=t.size:=by omega
    rw [List.drop_eq_nil_of_le (by rw [Array.length_toList];exact Nat.le_refl _)]
    rfl
  | j + 1, k, h => by
    have hk:k < t.size:=by omega
    have hl:k < t.data.toList.length:=by rw [Array.length_toList];exact hk
    have hc:(t.data.toList[k]'hl).toNat=bat t k:=by
      rw [← bat_eq hk];simp [ByteArray.getElem_eq_getElem_data]
    obtain ⟨d0,d1⟩:=digAt_true.1 (allDig_at hall hk);have hd:Lib.digitVal (t.data.toList[k]'hl)=some (bat t k-48):=by unfold Lib.digitVal;rw [hc,if_pos ⟨d0,d1⟩]
    rw [List.drop_eq_getElem_cons hl,Lib.decFrom,hd];exact decFrom_dec hall j (k+1) (by omega)
theorem atoi_dec {t:ByteArray} (hall:allDig t t.size=true) (h0:0 < t.size):Lib.atoi t.data.toList=some (decV t t.size:Int):=by
  have hp:=decFrom_dec hall t.size 0 (by omega);rw [List.drop_zero] at hp;have hl:0 < t.data.toList.length:=by rw [Array.length_toList];exact h0
  have hc:(t.data.toList[0]'hl).toNat=bat t 0:=by
    rw [← bat_eq (s:=t) (k:=0) h0];simp [ByteArray.getElem_eq_getElem_data]
  obtain ⟨d0,d1⟩:=digAt_true.1 (allDig_at hall h0);generalize t.data.toList=l at *;cases l with
  | nil=>simp at hl
  | cons c r=>
    simp only [List.getElem_cons_zero] at hc;have h0:decV t 0=0:=rfl;rw [h0] at hp
    have n1:(c==45)=false:=by
      rw [beq_eq_false_iff_ne];rintro rfl;have:(45:UInt8).toNat=45:=rfl;omega
    have n2:(c==43)=false:=by
      rw [beq_eq_false_iff_ne];rintro rfl;have:(43:UInt8).toNat=43:=rfl;omega
    unfold Lib.atoi;simp only;rw [n1,n2];simp only [Lib.decNat,List.isEmpty_cons,hp,Option.map_some,Bool.false_eq_true,if_false]
theorem decV_congr {s t:ByteArray}:∀ k,(∀ i,i < k→bat s i=bat t i)→decV s k=decV t k
  | 0,_=>rfl
  | k+1,h=>by rw [decV,decV,decV_congr k (fun i hi=>h i (by omega)),h k (by omega)]
theorem allDig_congr {s t:ByteArray} {k:Nat} (h:∀ i,i < k→bat s i=bat t i) (ht:allDig t k=true):allDig s k=true:=by
  unfold allDig at *;rw [List.all_eq_true] at *;intro i hi;have:=ht i hi;unfold digAt at *;rw [h i (List.mem_range.1 hi)];exact this
/-- the digits are told by the number -/
theorem decV_inj {s t:ByteArray}:∀ k,allDig s k=true→allDig t k=true→decV s k=decV t k→∀ i,i < k→bat s i=bat t i
  | 0,_,_,_=>fun i hi=>by omega
  | k+1,hs,ht,h=>fun i hi=>by
    obtain ⟨a0,a1⟩:=digAt_true.1 (allDig_at hs (show k < k+1 by omega))
    obtain ⟨b0,b1⟩:=digAt_true.1 (allDig_at ht (show k < k+1 by omega))
    rw [decV,decV] at h
    by_cases e:i=k
    · rw [e];omega
    · exact decV_inj k (allDig_mono hs (by omega)) (allDig_mono ht (by omega)) (by omega) i (by omega)
theorem numS_dec:∀ m,m < 50→decV (numS m) 10=m∧allDig (numS m) 10=true:=by
  have h:∀ m:Fin 50,decV (numS m.val) 10=m.val∧allDig (numS m.val) 10=true:=by decide +kernel
  exact fun m hm=>h ⟨m,hm⟩
/-- the head of a text of eleven digits -/
theorem head_bat {s:ByteArray} (hs:s.size=11):∀ i,i < 10→bat (s.extract 0 10) i=bat s i:=fun i hi=>by
  have:=bat_extract s 0 10 i (by omega) (by omega)
  rw [Nat.zero_add] at this
  exact this
theorem head_last {s:ByteArray} (hs:s.size=11) (hall:allDig s 11=true):∃ d:Nat,d≤9∧s=s.extract 0 10++dg1 d∧bat s 10=48+d:=by
  obtain ⟨d0,d1⟩:=digAt_true.1 (allDig_at hall (show 10 < 11 by omega));have hx:=size_extract s 0 10 (by omega);refine ⟨bat s 10-48,by omega,?_,by omega⟩;apply bat_ext
  · rw [ByteArray.size_append,hx,dg1_size];omega
  · intro k hk
    rw [bat_append,hx]
    by_cases h:k < 10-0
    · rw [if_pos h];exact (head_bat hs k (by omega)).symm
    · rw [if_neg h]
      obtain rfl:k=10:=by omega
      rw [show 10-(10-0)=0 by omega,bat_dg1 (by omega)];omega
theorem dec_one {d:Nat} (h:d≤9):decS d=dg1 d:=decS_small (by omega)
theorem digs_ok {s:ByteArray} (h0:0 < s.size) (h1:s.size≤200) (h:allDig s s.size=true):digsE s=0:=by
  unfold digsE;rw [if_neg (by omega),if_neg (by omega),h];rfl
/-- a good number is the one of its first ten digits -/
theorem good_num {s:ByteArray} (hs:s.size=11) (hall:allDig s 11=true) (hg:goodB s=true) (hm:decV s 10 < 50):s=numV (decV s 10:Int):=by
  obtain ⟨d,hd,he,_⟩:=head_last hs hall;have hb:=head_bat hs;generalize hq:s.extract 0 10=q at *;have hqs:q.size=10:=by rw [← hq];exact size_extract s 0 10 (by omega)
  have hqd:allDig q 10=true:=allDig_congr hb (allDig_mono hall (by omega));have hqv:decV q 10=decV s 10:=decV_congr 10 hb;obtain ⟨n1,n2⟩:=numS_dec _ hm
  have hqn:q=numS (decV s 10):=by
    apply bat_ext
    · rw [hqs,numS_size _ hm]
    · intro k hk
      exact decV_inj 10 hqd n2 (by rw [n1,hqv]) k (by omega)
  obtain ⟨v1,v2,v3,v4⟩:=num_yes hm
  have hfold:foldI s 0 0 11=thenI d (foldI q 0 1 10):=by
    have f1:=foldI_push q hd 10 (by omega);have f2:=foldI_then q (c:=d) (by omega) (by omega) (by rw [hqs];exact hqd) 1 10 (by omega);rw [he];exact f1.trans f2
  unfold goodB at hg;rw [hs,hfold] at hg;simp only [Bool.and_eq_true,beq_iff_eq,decide_eq_true_eq] at hg;obtain ⟨c0,c1⟩:=foldI_bd q (c:=0) (by omega) (by omega) 1 10;have hb2:=then_back d (foldI q 0 1 10) (by omega) (by omega) c0 c1;rw [hg.2.2] at hb2
  have hd2:(d:Int)=backI (foldI q 0 1 10):=by
    have:decide ((d:Int)=backI (foldI q 0 1 10))=true:=by rw [← hb2];rfl
    exact of_decide_eq_true this
  have hc:chkA q=(d:Int):=by
    unfold chkA;rw [if_pos (digs_ok (by omega) (by omega) (by rw [hqs];exact hqd)),hqs,hd2]
  rw [v1,dec_one (by omega)];rw [← hqn] at v4;rw [v4] at hc;rw [← hqn,show numD (decV s 10)=d by omega];exact he
/-- a number names its meter -/
theorem num_dec {s:ByteArray} {m:Nat} (hm:m < 50) (h:s=numV (m:Int)):decV s 10=m:=by
  obtain ⟨v1,v2,v3,v4⟩:=num_yes hm;have hz:=numS_size m hm;rw [← (numS_dec m hm).1];apply decV_congr;intro i hi;rw [h,v1,bat_append,if_pos (by omega)]

theorem str_eq {a b:ByteArray} (h:a=b):(a.toList==b.toList)=true:=by rw [h];exact beq_self_eq_true _
theorem str_ne {a b:ByteArray} (h:a≠b):(a.toList==b.toList)=false:=by
  rw [beq_eq_false_iff_ne];intro e;apply h;apply ByteArray.ext;apply Array.toList_inj.1;rw [← ByteArray.toList_eq,← ByteArray.toList_eq];exact e
def mnE (s:ByteArray):Int:=if s.size=11 then (if allDig s 11 then (if goodB s then (if decV s 10 < 50 then 0 else 18) else 8) else 7) else 6
def mnV (s:ByteArray):Int:=if mnE s=0 then (decV s 10:Int) else 0
def MnP (s:ByteArray) (w:World) (e:Ending) (w':World):Prop:=Grew (T2 (I (mnV s)) (I (mnE s))) w e w'
theorem mn_bad {s:ByteArray} {k:Int} (h:mnE s=k) (hk:k≠0):mnV s=0:=by unfold mnV;rw [if_neg (by rw [h];exact hk)]
theorem mn_digs {s:ByteArray} (hs:s.size=11):digsE s=if allDig s 11 then 0 else 7:=by
  unfold digsE;rw [if_neg (by omega),if_neg (by omega),hs]

theorem RecMeter_any (s : ByteArray) (w : World) : Calls Tryz.prog 8 #[.string s] w (MnP s w) := by
  unfold MnP
  by_cases hs:s.size=11
  · have hs':(s.size:Int)=11:=by omega
    have R:=Lib.hid (fun W=>Rest_any s W);rw [mn_digs hs] at R;cases hall:allDig s 11
    · have hE:mnE s=7:=by unfold mnE;rw [if_pos hs,hall];rfl
      rw [mn_bad hE (by decide),hE];rw [hall] at R;clear hE hs hall;generalize restA s=a at *;simp only [Bool.false_eq_true,if_false] at R;go_enter Tryz.func8,Tryz.ntmps8
      go_wp2_with fail
      refine (R.out _).mono ?_;rintro e w1 ⟨rfl,k1⟩;go_wp2;go_ret2;exact Grew.intro rfl k1
    · rw [hall] at R
      simp only [if_true] at R;have G:=Lib.hid (fun W=>Good_any s W);generalize restA s=a at *;cases hg:goodB s
      · have hE:mnE s=8:=by unfold mnE;rw [if_pos hs,hall,hg];rfl
        rw [mn_bad hE (by decide),hE];rw [hg] at G;clear hE hs hall hg;go_enter Tryz.func8,Tryz.ntmps8
        go_wp2_with fail
        refine (R.out _).mono ?_;rintro e w1 ⟨rfl,k1⟩
        go_wp2_with fail
        refine (G.out _).mono ?_;rintro e w2 ⟨rfl,k2⟩;have k:=k1.trans (k2.mono k1.size);go_wp2;go_ret2;exact Grew.intro rfl k
      · rw [hg] at G
        have hb:=head_bat hs;have hx:=size_extract s 0 10 (by omega);have ha:=atoi_dec (t:=s.extract 0 10) (by rw [hx];exact allDig_congr hb (allDig_mono hall (by omega))) (by omega);rw [hx,show decV (s.extract 0 10) (10-0)=decV s 10 from decV_congr 10 hb] at ha;have A:=Lib.hid (fun W=>Tryz.strconv_Atoi (s.extract 0 10) (decV s 10:Int) (by omega) ha W);have HE:=Lib.hid (show mnE s=if decV s 10 < 50 then 0 else 18 by unfold mnE;rw [if_pos hs,if_pos hall,if_pos hg]);have HV:=Lib.hid (show mnV s=if mnE s=0 then (decV s 10:Int) else 0 from rfl);generalize hvv:mnV s=vv at *;generalize mnE s=ee at *;clear hvv;have hlt:decV s 10 < 10^10:=decV_lt 10 (allDig_mono hall (by omega));clear hs hall hg hb ha hx;generalize decV s 10=m at *;have HT:=Lib.hid hlt
        by_cases hm:m < 50
        · have hm':¬ (50:Int)≤(m:Int):=by omega
          have H:=Lib.hid (show T2 (I (m:Int)) (I 0)=T2 (I vv) (I ee) by rw [HV.out,HE.out,if_pos hm,if_pos rfl]);clear HE HV hm hlt;go_enter Tryz.func8,Tryz.ntmps8
          go_wp2_with fail
          refine (R.out _).mono ?_;rintro e w1 ⟨rfl,k1⟩
          go_wp2_with fail
          refine (G.out _).mono ?_;rintro e w2 ⟨rfl,k2⟩;have k:=k1.trans (k2.mono k1.size)
          go_wp2_with fail
          refine (A.out _).mono ?_;rintro e w3 ⟨rfl,t,rfl⟩;have k3:=k.trans ((Lib.bytesWorld_below w2 5 t).mono k.size);go_wp2;go_ret2;exact Grew.intro H.out k3
        · have hm':(50:Int)≤(m:Int):=by omega
          have H:=Lib.hid (show T2 (I 0) (I 18)=T2 (I vv) (I ee) by rw [HV.out,HE.out,if_neg hm,if_neg (by decide)]);clear HE HV hm hlt;go_enter Tryz.func8,Tryz.ntmps8
          go_wp2_with fail
          refine (R.out _).mono ?_;rintro e w1 ⟨rfl,k1⟩
          go_wp2_with fail
          refine (G.out _).mono ?_;rintro e w2 ⟨rfl,k2⟩;have k:=k1.trans (k2.mono k1.size)
          go_wp2_with fail
          refine (A.out _).mono ?_;rintro e w3 ⟨rfl,t,rfl⟩;have k3:=k.trans ((Lib.bytesWorld_below w2 5 t).mono k.size);go_wp2;go_ret2;exact Grew.intro H.out k3
  · have hs':¬ (s.size:Int)=11:=by omega
    have hE:mnE s=6:=by unfold mnE;rw [if_neg hs]
    rw [mn_bad hE (by decide),hE];clear hE hs;go_enter Tryz.func8,Tryz.ntmps8;go_wp2;go_ret2;exact Grew.intro rfl below_auto

theorem MeterNamed_any (s : ByteArray) (w : World) : Calls Tryz.prog 14 #[.string s] w (MnP s w) := by
  unfold MnP
  by_cases hs:s.size=11
  · have hs' : (s.size : Int) = 11 := by omega
    have R:=Lib.hid (fun W=>DigitsMay_any s W);rw [mn_digs hs] at R;cases hall:allDig s 11
    · have hE:mnE s=7:=by unfold mnE;rw [if_pos hs,hall];rfl
      rw [mn_bad hE (by decide),hE];rw [hall] at R;simp only [Bool.false_eq_true,if_false] at R;clear hE hs hall;go_enter Tryz.func14,Tryz.ntmps14
      go_wp2_with (go_at_call 34;refine (R.out _).mono ?_;rintro e w' ⟨rfl,rfl⟩)
      go_ret2;exact Grew.intro rfl below_auto
    · rw [hall] at R
      simp only [if_true] at R;have G:=Lib.hid (fun W=>IsGood_any s W);cases hg:goodB s
      · have hE:mnE s=8:=by unfold mnE;rw [if_pos hs,hall,hg];rfl
        rw [mn_bad hE (by decide),hE];rw [hg] at G;clear hE hs hall hg;go_enter Tryz.func14,Tryz.ntmps14
        go_wp2_with (first | (go_at_call 34;refine (R.out _).mono ?_;rintro e w' ⟨rfl,rfl⟩) | (go_at_call 35;refine (G.out _).mono ?_;rintro e w' ⟨rfl,rfl⟩))
        go_ret2;exact Grew.intro rfl below_auto
      · rw [hg] at G
        have HE:=Lib.hid (show mnE s=if decV s 10 < 50 then 0 else 18 by unfold mnE;rw [if_pos hs,if_pos hall,if_pos hg]);have HV:=Lib.hid (show mnV s=if mnE s=0 then (decV s 10:Int) else 0 from rfl);generalize hvv:mnV s=vv at *;generalize mnE s=ee at *;clear hvv;have HY:=Lib.hid (fun hm=>good_num hs hall hg hm);have HN:=Lib.hid (fun (m:Nat) (hm:m < 50) (h:s=numV (m:Int))=>num_dec hm h);generalize decV s 10=n at *;have N:=Lib.hid (fun m W=>NumberOf_any m W);unfold NumP at N;clear hs hall hg;go_enter Tryz.func14,Tryz.ntmps14
        go_wp2_with (first | (go_at_call 34;refine (R.out _).mono ?_;rintro e w' ⟨rfl,rfl⟩) | (go_at_call 35;refine (G.out _).mono ?_;rintro e w' ⟨rfl,rfl⟩))
        go_loopw [5] (fun i wr=>∃ k:Nat,k≤50∧i=I k∧Below w.heap.size w wr∧Hid (∀ j,j < k→n≠j)) (fun i _=>50-(intOf i).toNat)
        case atStart=>exact ⟨0,Nat.zero_le _,rfl,Below.refl _ _,fun j hj=>by omega⟩
        case round=>
          obtain ⟨k,hk,rfl,hb,hno⟩:=hrel
          by_cases hlt:k < 50
          · have hlt':(k:Int) < 50:=by omega
            by_cases he:s=numV (k:Int)
            · have hn:=HN.out k hlt he
              have e0:ee=0:=by rw [HE.out,if_pos (by omega)]
              have H:=Lib.hid (show T2 (I (k:Int)) (I 0)=T2 (I vv) (I ee) by rw [HV.out,e0,if_pos rfl,hn]);clear hn HV HE HY HN e0;have hq:=str_eq he.symm;clear he
              go_wp2_with fail
              refine (N.out _ _).mono ?_;rintro e w1 ⟨rfl,k1⟩;have kk:=hb.trans (k1.mono hb.size);generalize numV (k:Int)=nv at *;go_wp2;go_ret2;exact Grew.intro H.out kk
            · have hq:=str_ne (fun h=>he h.symm)
              have hno2:Hid (∀ j,j < k+1→n≠j):=by
                intro j hj
                by_cases hjk:j=k
                · subst hjk
                  intro hn;exact he (by rw [← hn];exact HY.out (by omega))
                · exact hno j (by omega)
              clear he HV HE HY HN
              go_wp2_with fail
              refine (N.out _ _).mono ?_;rintro e w1 ⟨rfl,k1⟩;have kk:=hb.trans (k1.mono hb.size);generalize numV (k:Int)=nv at *;go_wp2;exact ⟨⟨k+1,by omega,by go_num,kk,hno2⟩,by simp [intOf];omega⟩
          · have hlt':¬ (k:Int) < 50:=by omega
            have hn:¬ n < 50:=by
              intro h;exact hno n (by omega) rfl
            have e0:ee=18:=by rw [HE.out,if_neg hn]
            have H:=Lib.hid (show T2 (I 0) (I 18)=T2 (I vv) (I ee) by rw [HV.out,e0,if_neg (by decide)]);clear hn e0 HV HE HY HN hno;go_wp2;go_ret2;exact Grew.intro H.out hb
  · have hs':¬ (s.size:Int)=11:=by omega
    have hE:mnE s=6:=by unfold mnE;rw [if_neg hs]
    rw [mn_bad hE (by decide),hE];clear hE hs;go_enter Tryz.func14,Tryz.ntmps14;go_wp2;go_ret2;exact Grew.intro rfl below_auto
end Go.Proofs.YtfhmcahfjoliiaaGreatDoor

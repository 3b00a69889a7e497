/- ref.ReceiptFault -/
import Derived.Test.YtfhmcahfjoliiaaGreatDoorPk28
set_option maxRecDepth 20000
set_option maxHeartbeats 8000000
set_option linter.unusedSimpArgs false
set_option linter.unusedVariables false
namespace Go.Proofs.YtfhmcahfjoliiaaGreatDoor
open Go.RowKit

theorem amts_iff {te de fe pr ch:Int}:amtsOk te de fe pr ch=true↔(0≤te∧te≤100000000)∧(0≤de∧de≤100000000)∧(0≤fe∧fe≤100000000)∧(0≤pr∧pr≤100000000)∧(0≤ch∧ch≤100000000):=by
  unfold amtsOk;simp only [List.all_cons,List.all_nil,Bool.and_true,Bool.and_eq_true,inB_true]
theorem ReceiptFault_any (me id te de fe pr ch un : Int) (s : ByteArray) (w : World) : Calls Tryz.prog 38 #[recV me id te de fe pr ch un s] w (RP (recE me id te de fe pr ch un (parT s) (parE s)) w) := by
  have P:=Lib.hid (fun W=>Parsed_any s W);unfold ParP at P;generalize parT s=x at *;obtain ⟨c,i,m,t⟩:=x;generalize parE s=er at *;cases hme:inB me 0 49
  · have hE:=Lib.hid (show recE me id te de fe pr ch un ⟨c,i,m,t⟩ er=18 by unfold recE;rw [if_pos (inB_false.1 hme)])
    generalize recE me id te de fe pr ch un ⟨c,i,m,t⟩ er=R at *;go_enter Tryz.func38,Tryz.ntmps38
    go_wp2_with (go_at_call 63;refine (In_any _ _ _ _).mono ?_;rintro e w' ⟨rfl,rfl⟩)
    go_ret;exact RP.intro hE.out below_auto
  have HR:Hid (recE me id te de fe pr ch un ⟨c,i,m,t⟩ er=if amtsOk te de fe pr ch=false then 2 else if ¬ (1≤id∧id≤1048575∧0≤un∧un≤2097151) then 2
        else if ¬ te=de+fe+pr+ch then 19 else if ¬ er=0 then er else if tokFits ⟨c,i,m,t⟩ id un then 0 else 8):=by
    show recE _ _ _ _ _ _ _ _ _ _=_;unfold recE;rw [if_neg (by simpa using inB_true.1 hme)]
  generalize recE me id te de fe pr ch un ⟨c,i,m,t⟩ er=R at *;cases h1:inB te 0 100000000
  · have hE:=Lib.hid (show R=2 by
      rw [HR.out]
      by_cases ha:amtsOk te de fe pr ch=true
      · rw [if_neg (by rw [ha];decide),if_pos]
        intro hh;have:=amts_iff.1 ha;rw [inB_false] at h1;omega
      · rw [if_pos (by simpa using ha)])
    clear HR;go_enter Tryz.func38,Tryz.ntmps38
    go_wp2_with (go_at_call 63;refine (In_any _ _ _ _).mono ?_;rintro e w' ⟨rfl,rfl⟩)
    go_ret;exact RP.intro hE.out below_auto
  cases h2:inB de 0 100000000
  · have hE:=Lib.hid (show R=2 by
      rw [HR.out]
      by_cases ha:amtsOk te de fe pr ch=true
      · rw [if_neg (by rw [ha];decide),if_pos]
        intro hh;have:=amts_iff.1 ha;rw [inB_false] at h2;omega
      · rw [if_pos (by simpa using ha)])
    clear HR;go_enter Tryz.func38,Tryz.ntmps38
    go_wp2_with (go_at_call 63;refine (In_any _ _ _ _).mono ?_;rintro e w' ⟨rfl,rfl⟩)
    go_ret;exact RP.intro hE.out below_auto
  cases h3:inB fe 0 100000000
  · have hE:=Lib.hid (show R=2 by
      rw [HR.out]
      by_cases ha:amtsOk te de fe pr ch=true
      · rw [if_neg (by rw [ha];decide),if_pos]
        intro hh;have:=amts_iff.1 ha;rw [inB_false] at h3;omega
      · rw [if_pos (by simpa using ha)])
    clear HR;go_enter Tryz.func38,Tryz.ntmps38
    go_wp2_with (go_at_call 63;refine (In_any _ _ _ _).mono ?_;rintro e w' ⟨rfl,rfl⟩)
    go_ret;exact RP.intro hE.out below_auto
  cases h4:inB pr 0 100000000
  · have hE:=Lib.hid (show R=2 by
      rw [HR.out]
      by_cases ha:amtsOk te de fe pr ch=true
      · rw [if_neg (by rw [ha];decide),if_pos]
        intro hh;have:=amts_iff.1 ha;rw [inB_false] at h4;omega
      · rw [if_pos (by simpa using ha)])
    clear HR;go_enter Tryz.func38,Tryz.ntmps38
    go_wp2_with (go_at_call 63;refine (In_any _ _ _ _).mono ?_;rintro e w' ⟨rfl,rfl⟩)
    go_ret;exact RP.intro hE.out below_auto
  cases h5:inB ch 0 100000000
  · have hE:=Lib.hid (show R=2 by
      rw [HR.out]
      by_cases ha:amtsOk te de fe pr ch=true
      · rw [if_neg (by rw [ha];decide),if_pos]
        intro hh;have:=amts_iff.1 ha;rw [inB_false] at h5;omega
      · rw [if_pos (by simpa using ha)])
    clear HR;go_enter Tryz.func38,Tryz.ntmps38
    go_wp2_with (go_at_call 63;refine (In_any _ _ _ _).mono ?_;rintro e w' ⟨rfl,rfl⟩)
    go_ret;exact RP.intro hE.out below_auto
  cases h6:inB id 1 1048575
  · have hE:=Lib.hid (show R=2 by
      rw [HR.out]
      by_cases ha:amtsOk te de fe pr ch=true
      · rw [if_neg (by rw [ha];decide),if_pos]
        intro hh;have:=amts_iff.1 ha;rw [inB_false] at h6;omega
      · rw [if_pos (by simpa using ha)])
    clear HR;go_enter Tryz.func38,Tryz.ntmps38
    go_wp2_with (go_at_call 63;refine (In_any _ _ _ _).mono ?_;rintro e w' ⟨rfl,rfl⟩)
    go_ret;exact RP.intro hE.out below_auto
  cases h7:inB un 0 2097151
  · have hE:=Lib.hid (show R=2 by
      rw [HR.out]
      by_cases ha:amtsOk te de fe pr ch=true
      · rw [if_neg (by rw [ha];decide),if_pos]
        intro hh;have:=amts_iff.1 ha;rw [inB_false] at h7;omega
      · rw [if_pos (by simpa using ha)])
    clear HR;go_enter Tryz.func38,Tryz.ntmps38
    go_wp2_with (go_at_call 63;refine (In_any _ _ _ _).mono ?_;rintro e w' ⟨rfl,rfl⟩)
    go_ret;exact RP.intro hE.out below_auto
  have b1:=inB_true.1 h1;have b2:=inB_true.1 h2;have b3:=inB_true.1 h3;have b4:=inB_true.1 h4;have b5:=inB_true.1 h5;have b6:=inB_true.1 h6;have b7:=inB_true.1 h7;have hR:=HR.out;rw [if_neg (by rw [amts_iff.2 ⟨b1,b2,b3,b4,b5⟩];decide),if_neg (by omega)] at hR;have HR:=Lib.hid hR;clear hR;obtain ⟨te0,te1⟩:=b1;obtain ⟨de0,de1⟩:=b2;obtain ⟨fe0,fe1⟩:=b3;obtain ⟨pr0,pr1⟩:=b4;obtain ⟨ch0,ch1⟩:=b5;clear b6 b7
  by_cases hsum:te=de+fe+pr+ch
  · have hR := HR.out
    rw [if_neg (by simpa using hsum)] at hR;have HR:=Lib.hid hR;have hs1:(te-de-fe-pr-ch != 0)=false:=by simp;omega
    clear hR hsum;go_enter Tryz.func38,Tryz.ntmps38
    go_wp2_with (first | (go_at_call 63;refine (In_any _ _ _ _).mono ?_;rintro e w' ⟨rfl,rfl⟩))
    refine (P.out _).mono ?_;rintro e w1 ⟨rfl,k1⟩;have bO:=((Own.new (w:=w.alloc (.cells #[I me,I id,I te,I de,I fe,I pr,I ch,I un,.string s] 25)) (g:=w.heap.size+1) (by simp) [I id,I te,I de,I fe,I pr,I ch,I un] 23).below k1);have bA:=bO.s7;clear bO;have kk:Below w.heap.size w w1:=below_box (below_box k1);have hbl:w.heap.size+1 < w1.heap.size:=by have:=k1.size;simp at this;omega
    have hbn:¬ w1.heap.size=w.heap.size+1:=by omega
    have hbn2:¬ w.heap.size+1=w1.heap.size:=by omega
    clear k1
    by_cases her:er=0
    · have hR := HR.out
      rw [if_neg (by simpa using her)] at hR;have her':(er != 0)=false:=by simp [her]
      have HR:=Lib.hid hR;clear hR her
      by_cases hi:i=id
      · by_cases hc:c=0
        · by_cases hm:m=un
          · by_cases hu:un=0
            · have hE:Hid (R=0):=by
                unfold Hid;rw [HR.out];rcases Bool.eq_false_or_eq_true (tokFits ⟨c,i,m,t⟩ id un) with h | h
                · have:=tokFits_true h
                  rw [h]
                  first | rfl | (exfalso;omega)
                · have:=tokFits_false h
                  rw [h]
                  first | rfl | (exfalso;omega)
              have hi':(i != id)=false:=by simp [hi]
              have hc':(c==0)=true:=by simp [hc]
              have hc2:(c != 0)=!true:=by simp [hc]
              have hm':(m != un)=false:=by simp [hm]
              have hu':(un != 0)=false:=by simp [hu]
              simp only [Bool.not_true,Bool.not_false] at hc2;clear HR hi hc hm hu;go_wp2;go_ret;exact RP.intro hE.out below_auto
            · have hE:Hid (R=0):=by
                unfold Hid;rw [HR.out];rcases Bool.eq_false_or_eq_true (tokFits ⟨c,i,m,t⟩ id un) with h | h
                · have:=tokFits_true h
                  rw [h]
                  first | rfl | (exfalso;omega)
                · have:=tokFits_false h
                  rw [h]
                  first | rfl | (exfalso;omega)
              have hi':(i != id)=false:=by simp [hi]
              have hc':(c==0)=true:=by simp [hc]
              have hc2:(c != 0)=!true:=by simp [hc]
              have hm':(m != un)=false:=by simp [hm]
              have hu':(un != 0)=true:=by simp [hu]
              simp only [Bool.not_true,Bool.not_false] at hc2;clear HR hi hc hm hu;go_wp2;go_ret;exact RP.intro hE.out below_auto
          · by_cases hu:un=0
            · have hE:Hid (R=8):=by
                unfold Hid;rw [HR.out];rcases Bool.eq_false_or_eq_true (tokFits ⟨c,i,m,t⟩ id un) with h | h
                · have:=tokFits_true h
                  rw [h]
                  first | rfl | (exfalso;omega)
                · have:=tokFits_false h
                  rw [h]
                  first | rfl | (exfalso;omega)
              have hi':(i != id)=false:=by simp [hi]
              have hc':(c==0)=true:=by simp [hc]
              have hc2:(c != 0)=!true:=by simp [hc]
              have hm':(m != un)=true:=by simp [hm]
              have hu':(un != 0)=false:=by simp [hu]
              simp only [Bool.not_true,Bool.not_false] at hc2;clear HR hi hc hm hu;go_wp2;go_ret;exact RP.intro hE.out below_auto
            · have hE:Hid (R=8):=by
                unfold Hid;rw [HR.out];rcases Bool.eq_false_or_eq_true (tokFits ⟨c,i,m,t⟩ id un) with h | h
                · have:=tokFits_true h
                  rw [h]
                  first | rfl | (exfalso;omega)
                · have:=tokFits_false h
                  rw [h]
                  first | rfl | (exfalso;omega)
              have hi':(i != id)=false:=by simp [hi]
              have hc':(c==0)=true:=by simp [hc]
              have hc2:(c != 0)=!true:=by simp [hc]
              have hm':(m != un)=true:=by simp [hm]
              have hu':(un != 0)=true:=by simp [hu]
              simp only [Bool.not_true,Bool.not_false] at hc2;clear HR hi hc hm hu;go_wp2;go_ret;exact RP.intro hE.out below_auto
        · by_cases hm:m=un
          · by_cases hu:un=0
            · have hE:Hid (R=0):=by
                unfold Hid;rw [HR.out];rcases Bool.eq_false_or_eq_true (tokFits ⟨c,i,m,t⟩ id un) with h | h
                · have:=tokFits_true h
                  rw [h]
                  first | rfl | (exfalso;omega)
                · have:=tokFits_false h
                  rw [h]
                  first | rfl | (exfalso;omega)
              have hi':(i != id)=false:=by simp [hi]
              have hc':(c==0)=false:=by simp [hc]
              have hc2:(c != 0)=!false:=by simp [hc]
              have hm':(m != un)=false:=by simp [hm]
              have hu':(un != 0)=false:=by simp [hu]
              simp only [Bool.not_true,Bool.not_false] at hc2;clear HR hi hc hm hu;go_wp2;go_ret;exact RP.intro hE.out below_auto
            · have hE:Hid (R=8):=by
                unfold Hid;rw [HR.out];rcases Bool.eq_false_or_eq_true (tokFits ⟨c,i,m,t⟩ id un) with h | h
                · have:=tokFits_true h
                  rw [h]
                  first | rfl | (exfalso;omega)
                · have:=tokFits_false h
                  rw [h]
                  first | rfl | (exfalso;omega)
              have hi':(i != id)=false:=by simp [hi]
              have hc':(c==0)=false:=by simp [hc]
              have hc2:(c != 0)=!false:=by simp [hc]
              have hm':(m != un)=false:=by simp [hm]
              have hu':(un != 0)=true:=by simp [hu]
              simp only [Bool.not_true,Bool.not_false] at hc2;clear HR hi hc hm hu;go_wp2;go_ret;exact RP.intro hE.out below_auto
          · by_cases hu:un=0
            · have hE:Hid (R=0):=by
                unfold Hid;rw [HR.out];rcases Bool.eq_false_or_eq_true (tokFits ⟨c,i,m,t⟩ id un) with h | h
                · have:=tokFits_true h
                  rw [h]
                  first | rfl | (exfalso;omega)
                · have:=tokFits_false h
                  rw [h]
                  first | rfl | (exfalso;omega)
              have hi':(i != id)=false:=by simp [hi]
              have hc':(c==0)=false:=by simp [hc]
              have hc2:(c != 0)=!false:=by simp [hc]
              have hm':(m != un)=true:=by simp [hm]
              have hu':(un != 0)=false:=by simp [hu]
              simp only [Bool.not_true,Bool.not_false] at hc2;clear HR hi hc hm hu;go_wp2;go_ret;exact RP.intro hE.out below_auto
            · have hE:Hid (R=8):=by
                unfold Hid;rw [HR.out];rcases Bool.eq_false_or_eq_true (tokFits ⟨c,i,m,t⟩ id un) with h | h
                · have:=tokFits_true h
                  rw [h]
                  first | rfl | (exfalso;omega)
                · have:=tokFits_false h
                  rw [h]
                  first | rfl | (exfalso;omega)
              have hi':(i != id)=false:=by simp [hi]
              have hc':(c==0)=false:=by simp [hc]
              have hc2:(c != 0)=!false:=by simp [hc]
              have hm':(m != un)=true:=by simp [hm]
              have hu':(un != 0)=true:=by simp [hu]
              simp only [Bool.not_true,Bool.not_false] at hc2;clear HR hi hc hm hu;go_wp2;go_ret;exact RP.intro hE.out below_auto
      · have hE:Hid (R=8):=by
          unfold Hid;rw [HR.out];simp [tokFits,hi]
        have hi':(i != id)=true:=by simp [hi]
        clear HR hi;go_wp2;go_ret;exact RP.intro hE.out below_auto
    · have hR:=HR.out
      rw [if_pos (by simpa using her)] at hR;have her':(er != 0)=true:=by simpa using her
      have HR:=Lib.hid hR;clear hR her;go_wp2;go_ret;exact RP.intro HR.out below_auto
  · have hR:=HR.out
    rw [if_pos (by simpa using hsum)] at hR;have HR:=Lib.hid hR;have hs1:(te-de-fe-pr-ch != 0)=true:=by simp;omega
    clear hR hsum;go_enter Tryz.func38,Tryz.ntmps38
    go_wp2_with (go_at_call 63;refine (In_any _ _ _ _).mono ?_;rintro e w' ⟨rfl,rfl⟩)
    go_ret;exact RP.intro HR.out below_auto
end Go.Proofs.YtfhmcahfjoliiaaGreatDoor

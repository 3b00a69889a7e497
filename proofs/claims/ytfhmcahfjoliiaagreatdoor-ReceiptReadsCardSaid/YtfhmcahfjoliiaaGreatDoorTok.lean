/- token.fault, token.Body and their references -/
import Derived.Test.YtfhmcahfjoliiaaGreatDoorPk02
import Derived.Test.YtfhmcahfjoliiaaGreatDoorPk01
import Derived.Test.YtfhmcahfjoliiaaGreatDoorOwn
import Derived.OwnWalk
set_option maxRecDepth 20000
set_option maxHeartbeats 8000000
set_option linter.unusedSimpArgs false
set_option linter.unusedVariables false
namespace Go.Proofs.YtfhmcahfjoliiaaGreatDoor
open Go.RowKit

def amtOk (c m:Int):Bool:=if c=0 then inB m 1 2097151 else if c=2 then inB m 1 15 else m==0
def tokFault (x:AToken):Int:=if inB x.class_ 0 3 then (if inB x.id 1 1048575&&inB x.tag 0 65535&&amtOk x.class_ x.amount then 0 else 2) else 9
theorem tokFault_zero {x : AToken} (h : tokFault x = 0) : (0 ≤ x.class_ ∧ x.class_ ≤ 3) ∧ (1 ≤ x.id ∧ x.id ≤ 1048575) ∧ (0 ≤ x.tag ∧ x.tag ≤ 65535) ∧ (0 ≤ x.amount ∧ x.amount ≤ 2097151) := by
  unfold tokFault at h
  split at h
  · rename_i h1
    split at h
    · rename_i h2
      simp only [Bool.and_eq_true,inB_true] at h1 h2;refine ⟨h1,h2.1.1,h2.1.2,?_⟩;have h3:=h2.2;unfold amtOk at h3
      split at h3
      · rw [inB_true] at h3;omega
      · split at h3
        · rw [inB_true] at h3;omega
        · rw [beq_iff_eq] at h3;omega
    · omega
  · omega
def boundsL (c:Int):Int:=if c=0 then 1 else if c=2 then 1 else 0
def boundsH (c:Int):Int:=if c=0 then 2097151 else if c=2 then 15 else 0
theorem bounds_any (c:Int) (w:World):Calls Tryz.prog 114 #[I c] w (Pure (.tuple #[I (boundsL c),I (boundsH c),.bool (inB c 0 3)]) w):=by
  by_cases h0:c=0
  · subst h0
    go_enter Tryz.func114,Tryz.ntmps114;go_wp2;go_ret3;exact Pure.intro rfl
  by_cases h1:c=1
  · subst h1
    go_enter Tryz.func114,Tryz.ntmps114;go_wp2;go_ret3;exact Pure.intro rfl
  by_cases h2:c=2
  · subst h2
    go_enter Tryz.func114,Tryz.ntmps114;go_wp2;go_ret3;exact Pure.intro rfl
  by_cases h3:c=3
  · subst h3
    go_enter Tryz.func114,Tryz.ntmps114;go_wp2;go_ret3;exact Pure.intro rfl
  have hL:boundsL c=0:=by simp [boundsL,h0,h2]
  have hH:boundsH c=0:=by simp [boundsH,h0,h2]
  have hB:inB c 0 3=false:=by rw [inB_false];omega
  rw [hL,hH,hB];clear hL hH hB;go_enter Tryz.func114,Tryz.ntmps114;go_wp2;go_ret3;exact Pure.intro rfl
theorem tokFault_by {x : AToken} : tokFault x = if inB x.class_ 0 3 then (if x.id < 1 ∨ x.id > 1048575 ∨ x.amount < boundsL x.class_ ∨ x.amount > boundsH x.class_ ∨ x.tag < 0 ∨ x.tag > 65535 then 2 else 0) else 9 := by
  unfold tokFault;cases hB:inB x.class_ 0 3
  · rfl
  · rw [inB_true] at hB
    simp only [if_true]
    by_cases h:x.id < 1∨x.id > 1048575∨x.amount < boundsL x.class_∨x.amount > boundsH x.class_∨x.tag < 0∨x.tag > 65535
    · rw [if_pos h, if_neg]
      simp only [Bool.and_eq_true,inB_true];intro h2;have h3:=h2.2;unfold amtOk at h3;unfold boundsL boundsH at h
      split at h3
      · rename_i hc
        simp only [hc,if_true] at h;rw [inB_true] at h3;omega
      · rename_i hc
        simp only [hc,if_false] at h
        split at h3
        · rename_i hc2
          simp only [hc2,if_true] at h;rw [inB_true] at h3;omega
        · rename_i hc2
          simp only [hc2,if_false] at h;rw [beq_iff_eq] at h3;omega
    · rw [if_neg h, if_pos]
      simp only [Bool.and_eq_true,inB_true];refine ⟨⟨by omega,by omega⟩,?_⟩;unfold amtOk;unfold boundsL boundsH at h
      split
      · rename_i hc
        simp only [hc,if_true] at h;rw [inB_true];omega
      · rename_i hc
        simp only [hc,if_false] at h
        split
        · rename_i hc2
          simp only [hc2,if_true] at h;rw [inB_true];omega
        · rename_i hc2
          simp only [hc2,if_false] at h;rw [beq_iff_eq];omega
theorem tkfault_any (x:AToken) (w:World):Calls Tryz.prog 87 #[.agg x.cells.toArray] w (Grew (I (tokFault x)) w):=by
  have B:=Lib.hid (fun W=>bounds_any x.class_ W);have HF:=Lib.hid (tokFault_by (x:=x));generalize tokFault x=r at *;obtain ⟨c,i,m,t⟩:=x;simp only at B HF;show Calls Tryz.prog 87 #[.agg #[I c,I i,I m,I t]] w (Grew (I r) w);generalize boundsL c=lo at *;generalize boundsH c=hi at *;cases hb:inB c 0 3
  · rw [hb] at B HF
    have hr:=HF.out;simp only [Bool.false_eq_true,if_false] at hr;subst hr;go_enter Tryz.func87,Tryz.ntmps87
    go_wp2_with fail
    refine (B.out _).mono ?_;rintro e w' ⟨rfl,rfl⟩;go_wp2;go_ret;exact Grew.intro rfl below_auto
  · rw [hb] at B HF
    have hr:=HF.out;simp only [if_true] at hr;have HR:=Lib.hid hr;clear hr HF;go_enter Tryz.func87,Tryz.ntmps87
    go_wp2_with fail
    refine (B.out _).mono ?_;rintro e w' ⟨rfl,rfl⟩;go_wp2
    all_goals
      go_ret;refine Grew.intro (eI ?_) below_auto;rw [HR.out];simp [*]
      try omega
theorem TokenFault_any (x : AToken) (w : World) : Calls Tryz.prog 99 #[.agg x.cells.toArray] w (Grew (I (tokFault x)) w) := by
  have HF:=Lib.hid (show tokFault x=_ from by unfold tokFault amtOk;rfl);generalize tokFault x=r at *;obtain ⟨c,i,m,t⟩:=x;simp only at HF;show Calls Tryz.prog 99 #[.agg #[I c,I i,I m,I t]] w (Grew (I r) w);cases h1:inB c 0 3
  · have hr:=HF.out
    simp only [h1,Bool.false_eq_true,if_false] at hr;subst hr;go_enter Tryz.func99,Tryz.ntmps99
    go_wp2_with (go_at_call 63;refine (In_any _ _ _ _).mono ?_;rintro e w' ⟨rfl,rfl⟩)
    go_ret;exact Grew.intro rfl below_auto
  · obtain ⟨c0, c1⟩ := inB_true.1 h1
    cases h2:inB i 1 1048575
    · have hr:=HF.out
      simp only [h1,h2,Bool.false_eq_true,if_true,if_false,Bool.false_and] at hr;subst hr;go_enter Tryz.func99,Tryz.ntmps99
      go_wp2_with (go_at_call 63;refine (In_any _ _ _ _).mono ?_;rintro e w' ⟨rfl,rfl⟩)
      go_ret;exact Grew.intro rfl below_auto
    · cases h3 : inB t 0 65535
      · have hr:=HF.out
        simp only [h1,h2,h3,Bool.false_eq_true,if_true,if_false,Bool.true_and,Bool.false_and] at hr;subst hr;go_enter Tryz.func99,Tryz.ntmps99
        go_wp2_with (go_at_call 63;refine (In_any _ _ _ _).mono ?_;rintro e w' ⟨rfl,rfl⟩)
        go_ret;exact Grew.intro rfl below_auto
      · have hr := HF.out
        simp only [h1,h2,h3,if_true,Bool.true_and] at hr;have HR:=Lib.hid hr;clear hr HF
        by_cases q0:c=0
        · subst q0
          cases h4:inB m 1 2097151
          all_goals
            have hr:=HR.out;simp only [h4,Bool.false_eq_true,if_true,if_false] at hr;subst hr;clear HR;go_enter Tryz.func99,Tryz.ntmps99
            go_wp2_with (go_at_call 63;refine (In_any _ _ _ _).mono ?_;rintro e w' ⟨rfl,rfl⟩)
            go_ret;exact Grew.intro rfl below_auto
        · by_cases q2:c=2
          · subst q2
            cases h4:inB m 1 15
            all_goals
              have hr:=HR.out;simp only [h4,q0,Bool.false_eq_true,if_true,if_false] at hr;subst hr;clear HR;go_enter Tryz.func99,Tryz.ntmps99
              go_wp2_with (go_at_call 63;refine (In_any _ _ _ _).mono ?_;rintro e w' ⟨rfl,rfl⟩)
              go_ret;exact Grew.intro rfl below_auto
          · have hr:=HR.out
            simp only [q0,q2,if_false] at hr;clear HR
            by_cases hm:m=0
            · have hr2:r=0:=by rw [hr];simp [hm]
              subst hr2;clear hr
              by_cases q1:c=1
              all_goals
                have q3:c=1∨c=3:=by omega
                go_enter Tryz.func99,Tryz.ntmps99
                go_wp2_with (go_at_call 63;refine (In_any _ _ _ _).mono ?_;rintro e w' ⟨rfl,rfl⟩)
                go_ret;exact Grew.intro rfl below_auto
            · have hr2:r=2:=by rw [hr];simp [hm]
              subst hr2;clear hr
              by_cases q1:c=1
              · subst q1
                go_enter Tryz.func99,Tryz.ntmps99
                go_wp2_with (go_at_call 63;refine (In_any _ _ _ _).mono ?_;rintro e w' ⟨rfl,rfl⟩)
                go_ret;exact Grew.intro rfl below_auto
              · have q3:c=3:=by omega
                subst q3;go_enter Tryz.func99,Tryz.ntmps99
                go_wp2_with (go_at_call 63;refine (In_any _ _ _ _).mono ?_;rintro e w' ⟨rfl,rfl⟩)
                go_ret;exact Grew.intro rfl below_auto
def bodyN (x:AToken):Int:=x.class_*2199023255552+x.id*2097152+x.amount
def bodyV (x:AToken):Int:=if tokFault x=0 then bodyN x else 0
end Go.Proofs.YtfhmcahfjoliiaaGreatDoor

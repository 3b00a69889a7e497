/- book.check: which events may be · two values of type Bill held against each other (made by wip/bin/gen_api.py) · two values of type Debt held against each other (made by wip/bin/gen_api.py) · ref.EventMay · the size of a word · book.Encode -/
import Derived.Test.YtdjgcenjonegjaaGreatPk02
import Derived.Test.YtdjgcenjonegjaaGreatPk01
import Derived.Test.YtdjgcenjonegjaaGreatPk00
import Derived.StillTailTactics
import Derived.Defers
set_option maxRecDepth 20000
set_option maxHeartbeats 8000000
set_option linter.unusedSimpArgs false
set_option linter.unusedVariables false
namespace Go.Proofs.YtdjgcenjonegjaaGreat
section
open Go Go.RowKit

def mx (a b:Int):Int:=if b > a then b else a
def mx4 (a b c d:Int):Int:=mx (mx (mx a b) c) d
theorem run_mx4 (a b c d:Int) (w:World):(Builtin.max_ #[3,3,3,3] 3 #[.int .i64 a,.int .i64 b,.int .i64 c,.int .i64 d]).run Tryz.prog w=.ok (.int .i64 (mx4 a b c d)) w:=by
  simp [Builtin.max_,Builtin.max2,mx4,mx]
theorem mx4_le {a b c d z:Int}:mx4 a b c d≤z↔a≤z∧b≤z∧c≤z∧d≤z:=by
  unfold mx4 mx
  (repeat' split)<;>omega
variable (me mo id te de fe pr ch un ta ow bp:Int)
theorem evMay_reg:evMay 1 me mo id te de fe pr ch un ta ow bp=true↔(0≤me∧me≤49)∧mo=0∧(id=0∧te=0∧de=0∧fe=0∧pr=0∧ch=0∧un=0)∧ta=0∧ow=0∧bp=0:=by
  simp only [evMay,mayReg,Bool.and_eq_true,inB_true,if_pos,decide_eq_true_eq]
theorem evMay_sale:evMay 2 me mo id te de fe pr ch un ta ow bp=true↔(0≤me∧me≤49)∧(0≤de∧0≤fe∧0≤pr∧0≤ch)∧(1≤te∧te≤100000000)∧de+fe+pr+ch=te∧(1≤un∧un≤2097151)∧(0≤mo∧mo≤2399)∧(1≤id∧id≤1048575)∧(0≤ta∧ta≤65535)∧ow=0∧bp=0:=by
  simp [evMay,maySale,inB_true]
theorem evMay_grant:evMay 3 me mo id te de fe pr ch un ta ow bp=true↔(0≤me∧me≤49)∧(1≤un∧un≤2097151)∧(0≤mo∧mo≤2399)∧(1≤id∧id≤1048575)∧(0≤ta∧ta≤65535)∧(te=0∧de=0∧fe=0∧pr=0∧ch=0)∧ow=0∧bp=0:=by
  simp [evMay,mayGrant,inB_true]
theorem evMay_rekey:evMay 4 me mo id te de fe pr ch un ta ow bp=true↔(0≤me∧me≤49)∧(1≤id∧id≤1048575)∧(0≤ta∧ta≤65535)∧mo=0∧(te=0∧de=0∧fe=0∧pr=0∧ch=0∧un=0)∧ow=0∧bp=0:=by
  simp [evMay,mayRekey,inB_true]
theorem evMay_charge:evMay 5 me mo id te de fe pr ch un ta ow bp=true↔(0≤me∧me≤49)∧(1≤ow∧ow≤1000000000)∧(0≤bp∧bp≤10000)∧mo=0∧(id=0∧te=0∧de=0∧fe=0∧pr=0∧ch=0∧un=0)∧ta=0:=by
  simp [evMay,mayCharge,inB_true]
theorem check_reg (w:World):Calls Tryz.prog 77 #[evV 1 me mo id te de fe pr ch un ta ow bp] w (EvP (evMay 1 me mo id te de fe pr ch un ta ow bp) w):=by
  have HB:=Lib.hid (evMay_reg me mo id te de fe pr ch un ta ow bp);generalize evMay 1 me mo id te de fe pr ch un ta ow bp=b at *;have EQ:=eqlEv_run;have MX:=run_mx4;go_enter Tryz.func77,Tryz.ntmps77
  go_wp2_with (go_at_call 121;refine (bwithin_any _ _ _ _).mono ?_;rintro e w' ⟨rfl,rfl⟩)
  all_goals
    refine (want_any _ _ _).mono ?_;rintro e w' (⟨hbb,rfl,rfl⟩ | ⟨hbb,rfl,rfl⟩);rotate_left
    · exact ⟨rfl,EvP.no (Bool.eq_false_iff.2 fun hh=>by have hc:=HB.out.1 hh;first | omega | (rw [inB_false] at hbb;omega) | (rw [decide_eq_false_iff_not] at hbb;omega) | (unfold eqE at hbb;rw [decide_eq_false_iff_not] at hbb;omega) | (simp only [inB_false,inB_true] at *;omega) | (simp only [decide_eq_false_iff_not,mx4_le] at hbb;omega) | (simp only [decide_eq_false_iff_not,decide_eq_true_eq,mx4_le,beq_eq_false_iff_ne,beq_iff_eq] at *;omega)) below_auto⟩
    first | (exfalso;exact Bool.noConfusion hbb) | rw [inB_true] at hbb | rw [decide_eq_true_eq] at hbb | rw [beq_iff_eq] at hbb | (unfold eqE at hbb;rw [decide_eq_true_eq] at hbb) | skip
    try simp only [inB_true] at *
  go_wp2_with (go_at_call 121;refine (bwithin_any _ _ _ _).mono ?_;rintro e w' ⟨rfl,rfl⟩)
  all_goals
    refine (want_any _ _ _).mono ?_;rintro e w' (⟨hbb,rfl,rfl⟩ | ⟨hbb,rfl,rfl⟩);rotate_left
    · exact ⟨rfl,EvP.no (Bool.eq_false_iff.2 fun hh=>by have hc:=HB.out.1 hh;first | omega | (rw [inB_false] at hbb;omega) | (rw [decide_eq_false_iff_not] at hbb;omega) | (unfold eqE at hbb;rw [decide_eq_false_iff_not] at hbb;omega) | (simp only [inB_false,inB_true] at *;omega) | (simp only [decide_eq_false_iff_not,mx4_le] at hbb;omega) | (simp only [decide_eq_false_iff_not,decide_eq_true_eq,mx4_le,beq_eq_false_iff_ne,beq_iff_eq] at *;omega)) below_auto⟩
    first | (exfalso;exact Bool.noConfusion hbb) | rw [inB_true] at hbb | rw [decide_eq_true_eq] at hbb | rw [beq_iff_eq] at hbb | (unfold eqE at hbb;rw [decide_eq_true_eq] at hbb) | skip
    try simp only [inB_true] at *
  go_wp2;exact bodyPost_ret (results_none rfl _ _ _) rfl (EvP.yes (HB.out.2 (by omega)) below_auto)
theorem check_sale (w:World):Calls Tryz.prog 77 #[evV 2 me mo id te de fe pr ch un ta ow bp] w (EvP (evMay 2 me mo id te de fe pr ch un ta ow bp) w):=by
  have HB:=Lib.hid (evMay_sale me mo id te de fe pr ch un ta ow bp);generalize evMay 2 me mo id te de fe pr ch un ta ow bp=b at *;have EQ:=eqlEv_run;have MX:=run_mx4
  by_cases hM:de≤100000000∧fe≤100000000∧pr≤100000000∧ch≤100000000
  · have hm:=mx4_le.2 hM
    obtain ⟨m1,m2,m3,m4⟩:=hM;go_enter Tryz.func77,Tryz.ntmps77
    go_wp2_with (go_at_call 121;refine (bwithin_any _ _ _ _).mono ?_;rintro e w' ⟨rfl,rfl⟩)
    all_goals
      refine (want_any _ _ _).mono ?_;rintro e w' (⟨hbb,rfl,rfl⟩ | ⟨hbb,rfl,rfl⟩);rotate_left
      · exact ⟨rfl,EvP.no (Bool.eq_false_iff.2 fun hh=>by have hc:=HB.out.1 hh;first | omega | (rw [inB_false] at hbb;omega) | (rw [decide_eq_false_iff_not] at hbb;omega) | (unfold eqE at hbb;rw [decide_eq_false_iff_not] at hbb;omega) | (simp only [inB_false,inB_true] at *;omega) | (simp only [decide_eq_false_iff_not,mx4_le] at hbb;omega) | (simp only [decide_eq_false_iff_not,decide_eq_true_eq,mx4_le,beq_eq_false_iff_ne,beq_iff_eq] at *;omega)) below_auto⟩
      first | (exfalso;exact Bool.noConfusion hbb) | rw [inB_true] at hbb | rw [decide_eq_true_eq] at hbb | rw [beq_iff_eq] at hbb | (unfold eqE at hbb;rw [decide_eq_true_eq] at hbb) | skip
      try simp only [inB_true] at *
    go_wp2_with (go_at_call 121;refine (bwithin_any _ _ _ _).mono ?_;rintro e w' ⟨rfl,rfl⟩)
    all_goals
      refine (want_any _ _ _).mono ?_;rintro e w' (⟨hbb,rfl,rfl⟩ | ⟨hbb,rfl,rfl⟩);rotate_left
      · exact ⟨rfl,EvP.no (Bool.eq_false_iff.2 fun hh=>by have hc:=HB.out.1 hh;first | omega | (rw [inB_false] at hbb;omega) | (rw [decide_eq_false_iff_not] at hbb;omega) | (unfold eqE at hbb;rw [decide_eq_false_iff_not] at hbb;omega) | (simp only [inB_false,inB_true] at *;omega) | (simp only [decide_eq_false_iff_not,mx4_le] at hbb;omega) | (simp only [decide_eq_false_iff_not,decide_eq_true_eq,mx4_le,beq_eq_false_iff_ne,beq_iff_eq] at *;omega)) below_auto⟩
      first | (exfalso;exact Bool.noConfusion hbb) | rw [inB_true] at hbb | rw [decide_eq_true_eq] at hbb | rw [beq_iff_eq] at hbb | (unfold eqE at hbb;rw [decide_eq_true_eq] at hbb) | skip
      try simp only [inB_true] at *
    go_wp2_with (go_at_call 121;refine (bwithin_any _ _ _ _).mono ?_;rintro e w' ⟨rfl,rfl⟩)
    all_goals
      refine (want_any _ _ _).mono ?_;rintro e w' (⟨hbb,rfl,rfl⟩ | ⟨hbb,rfl,rfl⟩);rotate_left
      · exact ⟨rfl,EvP.no (Bool.eq_false_iff.2 fun hh=>by have hc:=HB.out.1 hh;first | omega | (rw [inB_false] at hbb;omega) | (rw [decide_eq_false_iff_not] at hbb;omega) | (unfold eqE at hbb;rw [decide_eq_false_iff_not] at hbb;omega) | (simp only [inB_false,inB_true] at *;omega) | (simp only [decide_eq_false_iff_not,mx4_le] at hbb;omega) | (simp only [decide_eq_false_iff_not,decide_eq_true_eq,mx4_le,beq_eq_false_iff_ne,beq_iff_eq] at *;omega)) below_auto⟩
      first | (exfalso;exact Bool.noConfusion hbb) | rw [inB_true] at hbb | rw [decide_eq_true_eq] at hbb | rw [beq_iff_eq] at hbb | (unfold eqE at hbb;rw [decide_eq_true_eq] at hbb) | skip
      try simp only [inB_true] at *
    go_wp2_with (go_at_call 121;refine (bwithin_any _ _ _ _).mono ?_;rintro e w' ⟨rfl,rfl⟩)
    all_goals
      refine (want_any _ _ _).mono ?_;rintro e w' (⟨hbb,rfl,rfl⟩ | ⟨hbb,rfl,rfl⟩);rotate_left
      · exact ⟨rfl,EvP.no (Bool.eq_false_iff.2 fun hh=>by have hc:=HB.out.1 hh;first | omega | (rw [inB_false] at hbb;omega) | (rw [decide_eq_false_iff_not] at hbb;omega) | (unfold eqE at hbb;rw [decide_eq_false_iff_not] at hbb;omega) | (simp only [inB_false,inB_true] at *;omega) | (simp only [decide_eq_false_iff_not,mx4_le] at hbb;omega) | (simp only [decide_eq_false_iff_not,decide_eq_true_eq,mx4_le,beq_eq_false_iff_ne,beq_iff_eq] at *;omega)) below_auto⟩
      first | (exfalso;exact Bool.noConfusion hbb) | rw [inB_true] at hbb | rw [decide_eq_true_eq] at hbb | rw [beq_iff_eq] at hbb | (unfold eqE at hbb;rw [decide_eq_true_eq] at hbb) | skip
      try simp only [inB_true] at *
    go_wp2_with (go_at_call 121;refine (bwithin_any _ _ _ _).mono ?_;rintro e w' ⟨rfl,rfl⟩)
    all_goals
      refine (want_any _ _ _).mono ?_;rintro e w' (⟨hbb,rfl,rfl⟩ | ⟨hbb,rfl,rfl⟩);rotate_left
      · exact ⟨rfl,EvP.no (Bool.eq_false_iff.2 fun hh=>by have hc:=HB.out.1 hh;first | omega | (rw [inB_false] at hbb;omega) | (rw [decide_eq_false_iff_not] at hbb;omega) | (unfold eqE at hbb;rw [decide_eq_false_iff_not] at hbb;omega) | (simp only [inB_false,inB_true] at *;omega) | (simp only [decide_eq_false_iff_not,mx4_le] at hbb;omega) | (simp only [decide_eq_false_iff_not,decide_eq_true_eq,mx4_le,beq_eq_false_iff_ne,beq_iff_eq] at *;omega)) below_auto⟩
      first | (exfalso;exact Bool.noConfusion hbb) | rw [inB_true] at hbb | rw [decide_eq_true_eq] at hbb | rw [beq_iff_eq] at hbb | (unfold eqE at hbb;rw [decide_eq_true_eq] at hbb) | skip
      try simp only [inB_true] at *
    go_wp2_with (go_at_call 121;refine (bwithin_any _ _ _ _).mono ?_;rintro e w' ⟨rfl,rfl⟩)
    all_goals
      refine (want_any _ _ _).mono ?_;rintro e w' (⟨hbb,rfl,rfl⟩ | ⟨hbb,rfl,rfl⟩);rotate_left
      · exact ⟨rfl,EvP.no (Bool.eq_false_iff.2 fun hh=>by have hc:=HB.out.1 hh;first | omega | (rw [inB_false] at hbb;omega) | (rw [decide_eq_false_iff_not] at hbb;omega) | (unfold eqE at hbb;rw [decide_eq_false_iff_not] at hbb;omega) | (simp only [inB_false,inB_true] at *;omega) | (simp only [decide_eq_false_iff_not,mx4_le] at hbb;omega) | (simp only [decide_eq_false_iff_not,decide_eq_true_eq,mx4_le,beq_eq_false_iff_ne,beq_iff_eq] at *;omega)) below_auto⟩
      first | (exfalso;exact Bool.noConfusion hbb) | rw [inB_true] at hbb | rw [decide_eq_true_eq] at hbb | rw [beq_iff_eq] at hbb | (unfold eqE at hbb;rw [decide_eq_true_eq] at hbb) | skip
      try simp only [inB_true] at *
    go_wp2;exact bodyPost_ret (results_none rfl _ _ _) rfl (EvP.yes (HB.out.2 (by omega)) below_auto)
  · have hm:¬ mx4 de fe pr ch≤100000000:=fun h=>hM (mx4_le.1 h)
    have HB2:Hid (b=false):=Bool.eq_false_iff.2 fun hh=>by have:=HB.out.1 hh;omega
    clear hM;go_enter Tryz.func77,Tryz.ntmps77
    go_wp2_with (go_at_call 121;refine (bwithin_any _ _ _ _).mono ?_;rintro e w' ⟨rfl,rfl⟩)
    all_goals
      refine (want_any _ _ _).mono ?_;rintro e w' (⟨hbb,rfl,rfl⟩ | ⟨hbb,rfl,rfl⟩);rotate_left
      · exact ⟨rfl,EvP.no (Bool.eq_false_iff.2 fun hh=>by have hc:=HB.out.1 hh;first | omega | (rw [inB_false] at hbb;omega) | (rw [decide_eq_false_iff_not] at hbb;omega) | (unfold eqE at hbb;rw [decide_eq_false_iff_not] at hbb;omega) | (simp only [inB_false,inB_true] at *;omega) | (simp only [decide_eq_false_iff_not,mx4_le] at hbb;omega) | (simp only [decide_eq_false_iff_not,decide_eq_true_eq,mx4_le,beq_eq_false_iff_ne,beq_iff_eq] at *;omega)) below_auto⟩
      first | (exfalso;exact Bool.noConfusion hbb) | rw [inB_true] at hbb | rw [decide_eq_true_eq] at hbb | rw [beq_iff_eq] at hbb | (unfold eqE at hbb;rw [decide_eq_true_eq] at hbb) | skip
      try simp only [inB_true] at *
    go_wp2_with (go_at_call 121;refine (bwithin_any _ _ _ _).mono ?_;rintro e w' ⟨rfl,rfl⟩)
    all_goals
      refine (want_any _ _ _).mono ?_;rintro e w' (⟨hbb,rfl,rfl⟩ | ⟨hbb,rfl,rfl⟩);rotate_left
      · exact ⟨rfl,EvP.no (Bool.eq_false_iff.2 fun hh=>by have hc:=HB.out.1 hh;first | omega | (rw [inB_false] at hbb;omega) | (rw [decide_eq_false_iff_not] at hbb;omega) | (unfold eqE at hbb;rw [decide_eq_false_iff_not] at hbb;omega) | (simp only [inB_false,inB_true] at *;omega) | (simp only [decide_eq_false_iff_not,mx4_le] at hbb;omega) | (simp only [decide_eq_false_iff_not,decide_eq_true_eq,mx4_le,beq_eq_false_iff_ne,beq_iff_eq] at *;omega)) below_auto⟩
      first | (exfalso;exact Bool.noConfusion hbb) | rw [inB_true] at hbb | rw [decide_eq_true_eq] at hbb | rw [beq_iff_eq] at hbb | (unfold eqE at hbb;rw [decide_eq_true_eq] at hbb) | skip
      try simp only [inB_true] at *
    go_wp2_with fail
    refine (want_no _ _).mono ?_;rintro e w' ⟨rfl,rfl⟩;exact ⟨rfl,EvP.no HB2.out below_auto⟩
theorem check_grant (w:World):Calls Tryz.prog 77 #[evV 3 me mo id te de fe pr ch un ta ow bp] w (EvP (evMay 3 me mo id te de fe pr ch un ta ow bp) w):=by
  have HB:=Lib.hid (evMay_grant me mo id te de fe pr ch un ta ow bp);generalize evMay 3 me mo id te de fe pr ch un ta ow bp=b at *;have EQ:=eqlEv_run;have MX:=run_mx4;go_enter Tryz.func77,Tryz.ntmps77
  go_wp2_with (go_at_call 121;refine (bwithin_any _ _ _ _).mono ?_;rintro e w' ⟨rfl,rfl⟩)
  all_goals
    refine (want_any _ _ _).mono ?_;rintro e w' (⟨hbb,rfl,rfl⟩ | ⟨hbb,rfl,rfl⟩);rotate_left
    · exact ⟨rfl,EvP.no (Bool.eq_false_iff.2 fun hh=>by have hc:=HB.out.1 hh;first | omega | (rw [inB_false] at hbb;omega) | (rw [decide_eq_false_iff_not] at hbb;omega) | (unfold eqE at hbb;rw [decide_eq_false_iff_not] at hbb;omega) | (simp only [inB_false,inB_true] at *;omega) | (simp only [decide_eq_false_iff_not,mx4_le] at hbb;omega) | (simp only [decide_eq_false_iff_not,decide_eq_true_eq,mx4_le,beq_eq_false_iff_ne,beq_iff_eq] at *;omega)) below_auto⟩
    first | (exfalso;exact Bool.noConfusion hbb) | rw [inB_true] at hbb | rw [decide_eq_true_eq] at hbb | rw [beq_iff_eq] at hbb | (unfold eqE at hbb;rw [decide_eq_true_eq] at hbb) | skip
    try simp only [inB_true] at *
  go_wp2_with (go_at_call 121;refine (bwithin_any _ _ _ _).mono ?_;rintro e w' ⟨rfl,rfl⟩)
  all_goals
    refine (want_any _ _ _).mono ?_;rintro e w' (⟨hbb,rfl,rfl⟩ | ⟨hbb,rfl,rfl⟩);rotate_left
    · exact ⟨rfl,EvP.no (Bool.eq_false_iff.2 fun hh=>by have hc:=HB.out.1 hh;first | omega | (rw [inB_false] at hbb;omega) | (rw [decide_eq_false_iff_not] at hbb;omega) | (unfold eqE at hbb;rw [decide_eq_false_iff_not] at hbb;omega) | (simp only [inB_false,inB_true] at *;omega) | (simp only [decide_eq_false_iff_not,mx4_le] at hbb;omega) | (simp only [decide_eq_false_iff_not,decide_eq_true_eq,mx4_le,beq_eq_false_iff_ne,beq_iff_eq] at *;omega)) below_auto⟩
    first | (exfalso;exact Bool.noConfusion hbb) | rw [inB_true] at hbb | rw [decide_eq_true_eq] at hbb | rw [beq_iff_eq] at hbb | (unfold eqE at hbb;rw [decide_eq_true_eq] at hbb) | skip
    try simp only [inB_true] at *
  go_wp2_with (go_at_call 121;refine (bwithin_any _ _ _ _).mono ?_;rintro e w' ⟨rfl,rfl⟩)
  all_goals
    refine (want_any _ _ _).mono ?_;rintro e w' (⟨hbb,rfl,rfl⟩ | ⟨hbb,rfl,rfl⟩);rotate_left
    · exact ⟨rfl,EvP.no (Bool.eq_false_iff.2 fun hh=>by have hc:=HB.out.1 hh;first | omega | (rw [inB_false] at hbb;omega) | (rw [decide_eq_false_iff_not] at hbb;omega) | (unfold eqE at hbb;rw [decide_eq_false_iff_not] at hbb;omega) | (simp only [inB_false,inB_true] at *;omega) | (simp only [decide_eq_false_iff_not,mx4_le] at hbb;omega) | (simp only [decide_eq_false_iff_not,decide_eq_true_eq,mx4_le,beq_eq_false_iff_ne,beq_iff_eq] at *;omega)) below_auto⟩
    first | (exfalso;exact Bool.noConfusion hbb) | rw [inB_true] at hbb | rw [decide_eq_true_eq] at hbb | rw [beq_iff_eq] at hbb | (unfold eqE at hbb;rw [decide_eq_true_eq] at hbb) | skip
    try simp only [inB_true] at *
  go_wp2_with (go_at_call 121;refine (bwithin_any _ _ _ _).mono ?_;rintro e w' ⟨rfl,rfl⟩)
  all_goals
    refine (want_any _ _ _).mono ?_;rintro e w' (⟨hbb,rfl,rfl⟩ | ⟨hbb,rfl,rfl⟩);rotate_left
    · exact ⟨rfl,EvP.no (Bool.eq_false_iff.2 fun hh=>by have hc:=HB.out.1 hh;first | omega | (rw [inB_false] at hbb;omega) | (rw [decide_eq_false_iff_not] at hbb;omega) | (unfold eqE at hbb;rw [decide_eq_false_iff_not] at hbb;omega) | (simp only [inB_false,inB_true] at *;omega) | (simp only [decide_eq_false_iff_not,mx4_le] at hbb;omega) | (simp only [decide_eq_false_iff_not,decide_eq_true_eq,mx4_le,beq_eq_false_iff_ne,beq_iff_eq] at *;omega)) below_auto⟩
    first | (exfalso;exact Bool.noConfusion hbb) | rw [inB_true] at hbb | rw [decide_eq_true_eq] at hbb | rw [beq_iff_eq] at hbb | (unfold eqE at hbb;rw [decide_eq_true_eq] at hbb) | skip
    try simp only [inB_true] at *
  go_wp2;exact bodyPost_ret (results_none rfl _ _ _) rfl (EvP.yes (HB.out.2 (by omega)) below_auto)
theorem check_rekey (w:World):Calls Tryz.prog 77 #[evV 4 me mo id te de fe pr ch un ta ow bp] w (EvP (evMay 4 me mo id te de fe pr ch un ta ow bp) w):=by
  have HB:=Lib.hid (evMay_rekey me mo id te de fe pr ch un ta ow bp);generalize evMay 4 me mo id te de fe pr ch un ta ow bp=b at *;have EQ:=eqlEv_run;have MX:=run_mx4;go_enter Tryz.func77,Tryz.ntmps77
  go_wp2_with (go_at_call 121;refine (bwithin_any _ _ _ _).mono ?_;rintro e w' ⟨rfl,rfl⟩)
  all_goals
    refine (want_any _ _ _).mono ?_;rintro e w' (⟨hbb,rfl,rfl⟩ | ⟨hbb,rfl,rfl⟩);rotate_left
    · exact ⟨rfl,EvP.no (Bool.eq_false_iff.2 fun hh=>by have hc:=HB.out.1 hh;first | omega | (rw [inB_false] at hbb;omega) | (rw [decide_eq_false_iff_not] at hbb;omega) | (unfold eqE at hbb;rw [decide_eq_false_iff_not] at hbb;omega) | (simp only [inB_false,inB_true] at *;omega) | (simp only [decide_eq_false_iff_not,mx4_le] at hbb;omega) | (simp only [decide_eq_false_iff_not,decide_eq_true_eq,mx4_le,beq_eq_false_iff_ne,beq_iff_eq] at *;omega)) below_auto⟩
    first | (exfalso;exact Bool.noConfusion hbb) | rw [inB_true] at hbb | rw [decide_eq_true_eq] at hbb | rw [beq_iff_eq] at hbb | (unfold eqE at hbb;rw [decide_eq_true_eq] at hbb) | skip
    try simp only [inB_true] at *
  go_wp2_with (go_at_call 121;refine (bwithin_any _ _ _ _).mono ?_;rintro e w' ⟨rfl,rfl⟩)
  all_goals
    refine (want_any _ _ _).mono ?_;rintro e w' (⟨hbb,rfl,rfl⟩ | ⟨hbb,rfl,rfl⟩);rotate_left
    · exact ⟨rfl,EvP.no (Bool.eq_false_iff.2 fun hh=>by have hc:=HB.out.1 hh;first | omega | (rw [inB_false] at hbb;omega) | (rw [decide_eq_false_iff_not] at hbb;omega) | (unfold eqE at hbb;rw [decide_eq_false_iff_not] at hbb;omega) | (simp only [inB_false,inB_true] at *;omega) | (simp only [decide_eq_false_iff_not,mx4_le] at hbb;omega) | (simp only [decide_eq_false_iff_not,decide_eq_true_eq,mx4_le,beq_eq_false_iff_ne,beq_iff_eq] at *;omega)) below_auto⟩
    first | (exfalso;exact Bool.noConfusion hbb) | rw [inB_true] at hbb | rw [decide_eq_true_eq] at hbb | rw [beq_iff_eq] at hbb | (unfold eqE at hbb;rw [decide_eq_true_eq] at hbb) | skip
    try simp only [inB_true] at *
  go_wp2_with (go_at_call 121;refine (bwithin_any _ _ _ _).mono ?_;rintro e w' ⟨rfl,rfl⟩)
  all_goals
    refine (want_any _ _ _).mono ?_;rintro e w' (⟨hbb,rfl,rfl⟩ | ⟨hbb,rfl,rfl⟩);rotate_left
    · exact ⟨rfl,EvP.no (Bool.eq_false_iff.2 fun hh=>by have hc:=HB.out.1 hh;first | omega | (rw [inB_false] at hbb;omega) | (rw [decide_eq_false_iff_not] at hbb;omega) | (unfold eqE at hbb;rw [decide_eq_false_iff_not] at hbb;omega) | (simp only [inB_false,inB_true] at *;omega) | (simp only [decide_eq_false_iff_not,mx4_le] at hbb;omega) | (simp only [decide_eq_false_iff_not,decide_eq_true_eq,mx4_le,beq_eq_false_iff_ne,beq_iff_eq] at *;omega)) below_auto⟩
    first | (exfalso;exact Bool.noConfusion hbb) | rw [inB_true] at hbb | rw [decide_eq_true_eq] at hbb | rw [beq_iff_eq] at hbb | (unfold eqE at hbb;rw [decide_eq_true_eq] at hbb) | skip
    try simp only [inB_true] at *
  go_wp2;exact bodyPost_ret (results_none rfl _ _ _) rfl (EvP.yes (HB.out.2 (by omega)) below_auto)
theorem check_charge (w:World):Calls Tryz.prog 77 #[evV 5 me mo id te de fe pr ch un ta ow bp] w (EvP (evMay 5 me mo id te de fe pr ch un ta ow bp) w):=by
  have HB:=Lib.hid (evMay_charge me mo id te de fe pr ch un ta ow bp);generalize evMay 5 me mo id te de fe pr ch un ta ow bp=b at *;have EQ:=eqlEv_run;have MX:=run_mx4;go_enter Tryz.func77,Tryz.ntmps77
  go_wp2_with (go_at_call 121;refine (bwithin_any _ _ _ _).mono ?_;rintro e w' ⟨rfl,rfl⟩)
  all_goals
    refine (want_any _ _ _).mono ?_;rintro e w' (⟨hbb,rfl,rfl⟩ | ⟨hbb,rfl,rfl⟩);rotate_left
    · exact ⟨rfl,EvP.no (Bool.eq_false_iff.2 fun hh=>by have hc:=HB.out.1 hh;first | omega | (rw [inB_false] at hbb;omega) | (rw [decide_eq_false_iff_not] at hbb;omega) | (unfold eqE at hbb;rw [decide_eq_false_iff_not] at hbb;omega) | (simp only [inB_false,inB_true] at *;omega) | (simp only [decide_eq_false_iff_not,mx4_le] at hbb;omega) | (simp only [decide_eq_false_iff_not,decide_eq_true_eq,mx4_le,beq_eq_false_iff_ne,beq_iff_eq] at *;omega)) below_auto⟩
    first | (exfalso;exact Bool.noConfusion hbb) | rw [inB_true] at hbb | rw [decide_eq_true_eq] at hbb | rw [beq_iff_eq] at hbb | (unfold eqE at hbb;rw [decide_eq_true_eq] at hbb) | skip
    try simp only [inB_true] at *
  go_wp2_with (go_at_call 121;refine (bwithin_any _ _ _ _).mono ?_;rintro e w' ⟨rfl,rfl⟩)
  all_goals
    refine (want_any _ _ _).mono ?_;rintro e w' (⟨hbb,rfl,rfl⟩ | ⟨hbb,rfl,rfl⟩);rotate_left
    · exact ⟨rfl,EvP.no (Bool.eq_false_iff.2 fun hh=>by have hc:=HB.out.1 hh;first | omega | (rw [inB_false] at hbb;omega) | (rw [decide_eq_false_iff_not] at hbb;omega) | (unfold eqE at hbb;rw [decide_eq_false_iff_not] at hbb;omega) | (simp only [inB_false,inB_true] at *;omega) | (simp only [decide_eq_false_iff_not,mx4_le] at hbb;omega) | (simp only [decide_eq_false_iff_not,decide_eq_true_eq,mx4_le,beq_eq_false_iff_ne,beq_iff_eq] at *;omega)) below_auto⟩
    first | (exfalso;exact Bool.noConfusion hbb) | rw [inB_true] at hbb | rw [decide_eq_true_eq] at hbb | rw [beq_iff_eq] at hbb | (unfold eqE at hbb;rw [decide_eq_true_eq] at hbb) | skip
    try simp only [inB_true] at *
  go_wp2_with (go_at_call 121;refine (bwithin_any _ _ _ _).mono ?_;rintro e w' ⟨rfl,rfl⟩)
  all_goals
    refine (want_any _ _ _).mono ?_;rintro e w' (⟨hbb,rfl,rfl⟩ | ⟨hbb,rfl,rfl⟩);rotate_left
    · exact ⟨rfl,EvP.no (Bool.eq_false_iff.2 fun hh=>by have hc:=HB.out.1 hh;first | omega | (rw [inB_false] at hbb;omega) | (rw [decide_eq_false_iff_not] at hbb;omega) | (unfold eqE at hbb;rw [decide_eq_false_iff_not] at hbb;omega) | (simp only [inB_false,inB_true] at *;omega) | (simp only [decide_eq_false_iff_not,mx4_le] at hbb;omega) | (simp only [decide_eq_false_iff_not,decide_eq_true_eq,mx4_le,beq_eq_false_iff_ne,beq_iff_eq] at *;omega)) below_auto⟩
    first | (exfalso;exact Bool.noConfusion hbb) | rw [inB_true] at hbb | rw [decide_eq_true_eq] at hbb | rw [beq_iff_eq] at hbb | (unfold eqE at hbb;rw [decide_eq_true_eq] at hbb) | skip
    try simp only [inB_true] at *
  go_wp2;exact bodyPost_ret (results_none rfl _ _ _) rfl (EvP.yes (HB.out.2 (by omega)) below_auto)
theorem check_none (ki:Int) (w:World) (h1:ki≠1) (h2:ki≠2) (h3:ki≠3) (h4:ki≠4) (h5:ki≠5):Calls Tryz.prog 77 #[evV ki me mo id te de fe pr ch un ta ow bp] w (EvP (evMay ki me mo id te de fe pr ch un ta ow bp) w):=by
  have HB:Hid (evMay ki me mo id te de fe pr ch un ta ow bp=true↔False):=by
    unfold Hid evMay;rw [if_neg h1,if_neg h2,if_neg h3,if_neg h4,if_neg h5];simp
  generalize evMay ki me mo id te de fe pr ch un ta ow bp=b at *;go_enter Tryz.func77,Tryz.ntmps77
  go_wp2_with (go_at_call 121;refine (bwithin_any _ _ _ _).mono ?_;rintro e w' ⟨rfl,rfl⟩)
  all_goals
    refine (want_any _ _ _).mono ?_;rintro e w' (⟨hbb,rfl,rfl⟩ | ⟨hbb,rfl,rfl⟩);rotate_left
    · exact ⟨rfl,EvP.no (Bool.eq_false_iff.2 fun hh=>by have hc:=HB.out.1 hh;first | omega | (rw [inB_false] at hbb;omega) | (rw [decide_eq_false_iff_not] at hbb;omega) | (unfold eqE at hbb;rw [decide_eq_false_iff_not] at hbb;omega) | (simp only [inB_false,inB_true] at *;omega) | (simp only [decide_eq_false_iff_not,mx4_le] at hbb;omega) | (simp only [decide_eq_false_iff_not,decide_eq_true_eq,mx4_le,beq_eq_false_iff_ne,beq_iff_eq] at *;omega)) below_auto⟩
    first | (exfalso;exact Bool.noConfusion hbb) | rw [inB_true] at hbb | rw [decide_eq_true_eq] at hbb | rw [beq_iff_eq] at hbb | (unfold eqE at hbb;rw [decide_eq_true_eq] at hbb) | skip
    try simp only [inB_true] at *
  go_wp2_with (go_at_call 121;refine (bwithin_any _ _ _ _).mono ?_;rintro e w' ⟨rfl,rfl⟩)
  all_goals
    refine (want_any _ _ _).mono ?_;rintro e w' (⟨hbb,rfl,rfl⟩ | ⟨hbb,rfl,rfl⟩);rotate_left
    · exact ⟨rfl,EvP.no (Bool.eq_false_iff.2 fun hh=>by have hc:=HB.out.1 hh;first | omega | (rw [inB_false] at hbb;omega) | (rw [decide_eq_false_iff_not] at hbb;omega) | (unfold eqE at hbb;rw [decide_eq_false_iff_not] at hbb;omega) | (simp only [inB_false,inB_true] at *;omega) | (simp only [decide_eq_false_iff_not,mx4_le] at hbb;omega) | (simp only [decide_eq_false_iff_not,decide_eq_true_eq,mx4_le,beq_eq_false_iff_ne,beq_iff_eq] at *;omega)) below_auto⟩
    first | (exfalso;exact Bool.noConfusion hbb) | rw [inB_true] at hbb | rw [decide_eq_true_eq] at hbb | rw [beq_iff_eq] at hbb | (unfold eqE at hbb;rw [decide_eq_true_eq] at hbb) | skip
    try simp only [inB_true] at *
theorem check_any (ki:Int) (w:World):Calls Tryz.prog 77 #[evV ki me mo id te de fe pr ch un ta ow bp] w (EvP (evMay ki me mo id te de fe pr ch un ta ow bp) w):=by
  by_cases h1:ki=1
  · subst h1;exact check_reg me mo id te de fe pr ch un ta ow bp w
  by_cases h2:ki=2
  · subst h2;exact check_sale me mo id te de fe pr ch un ta ow bp w
  by_cases h3:ki=3
  · subst h3;exact check_grant me mo id te de fe pr ch un ta ow bp w
  by_cases h4:ki=4
  · subst h4;exact check_rekey me mo id te de fe pr ch un ta ow bp w
  by_cases h5:ki=5
  · subst h5;exact check_charge me mo id te de fe pr ch un ta ow bp w
  exact check_none me mo id te de fe pr ch un ta ow bp ki w h1 h2 h3 h4 h5
end
section
open Go.RowKit
theorem neqBill_run (x y:ABill) (w:World):(binOp .neq 39 (.agg #[I x.id,I x.tender,I x.debt,I x.fee,I x.price,I x.change,I x.units]) (.agg #[I y.id,I y.tender,I y.debt,I y.fee,I y.price,I y.change,I y.units])).run Tryz.prog w=.ok (.bool (!decide (x=y))) w:=by
  have hpBill:Tryz.prog.stoodInHeld 39=false:=by kernel_rfl
  have htBill:Tryz.prog.underlying 39=some (.struct (Tryz.prog.fieldsOf 39)):=by kernel_rfl
  rw [run_neq_struct,run_equalIn_struct w 9999 39 _ _ htBill hpBill];simp [go_sem];obtain ⟨x0,x1,x2,x3,x4,x5,x6⟩:=x;obtain ⟨y0,y1,y2,y3,y4,y5,y6⟩:=y;clear hpBill htBill;simp only [ABill.mk.injEq]
  (repeat' split)<;>simp_all
theorem eqlBill_run (x y:ABill) (w:World):(binOp .eql 39 (.agg #[I x.id,I x.tender,I x.debt,I x.fee,I x.price,I x.change,I x.units]) (.agg #[I y.id,I y.tender,I y.debt,I y.fee,I y.price,I y.change,I y.units])).run Tryz.prog w=.ok (.bool (decide (x=y))) w:=by
  have hpBill:Tryz.prog.stoodInHeld 39=false:=by kernel_rfl
  have htBill:Tryz.prog.underlying 39=some (.struct (Tryz.prog.fieldsOf 39)):=by kernel_rfl
  rw [run_eql_struct,run_equalIn_struct w 9999 39 _ _ htBill hpBill];simp [go_sem];obtain ⟨x0,x1,x2,x3,x4,x5,x6⟩:=x;obtain ⟨y0,y1,y2,y3,y4,y5,y6⟩:=y;clear hpBill htBill;simp only [ABill.mk.injEq]
  (repeat' split)<;>simp_all
end
section
open Go.RowKit
theorem neqDebt_run (x y:ADebt) (w:World):(binOp .neq 46 (.agg #[I x.owed,I x.bp]) (.agg #[I y.owed,I y.bp])).run Tryz.prog w=.ok (.bool (!decide (x=y))) w:=by
  have hpDebt:Tryz.prog.stoodInHeld 46=false:=by kernel_rfl
  have htDebt:Tryz.prog.underlying 46=some (.struct (Tryz.prog.fieldsOf 46)):=by kernel_rfl
  rw [run_neq_struct,run_equalIn_struct w 9999 46 _ _ htDebt hpDebt];simp [go_sem];obtain ⟨x0,x1⟩:=x;obtain ⟨y0,y1⟩:=y;clear hpDebt htDebt;simp only [ADebt.mk.injEq]
  (repeat' split)<;>simp_all
end
section
open Go Go.RowKit

def eqD2 (a b c d:Int):Bool:=decide (a=c∧b=d)
theorem neqDebt2 (a b c d:Int) (w:World):(binOp .neq 46 (.agg #[I a,I b]) (.agg #[I c,I d])).run Tryz.prog w=.ok (.bool (!eqD2 a b c d)) w:=by
  have:=neqDebt_run ⟨a,b⟩ ⟨c,d⟩ w;simpa [eqD2] using this
theorem eqlBill2 (x3 x4 x5 x6 x7 x8 x9 y3 y4 y5 y6 y7 y8 y9:Int) (w:World):(binOp .eql 39 (.agg #[I x3,I x4,I x5,I x6,I x7,I x8,I x9]) (.agg #[I y3,I y4,I y5,I y6,I y7,I y8,I y9])).run Tryz.prog w=.ok (.bool (eqE7 x3 x4 x5 x6 x7 x8 x9 y3 y4 y5 y6 y7 y8 y9)) w:=by
  have:=eqlBill_run ⟨x3,x4,x5,x6,x7,x8,x9⟩ ⟨y3,y4,y5,y6,y7,y8,y9⟩ w;simpa [eqE7] using this
variable (ki me mo id te de fe pr ch un ta ow bp:Int)
theorem EventMay_reg (w:World):Calls Tryz.prog 97 #[evV 1 me mo id te de fe pr ch un ta ow bp] w (Grew (.bool (evMay 1 me mo id te de fe pr ch un ta ow bp)) w):=by
  have HB:=Lib.hid (evMay_reg me mo id te de fe pr ch un ta ow bp);generalize evMay 1 me mo id te de fe pr ch un ta ow bp=b at *;have EQ:=eqlEv_run;have EB:=eqlBill2;have ED:=neqDebt2;go_enter Tryz.func97,Tryz.ntmps97
  go_wp2_with (go_at_call 57;refine (In_any _ _ _ _).mono ?_;rintro e w' ⟨rfl,rfl⟩)
  all_goals
    clear EQ EB ED;go_ret;refine Grew.intro (eB (Bool.eq_iff_iff.2 ?_)) below_auto;rw [HB.out];simp only [inB_true,inB_false,eqE,eqE7,eqD2,decide_eq_true_eq,decide_eq_false_iff_not,Bool.and_eq_true,Bool.false_eq_true,Bool.not_eq_true',Bool.not_eq_false',false_iff,beq_iff_eq,true_and,and_true] at * <;> omega
theorem EventMay_grant (w:World):Calls Tryz.prog 97 #[evV 3 me mo id te de fe pr ch un ta ow bp] w (Grew (.bool (evMay 3 me mo id te de fe pr ch un ta ow bp)) w):=by
  have HB:=Lib.hid (evMay_grant me mo id te de fe pr ch un ta ow bp);generalize evMay 3 me mo id te de fe pr ch un ta ow bp=b at *;have EQ:=eqlEv_run;have EB:=eqlBill2;have ED:=neqDebt2;go_enter Tryz.func97,Tryz.ntmps97
  go_wp2_with (go_at_call 57;refine (In_any _ _ _ _).mono ?_;rintro e w' ⟨rfl,rfl⟩)
  all_goals
    clear EQ EB ED;go_ret;refine Grew.intro (eB (Bool.eq_iff_iff.2 ?_)) below_auto;rw [HB.out];simp only [inB_true,inB_false,eqE,eqE7,eqD2,decide_eq_true_eq,decide_eq_false_iff_not,Bool.and_eq_true,Bool.false_eq_true,Bool.not_eq_true',Bool.not_eq_false',false_iff,beq_iff_eq,true_and,and_true] at * <;> omega
theorem EventMay_rekey (w:World):Calls Tryz.prog 97 #[evV 4 me mo id te de fe pr ch un ta ow bp] w (Grew (.bool (evMay 4 me mo id te de fe pr ch un ta ow bp)) w):=by
  have HB:=Lib.hid (evMay_rekey me mo id te de fe pr ch un ta ow bp);generalize evMay 4 me mo id te de fe pr ch un ta ow bp=b at *;have EQ:=eqlEv_run;have EB:=eqlBill2;have ED:=neqDebt2;go_enter Tryz.func97,Tryz.ntmps97
  go_wp2_with (go_at_call 57;refine (In_any _ _ _ _).mono ?_;rintro e w' ⟨rfl,rfl⟩)
  all_goals
    clear EQ EB ED;go_ret;refine Grew.intro (eB (Bool.eq_iff_iff.2 ?_)) below_auto;rw [HB.out];simp only [inB_true,inB_false,eqE,eqE7,eqD2,decide_eq_true_eq,decide_eq_false_iff_not,Bool.and_eq_true,Bool.false_eq_true,Bool.not_eq_true',Bool.not_eq_false',false_iff,beq_iff_eq,true_and,and_true] at * <;> omega
theorem EventMay_charge (w:World):Calls Tryz.prog 97 #[evV 5 me mo id te de fe pr ch un ta ow bp] w (Grew (.bool (evMay 5 me mo id te de fe pr ch un ta ow bp)) w):=by
  have HB:=Lib.hid (evMay_charge me mo id te de fe pr ch un ta ow bp);generalize evMay 5 me mo id te de fe pr ch un ta ow bp=b at *;have EQ:=eqlEv_run;have EB:=eqlBill2;have ED:=neqDebt2;go_enter Tryz.func97,Tryz.ntmps97
  go_wp2_with (go_at_call 57;refine (In_any _ _ _ _).mono ?_;rintro e w' ⟨rfl,rfl⟩)
  all_goals
    clear EQ EB ED;go_ret;refine Grew.intro (eB (Bool.eq_iff_iff.2 ?_)) below_auto;rw [HB.out];simp only [inB_true,inB_false,eqE,eqE7,eqD2,decide_eq_true_eq,decide_eq_false_iff_not,Bool.and_eq_true,Bool.false_eq_true,Bool.not_eq_true',Bool.not_eq_false',false_iff,beq_iff_eq,true_and,and_true] at * <;> omega
theorem EventMay_sale (w : World) : Calls Tryz.prog 97 #[evV 2 me mo id te de fe pr ch un ta ow bp] w (Grew (.bool (evMay 2 me mo id te de fe pr ch un ta ow bp)) w) := by
  have HB:=Lib.hid (evMay_sale me mo id te de fe pr ch un ta ow bp);generalize evMay 2 me mo id te de fe pr ch un ta ow bp=b at *;have EQ:=eqlEv_run;have EB:=eqlBill2;have ED:=neqDebt2
  by_cases hM:(0≤de∧de≤100000000)∧(0≤fe∧fe≤100000000)∧(0≤pr∧pr≤100000000)∧(0≤ch∧ch≤100000000)
  · obtain ⟨⟨m1,m2⟩,⟨m3,m4⟩,⟨m5,m6⟩,m7,m8⟩:=hM
    go_enter Tryz.func97,Tryz.ntmps97
    go_wp2_with (go_at_call 57;refine (In_any _ _ _ _).mono ?_;rintro e w' ⟨rfl,rfl⟩)
    all_goals
      clear EQ EB ED;go_ret;refine Grew.intro (eB (Bool.eq_iff_iff.2 ?_)) below_auto;rw [HB.out];simp only [inB_true,inB_false,eqE,eqE7,eqD2,decide_eq_true_eq,decide_eq_false_iff_not,Bool.and_eq_true,Bool.false_eq_true,Bool.not_eq_true',Bool.not_eq_false',false_iff,beq_iff_eq,true_and,and_true] at * <;> omega
  · have hd:de < 0∨(100000000 < de)∨fe < 0∨100000000 < fe∨pr < 0∨100000000 < pr∨ch < 0∨100000000 < ch:=by omega
    clear hM;rcases hd with hd | hd | hd | hd | hd | hd | hd | hd
    all_goals
      go_enter Tryz.func97,Tryz.ntmps97
      go_wp2_with (go_at_call 57;refine (In_any _ _ _ _).mono ?_;rintro e w' ⟨rfl,rfl⟩)
      all_goals
        clear EQ EB ED;go_ret;refine Grew.intro (eB (Bool.eq_iff_iff.2 ?_)) below_auto;rw [HB.out];simp only [inB_true,inB_false,eqE,eqE7,eqD2,decide_eq_true_eq,decide_eq_false_iff_not,Bool.and_eq_true,Bool.false_eq_true,Bool.not_eq_true',Bool.not_eq_false',false_iff,beq_iff_eq,true_and,and_true] at * <;> omega
theorem EventMay_none (w:World) (h1:ki≠1) (h2:ki≠2) (h3:ki≠3) (h4:ki≠4) (h5:ki≠5):Calls Tryz.prog 97 #[evV ki me mo id te de fe pr ch un ta ow bp] w (Grew (.bool (evMay ki me mo id te de fe pr ch un ta ow bp)) w):=by
  have HB:Hid (evMay ki me mo id te de fe pr ch un ta ow bp=true↔False):=by
    unfold Hid evMay;rw [if_neg h1,if_neg h2,if_neg h3,if_neg h4,if_neg h5];simp
  have hk:inB ki 2 4=false:=by rw [inB_false];omega
  generalize evMay ki me mo id te de fe pr ch un ta ow bp=b at *;have EQ:=eqlEv_run;have EB:=eqlBill2;have ED:=neqDebt2;go_enter Tryz.func97,Tryz.ntmps97
  go_wp2_with (go_at_call 57;refine (In_any _ _ _ _).mono ?_;rintro e w' ⟨rfl,rfl⟩)
  all_goals
    clear EQ EB ED;go_ret;refine Grew.intro (eB (Bool.eq_iff_iff.2 ?_)) below_auto;rw [HB.out];simp only [inB_true,inB_false,eqE,eqE7,eqD2,decide_eq_true_eq,decide_eq_false_iff_not,Bool.and_eq_true,Bool.false_eq_true,Bool.not_eq_true',Bool.not_eq_false',false_iff,beq_iff_eq,true_and,and_true] at * <;> omega
theorem EventMay_any (w:World):Calls Tryz.prog 97 #[evV ki me mo id te de fe pr ch un ta ow bp] w (Grew (.bool (evMay ki me mo id te de fe pr ch un ta ow bp)) w):=by
  by_cases h1:ki=1
  · subst h1;exact EventMay_reg me mo id te de fe pr ch un ta ow bp w
  by_cases h2:ki=2
  · subst h2;exact EventMay_sale me mo id te de fe pr ch un ta ow bp w
  by_cases h3:ki=3
  · subst h3;exact EventMay_grant me mo id te de fe pr ch un ta ow bp w
  by_cases h4:ki=4
  · subst h4;exact EventMay_rekey me mo id te de fe pr ch un ta ow bp w
  by_cases h5:ki=5
  · subst h5;exact EventMay_charge me mo id te de fe pr ch un ta ow bp w
  exact EventMay_none ki me mo id te de fe pr ch un ta ow bp w h1 h2 h3 h4 h5
end
section
open Go.RowKit
theorem infoU32:(Tryz.prog.info? 80).map (fun i=>(i.zero,i.size,i.bytes))=some (some (.int .u32 0),1,4):=by kernel_rfl
end
section
open Go Go.RowKit

abbrev fieldsV (g:Nat):Value:=.agg #[.pointer (some ⟨g,0,none⟩),.pointer (some ⟨g,1,none⟩),.pointer (some ⟨g,2,none⟩),.pointer (some ⟨g,3,none⟩),.pointer (some ⟨g,4,none⟩),.pointer (some ⟨g,5,none⟩),.pointer (some ⟨g,6,none⟩),.pointer (some ⟨g,7,none⟩),.pointer (some ⟨g,8,none⟩),.pointer (some ⟨g,9,none⟩),.pointer (some ⟨g,10,none⟩),.pointer (some ⟨g,11,none⟩),.pointer (some ⟨g,12,none⟩)]
theorem fields_any (g:Nat) (w:World):Calls Tryz.prog 76 #[.pointer (some ⟨g,0,none⟩)] w (Grew (fieldsV g) w):=by
  have O:=Lib.hid (Own.new (w:=w) rfl [.pointer none,.pointer none,.pointer none,.pointer none,.pointer none,.pointer none,.pointer none,.pointer none,.pointer none,.pointer none,.pointer none,.pointer none,.pointer none] 156);have k0:=boxed_below w (.cells #[.pointer none,.pointer none,.pointer none,.pointer none,.pointer none,.pointer none,.pointer none,.pointer none,.pointer none,.pointer none,.pointer none,.pointer none,.pointer none] 156);go_enter Tryz.func76,Tryz.ntmps76;go_wp2;generalize w.alloc (.cells #[.pointer none,.pointer none,.pointer none,.pointer none,.pointer none,.pointer none,.pointer none,.pointer none,.pointer none,.pointer none,.pointer none,.pointer none,.pointer none] 156)=W at *;have hz:w.heap.size < W.heap.size:=O.out.lt;have zO:=O.out;have zf0:=zO.f 0;have zf1:=zO.f 1;have zf2:=zO.f 2;have zf3:=zO.f 3;have zf4:=zO.f 4;have zf5:=zO.f 5;have zf6:=zO.f 6;have zf7:=zO.f 7;have zf8:=zO.f 8;have zf9:=zO.f 9;have zf10:=zO.f 10;have zf11:=zO.f 11;have zf12:=zO.f 12;have z0:=zO.c0;have z1:=zO.c1;have z2:=zO.c2;have z3:=zO.c3;have z4:=zO.c4;have z5:=zO.c5;have z6:=zO.c6;have z7:=zO.c7;have z8:=zO.c8;have z9:=zO.c9;have z10:=zO.c10;have z11:=zO.c11;have z12:=zO.c12;clear zO;have y0:({ heap:=W.heap,tape:=W.tape,drawn:=W.drawn+1,os:=W.os,output:=W.output }:World).cell? ⟨w.heap.size,0,none⟩=some (.pointer none):=z0;have yf0:({ heap:=W.heap,tape:=W.tape,drawn:=W.drawn+1,os:=W.os,output:=W.output }:World).frozen? ⟨w.heap.size,0,none⟩=false:=zf0;have y1:({ heap:=W.heap,tape:=W.tape,drawn:=W.drawn+1,os:=W.os,output:=W.output }:World).cell? ⟨w.heap.size,1,none⟩=some (.pointer none):=z1;have yf1:({ heap:=W.heap,tape:=W.tape,drawn:=W.drawn+1,os:=W.os,output:=W.output }:World).frozen? ⟨w.heap.size,1,none⟩=false:=zf1;have y2:({ heap:=W.heap,tape:=W.tape,drawn:=W.drawn+1,os:=W.os,output:=W.output }:World).cell? ⟨w.heap.size,2,none⟩=some (.pointer none):=z2;have yf2:({ heap:=W.heap,tape:=W.tape,drawn:=W.drawn+1,os:=W.os,output:=W.output }:World).frozen? ⟨w.heap.size,2,none⟩=false:=zf2;have y3:({ heap:=W.heap,tape:=W.tape,drawn:=W.drawn+1,os:=W.os,output:=W.output }:World).cell? ⟨w.heap.size,3,none⟩=some (.pointer none):=z3;have yf3:({ heap:=W.heap,tape:=W.tape,drawn:=W.drawn+1,os:=W.os,output:=W.output }:World).frozen? ⟨w.heap.size,3,none⟩=false:=zf3;have y4:({ heap:=W.heap,tape:=W.tape,drawn:=W.drawn+1,os:=W.os,output:=W.output }:World).cell? ⟨w.heap.size,4,none⟩=some (.pointer none):=z4;have yf4:({ heap:=W.heap,tape:=W.tape,drawn:=W.drawn+1,os:=W.os,output:=W.output }:World).frozen? ⟨w.heap.size,4,none⟩=false:=zf4;have y5:({ heap:=W.heap,tape:=W.tape,drawn:=W.drawn+1,os:=W.os,output:=W.output }:World).cell? ⟨w.heap.size,5,none⟩=some (.pointer none):=z5;have yf5:({ heap:=W.heap,tape:=W.tape,drawn:=W.drawn+1,os:=W.os,output:=W.output }:World).frozen? ⟨w.heap.size,5,none⟩=false:=zf5;have y6:({ heap:=W.heap,tape:=W.tape,drawn:=W.drawn+1,os:=W.os,output:=W.output }:World).cell? ⟨w.heap.size,6,none⟩=some (.pointer none):=z6;have yf6:({ heap:=W.heap,tape:=W.tape,drawn:=W.drawn+1,os:=W.os,output:=W.output }:World).frozen? ⟨w.heap.size,6,none⟩=false:=zf6;have y7:({ heap:=W.heap,tape:=W.tape,drawn:=W.drawn+1,os:=W.os,output:=W.output }:World).cell? ⟨w.heap.size,7,none⟩=some (.pointer none):=z7;have yf7:({ heap:=W.heap,tape:=W.tape,drawn:=W.drawn+1,os:=W.os,output:=W.output }:World).frozen? ⟨w.heap.size,7,none⟩=false:=zf7;have y8:({ heap:=W.heap,tape:=W.tape,drawn:=W.drawn+1,os:=W.os,output:=W.output }:World).cell? ⟨w.heap.size,8,none⟩=some (.pointer none):=z8;have yf8:({ heap:=W.heap,tape:=W.tape,drawn:=W.drawn+1,os:=W.os,output:=W.output }:World).frozen? ⟨w.heap.size,8,none⟩=false:=zf8;have y9:({ heap:=W.heap,tape:=W.tape,drawn:=W.drawn+1,os:=W.os,output:=W.output }:World).cell? ⟨w.heap.size,9,none⟩=some (.pointer none):=z9;have yf9:({ heap:=W.heap,tape:=W.tape,drawn:=W.drawn+1,os:=W.os,output:=W.output }:World).frozen? ⟨w.heap.size,9,none⟩=false:=zf9;have y10:({ heap:=W.heap,tape:=W.tape,drawn:=W.drawn+1,os:=W.os,output:=W.output }:World).cell? ⟨w.heap.size,10,none⟩=some (.pointer none):=z10;have yf10:({ heap:=W.heap,tape:=W.tape,drawn:=W.drawn+1,os:=W.os,output:=W.output }:World).frozen? ⟨w.heap.size,10,none⟩=false:=zf10;have y11:({ heap:=W.heap,tape:=W.tape,drawn:=W.drawn+1,os:=W.os,output:=W.output }:World).cell? ⟨w.heap.size,11,none⟩=some (.pointer none):=z11;have yf11:({ heap:=W.heap,tape:=W.tape,drawn:=W.drawn+1,os:=W.os,output:=W.output }:World).frozen? ⟨w.heap.size,11,none⟩=false:=zf11;have y12:({ heap:=W.heap,tape:=W.tape,drawn:=W.drawn+1,os:=W.os,output:=W.output }:World).cell? ⟨w.heap.size,12,none⟩=some (.pointer none):=z12;have yf12:({ heap:=W.heap,tape:=W.tape,drawn:=W.drawn+1,os:=W.os,output:=W.output }:World).frozen? ⟨w.heap.size,12,none⟩=false:=zf12;have kk:Below w.heap.size w ({ heap:=W.heap,tape:=W.tape,drawn:=W.drawn+1,os:=W.os,output:=W.output }:World):=⟨k0.os,k0.tape,k0.output,k0.size,k0.block⟩;clear z0 z1 z2 z3 z4 z5 z6 z7 z8 z9 z10 z11 z12 zf0 zf1 zf2 zf3 zf4 zf5 zf6 zf7 zf8 zf9 zf10 zf11 zf12 k0
  go_still_tail 42,(by kernel_rfl)
  generalize ({ heap:=W.heap,tape:=W.tape,drawn:=W.drawn+1,os:=W.os,output:=W.output }:World)=V at *;have r1:=set_same;have r2:=set_off;have r3:=set_blk;go_wp2;exact bodyPost_ret (v:=fieldsV g) (by simp [results,Tryz.results76,go_sem, *];try omega) rfl (⟨rfl,below_autor⟩)
theorem index13 (g k:Nat) (hk:k < 13) (w:World):(Instr.index 156 (fieldsV g) (I k)).run Tryz.prog w=.ok (.pointer (some ⟨g,k,none⟩)) w:=by
  have h0:(Instr.index 156 (fieldsV g) (I 0)).run Tryz.prog w=.ok (.pointer (some ⟨g,0,none⟩)) w:=by kernel_rfl
  have h1:(Instr.index 156 (fieldsV g) (I 1)).run Tryz.prog w=.ok (.pointer (some ⟨g,1,none⟩)) w:=by kernel_rfl
  have h2:(Instr.index 156 (fieldsV g) (I 2)).run Tryz.prog w=.ok (.pointer (some ⟨g,2,none⟩)) w:=by kernel_rfl
  have h3:(Instr.index 156 (fieldsV g) (I 3)).run Tryz.prog w=.ok (.pointer (some ⟨g,3,none⟩)) w:=by kernel_rfl
  have h4:(Instr.index 156 (fieldsV g) (I 4)).run Tryz.prog w=.ok (.pointer (some ⟨g,4,none⟩)) w:=by kernel_rfl
  have h5:(Instr.index 156 (fieldsV g) (I 5)).run Tryz.prog w=.ok (.pointer (some ⟨g,5,none⟩)) w:=by kernel_rfl
  have h6:(Instr.index 156 (fieldsV g) (I 6)).run Tryz.prog w=.ok (.pointer (some ⟨g,6,none⟩)) w:=by kernel_rfl
  have h7:(Instr.index 156 (fieldsV g) (I 7)).run Tryz.prog w=.ok (.pointer (some ⟨g,7,none⟩)) w:=by kernel_rfl
  have h8:(Instr.index 156 (fieldsV g) (I 8)).run Tryz.prog w=.ok (.pointer (some ⟨g,8,none⟩)) w:=by kernel_rfl
  have h9:(Instr.index 156 (fieldsV g) (I 9)).run Tryz.prog w=.ok (.pointer (some ⟨g,9,none⟩)) w:=by kernel_rfl
  have h10:(Instr.index 156 (fieldsV g) (I 10)).run Tryz.prog w=.ok (.pointer (some ⟨g,10,none⟩)) w:=by kernel_rfl
  have h11:(Instr.index 156 (fieldsV g) (I 11)).run Tryz.prog w=.ok (.pointer (some ⟨g,11,none⟩)) w:=by kernel_rfl
  have h12:(Instr.index 156 (fieldsV g) (I 12)).run Tryz.prog w=.ok (.pointer (some ⟨g,12,none⟩)) w:=by kernel_rfl
  match k,hk with
  | 0,_=>exact h0
  | 1,_=>exact h1
  | 2,_=>exact h2
  | 3,_=>exact h3
  | 4,_=>exact h4
  | 5,_=>exact h5
  | 6,_=>exact h6
  | 7,_=>exact h7
  | 8,_=>exact h8
  | 9,_=>exact h9
  | 10,_=>exact h10
  | 11,_=>exact h11
  | 12,_=>exact h12
end
end Go.Proofs.YtdjgcenjonegjaaGreat

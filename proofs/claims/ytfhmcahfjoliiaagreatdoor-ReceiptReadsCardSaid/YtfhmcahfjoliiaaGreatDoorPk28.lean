/- token.Parse and its reference, at every text · receipt.Check, ref.ReceiptFault -/
import Derived.Test.YtfhmcahfjoliiaaGreatDoorParseGood
import Derived.Test.YtfhmcahfjoliiaaGreatDoorPk27
set_option maxRecDepth 20000
set_option maxHeartbeats 8000000
set_option linter.unusedSimpArgs false
set_option linter.unusedVariables false
namespace Go.Proofs.YtfhmcahfjoliiaaGreatDoor
section
open Go.RowKit
theorem Parse_any (s:ByteArray) (w:World):Calls Tryz.prog 56 #[.string s] w (ParP s w):=by
  by_cases h:s.size=20
  · cases hd:allDig s 20
    · exact Parse_bad s w h hd
    · exact Parse_good s w h hd
  · exact Parse_len s w h
theorem Parsed_any (s:ByteArray) (w:World):Calls Tryz.prog 66 #[.string s] w (ParP s w):=by
  by_cases h:s.size=20
  · exact Parsed_on s w h
  · exact Parsed_len s w h
end
section
open Go.RowKit

def amtsOk (te de fe pr ch:Int):Bool:=[te,de,fe,pr,ch].all fun x=>inB x 0 100000000
def tokFits (x:AToken) (id un:Int):Bool:=decide (x.id=id∧(if x.class_=0 then x.amount=un else un=0))
def recE (me id te de fe pr ch un : Int) (x : AToken) (er : Int) : Int :=
  if ¬ (0≤me∧me≤49) then 18 else if amtsOk te de fe pr ch=false then 2 else if ¬ (1≤id∧id≤1048575∧0≤un∧un≤2097151) then 2
    else if ¬ te=de+fe+pr+ch then 19 else if ¬ er=0 then er else if tokFits x id un then 0 else 8
theorem amts_at {te de fe pr ch:Int} {k:Nat} (hk:k < 5) (h:¬ (0≤[te,de,fe,pr,ch].getD k 0∧[te,de,fe,pr,ch].getD k 0≤100000000)):amtsOk te de fe pr ch=false:=by
  rw [← Bool.not_eq_true];intro hh;unfold amtsOk at hh;simp only [List.all_cons,List.all_nil,Bool.and_true,Bool.and_eq_true,inB_true] at hh
  match k,hk with
  | 0,_=>exact h hh.1
  | 1,_=>exact h hh.2.1
  | 2,_=>exact h hh.2.2.1
  | 3,_=>exact h hh.2.2.2.1
  | 4,_=>exact h hh.2.2.2.2
theorem amts_all {te de fe pr ch:Int} (h:∀ k,k < 5→0≤[te,de,fe,pr,ch].getD k 0∧[te,de,fe,pr,ch].getD k 0≤100000000):amtsOk te de fe pr ch=true∧((0≤te∧te≤100000000)∧(0≤de∧de≤100000000)∧(0≤fe∧fe≤100000000)∧(0≤pr∧pr≤100000000)∧(0≤ch∧ch≤100000000)):=by
  have h0:=h 0 (by decide);have h1:=h 1 (by decide);have h2:=h 2 (by decide);have h3:=h 3 (by decide);have h4:=h 4 (by decide);refine ⟨?_,h0,h1,h2,h3,h4⟩;unfold amtsOk;simp only [List.all_cons,List.all_nil,Bool.and_true,Bool.and_eq_true,inB_true];exact ⟨h0,h1,h2,h3,h4⟩
theorem index5 (a b c d e:Int) (k:Nat) (hk:k < 5) (w:World):(Instr.index 84 (.agg #[I a,I b,I c,I d,I e]) (I k)).run Tryz.prog w=.ok (I ([a,b,c,d,e].getD k 0)) w:=by
  have h0:(Instr.index 84 (.agg #[I a,I b,I c,I d,I e]) (I 0)).run Tryz.prog w=.ok (I a) w:=by kernel_rfl
  have h1:(Instr.index 84 (.agg #[I a,I b,I c,I d,I e]) (I 1)).run Tryz.prog w=.ok (I b) w:=by kernel_rfl
  have h2:(Instr.index 84 (.agg #[I a,I b,I c,I d,I e]) (I 2)).run Tryz.prog w=.ok (I c) w:=by kernel_rfl
  have h3:(Instr.index 84 (.agg #[I a,I b,I c,I d,I e]) (I 3)).run Tryz.prog w=.ok (I d) w:=by kernel_rfl
  have h4:(Instr.index 84 (.agg #[I a,I b,I c,I d,I e]) (I 4)).run Tryz.prog w=.ok (I e) w:=by kernel_rfl
  match k,hk with
  | 0,_=>exact h0
  | 1,_=>exact h1
  | 2,_=>exact h2
  | 3,_=>exact h3
  | 4,_=>exact h4
theorem tokFits_false {c i m t id un:Int} (h:tokFits ⟨c,i,m,t⟩ id un=false):¬ i=id∨i=id∧(c=0∧¬ m=un∨¬ c=0∧¬ un=0):=by
  unfold tokFits at h;rw [decide_eq_false_iff_not] at h;simp only at h
  by_cases h1:i=id
  · right;refine ⟨h1,?_⟩
    by_cases h2:c=0
    · left;exact ⟨h2,fun h3=>h ⟨h1,by rw [if_pos h2];exact h3⟩⟩
    · right;exact ⟨h2,fun h3=>h ⟨h1,by rw [if_neg h2];exact h3⟩⟩
  · exact .inl h1
theorem tokFits_true {c i m t id un:Int} (h:tokFits ⟨c,i,m,t⟩ id un=true):i=id∧(c=0∧m=un∨¬ c=0∧un=0):=by
  unfold tokFits at h;rw [decide_eq_true_eq] at h;simp only at h;refine ⟨h.1,?_⟩
  by_cases h2:c=0
  · left;have:=h.2;rw [if_pos h2] at this;exact ⟨h2,this⟩
  · right;have:=h.2;rw [if_neg h2] at this;exact ⟨h2,this⟩
abbrev recV (me id te de fe pr ch un:Int) (s:ByteArray):Value:=.agg #[I me,I id,I te,I de,I fe,I pr,I ch,I un,.string s]
abbrev RecP (me id te de fe pr ch un:Int) (s:ByteArray) (w:World):Ending→World→Prop:=Grew (I (recE me id te de fe pr ch un (parT s) (parE s))) w
def RP (v:Int) (w:World) (e:Ending) (w':World):Prop:=Grew (I v) w e w'
theorem RP.intro {v v':Int} {w w':World} (h:v=v') (k:Below w.heap.size w w'):RP v w (.returned (I v')) w':=by subst h;exact ⟨rfl,k⟩
theorem Check_any (me id te de fe pr ch un : Int) (s : ByteArray) (w : World) : Calls Tryz.prog 26 #[recV me id te de fe pr ch un s] w (RP (recE me id te de fe pr ch un (parT s) (parE s)) w) := by
  have P:=Lib.hid (fun W=>Parse_any s W);unfold ParP at P;generalize parT s=x at *;obtain ⟨c,i,m,t⟩:=x;generalize parE s=er at *
  by_cases hme:0≤me∧me≤49
  · have HR : Hid (recE me id te de fe pr ch un ⟨c, i, m, t⟩ er = if amtsOk te de fe pr ch = false then 2 else if ¬ (1 ≤ id ∧ id ≤ 1048575 ∧ 0 ≤ un ∧ un ≤ 2097151) then 2
        else if ¬ te=de+fe+pr+ch then 19 else if ¬ er=0 then er else if tokFits ⟨c,i,m,t⟩ id un then 0 else 8):=by
      show recE _ _ _ _ _ _ _ _ _ _=_;unfold recE;rw [if_neg (by simpa using hme)]
    have HI:=Lib.hid (fun k hk W=>index5 te de fe pr ch k hk W);generalize recE me id te de fe pr ch un ⟨c,i,m,t⟩ er=R at *;obtain ⟨me0,me1⟩:=hme;have me2:¬ me < 0:=by omega
    have me3:¬ 50≤me:=by omega
    go_enter Tryz.func26,Tryz.ntmps26;go_wp2
    go_loop [5,30] (fun _ i=>∃ k:Nat,k≤5∧i=I k∧Hid (∀ j,j < k→0≤[te,de,fe,pr,ch].getD j 0∧[te,de,fe,pr,ch].getD j 0≤100000000)) (fun _ i=>5-(intOf i).toNat)
    case atStart=>exact ⟨0,by decide,rfl,fun j hj=>by omega⟩
    case round=>
      obtain ⟨k,hk,rfl,HD⟩:=hrel
      by_cases hlt:k < 5
      · have hix:=fun W=>HI.out k hlt W
        have hl:(k:Int) < 5:=by omega
        by_cases hd:0≤[te,de,fe,pr,ch].getD k 0∧[te,de,fe,pr,ch].getD k 0≤100000000
        · have hD:=Lib.hid (show ∀ j,j < k+1→0≤[te,de,fe,pr,ch].getD j 0∧[te,de,fe,pr,ch].getD j 0≤100000000 by
            intro j hj
            by_cases hjk:j < k
            · exact HD.out j hjk
            · obtain rfl:j=k:=by omega
              exact hd)
          obtain ⟨d0,d1⟩:=hd;generalize [te,de,fe,pr,ch].getD k 0=z at *;go_wp2;exact ⟨⟨k+1,by omega,by go_num,hD⟩,by simp [intOf];omega⟩
        · have hE:=Lib.hid (show R=2 by rw [HR.out,if_pos (amts_at hlt hd)])
          have hd':[te,de,fe,pr,ch].getD k 0 < 0∨¬ [te,de,fe,pr,ch].getD k 0 < 0∧100000000 < [te,de,fe,pr,ch].getD k 0:=by omega
          clear hd;generalize [te,de,fe,pr,ch].getD k 0=z at *;rcases hd' with d0 | ⟨d0,d1⟩
          all_goals
            go_wp2;go_ret;exact RP.intro hE.out below_auto
      · have hk5:k=5:=by omega
        subst hk5;obtain ⟨hok,⟨te0,te1⟩,⟨de0,de1⟩,⟨fe0,fe1⟩,⟨pr0,pr1⟩,⟨ch0,ch1⟩⟩:=amts_all HD.out;have hR:=HR.out;rw [if_neg (by rw [hok];decide)] at hR;have HR:=Lib.hid hR;clear hR hok HD HI hlt hk
        by_cases hid:1≤id∧id≤1048575∧0≤un∧un≤2097151
        · have hR := HR.out
          rw [if_neg (by simpa using hid)] at hR;obtain ⟨id0,id1,un0,un1⟩:=hid;have id2:¬ id < 1:=by omega
          have id3:¬ 1048575 < id:=by omega
          have un2:¬ un < 0:=by omega
          have un3:¬ 2097151 < un:=by omega
          by_cases hsum:te=de+fe+pr+ch
          · rw [if_neg (by simpa using hsum)] at hR
            have HR:=Lib.hid hR;have hs1:(te != de+fe+pr+ch)=false:=by simp [hsum]
            have hs2:(te==de+fe+pr+ch)=true:=by simp [hsum]
            have HSUM:=Lib.hid hsum;clear hR hsum
            go_wp2_with fail
            refine (P.out _).mono ?_;rintro e w1 ⟨rfl,k1⟩;have bO:=((Own.new (w:=w.alloc (.cells #[I me,I id,I te,I de,I fe,I pr,I ch,I un,.string s] 25)) (g:=w.heap.size+1) (by simp) [I id,I te,I de,I fe,I pr,I ch,I un] 23).below k1);have bA:=bO.s7;clear bO;have kk:Below w.heap.size w w1:=below_box (below_box k1);have hbl:w.heap.size+1 < w1.heap.size:=by have:=k1.size;simp at this;omega
            have hbn:¬ w1.heap.size=w.heap.size+1:=by omega
            have hbn2:¬ w.heap.size+1=w1.heap.size:=by omega
            clear k1
            by_cases her:er=0
            · have hR := HR.out
              rw [if_neg (by simpa using her)] at hR;have her':(er != 0)=false:=by simp [her]
              have HR:=Lib.hid hR;clear hR her
              by_cases hi:i=id
              · by_cases hc:c=0
                · by_cases hm:m=un
                  · have hE:Hid (R=0):=by
                      unfold Hid;rw [HR.out];simp [tokFits,hi,hc,hm]
                    have hi':(i != id)=false:=by simp [hi]
                    have hc':(c==0)=true:=by simp [hc]
                    have hm':(m != un)=false:=by first | (simp [hm];done) | (simp<;>omega)
                    clear HR hi hc hm;go_wp2;go_ret;exact RP.intro hE.out below_auto
                  · have hE:Hid (R=8):=by
                      unfold Hid;rw [HR.out];simp [tokFits,hi,hc,hm]
                    have hi':(i != id)=false:=by simp [hi]
                    have hc':(c==0)=true:=by simp [hc]
                    have hm':(m != un)=true:=by first | (simp [hm];done) | (simp<;>omega)
                    clear HR hi hc hm;go_wp2;go_ret;exact RP.intro hE.out below_auto
                · by_cases hm:un=0
                  · have hE:Hid (R=0):=by
                      unfold Hid;rw [HR.out];simp [tokFits,hi,hc,hm]
                    have hi':(i != id)=false:=by simp [hi]
                    have hc':(c==0)=false:=by simp [hc]
                    have hm':((0:Int) != un)=false:=by first | (simp [hm];done) | (simp<;>omega)
                    clear HR hi hc hm;go_wp2;go_ret;exact RP.intro hE.out below_auto
                  · have hE:Hid (R=8):=by
                      unfold Hid;rw [HR.out];simp [tokFits,hi,hc,hm]
                    have hi':(i != id)=false:=by simp [hi]
                    have hc':(c==0)=false:=by simp [hc]
                    have hm':((0:Int) != un)=true:=by first | (simp [hm];done) | (simp<;>omega)
                    clear HR hi hc hm;go_wp2;go_ret;exact RP.intro hE.out below_auto
              · by_cases hc:c=0
                · by_cases hm:m=un
                  · have hE:Hid (R=8):=by
                      unfold Hid;rw [HR.out];simp [tokFits,hi,hc,hm]
                    have hi':(i != id)=true:=by simp [hi]
                    have hc':(c==0)=true:=by simp [hc]
                    have hm':(m != un)=false:=by first | (simp [hm];done) | (simp<;>omega)
                    clear HR hi hc hm;go_wp2;go_ret;exact RP.intro hE.out below_auto
                  · have hE:Hid (R=8):=by
                      unfold Hid;rw [HR.out];simp [tokFits,hi,hc,hm]
                    have hi':(i != id)=true:=by simp [hi]
                    have hc':(c==0)=true:=by simp [hc]
                    have hm':(m != un)=true:=by first | (simp [hm];done) | (simp<;>omega)
                    clear HR hi hc hm;go_wp2;go_ret;exact RP.intro hE.out below_auto
                · by_cases hm:un=0
                  · have hE:Hid (R=8):=by
                      unfold Hid;rw [HR.out];simp [tokFits,hi,hc,hm]
                    have hi':(i != id)=true:=by simp [hi]
                    have hc':(c==0)=false:=by simp [hc]
                    have hm':((0:Int) != un)=false:=by first | (simp [hm];done) | (simp<;>omega)
                    clear HR hi hc hm;go_wp2;go_ret;exact RP.intro hE.out below_auto
                  · have hE:Hid (R=8):=by
                      unfold Hid;rw [HR.out];simp [tokFits,hi,hc,hm]
                    have hi':(i != id)=true:=by simp [hi]
                    have hc':(c==0)=false:=by simp [hc]
                    have hm':((0:Int) != un)=true:=by first | (simp [hm];done) | (simp<;>omega)
                    clear HR hi hc hm;go_wp2;go_ret;exact RP.intro hE.out below_auto
            · have hR:=HR.out
              rw [if_pos (by simpa using her)] at hR;have her':(er != 0)=true:=by simpa using her
              have HR:=Lib.hid hR;clear hR her;go_wp2;go_ret;exact RP.intro HR.out below_auto
          · rw [if_pos (by simpa using hsum)] at hR
            have HR:=Lib.hid hR;have hs1:(te != de+fe+pr+ch)=true:=by simpa using hsum
            clear hR;go_wp2;go_ret;exact RP.intro HR.out below_auto
        · have hE:=Lib.hid (show R=2 by rw [HR.out,if_pos (by simpa using hid)])
          have hd':id < 1∨(¬ id < 1∧1048575 < id)∨(¬ id < 1∧¬ 1048575 < id∧un < 0)∨(¬ id < 1∧¬ 1048575 < id∧¬ un < 0∧2097151 < un):=by omega
          clear hid HR;rcases hd' with d0 | ⟨d0,d1⟩ | ⟨d0,d1,d2⟩ | ⟨d0,d1,d2,d3⟩
          all_goals
            go_wp2;go_ret;exact RP.intro hE.out below_auto
  · have hE:=Lib.hid (show recE me id te de fe pr ch un ⟨c,i,m,t⟩ er=18 by unfold recE;rw [if_pos hme])
    generalize recE me id te de fe pr ch un ⟨c,i,m,t⟩ er=R at *;have hme':me < 0∨¬ me < 0∧50≤me:=by omega
    clear hme;rcases hme' with d0 | ⟨d0,d1⟩
    all_goals
      go_enter Tryz.func26,Tryz.ntmps26;go_wp2;go_ret;exact RP.intro hE.out below_auto
end
end Go.Proofs.YtfhmcahfjoliiaaGreatDoor

/- check.digits, check.Rest and their references · the pentagon: motions, ref.Moved -/
import Derived.Test.YtfhmcahfjoliiaaGreatDoorPk05
import Derived.Test.YtfhmcahfjoliiaaGreatDoorPk02
set_option maxRecDepth 20000
set_option maxHeartbeats 8000000
set_option linter.unusedSimpArgs false
set_option linter.unusedVariables false
namespace Go.Proofs.YtfhmcahfjoliiaaGreatDoor
section
open Go.RowKit

theorem digits_any (s : ByteArray) (w : World) : Calls Tryz.prog 45 #[.string s] w (Grew (I (digsE s)) w) := by
  by_cases h0:s.size < 1
  · have hE:digsE s=1:=by simp [digsE,h0]
    have h00:s.size=0:=by omega
    have he:s=ByteArray.empty:=by
      cases s with | mk d=>have:d=#[]:=Array.eq_empty_of_size_eq_zero h00;rw [this];rfl
    rw [hE];subst he;clear hE h0 h00;go_enter Tryz.func45,Tryz.ntmps45;go_wp2;go_ret;exact Grew.intro rfl below_auto
  · have hne := empty_toList (s := s) (by omega)
    by_cases h2:200 < s.size
    · have hE:digsE s=1:=by simp [digsE,h2]
      rw [hE];have h2':(200:Int) < (s.size:Int):=by omega
      clear hE;go_enter Tryz.func45,Tryz.ntmps45;go_wp2;go_ret;exact Grew.intro rfl below_auto
    · have hE : digsE s = if allDig s s.size then 0 else 7 := by simp [digsE, h0, h2]
      have HE:=Lib.hid hE;have h2':¬ (200:Int) < (s.size:Int):=by omega
      clear hE;go_enter Tryz.func45,Tryz.ntmps45;go_wp2
      go_loopw [] (fun wr=>∃ k:Nat,k≤s.size∧wr=w.iter s k∧Hid (allDig s k=true)) (fun wr=>s.size-wr.iterPos w.heap.size)
      case atStart=>exact ⟨0,Nat.zero_le _,rfl,rfl⟩
      case round=>
        obtain ⟨k,hk,rfl,hall⟩:=hrel
        by_cases hlt:k < s.size
        · have hb := bat_lt s k
          by_cases ha:bat s k < 128
          · have hnx:=fun ty=>next_ascii (P:=Tryz.prog) w s k ty hlt ha
            cases hd:digAt s k
            · have hA:=Lib.hid (allDig_no hlt hd)
              have hd':=Lib.hid hd;clear hd
              by_cases h48:bat s k < 48
              · go_wp2
                go_ret;exact Grew.intro (eI (by rw [HE.out,hA.out];rfl)) (iter_below _ _ _)
              · have h57:57 < bat s k:=by
                  have:=hd'.out;rw [← Bool.not_eq_true,digAt_true] at this;omega
                go_wp2;go_ret;exact Grew.intro (eI (by rw [HE.out,hA.out];rfl)) (iter_below _ _ _)
            · obtain ⟨d0,d1⟩:=digAt_true.1 hd
              have hA:=Lib.hid (allDig_succ hall.out hd);clear hd;go_wp2
              go_roundw
              case rel=>exact ⟨k+1,by omega,rfl,hA⟩
              case measure=>simp;omega
          · obtain ⟨r,q,r0,r1,hnx⟩:=next_high (P:=Tryz.prog) w s k hlt ha
            have hd:digAt s k=false:=by rw [← Bool.not_eq_true,digAt_true];omega
            have hA:=Lib.hid (allDig_no hlt hd);clear hd;go_wp2;go_ret;exact Grew.intro (eI (by rw [HE.out,hA.out];rfl)) (iter_below _ _ _)
        · have hnx:∀ ty,(Instr.next (.pointer (some ⟨w.heap.size,0,none⟩)) true ty).run Tryz.prog (w.iter s k)=_:=fun ty=>run_next_end w s k ty hlt
          have hks:k=s.size:=by omega
          have hA:=Lib.hid (show allDig s s.size=true by rw [← hks];exact hall.out);clear hks hall;go_wp2;go_ret;exact Grew.intro (eI (by rw [HE.out,hA.out];rfl)) (iter_below _ _ _)

theorem DigitsMay_any (s : ByteArray) (w : World) : Calls Tryz.prog 34 #[.string s] w (Pure (I (digsE s)) w) := by
  by_cases h0:s.size < 1
  · have hE:digsE s=1:=by simp [digsE,h0]
    rw [hE];have h0':(s.size:Int) < 1:=by omega
    clear hE;go_enter Tryz.func34,Tryz.ntmps34;go_wp2;go_ret;exact Pure.intro rfl
  · by_cases h2:200 < s.size
    · have hE:digsE s=1:=by simp [digsE,h2]
      rw [hE];have h0':¬ (s.size:Int) < 1:=by omega
      have h2':(200:Int) < (s.size:Int):=by omega
      clear hE;go_enter Tryz.func34,Tryz.ntmps34;go_wp2;go_ret;exact Pure.intro rfl
    · have hE:digsE s=if allDig s s.size then 0 else 7:=by simp [digsE,h0,h2]
      have HE:=Lib.hid hE;have h0':¬ (s.size:Int) < 1:=by omega
      have h2':¬ (200:Int) < (s.size:Int):=by omega
      clear hE;go_enter Tryz.func34,Tryz.ntmps34;go_wp2
      go_loop [3] (fun i=>∃ k:Nat,k≤s.size∧i=I k∧Hid (allDig s k=true)) (fun i=>s.size-(intOf i).toNat)
      case atStart=>exact ⟨0,Nat.zero_le _,rfl,rfl⟩
      case round=>
        obtain ⟨k,hk,rfl,hall⟩:=hrel
        by_cases hlt:k < s.size
        · have hi1:(k:Int) < (s.size:Int):=by omega
          have hb:=Lib.hid (bat_eq hlt);cases hd:digAt s k
          · have hA:=Lib.hid (allDig_no hlt hd)
            unfold digAt at hd;rw [← hb.out] at hd
            go_wp2_with (go_at_call 37;refine (Digit_any _ _).mono ?_;rintro e w' ⟨rfl,rfl⟩)
            go_ret;exact Pure.intro (eI (by rw [HE.out,hA.out];rfl))
          · have hA:=Lib.hid (allDig_succ hall.out hd)
            unfold digAt at hd;rw [← hb.out] at hd
            go_wp2_with (go_at_call 37;refine (Digit_any _ _).mono ?_;rintro e w' ⟨rfl,rfl⟩)
            go_round
            case rel=>exact ⟨k+1,by omega,by go_num,hA⟩
            case measure=>simp [intOf];omega
        · have hks:k=s.size:=by omega
          have hi1:¬ (k:Int) < (s.size:Int):=by omega
          have hA:=Lib.hid (show allDig s s.size=true by rw [← hks];exact hall.out);clear hks hall;go_wp2;go_ret;exact Pure.intro (eI (by rw [HE.out,hA.out];rfl))

/-- the number of the first k digits, and of the last m ones -/
def front (s:ByteArray):Nat→Int
  | 0=>0
  | k+1=>10*front s k+dgt s k
def rear (s:ByteArray):Nat→Int
  | 0=>0
  | m+1=>rear s m+10^m*dgt s (s.size-1-m)
def frontM (s:ByteArray) (k:Nat):Int:=front s k%97
def rearM (s:ByteArray) (m:Nat):Int:=rear s m%97
def powM (m:Nat):Int:=10^m%97
theorem frontM_bd (s:ByteArray) (k:Nat):0≤frontM s k∧frontM s k≤96:=by unfold frontM;omega
theorem frontM_succ (s:ByteArray) (k:Nat):frontM s (k+1)=(frontM s k*10+((bat s k:Int)-48))%97:=by
  unfold frontM;simp only [front];unfold dgt;omega
def restA (s:ByteArray):Int:=if digsE s=0 then frontM s s.size else 0

theorem Rest_any (s : ByteArray) (w : World) : Calls Tryz.prog 20 #[.string s] w (Grew (T2 (I (restA s)) (I (digsE s))) w) := by
  have D:=Lib.hid (fun W=>digits_any s W)
  by_cases hE:digsE s=0
  · have e1:restA s=frontM s s.size:=by simp [restA,hE]
    obtain ⟨z0,z1,hall⟩:=digsE_zero hE;have Hall:=Lib.hid hall;rw [e1,hE];rw [hE] at D;clear e1 hE hall;go_enter Tryz.func20,Tryz.ntmps20
    go_wp2_with fail
    refine (D.out _).mono ?_;rintro e w1 ⟨rfl,k1⟩;go_wp2
    go_loopw [5] (fun n wr=>∃ k:Nat,k≤s.size∧wr=w1.iter s k∧n=I (frontM s k)) (fun _ wr=>s.size-wr.iterPos w1.heap.size)
    case atStart=>exact ⟨0,Nat.zero_le _,rfl,rfl⟩
    case round=>
      obtain ⟨k,hk,rfl,rfl⟩:=hrel;obtain ⟨f0,f1⟩:=frontM_bd s k
      by_cases hlt:k < s.size
      · obtain ⟨d0,d1⟩:=digAt_true.1 (allDig_at Hall.out hlt)
        have hnx:=fun ty=>next_ascii (P:=Tryz.prog) w1 s k ty hlt (by omega);have H:=Lib.hid (frontM_succ s k);generalize frontM s k=n at *;generalize bat s k=b at *;go_wp2
        go_roundw
        case rel=>exact ⟨k+1,by omega,rfl,eI (by rw [H.out])⟩
        case measure=>simp;omega
      · have hnx:∀ ty,(Instr.next (.pointer (some ⟨w1.heap.size,0,none⟩)) true ty).run Tryz.prog (w1.iter s k)=_:=fun ty=>run_next_end w1 s k ty hlt
        have hks:k=s.size:=by omega
        have H:=Lib.hid (show frontM s k=frontM s s.size by rw [hks]);clear hks;go_wp2;go_ret2;exact Grew.intro (eI2 H.out rfl) (k1.trans ((iter_below _ _ _).mono k1.size))
  · have e1:restA s=0:=by simp [restA,hE]
    rw [e1];have hb:(digsE s != 0)=true:=by simp [hE]
    clear e1 hE;go_enter Tryz.func20,Tryz.ntmps20
    go_wp2_with fail
    refine (D.out _).mono ?_;rintro e w1 ⟨rfl,k1⟩;go_wp2;go_ret2;exact Grew.intro rfl k1

end
section
open Go.RowKit

theorem all1 {p:Int→Prop} (h:∀ a:Fin 10,p a.val) (a:Int) (ha:0≤a) (ha':a≤9):p a:=by
  obtain ⟨n,rfl⟩:=Int.eq_ofNat_of_zero_le ha;exact h ⟨n,by omega⟩
theorem all2 {p:Int→Int→Prop} (h:∀ a b:Fin 10,p a.val b.val) (a b:Int) (ha:0≤a) (ha':a≤9) (hb:0≤b) (hb':b≤9):p a b:=
  all1 (p:=fun a=>p a b) (fun a=>all1 (p:=fun b=>p a.val b) (h a) b hb hb') a ha ha'
theorem all3 {p:Int→Int→Int→Prop} (h:∀ a b c:Fin 10,p a.val b.val c.val) (a b c:Int) (ha:0≤a) (ha':a≤9) (hb:0≤b) (hb':b≤9) (hc:0≤c) (hc':c≤9):p a b c:=
  all2 (p:=fun a b=>p a b c) (fun a b=>all1 (p:=fun c=>p a.val b.val c) (h a b) c hc hc') a b ha ha' hb hb'

/-- one motion behind the other -/
def thenI (a b:Int):Int:=if 5≤a then (if 5≤b then (a-b)%5 else 5+(a-5-b)%5) else (if 5≤b then 5+(a+b)%5 else (a+b)%5)
theorem thenI_bd (a b:Int):0≤thenI a b∧thenI a b≤9:=by unfold thenI;repeat' split<;>omega

theorem then_any (a b:Int) (ha:0≤a) (ha':a≤9) (hb:0≤b) (hb':b≤9) (w:World):Calls Tryz.prog 73 #[I a,I b] w (Pure (I (thenI a b)) w):=by
  have k1:Hid (5≤a→(b / 5==1)=true→(wrap64 ((a-5-b%5+5*(b / 5)).tmod 5+5)).tmod 5=thenI a b):=Lib.hid (all2 (p:=fun a b=>5≤a→(b / 5==1)=true→(wrap64 ((a-5-b%5+5*(b / 5)).tmod 5+5)).tmod 5=thenI a b) (by decide +kernel) a b ha ha' hb hb');have k2:Hid (5≤a→(b / 5==1)=false→wrap64 (5+(wrap64 ((a-5-b%5+5*(b / 5)).tmod 5+5)).tmod 5)=thenI a b):=Lib.hid (all2 (p:=fun a b=>5≤a→(b / 5==1)=false→wrap64 (5+(wrap64 ((a-5-b%5+5*(b / 5)).tmod 5+5)).tmod 5)=thenI a b) (by decide +kernel) a b ha ha' hb hb');have k3:Hid (a < 5→5*(b / 5)+(a+b)%5=thenI a b):=Lib.hid (all2 (p:=fun a b=>a < 5→5*(b / 5)+(a+b)%5=thenI a b) (by decide +kernel) a b ha ha' hb hb');go_enter Tryz.func73,Tryz.ntmps73;go_wp2
  all_goals
    go_ret;refine Pure.intro (eI ?_)
    first
      | exact k1.out (by assumption) (by assumption)
      | exact k2.out (by assumption) (by assumption)
      | exact k3.out (by assumption)

/-- what undoes it -/
def backI (a:Int):Int:=if 5≤a then a else (5-a)%5
theorem back_any (a:Int) (ha:0≤a) (ha':a≤9) (w:World):Calls Tryz.prog 88 #[I a] w (Pure (I (backI a)) w):=by
  by_cases h:5≤a
  · go_enter Tryz.func88,Tryz.ntmps88
    go_wp2;go_ret;exact Pure.intro (eI (by simp [backI,h]))
  · go_enter Tryz.func88,Tryz.ntmps88
    go_wp2;go_ret;exact Pure.intro (eI (by unfold backI;rw [if_neg (by omega)];omega))

def mulOk (a b:Int):Bool:=inB a 0 9&&inB b 0 9
def mulA (a b:Int):Int:=if mulOk a b then thenI a b else 0
def mulE (a b:Int):Int:=if mulOk a b then 0 else 2

def invA (a:Int):Int:=if inB a 0 9 then backI a else 0
def invE (a:Int):Int:=if inB a 0 9 then 0 else 2
/-- where the corner x comes to lie by the motion a -/
def cornerI (a x:Int):Int:=if a < 5 then (x+a).tmod 5 else (a-x).tmod 5

theorem corner_any (a x:Int) (ha:0≤a) (ha':a≤9) (hx:-9≤x) (hx':x≤9) (w:World):Calls Tryz.prog 119 #[I a,I x] w (Pure (I (cornerI a x)) w):=by
  by_cases h:a < 5
  · go_enter Tryz.func119,Tryz.ntmps119
    go_wp2;go_ret;exact Pure.intro (eI (by simp [cornerI,h]))
  · go_enter Tryz.func119,Tryz.ntmps119
    go_wp2;go_ret;exact Pure.intro (eI (by unfold cornerI;rw [if_neg (by omega)]))

theorem cornerI_bd (a x:Int) (ha:0≤a) (ha':a≤9) (hx:-9≤x) (hx':x≤9):-4≤cornerI a x∧cornerI a x≤4:=by
  have t:∀ n:Int,-18≤n→n≤18→-4≤n.tmod 5∧n.tmod 5≤4:=by
    intro n h1 h2;have:∀ m:Fin 37,-4≤((m.val:Int)-18).tmod 5∧((m.val:Int)-18).tmod 5≤4:=by decide +kernel
    have:=this ⟨(n+18).toNat,by omega⟩;simp only at this
    rwa [show (((n+18).toNat:Nat):Int)-18=n by omega] at this
  unfold cornerI
  split
  · exact t _ (by omega) (by omega)
  · exact t _ (by omega) (by omega)

def hitB (a b c:Int):Bool:=(cornerI c 0==cornerI a (cornerI b 0))&&(cornerI c 1==cornerI a (cornerI b 1))
theorem hit_eq (a b c:Int) (ha:0≤a) (ha':a≤9) (hb:0≤b) (hb':b≤9) (hc:0≤c) (hc':c≤9):hitB a b c=decide (c=thenI a b):=
  all3 (p:=fun a b c=>hitB a b c=decide (c=thenI a b)) (by decide +kernel) a b c ha ha' hb hb' hc hc'

theorem Moved_any (a b : Int) (w : World) : Calls Tryz.prog 91 #[I a, I b] w (Pure (T2 (I (mulA a b)) (I (mulE a b))) w) := by
  by_cases ha:inB a 0 9=true
  · by_cases hb:inB b 0 9=true
    · obtain ⟨h0,h1⟩:=inB_true.1 ha
      obtain ⟨g0,g1⟩:=inB_true.1 hb;obtain ⟨t0,t1⟩:=thenI_bd a b;go_enter Tryz.func91,Tryz.ntmps91
      go_wp2_with (go_at_call 63;refine (In_any _ _ _ _).mono ?_;rintro e w' ⟨rfl,rfl⟩)
      go_loop [6] (fun k=>∃ c:Int,0≤c∧c≤thenI a b∧k=I c) (fun k=>(10-intOf k).toNat)
      case atStart=>exact ⟨0,by omega,t0,rfl⟩
      case round=>
        obtain ⟨c,hc0,hc1,rfl⟩:=hrel;have hh:Hid (hitB a b c=decide (c=thenI a b)):=Lib.hid (hit_eq a b c h0 h1 g0 g1 hc0 (by omega));obtain ⟨b00,b01⟩:=cornerI_bd b 0 g0 g1 (by omega) (by omega);obtain ⟨b10,b11⟩:=cornerI_bd b 1 g0 g1 (by omega) (by omega)
        go_wp2_with (go_at_call 119;refine (corner_any _ _ (by omega) (by omega) (by omega) (by omega) _).mono ?_;rintro e w' ⟨rfl,rfl⟩)
        · have h8:cornerI c 0=cornerI a (cornerI b 0):=by assumption
          have h9:(cornerI c 1==cornerI a (cornerI b 1))=true:=by assumption
          have hc:c=thenI a b:=by have:=hh.out;rw [hitB,h8,h9] at this;simpa using this
          subst hc;go_ret2;refine Pure.intro (eI2 ?_ ?_)<;>simp [mulA,mulE,mulOk,ha,hb]
        · have h8:cornerI c 0=cornerI a (cornerI b 0):=by assumption
          have h9:(cornerI c 1==cornerI a (cornerI b 1))=false:=by assumption
          have hc:c≠thenI a b:=by have:=hh.out;rw [hitB,h8,h9] at this;simpa using this
          exact ⟨⟨c+1,by omega,by omega,rfl⟩,by simp [intOf];omega⟩
        · have h8:¬ cornerI c 0=cornerI a (cornerI b 0):=by assumption
          have hc:c≠thenI a b:=by have:=hh.out;rw [hitB,beq_eq_false_iff_ne.2 h8] at this;simpa using this
          exact ⟨⟨c+1,by omega,by omega,rfl⟩,by simp [intOf];omega⟩
    · simp only [Bool.not_eq_true] at hb
      go_enter Tryz.func91,Tryz.ntmps91
      go_wp2_with (go_at_call 63;refine (In_any _ _ _ _).mono ?_;rintro e w' ⟨rfl,rfl⟩)
      go_ret2;refine Pure.intro (eI2 ?_ ?_)<;>simp [mulA,mulE,mulOk,ha,hb]
  · simp only [Bool.not_eq_true] at ha
    go_enter Tryz.func91,Tryz.ntmps91
    go_wp2_with (go_at_call 63;refine (In_any _ _ _ _).mono ?_;rintro e w' ⟨rfl,rfl⟩)
    go_ret2;refine Pure.intro (eI2 ?_ ?_)<;>simp [mulA,mulE,mulOk,ha]

theorem backI_bd (a:Int) (ha:0≤a) (ha':a≤9):0≤backI a∧backI a≤9:=by unfold backI;split<;>omega

end
end Go.Proofs.YtfhmcahfjoliiaaGreatDoor

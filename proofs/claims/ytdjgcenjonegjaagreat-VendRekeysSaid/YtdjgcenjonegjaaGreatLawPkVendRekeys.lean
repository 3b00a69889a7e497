/- vend.Rekey answers as the reference does, at every argument, and changes none of them. No conditions. -/
import Derived.Test.YtdjgcenjonegjaaGreatPk00
import Derived.Test.YtdjgcenjonegjaaGreatPk01
import Derived.Test.YtdjgcenjonegjaaGreatPk48
import Derived.Test.YtdjgcenjonegjaaGreatVendTok4
import Derived.Test.YtdjgcenjonegjaaGreatPk50
import Derived.Test.YtdjgcenjonegjaaGreatPk09
import Derived.Deep.DeepCutAuto
set_option maxRecDepth 20000
set_option maxHeartbeats 8000000
set_option linter.unusedSimpArgs false
set_option linter.unusedVariables false
namespace Go.Proofs.YtdjgcenjonegjaaGreat.vendRekeys
open Go.ChangeShapes Go.WideShapes Go.ChangeAt Go.RowKit
theorem tr {p:Prop} (h:p:=by
  have ne89:g8≠g9:=by omega
  have FU8':0 < O2.length→Far g8 (.slice ua O2.length uc):=by first | exact fun hn=>far_writes H8 (by rfl) SU hn | exact FU8
  have FU9':0 < O2.length→Far g9 (.slice ua O2.length uc):=by first | exact fun hn=>far_writes H9 (by rfl) SU hn | exact FU9
  have pO:=O8;have pA:=pO.s1;clear pO;refine AnyC.one (i:=14) (by kernel_rfl) (by rfl) (fun K' hK=>?_);go_simp;refine hK.out _ _ (fun _ _=>⟨OC,OT⟩) ?_;clear hK K';(try simp only [Act.put]);refine AnyC.one (i:=15) (by kernel_rfl) (by rfl) (fun K' hK=>?_);go_simp;clear pA;have cg:=((Chg.refl g8 W).set 0 (.slice va O3.length vc));have OX:=OX.chg cg (by have:=z1;omega);have OT:=OT.chg cg (by have:=z1;omega);have OC:=OC.chg cg (by omega);have O9:=O9.chg cg (by omega);have O8:=O8.set 0 (.slice va O3.length vc);have S1:=S1.chg (by intros;first | exact F18 | exact F18 (by assumption)) cg;have SD:=SD.chg (by intros;first | exact FD8 | exact FD8 (by assumption)) cg;have SU:=SU.chg FU8' cg;have SV:=SV.chg (by intros;first | exact F8 | exact F8 (by assumption)) cg;have K:=cg.below K (by have:=z1;omega) K.size;refine hK.out _ _ (fun _ _=>⟨OC,OT⟩) ?_;clear hK K' cg;(try simp only [Act.put]);have qO:=O9;have qA:=qO.s9;clear qO;refine AnyC.one (i:=16) (by kernel_rfl) (by rfl) (fun K' hK=>?_);go_simp;clear qA;have cg:=((((((((((Chg.refl g9 (W.setCell ⟨g8,0,none⟩ (.slice va O3.length vc))).set 0 (I O4)).set 1 (I b1)).set 2 (I b2)).set 3 (I b3)).set 4 (I b4)).set 5 (I b5)).set 6 (I b6)).set 7 (I b7)).set 8 (.string O6));have OX:=OX.chg cg (by have:=z1;omega);have OT:=OT.chg cg (by have:=z1;omega);have OC:=OC.chg cg (by omega);have O8:=O8.chg cg (by omega);have O9:=(((((((((O9.set 0 (I O4)).set 1 (I b1)).set 2 (I b2)).set 3 (I b3)).set 4 (I b4)).set 5 (I b5)).set 6 (I b6)).set 7 (I b7)).set 8 (.string O6));have S1:=S1.chg (by intros;first | exact F19 | exact F19 (by assumption)) cg;have SD:=SD.chg (by intros;first | exact FD9 | exact FD9 (by assumption)) cg;have SU:=SU.chg FU9' cg;have SV:=SV.chg (by intros;first | exact F9 | exact F9 (by assumption)) cg;have K:=cg.below K (by have:=z1;omega) K.size;refine hK.out _ _ (fun _ _=>⟨OC,OT⟩) ?_;clear hK K' cg;(try simp only [Act.put]);refine AnyC.one (i:=17) (by kernel_rfl) (by rfl) (fun K' hK=>?_);go_simp;refine hK.out _ _ (fun h=>absurd rfl h) ?_;clear hK K';refine AnyC.done (by kernel_rfl) ?_ _
  go_wp2_with fail
  go_meet;exact ⟨g8,g9,ua,uc,va,vc,rfl,rfl,rfl,rfl,O8,O9,OC,OX,OT,K,S1,SD,SU,SV,n8,n9,ne89⟩
  ):p:=h
theorem tr_6 {p:Prop} (h:p:=by
  refine AnyC.one (i:=6) (by kernel_rfl) (by rfl) (fun K' hK=>?_)
  · skip
    go_simp;(with_reducible refine (P.out _ _ _ _ ST SD S1).mono ?_);rintro e W ⟨u,v,rfl,SU,SV,k,FB⟩;(try have F8:=FB.far l8);(try have F9:=FB.far l9);clear FB
    replace OX:=OX.below k
    replace OT:=OT.below k
    replace OC:=OC.below k
    replace S1:=S1.below k
    replace SD:=SD.below k
    (try replace ST:=ST.below k);(try replace SU:=SU.below k);(try replace SV:=SV.below k);(try replace O8:=O8.below k);(try replace O9:=O9.below k);(try replace H8:=(k.block g8 l8).trans H8);(try replace H9:=(k.block g9 l9).trans H9);(try replace l8:=Nat.lt_of_lt_of_le l8 k.size);(try replace l9:=Nat.lt_of_lt_of_le l9 k.size)
    replace K:=K.trans (k.mono K.size)
    clear k;have SU':=SU;obtain ⟨ua,uc,rfl,-⟩:=SU';have SV':=SV;obtain ⟨va,vc,rfl,-⟩:=SV';(try go_simp);refine hK.out _ _ (fun _ _=>⟨OC,OT⟩) ?_;clear hK K';(try simp only [Act.put]);have HH:=And.intro OC OT;refine AnyC.tk 7 ?_ HH ?_ ?_;rotate_left
    · (intro W hSw;first | (go_simp;done) | (go_simp;with_reducible rfl))
    (try simp only [Act.put]);have HH:=And.intro OC OT;refine AnyC.tk 8 ?_ HH ?_ ?_;rotate_left
    · (intro W hSw;first | (go_simp;done) | (go_simp;with_reducible rfl))
    (try simp only [Act.put]);have HH:=And.intro OC OT;refine AnyC.tk 9 ?_ HH ?_ ?_;rotate_left
    · (intro W hSw;first | (go_simp;done) | (go_simp;with_reducible rfl))
    (try simp only [Act.put]);have HH:=And.intro OC OT;refine AnyC.tk 10 ?_ HH ?_ ?_;rotate_left
    · (intro W hSw;first | (go_simp;done) | (go_simp;with_reducible rfl))
    (try simp only [Act.put]);have HH:=And.intro OC OT;refine AnyC.tk 11 ?_ HH ?_ ?_;rotate_left
    · (intro W hSw;first | (go_simp;done) | (go_simp;with_reducible rfl))
    (try simp only [Act.put]);exact tr
  ):p:=h
theorem tr_12 {p:Prop} (h:p:=by
  refine AnyC.one (i:=12) (by kernel_rfl) (by rfl) (fun K' hK=>?_)
  · skip
    go_simp;have k:=boxed_below W (.cells #[.slice none 0 0] 35);have O8:=Own.new (w:=W) rfl [.slice none 0 0] 35;have H8:=zero_at W _ rfl (.cells #[.slice none 0 0] 35);have l8:W.heap.size < (W.alloc (.cells #[.slice none 0 0] 35)).heap.size:=by simp
    have F18:=S1.farNew (Nat.le_refl W.heap.size);have FD8:=SD.farNew (Nat.le_refl W.heap.size);(try have FU8:=SU.farNew (Nat.le_refl W.heap.size));(try have F8:=SV.farNew (Nat.le_refl W.heap.size));have n8:w2.heap.size < W.heap.size:=OC.lt;(try have n98:=O9.lt)
    replace OX:=OX.below k
    replace OT:=OT.below k
    replace OC:=OC.below k
    replace S1:=S1.below k
    replace SD:=SD.below k
    (try replace ST:=ST.below k);(try replace SU:=SU.below k);(try replace SV:=SV.below k);(try replace O9:=O9.below k);(try replace H9:=(k.block g9 l9).trans H9);(try replace l9:=Nat.lt_of_lt_of_le l9 k.size)
    replace K:=K.trans (k.mono K.size)
    clear k;refine hK.out _ _ (fun _ _=>⟨OC,OT⟩) ?_;clear hK K';(try simp only [Act.put]);generalize W.heap.size=g8 at *;generalize World.alloc W (.cells #[.slice none 0 0] 35)=W at *;exact tr
  ):p:=h
theorem tr_13 {p:Prop} (h:p:=by
  refine AnyC.one (i:=13) (by kernel_rfl) (by rfl) (fun K' hK=>?_)
  · skip
    go_simp;have k:=boxed_below W (.cells #[I 0,I 0,I 0,I 0,I 0,I 0,I 0,I 0,.string ⟨#[]⟩] 41);have O9:=Own.new (w:=W) rfl [I 0,I 0,I 0,I 0,I 0,I 0,I 0,I 0,.string ⟨#[]⟩] 41;have H9:=zero_at W _ rfl (.cells #[I 0,I 0,I 0,I 0,I 0,I 0,I 0,I 0,.string ⟨#[]⟩] 41);have l9:W.heap.size < (W.alloc (.cells #[I 0,I 0,I 0,I 0,I 0,I 0,I 0,I 0,.string ⟨#[]⟩] 41)).heap.size:=by simp
    have F19:=S1.farNew (Nat.le_refl W.heap.size);have FD9:=SD.farNew (Nat.le_refl W.heap.size);(try have FU9:=SU.farNew (Nat.le_refl W.heap.size));(try have F9:=SV.farNew (Nat.le_refl W.heap.size));have n9:w2.heap.size < W.heap.size:=OC.lt;(try have n89:=O8.lt)
    replace OX:=OX.below k
    replace OT:=OT.below k
    replace OC:=OC.below k
    replace S1:=S1.below k
    replace SD:=SD.below k
    (try replace ST:=ST.below k);(try replace SU:=SU.below k);(try replace SV:=SV.below k);(try replace O8:=O8.below k);(try replace H8:=(k.block g8 l8).trans H8);(try replace l8:=Nat.lt_of_lt_of_le l8 k.size)
    replace K:=K.trans (k.mono K.size)
    clear k;refine hK.out _ _ (fun _ _=>⟨OC,OT⟩) ?_;clear hK K';(try simp only [Act.put]);generalize W.heap.size=g9 at *;generalize World.alloc W (.cells #[I 0,I 0,I 0,I 0,I 0,I 0,I 0,I 0,.string ⟨#[]⟩] 41)=W at *;exact tr
  ):p:=h
theorem tr_1_6 {p:Prop} (h:p:=by
  refine AnyC.one (i:=1) (by kernel_rfl) (by rfl) (fun K' hK=>?_)
  · skip
    go_simp;(with_reducible refine (C.out _ (HT.out.below K)).mono ?_);rintro e W ⟨s,rfl,ST,k⟩
    replace OX:=OX.below k
    replace OT:=OT.below k
    replace OC:=OC.below k
    replace S1:=S1.below k
    replace SD:=SD.below k
    (try replace ST:=ST.below k);(try replace SU:=SU.below k);(try replace SV:=SV.below k);(try replace O8:=O8.below k);(try replace O9:=O9.below k);(try replace H8:=(k.block g8 l8).trans H8);(try replace H9:=(k.block g9 l9).trans H9);(try replace l8:=Nat.lt_of_lt_of_le l8 k.size);(try replace l9:=Nat.lt_of_lt_of_le l9 k.size)
    replace K:=K.trans (k.mono K.size)
    clear k;have ST':=ST;obtain ⟨a2,p2,rfl,-⟩:=ST';(try go_simp);refine hK.out _ _ (fun _ _=>⟨OC,OT⟩) ?_;clear hK K';(try simp only [Act.put]);exact tr_6
  ):p:=h
theorem tr_6_12 {p:Prop} (h:p:=by
  refine AnyC.two (i:=6) (j:=12) (by kernel_rfl) (by rfl) (by rfl) (fun K' hK=>?_) (fun K' hK=>?_)
  · skip
    go_simp;(with_reducible refine (P.out _ _ _ _ ST SD S1).mono ?_);rintro e W ⟨u,v,rfl,SU,SV,k,FB⟩;(try have F8:=FB.far l8);(try have F9:=FB.far l9);clear FB
    replace OX:=OX.below k
    replace OT:=OT.below k
    replace OC:=OC.below k
    replace S1:=S1.below k
    replace SD:=SD.below k
    (try replace ST:=ST.below k);(try replace SU:=SU.below k);(try replace SV:=SV.below k);(try replace O8:=O8.below k);(try replace O9:=O9.below k);(try replace H8:=(k.block g8 l8).trans H8);(try replace H9:=(k.block g9 l9).trans H9);(try replace l8:=Nat.lt_of_lt_of_le l8 k.size);(try replace l9:=Nat.lt_of_lt_of_le l9 k.size)
    replace K:=K.trans (k.mono K.size)
    clear k;have SU':=SU;obtain ⟨ua,uc,rfl,-⟩:=SU';have SV':=SV;obtain ⟨va,vc,rfl,-⟩:=SV';(try go_simp);refine hK.out _ _ (fun _ _=>⟨OC,OT⟩) ?_;clear hK K';(try simp only [Act.put]);have HH:=And.intro OC OT;refine AnyC.tk 7 ?_ HH ?_ ?_;rotate_left
    · (intro W hSw;first | (go_simp;done) | (go_simp;with_reducible rfl))
    (try simp only [Act.put]);have HH:=And.intro OC OT;refine AnyC.tk 8 ?_ HH ?_ ?_;rotate_left
    · (intro W hSw;first | (go_simp;done) | (go_simp;with_reducible rfl))
    (try simp only [Act.put]);have HH:=And.intro OC OT;refine AnyC.tk 9 ?_ HH ?_ ?_;rotate_left
    · (intro W hSw;first | (go_simp;done) | (go_simp;with_reducible rfl))
    (try simp only [Act.put]);have HH:=And.intro OC OT;refine AnyC.tk 10 ?_ HH ?_ ?_;rotate_left
    · (intro W hSw;first | (go_simp;done) | (go_simp;with_reducible rfl))
    (try simp only [Act.put]);have HH:=And.intro OC OT;refine AnyC.tk 11 ?_ HH ?_ ?_;rotate_left
    · (intro W hSw;first | (go_simp;done) | (go_simp;with_reducible rfl))
    (try simp only [Act.put]);exact tr_12
  · skip
    go_simp;have k:=boxed_below W (.cells #[.slice none 0 0] 35);have O8:=Own.new (w:=W) rfl [.slice none 0 0] 35;have H8:=zero_at W _ rfl (.cells #[.slice none 0 0] 35);have l8:W.heap.size < (W.alloc (.cells #[.slice none 0 0] 35)).heap.size:=by simp
    have F18:=S1.farNew (Nat.le_refl W.heap.size);have FD8:=SD.farNew (Nat.le_refl W.heap.size);(try have FU8:=SU.farNew (Nat.le_refl W.heap.size));(try have F8:=SV.farNew (Nat.le_refl W.heap.size));have n8:w2.heap.size < W.heap.size:=OC.lt;(try have n98:=O9.lt)
    replace OX:=OX.below k
    replace OT:=OT.below k
    replace OC:=OC.below k
    replace S1:=S1.below k
    replace SD:=SD.below k
    (try replace ST:=ST.below k);(try replace SU:=SU.below k);(try replace SV:=SV.below k);(try replace O9:=O9.below k);(try replace H9:=(k.block g9 l9).trans H9);(try replace l9:=Nat.lt_of_lt_of_le l9 k.size)
    replace K:=K.trans (k.mono K.size)
    clear k;refine hK.out _ _ (fun _ _=>⟨OC,OT⟩) ?_;clear hK K';(try simp only [Act.put]);generalize W.heap.size=g8 at *;generalize World.alloc W (.cells #[.slice none 0 0] 35)=W at *;exact tr_6
  ):p:=h
theorem tr_6_13 {p:Prop} (h:p:=by
  refine AnyC.two (i:=6) (j:=13) (by kernel_rfl) (by rfl) (by rfl) (fun K' hK=>?_) (fun K' hK=>?_)
  · skip
    go_simp;(with_reducible refine (P.out _ _ _ _ ST SD S1).mono ?_);rintro e W ⟨u,v,rfl,SU,SV,k,FB⟩;(try have F8:=FB.far l8);(try have F9:=FB.far l9);clear FB
    replace OX:=OX.below k
    replace OT:=OT.below k
    replace OC:=OC.below k
    replace S1:=S1.below k
    replace SD:=SD.below k
    (try replace ST:=ST.below k);(try replace SU:=SU.below k);(try replace SV:=SV.below k);(try replace O8:=O8.below k);(try replace O9:=O9.below k);(try replace H8:=(k.block g8 l8).trans H8);(try replace H9:=(k.block g9 l9).trans H9);(try replace l8:=Nat.lt_of_lt_of_le l8 k.size);(try replace l9:=Nat.lt_of_lt_of_le l9 k.size)
    replace K:=K.trans (k.mono K.size)
    clear k;have SU':=SU;obtain ⟨ua,uc,rfl,-⟩:=SU';have SV':=SV;obtain ⟨va,vc,rfl,-⟩:=SV';(try go_simp);refine hK.out _ _ (fun _ _=>⟨OC,OT⟩) ?_;clear hK K';(try simp only [Act.put]);have HH:=And.intro OC OT;refine AnyC.tk 7 ?_ HH ?_ ?_;rotate_left
    · (intro W hSw;first | (go_simp;done) | (go_simp;with_reducible rfl))
    (try simp only [Act.put]);have HH:=And.intro OC OT;refine AnyC.tk 8 ?_ HH ?_ ?_;rotate_left
    · (intro W hSw;first | (go_simp;done) | (go_simp;with_reducible rfl))
    (try simp only [Act.put]);have HH:=And.intro OC OT;refine AnyC.tk 9 ?_ HH ?_ ?_;rotate_left
    · (intro W hSw;first | (go_simp;done) | (go_simp;with_reducible rfl))
    (try simp only [Act.put]);have HH:=And.intro OC OT;refine AnyC.tk 10 ?_ HH ?_ ?_;rotate_left
    · (intro W hSw;first | (go_simp;done) | (go_simp;with_reducible rfl))
    (try simp only [Act.put]);have HH:=And.intro OC OT;refine AnyC.tk 11 ?_ HH ?_ ?_;rotate_left
    · (intro W hSw;first | (go_simp;done) | (go_simp;with_reducible rfl))
    (try simp only [Act.put]);exact tr_13
  · skip
    go_simp;have k:=boxed_below W (.cells #[I 0,I 0,I 0,I 0,I 0,I 0,I 0,I 0,.string ⟨#[]⟩] 41);have O9:=Own.new (w:=W) rfl [I 0,I 0,I 0,I 0,I 0,I 0,I 0,I 0,.string ⟨#[]⟩] 41;have H9:=zero_at W _ rfl (.cells #[I 0,I 0,I 0,I 0,I 0,I 0,I 0,I 0,.string ⟨#[]⟩] 41);have l9:W.heap.size < (W.alloc (.cells #[I 0,I 0,I 0,I 0,I 0,I 0,I 0,I 0,.string ⟨#[]⟩] 41)).heap.size:=by simp
    have F19:=S1.farNew (Nat.le_refl W.heap.size);have FD9:=SD.farNew (Nat.le_refl W.heap.size);(try have FU9:=SU.farNew (Nat.le_refl W.heap.size));(try have F9:=SV.farNew (Nat.le_refl W.heap.size));have n9:w2.heap.size < W.heap.size:=OC.lt;(try have n89:=O8.lt)
    replace OX:=OX.below k
    replace OT:=OT.below k
    replace OC:=OC.below k
    replace S1:=S1.below k
    replace SD:=SD.below k
    (try replace ST:=ST.below k);(try replace SU:=SU.below k);(try replace SV:=SV.below k);(try replace O8:=O8.below k);(try replace H8:=(k.block g8 l8).trans H8);(try replace l8:=Nat.lt_of_lt_of_le l8 k.size)
    replace K:=K.trans (k.mono K.size)
    clear k;refine hK.out _ _ (fun _ _=>⟨OC,OT⟩) ?_;clear hK K';(try simp only [Act.put]);generalize W.heap.size=g9 at *;generalize World.alloc W (.cells #[I 0,I 0,I 0,I 0,I 0,I 0,I 0,I 0,.string ⟨#[]⟩] 41)=W at *;exact tr_6
  ):p:=h
theorem tr_12_13 {p:Prop} (h:p:=by
  refine AnyC.two (i:=12) (j:=13) (by kernel_rfl) (by rfl) (by rfl) (fun K' hK=>?_) (fun K' hK=>?_)
  · skip
    go_simp;have k:=boxed_below W (.cells #[.slice none 0 0] 35);have O8:=Own.new (w:=W) rfl [.slice none 0 0] 35;have H8:=zero_at W _ rfl (.cells #[.slice none 0 0] 35);have l8:W.heap.size < (W.alloc (.cells #[.slice none 0 0] 35)).heap.size:=by simp
    have F18:=S1.farNew (Nat.le_refl W.heap.size);have FD8:=SD.farNew (Nat.le_refl W.heap.size);(try have FU8:=SU.farNew (Nat.le_refl W.heap.size));(try have F8:=SV.farNew (Nat.le_refl W.heap.size));have n8:w2.heap.size < W.heap.size:=OC.lt;(try have n98:=O9.lt)
    replace OX:=OX.below k
    replace OT:=OT.below k
    replace OC:=OC.below k
    replace S1:=S1.below k
    replace SD:=SD.below k
    (try replace ST:=ST.below k);(try replace SU:=SU.below k);(try replace SV:=SV.below k);(try replace O9:=O9.below k);(try replace H9:=(k.block g9 l9).trans H9);(try replace l9:=Nat.lt_of_lt_of_le l9 k.size)
    replace K:=K.trans (k.mono K.size)
    clear k;refine hK.out _ _ (fun _ _=>⟨OC,OT⟩) ?_;clear hK K';(try simp only [Act.put]);generalize W.heap.size=g8 at *;generalize World.alloc W (.cells #[.slice none 0 0] 35)=W at *;exact tr_13
  · skip
    go_simp;have k:=boxed_below W (.cells #[I 0,I 0,I 0,I 0,I 0,I 0,I 0,I 0,.string ⟨#[]⟩] 41);have O9:=Own.new (w:=W) rfl [I 0,I 0,I 0,I 0,I 0,I 0,I 0,I 0,.string ⟨#[]⟩] 41;have H9:=zero_at W _ rfl (.cells #[I 0,I 0,I 0,I 0,I 0,I 0,I 0,I 0,.string ⟨#[]⟩] 41);have l9:W.heap.size < (W.alloc (.cells #[I 0,I 0,I 0,I 0,I 0,I 0,I 0,I 0,.string ⟨#[]⟩] 41)).heap.size:=by simp
    have F19:=S1.farNew (Nat.le_refl W.heap.size);have FD9:=SD.farNew (Nat.le_refl W.heap.size);(try have FU9:=SU.farNew (Nat.le_refl W.heap.size));(try have F9:=SV.farNew (Nat.le_refl W.heap.size));have n9:w2.heap.size < W.heap.size:=OC.lt;(try have n89:=O8.lt)
    replace OX:=OX.below k
    replace OT:=OT.below k
    replace OC:=OC.below k
    replace S1:=S1.below k
    replace SD:=SD.below k
    (try replace ST:=ST.below k);(try replace SU:=SU.below k);(try replace SV:=SV.below k);(try replace O8:=O8.below k);(try replace H8:=(k.block g8 l8).trans H8);(try replace l8:=Nat.lt_of_lt_of_le l8 k.size)
    replace K:=K.trans (k.mono K.size)
    clear k;refine hK.out _ _ (fun _ _=>⟨OC,OT⟩) ?_;clear hK K';(try simp only [Act.put]);generalize W.heap.size=g9 at *;generalize World.alloc W (.cells #[I 0,I 0,I 0,I 0,I 0,I 0,I 0,I 0,.string ⟨#[]⟩] 41)=W at *;exact tr_12
  ):p:=h
theorem tr_1_6_12 {p:Prop} (h:p:=by
  refine AnyC.two (i:=1) (j:=12) (by kernel_rfl) (by rfl) (by rfl) (fun K' hK=>?_) (fun K' hK=>?_)
  · skip
    go_simp;(with_reducible refine (C.out _ (HT.out.below K)).mono ?_);rintro e W ⟨s,rfl,ST,k⟩
    replace OX:=OX.below k
    replace OT:=OT.below k
    replace OC:=OC.below k
    replace S1:=S1.below k
    replace SD:=SD.below k
    (try replace ST:=ST.below k);(try replace SU:=SU.below k);(try replace SV:=SV.below k);(try replace O8:=O8.below k);(try replace O9:=O9.below k);(try replace H8:=(k.block g8 l8).trans H8);(try replace H9:=(k.block g9 l9).trans H9);(try replace l8:=Nat.lt_of_lt_of_le l8 k.size);(try replace l9:=Nat.lt_of_lt_of_le l9 k.size)
    replace K:=K.trans (k.mono K.size)
    clear k;have ST':=ST;obtain ⟨a2,p2,rfl,-⟩:=ST';(try go_simp);refine hK.out _ _ (fun _ _=>⟨OC,OT⟩) ?_;clear hK K';(try simp only [Act.put]);exact tr_6_12
  · skip
    go_simp;have k:=boxed_below W (.cells #[.slice none 0 0] 35);have O8:=Own.new (w:=W) rfl [.slice none 0 0] 35;have H8:=zero_at W _ rfl (.cells #[.slice none 0 0] 35);have l8:W.heap.size < (W.alloc (.cells #[.slice none 0 0] 35)).heap.size:=by simp
    have F18:=S1.farNew (Nat.le_refl W.heap.size);have FD8:=SD.farNew (Nat.le_refl W.heap.size);(try have FU8:=SU.farNew (Nat.le_refl W.heap.size));(try have F8:=SV.farNew (Nat.le_refl W.heap.size));have n8:w2.heap.size < W.heap.size:=OC.lt;(try have n98:=O9.lt)
    replace OX:=OX.below k
    replace OT:=OT.below k
    replace OC:=OC.below k
    replace S1:=S1.below k
    replace SD:=SD.below k
    (try replace ST:=ST.below k);(try replace SU:=SU.below k);(try replace SV:=SV.below k);(try replace O9:=O9.below k);(try replace H9:=(k.block g9 l9).trans H9);(try replace l9:=Nat.lt_of_lt_of_le l9 k.size)
    replace K:=K.trans (k.mono K.size)
    clear k;refine hK.out _ _ (fun _ _=>⟨OC,OT⟩) ?_;clear hK K';(try simp only [Act.put]);generalize W.heap.size=g8 at *;generalize World.alloc W (.cells #[.slice none 0 0] 35)=W at *;exact tr_1_6
  ):p:=h
theorem tr_1_6_13 {p:Prop} (h:p:=by
  refine AnyC.two (i:=1) (j:=13) (by kernel_rfl) (by rfl) (by rfl) (fun K' hK=>?_) (fun K' hK=>?_)
  · skip
    go_simp;(with_reducible refine (C.out _ (HT.out.below K)).mono ?_);rintro e W ⟨s,rfl,ST,k⟩
    replace OX:=OX.below k
    replace OT:=OT.below k
    replace OC:=OC.below k
    replace S1:=S1.below k
    replace SD:=SD.below k
    (try replace ST:=ST.below k);(try replace SU:=SU.below k);(try replace SV:=SV.below k);(try replace O8:=O8.below k);(try replace O9:=O9.below k);(try replace H8:=(k.block g8 l8).trans H8);(try replace H9:=(k.block g9 l9).trans H9);(try replace l8:=Nat.lt_of_lt_of_le l8 k.size);(try replace l9:=Nat.lt_of_lt_of_le l9 k.size)
    replace K:=K.trans (k.mono K.size)
    clear k;have ST':=ST;obtain ⟨a2,p2,rfl,-⟩:=ST';(try go_simp);refine hK.out _ _ (fun _ _=>⟨OC,OT⟩) ?_;clear hK K';(try simp only [Act.put]);exact tr_6_13
  · skip
    go_simp;have k:=boxed_below W (.cells #[I 0,I 0,I 0,I 0,I 0,I 0,I 0,I 0,.string ⟨#[]⟩] 41);have O9:=Own.new (w:=W) rfl [I 0,I 0,I 0,I 0,I 0,I 0,I 0,I 0,.string ⟨#[]⟩] 41;have H9:=zero_at W _ rfl (.cells #[I 0,I 0,I 0,I 0,I 0,I 0,I 0,I 0,.string ⟨#[]⟩] 41);have l9:W.heap.size < (W.alloc (.cells #[I 0,I 0,I 0,I 0,I 0,I 0,I 0,I 0,.string ⟨#[]⟩] 41)).heap.size:=by simp
    have F19:=S1.farNew (Nat.le_refl W.heap.size);have FD9:=SD.farNew (Nat.le_refl W.heap.size);(try have FU9:=SU.farNew (Nat.le_refl W.heap.size));(try have F9:=SV.farNew (Nat.le_refl W.heap.size));have n9:w2.heap.size < W.heap.size:=OC.lt;(try have n89:=O8.lt)
    replace OX:=OX.below k
    replace OT:=OT.below k
    replace OC:=OC.below k
    replace S1:=S1.below k
    replace SD:=SD.below k
    (try replace ST:=ST.below k);(try replace SU:=SU.below k);(try replace SV:=SV.below k);(try replace O8:=O8.below k);(try replace H8:=(k.block g8 l8).trans H8);(try replace l8:=Nat.lt_of_lt_of_le l8 k.size)
    replace K:=K.trans (k.mono K.size)
    clear k;refine hK.out _ _ (fun _ _=>⟨OC,OT⟩) ?_;clear hK K';(try simp only [Act.put]);generalize W.heap.size=g9 at *;generalize World.alloc W (.cells #[I 0,I 0,I 0,I 0,I 0,I 0,I 0,I 0,.string ⟨#[]⟩] 41)=W at *;exact tr_1_6
  ):p:=h
theorem tr_6_12_13 {p:Prop} (h:p:=by
  refine AnyC.three (i:=6) (j:=12) (l:=13) (by kernel_rfl) (by rfl) (by rfl) (by rfl) (fun K' hK=>?_) (fun K' hK=>?_) (fun K' hK=>?_)
  · skip
    go_simp;(with_reducible refine (P.out _ _ _ _ ST SD S1).mono ?_);rintro e W ⟨u,v,rfl,SU,SV,k,FB⟩;(try have F8:=FB.far l8);(try have F9:=FB.far l9);clear FB
    replace OX:=OX.below k
    replace OT:=OT.below k
    replace OC:=OC.below k
    replace S1:=S1.below k
    replace SD:=SD.below k
    (try replace ST:=ST.below k);(try replace SU:=SU.below k);(try replace SV:=SV.below k);(try replace O8:=O8.below k);(try replace O9:=O9.below k);(try replace H8:=(k.block g8 l8).trans H8);(try replace H9:=(k.block g9 l9).trans H9);(try replace l8:=Nat.lt_of_lt_of_le l8 k.size);(try replace l9:=Nat.lt_of_lt_of_le l9 k.size)
    replace K:=K.trans (k.mono K.size)
    clear k;have SU':=SU;obtain ⟨ua,uc,rfl,-⟩:=SU';have SV':=SV;obtain ⟨va,vc,rfl,-⟩:=SV';(try go_simp);refine hK.out _ _ (fun _ _=>⟨OC,OT⟩) ?_;clear hK K';(try simp only [Act.put]);have HH:=And.intro OC OT;refine AnyC.tk 7 ?_ HH ?_ ?_;rotate_left
    · (intro W hSw;first | (go_simp;done) | (go_simp;with_reducible rfl))
    (try simp only [Act.put]);have HH:=And.intro OC OT;refine AnyC.tk 8 ?_ HH ?_ ?_;rotate_left
    · (intro W hSw;first | (go_simp;done) | (go_simp;with_reducible rfl))
    (try simp only [Act.put]);have HH:=And.intro OC OT;refine AnyC.tk 9 ?_ HH ?_ ?_;rotate_left
    · (intro W hSw;first | (go_simp;done) | (go_simp;with_reducible rfl))
    (try simp only [Act.put]);have HH:=And.intro OC OT;refine AnyC.tk 10 ?_ HH ?_ ?_;rotate_left
    · (intro W hSw;first | (go_simp;done) | (go_simp;with_reducible rfl))
    (try simp only [Act.put]);have HH:=And.intro OC OT;refine AnyC.tk 11 ?_ HH ?_ ?_;rotate_left
    · (intro W hSw;first | (go_simp;done) | (go_simp;with_reducible rfl))
    (try simp only [Act.put]);exact tr_12_13
  · skip
    go_simp;have k:=boxed_below W (.cells #[.slice none 0 0] 35);have O8:=Own.new (w:=W) rfl [.slice none 0 0] 35;have H8:=zero_at W _ rfl (.cells #[.slice none 0 0] 35);have l8:W.heap.size < (W.alloc (.cells #[.slice none 0 0] 35)).heap.size:=by simp
    have F18:=S1.farNew (Nat.le_refl W.heap.size);have FD8:=SD.farNew (Nat.le_refl W.heap.size);(try have FU8:=SU.farNew (Nat.le_refl W.heap.size));(try have F8:=SV.farNew (Nat.le_refl W.heap.size));have n8:w2.heap.size < W.heap.size:=OC.lt;(try have n98:=O9.lt)
    replace OX:=OX.below k
    replace OT:=OT.below k
    replace OC:=OC.below k
    replace S1:=S1.below k
    replace SD:=SD.below k
    (try replace ST:=ST.below k);(try replace SU:=SU.below k);(try replace SV:=SV.below k);(try replace O9:=O9.below k);(try replace H9:=(k.block g9 l9).trans H9);(try replace l9:=Nat.lt_of_lt_of_le l9 k.size)
    replace K:=K.trans (k.mono K.size)
    clear k;refine hK.out _ _ (fun _ _=>⟨OC,OT⟩) ?_;clear hK K';(try simp only [Act.put]);generalize W.heap.size=g8 at *;generalize World.alloc W (.cells #[.slice none 0 0] 35)=W at *;exact tr_6_13
  · skip
    go_simp;have k:=boxed_below W (.cells #[I 0,I 0,I 0,I 0,I 0,I 0,I 0,I 0,.string ⟨#[]⟩] 41);have O9:=Own.new (w:=W) rfl [I 0,I 0,I 0,I 0,I 0,I 0,I 0,I 0,.string ⟨#[]⟩] 41;have H9:=zero_at W _ rfl (.cells #[I 0,I 0,I 0,I 0,I 0,I 0,I 0,I 0,.string ⟨#[]⟩] 41);have l9:W.heap.size < (W.alloc (.cells #[I 0,I 0,I 0,I 0,I 0,I 0,I 0,I 0,.string ⟨#[]⟩] 41)).heap.size:=by simp
    have F19:=S1.farNew (Nat.le_refl W.heap.size);have FD9:=SD.farNew (Nat.le_refl W.heap.size);(try have FU9:=SU.farNew (Nat.le_refl W.heap.size));(try have F9:=SV.farNew (Nat.le_refl W.heap.size));have n9:w2.heap.size < W.heap.size:=OC.lt;(try have n89:=O8.lt)
    replace OX:=OX.below k
    replace OT:=OT.below k
    replace OC:=OC.below k
    replace S1:=S1.below k
    replace SD:=SD.below k
    (try replace ST:=ST.below k);(try replace SU:=SU.below k);(try replace SV:=SV.below k);(try replace O8:=O8.below k);(try replace H8:=(k.block g8 l8).trans H8);(try replace l8:=Nat.lt_of_lt_of_le l8 k.size)
    replace K:=K.trans (k.mono K.size)
    clear k;refine hK.out _ _ (fun _ _=>⟨OC,OT⟩) ?_;clear hK K';(try simp only [Act.put]);generalize W.heap.size=g9 at *;generalize World.alloc W (.cells #[I 0,I 0,I 0,I 0,I 0,I 0,I 0,I 0,.string ⟨#[]⟩] 41)=W at *;exact tr_6_12
  ):p:=h
theorem tr_1_6_12_13 {p:Prop} (h:p:=by
  refine AnyC.three (i:=1) (j:=12) (l:=13) (by kernel_rfl) (by rfl) (by rfl) (by rfl) (fun K' hK=>?_) (fun K' hK=>?_) (fun K' hK=>?_)
  · skip
    go_simp;(with_reducible refine (C.out _ (HT.out.below K)).mono ?_);rintro e W ⟨s,rfl,ST,k⟩
    replace OX:=OX.below k
    replace OT:=OT.below k
    replace OC:=OC.below k
    replace S1:=S1.below k
    replace SD:=SD.below k
    (try replace ST:=ST.below k);(try replace SU:=SU.below k);(try replace SV:=SV.below k);(try replace O8:=O8.below k);(try replace O9:=O9.below k);(try replace H8:=(k.block g8 l8).trans H8);(try replace H9:=(k.block g9 l9).trans H9);(try replace l8:=Nat.lt_of_lt_of_le l8 k.size);(try replace l9:=Nat.lt_of_lt_of_le l9 k.size)
    replace K:=K.trans (k.mono K.size)
    clear k;have ST':=ST;obtain ⟨a2,p2,rfl,-⟩:=ST';(try go_simp);refine hK.out _ _ (fun _ _=>⟨OC,OT⟩) ?_;clear hK K';(try simp only [Act.put]);exact tr_6_12_13
  · skip
    go_simp;have k:=boxed_below W (.cells #[.slice none 0 0] 35);have O8:=Own.new (w:=W) rfl [.slice none 0 0] 35;have H8:=zero_at W _ rfl (.cells #[.slice none 0 0] 35);have l8:W.heap.size < (W.alloc (.cells #[.slice none 0 0] 35)).heap.size:=by simp
    have F18:=S1.farNew (Nat.le_refl W.heap.size);have FD8:=SD.farNew (Nat.le_refl W.heap.size);(try have FU8:=SU.farNew (Nat.le_refl W.heap.size));(try have F8:=SV.farNew (Nat.le_refl W.heap.size));have n8:w2.heap.size < W.heap.size:=OC.lt;(try have n98:=O9.lt)
    replace OX:=OX.below k
    replace OT:=OT.below k
    replace OC:=OC.below k
    replace S1:=S1.below k
    replace SD:=SD.below k
    (try replace ST:=ST.below k);(try replace SU:=SU.below k);(try replace SV:=SV.below k);(try replace O9:=O9.below k);(try replace H9:=(k.block g9 l9).trans H9);(try replace l9:=Nat.lt_of_lt_of_le l9 k.size)
    replace K:=K.trans (k.mono K.size)
    clear k;refine hK.out _ _ (fun _ _=>⟨OC,OT⟩) ?_;clear hK K';(try simp only [Act.put]);generalize W.heap.size=g8 at *;generalize World.alloc W (.cells #[.slice none 0 0] 35)=W at *;exact tr_1_6_13
  · skip
    go_simp;have k:=boxed_below W (.cells #[I 0,I 0,I 0,I 0,I 0,I 0,I 0,I 0,.string ⟨#[]⟩] 41);have O9:=Own.new (w:=W) rfl [I 0,I 0,I 0,I 0,I 0,I 0,I 0,I 0,.string ⟨#[]⟩] 41;have H9:=zero_at W _ rfl (.cells #[I 0,I 0,I 0,I 0,I 0,I 0,I 0,I 0,.string ⟨#[]⟩] 41);have l9:W.heap.size < (W.alloc (.cells #[I 0,I 0,I 0,I 0,I 0,I 0,I 0,I 0,.string ⟨#[]⟩] 41)).heap.size:=by simp
    have F19:=S1.farNew (Nat.le_refl W.heap.size);have FD9:=SD.farNew (Nat.le_refl W.heap.size);(try have FU9:=SU.farNew (Nat.le_refl W.heap.size));(try have F9:=SV.farNew (Nat.le_refl W.heap.size));have n9:w2.heap.size < W.heap.size:=OC.lt;(try have n89:=O8.lt)
    replace OX:=OX.below k
    replace OT:=OT.below k
    replace OC:=OC.below k
    replace S1:=S1.below k
    replace SD:=SD.below k
    (try replace ST:=ST.below k);(try replace SU:=SU.below k);(try replace SV:=SV.below k);(try replace O8:=O8.below k);(try replace H8:=(k.block g8 l8).trans H8);(try replace l8:=Nat.lt_of_lt_of_le l8 k.size)
    replace K:=K.trans (k.mono K.size)
    clear k;refine hK.out _ _ (fun _ _=>⟨OC,OT⟩) ?_;clear hK K';(try simp only [Act.put]);generalize W.heap.size=g9 at *;generalize World.alloc W (.cells #[I 0,I 0,I 0,I 0,I 0,I 0,I 0,I 0,.string ⟨#[]⟩] 41)=W at *;exact tr_1_6_12
  ):p:=h
theorem walk (z:ATerms) (tv:Value) (ts:List AStep) (cv:Value) (xs:List Int) (ov:Value) (ps:List APair) (me draw:Int) (w:World) (_hz:z.wf) (ht:Sl w tv 2 ts.length (ts.flatMap AStep.cells)) (_hv:∀ x∈ts,x.wf) (hbt:ts.length*16≤140737488351232)
    (hc:Sl w cv 1 xs.length (xs.map U32)) (hw:∀ x∈xs,W32 x) (hbc:xs.length*4≤140737488351232) (ho:Sl w ov 4 ps.length (ps.flatMap APair.cells)) (hpw:∀ x∈ps,x.wf) (hbo:ps.length*32≤140737488351232):
    Calls Tryz.prog 4 #[.agg #[tv,I z.feeFix,I z.feeBp,I z.debtBp,I z.allow],cv,.agg #[ov],I me,I draw] w (Grew (.bool true) w):=by
  obtain ⟨f,b,d,al⟩:=z;have WD:=Lib.hid (fun W hW=>words_any cv xs W hW (by omega));have OR:=Lib.hid (fun W hW=>oracles_any ov ps W hW (by omega));have C:=Lib.hid (fun W hW=>terms_any tv ts f b d al W hW (by omega));have P:=Lib.hid (fun tv' cv' ov' W h1 h2 h3=>VRekey_any ⟨ts,f,b,d,al⟩ tv' cv' ov' xs ps me draw W h1 h2 hw h3 hpw);have R:=Lib.hid (fun W h1 h2 h3=>VendToken4_any ⟨ts,f,b,d,al⟩ tv cv ov xs ps 4 me 0 0 draw W (by decide) h1 h2 hw h3);have SW:=Lib.hid (fun v2 W h1 h2=>sameWords_any cv v2 xs xs W h1 h2);have SO:=Lib.hid (fun L v1 v2 W h1 h2=>sameOracle_any v1 v2 L W h1 h2);unfold Vt4F at P;unfold Vt4P at R;obtain ⟨O,hO⟩:∃ O,vtO ⟨ts,f,b,d,al⟩ xs ps 4 me 0 (clsOf 4) draw (askE ⟨ts,f,b,d,al⟩ 4 0 0) (askX ⟨ts,f,b,d,al⟩ 4 0 0) (askB ⟨ts,f,b,d,al⟩ 4 0 0)=O:=⟨_,rfl⟩;have hO':vtO ⟨ts,f,b,d,al⟩ xs ps 4 me 0 2 draw (askE ⟨ts,f,b,d,al⟩ 4 0 0) (askX ⟨ts,f,b,d,al⟩ 4 0 0) (askB ⟨ts,f,b,d,al⟩ 4 0 0)=O:=hO;rw [hO'] at P;rw [hO] at R;obtain ⟨O1,O2,O3,O4,⟨b1,b2,b3,b4,b5,b6,b7⟩,O6⟩:=O;simp only at P R;have SR:=Lib.hid (fun v1 v2 W h1 h2=>sameWrites_any v1 v2 O2 O2 W h1 h2);have B:=fun w=>selfReceipt O4 b1 b2 b3 b4 b5 b6 b7 O6 w;simp only [GrewTerms,decide_true] at C SW SR;clear hw _hv hO hO' hpw;have k0:=(boxed_below w (.cells #[tv,I f,I b,I d,I al] 24)).alloc (by simp) (.cells #[ov] 35);have ot:=(Own.new (w:=w) rfl [tv,I f,I b,I d,I al] 24).alloc (.cells #[ov] 35);have ox:=Own.new (w:=w.alloc (.cells #[tv,I f,I b,I d,I al] 24)) (g:=w.heap.size+1) (by simp) [ov] 35;have HT:=Lib.hid ht;have HC:=Lib.hid hc;have HO:=Lib.hid ho;have hc0:=hc.below k0;have ho0:=ho.below k0;obtain ⟨oa,oc,rfl,-⟩:=_root_.id ho;go_enter Tryz.func4,Tryz.ntmps4
  go_wp2_with fail
  refine (WD.out _ hc0).mono ?_;rintro e w1 ⟨dv,rfl,hd,k1⟩;have ot1:=ot.below k1;have ox1:=ox.below k1;have kk:=k0.trans (k1.mono k0.size);obtain ⟨da,dc,rfl,-⟩:=_root_.id hd;have n01:w.heap.size+2≤w1.heap.size:=by have:=k1.size;simp at this;omega
  have xO:=ox1;have xA:=xO.s1;clear xO;clear ot ox k1 k0 hc0 ho0 WD
  go_wp2_with fail
  refine (OR.out _ (ho.below kk)).mono ?_;rintro e w2 ⟨v1,rfl,s1,k2⟩;obtain ⟨a1,p1,rfl,-⟩:=_root_.id s1;have kA:=boxed_below w2 (.cells #[.slice a1 ps.length p1] 35);have ot2:=(ot1.below k2).below kA;have ox2:=(ox1.below k2).below kA;have oc2:=Own.new (w:=w2) rfl [.slice a1 ps.length p1] 35;have hd2:=(hd.below k2).below kA;have s12:=s1.below kA;have kk2:=(kk.trans (k2.mono kk.size)).trans (kA.mono (Nat.le_trans kk.size k2.size));have z1:w.heap.size+2≤w2.heap.size:=Nat.le_trans n01 k2.size;clear xA ot1 ox1 hd s1 kk k2 kA OR ht hc ho;go_upto_region 3 with fail
  go_cut [13,14,15,16] (fun s17 s18 s19 s20 wx=>∃ g8 g9 ua uc va vc,s17=.slice ua O2.length uc∧s18=.pointer (some ⟨g8,0,none⟩)∧s19=.pointer (some ⟨g9,0,none⟩)∧s20=I O1∧Own wx g8 [.slice va O3.length vc]∧Own wx g9 [I O4,I b1,I b2,I b3,I b4,I b5,I b6,I b7,.string O6]∧Own wx w2.heap.size [.slice a1 ps.length p1]∧Own wx (w.heap.size+1) [.slice oa ps.length oc]∧Own wx w.heap.size [tv,I f,I b,I d,I al]∧Below w.heap.size w wx∧Sl wx (.slice a1 ps.length p1) 4 ps.length (ps.flatMap APair.cells)∧Sl wx (.slice da xs.length dc) 1 xs.length (xs.map U32)∧Sl wx (.slice ua O2.length uc) 2 O2.length (O2.flatMap AWrite.cells)∧Sl wx (.slice va O3.length vc) 4 O3.length (O3.flatMap APair.cells)∧w2.heap.size < g8∧w2.heap.size < g9∧g8≠g9)
  case first=>
    have OC:Own (World.drew (w2.alloc (.cells #[.slice a1 ps.length p1] 35))) w2.heap.size [.slice a1 ps.length p1]:=oc2;have OX:Own (World.drew (w2.alloc (.cells #[.slice a1 ps.length p1] 35))) (w.heap.size+1) [.slice oa ps.length oc]:=ox2;have OT:Own (World.drew (w2.alloc (.cells #[.slice a1 ps.length p1] 35))) w.heap.size [tv,I f,I b,I d,I al]:=ot2;have S1:Sl (World.drew (w2.alloc (.cells #[.slice a1 ps.length p1] 35))) (.slice a1 ps.length p1) 4 ps.length (ps.flatMap APair.cells):=s12;have SD:Sl (World.drew (w2.alloc (.cells #[.slice a1 ps.length p1] 35))) (.slice da xs.length dc) 1 xs.length (xs.map U32):=hd2;have K:Below w.heap.size w (World.drew (w2.alloc (.cells #[.slice a1 ps.length p1] 35))):=kk2.drew;clear oc2 ox2 ot2 s12 hd2 kk2;have HF:=fun (W:World) (h:(fun W=>Own W w2.heap.size [.slice a1 ps.length p1]∧Own W w.heap.size [tv,I f,I b,I d,I al]) W)=>(And.intro (Own.t1 h.1) (Own.t5 h.2));refine AnyC.begin 17 (fun W=>Own W w2.heap.size [.slice a1 ps.length p1]∧Own W w.heap.size [tv,I f,I b,I d,I al]) (by kernel_rfl) ?_;generalize World.drew (w2.alloc (.cells #[.slice a1 ps.length p1] 35))=W at *;have HH:=And.intro OC OT;refine AnyC.tk 0 ?_ HH ?_ ?_;rotate_left
    · (intro W hSw;have hf:=HF W hSw;clear hSw;first | (go_simp;done) | (go_simp;with_reducible rfl))
    (try simp only [Act.put]);(try simp only [List.setIfInBounds_toArray]);have HH:=And.intro OC OT;refine AnyC.tk 2 ?_ HH ?_ ?_;rotate_left
    · (intro W hSw;first | (go_simp;done) | (go_simp;with_reducible rfl))
    (try simp only [Act.put]);have HH:=And.intro OC OT;refine AnyC.tk 3 ?_ HH ?_ ?_;rotate_left
    · (intro W hSw;have hf:=HF W hSw;clear hSw;first | (go_simp;done) | (go_simp;with_reducible rfl))
    (try simp only [Act.put]);have HH:=And.intro OC OT;refine AnyC.tk 4 ?_ HH ?_ ?_;rotate_left
    · (intro W hSw;first | (go_simp;done) | (go_simp;with_reducible rfl))
    (try simp only [Act.put]);have HH:=And.intro OC OT;refine AnyC.tk 5 ?_ HH ?_ ?_;rotate_left
    · (intro W hSw;first | (go_simp;done) | (go_simp;with_reducible rfl))
    (try simp only [Act.put]);exact tr_1_6_12_13
  case rest=>
    obtain ⟨g8,g9,ua,uc,va,vc,rfl,rfl,rfl,rfl,O8,O9,OC,OX,OT,K,S1,SD,SU,SV,n8,n9,ne89⟩:=hcut;have G8:=O8.lt;have G9:=O9.lt;have HK:=Lib.hid K;have xO:=OX;have xA:=xO.s1;clear xO;have tO:=OT;have tA:=tO.s5;clear tO;clear ox2 ot2 oc2 s12 hd2 kk2 K
    go_wp2_with fail
    refine (R.out _ (HT.out.below HK.out) (HC.out.below HK.out) (HO.out.below HK.out)).mono ?_;rintro e w3 ⟨u5,v5,rfl,SU5,SV5,k3⟩;obtain ⟨ua5,uc5,rfl,-⟩:=_root_.id SU5;obtain ⟨va5,vc5,rfl,-⟩:=_root_.id SV5;have kA:=(boxed_below w3 (.cells #[.slice va5 O3.length vc5] 35)).alloc (by simp) (.cells #[I O4,I b1,I b2,I b3,I b4,I b5,I b6,I b7,.string O6] 41);have kB:=k3.trans (kA.mono k3.size);have kk3:=HK.out.trans (kB.mono HK.out.size);have P8:=Lib.hid ((O8.below k3).below kA);have P9:=Lib.hid ((O9.below k3).below kA);have PC:=Lib.hid ((OC.below k3).below kA);have PX:=Lib.hid ((OX.below k3).below kA);have Q8:=Lib.hid ((Own.new (w:=w3) rfl [.slice va5 O3.length vc5] 35).alloc (.cells #[I O4,I b1,I b2,I b3,I b4,I b5,I b6,I b7,.string O6] 41));have Q9:=Lib.hid (Own.new (w:=w3.alloc (.cells #[.slice va5 O3.length vc5] 35)) (g:=w3.heap.size+1) (by simp) [I O4,I b1,I b2,I b3,I b4,I b5,I b6,I b7,.string O6] 41);have T1:=Lib.hid ((S1.below k3).below kA);have TD:=Lib.hid ((SD.below k3).below kA);have TU:=Lib.hid ((SU.below k3).below kA);have TV:=Lib.hid ((SV.below k3).below kA);have TU5:=Lib.hid (SU5.below kA);have TV5:=Lib.hid (SV5.below kA);have KK3:=Lib.hid kk3;have h3:=k3.size;have q4:¬ g8=w3.heap.size:=by omega
    have q5:¬ g9=w3.heap.size:=by omega
    have q6:¬ g8=w3.heap.size+1:=by omega
    have q7:¬ g9=w3.heap.size+1:=by omega
    clear xA tA O8 O9 OC OX OT S1 SD SU SV SU5 SV5 k3 kA kB kk3;have mO:=P9.out;have mA:=mO.s9;clear mO;have nO:=Q9.out;have nA:=nO.s9;clear nO
    go_wp2_with fail
    refine (SR.out _ _ _ TU.out TU5.out).mono ?_;rintro e w4 ⟨rfl,k4⟩;have KK4:=Lib.hid (KK3.out.trans (k4.mono KK3.out.size));have P84:=P8.out.below k4;have Q84:=Q8.out.below k4;have PC4:=Lib.hid (PC.out.below k4);have PX4:=Lib.hid (PX.out.below k4);have T14:=Lib.hid (T1.out.below k4);have TD4:=Lib.hid (TD.out.below k4);have TV4:=Lib.hid (TV.out.below k4);have TV54:=Lib.hid (TV5.out.below k4);clear mA nA k4;have mO:=P84;have mA:=mO.s1;clear mO;have nO:=Q84;have nA:=nO.s1;clear nO;clear P84 Q84
    go_wp2_with fail
    refine (SO.out O3 _ _ _ TV4.out TV54.out).mono ?_;rintro e w5 ⟨rfl,k5⟩;have KK5:=Lib.hid (KK4.out.trans (k5.mono KK4.out.size));have PC5:=Lib.hid (PC4.out.below k5);have PX5:=Lib.hid (PX4.out.below k5);have T15:=Lib.hid (T14.out.below k5);have TD5:=Lib.hid (TD4.out.below k5);clear mA nA k5
    go_wp2_with fail
    refine (SW.out _ _ (HC.out.below KK5.out) TD5.out).mono ?_;rintro e w6 ⟨rfl,k6⟩;have KK6:=Lib.hid (KK5.out.trans (k6.mono KK5.out.size));have T16:=Lib.hid (T15.out.below k6);have cO:=PC5.out.below k6;have cA:=cO.s1;clear cO;have xO:=PX5.out.below k6;have xA:=xO.s1;clear xO;clear k6
    go_wp2_with fail
    refine (SO.out ps _ _ _ (HO.out.below KK6.out) T16.out).mono ?_;rintro e w7 ⟨rfl,k7⟩;have kk7:=KK6.out.trans (k7.mono KK6.out.size);clear k7 cA xA;go_wp2;go_ret;exact Grew.intro (by simp) kk7

set_option maxRecDepth 100000 in
theorem lifted (os:Os) (started:os.Started) (H:Type) (enc:TypeId×Value→H):
    ReturnsInHanded {} Tryz.checked os 4 .any (Rows.vendRekeysSpec.pre6 enc Tryz.prog Tryz.f4 Rows.vendRekeysRow.domain false) (Rows.vendRekeysSpec.post enc Tryz.prog Tryz.f4 false true false false):=by
  refine returnsInHanded_of_change_sized (C:=Tryz.checked) own started (by kernel_rfl) Tryz.func4
    (ChangeSpec.witness6 (enc:=enc) (C:=Tryz.checked) false ⟨#[],#[.agg #[.slice none 0 0,.int .i64 0,.int .i64 0,.int .i64 0,.int .i64 0],.slice none 0 0,.agg #[.slice none 0 0],.int .i64 0,.int .i64 0],[]⟩ 8 (by kernel_rfl) (by kernel_rfl) (by kernel_rfl) (by kernel_rfl)) ?_
  intro W base args ds gs before hval hW hcnd hsz _;have hfin:=fun W'=>post_true (fn:=Tryz.f4) (s:=Rows.vendRekeysSpec) (bt:=4) (W':=W') rfl laidOut (by kernel_rfl) Tryz.underlying4 rfl (fun ds h=>by match ds,h with | [_,_,_,_,_],_=>rfl) hW;have hsz:(DataW.weightsEach Tryz.prog (Tryz.f4.params.toList++[]) (ds++gs)).all (·≤reachBytes)=true:=hsz;obtain ⟨p,q,hA,hV,rfl,hfz,hnd⟩:=hW;obtain ⟨rfl,rfl⟩:=trodVars_none hV;rw [Tryz.params4] at hA hval hsz;obtain ⟨v0,vs0,d0,ds0,p0,q0,hargs,rfl,rfl,h0,r0⟩:=trodAll_cons hA;obtain ⟨v1,vs1,d1,ds1,p1,q1,rfl,rfl,rfl,h1,r1⟩:=trodAll_cons r0;obtain ⟨v2,vs2,d2,ds2,p2,q2,rfl,rfl,rfl,h2,r2⟩:=trodAll_cons r1;obtain ⟨v3,vs3,d3,ds3,p3,q3,rfl,rfl,rfl,h3,r3⟩:=trodAll_cons r2;obtain ⟨v4,vs4,d4,ds4,p4,q4,rfl,rfl,rfl,h4,r4⟩:=trodAll_cons r3;obtain ⟨rfl,rfl,rfl⟩:=trodAll_nil r4;obtain rfl:args=#[v0,v1,v2,v3,v4]:=by cases args;simp_all
  simp only [List.append_nil] at hsz;have pl0:=arg_plains (ks:=(shape Tryz.prog 9 24).getD []) (by kernel_rfl) h0 (arg_weights (j:=0) hsz rfl rfl);obtain ⟨cs0,rfl,pl0⟩:=arg_struct Tryz.underlying24 (hval 0 24 v0 rfl rfl) pl0;obtain ⟨x0,u0,xs0,rfl,hx0,hS0,hw0,hb0⟩:=decodeTerms _ pl0;have pl1:=arg_plains (ks:=(shape Tryz.prog 9 25).getD []) (by kernel_rfl) h1 (arg_weights (j:=1) hsz rfl rfl);obtain ⟨xs1,hS1,hw1,hb1⟩:=plain_words (arg_slice Tryz.underlying25 (hval 1 25 v1 rfl rfl) pl1);have pl2:=arg_plains (ks:=(shape Tryz.prog 9 35).getD []) (by kernel_rfl) h2 (arg_weights (j:=2) hsz rfl rfl);obtain ⟨cs2,rfl,pl2⟩:=arg_struct Tryz.underlying35 (hval 2 35 v2 rfl rfl) pl2;obtain ⟨u2,xs2,rfl,hS2,hw2,hb2⟩:=decodeOracle _ pl2;obtain ⟨a3,rfl,rfl,rfl,wf3⟩:=open_int Tryz.underlying3 (hval 3 3 v3 rfl rfl) h3;obtain ⟨a4,rfl,rfl,rfl,wf4⟩:=open_int Tryz.underlying3 (hval 4 3 v4 rfl rfl) h4
  exact (walk x0 u0 xs0 v1 xs1 u2 xs2 a3 a4 W hx0 hS0 hw0 hb0 hS1 hw1 hb1 hS2 hw2 hb2).mono fun e W' h=>by
    obtain ⟨rfl,hb⟩:=h.grew;exact ⟨_,rfl,hfin W' hb⟩

theorem over:Rows.vendRekeysRow.holds Tryz.pinned (OpenSpec.ofChange Rows.vendRekeysSpec):=
  OpenClaim.holds_of_wide 4 Tryz.f4 rfl rfl rfl rfl rfl rfl rfl ⟨rfl,rfl,rfl,rfl,rfl⟩ rfl rfl rfl rfl rfl (by kernel_rfl) Tryz.func4 (by kernel_rfl)
    (of_decide_eq_true (by kernel_rfl)) (by unfold Func.isWrapper;first | (rw [if_pos (by decide +kernel)];kernel_rfl) | (rw [if_neg (by decide +kernel)];exact ⟨rfl,rfl⟩))
    (fun os started H enc _=>lifted os started H enc)

theorem proved:Rows.VendRekeysSaid:=over
#print axioms proved
end Go.Proofs.YtdjgcenjonegjaaGreat.vendRekeys

/- a region of reads whose last call may write what was read: the reads are taken first under S, which need hold only until call number c has come up -/
import Derived.Deep.RegionHeld3
namespace Go.Proofs.YtfhmcahfjoliiaaGreatDoor
set_option linter.unusedSimpArgs false
set_option linter.unusedVariables false
open Go
set_option maxRecDepth 20000

section
variable {P:Program} {ops:Array Oper} {Q:Exit→Act→World→Prop} {md:Region.Mode} {S:World→Prop} {c:Nat}

/-- whatever order is picked from here on; S holds behind every operation that comes up before number c -/
def AnyC (P : Program) (md : Region.Mode) (ops : Array Oper) (Q : Exit → Act → World → Prop) (c : Nat) (S : World → Prop) : Nat → Array Bool → Act → World → Prop
  | 0,listed,a,w=>Region.ready md ops listed=[]∧Q .normal a w
  | fuel+1,listed,a,w=>
    (Region.ready md ops listed=[]→Q .normal a w) ∧
    ∀ i∈Region.ready md ops listed,wpOp P ops Q i (fun a' w'=>(i≠c→listed.getD c true=false→S w')∧AnyC P md ops Q c S fuel (listed.setIfInBounds i true) a' w') a w

theorem AnyC.any:∀ (fuel:Nat) (listed:Array Bool) (a:Act) (w:World),AnyC P md ops Q c S fuel listed a w→wpAny P md ops Q fuel listed a w
  | 0,_,_,_,h=>h
  | fuel+1,_,_,_,h=>⟨h.1,fun i hi=>wpOp_mono (fun _ _ h'=>AnyC.any fuel _ _ _ h'.2) (h.2 i hi)⟩

/-- each of D waits for i, or for another of D -/
def waits (md:Region.Mode) (ops:Array Oper) (i:Nat) (D:List Nat):Bool:=
  D.all fun d=>match ops[d]? with | some o=>o.after.any (fun e=>Region.binds md e&&(e.on==i||D.contains e.on)) | none=>false
/-- those that wait for i -/
def behindL (md:Region.Mode) (ops:Array Oper) (i:Nat):List Nat:=
  (List.range ops.size).foldl (fun D d=>match ops[d]? with | some o=>if o.after.any (fun e=>Region.binds md e&&(e.on==i||D.contains e.on)) then D++[d] else D | none=>D) []

theorem waits_not {i j:Nat} {D:List Nat} {listed:Array Bool} (h:waits md ops i D=true) (hi:listed.getD i true=false) (hD:∀ d∈D,listed.getD d true=false)
    (hj:j∈Region.ready md ops listed):j∉D:=by
  intro hjD;have h1:=List.all_eq_true.1 h j hjD;obtain ⟨_,o,ho,hall⟩:=mem_ready.1 hj;rw [ho] at h1;have h1':o.after.any (fun e=>Region.binds md e&&(e.on==i||D.contains e.on))=true:=h1;rw [Array.any_eq_true'] at h1';obtain ⟨e,he,hb⟩:=h1';simp only [Bool.and_eq_true,Bool.or_eq_true,beq_iff_eq,List.contains_iff_mem] at hb;have h2:=hall e he hb.1
  have h3:listed.getD e.on true=false:=by
    rcases hb.2 with h4 | h4
    · rw [h4];exact hi
    · exact hD _ h4
  rcases Nat.lt_or_ge e.on listed.size with h' | h'
  · simp [h'] at h2 h3;rw [h3] at h2;cases h2
  · simp [Array.getElem?_eq_none h'] at h2

theorem AnyC.first {i : Nat} {oi : Oper} {v : Value} {D : List Nat} (hi : ops[i]? = some oi) (hsel : ∀ (j : Nat) (o : Oper) cs b, ops[j]? = some o → o.op ≠ .select cs b)
    (hQ:∀ c a w,Q (.panic c) (a.put oi.dst v) w→Q (.panic c) a w) (hW:waits md ops i D=true) (hc:c∈D):
    ∀ (fuel:Nat) (listed:Array Bool) (a:Act) (w:World),
      (∀ j oj,ops[j]?=some oj→j≠i→listed.getD j true=false→(∀ e∈oj.after,Region.binds md e=true→e.on≠i)→oi.apart ops oj=true) →
      (∀ d∈D,listed.getD d true=false) →
      i∈Region.ready md ops listed→YieldsIf P ops S oi v a→S w →
      AnyC P md ops Q c S fuel (listed.setIfInBounds i true) (a.put oi.dst v) w→AnyC P md ops Q c S (fuel+1) listed a w:=by
  intro fuel
  induction fuel with
  | zero=>
    intro listed a w _ _ hr hy hS H;refine ⟨fun h=>(by rw [h] at hr;cases hr),fun j hj=>?_⟩
    by_cases hji:j=i
    · subst hji;exact hy.wpOp hi hS ⟨fun _ _=>hS,H⟩
    · have:=ready_mono hj hji
      rw [H.1] at this;cases this
  | succ fuel ih=>
    intro listed a w hfree hD hr hy hS H;refine ⟨fun h=>(by rw [h] at hr;cases hr),fun j hj=>?_⟩
    have hil:=(mem_ready.1 hr).1
    by_cases hji:j=i
    · subst hji;exact hy.wpOp hi hS ⟨fun _ _=>hS,H⟩
    · have h1:=H.2 j (ready_mono hj hji)
      obtain ⟨hjun,oj,hoj,hall⟩:=mem_ready.1 hj;have hjD:=waits_not hW hil hD hj;have hiD:=waits_not hW hil hD hr
      have hnot:∀ e∈oj.after,Region.binds md e=true→e.on≠i:=fun e he hb heq=>by
        have h1:=hall e he hb;have h0:=(mem_ready.1 hr).1;rw [heq] at h1;rcases Nat.lt_or_ge i listed.size with h' | h'
        · simp [h'] at h0 h1;rw [h0] at h1;cases h1
        · simp [Array.getElem?_eq_none h'] at h1
      have h2:=wpOp_putIf hoj (hfree j oj hoj hji hjun hnot) (fun cs b=>hsel i oi cs b hi) (fun cs b=>hsel j oj cs b hoj) hQ hy h1
      have hfree':∀ k ok,ops[k]?=some ok→k≠i→(listed.setIfInBounds j true).getD k true=false →
          (∀ e∈ok.after,Region.binds md e=true→e.on≠i)→oi.apart ops ok=true:=fun k ok hk hki hun hno=>by
        refine hfree k ok hk hki ?_ hno
        by_cases hjk:j=k
        · subst hjk;exact hjun
        · rw [Go.getD_set_ne true hjk] at hun;exact hun
      have hD':∀ d∈D,(listed.setIfInBounds j true).getD d true=false:=fun d hd=>by
        rw [Go.getD_set_ne true (show j≠d from fun e=>hjD (by rw [e];exact hd))];exact hD d hd
      have hcl:(listed.setIfInBounds i true).getD c true=false:=by
        rw [Go.getD_set_ne true (show i≠c from fun e=>hiD (by rw [e];exact hc))];exact hD c hc
      refine wpOp_mono (fun a' w' h3=>?_) h2;have hS':S w':=h3.2.1 (fun e=>hjD (by rw [e];exact hc)) hcl;refine ⟨fun _ _=>hS',ih (listed.setIfInBounds j true) a' w' hfree' hD' (ready_mono hr (Ne.symm hji)) h3.1 hS' ?_⟩;rw [Array.setIfInBounds_comm _ _ hji];exact h3.2.2

theorem AnyC.take {i:Nat} {oi:Oper} {v:Value} {fuel:Nat} {listed:Array Bool} {a:Act} {w:World} (hi:ops[i]?=some oi)
    (hs:Region.noSelect ops=true) (hf:Region.free md ops listed i=true) (hr:(Region.ready md ops listed).contains i=true)
    (hW:(waits md ops i (behindL md ops i)&&(behindL md ops i).contains c&&(behindL md ops i).all (fun d=>!listed.getD d true))=true)
    (hQ:∀ c a w,Q (.panic c) (a.put oi.dst v) w→Q (.panic c) a w) (hy:YieldsIf P ops S oi v a) (hS:S w)
    (h:AnyC P md ops Q c S fuel (listed.setIfInBounds i true) (a.put oi.dst v) w):AnyC P md ops Q c S (fuel+1) listed a w:=by
  simp only [Bool.and_eq_true,List.contains_iff_mem] at hW;refine AnyC.first hi (Region.noSelect_spec hs) hQ hW.1.1 hW.1.2 fuel listed a w (Region.free_spec hi hf) (fun d hd=>?_) (by simpa using hr) hy hS h;have:=List.all_eq_true.1 hW.2 d hd;simpa using this

/-- one alone may come up, and it is not c: behind it S is shown -/
theorem AnyC.one {i:Nat} {o:Oper} {fuel:Nat} {listed:Array Bool} {a:Act} {w:World} (hr:Region.ready md ops listed=[i]) (ho:ops[i]?=some o)
    (h:∀ K':Act→World→Prop,Shut (∀ a w,(i≠c→listed.getD c true=false→S w)→(AnyC P md ops Q c S fuel (listed.setIfInBounds i true) a w)→K' a w)→if Region.wanted o (yielded ops a.tmps)=true then Oper.wp P o a w K' Q else K' (a.put o.dst undef) w):
    AnyC P md ops Q c S (fuel+1) listed a w:=by
  refine ⟨fun h0=>(by rw [hr] at h0;cases h0),fun j hj=>?_⟩
  rw [hr] at hj;obtain rfl:=List.mem_singleton.1 hj;exact wpOp_step ho (fun K' hK=>h K' (fun a w hS hW=>hK a w ⟨hS,hW⟩))

theorem AnyC.done {listed:Array Bool} {a:Act} {w:World} (hr:Region.ready md ops listed=[]) (h:Q .normal a w):
    ∀ fuel,AnyC P md ops Q c S fuel listed a w
  | 0=>⟨hr,h⟩
  | _+1=>⟨fun _=>h,by rw [hr];simp⟩

theorem AnyC.begin {id:Nat} {a:Act} {w:World} (c:Nat) (S:World→Prop) (hm:P.follows .mixedOrders=true)
    (h:AnyC P .any ops Q c S ops.size (Array.replicate ops.size false) a w.drew):(Code.region id ops true).wp P Q a w:=
  wp_region_any hm (AnyC.any _ _ _ _ h)
end


section
variable {P:Program} {ops:Array Oper} {Q:Exit→Act→World→Prop} {md:Region.Mode} {S:World→Prop} {c:Nat}
end


section
variable {P:Program} {ops:Array Oper} {Q:Exit→Act→World→Prop} {md:Region.Mode} {S:World→Prop} {c:Nat}
end

section
variable {P:Program} {ops:Array Oper} {Q:Exit→Act→World→Prop} {md:Region.Mode} {S:World→Prop} {c:Nat}
theorem AnyC.pures {i : Nat} {oi : Oper} {v : Value} (hi : ops[i]? = some oi) (hic : i ≠ c) (hsel : ∀ (j : Nat) (o : Oper) cs b, ops[j]? = some o → o.op ≠ .select cs b)
    (hQ:∀ c a w,Q (.panic c) (a.put oi.dst v) w→Q (.panic c) a w):
    ∀ (fuel:Nat) (listed:Array Bool) (a:Act) (w:World),
      (∀ j oj,ops[j]?=some oj→j≠i→listed.getD j true=false→(∀ e∈oj.after,Region.binds md e=true→e.on≠i)→oi.apart ops oj=true) →
      i∈Region.ready md ops listed→Yields P ops oi v a→(listed.getD c true=false→S w) →
      AnyC P md ops Q c S fuel (listed.setIfInBounds i true) (a.put oi.dst v) w→AnyC P md ops Q c S (fuel+1) listed a w:=by
  intro fuel
  induction fuel with
  | zero=>
    intro listed a w _ hr hy hS H;refine ⟨fun h=>(by rw [h] at hr;cases hr),fun j hj=>?_⟩
    by_cases hji:j=i
    · subst hji;exact hy.wpOp hi ⟨fun _ h=>hS h,H⟩
    · have:=ready_mono hj hji
      rw [H.1] at this;cases this
  | succ fuel ih=>
    intro listed a w hfree hr hy hS H;refine ⟨fun h=>(by rw [h] at hr;cases hr),fun j hj=>?_⟩
    by_cases hji:j=i
    · subst hji;exact hy.wpOp hi ⟨fun _ h=>hS h,H⟩
    · have h1:=H.2 j (ready_mono hj hji)
      obtain ⟨hjun,oj,hoj,hall⟩:=mem_ready.1 hj
      have hnot:∀ e∈oj.after,Region.binds md e=true→e.on≠i:=fun e he hb heq=>by
        have h1:=hall e he hb;have h0:=(mem_ready.1 hr).1;rw [heq] at h1;rcases Nat.lt_or_ge i listed.size with h' | h'
        · simp [h'] at h0 h1;rw [h0] at h1;cases h1
        · simp [Array.getElem?_eq_none h'] at h1
      have h2:=wpOp_put hoj (hfree j oj hoj hji hjun hnot) (fun cs b=>hsel i oi cs b hi) (fun cs b=>hsel j oj cs b hoj) hQ hy h1
      have hfree':∀ k ok,ops[k]?=some ok→k≠i→(listed.setIfInBounds j true).getD k true=false →
          (∀ e∈ok.after,Region.binds md e=true→e.on≠i)→oi.apart ops ok=true:=fun k ok hk hki hun hno=>by
        refine hfree k ok hk hki ?_ hno
        by_cases hjk:j=k
        · subst hjk;exact hjun
        · rw [Go.getD_set_ne true hjk] at hun;exact hun
      refine wpOp_mono (fun a' w' h3=>?_) h2;have hS':j≠c→listed.getD c true=false→S w':=fun hjc hl=>h3.2.1 hjc (by rw [Go.getD_set_ne true hic];exact hl);refine ⟨hS',ih (listed.setIfInBounds j true) a' w' hfree' (ready_mono hr (Ne.symm hji)) h3.1 (fun hl=>?_) ?_⟩
      · by_cases hjc:j=c
        · subst hjc
          rcases Nat.lt_or_ge j listed.size with h' | h'
          · simp [h'] at hl
          · simp [Array.getElem?_eq_none h'] at hl
        · exact hS' hjc (by rwa [Go.getD_set_ne true hjc] at hl)
      · rw [Array.setIfInBounds_comm _ _ hji]
        exact h3.2.2
theorem AnyC.pure {i:Nat} {oi:Oper} {v:Value} {fuel:Nat} {listed:Array Bool} {a:Act} {w:World} (hi:ops[i]?=some oi) (hic:i≠c)
    (hs:Region.noSelect ops=true) (hf:Region.free md ops listed i=true) (hr:(Region.ready md ops listed).contains i=true)
    (hQ:∀ c a w,Q (.panic c) (a.put oi.dst v) w→Q (.panic c) a w) (hy:Yields P ops oi v a) (hS:listed.getD c true=false→S w)
    (h:AnyC P md ops Q c S fuel (listed.setIfInBounds i true) (a.put oi.dst v) w):AnyC P md ops Q c S (fuel+1) listed a w:=
  AnyC.pures hi hic (Region.noSelect_spec hs) hQ fuel listed a w (Region.free_spec hi hf) (by simpa using hr) hy hS h
/-- take and pure, their side conditions as default arguments -/
theorem AnyC.tk {oi:Oper} {fuel:Nat} {listed:Array Bool} {a:Act} {w:World} (i:Nat) (v:Value) (hS:S w) (hy:∀ w,S w→(execOp a.eval oi).run P w=.ok (.value v) w)
    (h:AnyC P md ops Q c S fuel (listed.setIfInBounds i true) (a.put oi.dst v) w) (hi:ops[i]?=some oi:=by rfl) (hs:Region.noSelect ops=true:=by kernel_rfl) (hf:Region.free md ops listed i=true:=by kernel_rfl)
    (hr:(Region.ready md ops listed).contains i=true:=by kernel_rfl) (hW:(waits md ops i (behindL md ops i)&&(behindL md ops i).contains c&&(behindL md ops i).all (fun d=>!listed.getD d true))=true:=by kernel_rfl)
    (hQ:∀ c a w,Q (.panic c) (a.put oi.dst v) w→Q (.panic c) a w:=by exact fun _ _ _ h=>h) (hw:Region.wanted oi (yielded ops a.tmps)=true:=by rfl):AnyC P md ops Q c S (fuel+1) listed a w:=
  AnyC.take hi hs hf hr hW hQ (Or.inl ⟨hw,hy⟩) hS h
theorem AnyC.pu {oi:Oper} {fuel:Nat} {listed:Array Bool} {a:Act} {w:World} (i:Nat) (v:Value) (hy:∀ w,(execOp a.eval oi).run P w=.ok (.value v) w)
    (h:AnyC P md ops Q c S fuel (listed.setIfInBounds i true) (a.put oi.dst v) w) (hi:ops[i]?=some oi:=by rfl) (hic:i≠c:=by decide) (hs:Region.noSelect ops=true:=by kernel_rfl) (hf:Region.free md ops listed i=true:=by kernel_rfl)
    (hr:(Region.ready md ops listed).contains i=true:=by kernel_rfl) (hQ:∀ c a w,Q (.panic c) (a.put oi.dst v) w→Q (.panic c) a w:=by exact fun _ _ _ h=>h) (hw:Region.wanted oi (yielded ops a.tmps)=true:=by rfl)
    (hS:listed.getD c true=false→S w:=by exact fun h=>absurd h (by decide)):AnyC P md ops Q c S (fuel+1) listed a w:=
  AnyC.pure hi hic hs hf hr hQ (Or.inl ⟨hw,hy⟩) hS h
end

end Go.Proofs.YtfhmcahfjoliiaaGreatDoor

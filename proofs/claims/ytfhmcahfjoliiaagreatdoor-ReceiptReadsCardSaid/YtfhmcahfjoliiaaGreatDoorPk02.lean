/- An argument of any of the law's types, opened at once: 'shape' reckons, off the program's own tables, which cells a type has; 'plains_of_trod': what can be read as data has just these. · what an argument's cells say, type by type (made by wip/bin/gen_api.py) · 'In' and its twins: is a number from low to high? -/
import Derived.Test.YtfhmcahfjoliiaaGreatDoorPk01
import Derived.ProofKit
import Derived.OpenShut
import Derived.SizedLaws
import Derived.Deep.Slices
import Derived.Test.YtfhmcahfjoliiaaGreatDoorPk00
namespace Go.Proofs.YtfhmcahfjoliiaaGreatDoor
set_option linter.unusedSimpArgs false
set_option linter.unusedVariables false
open Go.ChangeShapes Go.WideShapes Go.ChangeAt Go.RowKit Go.Deep
set_option maxRecDepth 20000

inductive Sh where
  | int (k:IntKind)
  | str
  | bool
  | slice (bytes:Nat) (ks:List Sh)

mutual
/-- a cell of a shape -/
def Plain (w:World):Sh→Value→Prop
  | .int k,v=>∃ n,v=.int k n∧(Lit.int k n).wf=true
  | .str,v=>∃ s:ByteArray,v=.string s∧s.size≤reachBytes
  | .bool,v=>∃ b,v=.bool b
  | .slice by' ks,v=>∃ n cs,Sl w v ks.length n cs∧n*by'≤reachBytes∧∀ i,i < n→Plains w ks ((cs.drop (i*ks.length)).take ks.length)
/-- cells of shapes -/
def Plains (w:World):List Sh→List Value→Prop
  | [],cs=>cs=[]
  | s::ss,cs=>∃ v r,cs=v::r∧Plain w s v∧Plains w ss r
end

theorem Plains.append {w:World}:∀ {ks:List Sh} {cs:List Value} {ks':List Sh} {cs':List Value},Plains w ks cs→Plains w ks' cs'→Plains w (ks++ks') (cs++cs')
  | [],_,_,_,h,h'=>by simp only [Plains] at h;subst h;exact h'
  | _::_,_,_,_,h,h'=>by
    simp only [Plains] at h
    obtain ⟨v,r,rfl,h0,h⟩:=h
    simp only [List.cons_append,Plains]
    exact ⟨v,_,rfl,h0,Plains.append h h'⟩

/-- the shape of a struct's fields, laid one behind the other -/
def fieldsShape (g:TypeId→Option (List Sh)) (P:Program):List Field→Nat→Option (List Sh)
  | [],_=>some []
  | fd::r,off=>if fd.offset=off then (g fd.type).bind fun ks=>if ks.length=P.cellsOf fd.type then (fieldsShape g P r (off+ks.length)).map (ks++·) else none else none

def shape (P : Program) : Nat → TypeId → Option (List Sh)
  | 0,_=>none
  | f+1,t=>match P.underlying t with
    | some .bool=>some [.bool]
    | some (.int k)=>some [.int k]
    | some .string=>some [.str]
    | some (.slice e)=>(shape P f e).bind fun ks=>if ks.length=P.cellsOf e∧1≤ks.length∧1≤P.bytesOf e then some [.slice (P.bytesOf e) ks] else none
    | some (.struct fs)=>(fieldsShape (shape P f) P fs.toList 0).bind fun ks=>if ks.length=P.cellsOf t then some ks else none
    | some (.array n e)=>(shape P f e).bind fun ks=>if ks.length=P.cellsOf e∧P.cellsOf t=n*ks.length then some (List.replicate n ks).flatten else none
    | _=>none

theorem chunk_flat {α:Type} [Inhabited α] (f:α→List Value) (sz:Nat) (hf:∀ x,(f x).length=sz):∀ (xs:List α) (i:Nat),i < xs.length→((xs.flatMap f).drop (i*sz)).take sz=f (xs.getD i default)
  | [],i,h=>by simp at h
  | x::xs,0,_=>by rw [List.flatMap_cons,Nat.zero_mul,List.drop_zero,List.take_left' (hf x)];rfl
  | x::xs,i+1,h=>by
    have ih:=chunk_flat f sz hf xs i (by simpa using h)
    rw [List.flatMap_cons,show (i+1)*sz=(f x).length+i*sz by rw [hf,Nat.succ_mul];omega,← List.drop_drop,List.drop_left,ih]
    rfl

section
variable {H:Type} {enc:TypeId×Value→H} {P:Program} {w:World} {base:Nat} {held:Bool}

/-- what is claimed of one type -/
def OpensAt (enc : TypeId × Value → H) (P : Program) (w : World) (base : Nat) (held : Bool) (g : TypeId → Option (List Sh)) : Prop :=
  ∀ (t:TypeId) (ks:List Sh) (fuel:Nat) (cs:List Value) (x:DataW H×List MemPlace),g t=some ks→DataW.trod enc P w base (fun _=>true) held fuel t cs=some x →
    (x.1.weights P t).all (·≤reachBytes)=true→Plains w ks cs

theorem opens_fields {g : TypeId → Option (List Sh)} (hg : OpensAt enc P w base held g) (n : Nat) :
    ∀ (fs:List Field) (off:Nat) (ks:List Sh) (cs:List Value) (xs:List (DataW H×List MemPlace)),fieldsShape g P fs off=some ks→off+ks.length=cs.length→xs.length=fs.length →
      (∀ (i:Nat) (f:Field),fs[i]?=some f→DataW.trod enc P w base (fun _=>true) held n f.type ((cs.drop f.offset).take (P.cellsOf f.type))=xs[i]?) →
      ((DataW.weightsEach P (fs.map (·.type)) (xs.map (·.1))).all (·≤reachBytes)=true)→Plains w ks (cs.drop off)
  | [],off,ks,cs,xs,hs,hl,_,_,_=>by
    simp only [fieldsShape,Option.some.injEq] at hs
    subst hs
    simp only [List.length_nil,Nat.add_zero] at hl
    simp [Plains,hl]
  | fd :: r, off, ks, cs, xs, hs, hl, hx, hall, hw => by
    simp only [fieldsShape] at hs
    split at hs
    · rename_i ho
      cases hk:g fd.type with
      | none=>simp [hk] at hs
      | some k0=>
        simp only [hk,Option.bind_some] at hs
        split at hs
        · rename_i hc
          simp only [Option.map_eq_some_iff] at hs
          obtain ⟨k1,h1,rfl⟩:=hs
          match xs,hx with
          | x0::xs,hx=>
            have h0:=hall 0 fd rfl
            simp only [List.getElem?_cons_zero] at h0
            simp only [List.map_cons,DataW.weightsEach,List.all_append,Bool.and_eq_true] at hw
            rw [ho] at h0
            have p0:=hg fd.type k0 n _ x0 hk h0 hw.1
            have ih:=opens_fields hg n r (off+k0.length) k1 cs xs h1 (by simp only [List.length_append] at hl;omega) (by simpa using hx) (fun i f hf=>by simpa using hall (i+1) f (by simpa using hf)) hw.2
            rw [← hc] at p0
            have:cs.drop off=(cs.drop off).take k0.length++cs.drop (off+k0.length):=by rw [← List.drop_drop,List.take_append_drop]
            rw [this]
            exact Plains.append p0 ih
        · cases hs
    · cases hs

theorem weightsAll_mem {P:Program} {e:TypeId}:∀ {ds:List (DataW H)},(DataW.weightsAll P e ds).all (·≤reachBytes)=true→∀ d∈ds,(d.weights P e).all (·≤reachBytes)=true
  | [],_,_,hd=>by cases hd
  | d0::ds,h,d,hd=>by
    simp only [DataW.weightsAll,List.all_append,Bool.and_eq_true] at h
    rcases List.mem_cons.1 hd with rfl | hd
    · exact h.1
    · exact weightsAll_mem h.2 d hd

theorem plains_chunks {w:World} {ks:List Sh}:∀ (n:Nat) (cs:List Value),cs.length=n*ks.length→(∀ i,i < n→Plains w ks ((cs.drop (i*ks.length)).take ks.length))→Plains w (List.replicate n ks).flatten cs
  | 0,cs,hl,_=>by simp only [Nat.zero_mul,List.length_eq_zero_iff] at hl;subst hl;simp [Plains]
  | n + 1, cs, hl, h => by
    rw [List.replicate_succ,List.flatten_cons]
    have h0:=h 0 (by omega)
    rw [Nat.zero_mul,List.drop_zero] at h0
    have ih:=plains_chunks (w:=w) (ks:=ks) n (cs.drop ks.length) (by rw [List.length_drop,hl,Nat.succ_mul];omega) (fun i hi=>by
      have:=h (i+1) (by omega)
      rw [List.drop_drop,show ks.length+i*ks.length=(i+1)*ks.length by rw [Nat.succ_mul];omega]
      exact this)
    have:=Plains.append h0 ih
    rwa [List.take_append_drop] at this

theorem opens : ∀ (f : Nat), OpensAt enc P w base held (shape P f)
  | 0=>by intro t ks fuel cs x hs;cases hs
  | f + 1 => by
    have ih:=opens f
    intro t ks fuel cs x hs hx hw
    unfold shape at hs
    cases ht:P.underlying t with
    | none=>rw [ht] at hs;cases hs
    | some d=>
      rw [ht] at hs
      cases d with
      | bool=>
        simp only [Option.some.injEq] at hs
        subst hs
        obtain ⟨b,rfl,_⟩:=DataW.trod_bool ht hx
        exact ⟨_,[],rfl,⟨b,rfl⟩,rfl⟩
      | int k=>
        simp only [Option.some.injEq] at hs
        subst hs
        obtain ⟨n,rfl,_,hwf⟩:=DataW.trod_int ht hx
        exact ⟨_,[],rfl,⟨n,rfl,hwf⟩,rfl⟩
      | string=>
        simp only [Option.some.injEq] at hs
        subst hs
        obtain ⟨s,rfl,rfl,hsz⟩:=DataW.trod_string ht hx
        refine ⟨_,[],rfl,⟨s,rfl,?_⟩,rfl⟩
        simpa [DataW.weights] using hw
      | slice e =>
        cases hk:shape P f e with
        | none=>simp [hk] at hs
        | some k0 =>
          simp only [hk,Option.bind_some] at hs
          split at hs
          · rename_i hc
            simp only [Option.some.injEq] at hs
            subst hs
            rcases open_slice ht hx with ⟨rfl,rfl⟩ | ⟨a,len,cap,m,n,D,Pl,rfl,hb,hlc,hm,rfl,rfl,hel⟩
            · exact ⟨_,[],rfl,⟨0,[],Sl.nil _ _,by omega,fun i hi=>by omega⟩,rfl⟩
            · simp only at hel hw
              simp only [DataW.weights,ht,List.all_cons,Bool.and_eq_true,decide_eq_true_eq,List.length_map,List.length_range,List.all_append] at hw
              obtain ⟨hsz,hwe,_⟩:=hw
              have hsz':len*P.bytesOf e≤reachBytes:=Nat.le_trans (Nat.mul_le_mul_right _ (by omega)) hsz
              -- the cells
              have hcell:∀ i,i < len→∃ cs',cs'.length=k0.length∧(∀ j,j < k0.length→w.cell? (a.add (i*k0.length+j))=cs'[j]?)∧Plains w k0 cs':=by
                intro i hi;obtain ⟨cs',h1,h2⟩:=hel i (by omega);obtain ⟨_,hl',hcs⟩:=World.cells?_some h1;refine ⟨cs',by rw [hl',hc.1],fun j hj=>?_,ih e k0 n cs' _ hk h2 (weightsAll_mem hwe _ (by simp only [List.mem_map,List.mem_range];exact ⟨i,hi,rfl⟩))⟩;rw [← hcs j (by omega),← hc.1]
                congr 1
                unfold Addr.add
                split<;>split<;>split<;>simp_all [Nat.add_assoc]<;>omega
              obtain ⟨hc1,hk1,hb1⟩:=hc
              obtain ⟨C,hC⟩:∃ C:Nat→List Value,∀ i,(C i).length=k0.length∧(i < len→(∀ j,j < k0.length→w.cell? (a.add (i*k0.length+j))=(C i)[j]?)∧Plains w k0 (C i)):=by
                refine ⟨fun i=>if h:i < len then (hcell i h).choose else List.replicate k0.length undef,fun i=>?_⟩
                by_cases h:i < len
                · simp only [h,dif_pos,forall_const]
                  exact (hcell i h).choose_spec
                · simp [h]
              have hlenC:=length_flat C k0.length (fun i=>(hC i).1) (List.range len);rw [List.length_range] at hlenC;have hle:len≤len*P.bytesOf e:=Nat.le_mul_of_pos_right _ hb1
              have hget:∀ i j,i < len→j < k0.length→((List.range len).flatMap C).getD (i*k0.length+j) undef=(C i).getD j undef:=by
                intro i j hi hj;have:=getD_flat C k0.length (fun i=>(hC i).1) (List.range len) i j (by simpa using hi) hj
                rwa [show (List.range len).getD i default=i by simp [List.getD_eq_getElem?_getD,hi]] at this
              have hcl:∀ j,j < len*k0.length→w.cell? (a.add j)=some (((List.range len).flatMap C).getD j undef):=by
                intro j hj;have hq:j / k0.length < len:=Nat.div_lt_of_lt_mul (by rw [Nat.mul_comm];exact hj);have hr:j%k0.length < k0.length:=Nat.mod_lt _ hk1;have e1:=((hC (j / k0.length)).2 hq).1 _ hr;have e2:=hget _ _ hq hr;rw [show j / k0.length*k0.length+j%k0.length=j by rw [Nat.mul_comm];exact Nat.div_add_mod _ _] at e1 e2;rw [e1,e2,List.getD_eq_getElem?_getD,List.getElem?_eq_getElem (by rw [(hC _).1];exact hr)]
                rfl
              refine ⟨_,[],rfl,⟨len,(List.range len).flatMap C,⟨some a,_,rfl,?_,hlenC,(fun h=>by cases h),?_⟩,hsz',fun i hi=>?_⟩,rfl⟩
              · have:reachBytes≤281474976710656:=by decide
                exact ⟨by omega,by omega⟩
              · by_cases h0:len=0
                · exact .inl h0
                · right
                  have hp:0 < len*k0.length:=Nat.mul_pos (by omega) hk1;obtain ⟨b,off,spot⟩:=a;have hspot:spot=none:=by simpa [Addr.add] using World.cell?_spot (hcl 0 hp)
                  subst hspot;refine ⟨b,off,rfl,?_,fun j hj=>?_⟩
                  · have:=World.block_lt_of_cell? w _ (hcl 0 hp)
                    simpa [Addr.add] using this
                  · rw [← Go.WideShapes.add_plain]
                    exact hcl j (by omega)
              · rw [chunk_flat C k0.length (fun i=>(hC i).1) _ _ (by simpa using hi),show (List.range len).getD i default=i by simp [List.getD_eq_getElem?_getD,hi]]
                exact ((hC i).2 hi).2
          · cases hs
      | struct fs=>
        cases hk:fieldsShape (shape P f) P fs.toList 0 with
        | none=>simp [hk] at hs
        | some k0=>
          simp only [hk,Option.bind_some] at hs
          split at hs
          · rename_i hc
            simp only [Option.some.injEq] at hs;subst hs;obtain ⟨xs,n,rfl,rfl,hl,hlen,hall⟩:=DataW.trod_struct ht hx;simp only [DataW.weights,ht] at hw;have:=opens_fields ih n fs.toList 0 k0 cs xs hk (by rw [hl,hc];omega) (by simpa using hlen) (fun i f hf=>hall i f (by simpa using hf)) hw;simpa using this
          · cases hs
      | array n e=>
        cases hk:shape P f e with
        | none=>simp [hk] at hs
        | some k0=>
          simp only [hk,Option.bind_some] at hs
          split at hs
          · rename_i hc
            simp only [Option.some.injEq] at hs;subst hs;obtain ⟨xs,m,rfl,rfl,hl,hlen,hall⟩:=DataW.trod_array ht hx;simp only [DataW.weights,ht] at hw;refine plains_chunks n cs (by rw [hl,hc.2]) (fun i hi=>?_);have h1:=hall i hi;rw [← hc.1] at h1;have hi':i < xs.length:=by omega
            rw [List.getElem?_eq_getElem hi'] at h1;exact ih e k0 m _ _ hk h1 (weightsAll_mem hw _ (by simp only [List.mem_map];exact ⟨xs[i],List.getElem_mem hi',rfl⟩))
          · cases hs
      | _=>cases hs
end
end Go.Proofs.YtfhmcahfjoliiaaGreatDoor
namespace Go.Proofs.YtfhmcahfjoliiaaGreatDoor
set_option linter.unusedSimpArgs false
set_option linter.unusedVariables false
open Go.ChangeShapes Go.WideShapes Go.ChangeAt Go.RowKit
set_option maxRecDepth 20000

theorem plain_str {w:World} {v:Value} (h:Plain w .str v):∃ s,v=.string s∧Str s:=by simp only [Plain] at h;obtain ⟨s,rfl,h⟩:=h;exact ⟨s,rfl,h⟩
section
variable {H:Type} {enc:TypeId×Value→H} {P:Program} {W:World} {t:TypeId} {ks:List Sh} {v:Value} {d:DataW H} {p:List MemPlace}
theorem arg_plains (hs:shape P 9 t=some ks) (h:DataW.Trod enc P W 0 (fun _=>true) true t v d p) (hw:(d.weights P t).all (·≤reachBytes)=true):Plains W ks v.cells.toList:=by
  obtain ⟨fuel,hf⟩:=h;exact opens 9 t ks fuel _ _ hs hf hw
theorem arg_weights {ts:List TypeId} {ds:List (DataW H)} {j:Nat} (h:(DataW.weightsEach P ts ds).all (·≤reachBytes)=true) (ht:ts[j]?=some t) (hd:ds[j]?=some d):(d.weights P t).all (·≤reachBytes)=true:=
  List.all_eq_true.2 fun n hn=>List.all_eq_true.1 h n (DataW.weights_mem_each ht hd n hn)
theorem arg_string {r:Reach} {base:Nat} (ht:P.underlying t=some .string) (hval:Value.okWide P W r base t v) (h:DataW.Trod enc P W 0 (fun _=>true) true t v d p) (hp:Plains W [.str] v.cells.toList):∃ s,v=.string s∧Str s:=by
  obtain ⟨s,rfl,_⟩:=Go.ChangeMaps.open_string ht hval h;simp only [Plains,Value.cells] at hp;obtain ⟨v',r',hv,hp,hr⟩:=hp;simp only [List.cons.injEq] at hv;obtain ⟨rfl,_⟩:=hv;exact ⟨s,rfl,by obtain ⟨s',h1,h2⟩:=plain_str hp;simp only [Value.string.injEq] at h1;subst h1;exact h2⟩
end
end Go.Proofs.YtfhmcahfjoliiaaGreatDoor
namespace Go.Proofs.YtfhmcahfjoliiaaGreatDoor
set_option linter.unusedSimpArgs false
set_option linter.unusedVariables false
open Go.RowKit
set_option maxRecDepth 20000
def inB (n lo hi:Int):Bool:=decide (lo≤n)&&decide (n≤hi)
theorem inB_true {n lo hi:Int}:inB n lo hi=true↔lo≤n∧n≤hi:=by simp [inB]
theorem inB_false {n lo hi:Int}:inB n lo hi=false↔¬ (lo≤n∧n≤hi):=by rw [← inB_true];simp

theorem In_any (n low high:Int) (w:World):
    Calls Tryz.prog 63 #[.int .i64 n,.int .i64 low,.int .i64 high] w (Pure (.bool (inB n low high)) w):=by
  go_enter Tryz.func63,Tryz.ntmps63;go_wp2
  all_goals
    go_ret;refine Pure.intro ?_;simp only [inB];simp [*]
    try omega
end Go.Proofs.YtfhmcahfjoliiaaGreatDoor

/- receipt.Read's maps: the texts said under names, the places of numbers under names -/
import Derived.Test.YtfhmcahfjoliiaaGreatDoorPk42
import Derived.Test.YtfhmcahfjoliiaaGreatDoorPk01
import Derived.Maps.RangeWalk
import Derived.Maps.OwnOps
import Derived.Maps.Ext
set_option maxRecDepth 20000
set_option maxHeartbeats 8000000
set_option linter.unusedSimpArgs false
set_option linter.unusedVariables false
namespace Go.Proofs.YtfhmcahfjoliiaaGreatDoor
open Go Go.RowKit
open Go.Maps (Keyed)

/-- how a text in a struct of one field reads, how a place in block g reads -/
def txR:Value→Option (DataW Unit×List MemPlace)
  | .agg ⟨[.string s]⟩=>some (.lit (.string s.data.toList),[])
  | _=>none
def ptR (g:Nat):Value→Option (DataW Unit×List MemPlace)
  | .pointer (some ⟨b,j,none⟩)=>if b=g then some (.lit (.int .i64 (j:Int)),[]) else none
  | _=>none
theorem txR_inv {v:Value} {l:List UInt8} {ps:List MemPlace} (h:txR v=some (.lit (.string l),ps)):v=.agg #[.string ⟨l.toArray⟩]:=by
  unfold txR at h
  split at h
  · rename_i s
    simp only [Option.some.injEq,Prod.mk.injEq,DataW.lit.injEq,Lit.string.injEq] at h;rw [← h.1]
  · cases h
theorem ptR_inv {g:Nat} {v:Value} {y:DataW Unit×List MemPlace} (h:ptR g v=some y):∃ j:Nat,v=.pointer (some ⟨g,j,none⟩)∧y=(.lit (.int .i64 (j:Int)),[]):=by
  unfold ptR at h
  split at h
  · rename_i b j
    split at h
    · rename_i e
      subst e;exact ⟨j,rfl,(Option.some.inj h).symm⟩
    · cases h
  · cases h
theorem ptR_mk (g j:Nat):ptR g (.pointer (some ⟨g,j,none⟩))=some (.lit (.int .i64 (j:Int)),[]):=if_pos rfl

abbrev kyS (s:ByteArray):Lit:=.string s.data.toList
theorem kyS_lit (s:ByteArray):WideAt.IsKeyLit (kyS s):=trivial
theorem kyS_inj {a b:ByteArray} (h:kyS a=kyS b):a=b:=by
  have:a.data.toList=b.data.toList:=by injection h
  exact ByteArray.ext (Array.toList_inj.1 this)
/-- what was said in the first j lines, as a map's reading -/
def sdD (ls:List ByteArray):Nat→DataW Unit
  | 0=>.map []
  | j+1=>(sdD ls j).put (kyS (hdL (ls.getD j ⟨#[]⟩))) (.lit (.string (tlL (ls.getD j ⟨#[]⟩)).data.toList))
theorem sdD_map (ls:List ByteArray):∀ j,Maps.IsMap (sdD ls j)
  | 0=>Maps.isMap_empty
  | j+1=>(sdD_map ls j).put _ _
theorem sdD_at (ls:List ByteArray) (nm:ByteArray):∀ j,(sdD ls j).atKey (kyS nm) (.lit (.string []))=.lit (.string (sdN ls j nm).data.toList)
  | 0=>rfl
  | j+1=>by
    show ((sdD ls j).put (kyS (hdL (ls.getD j ⟨#[]⟩))) (.lit (.string (tlL (ls.getD j ⟨#[]⟩)).data.toList))).atKey _ _=.lit (.string (if hdL (ls.getD j ⟨#[]⟩)=nm then _ else _:ByteArray).data.toList)
    by_cases h:hdL (ls.getD j ⟨#[]⟩)=nm
    · rw [if_pos h,← h,Maps.atKey_put_same (sdD_map ls j) (kyS_lit _)]
    · rw [if_neg h,Maps.atKey_put_other (fun e=>h (kyS_inj e).symm),sdD_at ls nm j]
/-- places under names, as a map's reading (the last name first) -/
def kvD:List (ByteArray×Nat)→DataW Unit
  | []=>.map []
  | p::l=>(kvD l).put (kyS p.1) (.lit (.int .i64 (p.2:Int)))
theorem kvD_map:∀ l,Maps.IsMap (kvD l)
  | []=>Maps.isMap_empty
  | p::l=>(kvD_map l).put _ _
theorem kvD_has:∀ (l:List (ByteArray×Nat)) (kl:Lit),Maps.has (kvD l) kl=true→∃ p∈l,kl=kyS p.1
  | [],kl,h=>by cases h
  | p :: l, kl, h => by
    by_cases e:kl=kyS p.1
    · exact ⟨p,by simp,e⟩
    · have h2:Maps.has ((kvD l).put (kyS p.1) (.lit (.int .i64 (p.2:Int)))) kl=true:=h
      rw [Maps.has_put_other e] at h2
      obtain ⟨q,hq,eq⟩:=kvD_has l kl h2
      exact ⟨q,List.mem_cons_of_mem _ hq,eq⟩
theorem kvD_mem:∀ (l:List (ByteArray×Nat)) (p:ByteArray×Nat),p∈l→Maps.has (kvD l) (kyS p.1)=true
  | [],p,h=>by cases h
  | q :: l, p, h => by
    by_cases e:kyS p.1=kyS q.1
    · show Maps.has ((kvD l).put (kyS q.1) _) _=true
      rw [e,Maps.has_put_same (kvD_map l) (kyS_lit _)]
    · show Maps.has ((kvD l).put (kyS q.1) _) _=true
      rw [Maps.has_put_other e]
      rcases List.mem_cons.1 h with h | h
      · exact absurd (by rw [h]) e
      · exact kvD_mem l p h
theorem kvD_at (z:DataW Unit):∀ (l:List (ByteArray×Nat)),(l.map (·.1)).Nodup→∀ p∈l,(kvD l).atKey (kyS p.1) z=.lit (.int .i64 (p.2:Int))
  | [],_,p,h=>by cases h
  | q :: l, hn, p, h => by
    rw [List.map_cons,List.nodup_cons] at hn
    show ((kvD l).put (kyS q.1) _).atKey _ _=_
    rcases List.mem_cons.1 h with h | h
    · rw [h,Maps.atKey_put_same (kvD_map l) (kyS_lit _)]
    · have e:kyS p.1≠kyS q.1:=fun e=>hn.1 (by rw [← kyS_inj e];exact List.mem_map.2 ⟨p,h,rfl⟩)
      rw [Maps.atKey_put_other e,kvD_at z l hn.2 p h]

/-! ### at the operations -/
theorem lawS:Keyed Tryz.prog 9:=Maps.string_keyed Tryz.underlying9
theorem keyS {s:ByteArray} (hs:s.size≤maxLen):keyOf Tryz.prog 9 (.string s)=some (kyS s):=WideMaps.keyOf_string_mk Tryz.underlying9 hs
theorem keyS_inv {v:Value} {kl:Lit} (h:keyOf Tryz.prog 9 v=some kl):∃ s:ByteArray,v=.string s∧kl=kyS s:=by
  rw [keyOf_string Tryz.underlying9] at h;unfold mapKey at h;rw [Tryz.underlying9] at h;cases v<;>simp at h
  rename_i s;exact ⟨s,rfl,by first | exact h.2.symm | exact h.symm⟩
theorem zeroV (w:World):(zeroValue 36).run Tryz.prog w=.ok (.agg #[.string ⟨#[]⟩]) w:=by kernel_rfl
theorem wpList_lookup_said {w:World} {ops:Array Oper} {rest:List Oper} {o:Oper} {a:Act} {Q:Exit→Act→World→Prop} (hg:o.guard=none) (m x:Operand) (hop:o.op=Op.lookup 30 m x false)
    (b n j:Nat) (ls:List ByteArray) (nm:ByteArray) (hm:a.eval m=.map (some b)) (hown:w.ownsMap Tryz.prog 9 txR b n (sdD ls j)) (hx:a.eval x=.string nm) (hs:nm.size≤maxLen)
    (hK:wpList Tryz.prog ops Q rest (a.put o.dst (.agg #[.string (sdN ls j nm)])) w):wpList Tryz.prog ops Q (o::rest) a w:=by
  refine wpList_plain hg fun K' hK'=>?_
  obtain ⟨v,ps,hrun,hv⟩:=hown.lookup lawS Tryz.underlying30 (zeroV w) (zd:=.lit (.string [])) (zp:=[]) rfl (keyS hs);rw [sdD_at] at hv;have hvv:v=.agg #[.string (sdN ls j nm)]:=txR_inv hv;subst hvv;unfold Oper.wp;simp [execOp,hop,hm,hx,hrun,Result.andThen];exact hK' _ _ hK
theorem wpList_store_said {w:World} {ops:Array Oper} {rest:List Oper} {o:Oper} {a:Act} {Q:Exit→Act→World→Prop} (hg:o.guard=none) (m x v:Operand) (hop:o.op=Op.mapUpdate 30 m x v)
    (b j:Nat) (ls:List ByteArray) (nm tx:ByteArray) (hm:a.eval m=.map (some b)) (hown:w.ownsMap Tryz.prog 9 txR b j (sdD ls j)) (hj:j < maxLen) (hx:a.eval x=.string nm) (hv:a.eval v=.agg #[.string tx]) (hs:nm.size≤maxLen)
    (h1:hdL (ls.getD j ⟨#[]⟩)=nm) (h2:tlL (ls.getD j ⟨#[]⟩)=tx)
    (hK:∀ w',w'.ownsMap Tryz.prog 9 txR b (j+1) (sdD ls (j+1))→w.grownBy w' (some b)→wpList Tryz.prog ops Q rest (a.put o.dst undef) w'):wpList Tryz.prog ops Q (o::rest) a w:=
  wpList_mapUpdate_own w hg m x v _ hop 9 36 lawS Tryz.underlying30 txR b j _ hm hown hj _ _ _ hx hv (keyS hs) _ [] rfl
    (fun w' h hg=>hK w' (by show w'.ownsMap _ _ _ _ _ ((sdD ls j).put _ _);rw [h1,h2];exact h) hg)
theorem wpList_insert_place {w:World} {ops:Array Oper} {rest:List Oper} {o:Oper} {a:Act} {Q:Exit→Act→World→Prop} (hg:o.guard=none) (m x v:Operand) (hop:o.op=Op.insert 41 m x v)
    (g b n:Nat) (l:List (ByteArray×Nat)) (nm:ByteArray) (j:Nat) (hm:a.eval m=.map (some b)) (hown:w.ownsMap Tryz.prog 9 (ptR g) b n (kvD l)) (hn:n < maxLen) (hx:a.eval x=.string nm) (hv:a.eval v=.pointer (some ⟨g,j,none⟩)) (hs:nm.size≤maxLen)
    (hK:∀ w',w'.ownsMap Tryz.prog 9 (ptR g) b (n+1) (kvD ((nm,j)::l))→w.grownBy w' (some b)→wpList Tryz.prog ops Q rest (a.put o.dst undef) w'):wpList Tryz.prog ops Q (o::rest) a w:=by
  refine wpList_plain hg fun K' hK'=>?_
  obtain ⟨w',hrun,r1,r2⟩:=hown.update lawS Tryz.underlying41 hn (keyS hs) (ptR_mk g j);unfold Oper.wp;simp [execOp,hop,hm,hx,hv,hrun,Result.andThen];exact hK' _ _ (hK w' r1 r2)
theorem wpList_next_place {w : World} {ops : Array Oper} {rest : List Oper} {o : Oper} {a : Act} {Q : Exit → Act → World → Prop} (hg : o.guard = none) (it : Operand) (hop : o.op = Op.next it false)
    (g b r n:Nat) (l:List (ByteArray×Nat)) (hl:(l.map (·.1)).Nodup) (left:Lit→Bool) (cnt:Nat) (hit:a.eval it=.pointer (some ⟨r,0,none⟩)) (h:w.ranges Tryz.prog 9 (ptR g) b r n (kvD l) left cnt) (hle:∀ kl,left kl=true→Maps.has (kvD l) kl=true)
    (hDone:(∀ kl,left kl=false)→wpList Tryz.prog ops Q rest (a.put o.dst (.tuple #[.bool false])) w)
    (hMore:∀ (p:ByteArray×Nat) (w':World) (cnt':Nat),p∈l→left (kyS p.1)=true→w'.ranges Tryz.prog 9 (ptR g) b r n (kvD l) (fun z=>left z&&!z.sameKey (kyS p.1)) cnt'→cnt' < cnt→w.grownBy w' (some r)→w'.heap.size=w.heap.size →
      (Instr.entry (.pointer (some ⟨r,0,none⟩))).run Tryz.prog w'=.ok (.tuple #[.string p.1,.pointer (some ⟨g,p.2,none⟩)]) w'→wpList Tryz.prog ops Q rest (a.put o.dst (.tuple #[.bool true,.string p.1,.pointer (some ⟨g,p.2,none⟩)])) w'):
    wpList Tryz.prog ops Q (o::rest) a w:=
  wpList_next_ranges w hg it hop 9 lawS (ptR g) Value.string (fun j:Nat=>.pointer (some ⟨g,j,none⟩)) (fun key kl hk=>by obtain ⟨s,h,_⟩:=keyS_inv hk;exact ⟨s,h⟩) (fun v y hv=>by obtain ⟨j,h,_⟩:=ptR_inv hv;exact ⟨j,h⟩)
    b r n (kvD l) left cnt hit h (fun _ hd => hDone hd) (fun x c kl y w' cnt' hkey hlk hv hat hrg hlt hgr hsz hen => by
      obtain ⟨s,es,ek⟩:=keyS_inv hkey
      cases es
      obtain ⟨j,ej,ey⟩:=ptR_inv hv
      obtain ⟨p,hp,e1⟩:=kvD_has l kl (hle kl hlk)
      obtain rfl:x=p.1:=kyS_inj (ek.symm.trans e1)
      have h3:=hat (.map [])
      rw [ek,kvD_at _ l hl p hp,ey] at h3
      have h4:(p.2:Int)=(j:Int):=by
        have:DataW.lit (H:=Unit) (Lit.int .i64 (p.2:Int))=.lit (.int .i64 (j:Int)):=h3;injection this with this
        injection this
      have h5:c=p.2:=by
        have e2:(.pointer (some ⟨g,c,none⟩):Value)=.pointer (some ⟨g,j,none⟩):=ej;injection e2 with e2
        injection e2 with e2
        injection e2 with _ e3 _
        omega
      subst h5;rw [ek] at hlk hrg;exact hMore p w' cnt' hp hlk hrg hlt hgr hsz hen)
end Go.Proofs.YtfhmcahfjoliiaaGreatDoor

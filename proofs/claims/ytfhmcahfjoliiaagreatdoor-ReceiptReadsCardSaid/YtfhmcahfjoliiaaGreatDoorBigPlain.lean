/- great numbers: plain laws of words -/
import Derived.Test.YtfhmcahfjoliiaaGreatDoorPk05
set_option maxRecDepth 20000
set_option maxHeartbeats 8000000
set_option linter.unusedSimpArgs false
set_option linter.unusedVariables false
namespace Go.Proofs.YtfhmcahfjoliiaaGreatDoor
open Go.RowKit

theorem val_take_succ {l:List Nat} {k:Nat} (hk:k < l.length):val (l.take (k+1))=val (l.take k)+4294967296^k*l.getD k 0:=by
  rw [List.take_add_one,List.getElem?_eq_getElem hk,val_append,List.length_take,Nat.min_eq_left (by omega),List.getD_eq_getElem?_getD,List.getElem?_eq_getElem hk];simp [val]
theorem take_set_lt {l:List Nat} {k d:Nat}:(l.set k d).take k=l.take k:=by
  rw [List.take_set_of_le (Nat.le_refl _)]
theorem val_set_succ {l:List Nat} {k d:Nat} (hk:k < l.length):val ((l.set k d).take (k+1))=val (l.take k)+4294967296^k*d:=by
  rw [val_take_succ (by rw [List.length_set];exact hk),take_set_lt,List.getD_eq_getElem?_getD,List.getElem?_set_self hk]
  rfl
theorem take_more {l:List Nat} {k:Nat} (hk:l.length≤k):val (l.take (k+1))=val (l.take k):=by
  rw [List.take_of_length_le (by omega),List.take_of_length_le hk]
theorem carry_step {P s:Nat}:P*(s%4294967296)+P*4294967296*(s / 4294967296)=P*s:=by
  rw [Nat.mul_assoc,← Nat.mul_add]
  congr 1;omega
/-- one word of a sum -/
theorem add_step {la lb rl:List Nat} {k c:Nat} (hk:k < la.length) (hr:k < rl.length) (h:val (rl.take k)+4294967296^k*c=val (la.take k)+val (lb.take k)) (s:Nat) (hs:s=c+la.getD k 0+(if k < lb.length then lb.getD k 0 else 0)):
    val ((rl.set k (s%4294967296)).take (k+1))+4294967296^(k+1)*(s / 4294967296)=val (la.take (k+1))+val (lb.take (k+1)):=by
  rw [val_set_succ hr,val_take_succ hk,Nat.pow_succ,Nat.add_assoc,carry_step]
  by_cases hb:k < lb.length
  · rw [if_pos hb] at hs
    rw [val_take_succ hb,hs,Nat.mul_add,Nat.mul_add];omega
  · rw [if_neg hb] at hs
    rw [take_more (by omega),hs,Nat.mul_add,Nat.mul_add,Nat.mul_zero];omega
theorem allW_set {l:List Nat} (h:allW l) (k:Nat) {d:Nat} (hd:d < 4294967296):allW (l.set k d):=by
  intro x hx;rcases List.mem_or_eq_of_mem_set hx with hx | hx
  · exact h x hx
  · rw [hx];exact hd
theorem allW_at {l:List Nat} (h:allW l) (k:Nat):l.getD k 0 < 4294967296:=by
  by_cases hk:k < l.length
  · rw [List.getD_eq_getElem?_getD,List.getElem?_eq_getElem hk];exact h _ (List.getElem_mem hk)
  · rw [List.getD_eq_getElem?_getD,List.getElem?_eq_none (by omega)];decide
theorem wcells_set (l:List Nat) (k d:Nat):wcells (l.set k d)=(wcells l).set k (U32 d):=by unfold wcells;rw [List.map_set]

theorem val_set:∀ {l:List Nat} {k:Nat} (d:Nat),k < l.length→val (l.set k d)+4294967296^k*l.getD k 0=val l+4294967296^k*d
  | [],k,d,h=>by simp at h
  | x::l,0,d,_=>by simp [val];omega
  | x::l,k+1,d,h=>by
    have ih:=val_set (l:=l) (k:=k) d (by simpa using h)
    have e:∀ y,4294967296^(k+1)*y=4294967296*(4294967296^k*y):=fun y=>by rw [Nat.pow_succ,Nat.mul_comm (4294967296^k) 4294967296,Nat.mul_assoc]
    simp only [List.set_cons_succ,val,List.getD_cons_succ,e]
    generalize 4294967296^k*l.getD k 0=p at *
    generalize 4294967296^k*d=q at *
    omega
theorem val_split (l:List Nat) (k:Nat) (hk:k≤l.length):val l=val (l.take k)+4294967296^k*val (l.drop k):=by
  have:=val_append (l.take k) (l.drop k);rw [List.take_append_drop,List.length_take,Nat.min_eq_left hk] at this;exact this
theorem val_zeros:∀ {l:List Nat},(∀ i,l.getD i 0=0)→val l=0
  | [],_=>rfl
  | d::l,h=>by
    have h0:=h 0
    have:=val_zeros (l:=l) (fun i=>by have:=h (i+1);simpa using this)
    (try simp only [List.getD_cons_zero] at h0)
    simp [val,h0,this]
theorem getD_drop' (l:List Nat) (k i:Nat):(l.drop k).getD i 0=l.getD (k+i) 0:=by
  rw [List.getD_eq_getElem?_getD,List.getElem?_drop,← List.getD_eq_getElem?_getD]
theorem val_high {l:List Nat} {k:Nat} (hz:∀ i,k≤i→l.getD i 0=0):val l=val (l.take k):=by
  by_cases hk:k≤l.length
  · rw [val_split l k hk,val_zeros (l:=l.drop k) (fun i=>by rw [getD_drop'];exact hz _ (by omega))];simp
  · rw [List.take_of_length_le (by omega)]
theorem getD_set_selfB {l:List Nat} {k:Nat} (hk:k < l.length) (d:Nat):(l.set k d).getD k 0=d:=by
  rw [List.getD_eq_getElem?_getD,List.getElem?_set_self hk];rfl
theorem getD_set_ne {l:List Nat} {k i:Nat} (h:k≠i) (d:Nat):(l.set k d).getD i 0=l.getD i 0:=by
  rw [List.getD_eq_getElem?_getD,List.getElem?_set_ne h,← List.getD_eq_getElem?_getD]
theorem set_same_id {l:List Nat} {k:Nat} (hk:k < l.length):l.set k (l.getD k 0)=l:=by
  apply List.ext_getElem
  · simp
  · intro i h1 h2
    rw [List.getElem_set]
    split
    · subst_vars;rw [List.getD_eq_getElem?_getD,List.getElem?_eq_getElem hk];rfl
    · rfl
theorem allW_replicate (n:Nat):allW (List.replicate n 0):=by intro d hd;rw [List.mem_replicate] at hd;omega
theorem val_replicate (n:Nat):val (List.replicate n 0)=0:=val_zeros fun i=>by
  rw [List.getD_eq_getElem?_getD,List.getElem?_replicate];split<;>rfl
theorem getD_replicate' (n i:Nat):(List.replicate n 0).getD i 0=0:=by
  rw [List.getD_eq_getElem?_getD,List.getElem?_replicate];split<;>rfl

/-! the greater number is the longer one, else the one with the greater word from above -/
theorem can_pos {l:List Nat} {n k:Nat} (h:Can l n) (hl:l.length=k+1):4294967296^k≤n:=by
  refine Decidable.byContradiction fun hc=>?_
  have:=can_len h (show n < 4294967296^k by omega);omega
theorem can_lt {l:List Nat} {n k:Nat} (h:Can l n) (hl:l.length≤k):n < 4294967296^k:=by
  have:=val_lt h.2.1;rw [h.1] at this;exact Nat.lt_of_lt_of_le this (Nat.pow_le_pow_right (by decide) hl)
theorem can_longer {l r:List Nat} {n m:Nat} (h:Can l n) (k:Can r m) (hlt:l.length < r.length):n < m:=by
  obtain ⟨p,hp⟩:∃ p,r.length=p+1:=⟨r.length-1,by omega⟩;exact Nat.lt_of_lt_of_le (can_lt h (show l.length≤p by omega)) (can_pos k hp)
/-- of two lists that are alike from word k + 1 on the one with the smaller word k is smaller -/
theorem val_less {l r:List Nat} {k:Nat} (hw:allW l) (hlen:l.length=r.length) (hk:k < l.length) (he:∀ i,k < i→l.getD i 0=r.getD i 0) (hlt:l.getD k 0 < r.getD k 0):val l < val r:=by
  rw [val_split l (k+1) (by omega),val_split r (k+1) (by omega)]
  have e:l.drop (k+1)=r.drop (k+1):=by
    apply List.ext_getElem
    · simp [hlen]
    · intro i h1 h2
      have:=he (k+1+i) (by omega);rw [List.length_drop] at h1 h2;rw [List.getD_eq_getElem?_getD,List.getD_eq_getElem?_getD,List.getElem?_eq_getElem (by omega),List.getElem?_eq_getElem (by omega)] at this;simpa using this
  rw [e,val_take_succ hk,val_take_succ (by omega)];have h1:val (l.take k) < 4294967296^k:=Nat.lt_of_lt_of_le (val_lt (allW_take hw k)) (Nat.pow_le_pow_right (by decide) (by rw [List.length_take];omega));have h2:4294967296^k*(l.getD k 0+1)≤4294967296^k*r.getD k 0:=Nat.mul_le_mul_left _ (by omega);rw [Nat.mul_add,Nat.mul_one] at h2;omega
theorem val_alike {l r:List Nat} (hlen:l.length=r.length) (he:∀ i,i < l.length→l.getD i 0=r.getD i 0):l=r:=by
  apply List.ext_getElem hlen;intro i h1 h2;have:=he i h1;rw [List.getD_eq_getElem?_getD,List.getD_eq_getElem?_getD,List.getElem?_eq_getElem h1,List.getElem?_eq_getElem h2] at this;simpa using this

/-! less -/
theorem sub_step {la lb rl:List Nat} {k c:Nat} (hk:k < la.length) (hr:k < rl.length) (h:val (rl.take k)+val (lb.take k)=val (la.take k)+4294967296^k*c)
    (y c' d:Nat) (hy:y=(if k < lb.length then lb.getD k 0 else 0)) (hd:d+y+c=la.getD k 0+4294967296*c'):
    val ((rl.set k d).take (k+1))+val (lb.take (k+1))=val (la.take (k+1))+4294967296^(k+1)*c':=by
  have hb:val (lb.take (k+1))=val (lb.take k)+4294967296^k*y:=by
    by_cases hb:k < lb.length
    · rw [val_take_succ hb,hy,if_pos hb]
    · rw [take_more (by omega),hy,if_neg hb];simp
  rw [val_set_succ hr,val_take_succ hk,hb,Nat.pow_succ];have e:=congrArg (4294967296^k*·) hd;simp only [Nat.mul_add,← Nat.mul_assoc] at e;omega

/-! times -/
/-- one word more of a row of the product: r holds what came so far, at + j is where we stand -/
theorem mul_step {rl lb:List Nat} {i j c x V:Nat} (hr:i+j < rl.length) (hj:j < lb.length) (h:val rl+4294967296^(i+j)*c=V+4294967296^i*(x*val (lb.take j)))
    (s:Nat) (hs:s=c+x*lb.getD j 0+rl.getD (i+j) 0):
    val (rl.set (i+j) (s%4294967296))+4294967296^(i+(j+1))*(s / 4294967296)=V+4294967296^i*(x*val (lb.take (j+1))):=by
  have h1:=val_set (l:=rl) (s%4294967296) hr;rw [val_take_succ hj,Nat.mul_add x,Nat.mul_add (4294967296^i),← Nat.add_assoc i j 1,Nat.pow_succ];have h2:=carry_step (P:=4294967296^(i+j)) (s:=s)
  have h3:4294967296^i*(x*(4294967296^j*lb.getD j 0))=4294967296^(i+j)*(x*lb.getD j 0):=by
    rw [Nat.pow_add,Nat.mul_assoc,Nat.mul_left_comm x]
  rw [hs,Nat.mul_add,Nat.mul_add] at h2;rw [hs] at h1 ⊢;rw [h3];omega
theorem mul_bound {c x y z:Nat} (hc:c < 4294967296) (hx:x < 4294967296) (hy:y < 4294967296) (hz:z < 4294967296):c+x*y+z < 18446744073709551616∧(c+x*y+z) / 4294967296 < 4294967296:=by
  have h1:x*y≤4294967295*4294967295:=Nat.mul_le_mul (by omega) (by omega);omega
/-- the row is done: its last word -/
theorem mul_row {rl lb:List Nat} {i c x V:Nat} (hr:i+lb.length < rl.length) (h0:rl.getD (i+lb.length) 0=0) (h:val rl+4294967296^(i+lb.length)*c=V+4294967296^i*(x*val lb)):
    val (rl.set (i+lb.length) c)=V+4294967296^i*(x*val lb):=by
  have h1:=val_set (l:=rl) c hr;rw [h0] at h1;omega

/-! by one word, from above -/
theorem small_step {la ql:List Nat} {k r d:Nat} (hk:k < la.length) (hq:k < ql.length) (h0:ql.getD k 0=0) (h:val ql*d+4294967296^(k+1)*r+val (la.take (k+1))=val la):
    val (ql.set k ((4294967296*r+la.getD k 0) / d))*d+4294967296^k*((4294967296*r+la.getD k 0)%d)+val (la.take k)=val la:=by
  have h1:=val_set (l:=ql) ((4294967296*r+la.getD k 0) / d) hq;rw [h0,Nat.mul_zero,Nat.add_zero] at h1;rw [h1,Nat.add_mul,← h,val_take_succ hk,Nat.pow_succ];have h2:=Nat.div_add_mod (4294967296*r+la.getD k 0) d;have h3:=congrArg (4294967296^k*·) h2;simp only [Nat.mul_add] at h3;rw [← Nat.mul_assoc (4294967296^k) 4294967296 r] at h3
  have h4:4294967296^k*((4294967296*r+la.getD k 0) / d)*d=4294967296^k*(d*((4294967296*r+la.getD k 0) / d)):=by
    rw [Nat.mul_assoc,Nat.mul_comm _ d]
  rw [h4];omega
theorem div_of {q d r n:Nat} (h:q*d+r=n) (hr:r < d):n / d=q∧n%d=r:=by
  subst h;have hd:0 < d:=by omega
  constructor
  · rw [Nat.mul_comm,Nat.mul_add_div hd,Nat.div_eq_of_lt hr,Nat.add_zero]
  · rw [Nat.mul_comm,Nat.mul_add_mod,Nat.mod_eq_of_lt hr]

/-! by a power of two, word by word from above -/
theorem kn_step {u q:List Nat} {n j g r U:Nat} (hn:1≤n) (hu:j+n < u.length) (hq:j < q.length) (hq0:q.getD j 0=0)
    (h:val u+2147483648*4294967296^(n-1)*val q=U) (hg:2147483648*g+r=4294967296*u.getD (j+n) 0+u.getD (j+n-1) 0):
    val ((u.set (j+n-1) r).set (j+n) 0)+2147483648*4294967296^(n-1)*val (q.set j g)=U:=by
  have h1:=val_set (l:=u) (k:=j+n-1) r (by omega);have h2:=val_set (l:=u.set (j+n-1) r) (k:=j+n) 0 (by rw [List.length_set];omega);have h3:=val_set (l:=q) (k:=j) g hq;rw [getD_set_ne (by omega),Nat.mul_zero,Nat.add_zero] at h2;rw [hq0,Nat.mul_zero,Nat.add_zero] at h3
  have e1:4294967296^(j+n)=4294967296^(j+n-1)*4294967296:=by
    rw [← Nat.pow_succ];congr 1;omega
  have e2:2147483648*4294967296^(n-1)*(4294967296^j*g)=4294967296^(j+n-1)*(2147483648*g):=by
    rw [show j+n-1=(n-1)+j by omega,Nat.pow_add];rw [Nat.mul_assoc,Nat.mul_left_comm,← Nat.mul_assoc (4294967296^(n-1)),Nat.mul_left_comm,Nat.mul_assoc];rw [Nat.mul_left_comm];exact (Nat.mul_assoc _ _ _).symm
  rw [h3,Nat.mul_add,e2];rw [e1] at h2;have h4:=congrArg (4294967296^(j+n-1)*·) hg;simp only [Nat.mul_add,← Nat.mul_assoc] at h4;simp only [← Nat.mul_assoc] at *;omega
end Go.Proofs.YtfhmcahfjoliiaaGreatDoor

namespace Gs
def gd (l:List Nat) (i:Nat):Nat:=l.getD i 0
theorem gd_lt {l:List Nat} {i:Nat} (h:i < l.length):gd l i = l[i]:=by unfold gd; rw [List.getD_eq_getElem?_getD,List.getElem?_eq_getElem h]; rfl
theorem gd_ge {l:List Nat} {i:Nat} (h:l.length ≤ i):gd l i = 0:=by unfold gd; rw [List.getD_eq_getElem?_getD,List.getElem?_eq_none h]; rfl
theorem gd_take {l:List Nat} {i n:Nat} (h:i < n):gd (l.take n) i = gd l i:=by unfold gd; simp [List.getD_eq_getElem?_getD,h]
theorem gd_drop (l:List Nat) (i n:Nat):gd (l.drop n) i = gd l (n + i):=by unfold gd; simp [List.getD_eq_getElem?_getD,List.getElem?_drop]
theorem gd_cons_succ (x:Nat) (l:List Nat) (i:Nat):gd (x :: l) (i + 1) = gd l i:=by unfold gd; rfl
theorem gd_set_self {l:List Nat} {i:Nat} (h:i < l.length) (x:Nat):gd (l.set i x) i = x:=by rw [gd_lt (by simpa using h)]; simp
theorem gd_set_ne {l:List Nat} {i j:Nat} (h:i ≠ j) (x:Nat):gd (l.set i x) j = gd l j:=by unfold gd; simp [List.getD_eq_getElem?_getD,List.getElem?_set_ne h]
def val (B:Nat):List Nat → Nat
 | []=>0
 | x :: xs=>x + B * val B xs
def Lt (B:Nat) (l:List Nat):Prop:=∀ x ∈ l,x < B
def Can (l:List Nat):Prop:=∀ x,l.getLast? = some x → x ≠ 0
def limbsF (B:Nat):Nat → Nat → List Nat
 | 0,_=>[]
 | f + 1,n=>if n = 0 then [] else n % B :: limbsF B f (n / B)
def limbs (B n:Nat):List Nat:=limbsF B n n
theorem Lt.nil (B:Nat):Lt B []:=by intro x h; cases h
theorem Lt.cons {B x:Nat} {l:List Nat} (h:x < B) (hl:Lt B l):Lt B (x :: l):=by
 intro y hy
 rcases List.mem_cons.1 hy with rfl | hy
 ·exact h
 ·exact hl y hy
theorem Lt.head {B x:Nat} {l:List Nat} (h:Lt B (x :: l)):x < B:=h x (by simp)
theorem Lt.tail {B x:Nat} {l:List Nat} (h:Lt B (x :: l)):Lt B l:=fun y hy=>h y (by simp [hy])
theorem Lt.append {B:Nat} {l m:List Nat} (h:Lt B l) (k:Lt B m):Lt B (l ++ m):=by
 intro y hy
 rcases List.mem_append.1 hy with hy | hy
 ·exact h y hy
 ·exact k y hy
theorem Lt.take {B:Nat} {l:List Nat} (h:Lt B l) (n:Nat):Lt B (l.take n):=fun y hy=>h y (List.mem_of_mem_take hy)
theorem Lt.drop {B:Nat} {l:List Nat} (h:Lt B l) (n:Nat):Lt B (l.drop n):=fun y hy=>h y (List.mem_of_mem_drop hy)
theorem Lt.gd {B:Nat} {l:List Nat} (hB:0 < B) (h:Lt B l) (i:Nat):gd l i < B:=by
 rcases Nat.lt_or_ge i l.length with hi | hi
 ·rw [gd_lt hi]; exact h _ (List.getElem_mem hi)
 ·rw [gd_ge hi]; exact hB
theorem Lt.set {B:Nat} {l:List Nat} (h:Lt B l) (i:Nat) {x:Nat} (hx:x < B):Lt B (l.set i x):=by
 intro y hy
 rcases List.mem_or_eq_of_mem_set hy with hy | rfl
 ·exact h y hy
 ·exact hx
theorem Lt.replicate {B:Nat} (hB:0 < B) (n:Nat):Lt B (List.replicate n 0):=by
 intro y hy
 have:=List.eq_of_mem_replicate hy
 omega
theorem val_nil (B:Nat):val B [] = 0:=rfl
theorem val_cons (B x:Nat) (l:List Nat):val B (x :: l) = x + B * val B l:=rfl
theorem val_append (B:Nat) (l m:List Nat):val B (l ++ m) = val B l + B ^ l.length * val B m:=by
 induction l with
 | nil=>simp [val]
 | cons x l ih=>simp only [List.cons_append,val,ih,List.length_cons,Nat.pow_succ]; grind
theorem val_snoc (B:Nat) (l:List Nat) (x:Nat):val B (l ++ [x]) = val B l + B ^ l.length * x:=by rw [val_append]; simp [val]
theorem val_lt {B:Nat} {l:List Nat} (h:Lt B l):val B l < B ^ l.length:=by
 induction l with
 | nil=>simp [val]
 | cons x l ih =>
  have h1:=h.head
  have h2:=ih h.tail
  simp only [val,List.length_cons,Nat.pow_succ]
  have:B * (val B l + 1) ≤ B * B ^ l.length:=Nat.mul_le_mul_left _ h2
  grind
theorem val_replicate (B n:Nat):val B (List.replicate n 0) = 0:=by
 induction n with
 | zero=>rfl
 | succ n ih=>simp [List.replicate_succ,val,ih]
theorem val_take_drop (B:Nat) (l:List Nat) (n:Nat) (h:n ≤ l.length):val B l = val B (l.take n) + B ^ n * val B (l.drop n):=by
 have:=val_append B (l.take n) (l.drop n)
 rw [List.take_append_drop,List.length_take,Nat.min_eq_left h] at this
 exact this
theorem val_take_succ (B:Nat) (l:List Nat) (n:Nat):val B (l.take (n + 1)) = val B (l.take n) + B ^ n * gd l n:=by
 rcases Nat.lt_or_ge n l.length with h | h
 ·rw [List.take_succ_eq_append_getElem h,val_snoc,List.length_take,Nat.min_eq_left (Nat.le_of_lt h),gd_lt h]
 ·rw [List.take_of_length_le (by omega),List.take_of_length_le h,gd_ge h]; simp
theorem val_take_all (B:Nat) (l:List Nat) (n:Nat) (h:l.length ≤ n):val B (l.take n) = val B l:=by rw [List.take_of_length_le h]
theorem val_drop (B:Nat) (l:List Nat) (n:Nat):val B (l.drop n) = gd l n + B * val B (l.drop (n + 1)):=by
 rcases Nat.lt_or_ge n l.length with h | h
 ·rw [List.drop_eq_getElem_cons h,val,gd_lt h]
 ·rw [List.drop_of_length_le h,List.drop_of_length_le (by omega),gd_ge h]; simp [val]
theorem val_set (B:Nat) (l:List Nat) (i x:Nat) (h:i < l.length):val B (l.set i x) + B ^ i * gd l i = val B l + B ^ i * x:=by
 induction l generalizing i with
 | nil=>simp at h
 | cons y l ih =>
  cases i with
  | zero=>rw [gd_lt h]; simp [val]; omega
  | succ i =>
   have:=ih i (by simpa using h)
   rw [gd_cons_succ]
   simp only [List.set_cons_succ,val,Nat.pow_succ]
   grind
theorem limbsF_val {B:Nat} (hB:2 ≤ B):∀ f n,n ≤ f → val B (limbsF B f n) = n:=by
 intro f
 induction f with
 | zero=>intro n h; simp [limbsF,val]; omega
 | succ f ih =>
  intro n h
  unfold limbsF
  split
  ·simp [val]; omega
  ·rename_i hn
   have:n / B < n:=Nat.div_lt_self (by omega) hB
   rw [val,ih _ (by omega),Nat.mod_add_div]
theorem val_limbs {B:Nat} (hB:2 ≤ B) (n:Nat):val B (limbs B n) = n:=limbsF_val hB n n (Nat.le_refl _)
theorem limbsF_lt {B:Nat} (hB:2 ≤ B):∀ f n,Lt B (limbsF B f n):=by
 intro f
 induction f with
 | zero=>intro n; exact Lt.nil B
 | succ f ih =>
  intro n
  unfold limbsF
  split
  ·exact Lt.nil B
  ·exact Lt.cons (Nat.mod_lt _ (by omega)) (ih _)
theorem limbs_lt {B:Nat} (hB:2 ≤ B) (n:Nat):Lt B (limbs B n):=limbsF_lt hB n n
theorem Can.nil:Can []:=by intro x h; simp at h
theorem Can.tail {x:Nat} {l:List Nat} (h:Can (x :: l)):Can l:=by
 intro y hy
 refine h y ?_
 rw [List.getLast?_cons,hy]; rfl
theorem limbsF_can {B:Nat} (hB:2 ≤ B):∀ f n,n ≤ f → Can (limbsF B f n):=by
 intro f
 induction f with
 | zero=>intro n _; exact Can.nil
 | succ f ih =>
  intro n h
  unfold limbsF
  split
  ·exact Can.nil
  ·rename_i hn
   have hlt:n / B < n:=Nat.div_lt_self (by omega) hB
   intro y hy
   rw [List.getLast?_cons] at hy
   cases hl:(limbsF B f (n / B)).getLast? with
   | some z =>
    rw [hl] at hy
    simp at hy
    subst hy
    exact ih _ (by omega) z hl
   | none =>
    rw [hl] at hy
    simp at hy
    subst hy
    have h0:limbsF B f (n / B) = []:=List.getLast?_eq_none_iff.1 hl
    have h1:=limbsF_val hB f (n / B) (by omega)
    rw [h0,val] at h1
    have h2:=Nat.mod_add_div n B
    rw [← h1] at h2
    omega
theorem limbs_can {B:Nat} (hB:2 ≤ B) (n:Nat):Can (limbs B n):=limbsF_can hB n n (Nat.le_refl _)
theorem val_pos {B:Nat} (hB:2 ≤ B) {l:List Nat} (h:Can l) (hl:l ≠ []):0 < val B l:=by
 induction l with
 | nil=>exact absurd rfl hl
 | cons x l ih =>
  rw [val]
  cases l with
  | nil=>have:=h x (by simp); simp [val]; omega
  | cons y m =>
   have:=ih h.tail (by simp)
   have:0 < B * val B (y :: m):=Nat.mul_pos (by omega) this
   omega
theorem val_inj {B:Nat} (hB:2 ≤ B):∀ {l m:List Nat},Lt B l → Lt B m → Can l → Can m → val B l = val B m → l = m
 | [],[],_,_,_,_,_=>rfl
 | [],y :: m,_,_,_,hm,h=>by have:=val_pos hB hm (by simp); rw [val_nil] at h; omega
 | x :: l,[],_,_,hl,_,h=>by have:=val_pos hB hl (by simp); rw [val_nil] at h; omega
 | x :: l,y :: m,h1,h2,h3,h4,h=>by
  rw [val_cons,val_cons] at h
  have a:=h1.head
  have b:=h2.head
  have e1:x = y:=by
   have:=congrArg (· % B) h
   simp only [Nat.add_mul_mod_self_left] at this
   rwa [Nat.mod_eq_of_lt a,Nat.mod_eq_of_lt b] at this
  subst e1
  have e2:val B l = val B m:=Nat.eq_of_mul_eq_mul_left (by omega:0 < B) (Nat.add_left_cancel h)
  rw [val_inj hB h1.tail h2.tail h3.tail h4.tail e2]
theorem limbs_val {B:Nat} (hB:2 ≤ B) {l:List Nat} (h:Lt B l) (hc:Can l):limbs B (val B l) = l :=
 val_inj hB (limbs_lt hB _) h (limbs_can hB _) hc (val_limbs hB _)
theorem limbs_eq {B:Nat} (hB:2 ≤ B) {l:List Nat} {n:Nat} (h:Lt B l) (hc:Can l) (e:val B l = n):limbs B n = l:=by rw [← e]; exact limbs_val hB h hc
theorem limbs_inj {B:Nat} (hB:2 ≤ B) {m n:Nat} (h:limbs B m = limbs B n):m = n:=by rw [← val_limbs hB m,h,val_limbs hB n]
theorem limbs_zero (B:Nat):limbs B 0 = []:=rfl
theorem limbs_nil_iff {B:Nat} (hB:2 ≤ B) (n:Nat):limbs B n = [] ↔ n = 0:=by
 constructor
 ·intro h; have:=val_limbs hB n; rw [h] at this; exact this.symm
 ·rintro rfl; rfl
theorem limbs_len_zero {B:Nat} (hB:2 ≤ B) (n:Nat):(limbs B n).length = 0 ↔ n = 0:=by rw [List.length_eq_zero_iff,limbs_nil_iff hB]
theorem val_ge {B:Nat} (hB:2 ≤ B) {l:List Nat} (h:Can l) (hl:l ≠ []):B ^ (l.length - 1) ≤ val B l:=by
 induction l with
 | nil=>exact absurd rfl hl
 | cons x l ih =>
  cases l with
  | nil=>have:=val_pos hB h (by simp); simp only [List.length_cons,List.length_nil,Nat.zero_add,Nat.sub_self,Nat.pow_zero]; omega
  | cons y m =>
   have:=ih h.tail (by simp)
   rw [val]
   simp only [List.length_cons,Nat.add_sub_cancel] at this ⊢
   rw [Nat.pow_succ,Nat.mul_comm]
   exact Nat.le_trans (Nat.mul_le_mul_left B this) (Nat.le_add_left _ _)
theorem limbs_len_le {B:Nat} (hB:2 ≤ B) {n k:Nat} (h:n < B ^ k):(limbs B n).length ≤ k:=by
 rcases Nat.lt_or_ge k (limbs B n).length with hk | hk
 ·exfalso
  have hne:limbs B n ≠ []:=by intro e; rw [e] at hk; simp at hk
  have h1:=val_ge hB (limbs_can hB n) hne
  rw [val_limbs hB] at h1
  have h2:B ^ k ≤ B ^ ((limbs B n).length - 1):=Nat.pow_le_pow_right (by omega) (by omega)
  omega
 ·exact hk
theorem lt_of_limbs_len {B:Nat} (hB:2 ≤ B) {n k:Nat} (h:(limbs B n).length ≤ k):n < B ^ k:=by
 have h1:=val_lt (limbs_lt hB n)
 rw [val_limbs hB] at h1
 exact Nat.lt_of_lt_of_le h1 (Nat.pow_le_pow_right (by omega) h)
theorem limbs_len_mono {B:Nat} (hB:2 ≤ B) {m n:Nat} (h:m ≤ n):(limbs B m).length ≤ (limbs B n).length :=
 limbs_len_le hB (Nat.lt_of_le_of_lt h (lt_of_limbs_len hB (Nat.le_refl _)))
theorem lt_of_len_lt {B:Nat} (hB:2 ≤ B) {l m:List Nat} (hl:Lt B l) (hm:Can m) (h:l.length < m.length):val B l < val B m:=by
 have h1:=val_lt hl
 have h2:=val_ge hB hm (by intro e; rw [e] at h; simp at h)
 have h3:B ^ l.length ≤ B ^ (m.length - 1):=Nat.pow_le_pow_right (by omega) (by omega)
 omega
theorem take_getLast {l:List Nat} {n:Nat} (h:gd l n = 0) (B:Nat):val B (l.take n) = val B (l.take (n + 1)):=by rw [val_take_succ,h]; simp
theorem can_take {l:List Nat} {q:Nat} (hq:q < l.length) (h:gd l q ≠ 0):Can (l.take (q + 1)):=by
 rw [List.take_succ_eq_append_getElem hq]
 intro x hx
 rw [List.getLast?_concat] at hx
 injection hx with hx
 rw [← hx,← gd_lt hq]
 exact h
theorem can_iff {l:List Nat} {q:Nat} (hq:l.length = q + 1):Can l ↔ gd l q ≠ 0:=by
 constructor
 ·intro h e
  refine h (gd l q) ?_ e
  rw [List.getLast?_eq_getElem?,show l.length - 1 = q by omega,List.getElem?_eq_getElem (by omega),gd_lt (by omega)]
 ·intro h
  have:=can_take (l:=l) (q:=q) (by omega) h
  rwa [List.take_of_length_le (by omega)] at this
theorem val_split (B:Nat) (l:List Nat) (q:Nat) (h:q ≤ l.length):val B l = val B (l.take q) + B ^ q * (gd l q + B * val B (l.drop (q + 1))):=by
 rw [val_take_drop B l q h,val_drop B l q]
theorem val_lt_at {B:Nat} {L M:List Nat} {q:Nat} (hL:Lt B L) (hq:q < L.length) (hq':q < M.length) (hd:L.drop (q + 1) = M.drop (q + 1)) (h:gd L q < gd M q):val B L < val B M:=by
 rw [val_split B L q (by omega),val_split B M q (by omega),hd]
 have h1:=val_lt (hL.take q)
 rw [List.length_take,Nat.min_eq_left (by omega)] at h1
 generalize B * val B (M.drop (q + 1)) = D
 have h2:B ^ q * (gd L q + D + 1) ≤ B ^ q * (gd M q + D):=Nat.mul_le_mul_left _ (by omega)
 rw [Nat.mul_add,Nat.mul_one] at h2
 omega
theorem drop_ext {L M:List Nat} {q N:Nat} (hL:L.length = N) (hM:M.length = N) (h:∀ j,q ≤ j → j < N → gd L j = gd M j):L.drop q = M.drop q:=by
 apply List.ext_getElem
 ·simp [hL,hM]
 ·intro i h1 h2
  rw [List.length_drop] at h1 h2
  have:=h (q + i) (by omega) (by omega)
  rw [gd_lt (by omega),gd_lt (by omega)] at this
  simpa using this
theorem B64:2 ≤ 18446744073709551616:=by omega
theorem B32:2 ≤ 4294967296:=by omega
end Gs

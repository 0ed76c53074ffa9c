import Derived.Test.YtcpgflbfjplheaaGreatDoorMdy
namespace Gs
open Go
theorem blen_join {a x k:Nat} (ha:a < 2 ^ k) (hx:x ≠ 0):blen (a + 2 ^ k * x) = k + blen x:=by
 have h1:=lt_blen x
 have h2:=blen_le hx
 have h3:=blen_pos hx
 obtain ⟨m,hm⟩:∃ m,blen x = m + 1:=⟨blen x - 1,by omega⟩
 rw [hm] at h1 h2 ⊢
 rw [Nat.add_sub_cancel] at h2
 rw [← Nat.add_assoc]
 apply blen_unique
 ·rw [Nat.pow_add]
  have:=Nat.mul_le_mul_left (2 ^ k) h2
  omega
 ·rw [show k + m + 1 = k + (m + 1) by omega,Nat.pow_add]
  have h4:2 ^ k * (x + 1) ≤ 2 ^ k * 2 ^ (m + 1):=Nat.mul_le_mul_left _ h1
  rw [Nat.mul_add,Nat.mul_one] at h4
  omega
theorem blen_val {L:List Nat} (hL:Lt 18446744073709551616 L) {n:Nat} (hn:L.length = n + 1) (h0:gd L n ≠ 0):blen (val 18446744073709551616 L) = 64 * n + blen (gd L n):=by
 have h1:=val_split 18446744073709551616 L n (by omega)
 rw [List.drop_of_length_le (by omega),val_nil,Nat.mul_zero,Nat.add_zero] at h1
 have h2:=val_lt (hL.take n)
 rw [List.length_take,show min n L.length = n by omega] at h2
 have e:18446744073709551616 ^ n = 2 ^ (64 * n):=by rw [Nat.pow_mul]
 rw [e] at h1 h2
 rw [h1]
 exact blen_join h2 h0
structure GuessPre (B a b c y z U V Q K:Nat):Prop where
 U1:U < (a * B * B + b * B + c + 1) * K
 V1:(y * B + z) * K ≤ V
 q:Q * V ≤ U
 K0:0 < K
 c1:c < B
variable {B a b c y z U V Q K:Nat}
theorem GuessPre.two (h:GuessPre B a b c y z U V Q K):Q * y ≤ a * B + b:=by
 have h1:=h.U1
 have h2:=h.V1
 have h3:=h.q
 have h4:Q * ((y * B + z) * K) ≤ Q * V:=Nat.mul_le_mul_left _ h2
 have h5:Q * (y * B + z) * K < (a * B * B + b * B + c + 1) * K:=by
  rw [Nat.mul_assoc]; omega
 have h6:=Nat.lt_of_mul_lt_mul_right h5
 have h7:Q * y * B < (a * B + b + 1) * B:=by
  have e1:Q * (y * B + z) = Q * y * B + Q * z:=by grind
  have e2:(a * B + b + 1) * B = a * B * B + b * B + B:=by grind
  have:=h.c1
  omega
 have:=Nat.lt_of_mul_lt_mul_right h7
 omega
theorem GuessPre.three (h:GuessPre B a b c y z U V Q K):Q * y * B + Q * z ≤ a * B * B + b * B + c:=by
 have h1:=h.U1
 have h2:=h.V1
 have h3:=h.q
 have h4:Q * ((y * B + z) * K) ≤ Q * V:=Nat.mul_le_mul_left _ h2
 have h5:Q * (y * B + z) * K < (a * B * B + b * B + c + 1) * K:=by
  rw [Nat.mul_assoc]; omega
 have h6:=Nat.lt_of_mul_lt_mul_right h5
 have e1:Q * (y * B + z) = Q * y * B + Q * z:=by grind
 omega
structure GuessInv (B a b y Q q r:Nat):Prop where
 eq:a * B + b = q * y + r
 ge:Q ≤ q
 q1:q < B
 r1:r < B
variable {q r:Nat}
theorem GuessPre.start (h:GuessPre B a b c y z U V Q K) (hy:a < y) (hyB:y ≤ B) (hb:b < B):GuessInv B a b y Q ((a * B + b) / y) ((a * B + b) % y):=by
 have hy0:0 < y:=by omega
 refine ⟨(Nat.div_add_mod' _ _).symm,?_,?_,Nat.lt_of_lt_of_le (Nat.mod_lt _ hy0) hyB⟩
 ·rw [Nat.le_div_iff_mul_le hy0]; exact h.two
 ·rw [Nat.div_lt_iff_lt_mul hy0]
  have:(a + 1) * B ≤ y * B:=Nat.mul_le_mul_right _ hy
  rw [Nat.add_mul,Nat.one_mul] at this
  rw [Nat.mul_comm B]
  omega
theorem GuessInv.less (hp:GuessPre B a b c y z U V Q K) (h:GuessInv B a b y Q q r) (ht:r * B + c < q * z):Q < q:=by
 have h1:=hp.three
 have h2:=h.eq
 have h3:=h.ge
 rcases Nat.lt_or_ge Q q with h4 | h4
 ·exact h4
 ·have:Q = q:=by omega
  subst this
  have e1:(a * B + b) * B = (Q * y + r) * B:=by rw [h2]
  rw [Nat.add_mul,Nat.add_mul] at e1
  omega
theorem GuessInv.step (h:GuessInv B a b y Q q r) (hq:Q < q) (hr:r + y < B):GuessInv B a b y Q (q - 1) (r + y):=by
 obtain ⟨p,rfl⟩:∃ p,q = p + 1:=⟨q - 1,by omega⟩
 have h1:=h.eq
 have h2:=h.q1
 rw [Nat.add_mul] at h1
 exact ⟨by rw [Nat.add_sub_cancel]; omega,by omega,by omega,hr⟩
theorem guess_test {q z r c:Nat} (hc:c < 18446744073709551616) :
 q * z ≤ r * 18446744073709551616 + c ↔ q * z / 18446744073709551616 < r ∨ (q * z / 18446744073709551616 = r ∧ q * z % 18446744073709551616 ≤ c):=by
 generalize q * z = x
 omega
def guessL (y z c:Nat):Nat → Nat → Nat → Nat
 | 0,q,_=>q
 | f + 1,q,r=>if q * z ≤ r * 18446744073709551616 + c then q else if r + y < 18446744073709551616 then guessL y z c f (q - 1) (r + y) else q - 1
theorem guessL_stop {y z c f q r:Nat} (h:q * z ≤ r * 18446744073709551616 + c):guessL y z c f q r = q:=by
 cases f with
 | zero=>rfl
 | succ f=>rw [guessL,if_pos h]
theorem guessL_on {y z c f q r:Nat} (h:¬ q * z ≤ r * 18446744073709551616 + c) (hf:18446744073709551616 - r ≤ f) (hr:r < 18446744073709551616) (hy:r + y < 18446744073709551616) (hy0:0 < y) :
 ∃ f',guessL y z c f q r = guessL y z c f' (q - 1) (r + y) ∧ 18446744073709551616 - (r + y) ≤ f':=by
 obtain ⟨f',rfl⟩:∃ f',f = f' + 1:=⟨f - 1,by omega⟩
 exact ⟨f',by rw [guessL,if_neg h,if_pos hy],by omega⟩
theorem guessL_off {y z c f q r:Nat} (h:¬ q * z ≤ r * 18446744073709551616 + c) (hf:18446744073709551616 - r ≤ f) (hr:r < 18446744073709551616) (hy:¬ r + y < 18446744073709551616) :
 guessL y z c f q r = q - 1:=by
 obtain ⟨f',rfl⟩:∃ f',f = f' + 1:=⟨f - 1,by omega⟩
 rw [guessL,if_neg h,if_neg hy]
def guessF (U V:List Nat) (k:Nat):Nat :=
 if gd U (k + 2) < gd V (k + 1) then guessL (gd V (k + 1)) (gd V k) (gd U k) 18446744073709551616 ((gd U (k + 2) * 18446744073709551616 + gd U (k + 1)) / gd V (k + 1)) ((gd U (k + 2) * 18446744073709551616 + gd U (k + 1)) % gd V (k + 1)) else 18446744073709551615
theorem val_top3 {B:Nat} {U:List Nat} {k:Nat} (h:U.length = k + 3):val B U = val B (U.take k) + B ^ k * (gd U k + B * gd U (k + 1) + B * B * gd U (k + 2)):=by
 rw [← val_take_all B U (k + 3) (by omega),val_take_succ,val_take_succ,val_take_succ,Nat.pow_succ,Nat.pow_succ]
 grind
theorem val_top2 {B:Nat} {U:List Nat} {k:Nat} (h:U.length = k + 2):val B U = val B (U.take k) + B ^ k * (gd U k + B * gd U (k + 1)):=by
 rw [← val_take_all B U (k + 2) (by omega),val_take_succ,val_take_succ,Nat.pow_succ]
 grind
theorem guess_pre {U V:List Nat} {k:Nat} (hU:Lt 18446744073709551616 U) (lU:U.length = k + 3) (lV:V.length = k + 2) :
 GuessPre 18446744073709551616 (gd U (k + 2)) (gd U (k + 1)) (gd U k) (gd V (k + 1)) (gd V k) (val 18446744073709551616 U) (val 18446744073709551616 V) (val 18446744073709551616 U / val 18446744073709551616 V) (18446744073709551616 ^ k):=by
 have h1:=val_lt (hU.take k)
 rw [List.length_take,Nat.min_eq_left (by omega)] at h1
 have h2:=val_top3 (B:=18446744073709551616) lU
 have h3:=val_top2 (B:=18446744073709551616) lV
 refine ⟨?_,?_,Nat.div_mul_le_self _ _,Nat.pow_pos (by omega),hU.gd (by omega) k⟩
 ·generalize 18446744073709551616 ^ k = K at *
  rw [h2]
  have:(gd U (k + 2) * 18446744073709551616 * 18446744073709551616 + gd U (k + 1) * 18446744073709551616 + gd U k + 1) * K = K + K * (gd U k + 18446744073709551616 * gd U (k + 1) + 18446744073709551616 * 18446744073709551616 * gd U (k + 2)):=by grind
  omega
 ·generalize 18446744073709551616 ^ k = K at *
  rw [h3]
  have:(gd V (k + 1) * 18446744073709551616 + gd V k) * K = K * (gd V k + 18446744073709551616 * gd V (k + 1)):=by grind
  omega
theorem guessL_spec {a b c y z U V Q K:Nat} (hp:GuessPre 18446744073709551616 a b c y z U V Q K) (hy:0 < y):∀ (f q r:Nat),GuessInv 18446744073709551616 a b y Q q r → 18446744073709551616 - r ≤ f → Q ≤ guessL y z c f q r ∧ guessL y z c f q r < 18446744073709551616:=by
 intro f
 induction f with
 | zero=>intro q r h hf; exact absurd h.r1 (by omega)
 | succ f ih =>
  intro q r h hf
  rw [guessL]
  split
  ·exact ⟨h.ge,h.q1⟩
  ·rename_i ht
   have h1:=h.less hp (by omega)
   have h2:=h.q1
   split
   ·rename_i hr
    exact ih _ _ (h.step h1 hr) (by omega)
   ·exact ⟨by omega,by omega⟩
theorem guessF_spec {U V:List Nat} {k:Nat} (hU:Lt 18446744073709551616 U) (hV:Lt 18446744073709551616 V) (lU:U.length = k + 3) (lV:V.length = k + 2) :
 (val 18446744073709551616 U < 18446744073709551616 * val 18446744073709551616 V → val 18446744073709551616 U / val 18446744073709551616 V ≤ guessF U V k) ∧ guessF U V k < 18446744073709551616:=by
 have hp:=guess_pre (V:=V) hU lU lV
 unfold guessF
 split
 ·rename_i hay
  have hs:=hp.start hay (Nat.le_of_lt (hV.gd (by omega) (k + 1))) (hU.gd (by omega) (k + 1))
  obtain ⟨F,hF⟩:∃ F,F = 18446744073709551616:=⟨_,rfl⟩
  have h1:=guessL_spec hp (by omega) F _ _ hs (by omega)
  rw [hF] at h1
  exact ⟨fun _=>h1.1,h1.2⟩
 ·refine ⟨fun h=>?_,by omega⟩
  have:val 18446744073709551616 U / val 18446744073709551616 V < 18446744073709551616:=Nat.div_lt_of_lt_mul (by rw [Nat.mul_comm]; exact h)
  omega
structure SmallInv (l:List Nat) (b k:Nat) (o:List Nat) (r:Nat):Prop where
 r1:r < b
 eq:val 18446744073709551616 (o.drop (l.length - k)) * b + r = val 18446744073709551616 (l.drop (l.length - k))
theorem SmallInv.start (l o:List Nat) (b:Nat) (hb:0 < b) (ho:o.length = l.length):SmallInv l b 0 o 0:=⟨hb,by rw [Nat.sub_zero,List.drop_of_length_le (by omega),List.drop_of_length_le (by omega)]; simp [val]⟩
theorem SmallInv.step {l o:List Nat} {b k r:Nat} (h:SmallInv l b k o r) (ho:o.length = l.length) (hk:k < l.length) {i:Nat} (hi:i = l.length - 1 - k) :
 SmallInv l b (k + 1) (o.set i ((r * 18446744073709551616 + gd l i) / b)) ((r * 18446744073709551616 + gd l i) % b):=by
 have hb:0 < b:=Nat.lt_of_le_of_lt (Nat.zero_le _) h.r1
 refine ⟨Nat.mod_lt _ hb,?_⟩
 have h1:=h.eq
 have e1:l.length - k = i + 1:=by omega
 have e2:l.length - (k + 1) = i:=by omega
 rw [e1] at h1
 rw [e2,val_drop _ l i,val_drop _ (o.set i _) i,gd_set_self (by omega),List.drop_set_of_lt (by omega),← h1]
 have h2:=Nat.div_add_mod' (r * 18446744073709551616 + gd l i) b
 generalize (r * 18446744073709551616 + gd l i) / b = q at *
 generalize (r * 18446744073709551616 + gd l i) % b = t at *
 generalize val 18446744073709551616 (o.drop (i + 1)) = v at *
 grind
theorem SmallInv.last {l o:List Nat} {b r:Nat} (h:SmallInv l b l.length o r):val 18446744073709551616 o = val 18446744073709551616 l / b ∧ r = val 18446744073709551616 l % b:=by
 have h1:=h.eq
 have hb:=h.r1
 rw [Nat.sub_self,List.drop_zero,List.drop_zero] at h1
 rw [← h1]
 generalize val 18446744073709551616 o = v
 constructor
 ·rw [Nat.mul_comm,Nat.mul_add_div (by omega),Nat.div_eq_of_lt hb,Nat.add_zero]
 ·rw [Nat.mul_comm,Nat.mul_add_mod,Nat.mod_eq_of_lt hb]
structure LessInv (u v:List Nat) (q i c:Nat) (o:List Nat):Prop where
 len:o.length = u.length
 lt:Lt 18446744073709551616 o
 c1:c < 18446744073709551616
 same:∀ j,i ≤ j → gd o j = gd u j
 eq:val 18446744073709551616 (u.take i) + 18446744073709551616 ^ i * c = val 18446744073709551616 (o.take i) + q * val 18446744073709551616 (v.take i)
theorem LessInv.start (u v:List Nat) (q:Nat) (hu:Lt 18446744073709551616 u):LessInv u v q 0 0 u:=⟨rfl,hu,by omega,fun _ _=>rfl,by simp [val]⟩
theorem val_take_set_lt {B:Nat} {o:List Nat} {i x:Nat} (hi:i < o.length):val B ((o.set i x).take (i + 1)) = val B (o.take i) + B ^ i * x:=by
 rw [val_take_succ,gd_set_self hi,List.take_set_of_le (Nat.le_refl _)]
theorem less_step {q v c u p1 p2 d l h:Nat} (hq:q < 18446744073709551616) (hv:v < 18446744073709551616) (hc:c < 18446744073709551616) (hu:u < 18446744073709551616)
 (e1:p1 = q * v / 18446744073709551616) (e2:p2 = q * v % 18446744073709551616) (e3:d = (p2 + c) / 18446744073709551616) (e4:l = (p2 + c) % 18446744073709551616) (e5:h = if u < l then 1 else 0) :
 p1 + d < 18446744073709551616 ∧ p1 + d + h < 18446744073709551616 ∧ u + 18446744073709551616 * (p1 + d + h) = (u + 18446744073709551616 - l) % 18446744073709551616 + (q * v + c):=by
 have h1:q * v ≤ 18446744073709551615 * 18446744073709551615:=Nat.mul_le_mul (by omega) (by omega)
 subst e5
 generalize q * v = x at *
 split <;> omega
theorem LessInv.step {u v o:List Nat} {q i c:Nat} (h:LessInv u v q i c o) (hi:i < u.length) {x c':Nat}
 (hx:x < 18446744073709551616) (hc:c' < 18446744073709551616) (e:gd o i + 18446744073709551616 * c' = x + (q * gd v i + c)):LessInv u v q (i + 1) c' (o.set i x):=by
 have h2:=h.same i (Nat.le_refl _)
 have h3:=h.eq
 refine ⟨by rw [List.length_set]; exact h.len,h.lt.set _ hx,hc,fun j hj=>by rw [gd_set_ne (by omega)]; exact h.same j (by omega),?_⟩
 rw [val_take_set_lt (by rw [h.len]; exact hi),val_take_succ,val_take_succ,← h2,Nat.pow_succ]
 generalize 18446744073709551616 ^ i = K at *
 have e2:K * (gd o i + 18446744073709551616 * c') = K * (x + (q * gd v i + c)):=by rw [e]
 grind
structure BackInv (u v:List Nat) (i c:Nat) (o:List Nat):Prop where
 len:o.length = u.length
 lt:Lt 18446744073709551616 o
 c1:c ≤ 1
 same:∀ j,i ≤ j → gd o j = gd u j
 eq:val 18446744073709551616 (o.take i) + 18446744073709551616 ^ i * c = val 18446744073709551616 (u.take i) + val 18446744073709551616 (v.take i)
theorem BackInv.start (u v:List Nat) (hu:Lt 18446744073709551616 u):BackInv u v 0 0 u:=⟨rfl,hu,by omega,fun _ _=>rfl,by simp [val]⟩
theorem BackInv.step {u v o:List Nat} {i c:Nat} (h:BackInv u v i c o) (hi:i < u.length) (hv:Lt 18446744073709551616 v) :
 BackInv u v (i + 1) ((gd o i + gd v i + c) / 18446744073709551616) (o.set i ((gd o i + gd v i + c) % 18446744073709551616)):=by
 have h2:=h.same i (Nat.le_refl _)
 have h3:=h.eq
 have h4:=h.c1
 have h5:=h.lt.gd (by omega) i
 have h6:=hv.gd (by omega) i
 have h7:=Nat.mod_add_div (gd o i + gd v i + c) 18446744073709551616
 refine ⟨by rw [List.length_set]; exact h.len,h.lt.set _ (Nat.mod_lt _ (by omega)),by omega,fun j hj=>by rw [gd_set_ne (by omega)]; exact h.same j (by omega),?_⟩
 rw [val_take_set_lt (by rw [h.len]; exact hi),val_take_succ,val_take_succ,← h2,Nat.pow_succ]
 generalize (gd o i + gd v i + c) % 18446744073709551616 = r at *
 generalize (gd o i + gd v i + c) / 18446744073709551616 = s at *
 generalize 18446744073709551616 ^ i = K at *
 have e2:K * (r + 18446744073709551616 * s) = K * (gd o i + gd v i + c):=by rw [h7]
 grind
structure PartTo (o O:List Nat) (i n:Nat):Prop where
 len:O.length = o.length
 lt:Lt 18446744073709551616 O
 pre:O.take i = o.take i
 post:O.drop (i + n) = o.drop (i + n)
theorem list_ext_gd {l m:List Nat} (hl:l.length = m.length) (h:∀ j,gd l j = gd m j):l = m:=by
 apply List.ext_getElem hl
 intro j h1 h2
 have:=h j
 rwa [gd_lt h1,gd_lt h2] at this
theorem PartTo.of {o O:List Nat} {i n:Nat} (hl:O.length = o.length) (ht:Lt 18446744073709551616 O) (h:∀ j,(j < i ∨ i + n ≤ j) → gd O j = gd o j):PartTo o O i n:=by
 refine ⟨hl,ht,?_,?_⟩
 ·apply list_ext_gd (by simp [hl])
  intro j
  by_cases hj:j < i
  ·rw [gd_take hj,gd_take hj]; exact h j (.inl hj)
  ·rw [gd_ge (by simp; omega),gd_ge (by simp; omega)]
 ·apply list_ext_gd (by simp [hl])
  intro j
  rw [gd_drop,gd_drop]
  exact h _ (.inr (by omega))
end Gs

import Derived.Test.YtcpgflbfjplheaaGreatDoorMay
namespace Gs
def isDig (d:Nat):Bool:=decide (48 ≤ d) && decide (d ≤ 57)
def allDig (D:List Nat):Bool:=D.all isDig
def dec (D:List Nat):Nat:=D.foldl (fun v d=>v * 10 + (d - 48)) 0
theorem dec_foldl (D:List Nat):∀ v,D.foldl (fun v d=>v * 10 + (d - 48)) v = v * 10 ^ D.length + dec D:=by
 induction D with
 | nil=>intro v; simp [dec]
 | cons d D ih =>
  intro v
  unfold dec
  rw [List.foldl_cons,ih,List.foldl_cons,ih (0 * 10 + (d - 48)),List.length_cons,Nat.pow_succ]
  grind
theorem dec_append (D E:List Nat):dec (D ++ E) = dec D * 10 ^ E.length + dec E:=by
 unfold dec
 rw [List.foldl_append,dec_foldl]
 rfl
theorem dec_snoc (D:List Nat) (d:Nat):dec (D ++ [d]) = dec D * 10 + (d - 48):=by rw [dec_append]; simp [dec]
theorem dec_cons (d:Nat) (D:List Nat):dec (d :: D) = (d - 48) * 10 ^ D.length + dec D:=by
 have:=dec_append [d] D
 simpa [dec] using this
theorem dec_lt {D:List Nat} (h:allDig D = true):dec D < 10 ^ D.length:=by
 induction D with
 | nil=>simp [dec]
 | cons d D ih =>
  simp only [allDig,List.all_cons,Bool.and_eq_true] at h
  have h1:=ih h.2
  have h2:=h.1
  simp only [isDig,Bool.and_eq_true,decide_eq_true_eq] at h2
  rw [dec_cons,List.length_cons,Nat.pow_succ]
  have:(d - 48) * 10 ^ D.length ≤ 9 * 10 ^ D.length:=Nat.mul_le_mul_right _ (by omega)
  omega
theorem allDig_append (D E:List Nat):allDig (D ++ E) = (allDig D && allDig E):=by simp [allDig]
def byt (s:ByteArray):List Nat:=s.data.toList.map (·.toNat)
theorem byt_length (s:ByteArray):(byt s).length = s.size:=by simp [byt]
theorem byt_extract (s:ByteArray) (n:Nat):byt (s.extract n s.size) = (byt s).drop n:=by
 unfold byt
 rw [ByteArray.data_extract,Array.toList_extract,← List.map_drop,List.extract_eq_take_drop]
 congr 1
 rw [List.take_of_length_le]
 simp
end Gs

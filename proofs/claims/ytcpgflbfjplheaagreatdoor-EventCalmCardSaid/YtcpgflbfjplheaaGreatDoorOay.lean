import Derived.Test.YtcpgflbfjplheaaGreatDoorNdy
import Derived.Test.YtcpgflbfjplheaaGreatDoorKby
import Derived.Deep.RegionLaw
namespace Go.Proofs.YtcpgflbfjplheaaGreatDoor
open Go.RowKit Gs
set_option linter.unusedVariables false
theorem alike_ext {l m:List Nat} (hl:l.length = m.length) (h:∀ j,j < l.length → gd l j = gd m j):l = m:=by
 apply List.ext_getElem hl
 intro j h1 h2
 rw [← gd_lt h1,← gd_lt h2]
 exact h j h1
set_option maxRecDepth 100000 in
set_option maxHeartbeats 1000000 in
theorem keep_Nats {A n c A' n' c'} {l m:List Nat} {P P'} {w:World} (h:RdU w P ⟨A,n,c⟩ l) (h':RdU w P' ⟨A',n',c'⟩ m) :
 Calls Tryz.prog 152 #[.slice A n c,.slice A' n' c'] w fun e w'=>e = .returned (.bool (decide (l = m))) ∧ Below w.heap.size w w':=by
 have hl:=h.rd.len
 have hm:=h'.rd.len
 have htop:=h.rd.le
 simp only at hl hm htop
 by_cases hn:n = n'
 ·subst hn
  have HLM:=Lib.hid (hl.trans hm.symm)
  have HL:=Lib.hid hl
  obtain ⟨D,hD⟩:∃ D:Bool,D = decide (l = m):=⟨_,rfl⟩
  rw [← hD]
  have HD:=Lib.hid hD
  clear hl hm hD
  go_enter Tryz.func152,Tryz.ntmps152
  go_wp2
  go_loopw [5] (fun iv wr=>∃ i:Nat,i ≤ n ∧ iv = .int .i64 i ∧ Hid (∀ j,j < i → gd l j = gd m j) ∧ Below w.heap.size w wr) (fun iv _=>n - (intOf iv).toNat)
  case atStart=>exact ⟨0,by omega,rfl,Lib.hid fun j hj=>by omega,Below.refl _ _⟩
  case round =>
   obtain ⟨i,hi,rfl,heq,hb⟩:=hrel
   by_cases hlt:i < n
   ·obtain ⟨ad,e,hc⟩:=(h.rd.below hb).at i hlt
    obtain ⟨ad',e',hc'⟩:=(h'.rd.below hb).at i hlt
    simp only at e e'
    subst e e'
    have s1:IntKind.i64.wrap ((i:Int) + 1) = (i:Int) + 1:=IntWalk.i64_in _ (by omega)
    by_cases hz:gd l i = gd m i
    ·have hnew:∀ j,j < i + 1 → gd l j = gd m j:=by
      intro j hj
      by_cases hji:j = i
      ·subst hji; exact hz
      ·exact heq.out j (by omega)
     have HN:=Lib.hid hnew
     have hzb:(((gd l i:Nat):Int) != ((gd m i:Nat):Int)) = false:=by rw [hz]; simp
     clear hnew hz
     obtain ⟨a,ha⟩:∃ a,a = gd l i:=⟨_,rfl⟩
     obtain ⟨b,hb0⟩:∃ b,b = gd m i:=⟨_,rfl⟩
     rw [← ha] at hc hzb
     rw [← hb0] at hc' hzb
     clear ha hb0
     go_wp2
     go_region_law fail
     all_goals
      go_wp2
      refine ⟨⟨i + 1,by omega,by go_num,HN,hb.drew⟩,?_⟩
      simp [intOf]; omega
    ·have hfal:D = false:=by
      rw [HD.out,decide_eq_false_iff_not]
      intro e
      exact hz (by rw [e])
     subst hfal
     have hzb:(((gd l i:Nat):Int) != ((gd m i:Nat):Int)) = true:=by rw [bne_iff_ne]; omega
     clear hz
     obtain ⟨a,ha⟩:∃ a,a = gd l i:=⟨_,rfl⟩
     obtain ⟨b,hb0⟩:∃ b,b = gd m i:=⟨_,rfl⟩
     rw [← ha] at hc hzb
     rw [← hb0] at hc' hzb
     clear ha hb0
     go_wp2
     go_region_law fail
     all_goals
      go_wp2
      go_ret
      exact ⟨rfl,hb.drew⟩
   ·obtain rfl:i = n:=by omega
    have htru:D = true:=by
     rw [HD.out,decide_eq_true_iff]
     exact alike_ext HLM.out (fun j hj=>heq.out j (by rw [← HL.out]; exact hj))
    subst htru
    go_wp2
    go_ret
    exact ⟨rfl,hb⟩
 ·have hfal:decide (l = m) = false:=by
   rw [decide_eq_false_iff_not]
   intro e
   subst e
   exact hn (hl.symm.trans hm)
  rw [hfal]
  have hnb:((n:Int) != (n':Int)) = true:=by rw [bne_iff_ne]; omega
  clear hfal
  go_enter Tryz.func152,Tryz.ntmps152
  go_wp2
  go_ret
  exact ⟨rfl,Below.refl _ _⟩
end Go.Proofs.YtcpgflbfjplheaaGreatDoor

import Derived.Test.YtcpgflbfjplheaaGreatDoorQaz
import Derived.Test.YtcpgflbfjplheaaGreatDoorFA
import Derived.OpenShut
namespace Go.Proofs.YtcpgflbfjplheaaGreatDoor
open Go.ChangeShapes Go.WideShapes Go.ChangeAt Go.RowKit Gs Gv
set_option linter.unusedVariables false
theorem cellsZ:Tryz.prog.cellsOf 25 = 2:=by kernel_rfl
theorem cellsRow:Tryz.prog.cellsOf 23 = 1:=by kernel_rfl
theorem cellsBool:Tryz.prog.cellsOf 4 = 1:=by kernel_rfl
set_option maxRecDepth 100000 in
theorem row_cells {H:Type} {enc:TypeId × Value → H} {W:World} {fuel:Nat} {cs:List Value} {x:DataW H × List MemPlace} (hf:DataW.trod enc Tryz.prog W 0 (fun _=>true) true fuel 23 cs = some x) :
 ∃ l v,cs = [v] ∧ Lt 18446744073709551616 l ∧ Rep W (fun _=>True) (u64s l) v ∧ flatV v = true:=by
 rcases open_ints Tryz.underlying23 Tryz.underlying146 cellsU64 hf with ⟨hcs,hx⟩ | ⟨a,n,c,zs,hcs,_,hl,hm,hz,hx,hcell,hwz⟩
 ·exact ⟨[],_,hcs,Lt.nil _,.nil none 0 (by omega),rfl⟩
 ·simp only [if_true] at hz
  have hget:∀ j,j < zs.length → ((gd (zs.map Int.toNat) j:Nat):Int) = zs.getD j 0:=by
   intro j hj
   rw [gd_lt (by simpa using hj),List.getElem_map,List.getD_eq_getElem?_getD,List.getElem?_eq_getElem hj,Option.getD_some,Int.toNat_of_nonneg (u64_nat (hwz _ (List.getElem_mem hj))).1]
  have hz2:zs.length = c:=hz
  refine ⟨(zs.map Int.toNat).take n,_,hcs,fun x hx2=>?_,row_rep ⟨by rw [List.length_take,List.length_map]; show min n zs.length = n; omega,hl,by simpa [maxLen] using hm,fun _=>⟨a,rfl,trivial,fun j hj=>?_⟩⟩,rfl⟩
  ·obtain ⟨z,hz3,rfl⟩:=List.mem_map.1 (List.mem_of_mem_take hx2)
   have:=u64_nat (hwz z hz3)
   omega
  ·have hj2:j < n:=hj
   rw [gd_take hj2,hget j (by omega)]
   exact hcell j (by omega)
set_option maxRecDepth 100000 in
theorem zed_cells {H:Type} {enc:TypeId × Value → H} {W:World} {fuel:Nat} {cs:List Value} {x:DataW H × List MemPlace} (hf:DataW.trod enc Tryz.prog W 0 (fun _=>true) true fuel 25 cs = some x) :
 ∃ s l v,cs = [.bool s,v] ∧ Lt 18446744073709551616 l ∧ Rep W (fun _=>True) (u64s l) v ∧ flatV v = true:=by
 obtain ⟨y0,y1,m,hx,hlen,hy0,hy1⟩:=trod_struct2 Tryz.underlying25 hf
 rw [cellsZ] at hlen
 obtain ⟨s,e0,_⟩:=DataW.trod_bool Tryz.underlying4 hy0
 obtain ⟨l,v,e1,hl,hr,hfl⟩:=row_cells hy1
 match cs,hlen with
 | [a,b],_ =>
  simp only [cellsBool,cellsRow] at e0 e1
  simp at e0 e1
  subst e0 e1
  exact ⟨s,l,_,rfl,hl,hr,hfl⟩
theorem law_calls {f:FuncId} {ps:List PV} {W:World} {vs:List Value} (h:Gv.Fn Tryz.prog f ps (.raw (.bool true))) (hl:ps.length = vs.length)
 (hr:∀ (j:Nat) (p:PV) (v:Value),ps[j]? = some p → vs[j]? = some v → Rep W (fun _=>True) p v) :
 Calls Tryz.prog f vs.toArray W fun e W'=>e = .returned (.bool true) ∧ Below W.heap.size W W':=by
 refine (h.2 W (fun b=>True ∧ b < W.heap.size) vs.toArray (fun b hb=>hb.2) (by simpa using hl) fun j p hj=>?_).mono ?_
 ·have hlt:=(List.getElem?_eq_some_iff.1 hj).1
  have hv:vs[j]? = some (vs[j]'(by omega)):=List.getElem?_eq_getElem _
  have e:vs.toArray.getD j undef = vs[j]'(by omega):=by simp [Array.getD,show j < vs.length by omega]
  rw [e]
  exact (hr j p _ hj hv).lt
 ·rintro e W' ⟨v,p,rfl,rfl,hrep,hb⟩
  cases hrep
  exact ⟨rfl,hb⟩
theorem reps_cons {W:World} {p0:PV} {v0:Value} {ps:List PV} {vs:List Value} (h0:Rep W (fun _=>True) p0 v0) (h:∀ (j:Nat) (p:PV) (v:Value),ps[j]? = some p → vs[j]? = some v → Rep W (fun _=>True) p v) :
 ∀ (j:Nat) (p:PV) (v:Value),(p0 :: ps)[j]? = some p → (v0 :: vs)[j]? = some v → Rep W (fun _=>True) p v
 | 0,p,v,h1,h2=>by cases h1; cases h2; exact h0
 | j + 1,p,v,h1,h2=>h j p v (by simpa using h1) (by simpa using h2)
theorem reps_nil {W:World}:∀ (j:Nat) (p:PV) (v:Value),([]:List PV)[j]? = some p → ([]:List Value)[j]? = some v → Rep W (fun _=>True) p v:=fun j p v h=>by simp at h
end Go.Proofs.YtcpgflbfjplheaaGreatDoor
namespace Go.Proofs.YtcpgflbfjplheaaGreatDoor
open Go.ChangeShapes Go.WideShapes Go.ChangeAt Go.RowKit Gs Gv
set_option linter.unusedVariables false
theorem cellsQ:Tryz.prog.cellsOf 27 = 3:=by kernel_rfl
set_option maxRecDepth 100000 in
theorem rat_cells {H:Type} {enc:TypeId × Value → H} {W:World} {fuel:Nat} {cs:List Value} {x:DataW H × List MemPlace} (hf:DataW.trod enc Tryz.prog W 0 (fun _=>true) true fuel 27 cs = some x) :
 ∃ s l m u v,cs = [.bool s,u,v] ∧ Lt 18446744073709551616 l ∧ Lt 18446744073709551616 m ∧ Rep W (fun _=>True) (u64s l) u ∧ flatV u = true ∧ Rep W (fun _=>True) (u64s m) v ∧ flatV v = true:=by
 obtain ⟨y0,y1,n,hx,hlen,hy0,hy1⟩:=trod_struct2 Tryz.underlying27 hf
 rw [cellsQ] at hlen
 obtain ⟨s,l,u,e0,hl,hr,hfl⟩:=zed_cells hy0
 obtain ⟨m,v,e1,hm,hr',hfl'⟩:=row_cells hy1
 match cs,hlen with
 | [a,b,c],_ =>
  simp only [cellsZ,cellsRow] at e0 e1
  simp at e0 e1
  obtain ⟨rfl,rfl⟩:=e0
  subst e1
  exact ⟨s,l,m,_,_,rfl,hl,hm,hr,hfl,hr',hfl'⟩
end Go.Proofs.YtcpgflbfjplheaaGreatDoor

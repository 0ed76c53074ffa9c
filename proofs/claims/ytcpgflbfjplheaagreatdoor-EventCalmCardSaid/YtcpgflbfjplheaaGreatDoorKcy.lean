import Derived.Test.YtcpgflbfjplheaaGreatDoorKby
import Derived.Test.YtcpgflbfjplheaaGreatDoorRfy
import Derived.Test.YtcpgflbfjplheaaGreatDoorMhy
import Derived.Lib.OwnBridge
import Derived.Lib.Join
import Derived.Lib.TrimByte
import Derived.Laws.IdiomStrings
import Derived.RangeFuncLeaves
namespace Gs
open Go Go.RowKit
def OwnV (w:World) (base:Nat) (e:TypeId) (s:Sl) (vs:List Value):Prop:=w.ownsRow base e 1 (.slice s.A s.n s.c) s.n vs
theorem OwnV.len {w base e s vs} (h:OwnV w base e s vs):vs.length = s.n:=by have:=h.1; omega
theorem OwnV.nil (w base e):OwnV w base e ⟨none,0,0⟩ []:=World.ownsRow_nil w base e 1
theorem OwnV.form {w base e s vs} (h:OwnV w base e s vs):(s = ⟨none,0,0⟩ ∧ vs = []) ∨ ∃ g c cur,s = ⟨some ⟨g,0,none⟩,s.n,c⟩ ∧ base ≤ g ∧ w.heap[g]? = some (.cells cur e (0,0)):=by
 have hl:=h.len
 rcases h.2 with ⟨e1,e2⟩ | ⟨g,cap,cur,e1,hb,hh,_⟩
 ·injection e1 with e1 _ e3
  obtain ⟨A,n,c⟩:=s
  simp only at e1 e2 e3 hl
  subst e1 e2 e3
  exact .inl ⟨rfl,List.length_eq_zero_iff.1 hl⟩
 ·injection e1 with e1 _ e3
  obtain ⟨A,n,c⟩:=s
  simp only at e1 e3
  subst e1 e3
  exact .inr ⟨g,c,cur,rfl,hb,hh⟩
theorem OwnV.keep {w w1 base e s vs} (h:OwnV w base e s vs) (hk:∀ g cur,s.A = some ⟨g,0,none⟩ → w.heap[g]? = some (.cells cur e (0,0)) → w1.heap[g]? = w.heap[g]?):OwnV w1 base e s vs:=by
 refine ⟨h.1,?_⟩
 rcases h.2 with h2 | ⟨g,cap,cur,e1,hb,hh,r⟩
 ·exact .inl h2
 ·refine .inr ⟨g,cap,cur,e1,hb,?_,r⟩
  injection e1 with e1
  rw [hk g cur e1 hh]
  exact hh
theorem OwnV.below {w w1 base e s vs} (h:OwnV w base e s vs) (hb:Below w.heap.size w w1):OwnV w1 base e s vs :=
 h.keep fun g cur _ hh=>hb.block g (Array.getElem?_eq_some_iff.1 hh).1
theorem OwnV.lt {w base e s vs} (h:OwnV w base e s vs) (j:Nat) (hj:(Value.slice s.A s.n s.c).ownBlock = some j):base ≤ j ∧ j < w.heap.size:=World.ownsRow.lt h j hj
section
variable {P:Program} {ops:Array Oper} {rest:List Oper} {o:Oper} {a:Act} {Q:Exit → Act → World → Prop}
theorem appendS {w0 W:World} {B:Nat} (base:Nat) (hB:B ≤ base) (hgd:o.guard = none) (s x:Operand) (t e:TypeId)
 (ho:o.op = .call { callee:=.builtin .append,args:=#[s,x],argTypes:=#[t,t] })
 (ht:P.underlying t = some (.slice e)) (hinfo:(P.info? e).map (fun i=>(i.zero,i.size,i.bytes)) = some (some (.string ⟨#[]⟩),1,16))
 (v:Sl) (xs:List Value) (y:ByteArray) (hs:a.eval s = .slice v.A v.n v.c) (hx:a.eval x = .slice (some ⟨W.heap.size,0,none⟩) 1 1)
 (HO:OwnV W base e v xs) (HB:Below B w0 W) (hbase:base ≤ W.heap.size) (hl:(xs.length + 1) * 16 ≤ 140737488355328)
 (h:∀ v1:Sl,∀ w1,OwnV w1 base e v1 (xs ++ [.string y]) → Below B w0 w1 → W.grownBy w1 (Value.slice v.A v.n v.c).ownBlock → wpList P ops Q rest (a.put o.dst (.slice v1.A v1.n v1.c)) w1) :
 wpList P ops Q (o :: rest) a (W.alloc (.cells #[.string y] e)):=by
 obtain ⟨i0,hi,hzz⟩:=Option.map_eq_some_iff.1 hinfo
 simp only [Prod.mk.injEq] at hzz
 obtain ⟨hz0,hz1,hz2⟩:=hzz
 have hn:xs.length = v.n:=HO.len
 refine wpList_append_own_at (W.alloc (.cells #[.string y] e)) hgd s x t ho base e i0 (.string ⟨#[]⟩) 1 16 ht hi hz0 hz1 hz2 rfl (by omega) (.slice v.A v.n v.c) v.n xs hs (World.ownsRow.alloc HO _) ⟨W.heap.size,0,none⟩ 1 1 [.string y] hx rfl
  (World.news_of_block (cs:=#[.string y]) (t:=e) (fr:=(0,0)) (heap_alloc_new W _)) (by simp [Value.oneCell']) (by simp only [maxLen]; omega) (by rw [← hn]; exact hl) (by simp; omega) ?_
 intro v1 w1 hown hg _ _
 obtain ⟨A1,c1,rfl⟩:=own_sl hown
 refine h ⟨A1,v.n + 1,c1⟩ w1 ?_ ((HB.alloc (Nat.le_trans hB hbase) _).grown hg (by simp; omega) (fun j hj=>Nat.le_trans hB (HO.lt j hj).1)) (World.grownBy.trans (World.grownBy_alloc W _ _) hg)
 exact hown
end
def Marks (base:Nat) (W:World):Nat → List Deferred → Prop
 | _,[]=>True
 | top,d :: ds=>∃ D,d = { target:=.collected D,args:=#[] } ∧ base ≤ D ∧ D < top ∧ W.heap[D]? = some (.deferred (some [])) ∧ Marks base W D ds
theorem Marks.keep {base:Nat} {W W':World}:∀ {ds:List Deferred} {top:Nat},Marks base W top ds → (∀ D,base ≤ D → D < top → W.heap[D]? = some (.deferred (some [])) → W'.heap[D]? = W.heap[D]?) → Marks base W' top ds
 | [],_,_,_=>trivial
 | d :: ds,top,⟨D,e,hb,ht,hD,hr⟩,hk=>⟨D,e,hb,ht,(hk D hb ht hD).trans hD,Marks.keep hr fun D' hb' ht' h'=>hk D' hb' (by omega) h'⟩
theorem Marks.mono {base:Nat} {W:World} {top top':Nat}:∀ {ds:List Deferred},Marks base W top ds → top ≤ top' → Marks base W top' ds
 | [],_,_=>trivial
 | d :: ds,⟨D,e,hb,ht,hD,hr⟩,hk=>⟨D,e,hb,by omega,hD,hr⟩
theorem Marks.below {base:Nat} {W W':World} {top:Nat} {ds:List Deferred} (h:Marks base W top ds) (hb:Below W.heap.size W W'):Marks base W' top ds :=
 h.keep fun D _ _ hD=>hb.block D (Array.getElem?_eq_some_iff.1 hD).1
theorem Marks.grown {base b2:Nat} {W W':World} {e:TypeId} {s:Sl} {vs:List Value} {top:Nat} {ds:List Deferred} (h:Marks base W top ds) (ho:OwnV W b2 e s vs) (hg:W.grownBy W' (Value.slice s.A s.n s.c).ownBlock):Marks base W' top ds:=by
 refine h.keep fun D _ _ hD=>hg.block D (Array.getElem?_eq_some_iff.1 hD).1 fun e'=>?_
 rcases ho.form with ⟨rfl,_⟩ | ⟨g,c,cur,e1,_,hh⟩
 ·cases e'
 ·rw [e1] at e'
  injection e' with e'
  subst e'
  rw [hD] at hh
  cases hh
theorem leaves_marks {F:Fence} {n:Nat} {P:Program} {fn:Func} {tmps:Array Value} {R:Ending → World → Prop} {base:Nat} {w0:World} (h0:base ≤ w0.heap.size) (hw0:base = w0.heap.size) :
 ∀ (ds:List Deferred) (top:Nat) (W:World),Marks base W top ds → Below base w0 W → (∀ W',Below base w0 W' → LeavesIn F n P fn tmps R [] .returning W') → LeavesInM F n P fn tmps R ds .returning W
 | [],_,W,_,hb,h=>h W hb
 | d :: ds,top,W,⟨D,e,hb1,ht,hD,hr⟩,hb,h=>by
  subst e
  refine ⟨by simp,.inl ⟨D,_,rfl,run_takeDeferred hD,?_⟩⟩
  refine leaves_marks h0 hw0 ds D _ (hr.keep fun D' _ h2 _=>World.putObj_heap_other (by omega)) ?_ h
  have hb':=hb
  rw [hw0] at hb' hb1 ⊢
  exact below_putObj hb' (Nat.le_refl _) hb1 (.deferred none) hD rfl rfl
def strOf (D:List Nat):ByteArray:=⟨(D.map UInt8.ofNat).toArray⟩
theorem byt_strOf {D:List Nat} (h:∀ d ∈ D,d < 256):byt (strOf D) = D:=by
 unfold byt strOf
 rw [List.map_map]
 conv=>rhs; rw [← List.map_id D]
 apply List.map_congr_left
 intro d hd
 simp only [Function.comp,id]
 exact UInt8.toNat_ofNat_of_lt' (h d hd)
theorem digs_lt (k:Nat):∀ r,∀ d ∈ digs k r,d < 256:=by
 induction k with
 | zero=>intro r d hd; cases hd
 | succ k ih =>
  intro r d hd
  rw [digs,List.mem_append] at hd
  rcases hd with hd | hd
  ·exact ih _ d hd
  ·obtain rfl:=List.mem_singleton.1 hd
   omega
theorem run_string_nums {P:Program} (w:World) (src dst e:TypeId) (g n c:Nat) (D:List Nat) (hs:P.underlying src = some (.slice e)) (he:P.underlying e = some (.int .u8)) (hd:P.underlying dst = some .string)
 (hn:D.length = n) (h256:∀ d ∈ D,d < 256) (hc:∀ j,j < n → w.cell? ⟨g,j,none⟩ = some (.int .u8 (gd D j:Nat))) :
 (convert src dst (.slice (some ⟨g,0,none⟩) n c)).run P w = .ok (.string (strOf D)) w:=by
 have:=run_convert_bytes_back (P:=P) w src dst e ⟨g,0,none⟩ c (D.map UInt8.ofNat) hs he hd (fun j hj=>by
  rw [List.length_map] at hj
  rw [show (⟨g,0,none⟩:Addr).add j = ⟨g,j,none⟩ by unfold Addr.add; split <;> simp_all,hc j (by omega),gd_lt hj,List.getElem_map,UInt8.toNat_ofNat_of_lt' (h256 _ (List.getElem_mem hj))])
 rw [List.length_map,hn] at this
 exact this
theorem joined_flat (xs:List (List UInt8)):Lib.join xs [] = xs.flatten:=by
 cases xs with
 | nil=>rfl
 | cons x r =>
  rw [Lib.join_cons]
  simp only [Lib.joinTail,List.nil_append,List.map_id',List.flatten_cons]
theorem byt_mk (l:List UInt8):byt ⟨l.toArray⟩ = l.map (·.toNat):=rfl
theorem byt_join (ps:List ByteArray):byt ⟨(Lib.join (ps.reverse.map (·.data.toList)) []).toArray⟩ = catB ps:=by
 rw [byt_mk,joined_flat,List.map_flatten,List.map_map]
 rfl
theorem byt_trim (s:ByteArray):byt ⟨(Lib.trimLeftB s.data.toList 48).toArray⟩ = (byt s).dropWhile (· == 48):=by
 rw [byt_mk]
 unfold Lib.trimLeftB byt
 rw [List.dropWhile_map]
 congr 1
 apply congrFun
 apply congrArg
 funext c
 show (c == 48) = (c.toNat == 48)
 rw [Bool.eq_iff_iff,beq_iff_eq,beq_iff_eq,← UInt8.toNat_inj]
 rfl
theorem catB_length_le (ps:List ByteArray) (L:Nat) (h:∀ p ∈ ps,p.size = L):(catB ps).length = L * ps.length:=by
 unfold catB
 induction ps with
 | nil=>rfl
 | cons p ps ih =>
  have h1:=ih (fun q hq=>h q (List.mem_cons_of_mem _ hq))
  have h2:=h p (List.mem_cons_self ..)
  simp only [List.reverse_cons,List.map_append,List.map_cons,List.map_nil,List.flatten_append,List.length_append,List.flatten_cons,List.flatten_nil,List.append_nil,byt_length,h2,h1,List.length_cons]
  rw [Nat.mul_succ]
end Gs

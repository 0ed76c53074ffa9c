import Derived.Control
import Derived.Calls
import Derived.Below
import Derived.Sort.Grow
import Derived.Deep.Draws
import Derived.Shelf.SlSortCmp.WholeK
import Derived.Shelf.SlSortCmp.NoneTotal
import Derived.Test.YtcpgflbfjplheaaGreatDoorEA
import Derived.Shelf.SlGeneric
import Derived.Ground.SlsfProg
import Derived.Test.YtcpgflbfjplheaaGreatDoorProg
import Derived.Test.YtcpgflbfjplheaaGreatDoorHA
import Derived.Test.YtcpgflbfjplheaaGreatDoorVP
namespace Gv
open Go Go.RowKit
set_option linter.unusedVariables false
set_option linter.unusedSimpArgs false
theorem ask_mono {α:Type}:∀ (k:Ask α) (w:World),w.drawn ≤ (w.ask k).2.drawn
 | .done a,w=>Nat.le_refl _
 | .ask what range k,w=>by
  simp only [World.ask]
  split
  ·exact ask_mono (k 0) w
  ·exact Nat.le_trans (Nat.le_succ w.drawn) (ask_mono (k _) { w with drawn:=w.drawn + 1 })
theorem sys_mono (w:World) (c:Sys):w.drawn ≤ (w.sys c).2.drawn:=by
 have h:=ask_mono (Kernel.perform c w.os) w
 unfold World.sys
 split
 ·exact Nat.le_refl _
 ·rename_i r os w' e1 e2
  rw [e2] at h
  exact h
theorem viewStore_drawn {p:Program} {w w':World} {at_ k:Addr} {u:TypeId} {v:Value} {atomic:Bool} {l:List Addr} (h:w.viewStore p at_ u k v atomic = .ok (w',l)):w'.drawn = w.drawn:=by
 unfold World.viewStore at h
 simp only [bind,Except.bind,pure,Except.pure] at h
 repeat' split at h
 all_goals first | (cases h; done) | (cases h; rfl)
theorem farStore_drawn {p:Program} {w w':World} {a:Addr} {v:Value} {b:Bool} {l:List Addr} (h:w.farStore p a v b = .ok (w',l)):w'.drawn = w.drawn:=by
 unfold World.farStore at h
 split at h
 ·split at h
  ·rename_i r hr
   cases h
   exact viewStore_drawn hr
  ·cases h
 ·cases h
def Rw {α:Type}:Result α → World
 | .ok _ w=>w
 | .halt _ w=>w
theorem freeze_drawn (w:World) (a:Addr) (n:Nat):(w.freeze a n).drawn = w.drawn:=by
 unfold World.freeze
 split <;> rfl
theorem run_mono {α:Type} (p:Program) (e:Sem α) (w:World):w.drawn ≤ (Rw (e.run p w)).drawn:=by
 induction e generalizing w with
 | pure a=>exact Nat.le_refl _
 | load m a k ih =>
  simp only [Sem.run]
  split
  ·exact ih _ w
  ·split
   ·exact ih _ w
   ·exact Nat.le_refl _
 | store m a v k ih =>
  have key:w.drawn ≤ (Rw (match w.cell? a with
   | some _=>if w.frozen? a then .halt (.unsupported (.unsafePointer "a write to bytes that a string shares")) w else k.run p (w.setCell a v)
   | none=>match w.farStore p a v (m == .atomic) with
    | .ok (w,_)=>k.run p w
    | .error h=>.halt h w)).drawn:=by
   split
   ·split
    ·exact Nat.le_refl _
    ·exact ih (w.setCell a v)
   ·split
    ·rename_i w' l h
     rw [← farStore_drawn h]
     exact ih w'
    ·exact Nat.le_refl _
  cases v <;> simp only [Sem.run] <;> first | exact Nat.le_refl _ | exact key
 | new o k ih=>exact ih _ { w with heap:=w.heap.push o }
 | shape r k ih=>exact ih _ w
 | freeze a n k ih =>
  simp only [Sem.run]
  have:=ih (w.freeze a n)
  rwa [freeze_drawn] at this
 | frozen a k ih=>exact ih _ w
 | getObj r k ih =>
  simp only [Sem.run]
  split
  ·exact Nat.le_refl _
  ·exact ih _ w
  ·exact Nat.le_refl _
 | setObj r o k ih =>
  simp only [Sem.run]
  split
  ·exact Nat.le_refl _
  ·exact ih { w with heap:=w.heap.setIfInBounds r o }
  ·exact Nat.le_refl _
 | choose q k ih =>
  simp only [Sem.run]
  split
  ·exact ih _ w
  ·exact Nat.le_trans (Nat.le_succ _) (ih _ { w with drawn:=w.drawn + 1 })
 | sys c k ih =>
  simp only [Sem.run]
  exact Nat.le_trans (sys_mono w c) (ih _ _)
 | program k ih=>exact ih _ w
 | mark m k ih=>exact ih w
 | halt h=>exact Nat.le_refl _
theorem run_ok {α:Type} {p:Program} {e:Sem α} {w w':World} {a:α} {n:Nat} (h:e.run p w = .ok a w') (hn:n ≤ w.drawn):n ≤ w'.drawn:=by
 have:=run_mono p e w
 rw [h] at this
 exact Nat.le_trans hn this
theorem run_halt {α:Type} {p:Program} {e:Sem α} {w w':World} {a:Halt} {n:Nat} (h:e.run p w = .halt a w') (hn:n ≤ w.drawn):n ≤ w'.drawn:=by
 have:=run_mono p e w
 rw [h] at this
 exact Nat.le_trans hn this
def GM (n:Nat):GStep → Prop
 | .go _ w _=>n ≤ w.drawn
 | .comm _ _ _ _ w _=>n ≤ w.drawn
 | .spawn _ _ w _=>n ≤ w.drawn
 | .count _ w _=>n ≤ w.drawn
 | .timer _ _ w _=>n ≤ w.drawn
 | .alone _ _ w _=>n ≤ w.drawn
 | .newcoro _ _ _ w _=>n ≤ w.drawn
 | .coroswitch _ _ _ w _=>n ≤ w.drawn
 | .collect _ w _=>n ≤ w.drawn
 | .watch _ w _=>n ≤ w.drawn
 | .ended _ _ _=>True
theorem GM.after {n:Nat} {es:Array Event} {s:GStep} (h:GM n s):GM n (GStep.after es s):=by
 cases s <;> exact h
def SM (n:Nat):Stepped → Prop
 | .next m=>n ≤ m.world.drawn
 | .ended _ _=>True
theorem endThrow_m {n:Nat} {fr:Frame} {m:String} {w:World} (h:n ≤ w.drawn):GM n (endThrow fr m w):=h
theorem dieOf_m {n:Nat} {fr:Frame} {ah:List ByteArray} {m:String} {b:Bool} {w:World} (h:n ≤ w.drawn):GM n (dieOf fr ah m b w):=h
theorem endWith_m {n:Nat} {w:World} {fd:Nat} {t:ByteArray} {o:Outcome}:GM n (endWith w fd t o):=by
 unfold endWith
 repeat' split
 all_goals trivial
theorem endPrinting_m {n:Nat} {p:Program} {fr:Frame} {v:Value} {w:World} (h:n ≤ w.drawn):GM n (endPrinting p fr v w):=by
 unfold endPrinting
 simp only
 split
 ·exact h
 ·trivial
theorem endFatal_m {n:Nat} {p:Program} {fr:Frame} {cs:List Frame} {d:Option Dying} {m:String} {w:World} (h:n ≤ w.drawn):GM n (endFatal p fr cs d m w):=by
 unfold endFatal
 simp only
 split
 ·rename_i hr
  exact dieOf_m (run_ok hr h)
 ·trivial
 ·trivial
theorem writeOn_m {n:Nat} {p:Program} {fr:Frame} {d:Dying} {f:Fatal} {w:World} (h:n ≤ w.drawn):GM n (writeOn p fr d f w):=by
 unfold writeOn
 simp only
 split
 ·trivial
 ·simp only [Sem.runT_eq]
  split
  ·rename_i hr
   exact run_ok (congrArg Prod.fst hr) h
  ·rename_i hr
   exact run_halt (congrArg Prod.fst hr) h
  ·trivial
  ·trivial
theorem die_m {n:Nat} {p:Program} {fr:Frame} {d:Dying} {w:World} (h:n ≤ w.drawn):GM n (die p fr d w):=by
 unfold die
 split
 ·exact writeOn_m h
 ·split
  ·split
   ·exact h
   ·exact endWith_m
  ·simp only
   split
   ·exact h
   ·split
    ·rename_i hr
     exact run_ok hr h
    ·trivial
   ·simp only [Sem.runT_eq]
    refine GM.after ?_
    split
    ·rename_i hr; exact run_ok hr h
    ·rename_i hr; exact run_ok hr h
    ·trivial
    ·rename_i hr; exact endPrinting_m (run_halt hr h)
    ·trivial
   ·trivial
theorem doReturn_m {n:Nat} {p:Program} {main:Bool} {fr:Frame} {cs:List Frame} {d:Option Dying} {v:Value} {w:World} (h:n ≤ w.drawn):GM n (doReturn p main fr cs d v w):=by
 unfold doReturn
 simp only
 (try simp only [Sem.runT_eq])
 (repeat' (first | split | (refine GM.after ?_)))
 all_goals first
  | trivial
  | assumption
  | exact run_ok (by assumption) (by assumption)
  | exact run_halt (by assumption) (by assumption)
  | exact endThrow_m (by assumption)
  | exact endThrow_m (run_halt (by assumption) (by assumption))
  | exact endPrinting_m (by assumption)
  | exact endPrinting_m (run_halt (by assumption) (by assumption))
theorem ite_m {n:Nat} {c:Bool} {x y:GStep} (h1:GM n x) (h2:GM n y):GM n (if c = true then x else y):=by cases c <;> assumption
theorem callDeferred_m {n:Nat} {p:Program} {fr:Frame} {cs:List Frame} {d:Option Dying} {df:Deferred} {w:World} (h:n ≤ w.drawn):GM n (callDeferred p fr cs d df w):=by
 unfold callDeferred
 refine ite_m trivial ?_
 ·simp only [Sem.runT_eq]
  refine GM.after ?_
  split
  all_goals first
   | trivial
   | (rename_i hr; exact run_ok hr h)
   | (rename_i hr; exact run_halt hr h)
   | (rename_i hr; exact endFatal_m (run_halt hr h))
   | (rename_i hr; exact endThrow_m (run_halt hr h))
   | (rename_i hr; have:=run_ok hr h; split <;> exact this)
theorem unwind_m {n:Nat} {p:Program} {main:Bool} {fr:Frame} {cs:List Frame} {d:Option Dying} {w:World} (h:n ≤ w.drawn):GM n (unwind p main fr cs d w):=by
 unfold unwind
 split
 ·simp only [Sem.runT_eq]
  refine GM.after ?_
  split
  ·rename_i hr; exact run_ok hr h
  ·trivial
 ·exact callDeferred_m h
 ·split
  ·trivial
  ·split
   ·trivial
   ·split
    ·exact h
    ·split
     ·split
      ·exact h
      ·split
       ·rename_i hr; exact run_ok hr h
       ·trivial
       ·trivial
     ·split
      ·exact endPrinting_m h
      ·trivial
  ·split
   ·exact doReturn_m h
   ·simp only [Sem.runT_eq]
    refine GM.after ?_
    split
    ·rename_i hr; exact doReturn_m (run_ok hr h)
    ·trivial
    ·trivial
theorem early_m {n:Nat} {p:Program} {fr:Frame} {cs:List Frame} {d:Option Dying} {g:Nat} {w:World} (h:n ≤ w.drawn):GM n (early p fr cs d g w):=by
 have notYet:∀ w:World,n ≤ w.drawn → GM n (match w.heap[g]? with
  | some (.pending c elem)=>.go { frame:=fr,callers:=cs,status:=.running,dying:=d } { w with heap:=w.heap.setIfInBounds g (.cells c elem) }
  | _=>.ended (.stuck "early: the variable does not wait" (fr.pos p)) w):=by
  intro w h
  split
  ·exact h
  ·trivial
 unfold early
 simp only
 split
 ·exact notYet w h
 ·split
  ·trivial
  ·split
   ·exact notYet w h
   ·split
    ·exact notYet w h
    ·split
     ·trivial
     ·exact h
     ·trivial
     ·exact notYet w h
     ·split
      ·exact h
      ·split
       ·exact notYet w h
       ·split
        ·rename_i hr; exact notYet _ (run_ok hr h)
        ·rename_i hr; exact run_ok hr h
        ·trivial
theorem apply_m {n:Nat} {p:Program} {fr:Frame} {cs:List Frame} {d:Option Dying} {listen:Bool} {s:Sem Next} {w:World} (h:n ≤ w.drawn):GM n (stepG.apply p listen fr cs d s w):=by
 unfold stepG.apply
 simp only [Sem.runT_eq]
 have e:(if listen = true then (s.run p w,s.events p w #[]) else (s.run p w,#[])).1 = s.run p w:=by split <;> rfl
 rw [e]
 refine GM.after ?_
 split
 all_goals first
  | trivial
  | (rename_i hr; exact run_ok hr h)
  | (rename_i hr; exact run_halt hr h)
  | (rename_i hr; exact endFatal_m (run_halt hr h))
  | (rename_i hr; exact endThrow_m (run_halt hr h))
  | (rename_i hr; exact early_m (run_halt hr h))
  | (rename_i hr; have:=run_ok hr h; split <;> exact this; done)
  | (rename_i hr; have:=run_ok hr h; refine ite_m (endThrow_m this) this)
theorem oper_m {n:Nat} {p:Program} {fr:Frame} {cs:List Frame} {d:Option Dying} {listen:Bool} {w:World} (h:n ≤ w.drawn):GM n (stepG.oper p listen fr cs d w):=by
 unfold stepG.oper
 split
 ·trivial
 ·split
  ·exact apply_m h
  ·exact apply_m h
theorem ite_p {n:Nat} {c:Prop} [Decidable c] {x y:GStep} (h1:GM n x) (h2:GM n y):GM n (if c then x else y):=by split <;> assumption
theorem exec_m {n:Nat} {p:Program} {main listen:Bool} {fr:Frame} {cs:List Frame} {d:Option Dying} {w:World} (h:n ≤ w.drawn):GM n (stepG.exec p main listen fr cs d w):=by
 have leave:∀ (c:Prop) [Decidable c] (jump:Option Code),GM n (match fr.roundOf with
  | none=>if c then .go { frame:={ fr with mode:=.returning },callers:=cs,status:=.running,dying:=d } w else .ended (.stuck "exit, goto: no such block or label" (fr.pos p)) w
  | some l =>
   GStep.after (seen p fr.fn ((Instr.endRound l jump).events p w #[])) <| match (Instr.endRound l jump).run p w with
   | .ok v w=>doReturn p main fr cs d v w
   | .halt _ w=>.ended (.stuck "range over a function: no such loop" (fr.pos p)) w):=by
  intro c _ jump
  split
  ·exact ite_p h trivial
  ·refine GM.after ?_
   split
   ·rename_i hr; exact doReturn_m (run_ok hr h)
   ·trivial
 unfold stepG.exec
 simp only [Sem.runT_eq]
 split
 all_goals first
  | exact h
  | exact leave _ _
  | trivial
  | exact apply_m h
  | exact oper_m h
  | skip
 ·split
  ·exact h
  ·trivial
 ·cases exitTo _ _ with
  | none=>exact leave _ _
  | some k=>exact h
 ·cases gotoIn _ _ with
  | none=>exact leave _ _
  | some k=>exact h
 ·refine GM.after ?_
  split
  ·rename_i hr; exact apply_m (run_ok hr h)
  ·trivial
 ·refine GM.after ?_
  split
  ·rename_i hr; exact run_ok hr h
  ·rename_i hr; exact run_halt hr h
  ·trivial
 ·cases Extern.next _ with
  | none=>trivial
  | some e=>exact apply_m h
 ·split
  ·exact h
  ·split
   ·rename_i hr; exact run_ok hr h
   ·trivial
 ·split
  ·exact oper_m h
  ·exact h
theorem stepG_m {n:Nat} {p:Program} {main listen:Bool} {g:Goroutine} {w:World} (h:n ≤ w.drawn):GM n (stepG p main g w listen):=by
 unfold stepG
 simp only
 split
 ·exact die_m h
 ·exact exec_m h
 ·exact unwind_m h
theorem look_m {n:Nat} {p:Program} {gs:Array Goroutine} {rest:Rest} {w:World} (h:n ≤ w.drawn):SM n (Go.look p gs rest w):=by
 unfold Go.look
 simp only
 split
 ·split
  ·trivial
  ·split
   ·trivial
   ·split
    ·rename_i hr; have hx:=run_ok hr h; exact hx
    ·trivial
    ·trivial
 ·trivial
theorem serve_m {n:Nat} {p:Program} {m:Machine} {k:Nat} (h:n ≤ m.world.drawn):SM n (serve p m k):=by
 unfold serve
 split
 ·trivial
 ·exact h
 ·simp only
  split
  ·trivial
  ·exact h
theorem drain_m {w:World} {c:Nat}:(drain w c).2.drawn = w.drawn:=by
 unfold drain
 split <;> rfl
theorem retime_m {n:Nat} {m:Machine} {k:Nat} {t:Timer} {a b:Nat} (h:n ≤ m.world.drawn):n ≤ (retime m k t a b).2.world.drawn:=by
 unfold retime
 cases t.chan with
 | none=>exact h
 | some c =>
  show n ≤ (drain m.world c).2.drawn
  rw [drain_m]
  exact h
theorem timerOp_m {n:Nat} {m m':Machine} {op:TimerOp} {v:Value} (h:n ≤ m.world.drawn) (ho:timerOp m op = .ok (v,m')):n ≤ m'.world.drawn:=by
 unfold timerOp at ho
 split at ho
 ·split at ho
  ·cases ho; exact h
  ·split at ho
   ·split at ho
    ·cases ho
    ·cases ho; exact h
   ·cases ho
 ·unfold timerOp.named at ho
  split at ho
  ·cases ho; exact retime_m h
  ·cases ho
 ·split at ho
  ·rename_i m1 hm1
   have h1:n ≤ m1.world.drawn:=by
    unfold timerOp.opened at hm1
    split at hm1
    ·split at hm1
     ·cases hm1; exact h
     ·cases hm1
    ·cases hm1; exact h
   unfold timerOp.named at ho
   split at ho
   ·cases ho; exact retime_m h1
   ·cases ho
  ·cases ho
 ·cases ho; exact h
theorem waitingAt_m {n:Nat} {rest:Rest} {cases:Array CommCase} {w w':World} (h:n ≤ w.drawn) (hw:waitingAt rest cases w = some w'):n ≤ w'.drawn:=by
 unfold waitingAt at hw
 split at hw
 ·split at hw
  ·cases hw; exact h
  ·cases hw
 ·cases hw; exact h
theorem communicate_m {n:Nat} {p:Program} {rest:Rest} {gs:Array Goroutine} {i:Nat} {g:Goroutine} {cases:Array CommCase} {b:Bool} {sh:CommShape} {w:World} (h:n ≤ w.drawn):SM n (communicate p rest gs i g cases b sh w).1:=by
 unfold communicate
 simp only
 split
 ·trivial
 ·split
  ·split
   ·split
    ·rename_i hw; exact waitingAt_m h hw
    ·trivial
   ·exact h
  ·split
   ·trivial
   ·rename_i hr
    have h1:=run_ok hr h
    split
    ·split
     ·rename_i hr2; have hx:=run_halt hr2 h1; exact hx
     ·trivial
    ·exact h1
    ·exact h1
    ·split
     ·exact h1
     ·split
      ·rename_i hr2; have hx:=run_ok hr2 h1; exact hx
      ·trivial
    ·exact h1
    ·exact h1
    ·trivial
theorem runT_m {n:Nat} {p:Program} {m:Machine} {i:Nat} {listen:Bool} (h:n ≤ m.world.drawn):SM n (runT p m i listen).1:=by
 unfold runT
 simp only
 generalize m.gs.swapAt! i _ = q
 obtain ⟨g,gs⟩:=q
 simp only
 have hs:=stepG_m (n:=n) (p:=p) (main:=i == 0) (listen:=listen) (g:=g) (w:=m.world) h
 generalize stepG p (i == 0) g m.world listen = s at hs
 cases s with
 | ended=>trivial
 | comm=>exact communicate_m hs
 | go=>exact hs
 | spawn=>exact hs
 | count=>simp only; split <;> first | trivial | exact hs
 | alone=>exact hs
 | collect=>exact look_m hs
 | watch=>exact hs
 | newcoro=>exact hs
 | coroswitch g c ex w es =>
  simp only
  split
  ·exact hs
  ·exact hs
  ·trivial
 | timer g op w es =>
  simp only
  split
  ·rename_i v m' ho
   have hx:=timerOp_m (m:={ world:=w,gs,rest:=m.rest }) hs ho
   exact hx
  ·exact hs
  ·trivial
  ·trivial
def MM (n:Nat):Move → Prop
 | .goroutine m _=>n ≤ m.world.drawn
 | .machine s _=>SM n s
theorem endWith_ended (w:World) (fd:Nat) (t:ByteArray) (o:Outcome):∃ o' w' es,endWith w fd t o = .ended o' w' es:=by
 unfold endWith
 simp only
 repeat' split
 all_goals exact ⟨_,_,_,rfl⟩
theorem askOn_m {n:Nat} {p:Program} {m:Machine} (h:n ≤ m.world.drawn):MM n (askOn p m):=by
 have pick:∀ m:Machine,n ≤ m.world.drawn → ∀ rs:List Nat,MM n (match (choose (.sched rs.length)).run p m.world with
  | .halt _ w=>.machine (.ended (.stuck "sched" "") w)
  | .ok k world =>
   if rs.length ≤ 1 then .goroutine { m with world } (rs.getD k 0) else
   match (choose (.extern "sched.slice" 65536)).run p world with
   | .halt _ w=>.machine (.ended (.stuck "sched.slice" "") w)
   | .ok n world=>.goroutine { m with world,rest:={ m.rest with slice:=if n = 0 then none else some (rs.getD k 0,n) } } (rs.getD k 0)):=by
  intro m h rs
  split
  ·trivial
  ·rename_i hr
   split
   ·exact run_ok hr h
   ·split
    ·trivial
    ·rename_i hr2; have hx:=run_ok hr2 (run_ok hr h); exact hx
 unfold askOn
 simp only
 split
 ·trivial
 ·rename_i k world hr
  have h1:=run_ok hr h
  split
  ·exact serve_m (m:={ m with world }) h1
  ·split
   ·split
    ·exact h1
    ·split
     ·exact h1
     ·obtain ⟨o',w',es,e⟩:=endWith_ended world 2 (bytes ("fatal error: " ++ (if m.gs.any (fun g=>g.status == .blocked || g.status == .parked) then "all goroutines are asleep - deadlock!"
      else "no goroutines (main called runtime.Goexit) - deadlock!") ++ "\n")) (.fatal (if m.gs.any (fun g=>g.status == .blocked || g.status == .parked) then "all goroutines are asleep - deadlock!"
      else "no goroutines (main called runtime.Goexit) - deadlock!"))
      rw [e]
      trivial
   ·split
    ·exact pick { m with world } h1 _
    ·split
     ·trivial
     ·rename_i hr2; exact pick { m with world:=_ } (run_ok hr2 h1) _
     ·rename_i hr2; have hx:=run_ok hr2 h1; exact hx
     ·rename_i hr2; have hx:=run_ok hr2 h1; exact pick (Machine.advanceTo { m with world:=_ } _) hx _
theorem ask_m {n:Nat} {p:Program} {m:Machine} (h:n ≤ m.world.drawn):MM n (ask p m):=by
 unfold ask
 split
 ·split
  ·trivial
  ·rename_i hr
   have h1:=run_ok hr h
   split
   ·rename_i m' hl
    have:=look_m (n:=n) (p:=p) (gs:=m.gs) (rest:=m.rest) h1
    rw [hl] at this
    exact askOn_m this
   ·rename_i e hne
    exact look_m h1
  ·rename_i hr
   exact askOn_m (run_ok hr h)
 ·exact askOn_m h
theorem move_m {n:Nat} {p:Program} {m:Machine} (h:n ≤ m.world.drawn):MM n (move p m):=by
 unfold move
 split
 ·split
  ·exact h
  ·trivial
 ·split
  ·split
   ·exact h
   ·exact ask_m h
  ·exact ask_m h
theorem step_m {n:Nat} {p:Program} {m:Machine} (h:n ≤ m.world.drawn):SM n (step p m):=by
 unfold step stepT
 have:=move_m (p:=p) h
 cases hm:move p m with
 | goroutine m' i=>rw [hm] at this; exact runT_m this
 | machine s ops=>rw [hm] at this; exact this
theorem steps_m {p:Program} {m m':Machine} (h:Steps p m m'):m.world.drawn ≤ m'.world.drawn:=by
 obtain ⟨k,hk⟩:=h
 induction k generalizing m with
 | zero=>simp only [runN,Stepped.next.injEq] at hk; subst hk; exact Nat.le_refl _
 | succ k ih =>
  simp only [runN] at hk
  have h1:=step_m (p:=p) (m:=m) (Nat.le_refl _)
  cases hs:step p m with
  | next m1=>rw [hs] at hk h1; exact Nat.le_trans h1 (ih hk)
  | ended o w=>rw [hs] at hk; cases hk
theorem calls_drawn {P:Program} {f:FuncId} {args:Array Value} {w:World} {R:Ending → World → Prop} (h:Calls P f args w R) (hR:∀ e w',R e w' → ∃ v,e = .returned v):Calls P f args w fun e w'=>R e w' ∧ w.drawn ≤ w'.drawn:=by
 intro cs
 obtain ⟨e,w',fr,h1,h2,h3,h4⟩:=h cs
 obtain ⟨v,rfl⟩:=hR e w' h1
 exact ⟨_,w',fr,⟨h1,steps_m h2⟩,h2,h3,h4⟩
theorem below_grow {w w':World} (h:Below w.heap.size w w') (hd:w.drawn ≤ w'.drawn):∃ q os,w' = Go.Sort.grow (w.drewN q) os:=by
 refine ⟨w'.drawn - w.drawn,w'.heap.extract w.heap.size w'.heap.size,?_⟩
 obtain ⟨h1,h2,h3,h4,h5⟩:=h
 have hh:w'.heap = w.heap ++ w'.heap.extract w.heap.size w'.heap.size:=by
  apply Array.ext_getElem?
  intro i
  rw [Array.getElem?_append]
  split
  ·rename_i hi; exact h5 i hi
  ·rename_i hi
   rw [Array.getElem?_extract]
   by_cases hl:i < w'.heap.size
   ·rw [if_pos (by omega)]
    congr 1
    omega
   ·rw [if_neg (by omega)]
    exact Array.getElem?_eq_none (by omega)
 have hd':w.drawn + (w'.drawn - w.drawn) = w'.drawn:=by omega
 unfold Go.Sort.grow World.drewN
 cases w'
 simp only at *
 rw [hd',← hh,h1,h2,h3]
end Gv
namespace Gv
open Go Go.RowKit Go.Sort Go.Proofs
set_option linter.unusedVariables false
set_option linter.unusedSimpArgs false
def encOf (xs z:List Value) (k n i:Nat):List Value:=if i < n then (xs.drop (i * k)).take k else z
theorem encOf_len {xs z:List Value} {k n:Nat} (hx:xs.length = n * k) (hz:z.length = k) (i:Nat):(encOf xs z k n i).length = k:=by
 unfold encOf
 split
 ·rename_i h
  have:=Nat.mul_le_mul_right k (show i + 1 ≤ n from h)
  rw [Nat.add_mul,Nat.one_mul] at this
  rw [List.length_take,List.length_drop]
  omega
 ·exact hz
theorem encOf_at {xs z:List Value} {k n i j:Nat} (hx:xs.length = n * k) (hi:i < n) (hj:j < k):(encOf xs z k n i)[j]? = some (xs.getD (i * k + j) undef):=by
 have:=Nat.mul_le_mul_right k (show i + 1 ≤ n from hi)
 rw [Nat.add_mul,Nat.one_mul] at this
 unfold encOf
 rw [if_pos hi,List.getElem?_take,if_pos hj,List.getElem?_drop]
 have hlt:i * k + j < xs.length:=by omega
 simp [List.getD,List.getElem?_eq_getElem hlt]
theorem getElem!_of {l:List Value} {j:Nat} {v:Value} (h:l[j]? = some v):l[j]! = v:=by
 rw [List.getElem!_eq_getElem?_getD,h]; rfl
theorem flat_at {xs z:List Value} {k n:Nat} {d:Array Nat} (hx:xs.length = n * k) (hds:d.size = n) (hdp:∀ i,i < n → d[i]! < n) {i j:Nat} (hi:i < n) (hj:j < k) :
 (flatK (encOf xs z k n) k d)[i * k + j]! = xs.getD (d[i]! * k + j) undef:=by
 have:=Nat.mul_le_mul_right k (show i + 1 ≤ n from hi)
 rw [Nat.add_mul,Nat.one_mul] at this
 have h1:(i * k + j) / k = i:=by rw [Nat.add_comm,Nat.add_mul_div_right _ _ (by omega),Nat.div_eq_of_lt hj,Nat.zero_add]
 have h2:(i * k + j) % k = j:=by rw [Nat.add_comm,Nat.add_mul_mod_self_right,Nat.mod_eq_of_lt hj]
 rw [get_flatK _ _ _ _ (by rw [hds]; omega),h1,h2]
 exact getElem!_of (encOf_at hx (hdp i hi) hj)
section
variable {P:Program} {w:World} {P0:Nat → Prop} {e:TypeId} {k n cap g:Nat} {es:List (List PV)} {xs z:List Value} {cur:Array Value}
theorem sortWorld_other {α:Type} [Inhabited α] {enc:α → List Value} {d:Array α} {m b:Nat} {os:Array Obj} (hb:b < w.heap.size) (hg:b ≠ g):(sortWorldK enc k w g 0 m d os).heap[b]? = w.heap[b]?:=by
 unfold sortWorldK putRowK
 rw [heap_grow_old _ _ (by simpa [Sort.ahead] using hb)]
 simp [putRow,mapBlock,Array.getElem?_modify,Ne.symm hg,Sort.ahead]
theorem sortWorld_size {α:Type} [Inhabited α] {enc:α → List Value} {d:Array α} {m:Nat} {os:Array Obj}:w.heap.size ≤ (sortWorldK enc k w g 0 m d os).heap.size:=by
 unfold sortWorldK putRowK
 rw [size_grow,Sort.size_putRow]
 show w.heap.size ≤ w.heap.size + os.size
 exact Nat.le_add_right _ _
theorem sort_row {d:Array Nat} {m:Nat} {os:Array Obj} {w':World} (hk:0 < k) (hx:xs.length = n * k) (hb:w.heap[g]? = some (.cells cur e (0,0))) (hn:n ≤ cap) (hc:cap ≤ maxLen) (hcs:cur.size = cap * k)
 (hen:es.length = n) (hel:∀ (i:Nat) (el:List PV),es[i]? = some el → el.length = k ∧ ∀ (j:Nat) (p:PV),el[j]? = some p → p.flat = true ∧ flatV (xs.getD (i * k + j) undef) = true ∧ Rep w P0 p (xs.getD (i * k + j) undef))
 (hP:∀ b,P0 b → b < w.heap.size ∧ b ≠ g) (hds:d.size = n) (hdp:∀ i,i < n → d[i]! < n) (hw:w' = sortWorldK (encOf xs z k n) k w g 0 m d os) :
 w.grownBy w' (some g) ∧ RowAt w' (fun _=>True) (fun b=>(P0 b ∨ w.heap.size ≤ b) ∧ some g ≠ some b) e k (.slice (some ⟨g,0,none⟩) n cap) (d.toList.map fun i=>es.getD i []):=by
 have hgl:g < w.heap.size:=(Array.getElem?_eq_some_iff.1 hb).1
 have hF:=fun {i j:Nat} (hi:i < n) (hj:j < k)=>flat_at (z:=z) hx hds hdp hi hj
 have hFs:(flatK (encOf xs z k n) k d).size = n * k:=by rw [size_flatK,hds]
 have hg:w'.heap[g]? = some (.cells (putCells id 0 (flatK (encOf xs z k n) k d) cur) e (0,0)):=by
  rw [hw]
  unfold sortWorldK putRowK
  rw [heap_grow_old _ _ (by simpa [Sort.ahead] using hgl)]
  simp [putRow,mapBlock,Array.getElem?_modify,Sort.ahead,hb,onCells]
 generalize flatK (encOf xs z k n) k d = F at hF hFs hg
 have hsum:n * k ≤ cap * k:=Nat.mul_le_mul_right k hn
 refine ⟨⟨by rw [hw]; rfl,by rw [hw]; rfl,by rw [hw]; rfl,by rw [hw]; exact sortWorld_size,fun b hb' hne=>by rw [hw]; exact sortWorld_other hb' fun e=>hne (by rw [e])⟩,hk,F.toList,⟨by simp [hFs,hds],.inr ⟨g,cap,_,by simp [hds],Nat.zero_le _,hg,by simpa [hds] using hn,hc,by simpa [putCells] using hcs,?_⟩⟩,fun _ _=>trivial,fun i el hi=>?_⟩
 ·apply List.ext_getElem?
  intro i
  simp only [List.length_map,Array.length_toList,hds]
  rw [List.getElem?_take]
  split
  ·rename_i hi
   simp only [putCells,Array.getElem?_toList,Array.getElem?_mapIdx]
   have h1:cur[i]? = some (cur[i]'(by omega)):=Array.getElem?_eq_getElem _
   have h2:F[i]? = some (F[i]'(by omega)):=Array.getElem?_eq_getElem _
   rw [h1,h2]
   simp only [Option.map_some,Option.some.injEq]
   rw [if_pos ⟨Nat.zero_le _,by omega⟩]
   show F[i - 0]! = _
   rw [Nat.sub_zero,getElem!_pos F i (by omega)]
  ·rename_i hi
   rw [Array.getElem?_toList,Array.getElem?_eq_none (by omega)]
 ·rw [List.getElem?_map,Option.map_eq_some_iff] at hi
  obtain ⟨q,hq,rfl⟩:=hi
  have hlt:=(List.getElem?_eq_some_iff.1 hq).1
  rw [Array.length_toList,hds] at hlt
  rw [Array.getElem?_toList] at hq
  have hdi:d[i]! = q:=by rw [getElem!_def,hq]
  have hqn:q < n:=by rw [← hdi]; exact hdp i hlt
  have hes:es[q]? = some (es.getD q []):=by simp [List.getD,show q < es.length by omega]
  obtain ⟨f1,f2⟩:=hel q _ hes
  refine ⟨f1,fun j p hj=>?_⟩
  have hjl:=(List.getElem?_eq_some_iff.1 hj).1
  rw [f1] at hjl
  have hm:=Nat.mul_le_mul_right k (show i + 1 ≤ n from hlt)
  rw [Nat.add_mul,Nat.one_mul] at hm
  have e1:F.toList.getD (i * k + j) undef = xs.getD (q * k + j) undef:=by
   rw [← hdi,← hF hlt hjl]
   have hl:i * k + j < F.size:=by omega
   rw [getElem!_pos F _ hl]
   simp [List.getD,hl]
  rw [e1]
  obtain ⟨g1,g2,g3⟩:=f2 j p hj
  refine ⟨g1,g2,g3.keep fun b hb1 hb2=>?_⟩
  obtain ⟨h1,h2⟩:=hP b hb1
  exact ⟨⟨.inl hb1,fun e=>h2 (Option.some.inj e).symm⟩,by rw [hw]; exact sortWorld_other h1 h2⟩
theorem cmp_lays {C:FuncId} {enc:Nat → List Value} {el:Nat → List PV} {cf:Nat → Nat → Int} {size:Nat} (hP:∀ b,P0 b → b < w.heap.size ∧ b ≠ g)
 (hrep:∀ i,(el i).length = (enc i).length ∧ ∀ (j:Nat) (p:PV),(el i)[j]? = some p → p.flat = true ∧ Rep w P0 p ((enc i).getD j undef))
 (hfn:∀ x y,Gv.Fn P C [.agg (el x),.agg (el y)] (.raw (.int .i64 (cf x y)))):Go.Proofs.CmpLays P C #[] enc k cf g 0 size w:=by
 intro m os dk hs x y
 generalize hW:sortWorldK enc k w g 0 m dk os = W
 have hk:∀ b,P0 b → b < w.heap.size → P0 b ∧ W.heap[b]? = w.heap[b]?:=fun b hb _=>⟨hb,by rw [← hW]; exact sortWorld_other (hP b hb).1 (hP b hb).2⟩
 have hsz:w.heap.size ≤ W.heap.size:=by rw [← hW]; exact sortWorld_size
 have hag:∀ i,Rep W P0 (.agg (el i)) (.agg (enc i).toArray):=fun i =>
  .agg _ _ (by simpa using (hrep i).1) (fun j p hj=>((hrep i).2 j p hj).1) fun j p hj=>by
   have:=((hrep i).2 j p hj).2.keep hk
   simpa [Array.getD_eq_getD_getElem?,List.getD] using this
 have h:=(hfn x y).2 W P0 #[.agg (enc x).toArray,.agg (enc y).toArray] (fun b hb=>Nat.lt_of_lt_of_le (hP b hb).1 hsz) rfl (fun j p hj=>by
  match j,hj with
  | 0,hj=>simp at hj; subst hj; exact hag x
  | 1,hj=>simp at hj; subst hj; exact hag y
  | j + 2,hj=>simp at hj)
 have h2:=calls_drawn h fun e w' ⟨v,p,he,_⟩=>⟨v,he⟩
 rw [Array.append_empty]
 refine h2.mono ?_
 rintro e w' ⟨⟨v,p,rfl,rfl,hr,hB⟩,hd⟩
 cases hr
 obtain ⟨q,os',h3⟩:=below_grow hB hd
 exact ⟨rfl,q,os',h3⟩
end
end Gv
namespace Go.Proofs
open Go.Shelf
def Tryz.sortRat_ren:Go.Shelf.Ren:=⟨fun | 6=>108 | 15=>170 | 14=>169 | 28=>221 | 29=>189 | 20=>213 | 21=>214 | 22=>215 | 23=>216 | 24=>217 | 25=>218 | 26=>219 | 27=>220 | 46=>250 | 47=>251 | 48=>252 | 49=>253 | 50=>254 | 57=>265 | n=>n,fun | 22=>62 | 24=>27 | 25=>48 | 3=>3 | 39=>213 | 0=>0 | 53=>194 | 55=>146 | 4=>4 | 46=>279 | 45=>278 | 50=>283 | 5=>5 | 9=>9 | 66=>316 | 70=>320 | 76=>330 | 77=>331 | n=>n,fun | n=>n⟩
theorem Tryz.sortRat:Go.Proofs.SlLaysF0.n6 Tryz.prog Tryz.sortRat_ren:={
 mixed:=by kernel_rfl
 f6:=⟨Tryz.f108.name,by decide,Tryz.func108.trans (congrArg some (by kernel_rfl))⟩
 f14:=⟨Tryz.f169.name,by decide,Tryz.func169.trans (congrArg some (by kernel_rfl))⟩
 f15:=Tryz.func170.trans (congrArg some (by kernel_rfl))
 f20:=⟨Tryz.f213.name,by decide,Tryz.func213.trans (congrArg some (by kernel_rfl))⟩
 f21:=⟨Tryz.f214.name,by decide,Tryz.func214.trans (congrArg some (by kernel_rfl))⟩
 f22:=⟨Tryz.f215.name,by decide,Tryz.func215.trans (congrArg some (by kernel_rfl))⟩
 f23:=⟨Tryz.f216.name,by decide,Tryz.func216.trans (congrArg some (by kernel_rfl))⟩
 f24:=⟨Tryz.f217.name,by decide,Tryz.func217.trans (congrArg some (by kernel_rfl))⟩
 f25:=⟨Tryz.f218.name,by decide,Tryz.func218.trans (congrArg some (by kernel_rfl))⟩
 f26:=⟨Tryz.f219.name,by decide,Tryz.func219.trans (congrArg some (by kernel_rfl))⟩
 f27:=⟨Tryz.f220.name,by decide,Tryz.func220.trans (congrArg some (by kernel_rfl))⟩
 f28:=Tryz.func221.trans (congrArg some (by kernel_rfl))
 f29:=Tryz.func189.trans (congrArg some (by kernel_rfl))
 f46:=⟨Tryz.f250.name,by decide,Tryz.func250.trans (congrArg some (by kernel_rfl))⟩
 f47:=Tryz.func251.trans (congrArg some (by kernel_rfl))
 f48:=Tryz.func252.trans (congrArg some (by kernel_rfl))
 f49:=⟨Tryz.f253.name,by decide,Tryz.func253.trans (congrArg some (by kernel_rfl))⟩
 f50:=⟨Tryz.f254.name,by decide,Tryz.func254.trans (congrArg some (by kernel_rfl))⟩
 f57:=⟨Tryz.f265.name,by decide,Tryz.func265.trans (congrArg some (by kernel_rfl))⟩
 t0:=Tryz.underlying0
 a0:=Tryz.isAgg0
 z0:=Tryz.sizeOf0
 v0:=Tryz.zeroValue0
 t3:=Tryz.underlying3
 a3:=Tryz.isAgg3
 z3:=Tryz.sizeOf3
 v3:=Tryz.zeroValue3
 t4:=Tryz.underlying4
 a4:=Tryz.isAgg4
 z4:=Tryz.sizeOf4
 v4:=Tryz.zeroValue4
 t5:=Tryz.underlying5
 a5:=Tryz.isAgg5
 z5:=Tryz.sizeOf5
 v5:=Tryz.zeroValue5
 t9:=Tryz.underlying9
 a9:=Tryz.isAgg9
 z9:=Tryz.sizeOf9
 v9:=Tryz.zeroValue9
 t22:=Tryz.underlying62
 a22:=Tryz.isAgg62
 z22:=Tryz.sizeOf62
 v22:=Tryz.zeroValue62
 t25:=Tryz.underlying48
 a25:=Tryz.isAgg48
 z25:=Tryz.sizeOf48
 v25:=Tryz.zeroValue48
 t39:=Tryz.underlying213
 a39:=Tryz.isAgg213
 z39:=Tryz.sizeOf213
 v39:=Tryz.zeroValue213
 t45:=Tryz.underlying278
 a45:=Tryz.isAgg278
 z45:=Tryz.sizeOf278
 v45:=Tryz.zeroValue278
 t46:=Tryz.underlying279
 a46:=Tryz.isAgg279
 z46:=Tryz.sizeOf279
 v46:=Tryz.zeroValue279
 t50:=Tryz.underlying283
 a50:=Tryz.isAgg283
 z50:=Tryz.sizeOf283
 v50:=Tryz.zeroValue283
 t53:=Tryz.underlying194
 a53:=Tryz.isAgg194
 z53:=Tryz.sizeOf194
 v53:=Tryz.zeroValue194
 t55:=Tryz.underlying146
 a55:=Tryz.isAgg146
 z55:=Tryz.sizeOf146
 v55:=Tryz.zeroValue146
 t66:=Tryz.underlying316
 a66:=Tryz.isAgg316
 z66:=Tryz.sizeOf316
 v66:=Tryz.zeroValue316
 t70:=Tryz.underlying320
 a70:=Tryz.isAgg320
 z70:=Tryz.sizeOf320
 v70:=Tryz.zeroValue320
 t76:=Tryz.underlying330
 a76:=Tryz.isAgg330
 z76:=Tryz.sizeOf330
 v76:=Tryz.zeroValue330
 t77:=Tryz.underlying331
 a77:=Tryz.isAgg331
 z77:=Tryz.sizeOf331
 v77:=Tryz.zeroValue331 }
end Go.Proofs
namespace Gv
set_option linter.unusedVariables false
set_option linter.unusedSimpArgs false
def Rising (l:List Rat):Prop:=l.Pairwise (· < ·)
def qput:List Rat → Rat → List Rat
 | [],v=>[v]
 | a :: l,v=>if a < v then a :: qput l v else if a = v then a :: l else v :: a :: l
theorem qput_mem {x v:Rat}:∀ {l:List Rat},x ∈ qput l v ↔ x = v ∨ x ∈ l
 | []=>by simp [qput]
 | a :: l=>by
  unfold qput
  split
  ·simp only [List.mem_cons,qput_mem (l:=l)]
   grind
  ·split
   ·rename_i h
    subst h
    simp only [List.mem_cons]
    grind
   ·simp only [List.mem_cons]
theorem qput_rising {v:Rat}:∀ {l:List Rat},Rising l → Rising (qput l v)
 | [],_=>by simp [qput,Rising]
 | a :: l,h=>by
  unfold Rising at h
  obtain ⟨h1,h2⟩:=List.pairwise_cons.1 h
  unfold qput
  split
  ·rename_i c
   refine List.pairwise_cons.2 ⟨fun x hx=>?_,qput_rising h2⟩
   rcases qput_mem.1 hx with rfl | hx
   ·exact c
   ·exact h1 x hx
  ·split
   ·exact h
   ·rename_i c1 c2
    have c:v < a:=by grind
    refine List.pairwise_cons.2 ⟨fun x hx=>?_,h⟩
    rcases List.mem_cons.1 hx with rfl | hx
    ·exact c
    ·have:=h1 x hx
     grind
theorem rising_ext:∀ {l m:List Rat},Rising l → Rising m → (∀ x,x ∈ l ↔ x ∈ m) → l = m
 | [],[],_,_,_=>rfl
 | [],b :: m,_,_,h=>absurd ((h b).2 (List.mem_cons_self ..)) (by simp)
 | a :: l,[],_,_,h=>absurd ((h a).1 (List.mem_cons_self ..)) (by simp)
 | a :: l,b :: m,hl,hm,h=>by
  obtain ⟨l1,l2⟩:=List.pairwise_cons.1 hl
  obtain ⟨m1,m2⟩:=List.pairwise_cons.1 hm
  have e:a = b:=by
   rcases List.mem_cons.1 ((h a).1 (List.mem_cons_self ..)) with h1 | h1
   ·exact h1
   ·rcases List.mem_cons.1 ((h b).2 (List.mem_cons_self ..)) with h2 | h2
    ·exact h2.symm
    ·have:=l1 b h2
     have:=m1 a h1
     grind
  subst e
  congr 1
  refine rising_ext l2 m2 fun x=>⟨fun hx=>?_,fun hx=>?_⟩
  ·have:=l1 x hx
   rcases List.mem_cons.1 ((h x).1 (List.mem_cons_of_mem _ hx)) with e | e
   ·subst e; grind
   ·exact e
  ·have:=m1 x hx
   rcases List.mem_cons.1 ((h x).2 (List.mem_cons_of_mem _ hx)) with e | e
   ·subst e; grind
   ·exact e
def norm (l:List Rat):List Rat:=l.foldl qput []
theorem foldl_put_mem {x:Rat}:∀ {l m:List Rat},x ∈ l.foldl qput m ↔ x ∈ l ∨ x ∈ m
 | [],m=>by simp
 | a :: l,m=>by
  rw [List.foldl_cons,foldl_put_mem (l:=l),qput_mem,List.mem_cons]
  grind
theorem foldl_put_rising:∀ {l m:List Rat},Rising m → Rising (l.foldl qput m)
 | [],m,h=>h
 | a :: l,m,h=>foldl_put_rising (l:=l) (qput_rising h)
theorem norm_mem {x:Rat} {l:List Rat}:x ∈ norm l ↔ x ∈ l:=by unfold norm; rw [foldl_put_mem]; simp
theorem norm_rising {l:List Rat}:Rising (norm l):=foldl_put_rising List.Pairwise.nil
theorem norm_of {l m:List Rat} (hm:Rising m) (h:∀ x,x ∈ m ↔ x ∈ l):m = norm l:=rising_ext hm norm_rising fun x=>by rw [norm_mem,h]
theorem norm_length {l:List Rat}:(norm l).length ≤ l.length:=by
 have key:∀ (l m:List Rat),(l.foldl qput m).length ≤ l.length + m.length:=by
  intro l
  induction l with
  | nil=>intro m; simp
  | cons a l ih =>
   intro m
   rw [List.foldl_cons]
   have h1:=ih (qput m a)
   have h2:∀ (m:List Rat),(qput m a).length ≤ m.length + 1:=by
    intro m
    induction m with
    | nil=>simp [qput]
    | cons b m ih2 =>
     unfold qput
     split
     ·simp only [List.length_cons]; omega
     ·split <;> simp only [List.length_cons] <;> omega
   have:=h2 m
   simp only [List.length_cons]
   omega
 have:=key l []
 simpa [norm] using this
def qsort (l:List Rat):List Rat:=l.mergeSort fun a b=>decide (a ≤ b)
def Up (l:List Rat):Prop:=l.Pairwise (· ≤ ·)
theorem qsort_perm (l:List Rat):(qsort l).Perm l:=List.mergeSort_perm _ _
theorem qsort_up (l:List Rat):Up (qsort l):=by
 have h:=List.pairwise_mergeSort (le:=fun a b:Rat=>decide (a ≤ b)) (fun a b c=>by simp only [decide_eq_true_eq]; grind) (fun a b=>by simp only [Bool.or_eq_true,decide_eq_true_eq]; grind) l
 exact h.imp fun h=>by simpa using h
theorem up_ext:∀ {l m:List Rat},Up l → Up m → l.Perm m → l = m
 | [],m,_,_,h=>(h.symm.eq_nil).symm
 | a :: l,[],_,_,h=>h.eq_nil
 | a :: l,b :: m,hl,hm,h=>by
  obtain ⟨l1,l2⟩:=List.pairwise_cons.1 hl
  obtain ⟨m1,m2⟩:=List.pairwise_cons.1 hm
  have e:a = b:=by
   rcases List.mem_cons.1 (h.mem_iff.1 (List.mem_cons_self ..)) with h1 | h1
   ·exact h1
   ·rcases List.mem_cons.1 (h.mem_iff.2 (List.mem_cons_self ..)) with h2 | h2
    ·exact h2.symm
    ·have:=l1 b h2
     have:=m1 a h1
     grind
  subst e
  rw [up_ext l2 m2 (List.Perm.cons_inv h)]
def qrest (p:Rat):List Rat → List Rat
 | []=>[]
 | b :: l=>if b = p then qrest b l else b :: qrest b l
def qcompact:List Rat → List Rat
 | []=>[]
 | a :: l=>a :: qrest a l
theorem qrest_mem {x:Rat}:∀ {l:List Rat} {p:Rat},(x ∈ qrest p l ∨ x = p) ↔ (x ∈ l ∨ x = p)
 | [],p=>by simp [qrest]
 | b :: l,p=>by
  have ih:=qrest_mem (x:=x) (l:=l) (p:=b)
  unfold qrest
  split
  ·rename_i h
   subst h
   rw [ih,List.mem_cons]
   grind
  ·rw [List.mem_cons,List.mem_cons]
   grind
theorem qcompact_mem {x:Rat}:∀ {l:List Rat},x ∈ qcompact l ↔ x ∈ l
 | []=>Iff.rfl
 | a :: l=>by
  have:=qrest_mem (x:=x) (l:=l) (p:=a)
  unfold qcompact
  rw [List.mem_cons,List.mem_cons]
  grind
theorem qrest_rising:∀ {l:List Rat} {p:Rat},Up (p :: l) → Rising (p :: qrest p l)
 | [],p,_=>by simp [qrest,Rising]
 | b :: l,p,h=>by
  obtain ⟨h1,h2⟩:=List.pairwise_cons.1 h
  have ih:=qrest_rising (l:=l) (p:=b) h2
  unfold qrest
  split
  ·rename_i e
   subst e
   exact ih
  ·rename_i e
   have hpb:=h1 b (List.mem_cons_self ..)
   refine List.pairwise_cons.2 ⟨fun x hx=>?_,ih⟩
   rcases List.mem_cons.1 hx with rfl | hx
   ·grind
   ·have:=(List.pairwise_cons.1 ih).1 x hx
    grind
theorem qcompact_rising:∀ {l:List Rat},Up l → Rising (qcompact l)
 | [],_=>List.Pairwise.nil
 | a :: l,h=>qrest_rising h
theorem qcompact_sort (l:List Rat):qcompact (qsort l) = norm l:=norm_of (qcompact_rising (qsort_up l)) fun x=>by rw [qcompact_mem,(qsort_perm l).mem_iff]
end Gv
namespace Gv
open Go
set_option linter.unusedVariables false
set_option linter.unusedSimpArgs false
def qs3 (q:Rat):List PV:=[.raw (.bool (decide (q.num < 0))),nat q.num.natAbs,nat q.den]
def qlist (l:List Rat):PV:=.sl (l.map qs3)
def qi (l:List Rat) (i:Nat):Rat:=l.getD i 0
theorem qs3_flat (q:Rat):∀ x ∈ qs3 q,x.flat = true:=by
 intro x hx
 simp only [qs3,List.mem_cons,List.not_mem_nil,or_false] at hx
 rcases hx with rfl | rfl | rfl <;> rfl
theorem qi_some {l:List Rat} {i:Nat} (h:i < l.length):l[i]? = some (qi l i):=by simp [qi,List.getD,h]
theorem qs3_at {l:List Rat} {i:Nat} (h:i < l.length):(l.map qs3)[i]? = some (qs3 (qi l i)):=by rw [List.getElem?_map,qi_some h]; rfl
theorem qi_mem {l:List Rat} {i:Nat} (h:i < l.length):qi l i ∈ l:=List.mem_of_getElem? (qi_some h)
section
variable {P:Program} {R:PV → Prop} {ρ:List PV} {C:List (List PV → Prop)} {k:VC} {args:List SV}
def ixAt (n:Nat) (us:List PV):Nat:=match us[n]? with
 | some (.raw (.int _ i))=>i.toNat
 | _=>0
theorem ok_forN {vars:List SV} (n N i0:Nat) (J:Nat → List PV → Prop) (h0:J i0 (pvs ρ vars)) (hJ:∀ i us,J i us → us[n]? = some (.raw (.int .i64 (i:Int))))
 (hs:∀ (i:Nat) (us:List PV) (D:List PV → Prop),J i us → (∀ i' us',i < i' → i < N → J i' us' → D us') → k.ok P R (ρ ++ us) (D :: C)):(VC.loop vars k).ok P R ρ C:=by
 refine ⟨fun us=>∃ i,J i us,fun us=>N - ixAt n us,⟨i0,h0⟩,?_⟩
 rintro us _ ⟨i,h⟩
 refine hs i us _ h fun i' us' hlt hN h'=>⟨⟨i',h'⟩,?_⟩
 show N - ixAt n us' < N - ixAt n us
 unfold ixAt
 rw [hJ _ _ h,hJ _ _ h']
 simp only [Int.toNat_natCast]
 omega
theorem ok_vsl {n m:Nat} {es:List (List PV)} {kk:IntKind} (hp:pvs ρ args = [.sl es,.raw (.int kk (m:Int))]) (hm:m ≤ es.length) (h3:∀ x ∈ es,x.length = n) (hk:k.ok P R (ρ ++ [.tup [.raw (.int .i64 (m:Int)),.raw (.int .i64 ((es.length - m:Nat):Int))]]) C):(VC.prim (.vsl n false) args k).ok P R ρ C:=by
 refine ⟨_,?_,hk⟩
 rw [hp]
 simp only [Prim.ev,idxOf,Bool.false_eq_true,if_false,Int.toNat_natCast,Int.natCast_nonneg,if_true]
 rw [if_pos ⟨hm,Nat.le_refl _,List.all_eq_true.2 fun x hx=>by simpa using h3 x hx⟩]
theorem ok_vix {a b i:Nat} (hp:pvs ρ args = [.raw (.int .i64 (a:Int)),.raw (.int .i64 (b:Int)),.raw (.int .i64 (i:Int))]) (hi:i < b) (hk:k.ok P R (ρ ++ [.raw (.int .i64 ((a + i:Nat):Int))]) C):(VC.prim .vix args k).ok P R ρ C:=by
 refine ⟨_,?_,hk⟩
 rw [hp]
 simp only [Prim.ev,idxOf,Int.toNat_natCast,Int.natCast_nonneg,if_true]
 rw [if_pos hi]
theorem ok_clr {n a b:Nat} {z:List Value} {es:List (List PV)} (hp:pvs ρ args = [.sl es,.raw (.int .i64 (a:Int)),.raw (.int .i64 (b:Int))]) (hab:a + b ≤ es.length) (hz:z.length = n) (hf:z.all flatV = true) (h3:∀ x ∈ es,x.length = n)
 (hk:k.ok P R (ρ ++ [.sl (es.take a ++ List.replicate b (z.map pvOf) ++ es.drop (a + b))]) C):(VC.prim (.clr n z) args k).ok P R ρ C:=by
 refine ⟨_,?_,hk⟩
 rw [hp]
 simp only [Prim.ev,idxOf,Int.toNat_natCast,Int.natCast_nonneg,if_true]
 rw [if_pos ⟨hab,hz,hf,List.all_eq_true.2 fun x hx=>by simpa using h3 x hx⟩]
theorem ok_rslT {n b:Nat} {es:List (List PV)} {kk:IntKind} (hp:pvs ρ args = [.sl es,.raw (.int kk (b:Int))]) (hb:b ≤ es.length) (h3:∀ x ∈ es,x.length = n) (hk:k.ok P R (ρ ++ [.sl (es.take b)]) C):(VC.prim (.rsl n false true false) args k).ok P R ρ C:=by
 refine ⟨_,?_,hk⟩
 rw [hp]
 simp [Prim.ev,idxOf]
 exact ⟨hb,h3⟩
theorem ok_dec {n:Nat} (hp:pvs ρ args = [.raw (.int .i64 (n:Int)),.raw (.int .i64 1)]) (hn:1 ≤ n) (hl:n < 9223372036854775808) (hk:k.ok P R (ρ ++ [.raw (.int .i64 ((n - 1:Nat):Int))]) C):(VC.prim (.op2 .sub false) args k).ok P R ρ C :=
 ok_sub hp _ (by have:=wrap_nat (n:=n - 1) (by omega); rw [← this,show ((n:Int) - 1) = ((n - 1:Nat):Int) by omega]) hk
end
def fidx (d:Rat → Bool):List Rat → Nat
 | []=>0
 | a :: l=>if d a then 0 else fidx d l + 1
theorem fidx_le (d:Rat → Bool):∀ l,fidx d l ≤ l.length
 | []=>Nat.le_refl _
 | a :: l=>by
  have:=fidx_le d l
  unfold fidx
  split <;> simp only [List.length_cons] <;> omega
theorem fidx_lt {d:Rat → Bool}:∀ {l:List Rat} {i:Nat},i < fidx d l → d (qi l i) = false
 | [],i,h=>by simp [fidx] at h
 | a :: l,i,h=>by
  unfold fidx at h
  split at h
  ·omega
  ·rename_i c
   cases i with
   | zero=>simpa [qi] using c
   | succ i=>have:=fidx_lt (d:=d) (l:=l) (i:=i) (by omega); simpa [qi] using this
theorem fidx_at {d:Rat → Bool}:∀ {l:List Rat},fidx d l < l.length → d (qi l (fidx d l)) = true
 | [],h=>by simp at h
 | a :: l,h=>by
  unfold fidx at h ⊢
  split
  ·rename_i c; simpa [qi] using c
  ·rename_i c
   rw [if_neg c] at h
   have:=fidx_at (l:=l) (by simpa using h)
   simpa [qi] using this
def qidx (d:Rat → Bool) (l:List Rat):Int:=if fidx d l < l.length then (fidx d l:Int) else -1
theorem take_snoc {l:List Rat} {m:Nat} (h:m < l.length):l.take (m + 1) = l.take m ++ [qi l m]:=by
 rw [List.take_add_one,qi_some h]; rfl
theorem qrest_snoc {x:Rat}:∀ {l:List Rat} {p:Rat},qrest p (l ++ [x]) = qrest p l ++ if x = l.getLastD p then [] else [x]
 | [],p=>rfl
 | b :: l,p=>by
  simp only [List.cons_append,qrest,List.getLastD_cons,qrest_snoc (l:=l)]
  split <;> rfl
theorem qcompact_snoc {l:List Rat} {m:Nat} (h:m < l.length) (hm:1 ≤ m):qcompact (l.take (m + 1)) = qcompact (l.take m) ++ if qi l m = qi l (m - 1) then [] else [qi l m]:=by
 rw [take_snoc h]
 cases hl:l.take m with
 | nil=>have:=congrArg List.length hl; rw [List.length_take,List.length_nil] at this; omega
 | cons a t =>
  have hlast:t.getLastD a = qi l (m - 1):=by
   have h1:(a :: t).getLastD 0 = t.getLastD a:=List.getLastD_cons ..
   rw [← h1,← hl,List.getLastD_eq_getLast?,List.getLast?_eq_getElem?,List.length_take,List.getElem?_take,if_pos (by omega),show min m l.length - 1 = m - 1 by omega,qi_some (by omega)]
   rfl
  rw [List.cons_append]
  show a :: qrest a (t ++ [qi l m]) = (a :: qrest a t) ++ _
  rw [qrest_snoc,hlast,List.cons_append]
theorem qcompact_apart {l:List Rat}:∀ {m:Nat},1 ≤ m → m ≤ l.length → (∀ i,1 ≤ i → i < m → qi l i ≠ qi l (i - 1)) → qcompact (l.take m) = l.take m
 | 0,h,_,_=>by omega
 | 1,_,h,_=>by
  cases l with
  | nil=>simp at h
  | cons a l=>rfl
 | m + 2,_,h,hd=>by
  rw [qcompact_snoc (by omega) (by omega),if_neg (hd (m + 1) (by omega) (by omega)),qcompact_apart (m:=m + 1) (by omega) (by omega) (fun i h1 h2=>hd i h1 (by omega)),← take_snoc (by omega)]
theorem qcompact_len {l:List Rat} {k0:Nat} (h0:1 ≤ k0) (he:qi l k0 = qi l (k0 - 1)):∀ j,1 ≤ j → k0 + j ≤ l.length → (qcompact (l.take (k0 + j))).length ≤ k0 + j - 1
 | 0,h,_=>by omega
 | 1,_,h=>by
  have h1:∀ m,m ≤ l.length → (qcompact (l.take m)).length ≤ m:=by
   intro m hm
   have h2:∀ (t:List Rat) (p:Rat),(qrest p t).length ≤ t.length:=by
    intro t
    induction t with
    | nil=>intro p; exact Nat.le_refl _
    | cons b t ih =>
     intro p
     have:=ih b
     unfold qrest
     split <;> simp only [List.length_cons] <;> omega
   cases hl:l.take m with
   | nil=>simp [qcompact]
   | cons a t =>
    have h3:=congrArg List.length hl
    rw [List.length_take,List.length_cons] at h3
    have:=h2 t a
    simp only [qcompact,List.length_cons]
    omega
  rw [qcompact_snoc (by omega) h0,if_pos he,List.append_nil]
  have:=h1 k0 (by omega)
  omega
 | j + 2,_,h=>by
  have ih:=qcompact_len h0 he (j + 1) (by omega) (by omega)
  rw [show k0 + (j + 2) = (k0 + (j + 1)) + 1 by omega,qcompact_snoc (by omega) (by omega),List.length_append]
  split <;> simp only [List.length_nil,List.length_cons] <;> omega
theorem set_take {α:Type} {l:List α} {i:Nat} {x:α} (h:i < l.length):(l.set i x).take (i + 1) = l.take i ++ [x]:=by
 rw [List.take_add_one,List.take_set_of_le (Nat.le_refl _),List.getElem?_set_self h]; rfl
theorem all3 (l:List Rat):∀ e ∈ l.map qs3,e.length = 3:=by
 intro e he
 obtain ⟨q,_,rfl⟩:=List.mem_map.1 he
 rfl
theorem set_all3 {es:List (List PV)} {i:Nat} {x:List PV} (h:∀ e ∈ es,e.length = 3) (hx:x.length = 3):∀ e ∈ es.set i x,e.length = 3:=by
 intro e he
 rcases List.mem_or_eq_of_mem_set he with h1 | h1
 ·exact h e h1
 ·rw [h1]; exact hx
theorem clr_all3 {es:List (List PV)} {a b:Nat} {z:List PV} (h:∀ e ∈ es,e.length = 3) (hz:z.length = 3):∀ e ∈ es.take a ++ List.replicate b z ++ es.drop (a + b),e.length = 3:=by
 intro e he
 rcases List.mem_append.1 he with he | he
 ·rcases List.mem_append.1 he with he | he
  ·exact h e (List.mem_of_mem_take he)
  ·rw [(List.mem_replicate.1 he).2]; exact hz
 ·exact h e (List.mem_of_mem_drop he)
end Gv
namespace Go.Proofs.YtcpgflbfjplheaaGreatDoor
open Go Go.RowKit Gs Gv
set_option linter.unusedVariables false
theorem index_rat {fv:PV} {d:Rat → Bool} {qs:List Rat} (hfl:fv.flat = true) (hd:∀ q ∈ qs,FnV Tryz.prog fv [qc q] (.raw (.bool (d q)))) (hn:qs.length ≤ 1000000) :
 Gv.Fn Tryz.prog 145 [.sl (qs.map qs3),fv] (.raw (.int .i64 (qidx d qs))):=by
 refine Fn.intro mixed vc_slices_IndexFunc_api_Rat_api_Rat (by simp only [fitsAll,fits,hfl]; rfl) ?_
 refine ok_lenS (es:=qs.map qs3) rfl (qs.length:Int) (by simp) ?_
 try simp only [nr]
 refine ok_for qs.length (fun i us=>us = [.raw (.int .i64 (i:Int))] ∧ ∀ j,j < i → d (qi qs j) = false) ⟨rfl,fun j h=>by omega⟩ (fun i us h=>⟨_,h.1⟩) ?_
 try simp only [nr]
 rintro i us D hi ⟨rfl,hf⟩ hD
 try simp only [nr]
 refine ok_lss rfl (decide (i < qs.length)) (by simp) ?_
 try simp only [nr]
 refine ok_ite rfl (fun h0=>?_) (fun h0=>?_)
 ·have hlt:i < qs.length:=of_decide_eq_true h0
  refine ok_idx rfl (qs3_at hlt) rfl ?_
  try simp only [nr]
  refine ok_ld rfl rfl ?_
  try simp only [nr]
  refine ok_callv (hd _ (qi_mem hlt)) rfl rfl rfl ?_
  try simp only [nr]
  refine ok_ite rfl (fun h1=>?_) (fun h1=>?_)
  ·refine ok_ret ?_ rfl
   have h2:=fidx_le d qs
   have e:fidx d qs = i:=by
    rcases Nat.lt_trichotomy (fidx d qs) i with c | c | c
    ·have:=fidx_at (d:=d) (l:=qs) (by omega)
     rw [hf _ c] at this
     cases this
    ·exact c
    ·have:=fidx_lt c
     rw [h1] at this
     cases this
   unfold qidx
   rw [e,if_pos hlt]
   rfl
  ·refine ok_inc (n:=i) rfl (by omega) ?_
   try simp only [nr]
   exact ok_again rfl (hD _ hlt ⟨rfl,fun j hj=>by
    rcases Nat.lt_succ_iff_lt_or_eq.1 hj with c | c
    ·exact hf j c
    ·rw [c]; exact h1⟩)
 ·have hge:i = qs.length:=by have:=of_decide_eq_false h0; omega
  refine ok_ret ?_ rfl
  have:¬fidx d qs < qs.length:=fun c=>by
   have h3:=fidx_at c
   rw [hf _ (by omega)] at h3
   cases h3
  unfold qidx
  rw [if_neg this]
  rfl
theorem delete_rat {fv:PV} {d:Rat → Bool} {qs:List Rat} (hfl:fv.flat = true) (hd:∀ q ∈ qs,FnV Tryz.prog fv [qc q] (.raw (.bool (d q)))) (hn:qs.length ≤ 1000000) :
 FnB Tryz.prog 80 27 3 (qs.map qs3) [fv] (· = .sl ((qs.filter fun q=>!d q).map qs3)):=by
 refine FnB.intro mixed vc_slices_DeleteFunc_api_Rat_api_Rat_back (by decide) (by simp only [fitsAll,fits,hfl]; rfl) ?_
 refine ok_call (index_rat hfl hd hn) rfl rfl ?_
 try simp only [nr]
 refine ok_eq rfl (decide (qidx d qs = -1)) rfl ?_
 try simp only [nr]
 refine ok_ite rfl (fun h0=>?_) (fun h0=>?_)
 ·have h1:qidx d qs = -1:=of_decide_eq_true h0
  refine ok_ret ?_ rfl
  have h2:¬fidx d qs < qs.length:=fun c=>by
   unfold qidx at h1
   rw [if_pos c] at h1
   omega
  have h3:(qs.filter fun q=>!d q) = qs:=by
   rw [List.filter_eq_self]
   intro q hq
   obtain ⟨i,hi⟩:=List.mem_iff_getElem?.1 hq
   have hlt:=(List.getElem?_eq_some_iff.1 hi).1
   rw [qi_some hlt] at hi
   cases hi
   rw [fidx_lt (d:=d) (by omega)]
   rfl
  rw [h3]
  rfl
 ·have h1:qidx d qs ≠ -1:=of_decide_eq_false h0
  have hlt:fidx d qs < qs.length:=Classical.byContradiction fun c=>h1 (by unfold qidx; rw [if_neg c])
  have e1:qidx d qs = (fidx d qs:Int):=by unfold qidx; rw [if_pos hlt]
  have hff:=@fidx_lt d qs
  have hfa:=fidx_at hlt
  rw [e1]
  generalize fidx d qs = r at hlt hff hfa
  refine ok_inc (n:=r) rfl (by omega) ?_
  try simp only [nr]
  have t0:(qs.take (r + 1)).filter (fun q=>!d q) = qs.take r:=by
   rw [take_snoc hlt,List.filter_append,List.filter_eq_self.2 fun q hq=>?_,List.filter_cons,hfa]
   ·simp
   ·obtain ⟨i,hi⟩:=List.mem_iff_getElem?.1 hq
    rw [List.getElem?_take] at hi
    split at hi
    ·rename_i c
     rw [qi_some (by omega)] at hi
     cases hi
     rw [hff c]
     rfl
    ·cases hi
  refine ok_forN 1 qs.length (r + 1) (fun j us=>∃ es,us = [.raw (.int .i64 ((((qs.take j).filter fun q=>!d q).length:Nat):Int)),.raw (.int .i64 (j:Int)),.sl es] ∧ es.length = qs.length ∧ (∀ e ∈ es,e.length = 3) ∧ j ≤ qs.length ∧ ((qs.take j).filter fun q=>!d q).length < j ∧ es.take ((qs.take j).filter fun q=>!d q).length = ((qs.take j).filter fun q=>!d q).map qs3 ∧ ∀ p,j ≤ p → es[p]? = (qs.map qs3)[p]?)
   ⟨qs.map qs3,by rw [t0,List.length_take,Nat.min_eq_left (by omega)]; rfl,by simp,all3 qs,by omega,by rw [t0,List.length_take]; omega,by rw [t0,List.length_take,Nat.min_eq_left (by omega),List.map_take],fun p _=>rfl⟩ (fun j us ⟨es,h,_⟩=>by rw [h]; rfl) ?_
  rintro j us D ⟨es,rfl,hl,h3,hj,hfl,htk,hor⟩ hD
  generalize hf:(qs.take j).filter (fun q=>!d q) = fl at *
  try simp only [nr]
  refine ok_lenS (es:=es) rfl (qs.length:Int) (by rw [hl]) ?_
  try simp only [nr]
  refine ok_lss rfl (decide (j < qs.length)) (by simp) ?_
  try simp only [nr]
  refine ok_ite rfl (fun h2=>?_) (fun h2=>?_)
  ·have hjl:j < qs.length:=of_decide_eq_true h2
   have hej:es[j]? = some (qs3 (qi qs j)):=by rw [hor j (Nat.le_refl _),qs3_at hjl]
   refine ok_idx rfl hej rfl ?_
   try simp only [nr]
   refine ok_ldxA rfl hej rfl ?_
   try simp only [nr]
   refine ok_callv (hd _ (qi_mem hjl)) rfl rfl rfl ?_
   try simp only [nr]
   refine ok_not rfl ?_
   try simp only [nr]
   have hsn:(qs.take (j + 1)).filter (fun q=>!d q) = fl ++ if d (qi qs j) then [] else [qi qs j]:=by
    rw [take_snoc hjl,List.filter_append,hf]
    cases hdj:d (qi qs j) <;> simp [hdj]
   refine ok_ite rfl (fun h4=>?_) (fun h4=>?_)
   ·have hdf:d (qi qs j) = false:=by simpa using h4
    rw [hdf] at hsn
    simp only [Bool.false_eq_true,if_false] at hsn
    obtain ⟨e0,he0⟩:∃ e0,es[fl.length]? = some e0:=⟨_,List.getElem?_eq_getElem (by omega)⟩
    refine ok_idx rfl he0 (h3 _ (List.mem_of_getElem? he0)) ?_
    try simp only [nr]
    refine ok_stxA (cs:=qs3 (qi qs j)) rfl he0 (h3 _ (List.mem_of_getElem? he0)) rfl (qs3_flat _) ?_
    try simp only [nr]
    refine ok_inc (n:=fl.length) rfl (by omega) ?_
    try simp only [nr]
    refine ok_inc (n:=j) rfl (by omega) ?_
    try simp only [nr]
    refine ok_again rfl (hD (j + 1) _ (by omega) hjl ⟨es.set fl.length (qs3 (qi qs j)),?_,by rw [List.length_set]; exact hl,set_all3 h3 rfl,hjl,?_,?_,fun p hp=>?_⟩)
    ·rw [hsn,List.length_append]; rfl
    ·rw [hsn,List.length_append]; simp only [List.length_cons,List.length_nil]; omega
    ·rw [hsn,List.length_append,List.length_singleton,set_take (by omega),htk,List.map_append]
     rfl
    ·rw [List.getElem?_set_ne (by omega),hor p (by omega)]
   ·have hdf:d (qi qs j) = true:=by simpa using h4
    rw [hdf] at hsn
    simp only [if_true,List.append_nil] at hsn
    refine ok_inc (n:=j) rfl (by omega) ?_
    try simp only [nr]
    exact ok_again rfl (hD (j + 1) _ (by omega) hjl ⟨es,by rw [hsn]; rfl,hl,h3,hjl,by rw [hsn]; omega,by rw [hsn]; exact htk,fun p hp=>hor p (by omega)⟩)
  ·have hjn:j = qs.length:=by have:=of_decide_eq_false h2; omega
   subst hjn
   rw [List.take_length] at hf
   refine ok_vsl (m:=fl.length) (es:=es) rfl (by omega) h3 ?_
   try simp only [nr]
   refine ok_clr (a:=fl.length) (b:=es.length - fl.length) rfl (by omega) rfl rfl h3 ?_
   try simp only [nr]
   refine ok_rslT (b:=fl.length) rfl (by simp only [List.length_append,List.length_take,List.length_replicate]; omega) (clr_all3 h3 rfl) ?_
   try simp only [nr]
   refine ok_ret ?_ rfl
   rw [List.append_assoc,List.take_append_of_le_length (by rw [List.length_take]; omega),List.take_take,Nat.min_self,htk,hf]
   rfl
theorem compact_rat {fv:PV} {qs:List Rat} {k:Nat} (hfl:fv.flat = true) (hb:∀ q ∈ qs,Qb q k) (hf:∀ a b,Qb a k → Qb b k → FnV Tryz.prog fv [qc a,qc b] (.raw (.bool (decide (a = b))))) (hn:qs.length ≤ 1000000) :
 FnB Tryz.prog 109 27 3 (qs.map qs3) [fv] (· = .sl ((qcompact qs).map qs3)):=by
 refine FnB.intro mixed vc_slices_CompactFunc_api_Rat_api_Rat_back (by decide) (by simp only [fitsAll,fits,hfl]; rfl) ?_
 refine ok_lenS (es:=qs.map qs3) rfl (qs.length:Int) (by simp) ?_
 try simp only [nr]
 refine ok_lss rfl (decide (qs.length < 2)) (by rw [Bool.eq_iff_iff,decide_eq_true_iff,decide_eq_true_iff]; omega) ?_
 try simp only [nr]
 refine ok_ite rfl (fun h0=>?_) (fun h0=>?_)
 ·have h1:qs.length < 2:=of_decide_eq_true h0
  refine ok_ret ?_ rfl
  have:qcompact qs = qs:=by
   match qs,h1 with
   | [],_=>rfl
   | [a],_=>rfl
   | a :: b :: l,h=>simp only [List.length_cons] at h; omega
  rw [this]
  rfl
 ·have h1:2 ≤ qs.length:=by have:=of_decide_eq_false h0; omega
  refine ok_forN 0 qs.length 1 (fun i us=>us = [.raw (.int .i64 (i:Int)),.sl (qs.map qs3)] ∧ 1 ≤ i ∧ i ≤ qs.length ∧ ∀ j,1 ≤ j → j < i → qi qs j ≠ qi qs (j - 1)) ⟨rfl,Nat.le_refl _,by omega,fun j _ _=>by omega⟩ (fun i us h=>by rw [h.1]; rfl) ?_
  try simp only [nr]
  rintro i us D ⟨rfl,hi1,hin,hap⟩ hD
  try simp only [nr]
  refine ok_lenS (es:=qs.map qs3) rfl (qs.length:Int) (by simp) ?_
  try simp only [nr]
  refine ok_lss rfl (decide (i < qs.length)) (by simp) ?_
  try simp only [nr]
  refine ok_ite rfl (fun h2=>?_) (fun h2=>?_)
  ·have hil:i < qs.length:=of_decide_eq_true h2
   refine ok_idx rfl (qs3_at hil) rfl ?_
   try simp only [nr]
   refine ok_ldxA rfl (qs3_at hil) rfl ?_
   try simp only [nr]
   refine ok_dec (n:=i) rfl hi1 (by omega) ?_
   try simp only [nr]
   refine ok_idx rfl (qs3_at (show i - 1 < qs.length by omega)) rfl ?_
   try simp only [nr]
   refine ok_ldxA rfl (qs3_at (show i - 1 < qs.length by omega)) rfl ?_
   try simp only [nr]
   refine ok_callv (hf _ _ (hb _ (qi_mem hil)) (hb _ (qi_mem (show i - 1 < qs.length by omega)))) rfl rfl rfl ?_
   try simp only [nr]
   refine ok_ite rfl (fun h4=>?_) (fun h4=>?_)
   ·have heq:qi qs i = qi qs (i - 1):=of_decide_eq_true h4
    refine ok_vsl (m:=i) (es:=qs.map qs3) rfl (by simp; omega) (all3 qs) ?_
    try simp only [nr]
    have hc0:qcompact (qs.take (i + 1)) = qs.take i:=by rw [qcompact_snoc hil hi1,if_pos heq,List.append_nil,qcompact_apart hi1 hin hap]
    refine ok_forN 1 (qs.length - i) 1 (fun j us=>∃ es,us = [.raw (.int .i64 (((qcompact (qs.take (i + j))).length:Nat):Int)),.raw (.int .i64 (j:Int)),.sl es] ∧ 1 ≤ j ∧ i + j ≤ qs.length ∧ es.length = qs.length ∧ (∀ e ∈ es,e.length = 3) ∧ es.take (qcompact (qs.take (i + j))).length = (qcompact (qs.take (i + j))).map qs3 ∧ ∀ p,i + j - 1 ≤ p → es[p]? = (qs.map qs3)[p]?)
     ⟨qs.map qs3,by rw [hc0,List.length_take,Nat.min_eq_left (by omega)]; rfl,Nat.le_refl _,by omega,by simp,all3 qs,by rw [hc0,List.length_take,Nat.min_eq_left (by omega),List.map_take],fun p _=>rfl⟩ (fun j us ⟨es,h,_⟩=>by rw [h]; rfl) ?_
    rintro j us D2 ⟨es,rfl,hj1,hjn,hl,h3,htk,hor⟩ hD2
    have hcl:=qcompact_len hi1 heq j hj1 hjn
    generalize hcc:qcompact (qs.take (i + j)) = cl at *
    try simp only [nr]
    refine ok_lss rfl (decide (i + j < qs.length)) (by rw [Bool.eq_iff_iff,decide_eq_true_iff,decide_eq_true_iff,List.length_map]; omega) ?_
    try simp only [nr]
    refine ok_ite rfl (fun h5=>?_) (fun h5=>?_)
    ·have hjl:i + j < qs.length:=of_decide_eq_true h5
     have he1:es[i + j]? = some (qs3 (qi qs (i + j))):=by rw [hor _ (by omega),qs3_at hjl]
     have he2:es[i + (j - 1)]? = some (qs3 (qi qs (i + (j - 1)))):=by rw [hor _ (by omega),qs3_at (by omega)]
     refine ok_vix (a:=i) (b:=(qs.map qs3).length - i) (i:=j) rfl (by rw [List.length_map]; omega) ?_
     try simp only [nr]
     refine ok_ldxA rfl he1 rfl ?_
     try simp only [nr]
     refine ok_dec (n:=j) rfl hj1 (by omega) ?_
     try simp only [nr]
     refine ok_vix (a:=i) (b:=(qs.map qs3).length - i) (i:=j - 1) rfl (by rw [List.length_map]; omega) ?_
     try simp only [nr]
     refine ok_ldxA rfl he2 rfl ?_
     try simp only [nr]
     refine ok_callv (hf _ _ (hb _ (qi_mem hjl)) (hb _ (qi_mem (show i + (j - 1) < qs.length by omega)))) rfl rfl rfl ?_
     try simp only [nr]
     refine ok_not rfl ?_
     try simp only [nr]
     have hsn:qcompact (qs.take (i + (j + 1))) = cl ++ if qi qs (i + j) = qi qs (i + (j - 1)) then [] else [qi qs (i + j)]:=by
      rw [show i + (j + 1) = (i + j) + 1 by omega,qcompact_snoc hjl (by omega),hcc,show i + j - 1 = i + (j - 1) by omega]
     refine ok_ite rfl (fun h6=>?_) (fun h6=>?_)
     ·have hne:qi qs (i + j) ≠ qi qs (i + (j - 1)):=by simpa using h6
      rw [if_neg hne] at hsn
      obtain ⟨e0,he0⟩:∃ e0,es[cl.length]? = some e0:=⟨_,List.getElem?_eq_getElem (by omega)⟩
      refine ok_vix (a:=i) (b:=(qs.map qs3).length - i) (i:=j) rfl (by rw [List.length_map]; omega) ?_
      try simp only [nr]
      refine ok_ldxA rfl he1 rfl ?_
      try simp only [nr]
      refine ok_idx rfl he0 (h3 _ (List.mem_of_getElem? he0)) ?_
      try simp only [nr]
      refine ok_stxA (cs:=qs3 (qi qs (i + j))) rfl he0 (h3 _ (List.mem_of_getElem? he0)) rfl (qs3_flat _) ?_
      try simp only [nr]
      refine ok_inc (n:=cl.length) rfl (by omega) ?_
      try simp only [nr]
      refine ok_inc (n:=j) rfl (by omega) ?_
      try simp only [nr]
      refine ok_again rfl (hD2 (j + 1) _ (by omega) (by omega) ⟨es.set cl.length (qs3 (qi qs (i + j))),?_,by omega,by omega,by rw [List.length_set]; exact hl,set_all3 h3 rfl,?_,fun p hp=>?_⟩)
      ·rw [hsn,List.length_append]; rfl
      ·rw [hsn,List.length_append,List.length_singleton,set_take (by omega),htk,List.map_append]
       rfl
      ·rw [List.getElem?_set_ne (by omega),hor p (by omega)]
     ·have hne:qi qs (i + j) = qi qs (i + (j - 1)):=by simpa using h6
      rw [if_pos hne,List.append_nil] at hsn
      refine ok_inc (n:=j) rfl (by omega) ?_
      try simp only [nr]
      exact ok_again rfl (hD2 (j + 1) _ (by omega) (by omega) ⟨es,by rw [hsn]; rfl,by omega,by omega,hl,h3,by rw [hsn]; exact htk,fun p hp=>hor p (by omega)⟩)
    ·have hjn':i + j = qs.length:=by have:=of_decide_eq_false h5; omega
     rw [hjn',List.take_length] at hcc
     refine ok_vsl (m:=cl.length) (es:=es) rfl (by omega) h3 ?_
     try simp only [nr]
     refine ok_clr (a:=cl.length) (b:=es.length - cl.length) rfl (by omega) rfl rfl h3 ?_
     try simp only [nr]
     refine ok_rslT (b:=cl.length) rfl (by simp only [List.length_append,List.length_take,List.length_replicate]; omega) (clr_all3 h3 rfl) ?_
     try simp only [nr]
     refine ok_ret ?_ rfl
     rw [List.append_assoc,List.take_append_of_le_length (by rw [List.length_take]; omega),List.take_take,Nat.min_self,htk,hcc]
     rfl
   ·have hne:qi qs i ≠ qi qs (i - 1):=of_decide_eq_false h4
    refine ok_inc (n:=i) rfl (by omega) ?_
    try simp only [nr]
    exact ok_again rfl (hD (i + 1) _ (by omega) hil ⟨rfl,by omega,hil,fun j h5 h6=>by
     rcases Nat.lt_succ_iff_lt_or_eq.1 h6 with c | c
     ·exact hap j h5 c
     ·rw [c]; exact hne⟩)
  ·have hil:i = qs.length:=by have:=of_decide_eq_false h2; omega
   subst hil
   refine ok_ret ?_ rfl
   have:=qcompact_apart hi1 (Nat.le_refl _) hap
   rw [List.take_length] at this
   rw [this]
   rfl
end Go.Proofs.YtcpgflbfjplheaaGreatDoor
namespace Gv
open Go Go.Sort Go.Proofs
set_option linter.unusedVariables false
theorem cmp_swo (q:Nat → Rat):SWO (ltOf fun x y=>qcmp (q x) (q y)) where
 irrefl x:=by
  show decide (qcmp (q x) (q x) < 0) = false
  rw [qcmp_refl]
  rfl
 trans x y z h1 h2:=by
  have h1':=qcmp_lt.1 (of_decide_eq_true h1)
  have h2':=qcmp_lt.1 (of_decide_eq_true h2)
  exact decide_eq_true (qcmp_lt.2 (by grind))
 ntrans x y z h1 h2:=by
  have h1':¬q x < q y:=fun c=>of_decide_eq_false h1 (qcmp_lt.2 c)
  have h2':¬q y < q z:=fun c=>of_decide_eq_false h2 (qcmp_lt.2 c)
  exact decide_eq_false fun c=>by
   have:=qcmp_lt.1 c
   grind
theorem perm_range {n:Nat} {d:Array Nat} (h:PermIn 0 n (Array.range n) d):d.size = n ∧ d.toList.Perm (List.range n):=by
 obtain ⟨h1,_,h3⟩:=h
 have h1':d.size = n:=by simpa using h1
 refine ⟨h1',?_⟩
 have e1:(d.extract 0 n).toList = d.toList:=by
  rw [← h1']; simp
 have e2:((Array.range n).extract 0 n).toList = List.range n:=by
  have:(Array.range n).extract 0 n = Array.range n:=by
   have:=Array.extract_size (xs:=Array.range n)
   rwa [Array.size_range] at this
  rw [this,Array.toList_range]
 rwa [e1,e2] at h3
theorem range_map_qi (qs:List Rat):(List.range qs.length).map (qi qs) = qs:=by
 apply List.ext_getElem?
 intro i
 rw [List.getElem?_map]
 by_cases h:i < qs.length
 ·rw [List.getElem?_range h,qi_some h]; rfl
 ·rw [List.getElem?_eq_none (by simpa using h),List.getElem?_eq_none (by omega)]; rfl
theorem sorted_map {qs:List Rat} {d:Array Nat} (hp:PermIn 0 qs.length (Array.range qs.length) d) (hs:SortedIn (ltOf fun x y=>qcmp (if x < qs.length then qi qs x else 0) (if y < qs.length then qi qs y else 0)) 0 qs.length d):d.toList.map (qi qs) = qsort qs:=by
 obtain ⟨h1,h2⟩:=perm_range hp
 have hlt:∀ i,i < qs.length → d[i]! < qs.length:=by
  intro i hi
  have hm:d[i]! ∈ d.toList:=by
   rw [getElem!_pos d i (by omega)]
   exact Array.getElem_mem_toList _
  exact List.mem_range.1 (h2.mem_iff.1 hm)
 refine up_ext ?_ (qsort_up qs) ?_
 ·refine List.pairwise_iff_getElem.2 fun i j hi hj hij=>?_
  simp only [List.length_map,Array.length_toList] at hi hj
  have h3:=hs i j (Nat.zero_le _) hij (by omega)
  unfold ltOf at h3
  rw [decide_eq_false_iff_not,qcmp_lt,if_pos (hlt j (by omega)),if_pos (hlt i (by omega))] at h3
  rw [getElem!_pos d i (by omega),getElem!_pos d j (by omega)] at h3
  simp only [List.getElem_map,Array.getElem_toList]
  grind
 ·have h4:=h2.map (qi qs)
  rw [range_map_qi] at h4
  exact h4.trans (qsort_perm qs).symm
end Gv
namespace Go.Proofs.YtcpgflbfjplheaaGreatDoor
open Go Go.RowKit Go.Sort Go.Proofs Gs Gv
set_option linter.unusedVariables false
set_option maxHeartbeats 1000000 in
theorem sort_rat {qs:List Rat} {k:Nat} (hb:∀ q ∈ qs,Qb q k) (hk:k ≤ 40000) (hn:qs.length ≤ 1000000) :
 FnT Tryz.prog 108 27 3 (qs.map qs3) [.clo (.func 20) [] []] (· = .tup [.sl ((qsort qs).map qs3),.tup []]):=by
 refine ⟨⟨_,Tryz.func108,rfl,by kernel_rfl⟩,fun w P0 val vs hP hrow hlen hrep=>?_⟩
 obtain ⟨v,rfl⟩:∃ v,vs = #[v]:=by
  refine ⟨vs.getD 0 undef,?_⟩
  apply Array.ext
  ·simpa using hlen.symm
  ·intro i h1 h2
   simp at h2
   subst h2
   simp [Array.getD,h1]
 have hr:Rep w P0 (.clo (.func 20) [] []) v:=by simpa using hrep 0 _ rfl
 obtain rfl:v = .func (.func 20) #[] #[]:=by
  cases hr with
  | clo _ _ _ fv cv hl hl' _ _ =>
   have e1:fv = #[]:=Array.eq_empty_of_size_eq_zero hl.symm
   have e2:cv = #[]:=Array.eq_empty_of_size_eq_zero hl'.symm
   rw [e1,e2]
 clear hlen hrep hr
 obtain ⟨hk0,xs,⟨hxl,hown⟩,hM,hel⟩:=hrow
 have hlq:(qs.map qs3).length = qs.length:=List.length_map _
 rw [hlq] at hxl hown
 rcases hown with ⟨rfl,hn0⟩ | ⟨g,cap,cur,rfl,_,hheap,hnc,hcap,hcs,htake⟩
 ·have hq:qs = []:=List.eq_nil_of_length_eq_zero hn0
  subst hq
  have e0:qsort [] = []:=by simp [qsort]
  have h:=AnyF.slices_SortFunc_none (P:=Tryz.prog) Tryz.sortRat none 0 (.func (.func 20) #[] #[]) w
  change Calls Tryz.prog 108 _ _ _ at h
  refine h.mono ?_
  rintro e w' ⟨rfl,rfl⟩
  refine ⟨_,[],.tup [],rfl,by rw [e0]; rfl,⟨rfl,rfl,rfl,Nat.le_refl _,fun _ _ _=>rfl⟩,⟨by decide,[],World.ownsRow_nil _ _ _ _,fun _ _=>trivial,fun i el hi=>by simp at hi⟩,.tup [] #[] rfl fun j p hj=>by simp at hj⟩
 ·have hgl:g < w.heap.size:=(Array.getElem?_eq_some_iff.1 hheap).1
  have hP':∀ b,P0 b → b < w.heap.size ∧ b ≠ g:=fun b h=>⟨(hP b h).1,fun e=>(hP b h).2 (by rw [e]; rfl)⟩
  have hel':∀ i,i < qs.length → ∀ (j:Nat) (p:PV),(qs3 (qi qs i))[j]? = some p → p.flat = true ∧ flatV (xs.getD (i * 3 + j) undef) = true ∧ Rep w P0 p (xs.getD (i * 3 + j) undef):=fun i hi=>(hel i _ (qs3_at hi)).2
  have hz:([.bool false,.slice none 0 0,.slice none 0 0]:List Value).length = 3:=rfl
  have henc:∀ i,i < qs.length → ∀ j,j < 3 → (encOf xs [.bool false,.slice none 0 0,.slice none 0 0] 3 qs.length i).getD j undef = xs.getD (i * 3 + j) undef:=fun i hi j hj=>by
   rw [List.getD,encOf_at hxl hi hj]; rfl
  have hxc:∀ j,j < qs.length * 3 → cur[j]? = some (xs.getD j undef):=by
   intro j hj
   have hl:j < cur.size:=by omega
   have e:xs[j]? = some (cur[j]'hl):=by
    rw [← htake,List.getElem?_take,if_pos hj,Array.getElem?_toList,Array.getElem?_eq_getElem hl]
   rw [Array.getElem?_eq_getElem hl,List.getD,e]
   rfl
  have hO:=cmp_swo fun x=>if x < qs.length then qi qs x else 0
  have h:=AnyQ.slices_SortFunc (P:=Tryz.prog) (α:=Nat) Tryz.sortRat 3 (fun w=>agg_run (by kernel_rfl) w) (fun w=>size_run (by kernel_rfl) w) (encOf xs [.bool false,.slice none 0 0,.slice none 0 0] 3 qs.length) (encOf_len hxl hz)
   (fun i v hv=>by
    obtain ⟨j,hj⟩:=List.mem_iff_getElem?.1 hv
    have hjl:=(List.getElem?_eq_some_iff.1 hj).1
    rw [encOf_len hxl hz] at hjl
    rw [oneCell_flat]
    by_cases hi:i < qs.length
    ·rw [encOf_at hxl hi hjl] at hj
     cases hj
     exact (hel' i hi j _ (List.getElem?_eq_getElem (show j < (qs3 (qi qs i)).length from hjl))).2.1
    ·unfold encOf at hv
     rw [if_neg hi] at hv
     simp only [List.mem_cons,List.not_mem_nil,or_false] at hv
     rcases hv with rfl | rfl | rfl <;> rfl)
   (fun x y=>qcmp (if x < qs.length then qi qs x else 0) (if y < qs.length then qi qs y else 0)) hO 20 #[] g 0 cap (Array.range qs.length) w (enters_of Tryz.func20 (by kernel_rfl) rfl)
   (cmp_lays (el:=fun i=>if i < qs.length then qs3 (qi qs i) else [.raw (.bool false),.sl [],.sl []]) hP' (fun i=>by
    by_cases hi:i < qs.length
    ·rw [if_pos hi,encOf_len hxl hz]
     refine ⟨rfl,fun j p hj=>?_⟩
     have hjl:=(List.getElem?_eq_some_iff.1 hj).1
     rw [henc i hi j hjl]
     obtain ⟨h1,_,h3⟩:=hel' i hi j p hj
     exact ⟨h1,h3⟩
    ·rw [if_neg hi,encOf_len hxl hz]
     refine ⟨rfl,fun j p hj=>?_⟩
     unfold encOf
     rw [if_neg hi]
     match j,hj with
     | 0,hj=>cases hj; exact ⟨rfl,.raw _⟩
     | 1,hj=>cases hj; exact ⟨rfl,.nil none 0 (by decide)⟩
     | 2,hj=>cases hj; exact ⟨rfl,.nil none 0 (by decide)⟩
     | j + 3,hj=>simp at hj)
    (fun x y=>by
     have is:∀ i,IsQ (.agg (if i < qs.length then qs3 (qi qs i) else [.raw (.bool false),.sl [],.sl []])) (if i < qs.length then qi qs i else 0) (k + 1):=by
      intro i
      by_cases hi:i < qs.length
      ·rw [if_pos hi,if_pos hi]
       exact (IsQ.qc (hb _ (qi_mem hi))).more (by omega)
      ·rw [if_neg hi,if_neg hi]
       exact ⟨false,[],[],rfl,fun x hx=>by simp at hx,fun x hx=>by simp at hx,by rfl,Nat.zero_le _,Nat.zero_le _,by omega⟩
     exact q_Cmp (is x) (is y) (by omega)))
   (fun j hj=>by
    rw [size_flatK,Array.size_range] at hj
    have hd:j = j / 3 * 3 + j % 3:=by omega
    have hi:j / 3 < qs.length:=by omega
    have hr:∀ i,i < qs.length → (Array.range qs.length)[i]! = i:=fun i hi=>by simp [hi]
    have hF:=flat_at (z:=[.bool false,.slice none 0 0,.slice none 0 0]) (d:=Array.range qs.length) hxl (by simp) (fun i hi=>by rw [hr i hi]; exact hi) hi (show j % 3 < 3 by omega)
    rw [hr _ hi,← hd] at hF
    rw [hF,Nat.zero_add]
    refine ⟨?_,by simp [World.frozen?,hheap]⟩
    have:=hxc j hj
    simpa [World.cell?,hheap] using this)
   hgl (by rw [Array.size_range]; omega)
  rw [Array.size_range] at h
  change Calls Tryz.prog 108 _ _ _ at h
  refine h.mono ?_
  rintro e w' ⟨rfl,d',m,os,hp,hs,hw⟩
  obtain ⟨hds,hperm⟩:=perm_range hp
  have hdp:∀ i,i < qs.length → d'[i]! < qs.length:=by
   intro i hi
   have hm:d'[i]! ∈ d'.toList:=by
    rw [getElem!_pos d' i (by omega)]
    exact Array.getElem_mem_toList _
   exact List.mem_range.1 (hperm.mem_iff.1 hm)
  have hrow:=sort_row (z:=[.bool false,.slice none 0 0,.slice none 0 0]) (es:=qs.map qs3) (by decide) hxl hheap hnc hcap hcs hlq hel hP' hds hdp hw
  have hes:(d'.toList.map fun i=>(qs.map qs3).getD i []) = (qsort qs).map qs3:=by
   rw [← sorted_map hp hs,List.map_map]
   refine List.map_congr_left fun i hi=>?_
   have hil:=List.mem_range.1 (hperm.mem_iff.1 hi)
   show (qs.map qs3).getD i [] = qs3 (qi qs i)
   rw [List.getD,qs3_at hil]
   rfl
  rw [hes] at hrow
  exact ⟨_,_,.tup [],rfl,rfl,hrow.1,hrow.2,.tup [] #[] rfl fun j p hj=>by simp at hj⟩
end Go.Proofs.YtcpgflbfjplheaaGreatDoor
namespace Gv
set_option linter.unusedVariables false
set_option linter.unusedSimpArgs false
def pdot (p q:Pt2):Rat:=p.1 * q.1 + p.2 * q.2
def pfar (p q:Pt2):Rat:=pdot (psub p q) (psub p q)
def onseg (p a b:Pt2):Prop:=∃ t:Rat,0 ≤ t ∧ t ≤ 1 ∧ p = pmix a b t
def qbtw (x a b:Rat):Bool:=decide (qmin a b ≤ x) && decide (x ≤ qmax a b)
def pon (p a b:Pt2):Bool:=decide (porient a b p = 0) && (qbtw p.1 a.1 b.1 && qbtw p.2 a.2 b.2)
theorem qbtw_iff {x a b:Rat}:qbtw x a b = true ↔ (a ≤ x ∧ x ≤ b) ∨ (b ≤ x ∧ x ≤ a):=by
 unfold qbtw qmin qmax
 rw [Bool.and_eq_true,decide_eq_true_iff,decide_eq_true_iff]
 split <;> split <;> grind
theorem frac_range {x D:Rat} (h0:D ≠ 0) (h:(0 ≤ x ∧ x ≤ D) ∨ (D ≤ x ∧ x ≤ 0)):0 ≤ x / D ∧ x / D ≤ 1:=by
 have e:x / D * D = x:=Rat.div_mul_cancel h0
 generalize x / D = t at e
 rcases h with ⟨h1,h2⟩ | ⟨h1,h2⟩
 ·have hD:0 < D:=by grind
  constructor
  ·by_cases c:0 ≤ t
   ·exact c
   ·have:=Rat.mul_pos (show 0 < -t by grind) hD
    grind
  ·by_cases c:t ≤ 1
   ·exact c
   ·have:=Rat.mul_pos (show 0 < t - 1 by grind) hD
    grind
 ·have hD:0 < -D:=by grind
  constructor
  ·by_cases c:0 ≤ t
   ·exact c
   ·have:=Rat.mul_pos (show 0 < -t by grind) hD
    grind
  ·by_cases c:t ≤ 1
   ·exact c
   ·have:=Rat.mul_pos (show 0 < t - 1 by grind) hD
    grind
theorem mul_cancel {D x y:Rat} (h0:D ≠ 0) (h:D * x = D * y):x = y:=by
 have:D * (x - y) = 0:=by grind
 rcases Rat.mul_eq_zero.1 this with h | h
 ·exact absurd h h0
 ·grind
theorem pt_eq {p q:Pt2} (h1:p.1 = q.1) (h2:p.2 = q.2):p = q:=Prod.ext h1 h2
theorem mix1 (a b:Pt2) (t:Rat):(pmix a b t).1 = a.1 + (b.1 - a.1) * t:=rfl
theorem mix2 (a b:Pt2) (t:Rat):(pmix a b t).2 = a.2 + (b.2 - a.2) * t:=rfl
theorem orient_eq (a b c:Pt2):porient a b c = (b.1 - a.1) * (c.2 - a.2) - (b.2 - a.2) * (c.1 - a.1):=rfl
theorem pon_iff {p a b:Pt2}:pon p a b = true ↔ onseg p a b:=by
 unfold pon
 rw [Bool.and_eq_true,Bool.and_eq_true,decide_eq_true_iff,qbtw_iff,qbtw_iff,orient_eq]
 constructor
 ·rintro ⟨h0,h1,h2⟩
  by_cases c1:b.1 - a.1 = 0
  ·by_cases c2:b.2 - a.2 = 0
   ·refine ⟨0,by grind,by grind,pt_eq ?_ ?_⟩
    ·rw [mix1]; grind
    ·rw [mix2]; grind
   ·obtain ⟨r1,r2⟩:=frac_range (x:=p.2 - a.2) c2 (by grind)
    have e:=Rat.div_mul_cancel (a:=p.2 - a.2) c2
    refine ⟨(p.2 - a.2) / (b.2 - a.2),r1,r2,pt_eq ?_ ?_⟩
    ·rw [mix1,c1]; grind
    ·rw [mix2]; grind
  ·obtain ⟨r1,r2⟩:=frac_range (x:=p.1 - a.1) c1 (by grind)
   have e:=Rat.div_mul_cancel (a:=p.1 - a.1) c1
   refine ⟨(p.1 - a.1) / (b.1 - a.1),r1,r2,pt_eq ?_ ?_⟩
   ·rw [mix1]; grind
   ·rw [mix2]
    refine mul_cancel c1 ?_
    generalize (p.1 - a.1) / (b.1 - a.1) = t at e
    grind
 ·rintro ⟨t,h0,h1,rfl⟩
  rw [mix1,mix2]
  have key:∀ x y:Rat,(x ≤ x + (y - x) * t ∧ x + (y - x) * t ≤ y) ∨ (y ≤ x + (y - x) * t ∧ x + (y - x) * t ≤ x):=by
   intro x y
   by_cases c:x ≤ y
   ·have m1:=Rat.mul_nonneg (show 0 ≤ y - x by grind) h0
    have m2:=Rat.mul_nonneg (show 0 ≤ y - x by grind) (show 0 ≤ 1 - t by grind)
    left
    grind
   ·have m1:=Rat.mul_nonneg (show 0 ≤ x - y by grind) h0
    have m2:=Rat.mul_nonneg (show 0 ≤ x - y by grind) (show 0 ≤ 1 - t by grind)
    right
    grind
  exact ⟨by grind,key _ _,key _ _⟩
theorem onseg_a (a b:Pt2):onseg a a b:=⟨0,by grind,by grind,pt_eq (by rw [mix1]; grind) (by rw [mix2]; grind)⟩
theorem onseg_b (a b:Pt2):onseg b a b:=⟨1,by grind,by grind,pt_eq (by rw [mix1]; grind) (by rw [mix2]; grind)⟩
def mt (a b c d:Pt2):Rat:=pcross (psub c a) (psub d c) / pcross (psub b a) (psub d c)
def ms (a b c d:Pt2):Rat:=pcross (psub c a) (psub b a) / pcross (psub b a) (psub d c)
theorem cross_eq (p q:Pt2):pcross p q = p.1 * q.2 - p.2 * q.1:=rfl
theorem mt_ms {a b c d:Pt2} (h:pcross (psub b a) (psub d c) ≠ 0):pmix a b (mt a b c d) = pmix c d (ms a b c d):=by
 have e1:=Rat.div_mul_cancel (a:=pcross (psub c a) (psub d c)) h
 have e2:=Rat.div_mul_cancel (a:=pcross (psub c a) (psub b a)) h
 change mt a b c d * _ = _ at e1
 change ms a b c d * _ = _ at e2
 generalize mt a b c d = t at e1 ⊢
 generalize ms a b c d = s at e2 ⊢
 simp only [cross_eq,psub] at h e1 e2
 refine pt_eq ?_ ?_
 ·rw [mix1,mix1]
  refine mul_cancel h ?_
  grind
 ·rw [mix2,mix2]
  refine mul_cancel h ?_
  grind
theorem mix_inj {a b c d:Pt2} (h:pcross (psub b a) (psub d c) ≠ 0) {t s:Rat} (e:pmix a b t = pmix c d s):t = mt a b c d ∧ s = ms a b c d:=by
 have e1:=Rat.div_mul_cancel (a:=pcross (psub c a) (psub d c)) h
 have e2:=Rat.div_mul_cancel (a:=pcross (psub c a) (psub b a)) h
 change mt a b c d * _ = _ at e1
 change ms a b c d * _ = _ at e2
 have f1:a.1 + (b.1 - a.1) * t = c.1 + (d.1 - c.1) * s:=congrArg Prod.fst e
 have f2:a.2 + (b.2 - a.2) * t = c.2 + (d.2 - c.2) * s:=congrArg Prod.snd e
 generalize mt a b c d = t' at e1 ⊢
 generalize ms a b c d = s' at e2 ⊢
 simp only [cross_eq,psub] at h e1 e2
 constructor
 ·refine mul_cancel h ?_
  grind
 ·refine mul_cancel h ?_
  grind
def qunit (t:Rat):Bool:=decide (0 ≤ t) && decide (t ≤ 1)
theorem qunit_iff {t:Rat}:qunit t = true ↔ 0 ≤ t ∧ t ≤ 1:=by unfold qunit; rw [Bool.and_eq_true,decide_eq_true_iff,decide_eq_true_iff]
theorem on_both {a b c d p:Pt2} (h:pcross (psub b a) (psub d c) ≠ 0):(onseg p a b ∧ onseg p c d) ↔ (qunit (mt a b c d) = true ∧ qunit (ms a b c d) = true) ∧ p = pmix a b (mt a b c d):=by
 rw [qunit_iff,qunit_iff]
 constructor
 ·rintro ⟨⟨t,h1,h2,h3⟩,s,g1,g2,g3⟩
  obtain ⟨rfl,rfl⟩:=mix_inj h (h3.symm.trans g3)
  exact ⟨⟨⟨h1,h2⟩,g1,g2⟩,h3⟩
 ·rintro ⟨⟨⟨h1,h2⟩,g1,g2⟩,h3⟩
  exact ⟨⟨_,h1,h2,h3⟩,_,g1,g2,h3.trans (mt_ms h)⟩
def Com (a b c d p:Pt2):Prop:=(pcross (psub b a) (psub d c) = 0 → p = a ∨ p = b ∨ p = c ∨ p = d) ∧ onseg p a b ∧ onseg p c d
theorem Com.symm {a b c d p:Pt2} (h:Com a b c d p):Com c d a b p:=by
 obtain ⟨h1,h2,h3⟩:=h
 refine ⟨fun e=>?_,h3,h2⟩
 have:pcross (psub b a) (psub d c) = 0:=by simp only [cross_eq] at e ⊢; grind
 have:=h1 this
 grind
def alstep (a b c d:Pt2) (l:List Pt2) (x:Pt2):List Pt2:=if pon x a b = true ∧ pon x c d = true ∧ x ∉ l then l ++ [x] else l
def alist (a b c d:Pt2):List Pt2:=[a,b,c,d].foldl (alstep a b c d) []
def palong (a b c d:Pt2):List Pt2:=match alist a b c d with
 | [x,y]=>if pfar y a < pfar x a then [y,x] else [x,y]
 | l=>l
theorem alstep_mem {a b c d x p:Pt2} {l:List Pt2}:p ∈ alstep a b c d l x ↔ p ∈ l ∨ (p = x ∧ onseg x a b ∧ onseg x c d):=by
 unfold alstep
 rw [← pon_iff,← pon_iff]
 split
 ·rename_i h
  rw [List.mem_append,List.mem_singleton]
  grind
 ·rename_i h
  constructor
  ·exact .inl
  ·rintro (h1 | ⟨rfl,h2,h3⟩)
   ·exact h1
   ·by_cases c:p ∈ l
    ·exact c
    ·exact absurd ⟨h2,h3,c⟩ h
theorem alstep_len {a b c d x:Pt2} {l:List Pt2}:(alstep a b c d l x).length ≤ l.length + 1:=by
 unfold alstep
 split
 ·simp
 ·omega
theorem alist_mem {a b c d p:Pt2}:p ∈ alist a b c d ↔ (p = a ∨ p = b ∨ p = c ∨ p = d) ∧ onseg p a b ∧ onseg p c d:=by
 unfold alist
 simp only [List.foldl_cons,List.foldl_nil,alstep_mem,List.not_mem_nil,false_or]
 grind
theorem palong_mem {a b c d p:Pt2}:p ∈ palong a b c d ↔ (p = a ∨ p = b ∨ p = c ∨ p = d) ∧ onseg p a b ∧ onseg p c d:=by
 rw [← alist_mem]
 unfold palong
 split
 ·rename_i x y e
  rw [e]
  split
  ·simp only [List.mem_cons,List.not_mem_nil,or_false]; grind
  ·rfl
 ·rfl
def pmeet (a b c d:Pt2):List Pt2:=if pcross (psub b a) (psub d c) = 0 then palong a b c d else if qunit (mt a b c d) && qunit (ms a b c d) then [pmix a b (mt a b c d)] else []
theorem pmeet_mem {a b c d p:Pt2}:p ∈ pmeet a b c d ↔ Com a b c d p:=by
 unfold pmeet Com
 split
 ·rename_i h
  rw [palong_mem]
  simp [h]
 ·rename_i h
  rw [on_both h]
  split
  ·rename_i g
   rw [Bool.and_eq_true] at g
   rw [List.mem_singleton]
   simp [g,h]
  ·rename_i g
   rw [Bool.and_eq_true] at g
   simp only [List.not_mem_nil,false_iff]
   rintro ⟨_,g2,_⟩
   exact g g2
def gstep (a:Pt2) (on:Bool) (l:List Pt2) (x:Pt2):List Pt2:=if on = true ∧ x ∉ l then (match l with
 | [y]=>if pfar x a < pfar y a then [x,y] else [y,x]
 | l=>l ++ [x]) else l
def gmeet (a b c d:Pt2):List Pt2:=if pcross (psub b a) (psub d c) = 0 then gstep a (pon d a b) (gstep a (pon c a b) (gstep a (pon b c d) (gstep a (pon a c d) [] a) b) c) d
 else if pon (pmix a b (mt a b c d)) a b && pon (pmix a b (mt a b c d)) c d then [pmix a b (mt a b c d)] else []
theorem gstep_mem {a x p:Pt2} {on:Bool} {l:List Pt2}:p ∈ gstep a on l x ↔ p ∈ l ∨ (p = x ∧ on = true):=by
 unfold gstep
 split
 ·rename_i h
  split
  ·split <;> simp only [List.mem_cons,List.not_mem_nil,or_false] <;> grind
  ·rw [List.mem_append,List.mem_singleton]; grind
 ·rename_i h
  constructor
  ·exact .inl
  ·rintro (h1 | ⟨rfl,h2⟩)
   ·exact h1
   ·by_cases c:p ∈ l
    ·exact c
    ·exact absurd ⟨h2,c⟩ h
theorem gmeet_mem {a b c d p:Pt2}:p ∈ gmeet a b c d ↔ Com a b c d p:=by
 unfold gmeet Com
 split
 ·rename_i h
  simp only [gstep_mem,pon_iff,List.not_mem_nil,false_or,h,forall_const]
  constructor
  ·rintro (((⟨rfl,h1⟩ | ⟨rfl,h1⟩) | ⟨rfl,h1⟩) | ⟨rfl,h1⟩)
   ·exact ⟨.inl rfl,onseg_a _ _,h1⟩
   ·exact ⟨.inr (.inl rfl),onseg_b _ _,h1⟩
   ·exact ⟨.inr (.inr (.inl rfl)),h1,onseg_a _ _⟩
   ·exact ⟨.inr (.inr (.inr rfl)),h1,onseg_b _ _⟩
  ·rintro ⟨rfl | rfl | rfl | rfl,h1,h2⟩
   ·exact .inl (.inl (.inl ⟨rfl,h2⟩))
   ·exact .inl (.inl (.inr ⟨rfl,h2⟩))
   ·exact .inl (.inr ⟨rfl,h1⟩)
   ·exact .inr ⟨rfl,h1⟩
 ·rename_i h
  have hp:=on_both (p:=pmix a b (mt a b c d)) h
  rw [on_both h]
  split
  ·rename_i g
   rw [Bool.and_eq_true,pon_iff,pon_iff,hp] at g
   rw [List.mem_singleton]
   simp [g.1,h]
  ·rename_i g
   rw [Bool.and_eq_true,pon_iff,pon_iff,hp] at g
   simp only [List.not_mem_nil,false_iff]
   rintro ⟨_,g2,_⟩
   exact g ⟨g2,rfl⟩
def qbeyond (a0 a1 b0 b1:Rat):Bool:=decide (a0 < b0) && (decide (a0 < b1) && (decide (a1 < b0) && decide (a1 < b1)))
def papart (a b c d:Pt2):Bool:=qbeyond a.1 b.1 c.1 d.1 || (qbeyond c.1 d.1 a.1 b.1 || (qbeyond a.2 b.2 c.2 d.2 || qbeyond c.2 d.2 a.2 b.2))
theorem apart_com {a b c d p:Pt2} (h:papart a b c d = true):¬Com a b c d p:=by
 rintro ⟨_,h1,h2⟩
 rw [← pon_iff] at h1 h2
 unfold pon at h1 h2
 rw [Bool.and_eq_true,Bool.and_eq_true,qbtw_iff,qbtw_iff] at h1 h2
 obtain ⟨_,h3,h4⟩:=h1
 obtain ⟨_,h5,h6⟩:=h2
 unfold papart qbeyond at h
 simp only [Bool.or_eq_true,Bool.and_eq_true,decide_eq_true_eq] at h
 grind
end Gv
namespace Gv
set_option linter.unusedVariables false
set_option linter.unusedSimpArgs false
abbrev Ed:=Pt2 × Pt2
def eg (l:List Ed) (i:Nat):Ed:=l.getD i ((0,0),(0,0))
theorem eg_at {l:List Ed} {i:Nat} (h:i < l.length):l[i]? = some (eg l i):=by simp [eg,List.getD,h]
def ECom (a b:Ed) (p:Pt2):Prop:=Com a.1 a.2 b.1 b.2 p
def cr1 (a b:Ed):List Rat:=if papart a.1 a.2 b.1 b.2 then [] else (pmeet a.1 a.2 b.1 b.2).map (·.2)
def gr1 (a b:Ed):List Rat:=(gmeet a.1 a.2 b.1 b.2).map (·.2)
theorem cr1_mem {a b:Ed} {y:Rat}:y ∈ cr1 a b ↔ ∃ p,ECom a b p ∧ p.2 = y:=by
 unfold cr1
 split
 ·rename_i h
  simp only [List.not_mem_nil,false_iff]
  rintro ⟨p,h1,_⟩
  exact apart_com h h1
 ·simp only [List.mem_map,pmeet_mem]
  rfl
theorem gr1_mem {a b:Ed} {y:Rat}:y ∈ gr1 a b ↔ ∃ p,ECom a b p ∧ p.2 = y:=by
 unfold gr1
 simp only [List.mem_map,gmeet_mem]
 rfl
def crossRow (a:Ed) (m:List Ed):List Rat:=(m.map (cr1 a)).flatten
def gcrossRow (a:Ed) (m:List Ed):List Rat:=(m.map (gr1 a)).flatten
def crossUp (l:List Ed):Nat → List Rat
 | 0=>[]
 | i + 1=>crossUp l i ++ crossRow (eg l i) (l.drop (i + 1))
def gcrossUp (l:List Ed):Nat → List Rat
 | 0=>[]
 | i + 1=>gcrossUp l i ++ gcrossRow (eg l i) (l.take i)
theorem crossRow_mem {a:Ed} {m:List Ed} {y:Rat}:y ∈ crossRow a m ↔ ∃ b ∈ m,∃ p,ECom a b p ∧ p.2 = y:=by
 unfold crossRow
 rw [List.mem_flatten]
 simp only [List.mem_map]
 constructor
 ·rintro ⟨_,⟨b,hb,rfl⟩,hy⟩
  exact ⟨b,hb,cr1_mem.1 hy⟩
 ·rintro ⟨b,hb,hy⟩
  exact ⟨_,⟨b,hb,rfl⟩,cr1_mem.2 hy⟩
theorem gcrossRow_mem {a:Ed} {m:List Ed} {y:Rat}:y ∈ gcrossRow a m ↔ ∃ b ∈ m,∃ p,ECom a b p ∧ p.2 = y:=by
 unfold gcrossRow
 rw [List.mem_flatten]
 simp only [List.mem_map]
 constructor
 ·rintro ⟨_,⟨b,hb,rfl⟩,hy⟩
  exact ⟨b,hb,gr1_mem.1 hy⟩
 ·rintro ⟨b,hb,hy⟩
  exact ⟨_,⟨b,hb,rfl⟩,gr1_mem.2 hy⟩
theorem crossUp_mem {l:List Ed} {y:Rat}:∀ {n:Nat},n ≤ l.length → (y ∈ crossUp l n ↔ ∃ i k,i < n ∧ i < k ∧ k < l.length ∧ ∃ p,ECom (eg l i) (eg l k) p ∧ p.2 = y)
 | 0,_=>by simp [crossUp]
 | n + 1,h=>by
  unfold crossUp
  rw [List.mem_append,crossUp_mem (n:=n) (by omega),crossRow_mem]
  constructor
  ·rintro (⟨i,k,h1,h2,h3,h4⟩ | ⟨b,hb,h4⟩)
   ·exact ⟨i,k,by omega,h2,h3,h4⟩
   ·obtain ⟨m,hm⟩:=List.mem_iff_getElem?.1 hb
    rw [List.getElem?_drop] at hm
    have hlt:=(List.getElem?_eq_some_iff.1 hm).1
    rw [eg_at hlt] at hm
    cases hm
    exact ⟨n,_,by omega,by omega,hlt,h4⟩
  ·rintro ⟨i,k,h1,h2,h3,h4⟩
   by_cases e:i = n
   ·subst e
    refine .inr ⟨_,?_,h4⟩
    rw [List.mem_iff_getElem?]
    exact ⟨k - (i + 1),by rw [List.getElem?_drop,show i + 1 + (k - (i + 1)) = k by omega]; exact eg_at h3⟩
   ·exact .inl ⟨i,k,by omega,h2,h3,h4⟩
theorem gcrossUp_mem {l:List Ed} {y:Rat}:∀ {n:Nat},n ≤ l.length → (y ∈ gcrossUp l n ↔ ∃ i k,i < n ∧ k < i ∧ ∃ p,ECom (eg l i) (eg l k) p ∧ p.2 = y)
 | 0,_=>by simp [gcrossUp]
 | n + 1,h=>by
  unfold gcrossUp
  rw [List.mem_append,gcrossUp_mem (n:=n) (by omega),gcrossRow_mem]
  constructor
  ·rintro (⟨i,k,h1,h2,h4⟩ | ⟨b,hb,h4⟩)
   ·exact ⟨i,k,by omega,h2,h4⟩
   ·obtain ⟨m,hm⟩:=List.mem_iff_getElem?.1 hb
    rw [List.getElem?_take] at hm
    split at hm
    ·rename_i hmn
     rw [eg_at (by omega)] at hm
     cases hm
     exact ⟨n,_,by omega,hmn,h4⟩
    ·cases hm
  ·rintro ⟨i,k,h1,h2,h4⟩
   by_cases e:i = n
   ·subst e
    refine .inr ⟨_,?_,h4⟩
    rw [List.mem_iff_getElem?]
    exact ⟨k,by rw [List.getElem?_take,if_pos h2]; exact eg_at (by omega)⟩
   ·exact .inl ⟨i,k,by omega,h2,h4⟩
theorem cross_same {l:List Ed} {y:Rat}:y ∈ crossUp l l.length ↔ y ∈ gcrossUp l l.length:=by
 rw [crossUp_mem (Nat.le_refl _),gcrossUp_mem (Nat.le_refl _)]
 constructor
 ·rintro ⟨i,k,h1,h2,h3,p,h4,h5⟩
  exact ⟨k,i,h3,h2,p,Com.symm h4,h5⟩
 ·rintro ⟨i,k,h1,h2,p,h4,h5⟩
  exact ⟨k,i,by omega,h2,h1,p,Com.symm h4,h5⟩
def pat (a0 a1 b0 b1 x:Rat):Option Rat:=if b0 - a0 = 0 then none else if qbtw x a0 b0 then some (a1 + (b1 - a1) * ((x - a0) / (b0 - a0))) else none
def pup (e:Ed) (x:Rat):Option Rat:=pat e.1.1 e.1.2 e.2.1 e.2.2 x
def edgeYs (x0 x1:Rat) (e:Ed):List Rat:=[e.1.2,e.2.2] ++ (pup e x0).toList ++ (pup e x1).toList
def qinner (y0 y1:Rat) (l:List Rat):List Rat:=l.filter fun y=>decide (y0 < y) && decide (y < y1)
def edgesYs (x0 x1:Rat) (l:List Ed):List Rat:=(l.map (edgeYs x0 x1)).flatten
def plevels (l:List Ed) (x0 x1 y0 y1:Rat):List Rat:=if x1 ≤ x0 ∨ y1 ≤ y0 then [] else norm (qinner y0 y1 (norm (crossUp l l.length) ++ edgesYs x0 x1 l) ++ [y0,y1])
def glevels (l:List Ed) (x0 x1 y0 y1:Rat):List Rat:=if x1 ≤ x0 ∨ y1 ≤ y0 then [] else y0 :: qinner y0 y1 (norm (gcrossUp l l.length ++ edgesYs x0 x1 l)) ++ [y1]
theorem qinner_mem {y0 y1 y:Rat} {l:List Rat}:y ∈ qinner y0 y1 l ↔ y ∈ l ∧ y0 < y ∧ y < y1:=by
 unfold qinner
 rw [List.mem_filter,Bool.and_eq_true,decide_eq_true_iff,decide_eq_true_iff]
theorem rising_filter {l:List Rat} (h:Rising l) (f:Rat → Bool):Rising (l.filter f):=List.Pairwise.filter f h
theorem ends_rising {y0 y1:Rat} {l:List Rat} (h:Rising l) (h0:y0 < y1):Rising (y0 :: qinner y0 y1 l ++ [y1]):=by
 rw [List.cons_append]
 refine List.pairwise_cons.2 ⟨fun y hy=>?_,?_⟩
 ·rcases List.mem_append.1 hy with hy | hy
  ·exact (qinner_mem.1 hy).2.1
  ·rw [List.mem_singleton] at hy; rw [hy]; exact h0
 ·refine List.pairwise_append.2 ⟨rising_filter h _,List.pairwise_singleton _ _,fun a ha b hb=>?_⟩
  rw [List.mem_singleton] at hb
  rw [hb]
  exact (qinner_mem.1 ha).2.2
theorem levels_same (l:List Ed) (x0 x1 y0 y1:Rat):plevels l x0 x1 y0 y1 = glevels l x0 x1 y0 y1:=by
 unfold plevels glevels
 split
 ·rfl
 ·rename_i h
  symm
  refine norm_of (ends_rising norm_rising (by grind)) fun y=>?_
  simp only [List.mem_cons,List.mem_append,qinner_mem,norm_mem,List.not_mem_nil,or_false,cross_same,List.cons_append]
  grind
theorem plevels_mem {l:List Ed} {x0 x1 y0 y1 y:Rat} (h:¬(x1 ≤ x0 ∨ y1 ≤ y0)):y ∈ plevels l x0 x1 y0 y1 ↔ y = y0 ∨ y = y1 ∨ (y0 < y ∧ y < y1 ∧ (y ∈ crossUp l l.length ∨ y ∈ edgesYs x0 x1 l)):=by
 unfold plevels
 rw [if_neg h]
 simp only [List.mem_cons,List.mem_append,qinner_mem,norm_mem,List.not_mem_nil,or_false]
 grind
theorem plevels_rising (l:List Ed) (x0 x1 y0 y1:Rat):Rising (plevels l x0 x1 y0 y1):=by
 unfold plevels
 split
 ·exact List.Pairwise.nil
 ·exact norm_rising
end Gv
namespace Gv
open Go
set_option linter.unusedVariables false
set_option linter.unusedSimpArgs false
theorem leqQ {a b:Rat}:decide (qcmp a b ≤ 0) = decide (a ≤ b):=by rw [Bool.eq_iff_iff,decide_eq_true_iff,decide_eq_true_iff,qcmp_le]
theorem geqQ {a b:Rat}:decide (qcmp a b ≥ 0) = decide (b ≤ a):=by
 rw [Bool.eq_iff_iff,decide_eq_true_iff,decide_eq_true_iff,ge_iff_le]
 have:=qcmp_swap a b
 have h:=@qcmp_le b a
 constructor
 ·intro h1; exact h.1 (by omega)
 ·intro h1; have:=h.2 h1; omega
theorem qd_one:qd 1 1 = 1:=by decide +kernel
theorem Qb.dot {p q:Pt2} {k k':Nat} (h:Pb p k) (h':Pb q k'):Qb (pdot p q) (k + k' + (k + k') + 1):=(h.x.mul h'.x).add (h.y.mul h'.y)
theorem Pb.zero:Pb ((0:Rat),(0:Rat)) 1:=⟨Qb.int (zs_s (by decide)) (by decide),Qb.int (zs_s (by decide)) (by decide)⟩
section
variable {P:Program} {R:PV → Prop} {ρ:List PV} {C:List (List PV → Prop)} {k:VC} {args:List SV}
theorem ok_prim1 {p:Prim} {ps:List PV} (r:PV) (hp:pvs ρ args = ps) (h:p.ev ps = some r) (hk:k.ok P R (ρ ++ [r]) C):(VC.prim p args k).ok P R ρ C:=⟨r,by rw [hp]; exact h,hk⟩
end
end Gv
namespace Go.Proofs.YtcpgflbfjplheaaGreatDoor
open Go Go.RowKit Gs Gv
set_option linter.unusedVariables false
def ptup (o:Option Rat):PV:=match o with
 | some v=>.tup [qc v,.raw (.bool true)]
 | none=>.tup [qnone,.raw (.bool false)]
theorem s_between {u v w:PV} {x a b:Rat} {k:Nat} (hx:IsQ u x k) (ha:IsQ v a k) (hb:IsQ w b k) (hk:k ≤ 50000):Gv.Fn Tryz.prog 160 [u,v,w] (.raw (.bool (qbtw x a b))):=by
 have c1:=q_Cmp ha hb (by omega)
 have c2:=q_Cmp hb hx (by omega)
 have c3:=q_Cmp hx ha (by omega)
 have c4:=q_Cmp ha hx (by omega)
 have c5:=q_Cmp hx hb (by omega)
 obtain ⟨s1,l1,m1,rfl,_⟩:=hx
 obtain ⟨s2,l2,m2,rfl,_⟩:=ha
 obtain ⟨s3,l3,m3,rfl,_⟩:=hb
 have hq:qbtw x a b = if b < a then (decide (b ≤ x) && decide (x ≤ a)) else (decide (a ≤ x) && decide (x ≤ b)):=by
  rw [Bool.eq_iff_iff,qbtw_iff]
  split <;> simp only [Bool.and_eq_true,decide_eq_true_eq] <;> grind
 refine Fn.intro mixed vc_seg_between rfl ?_
 refine ok_call c1 rfl rfl ?_
 try simp only [nr]
 refine ok_gtr rfl (decide (b < a)) gtr_lt ?_
 try simp only [nr]
 refine ok_ite rfl (fun h=>?_) (fun h=>?_)
 ·have h':b < a:=of_decide_eq_true h
  rw [if_pos h'] at hq
  refine ok_call c2 rfl rfl ?_
  try simp only [nr]
  refine ok_leq rfl (decide (b ≤ x)) leqQ ?_
  try simp only [nr]
  refine ok_ite rfl (fun h1=>?_) (fun h1=>?_)
  ·refine ok_call c3 rfl rfl ?_
   try simp only [nr]
   refine ok_leq rfl (decide (x ≤ a)) leqQ ?_
   try simp only [nr]
   exact ok_ret rfl (by rw [hq,h1,Bool.true_and]; rfl)
  ·exact ok_ret rfl (by rw [hq,h1,Bool.false_and]; rfl)
 ·have h':¬b < a:=of_decide_eq_false h
  rw [if_neg h'] at hq
  refine ok_call c4 rfl rfl ?_
  try simp only [nr]
  refine ok_leq rfl (decide (a ≤ x)) leqQ ?_
  try simp only [nr]
  refine ok_ite rfl (fun h1=>?_) (fun h1=>?_)
  ·refine ok_call c5 rfl rfl ?_
   try simp only [nr]
   refine ok_leq rfl (decide (x ≤ b)) leqQ ?_
   try simp only [nr]
   exact ok_ret rfl (by rw [hq,h1,Bool.true_and]; rfl)
  ·exact ok_ret rfl (by rw [hq,h1,Bool.false_and]; rfl)
theorem s_On {u v w:PV} {p a b:Pt2} {k:Nat} (hp:IsP u p k) (ha:IsP v a k) (hb:IsP w b k) (hk:k ≤ 10000):Gv.Fn Tryz.prog 161 [u,v,w] (.raw (.bool (pon p a b))):=by
 have c1:=p_Orient ha hb hp hk
 obtain ⟨a1,a2,a3,a4,a5,a6,rfl,i1,i2⟩:=hp
 obtain ⟨b1,b2,b3,b4,b5,b6,rfl,j1,j2⟩:=ha
 obtain ⟨d1,d2,d3,d4,d5,d6,rfl,k1,k2⟩:=hb
 have c2:=s_between i1 j1 k1 (by omega)
 have c3:=s_between i2 j2 k2 (by omega)
 refine Fn.intro mixed vc_seg_On rfl ?_
 refine ok_call c1 rfl rfl ?_
 try simp only [nr]
 refine ok_eq rfl (decide (porient a b p = 0)) (sign0 _) ?_
 try simp only [nr]
 refine ok_ite rfl (fun h=>?_) (fun h=>?_)
 ·refine ok_call c2 rfl rfl ?_
  try simp only [nr]
  refine ok_ite rfl (fun h1=>?_) (fun h1=>?_)
  ·refine ok_call c3 rfl rfl ?_
   try simp only [nr]
   exact ok_ret rfl (by unfold pon; rw [h,h1,Bool.true_and,Bool.true_and]; rfl)
  ·exact ok_ret rfl (by unfold pon; rw [h,h1,Bool.true_and,Bool.false_and]; rfl)
 ·exact ok_ret rfl (by unfold pon; rw [h,Bool.false_and]; rfl)
theorem s_good {u:PV} {p:Pt2} {k:Nat} (hp:IsP u p k) (hk:k + 1 ≤ 100000):Gv.Fn Tryz.prog 162 [u] (pc p):=by
 have c1:=p_Add hp (zero_is (k:=1) (by decide)) (by omega)
 rw [padd_zero] at c1
 obtain ⟨a1,a2,a3,a4,a5,a6,rfl,i1,i2⟩:=hp
 refine Fn.intro mixed vc_seg_good rfl ?_
 refine ok_call c1 rfl rfl ?_
 try simp only [nr]
 exact ok_ret rfl rfl
theorem p_Dot {u v:PV} {p q:Pt2} {k k':Nat} (hu:IsP u p k) (hv:IsP v q k') (hk:2 * (k + k') ≤ 100000):Gv.Fn Tryz.prog 208 [u,v] (qc (pdot p q)):=by
 obtain ⟨a,b,c,d,e,f,rfl,i1,i2⟩:=hu
 obtain ⟨a',b',c',d',e',f',rfl,j1,j2⟩:=hv
 have c1:=q_Mul i1 j1 (by omega)
 have c2:=q_Mul i2 j2 (by omega)
 have c3:=q_Add (IsQ.qc (i1.b.mul j1.b)) (IsQ.qc (i2.b.mul j2.b)) (by omega)
 refine Fn.intro mixed vc_pt_Dot rfl ?_
 refine ok_call c1 rfl rfl ?_
 try simp only [nr]
 refine ok_call c2 rfl rfl ?_
 try simp only [nr]
 refine ok_call c3 rfl rfl ?_
 try simp only [nr]
 exact ok_ret rfl rfl
theorem p_Far {u v:PV} {p q:Pt2} {k k':Nat} (hu:IsP u p k) (hv:IsP v q k') (hk:4 * (k + k' + 1) ≤ 100000):Gv.Fn Tryz.prog 163 [u,v] (qc (pfar p q)):=by
 have c1:=p_Sub hu hv (by omega)
 have c2:=p_Dot (IsP.pc (hu.b.sub hv.b)) (IsP.pc (hu.b.sub hv.b)) (by omega)
 obtain ⟨a,b,c,d,e,f,rfl,i1,i2⟩:=hu
 obtain ⟨a',b',c',d',e',f',rfl,j1,j2⟩:=hv
 refine Fn.intro mixed vc_pt_Far rfl ?_
 refine ok_call c1 rfl rfl ?_
 try simp only [nr]
 refine ok_call c2 rfl rfl ?_
 try simp only [nr]
 exact ok_ret rfl rfl
theorem s_at {u0 u1 v0 v1 w:PV} {a0 a1 b0 b1 x:Rat} {k:Nat} (h0:IsQ u0 a0 k) (h1:IsQ u1 a1 k) (g0:IsQ v0 b0 k) (g1:IsQ v1 b1 k) (hx:IsQ w x k) (hk:k ≤ 3000):Gv.Fn Tryz.prog 94 [u0,u1,v0,v1,w] (ptup (pat a0 a1 b0 b1 x)):=by
 have c1:=q_Sub hx h0 (by omega)
 have c2:=q_Sub g0 h0 (by omega)
 have bx:=hx.b.sub h0.b
 have bd:=g0.b.sub h0.b
 have c4:=s_between hx h0 g0 (by omega)
 have c5:=q_Sub g1 h1 (by omega)
 have b1':=h1.b
 have hz:=fun (h:b0 - a0 = 0)=>q_Div_zero (IsQ.qc bx) (by rw [← h]; exact IsQ.qc bd) (show _ + _ ≤ 100000 by omega)
 have hq:=fun (h:b0 - a0 ≠ 0)=>q_Div (IsQ.qc bx) (IsQ.qc bd) (by omega) h
 have hm:=fun (h:b0 - a0 ≠ 0)=>q_Mul (IsQ.qc (bx.div bd h)) (IsQ.qc (g1.b.sub h1.b)) (by omega)
 have ha:=fun (h:b0 - a0 ≠ 0)=>q_Add h1 (IsQ.qc ((bx.div bd h).mul (g1.b.sub h1.b))) (by omega)
 obtain ⟨s1,l1,m1,rfl,_⟩:=h0
 obtain ⟨s2,l2,m2,rfl,_⟩:=h1
 obtain ⟨s3,l3,m3,rfl,_⟩:=g0
 obtain ⟨s4,l4,m4,rfl,_⟩:=g1
 obtain ⟨s5,l5,m5,rfl,_⟩:=hx
 refine Fn.intro mixed vc_seg_at rfl ?_
 refine ok_call c1 rfl rfl ?_
 try simp only [nr]
 refine ok_call c2 rfl rfl ?_
 try simp only [nr]
 by_cases h:b0 - a0 = 0
 ·have e:pat a0 a1 b0 b1 x = none:=by unfold pat; rw [if_pos h]
  rw [e]
  refine ok_call (hz h) rfl rfl ?_
  try simp only [nr]
  refine ok_neq rfl true rfl ?_
  try simp only [nr]
  refine ok_true rfl ?_
  exact ok_ret rfl rfl
 ·refine ok_call (hq h) rfl rfl ?_
  try simp only [nr]
  refine ok_neq rfl false rfl ?_
  try simp only [nr]
  refine ok_false rfl ?_
  refine ok_call c4 rfl rfl ?_
  try simp only [nr]
  refine ok_not rfl ?_
  try simp only [nr]
  refine ok_ite rfl (fun h2=>?_) (fun h2=>?_)
  ·have e:pat a0 a1 b0 b1 x = none:=by unfold pat; rw [if_neg h,if_neg (by simpa using h2)]
   rw [e]
   exact ok_ret rfl rfl
  ·have e:pat a0 a1 b0 b1 x = some (a1 + (x - a0) / (b0 - a0) * (b1 - a1)):=by unfold pat; rw [if_neg h,if_pos (by simpa using h2),Rat.mul_comm]
   rw [e]
   refine ok_call c5 rfl rfl ?_
   try simp only [nr]
   refine ok_call (hm h) rfl rfl ?_
   try simp only [nr]
   refine ok_call (ha h) rfl rfl ?_
   try simp only [nr]
   exact ok_ret rfl rfl
theorem s_Upright {u v w:PV} {a b:Pt2} {x:Rat} {k:Nat} (ha:IsP u a k) (hb:IsP v b k) (hx:IsQ w x k) (hk:k ≤ 3000):Gv.Fn Tryz.prog 41 [u,v,w] (ptup (pup (a,b) x)):=by
 obtain ⟨a1,a2,a3,a4,a5,a6,rfl,i1,i2⟩:=ha
 obtain ⟨b1,b2,b3,b4,b5,b6,rfl,j1,j2⟩:=hb
 have c:=s_at i1 i2 j1 j2 hx hk
 obtain ⟨s5,l5,m5,rfl,_⟩:=hx
 refine Fn.intro mixed vc_seg_Upright rfl ?_
 change Gv.Fn _ _ _ (ptup (pup (a,b) x)) at c
 generalize pup (a,b) x = o at c ⊢
 cases o
 ·refine ok_call c rfl rfl ?_
  try simp only [nr]
  exact ok_ret rfl rfl
 ·refine ok_call c rfl rfl ?_
  try simp only [nr]
  exact ok_ret rfl rfl
def alupto (a b c d:Pt2) (i:Nat):List Pt2:=([a,b,c,d].take i).foldl (alstep a b c d) []
theorem alupto_succ (a b c d:Pt2) {i:Nat} {x:Pt2} (h:[a,b,c,d][i]? = some x):alupto a b c d (i + 1) = alstep a b c d (alupto a b c d i) x:=by
 unfold alupto
 rw [List.take_add_one,h,List.foldl_append]
 rfl
theorem alupto_len (a b c d:Pt2):∀ i,(alupto a b c d i).length ≤ i
 | 0=>Nat.le_refl _
 | i + 1=>by
  have ih:=alupto_len a b c d i
  cases h:[a,b,c,d][i]? with
  | none =>
   unfold alupto at ih ⊢
   rw [List.take_add_one,h]
   simp only [Option.toList_none,List.append_nil]
   omega
  | some x =>
   rw [alupto_succ a b c d h]
   have:=@alstep_len a b c d x (alupto a b c d i)
   omega
theorem alupto_mem {a b c d p:Pt2}:∀ {i:Nat},p ∈ alupto a b c d i → p = a ∨ p = b ∨ p = c ∨ p = d
 | 0,h=>by simp [alupto] at h
 | i + 1,h=>by
  cases hx:[a,b,c,d][i]? with
  | none =>
   have e:alupto a b c d (i + 1) = alupto a b c d i:=by
    unfold alupto
    rw [List.take_add_one,hx]
    simp
   rw [e] at h
   exact alupto_mem h
  | some x =>
   rw [alupto_succ a b c d hx,alstep_mem] at h
   rcases h with h | ⟨rfl,_⟩
   ·exact alupto_mem h
   ·have:=List.mem_of_getElem? hx
    simpa using this
theorem pl_at {l:List Pt2} {i:Nat} (h:i < l.length):(l.map pcs)[i]? = some (pcs (pa l i)):=by rw [List.getElem?_map,at_pa h]; rfl
set_option maxHeartbeats 4000000 in
theorem s_along {u v w z:PV} {a b c d:Pt2} {k:Nat} (ha:IsP u a k) (hb:IsP v b k) (hc:IsP w c k) (hd:IsP z d k) (hk:k ≤ 2000):Gv.Fn Tryz.prog 96 [u,v,w,z] (plist (palong a b c d)):=by
 have hpt:∀ i:Nat,i < 4 → ∃ x0 x1 x2 x3 x4 x5 X,[a,b,c,d][i]? = some X ∧ IsP (.agg [x0,x1,x2,x3,x4,x5]) X k ∧
  ∀ a1 a2 a3 a4 a5 a6 b1 b2 b3 b4 b5 b6 c1 c2 c3 c4 c5 c6 d1 d2 d3 d4 d5 d6,u = .agg [a1,a2,a3,a4,a5,a6] → v = .agg [b1,b2,b3,b4,b5,b6] → w = .agg [c1,c2,c3,c4,c5,c6] → z = .agg [d1,d2,d3,d4,d5,d6] →
   Prim.ev (.aix 4 6 true) [.agg [a1,a2,a3,a4,a5,a6,b1,b2,b3,b4,b5,b6,c1,c2,c3,c4,c5,c6,d1,d2,d3,d4,d5,d6],.raw (.int .i64 (i:Int))] = some (.agg [x0,x1,x2,x3,x4,x5]):=by
  intro i hi
  have hh:∀ {t:PV} {X:Pt2},IsP t X k → ∃ x0 x1 x2 x3 x4 x5,t = .agg [x0,x1,x2,x3,x4,x5]:=fun h=>by
   obtain ⟨x0,x1,x2,x3,x4,x5,e,_⟩:=h
   exact ⟨x0,x1,x2,x3,x4,x5,e⟩
  match i,hi with
  | 0,_ =>
   obtain ⟨x0,x1,x2,x3,x4,x5,e⟩:=hh ha
   refine ⟨x0,x1,x2,x3,x4,x5,a,rfl,by rw [← e]; exact ha,?_⟩
   rintro _ _ _ _ _ _ _ _ _ _ _ _ _ _ _ _ _ _ _ _ _ _ _ _ e1 _ _ _
   rw [e] at e1
   cases e1
   rfl
  | 1,_ =>
   obtain ⟨x0,x1,x2,x3,x4,x5,e⟩:=hh hb
   refine ⟨x0,x1,x2,x3,x4,x5,b,rfl,by rw [← e]; exact hb,?_⟩
   rintro _ _ _ _ _ _ _ _ _ _ _ _ _ _ _ _ _ _ _ _ _ _ _ _ _ e1 _ _
   rw [e] at e1
   cases e1
   rfl
  | 2,_ =>
   obtain ⟨x0,x1,x2,x3,x4,x5,e⟩:=hh hc
   refine ⟨x0,x1,x2,x3,x4,x5,c,rfl,by rw [← e]; exact hc,?_⟩
   rintro _ _ _ _ _ _ _ _ _ _ _ _ _ _ _ _ _ _ _ _ _ _ _ _ _ _ e1 _
   rw [e] at e1
   cases e1
   rfl
  | 3,_ =>
   obtain ⟨x0,x1,x2,x3,x4,x5,e⟩:=hh hd
   refine ⟨x0,x1,x2,x3,x4,x5,d,rfl,by rw [← e]; exact hd,?_⟩
   rintro _ _ _ _ _ _ _ _ _ _ _ _ _ _ _ _ _ _ _ _ _ _ _ _ _ _ _ e1
   rw [e] at e1
   cases e1
   rfl
  | i + 4,h=>omega
 have hab:=fun {t:PV} {X:Pt2} (h:IsP t X k)=>s_On h ha hb (by omega)
 have hcd:=fun {t:PV} {X:Pt2} (h:IsP t X k)=>s_On h hc hd (by omega)
 have hfar:=fun {X:Pt2} (h:Pb X k)=>p_Far (IsP.pc h) ha (show 4 * (k + k + 1) ≤ 100000 by omega)
 have hfb:=fun {X:Pt2} (h:Pb X k)=>Qb.dot (h.sub ha.b) (h.sub ha.b)
 have hbd:∀ X:Pt2,(X = a ∨ X = b ∨ X = c ∨ X = d) → Pb X k:=by
  rintro X (rfl | rfl | rfl | rfl)
  ·exact ha.b
  ·exact hb.b
  ·exact hc.b
  ·exact hd.b
 obtain ⟨a1,a2,a3,a4,a5,a6,rfl,_,_⟩:=ha
 obtain ⟨b1,b2,b3,b4,b5,b6,rfl,_,_⟩:=hb
 obtain ⟨c1,c2,c3,c4,c5,c6,rfl,_,_⟩:=hc
 obtain ⟨d1,d2,d3,d4,d5,d6,rfl,_,_⟩:=hd
 refine Fn.intro mixed vc_seg_along rfl ?_
 refine ok_mk (l:=[]) rfl ?_
 try simp only [nr]
 refine ok_forN 0 4 0 (fun i us=>us = [.raw (.int .i64 (i:Int)),.sl ((alupto a b c d i).map pcs)] ∧ i ≤ 4) ⟨rfl,by omega⟩ (fun i us h=>by rw [h.1]; rfl) ?_
 try simp only [nr]
 rintro i us D ⟨rfl,hi⟩ hD
 try simp only [nr]
 refine ok_lss rfl (decide (i < 4)) (by rw [Bool.eq_iff_iff,decide_eq_true_iff,decide_eq_true_iff]; omega) ?_
 try simp only [nr]
 refine ok_ite rfl (fun h0=>?_) (fun h0=>?_)
 ·have hlt:i < 4:=of_decide_eq_true h0
  obtain ⟨x0,x1,x2,x3,x4,x5,X,hX,hP,hev⟩:=hpt i hlt
  have hsu:=alupto_succ a b c d hX
  have hXm:X = a ∨ X = b ∨ X = c ∨ X = d:=by simpa using List.mem_of_getElem? hX
  refine ok_prim1 _ rfl (hev _ _ _ _ _ _ _ _ _ _ _ _ _ _ _ _ _ _ _ _ _ _ _ _ rfl rfl rfl rfl) ?_
  try simp only [nr]
  refine ok_call (hab hP) rfl rfl ?_
  try simp only [nr]
  refine ok_not rfl ?_
  try simp only [nr]
  refine ok_ite rfl (fun h1=>?_) (fun h1=>?_)
  ·have hf:pon X a b = false:=by simpa using h1
   refine ok_inc (n:=i) rfl (by omega) ?_
   try simp only [nr]
   exact ok_again rfl (hD (i + 1) _ (by omega) hlt ⟨by rw [hsu]; unfold alstep; rw [if_neg (fun h=>by rw [hf] at h; exact Bool.noConfusion h.1)]; rfl,hlt⟩)
  ·have ht:pon X a b = true:=by simpa using h1
   refine ok_call (hcd hP) rfl rfl ?_
   try simp only [nr]
   refine ok_not rfl ?_
   try simp only [nr]
   refine ok_ite rfl (fun h2=>?_) (fun h2=>?_)
   ·have hf:pon X c d = false:=by simpa using h2
    refine ok_inc (n:=i) rfl (by omega) ?_
    try simp only [nr]
    exact ok_again rfl (hD (i + 1) _ (by omega) hlt ⟨by rw [hsu]; unfold alstep; rw [if_neg (fun h=>by rw [hf] at h; exact Bool.noConfusion h.2.1)]; rfl,hlt⟩)
   ·have ht2:pon X c d = true:=by simpa using h2
    refine ok_lenS (es:=(alupto a b c d i).map pcs) rfl ((alupto a b c d i).length:Int) (by simp) ?_
    try simp only [nr]
    have hll:=alupto_len a b c d i
    refine ok_forN 0 (alupto a b c d i).length 0 (fun j us=>us = [.raw (.int .i64 (j:Int)),.sl ((alupto a b c d i).map pcs)] ∧ j ≤ (alupto a b c d i).length ∧ ∀ m,m < j → pa (alupto a b c d i) m ≠ X) ⟨rfl,Nat.zero_le _,fun m h=>by omega⟩ (fun j us h=>by rw [h.1]; rfl) ?_
    try simp only [nr]
    rintro j us D2 ⟨rfl,hj,hne⟩ hD2
    try simp only [nr]
    refine ok_lss rfl (decide (j < (alupto a b c d i).length)) (by rw [Bool.eq_iff_iff,decide_eq_true_iff,decide_eq_true_iff]; omega) ?_
    try simp only [nr]
    refine ok_ite rfl (fun h3=>?_) (fun h3=>?_)
    ·have hjl:j < (alupto a b c d i).length:=of_decide_eq_true h3
     have hym:pa (alupto a b c d i) j ∈ alupto a b c d i:=List.mem_of_getElem? (at_pa hjl)
     refine ok_idx rfl (pl_at hjl) rfl ?_
     try simp only [nr]
     refine ok_ldxA rfl (pl_at hjl) rfl ?_
     try simp only [nr]
     refine ok_call (p_Same hP (IsP.pc (hbd _ (alupto_mem hym))) (by omega)) rfl rfl ?_
     try simp only [nr]
     refine ok_ite rfl (fun h4=>?_) (fun h4=>?_)
     ·have he:X = pa (alupto a b c d i) j:=of_decide_eq_true h4
      refine ok_inc (n:=i) rfl (by omega) ?_
      try simp only [nr]
      exact ok_again rfl (hD (i + 1) _ (by omega) hlt ⟨by rw [hsu]; unfold alstep; rw [if_neg (fun h=>h.2.2 (by rw [he]; exact hym))]; rfl,hlt⟩)
     ·have he:X ≠ pa (alupto a b c d i) j:=of_decide_eq_false h4
      refine ok_inc (n:=j) rfl (by omega) ?_
      try simp only [nr]
      exact ok_again rfl (hD2 (j + 1) _ (by omega) hjl ⟨rfl,hjl,fun m hm=>by
       rcases Nat.lt_succ_iff_lt_or_eq.1 hm with c | c
       ·exact hne m c
       ·rw [c]; exact fun e=>he e.symm⟩)
    ·have hjl:j = (alupto a b c d i).length:=by have:=of_decide_eq_false h3; omega
     have hnm:X ∉ alupto a b c d i:=fun hm=>by
      obtain ⟨m,hm⟩:=List.mem_iff_getElem?.1 hm
      have hml:=(List.getElem?_eq_some_iff.1 hm).1
      rw [at_pa hml] at hm
      cases hm
      exact hne m (by omega) rfl
     refine ok_call (s_good hP (by omega)) rfl rfl ?_
     try simp only [nr]
     refine ok_mk (l:=[pcs X]) rfl ?_
     try simp only [nr]
     refine ok_app (n:=6) (es:=(alupto a b c d i).map pcs) (xs:=[pcs X]) rfl (by simp only [List.length_map,List.length_cons,List.length_nil]; omega) (by simp only [List.length_map,List.length_cons,List.length_nil]; omega) (fun x hx=>by rw [List.mem_singleton] at hx; rw [hx]; rfl) ?_
     try simp only [nr]
     refine ok_inc (n:=i) rfl (by omega) ?_
     try simp only [nr]
     exact ok_again rfl (hD (i + 1) _ (by omega) hlt ⟨by rw [hsu]; unfold alstep; rw [if_pos ⟨ht,ht2,hnm⟩,List.map_append]; rfl,hlt⟩)
 ·have hi4:i = 4:=by have:=of_decide_eq_false h0; omega
  subst hi4
  have hal:alupto a b c d 4 = alist a b c d:=rfl
  have hbl:∀ m,m < (alist a b c d).length → Pb (pa (alist a b c d) m) k:=fun m hm=>hbd _ (alist_mem.1 (List.mem_of_getElem? (at_pa hm))).1
  rw [hal]
  refine ok_lenS (es:=(alist a b c d).map pcs) rfl ((alist a b c d).length:Int) (by simp) ?_
  try simp only [nr]
  refine ok_eq rfl (decide ((alist a b c d).length = 2)) (by rw [Bool.eq_iff_iff,beq_iff_eq,decide_eq_true_iff]; omega) ?_
  try simp only [nr]
  refine ok_ite rfl (fun h1=>?_) (fun h1=>?_)
  ·have h2:(alist a b c d).length = 2:=of_decide_eq_true h1
   obtain ⟨x,y,hxy⟩:∃ x y,alist a b c d = [x,y]:=by
    match hl:alist a b c d,h2 with
    | [x,y],_=>exact ⟨x,y,rfl⟩
   have e0:=hbl 0 (by omega)
   have e1:=hbl 1 (by omega)
   have hpal:palong a b c d = if pfar y a < pfar x a then [y,x] else [x,y]:=by unfold palong; rw [hxy]
   rw [hpal]
   rw [hxy] at e0 e1 ⊢
   change Pb x k at e0
   change Pb y k at e1
   refine ok_idx (m:=0) (es:=[pcs x,pcs y]) rfl rfl rfl ?_
   try simp only [nr]
   refine ok_ldxA (m:=0) (es:=[pcs x,pcs y]) rfl rfl rfl ?_
   try simp only [nr]
   refine ok_call (hfar e0) rfl rfl ?_
   try simp only [nr]
   refine ok_idx (m:=1) (es:=[pcs x,pcs y]) rfl rfl rfl ?_
   try simp only [nr]
   refine ok_ldxA (m:=1) (es:=[pcs x,pcs y]) rfl rfl rfl ?_
   try simp only [nr]
   refine ok_call (hfar e1) rfl rfl ?_
   try simp only [nr]
   refine ok_call (q_Cmp (IsQ.qc (hfb e0)) (IsQ.qc (hfb e1)) (by omega)) rfl rfl ?_
   try simp only [nr]
   refine ok_gtr rfl (decide (pfar y a < pfar x a)) gtr_lt ?_
   try simp only [nr]
   refine ok_ite rfl (fun h3=>?_) (fun h3=>?_)
   ·rw [if_pos (of_decide_eq_true h3)]
    refine ok_idx (m:=1) (es:=[pcs x,pcs y]) rfl rfl rfl ?_
    try simp only [nr]
    refine ok_ldxA (m:=1) (es:=[pcs x,pcs y]) rfl rfl rfl ?_
    try simp only [nr]
    refine ok_idx (m:=0) (es:=[pcs x,pcs y]) rfl rfl rfl ?_
    try simp only [nr]
    refine ok_ldxA (m:=0) (es:=[pcs x,pcs y]) rfl rfl rfl ?_
    try simp only [nr]
    refine ok_idx (m:=0) (es:=[pcs x,pcs y]) rfl rfl rfl ?_
    try simp only [nr]
    refine ok_stxA (m:=0) (es:=[pcs x,pcs y]) (cs:=pcs y) rfl rfl rfl rfl (pcs_flat _) ?_
    try simp only [nr]
    refine ok_idx (m:=1) (es:=[pcs y,pcs y]) rfl rfl rfl ?_
    try simp only [nr]
    refine ok_stxA (m:=1) (es:=[pcs y,pcs y]) (cs:=pcs x) rfl rfl rfl rfl (pcs_flat _) ?_
    try simp only [nr]
    exact ok_ret rfl rfl
   ·rw [if_neg (of_decide_eq_false h3)]
    exact ok_ret rfl rfl
  ·have h2:(alist a b c d).length ≠ 2:=of_decide_eq_false h1
   have hpal:palong a b c d = alist a b c d:=by
    unfold palong
    split
    ·rename_i x y e; rw [e] at h2; exact absurd rfl h2
    ·rfl
   rw [hpal]
   exact ok_ret rfl rfl
set_option maxHeartbeats 1000000 in
theorem s_Meet {u v w z:PV} {a b c d:Pt2} {k:Nat} (ha:IsP u a k) (hb:IsP v b k) (hc:IsP w c k) (hd:IsP z d k) (hk:k ≤ 1000):Gv.Fn Tryz.prog 42 [u,v,w,z] (plist (pmeet a b c d)):=by
 have c1:=p_Sub hb ha (by omega)
 have c2:=p_Sub hd hc (by omega)
 have c3:=p_Sub hc ha (by omega)
 have bu:=hb.b.sub ha.b
 have bv:=hd.b.sub hc.b
 have bw:=hc.b.sub ha.b
 have c4:=p_Cross (IsP.pc bw) (IsP.pc bv) (by omega)
 have c5:=p_Cross (IsP.pc bu) (IsP.pc bv) (by omega)
 have c6:=p_Cross (IsP.pc bw) (IsP.pc bu) (by omega)
 have bwv:=Qb.cross bw bv
 have buv:=Qb.cross bu bv
 have bwu:=Qb.cross bw bu
 have c7:=s_along ha hb hc hd (by omega)
 have hz:=fun (h:pcross (psub b a) (psub d c) = 0)=>q_Div_zero (IsQ.qc bwv) (by rw [← h]; exact IsQ.qc buv) (show _ + _ ≤ 100000 by omega)
 have hq:=fun (h:pcross (psub b a) (psub d c) ≠ 0)=>q_Div (IsQ.qc bwv) (IsQ.qc buv) (by omega) h
 have hq2:=fun (h:pcross (psub b a) (psub d c) ≠ 0)=>q_Div (IsQ.qc bwu) (IsQ.qc buv) (by omega) h
 have c8:Gv.Fn Tryz.prog 54 [.raw (.int .i64 1),.raw (.int .i64 1)] (qc 1):=by rw [← qd_one]; exact q_Of (by decide) (by decide) (by decide) (by decide)
 have hone:Qb 1 1:=Qb.int (z:=1) (zs_s (by decide)) (by decide)
 have bt:=fun (h:pcross (psub b a) (psub d c) ≠ 0)=>bwv.div buv h
 have bs:=fun (h:pcross (psub b a) (psub d c) ≠ 0)=>bwu.div buv h
 have hmix:=fun (h:pcross (psub b a) (psub d c) ≠ 0)=>p_Mix ha hb (IsQ.qc (bt h)) (by omega)
 obtain ⟨a1,a2,a3,a4,a5,a6,rfl,_,_⟩:=ha
 obtain ⟨b1,b2,b3,b4,b5,b6,rfl,_,_⟩:=hb
 obtain ⟨c1',c2',c3',c4',c5',c6',rfl,_,_⟩:=hc
 obtain ⟨d1,d2,d3,d4,d5,d6,rfl,_,_⟩:=hd
 refine Fn.intro mixed vc_seg_Meet rfl ?_
 refine ok_call c1 rfl rfl ?_
 try simp only [nr]
 refine ok_call c2 rfl rfl ?_
 try simp only [nr]
 refine ok_call c3 rfl rfl ?_
 try simp only [nr]
 refine ok_call c4 rfl rfl ?_
 try simp only [nr]
 refine ok_call c5 rfl rfl ?_
 try simp only [nr]
 by_cases h:pcross (psub b a) (psub d c) = 0
 ·have e:pmeet a b c d = palong a b c d:=by unfold pmeet; rw [if_pos h]
  rw [e]
  refine ok_call (hz h) rfl rfl ?_
  try simp only [nr]
  refine ok_neq rfl true rfl ?_
  try simp only [nr]
  refine ok_true rfl ?_
  refine ok_call c7 rfl rfl ?_
  try simp only [nr]
  exact ok_ret rfl rfl
 ·have e:pmeet a b c d = if qunit (mt a b c d) && qunit (ms a b c d) then [pmix a b (mt a b c d)] else []:=by unfold pmeet; rw [if_neg h]
  have hno:∀ {t:Rat},qunit t = true ↔ ¬t < 0 ∧ ¬1 < t:=fun {t}=>by rw [qunit_iff]; grind
  rw [e]
  refine ok_call (hq h) rfl rfl ?_
  try simp only [nr]
  refine ok_neq rfl false rfl ?_
  try simp only [nr]
  refine ok_false rfl ?_
  refine ok_call c6 rfl rfl ?_
  try simp only [nr]
  refine ok_call c5 rfl rfl ?_
  try simp only [nr]
  refine ok_call (hq2 h) rfl rfl ?_
  try simp only [nr]
  refine ok_call c8 rfl rfl ?_
  try simp only [nr]
  refine ok_call (q_Sign (IsQ.qc (bt h)) (by omega)) rfl rfl ?_
  try simp only [nr]
  refine ok_lss rfl (decide (mt a b c d < 0)) (sign_lt0 _) ?_
  try simp only [nr]
  refine ok_ite rfl (fun h1=>?_) (fun h1=>?_)
  ·rw [if_neg (by rw [Bool.and_eq_true,hno]; exact fun g=>g.1.1 (of_decide_eq_true h1))]
   exact ok_ret rfl rfl
  refine ok_call (q_Sign (IsQ.qc (bs h)) (by omega)) rfl rfl ?_
  try simp only [nr]
  refine ok_lss rfl (decide (ms a b c d < 0)) (sign_lt0 _) ?_
  try simp only [nr]
  refine ok_ite rfl (fun h2=>?_) (fun h2=>?_)
  ·rw [if_neg (by rw [Bool.and_eq_true,hno,hno]; exact fun g=>g.2.1 (of_decide_eq_true h2))]
   exact ok_ret rfl rfl
  refine ok_call (q_Cmp (IsQ.qc (bt h)) (IsQ.qc hone) (by omega)) rfl rfl ?_
  try simp only [nr]
  refine ok_gtr rfl (decide (1 < mt a b c d)) gtr_lt ?_
  try simp only [nr]
  refine ok_ite rfl (fun h3=>?_) (fun h3=>?_)
  ·rw [if_neg (by rw [Bool.and_eq_true,hno,hno]; exact fun g=>g.1.2 (of_decide_eq_true h3))]
   exact ok_ret rfl rfl
  refine ok_call (q_Cmp (IsQ.qc (bs h)) (IsQ.qc hone) (by omega)) rfl rfl ?_
  try simp only [nr]
  refine ok_gtr rfl (decide (1 < ms a b c d)) gtr_lt ?_
  try simp only [nr]
  refine ok_ite rfl (fun h4=>?_) (fun h4=>?_)
  ·rw [if_neg (by rw [Bool.and_eq_true,hno,hno]; exact fun g=>g.2.2 (of_decide_eq_true h4))]
   exact ok_ret rfl rfl
  rw [if_pos (by rw [Bool.and_eq_true,hno,hno]; exact ⟨⟨of_decide_eq_false h1,of_decide_eq_false h3⟩,of_decide_eq_false h2,of_decide_eq_false h4⟩)]
  refine ok_call (hmix h) rfl rfl ?_
  try simp only [nr]
  refine ok_mk (l:=[pcs (pmix a b (mt a b c d))]) rfl ?_
  try simp only [nr]
  exact ok_ret rfl rfl
end Go.Proofs.YtcpgflbfjplheaaGreatDoor
namespace Gv
open Go
set_option linter.unusedVariables false
set_option linter.unusedSimpArgs false
end Gv
namespace Go.Proofs.YtcpgflbfjplheaaGreatDoor
open Go Go.RowKit Gs Gv
set_option linter.unusedVariables false
end Go.Proofs.YtcpgflbfjplheaaGreatDoor

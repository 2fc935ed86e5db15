/- A run draws, it never takes a draw back: 'drawn' only grows. -/
import Derived.Calls
import Derived.Laws.World
namespace Go.Proofs.YtaojnjealccjiaaGreatDoor
open Go
set_option linter.unusedVariables false
set_option linter.unusedSimpArgs false

theorem ask_drawn {α : Type} : ∀ (x : Ask α) (w : World), w.drawn ≤ (w.ask x).2.drawn
  | .done a, w => Nat.le_refl _
  | .ask what range k, w => by
    unfold World.ask
    dsimp only
    split
    · exact ask_drawn (k 0) w
    · exact Nat.le_trans (Nat.le_succ _) (ask_drawn (k _) { w with drawn := w.drawn + 1 })
theorem sys_drawn (w : World) (c : Sys) : w.drawn ≤ (w.sys c).2.drawn := by
  have h := ask_drawn (Kernel.perform c w.os) w
  unfold World.sys
  split
  · exact Nat.le_refl _
  · next e => rw [e] at h; exact h
def _root_.Go.Result.drawnR {α : Type} : Result α → Nat
  | .ok _ w => w.drawn
  | .halt _ w => w.drawn
theorem bind_pure_world {ε α : Type} {x : Except ε α} {f : α → Except ε (World × List Addr)} {w : World} {r : World × List Addr} (hf : ∀ a r, f a = .ok r → r.1.drawn = w.drawn) (h : (x >>= f) = .ok r) : r.1.drawn = w.drawn := by
  cases x with
  | error e => cases h
  | ok a => exact hf a r h
theorem farStore_drawn {p : Program} {w w' : World} {a : Addr} {v : Value} {b : Bool} {l : List Addr} (h : w.farStore p a v b = .ok (w', l)) : w'.drawn = w.drawn := by
  unfold World.farStore at h
  split at h
  · split at h
    · next r hr =>
      cases h
      unfold World.viewStore at hr
      dsimp only at hr
      split at hr
      · cases hr
      · refine bind_pure_world (r := (w', l)) (fun c r h3 => ?_) hr
        obtain ⟨c1, c2, c3, c4, c5, c6⟩ := c
        dsimp only at h3
        split at h3
        · split at h3
          · cases h3
          · refine bind_pure_world (fun _ r h5 => ?_) h3
            cases h5
            rfl
        · cases h3
    · cases h
  · cases h
theorem store_drawn {α : Type} {p : Program} {k : Sem α} (ih : ∀ w, w.drawn ≤ (k.run p w).drawnR) (w : World) (m : Mode) (a : Addr) (v : Value) (h : Halt) :
    w.drawn ≤ (match w.cell? a with
    | some _ => if w.frozen? a then .halt h w else k.run p (w.setCell a v)
    | none => match w.farStore p a v (m == .atomic) with
      | .ok (w, _) => k.run p w
      | .error h => .halt h w : Result α).drawnR := by
  split
  · split
    · exact Nat.le_refl _
    · exact ih (w.setCell a v)
  · split
    · next w2 l e =>
      have := ih w2
      rwa [farStore_drawn e] at this
    · exact Nat.le_refl _
theorem run_drawn {α : Type} (p : Program) : ∀ (m : Sem α) (w : World), w.drawn ≤ (m.run p w).drawnR
  | .pure a, w => Nat.le_refl _
  | .load m a k, w => by
    unfold Sem.run
    split
    · exact run_drawn p (k _) w
    · split
      · exact run_drawn p (k _) w
      · exact Nat.le_refl _
  | .store m a v k, w => by
    have ih := run_drawn p k
    cases v <;> first | exact Nat.le_refl _ | exact store_drawn ih w m a _ _
  | .new o k, w => by unfold Sem.run; exact run_drawn p (k _) { w with heap := w.heap.push o }
  | .shape r k, w => by unfold Sem.run; exact run_drawn p (k _) _
  | .freeze a n k, w => by
    unfold Sem.run
    have := run_drawn p k (w.freeze a n)
    have e : (w.freeze a n).drawn = w.drawn := by unfold World.freeze; split <;> rfl
    rwa [e] at this
  | .frozen a k, w => by unfold Sem.run; exact run_drawn p (k _) _
  | .getObj r k, w => by
    unfold Sem.run
    split
    · exact Nat.le_refl _
    · exact run_drawn p (k _) _
    · exact Nat.le_refl _
  | .setObj r o k, w => by
    unfold Sem.run
    split
    · exact Nat.le_refl _
    · exact run_drawn p k { w with heap := w.heap.setIfInBounds r o }
    · exact Nat.le_refl _
  | .choose q k, w => by
    unfold Sem.run
    split
    · exact run_drawn p (k 0) w
    · exact Nat.le_trans (Nat.le_succ _) (run_drawn p (k _) { w with drawn := w.drawn + 1 })
  | .sys c k, w => by unfold Sem.run; exact Nat.le_trans (sys_drawn w c) (run_drawn p (k _) _)
  | .program k, w => by unfold Sem.run; exact run_drawn p (k _) _
  | .mark m k, w => by unfold Sem.run; exact run_drawn p k _
  | .halt h, w => Nat.le_refl _
theorem run_ok_drawn {α : Type} {p : Program} {m : Sem α} {w w' : World} {a : α} (h : m.run p w = .ok a w') : w.drawn ≤ w'.drawn := by
  have := run_drawn p m w
  rw [h] at this
  exact this
end Go.Proofs.YtaojnjealccjiaaGreatDoor

/- No step of the machine takes a draw back; so no call does. -/
import Derived.Test.YtaojnjealccjiaaGreatDoorDrawn
namespace Go.Proofs.YtaojnjealccjiaaGreatDoor
open Go
set_option linter.unusedVariables false
set_option linter.unusedSimpArgs false

theorem runT_drawn {α : Type} (p : Program) : ∀ (m : Sem α) (w : World) (es : Array Event), w.drawn ≤ (m.runT p w es).1.drawnR
  | .pure a, w, es => Nat.le_refl _
  | .load m a k, w, es => by
    unfold Sem.runT
    split
    · exact runT_drawn p (k _) w _
    · split
      · exact runT_drawn p (k _) w _
      · exact Nat.le_refl _
  | .store m a v k, w, es => by
    have ih := runT_drawn p k
    have key : ∀ (f : World → Array Event) (h : Halt), w.drawn ≤ (match w.cell? a with
      | some _ => if w.frozen? a then ((.halt h w : Result α), es) else k.runT p (w.setCell a v) (es.push ⟨.cell a, true, m == Mode.atomic⟩)
      | none => match w.farStore p a v (m == Mode.atomic) with
        | .ok (w, touched) => k.runT p w (es ++ touched.toArray.map (fun x => (⟨.cell x, true, m == Mode.atomic⟩ : Event)))
        | .error h => (.halt h w, es)).1.drawnR := fun _ h => by
      split
      · split
        · exact Nat.le_refl _
        · exact ih (w.setCell a v) _
      · split
        · next w2 l e =>
          have := ih w2 (es ++ l.toArray.map (fun x => (⟨.cell x, true, m == Mode.atomic⟩ : Event)))
          rwa [farStore_drawn e] at this
        · exact Nat.le_refl _
    cases v <;> first | exact Nat.le_refl _ | exact key (fun _ => #[]) _
  | .new o k, w, es => by unfold Sem.runT; exact runT_drawn p (k _) { w with heap := w.heap.push o } _
  | .shape r k, w, es => by unfold Sem.runT; exact runT_drawn p (k _) _ _
  | .freeze a n k, w, es => by
    unfold Sem.runT
    have := runT_drawn p k (w.freeze a n) es
    have e : (w.freeze a n).drawn = w.drawn := by unfold World.freeze; split <;> rfl
    rwa [e] at this
  | .frozen a k, w, es => by unfold Sem.runT; exact runT_drawn p (k _) _ _
  | .getObj r k, w, es => by
    unfold Sem.runT
    split
    · exact Nat.le_refl _
    · exact runT_drawn p (k _) _ _
    · exact Nat.le_refl _
  | .setObj r o k, w, es => by
    unfold Sem.runT
    split
    · exact Nat.le_refl _
    · exact runT_drawn p k { w with heap := w.heap.setIfInBounds r o } _
    · exact Nat.le_refl _
  | .choose q k, w, es => by
    unfold Sem.runT
    split
    · exact runT_drawn p (k 0) w _
    · exact Nat.le_trans (Nat.le_succ _) (runT_drawn p (k _) { w with drawn := w.drawn + 1 } _)
  | .sys c k, w, es => by unfold Sem.runT; exact Nat.le_trans (sys_drawn w c) (runT_drawn p (k _) _ _)
  | .program k, w, es => by unfold Sem.runT; exact runT_drawn p (k _) _ _
  | .mark m k, w, es => by unfold Sem.runT; exact runT_drawn p k _ _
  | .halt h, w, es => Nat.le_refl _
theorem runT_ok_drawn {α : Type} {p : Program} {m : Sem α} {w w' : World} {a : α} {es es' : Array Event} (e : m.runT p w es = (.ok a w', es')) : w.drawn ≤ w'.drawn := by
  have := runT_drawn p m w es
  rw [e] at this
  exact this
theorem runT_halt_drawn {α : Type} {p : Program} {m : Sem α} {w w' : World} {h : Halt} {es es' : Array Event} (e : m.runT p w es = (.halt h w', es')) : w.drawn ≤ w'.drawn := by
  have := runT_drawn p m w es
  rw [e] at this
  exact this
theorem run_halt_drawn {α : Type} {p : Program} {m : Sem α} {w w' : World} {h : Halt} (e : m.run p w = .halt h w') : w.drawn ≤ w'.drawn := by
  have := run_drawn p m w
  rw [e] at this
  exact this

/-- the world that a goroutine's step leaves has drawn n at least -/
def okG (n : Nat) : GStep → Prop
  | .go _ w _ | .comm _ _ _ _ w _ | .spawn _ _ w _ | .count _ w _ | .timer _ _ w _ | .alone _ _ w _ | .newcoro _ _ _ w _ | .coroswitch _ _ _ w _ | .collect _ w _ | .watch _ w _ => n ≤ w.drawn
  | .ended _ _ _ => True
def okS (n : Nat) : Stepped → Prop
  | .next m => n ≤ m.world.drawn
  | .ended _ _ => True
theorem okG_after {n : Nat} {es : Array Event} {s : GStep} (h : okG n s) : okG n (GStep.after es s) := by cases s <;> exact h
theorem okG_le {n k : Nat} {s : GStep} (h : okG n s) (hk : k ≤ n) : okG k s := by cases s <;> first | trivial | exact Nat.le_trans hk h
theorem okG_ite {n : Nat} {c : Prop} [Decidable c] {a b : GStep} (ha : okG n a) (hb : okG n b) : okG n (if c then a else b) := by split <;> assumption
theorem okS_ite {n : Nat} {c : Prop} [Decidable c] {a b : Stepped} (ha : okS n a) (hb : okS n b) : okS n (if c then a else b) := by split <;> assumption
theorem okS_le {n k : Nat} {s : Stepped} (h : okS n s) (hk : k ≤ n) : okS k s := by cases s <;> first | trivial | exact Nat.le_trans hk h
theorem endWith_ok (n : Nat) (w : World) (fd : Nat) (t : ByteArray) (o : Outcome) : okG n (endWith w fd t o) := by
  unfold endWith
  dsimp only
  split
  · split <;> trivial
  · trivial
  · trivial
theorem dieOf_ok (fr : Frame) (l : List ByteArray) (m : String) (b : Bool) (w : World) : okG w.drawn (dieOf fr l m b w) := Nat.le_refl _
theorem endThrow_ok (fr : Frame) (m : String) (w : World) : okG w.drawn (endThrow fr m w) := Nat.le_refl _
theorem endPrinting_ok (p : Program) (fr : Frame) (v : Value) (w : World) : okG w.drawn (endPrinting p fr v w) := by
  unfold endPrinting
  dsimp only
  split
  · exact endThrow_ok _ _ _
  · trivial
theorem endFatal_ok (p : Program) (fr : Frame) (cs : List Frame) (d : Option Dying) (m : String) (w : World) : okG w.drawn (endFatal p fr cs d m w) := by
  unfold endFatal
  dsimp only
  split
  · next h => exact okG_le (dieOf_ok _ _ _ _ _) (run_ok_drawn h)
  · trivial
  · trivial
theorem writeOn_ok (p : Program) (fr : Frame) (d : Dying) (f : Fatal) (w : World) : okG w.drawn (writeOn p fr d f w) := by
  unfold writeOn
  dsimp only
  split
  · trivial
  · split
    · next h => exact runT_ok_drawn h
    · next h => exact runT_halt_drawn h
    · trivial
    · trivial
theorem fst_ok {α : Type} {p : Program} {m : Sem α} {w w' : World} {a : α} {es : Array Event} (e : (m.runT p w es).1 = .ok a w') : w.drawn ≤ w'.drawn := by
  have := runT_drawn p m w es
  rw [e] at this
  exact this
theorem fst_halt {α : Type} {p : Program} {m : Sem α} {w w' : World} {h : Halt} {es : Array Event} (e : (m.runT p w es).1 = .halt h w') : w.drawn ≤ w'.drawn := by
  have := runT_drawn p m w es
  rw [e] at this
  exact this
theorem die_ok (p : Program) (fr : Frame) (d : Dying) (w : World) : okG w.drawn (die p fr d w) := by
  unfold die
  split
  · exact writeOn_ok _ _ _ _ _
  · split
    · split
      · exact Nat.le_refl _
      · exact endWith_ok _ _ _ _ _
    · dsimp only
      split
      · exact Nat.le_refl _
      · split
        · next h => exact run_ok_drawn h
        · trivial
      · refine okG_after ?_
        split
        · next h => exact fst_ok h
        · next h => exact fst_ok h
        · trivial
        · next h => exact okG_le (endPrinting_ok _ _ _ _) (fst_halt h)
        · trivial
      · trivial
theorem doReturn_ok (p : Program) (main : Bool) (fr : Frame) (cs : List Frame) (d : Option Dying) (v : Value) (w : World) : okG w.drawn (doReturn p main fr cs d v w) := by
  unfold doReturn
  split
  · split
    · exact Nat.le_refl _
    · exact Nat.le_refl _
    · exact Nat.le_refl _
    · exact Nat.le_refl _
  · split
    · exact Nat.le_refl _
    · trivial
    · split
      · exact Nat.le_refl _
      · split
        · exact Nat.le_refl _
        · trivial
theorem callDeferred_ok (p : Program) (fr : Frame) (cs : List Frame) (d : Option Dying) (df : Deferred) (w : World) : okG w.drawn (callDeferred p fr cs d df w) := by
  unfold callDeferred
  refine okG_ite trivial ?_
  · dsimp only
    refine okG_after ?_
    split <;> first
    | trivial
    | exact fst_ok (by assumption)
    | exact fst_halt (by assumption)
    | exact okG_le (endFatal_ok _ _ _ _ _ _) (fst_halt (by assumption))
    | exact okG_le (endThrow_ok _ _ _) (fst_halt (by assumption))
    | (split <;> exact fst_ok (by assumption))
theorem unwind_ok (p : Program) (main : Bool) (fr : Frame) (cs : List Frame) (d : Option Dying) (w : World) : okG w.drawn (unwind p main fr cs d w) := by
  unfold unwind
  dsimp only
  split
  · refine okG_after ?_
    split
    · next h => exact fst_ok h
    · trivial
  · exact callDeferred_ok _ _ _ _ _ _
  · split
    · trivial
    · split
      · trivial
      · split
        · exact Nat.le_refl _
        · split
          · split
            · exact Nat.le_refl _
            · split
              · next h => exact run_ok_drawn h
              · trivial
              · trivial
          · split
            · exact endPrinting_ok _ _ _ _
            · trivial
    · split
      · exact doReturn_ok _ _ _ _ _ _ _
      · refine okG_after ?_
        split
        · next h => exact okG_le (doReturn_ok _ _ _ _ _ _ _) (fst_ok h)
        · trivial
        · trivial
theorem early_ok (p : Program) (fr : Frame) (cs : List Frame) (d : Option Dying) (g : Nat) (w : World) : okG w.drawn (early p fr cs d g w) := by
  unfold early
  dsimp only
  split
  · (split <;> first | exact Nat.le_refl _ | trivial)
  · split
    · trivial
    · split
      · (split <;> first | exact Nat.le_refl _ | trivial)
      · split
        · (split <;> first | exact Nat.le_refl _ | trivial)
        · split
          · trivial
          · exact Nat.le_refl _
          · trivial
          · (split <;> first | exact Nat.le_refl _ | trivial)
          · split
            · exact Nat.le_refl _
            · split
              · (split <;> first | exact Nat.le_refl _ | trivial)
              · split
                · next h => (have h5 := run_ok_drawn h; split <;> first | exact h5 | trivial)
                · next h => exact run_ok_drawn h
                · trivial
theorem apply_ok (p : Program) (listen : Bool) (fr : Frame) (cs : List Frame) (d : Option Dying) (x : Sem Next) (w : World) : okG w.drawn (stepG.apply p listen fr cs d x w) := by
  have hr : w.drawn ≤ ((if listen = true then x.runT p w #[] else (x.run p w, #[])).1).drawnR := by
    split
    · exact runT_drawn p x w #[]
    · exact run_drawn p x w
  unfold stepG.apply
  dsimp only
  generalize (if listen = true then x.runT p w #[] else (x.run p w, #[])) = q at hr ⊢
  obtain ⟨r, es⟩ := q
  dsimp only at hr ⊢
  refine okG_after ?_
  split <;> first
  | trivial
  | exact hr
  | exact okG_le (endFatal_ok _ _ _ _ _ _) hr
  | exact okG_le (endThrow_ok _ _ _) hr
  | exact okG_le (early_ok _ _ _ _ _ _) hr
  | exact okG_ite (okG_le (endThrow_ok _ _ _) hr) hr
  | (split <;> exact hr)
theorem oper_ok (p : Program) (listen : Bool) (fr : Frame) (cs : List Frame) (d : Option Dying) (w : World) : okG w.drawn (stepG.oper p listen fr cs d w) := by
  unfold stepG.oper
  split
  · trivial
  · split <;> exact apply_ok _ _ _ _ _ _ _
theorem exec_ok (p : Program) (main listen : Bool) (fr : Frame) (cs : List Frame) (d : Option Dying) (w : World) : okG w.drawn (stepG.exec p main listen fr cs d w) := by
  unfold stepG.exec
  dsimp only
  split
  all_goals first
    | (split <;> first | exact okG_ite (Nat.le_refl _) trivial | (refine okG_after ?_; split <;> first | exact okG_le (doReturn_ok _ _ _ _ _ _ _) (fst_ok (by assumption)) | trivial))
    | exact Nat.le_refl _
    | trivial
    | exact apply_ok _ _ _ _ _ _ _
    | (refine okG_ite ?_ ?_ <;> first | exact Nat.le_refl _ | exact oper_ok _ _ _ _ _ _ | (split <;> first | trivial | exact run_ok_drawn (by assumption)))
    | (split <;> first | exact Nat.le_refl _ | trivial)
    | (generalize exitTo _ _ = o; cases o <;> dsimp only [Option.elim] <;> first | (split <;> first | exact okG_ite (Nat.le_refl _) trivial | (refine okG_after ?_; split <;> first | exact okG_le (doReturn_ok _ _ _ _ _ _ _) (fst_ok (by assumption)) | trivial)) | exact Nat.le_refl _)
    | (generalize gotoIn _ _ = o; cases o <;> dsimp only [Option.elim] <;> first | (split <;> first | exact okG_ite (Nat.le_refl _) trivial | (refine okG_after ?_; split <;> first | exact okG_le (doReturn_ok _ _ _ _ _ _ _) (fst_ok (by assumption)) | trivial)) | exact Nat.le_refl _)
    | (generalize Extern.next _ = o; cases o <;> first | trivial | exact apply_ok _ _ _ _ _ _ _)
    | (refine okG_after ?_; split <;> first | trivial | exact okG_le (apply_ok _ _ _ _ _ _ _) (fst_ok (by assumption)) | exact fst_ok (by assumption) | exact fst_halt (by assumption))
theorem stepG_ok (p : Program) (main : Bool) (g : Goroutine) (w : World) (listen : Bool) : okG w.drawn (stepG p main g w listen) := by
  unfold stepG
  dsimp only
  split
  · exact die_ok _ _ _ _
  · exact exec_ok _ _ _ _ _ _ _
  · exact unwind_ok _ _ _ _ _ _
theorem waitingAt_ok {rest : Rest} {cases : Array CommCase} {w w' : World} (h : waitingAt rest cases w = some w') : w.drawn ≤ w'.drawn := by
  unfold waitingAt at h
  split at h
  · split at h
    · cases h; exact Nat.le_refl _
    · cases h
  · cases h; exact Nat.le_refl _
theorem communicate_ok (p : Program) (rest : Rest) (gs : Array Goroutine) (i : Nat) (g : Goroutine) (cases : Array CommCase) (blocking : Bool) (shape : CommShape) (w : World) : okS w.drawn (communicate p rest gs i g cases blocking shape w).1 := by
  unfold communicate
  dsimp only
  split
  · trivial
  · split
    · split
      · split
        · next h => exact waitingAt_ok h
        · trivial
      · exact Nat.le_refl _
    · split
      · trivial
      · next hrun =>
        have hr := run_ok_drawn hrun
        split
        · split
          · next h => exact Nat.le_trans hr (run_halt_drawn h)
          · trivial
        · exact hr
        · exact hr
        · split
          · exact hr
          · split
            · next h => have h2 := run_ok_drawn h; exact Nat.le_trans hr h2
            · trivial
        · exact hr
        · exact hr
        · trivial
theorem look_ok (p : Program) (gs : Array Goroutine) (rest : Rest) (w : World) : okS w.drawn (look p gs rest w) := by
  unfold look
  split
  · dsimp only
    split
    · trivial
    · split
      · trivial
      · split
        · next h => have h2 := run_ok_drawn h; exact h2
        · trivial
        · trivial
  · trivial
theorem drain_ok (w : World) (c : Nat) : (drain w c).2.drawn = w.drawn := by
  unfold drain
  split <;> rfl
theorem retime_ok (m : Machine) (k : Nat) (t : Timer) (a b : Nat) : (retime m k t a b).2.world.drawn = m.world.drawn := by
  unfold retime
  dsimp only
  split
  · exact drain_ok _ _
  · rfl
theorem timerOp_ok {m m' : Machine} {op : TimerOp} {v : Value} (h : timerOp m op = .ok (v, m')) : m'.world.drawn = m.world.drawn := by
  have nm : ∀ (m0 : Machine) (var : Addr) (f : Nat → Timer → Value × Machine) (r : Value × Machine), (∀ k t, (f k t).2.world.drawn = m0.world.drawn) → timerOp.named m var f = .ok r → r.2.world.drawn = m0.world.drawn := fun m0 var f r hf h => by
    unfold timerOp.named at h
    split at h
    · cases h; exact hf _ _
    · cases h
  unfold timerOp at h
  split at h
  · split at h
    · cases h; rfl
    · split at h
      · split at h
        · cases h
        · cases h; rfl
      · cases h
  · exact nm m _ _ _ (fun k t => retime_ok m k t _ _) h
  · split at h
    · next m1 e =>
      have e1 : m1.world.drawn = m.world.drawn := by
        unfold timerOp.opened at e
        split at e
        · split at e
          · cases e; rfl
          · cases e
        · cases e; rfl
      rw [← e1]
      exact nm m1 _ _ _ (fun k t => retime_ok m1 k t _ _) h
    · cases h
  · cases h; rfl
theorem serve_ok (p : Program) (m : Machine) (k : Nat) : okS m.world.drawn (serve p m k) := by
  unfold serve
  split
  · trivial
  · exact Nat.le_refl _
  · dsimp only
    split
    · trivial
    · exact Nat.le_refl _
theorem runM_ok (p : Program) (m : Machine) (i : Nat) (listen : Bool) : okS m.world.drawn (Go.runT p m i listen).1 := by
  unfold Go.runT
  dsimp only
  generalize hs : stepG p (i == 0) _ m.world listen = s
  have h : okG m.world.drawn s := by rw [← hs]; exact stepG_ok _ _ _ _ _
  clear hs
  cases s with
  | ended o w es => trivial
  | comm g cases blocking shape w es => exact okS_le (communicate_ok _ _ _ _ _ _ _ _ _) h
  | go g w es => exact h
  | spawn g child w es => exact h
  | count g w es => exact okS_ite trivial h
  | alone g on w es => exact h
  | collect g w es => exact okS_le (look_ok _ _ _ _) h
  | watch g w es => exact h
  | newcoro g c d w es => exact h
  | coroswitch g c exit w es =>
    dsimp only
    split
    · exact h
    · split
      · next e => cases e; exact h
      · trivial
    · trivial
  | timer g op w es =>
    dsimp only
    split
    · next e => have := timerOp_ok e; show m.world.drawn ≤ _; exact this ▸ h
    · split
      · next e => cases e; exact h
      · trivial
    · trivial
    · trivial
def okM (n : Nat) : Move → Prop
  | .goroutine m _ => n ≤ m.world.drawn
  | .machine s _ => okS n s
theorem okM_ite {n : Nat} {c : Prop} [Decidable c] {a b : Move} (ha : okM n a) (hb : okM n b) : okM n (if c then a else b) := by split <;> assumption
theorem okM_le {n k : Nat} {s : Move} (h : okM n s) (hk : k ≤ n) : okM k s := by cases s <;> first | exact okS_le h hk | exact Nat.le_trans hk h
theorem askOn_ok (p : Program) (m : Machine) : okM m.world.drawn (askOn p m) := by
  unfold askOn
  dsimp only
  split
  · trivial
  · next h =>
    have h1 := run_ok_drawn h
    refine okM_ite (okS_le (serve_ok _ _ _) h1) ?_
    split
    · split
      · exact h1
      · refine okM_ite h1 ?_
        split <;> trivial
    · split
      · split
        · trivial
        · next h9 =>
          have h10 := run_ok_drawn h9; have h8 := Nat.le_trans h1 h10
          refine okM_ite h8 ?_
          split
          · trivial
          · next h7 => exact Nat.le_trans h8 (run_ok_drawn h7)
      · split
        · trivial
        · next h2 =>
          have h3 := Nat.le_trans h1 (run_ok_drawn h2)
          split
          · trivial
          · next h9 =>
            have h10 := run_ok_drawn h9; have h8 := Nat.le_trans h3 h10
            refine okM_ite h8 ?_
            split
            · trivial
            · next h7 => exact Nat.le_trans h8 (run_ok_drawn h7)
        · next h2 =>
          have h3 := Nat.le_trans h1 (run_ok_drawn h2)
          exact h3
        · next h2 =>
          have h3 := Nat.le_trans h1 (run_ok_drawn h2)
          split
          · trivial
          · next h9 =>
            have h10 := run_ok_drawn h9; have h8 := Nat.le_trans h3 h10
            refine okM_ite h8 ?_
            split
            · trivial
            · next h7 => exact Nat.le_trans h8 (run_ok_drawn h7)
theorem ask_ok (p : Program) (m : Machine) : okM m.world.drawn (ask p m) := by
  unfold ask
  split
  · split
    · trivial
    · next world h =>
      have h1 := run_ok_drawn h
      have hl := look_ok p m.gs m.rest world
      split
      · next e =>
        rw [e] at hl
        exact okM_le (askOn_ok p _) (Nat.le_trans h1 hl)
      · exact okS_le hl h1
    · next h =>
      have h1 := run_ok_drawn h
      refine okM_le (askOn_ok p _) ?_
      exact h1
  · exact askOn_ok _ _
theorem move_ok (p : Program) (m : Machine) : okM m.world.drawn (move p m) := by
  unfold move
  split
  · exact okM_ite (Nat.le_refl _) trivial
  · split
    · exact okM_ite (Nat.le_refl _) (ask_ok p { m with rest := { m.rest with slice := none } })
    · exact ask_ok _ _
theorem step_drawn {p : Program} {m m' : Machine} (h : step p m = .next m') : m.world.drawn ≤ m'.world.drawn := by
  have hm := move_ok p m
  unfold step stepT at h
  generalize move p m = q at h hm
  cases q with
  | goroutine m1 i =>
    have := runM_ok p m1 i true
    dsimp only at h
    rw [h] at this
    exact Nat.le_trans hm this
  | machine s ops =>
    dsimp only at h
    subst h
    exact hm
theorem steps_drawn {p : Program} : ∀ (n : Nat) {m m' : Machine}, runN p n m = .next m' → m.world.drawn ≤ m'.world.drawn
  | 0, m, m', h => by
    unfold runN at h
    cases h
    exact Nat.le_refl _
  | n + 1, m, m', h => by
    unfold runN at h
    cases hs : step p m with
    | next m1 =>
      rw [hs] at h
      exact Nat.le_trans (step_drawn hs) (steps_drawn n h)
    | ended o w =>
      rw [hs] at h
      cases h
/-- no call takes a draw back -/
theorem calls_drawn {P : Program} {f : FuncId} {args : Array Value} {w : World} {R : Ending → World → Prop} (h : Calls P f args w R) (hn : ∀ w', ¬ R .outgrown w') : Calls P f args w fun e w' => R e w' ∧ w.drawn ≤ w'.drawn := fun cs => by
  obtain ⟨e, w', fr, hR, hc, hf⟩ := h cs
  refine ⟨e, w', fr, ⟨hR, ?_⟩, hc, hf⟩
  have hs : Steps P (lone (Frame.enter P f args .normal) cs w) (lone fr cs w') := by
    cases e with
    | outgrown => exact absurd hR (hn w')
    | returned v => exact hc
    | panicked c => exact hc
  obtain ⟨n, hn⟩ := hs
  exact steps_drawn n hn
end Go.Proofs.YtaojnjealccjiaaGreatDoor

/- cmp.Or, lock.compare: the order of acts. -/
import Derived.Test.YtaojnjealccjiaaGreatDoorLocked3
import Derived.StillTailTactics
import Derived.Sort.Grow
namespace Go.Proofs.YtaojnjealccjiaaGreatDoor
open Go Go.RowKit Kb Go.Lib
set_option linter.unusedVariables false

/-- the first that is not 0, or 0 -/
def orI : List Int → Int
  | [] => 0
  | x :: r => if x = 0 then orI r else x
theorem orI_stop : ∀ (xs : List Int) (k : Nat) (hk : k < xs.length), (∀ j (h : j < k), xs[j]'(by omega) = 0) → xs[k] ≠ 0 → orI xs = xs[k]
  | x :: r, 0, _, _, h => by simp at h; simp [orI, h]
  | x :: r, k + 1, hk, h1, h2 => by
    have h0 : x = 0 := h1 0 (by omega)
    have := orI_stop r k (by simpa using hk) (fun j hj => h1 (j + 1) (by omega)) (by simpa using h2)
    simp [orI, h0, this]
theorem orI_none : ∀ (xs : List Int), (∀ j (h : j < xs.length), xs[j] = 0) → orI xs = 0
  | [], _ => rfl
  | x :: r, h => by
    have h0 : x = 0 := h 0 (by simp)
    have := orI_none r (fun j hj => h (j + 1) (by simpa using hj))
    simp [orI, h0, this]

set_option maxHeartbeats 1000000 in
theorem cmp_or (xs : List Int) (A : Option Addr) (c : Nat) (w : World) (hl : Lst (fun x : Int => [.int .i64 x]) 1 w A xs) (hn : xs.length ≤ maxLen) :
    Calls Tryz.prog 73 #[.slice A xs.length c] w fun e w' => e = .returned (.int .i64 (orI xs)) ∧ w = w' := by
  unfold maxLen at hn
  generalize hN : xs.length = n at hn ⊢
  have HN := Lib.hid hN
  clear hN
  have HL := Lib.hid hl
  clear hl
  go_enter Tryz.func73, Tryz.ntmps73
  go_wp2_with fail
  go_loop [8] (fun i => ∃ k : Nat, k ≤ n ∧ i = .int .i64 k ∧ Hid (∀ j (h : j < xs.length), j < k → xs[j] = 0)) (fun i => n - (intOf i).toNat)
  case atStart => exact ⟨0, Nat.zero_le _, rfl, fun j _ h => absurd h (Nat.not_lt_zero _)⟩
  case round =>
    obtain ⟨k, hk, rfl, HA⟩ := hrel
    by_cases hlt : k < n
    · have hkx : k < xs.length := by rw [HN.out]; exact hlt
      obtain ⟨b, off, rfl, hbl, hc⟩ := HL.out (fun h => by rw [h] at hkx; exact absurd hkx (Nat.not_lt_zero _))
      have c0 := hc k xs[k] (List.getElem?_eq_getElem hkx) 0 _ rfl
      rw [Nat.mul_one, Nat.add_zero] at c0
      clear hc
      generalize hx : xs[k] = x at c0
      have HX := Lib.hid hx
      clear hx
      by_cases h0 : x = 0
      · have h1 : (x != 0) = false := by simp [h0]
        have H0 := Lib.hid h0
        clear h0
        go_wp2_with fail
        go_round
        case rel =>
          refine ⟨k + 1, by omega, by go_num, fun j hj hjk => ?_⟩
          by_cases e : j = k
          · subst e; rw [HX.out]; exact H0.out
          · exact HA.out j hj (by omega)
        case measure => simp [intOf]; omega
      · have h1 : (x != 0) = true := by simp [h0]
        have H0 := Lib.hid h0
        clear h0
        go_wp2_with fail
        go_ret
        refine ⟨?_, rfl⟩
        rw [orI_stop xs k hkx (fun j hj => HA.out j (by omega) hj) (by rw [HX.out]; exact H0.out), HX.out]
        rfl
    · have hkn : k = n := by omega
      go_wp2_with fail
      go_ret
      refine ⟨?_, rfl⟩
      rw [orI_none xs (fun j hj => HA.out j hj (by have := HN.out; omega))]
      rfl

/-- what compare gives -/
def cmpA (a b : Akt) : Int := orI [compareInt a.day b.day, compareInt a.kind b.kind, compareInt a.person b.person, compareBytes a.o b.o]

set_option maxHeartbeats 2000000 in
set_option maxRecDepth 100000 in
theorem lock_compare (a b : Akt) (w : World) : Calls Tryz.prog 47 #[.agg #[.int .i64 a.kind, .int .i64 a.person, .int .i64 a.day, .string a.obj], .agg #[.int .i64 b.kind, .int .i64 b.person, .int .i64 b.day, .string b.obj]] w fun e w' =>
    e = .returned (.int .i64 (cmpA a b)) ∧ ∃ q os', w' = Go.Sort.grow (w.drewN q) os' := by
  have hci := fun (x y : Int) (W : World) => Any.cmp_Compare_int Tryz.lays122 x y W
  change ∀ x y W, Calls Tryz.prog 74 _ _ _ at hci
  have hcs := fun (x y : ByteArray) (W : World) => Any.strings_Compare Tryz.lays106 x y W
  change ∀ x y W, Calls Tryz.prog 75 _ _ _ at hcs
  have hor := fun (x y z u : Int) (W : World) (g : Nat) (h0 : W.cell? ⟨g, 0, none⟩ = some (.int .i64 x)) (h1 : W.cell? ⟨g, 1, none⟩ = some (.int .i64 y)) (h2 : W.cell? ⟨g, 2, none⟩ = some (.int .i64 z)) (h3 : W.cell? ⟨g, 3, none⟩ = some (.int .i64 u)) (hg : g < W.heap.size) =>
    cmp_or [x, y, z, u] (some ⟨g, 0, none⟩) 4 W (fun _ => ⟨g, 0, rfl, hg, fun j v hv i u' hu => by
      match i, hu with
      | 0, hu =>
        cases hu
        match j, hv with
        | 0, hv => cases hv; exact h0
        | 1, hv => cases hv; exact h1
        | 2, hv => cases hv; exact h2
        | 3, hv => cases hv; exact h3
      | i + 1, hu => cases hu⟩) (by show 4 ≤ maxLen; unfold maxLen; omega)
  unfold cmpA
  show Calls Tryz.prog 47 _ w fun e w' => e = .returned (.int .i64 (orI [compareInt a.day b.day, compareInt a.kind b.kind, compareInt a.person b.person, compareBytes a.obj.data.toList b.obj.data.toList])) ∧ ∃ q os', w' = Go.Sort.grow (w.drewN q) os'
  have g0 := fun W => hci a.day b.day W
  have g1 := fun W => hci a.kind b.kind W
  have g2 := fun W => hci a.person b.person W
  have g3 := fun W => hcs a.obj b.obj W
  clear hci hcs
  generalize compareInt a.day b.day = x0 at g0 ⊢
  generalize compareInt a.kind b.kind = x1 at g1 ⊢
  generalize compareInt a.person b.person = x2 at g2 ⊢
  generalize compareBytes a.obj.data.toList b.obj.data.toList = x3 at g3 ⊢
  have G0 := Lib.hid g0
  have G1 := Lib.hid g1
  have G2 := Lib.hid g2
  have G3 := Lib.hid g3
  have HO := Lib.hid hor
  clear g0 g1 g2 g3 hor
  go_enter Tryz.func47, Tryz.ntmps47
  go_wp2_with fail
  generalize hW : (w.alloc (.cells #[.int .i64 a.kind, .int .i64 a.person, .int .i64 a.day, .string a.obj] 47)).alloc (.cells #[.int .i64 b.kind, .int .i64 b.person, .int .i64 b.day, .string b.obj] 47) = W
  have a0 : W.cell? ⟨w.heap.size, 0, none⟩ = some (.int .i64 a.kind) := by rw [← hW]; simp
  have a1 : W.cell? ⟨w.heap.size, 1, none⟩ = some (.int .i64 a.person) := by rw [← hW]; simp
  have a2 : W.cell? ⟨w.heap.size, 2, none⟩ = some (.int .i64 a.day) := by rw [← hW]; simp
  have a3 : W.cell? ⟨w.heap.size, 3, none⟩ = some (.string a.obj) := by rw [← hW]; simp
  have b0 : W.cell? ⟨w.heap.size + 1, 0, none⟩ = some (.int .i64 b.kind) := by rw [← hW]; simp
  have b1 : W.cell? ⟨w.heap.size + 1, 1, none⟩ = some (.int .i64 b.person) := by rw [← hW]; simp
  have b2 : W.cell? ⟨w.heap.size + 1, 2, none⟩ = some (.int .i64 b.day) := by rw [← hW]; simp
  have b3 : W.cell? ⟨w.heap.size + 1, 3, none⟩ = some (.string b.obj) := by rw [← hW]; simp
  have HW := Lib.hid hW
  clear hW
  refine wp_region_still_tail 20 (by kernel_rfl) (by kernel_rfl) ?_
  simp only [List.take_succ_cons, List.take_zero, List.drop_succ_cons, List.drop_zero]
  iterate 4 still_step
  still_call (G0.out _)
  iterate 4 still_step
  still_call (G1.out _)
  iterate 4 still_step
  still_call (G2.out _)
  iterate 4 still_step
  still_call (G3.out _)
  refine wpStill_nil ?_
  change wpList _ _ _ _ _ W.drew
  generalize hD : W.drew = D
  have HD := Lib.hid hD
  clear hD a0 a1 a2 a3 b0 b1 b2 b3
  go_wp2_with (go_at_call 73; refine (HO.out x0 x1 x2 x3 _ D.heap.size (by simp) (by simp) (by simp) (by simp) (by simp)).mono ?_; rintro e w' ⟨rfl, rfl⟩)
  go_ret
  refine ⟨rfl, 1, #[.cells #[.int .i64 a.kind, .int .i64 a.person, .int .i64 a.day, .string a.obj] 47, .cells #[.int .i64 b.kind, .int .i64 b.person, .int .i64 b.day, .string b.obj] 47, .cells #[.int .i64 x0, .int .i64 x1, .int .i64 x2, .int .i64 x3] 3], ?_⟩
  rw [← HD.out, ← HW.out, Go.Sort.alloc_eq_grow, Go.Sort.alloc_eq_grow, Go.Sort.alloc_eq_grow, Go.Sort.grow_grow]
  show Go.Sort.grow (Go.Sort.grow (w.drewN 1) _) _ = _
  rw [Go.Sort.grow_grow]
  rfl

end Go.Proofs.YtaojnjealccjiaaGreatDoor

/- The contract of seal.Right. -/
import Derived.Test.YtaojnjealccjiaaGreatDoorNSeal
namespace Go.Proofs.YtaojnjealccjiaaGreatDoor
open Go Go.RowKit Nt Go.Proofs
set_option linter.unusedVariables false
set_option linter.unusedSimpArgs false

/-- what the loop keeps -/
def NRightAt (v : NoteV) (w wr : World) (k : Nat) : Prop :=
  Below w.heap.size w wr ∧ w.heap.size + 1 < wr.heap.size ∧
  (wr.cell? ⟨w.heap.size, 0, none⟩ = some (.int .i64 v.house) ∧ wr.cell? ⟨w.heap.size, 1, none⟩ = some (.int .i64 v.no)) ∧
  (wr.cell? ⟨w.heap.size + 1, 0, none⟩ = some (.int .i64 (lastOf v.needs k).house) ∧ wr.cell? ⟨w.heap.size + 1, 1, none⟩ = some (.int .i64 (lastOf v.needs k).no)) ∧
  (wr.frozen? ⟨w.heap.size + 1, 0, none⟩ = false ∧ wr.frozen? ⟨w.heap.size + 1, 1, none⟩ = false) ∧
  ∀ i, i < k → ∀ x, v.needs[i]? = some x → needB v.house v.no (lastOf v.needs i) x = true
theorem nright_step {v : NoteV} {k : Nat} {x : RefV} (hx : v.needs[k]? = some x) (h : ∀ i, i < k → ∀ x, v.needs[i]? = some x → needB v.house v.no (lastOf v.needs i) x = true) (hn : needB v.house v.no (lastOf v.needs k) x = true) :
    ∀ i, i < k + 1 → ∀ x, v.needs[i]? = some x → needB v.house v.no (lastOf v.needs i) x = true := fun i hi y hy => by
  rcases Nat.lt_or_ge i k with h1 | h1
  · exact h i h1 y hy
  · obtain rfl : i = k := by omega
    rw [hx] at hy
    obtain rfl := Option.some.inj hy
    exact hn

theorem later_no {h n : Int} {la x : RefV} (h1 : ¬ la.house < x.house) (h2 : la.house = x.house → ¬ la.no < x.no) : needB h n la x = false := by
  have : laterB la x = false := by
    unfold laterB
    by_cases e : la.house = x.house
    · simp [e, h2 e]
    · simp [e]; omega
  simp [needB, this]

set_option maxRecDepth 100000 in
set_option maxHeartbeats 4000000 in
theorem seal_right (v : NoteV) (A : Option Addr) (c : Nat) (w : World) (S : Nat → Prop) (h : Sl refD w S A v.needs) (hn : v.needs.length ≤ 1000000) (ht : v.text.size ≤ 1000000) :
    Calls Tryz.prog 63 #[.agg #[.int .i64 v.house, .int .i64 v.no, .int .i64 v.day, .slice A v.needs.length c, .string v.text]] w (SaysN (rightN v) w) := by
  have HS := Lib.hid h
  have kk := fun W => seal_known v.house v.no W
  have bb := fun W => seal_below v.day 100001 W
  clear h
  cases hk : knownB v.house v.no with
  | false =>
    rw [hk] at kk
    have HK := Lib.hid kk
    have hb := trivial
    clear kk bb
    have HN := Lib.hid (show rightN v = false by simp [rightN, headB, hk])
    clear hk hb
    go_enter Tryz.func63, Tryz.ntmps63
    go_wp2_with (first | (go_at_call 89; (with_reducible refine (HK.out _).mono ?_); rintro e w' ⟨rfl, rfl⟩))
    go_ret
    exact ⟨retN_bool HN.out.symm, (Below.refl _ _).alloc (Nat.le_refl _) _⟩
  | true =>
    rw [hk] at kk
    have HK := Lib.hid kk
    clear kk
    cases hb : (decide (0 ≤ v.day) && decide (v.day < 100001)) with
    | false =>
      rw [hb] at bb
      have HB := Lib.hid bb
      clear bb
      have HN := Lib.hid (show rightN v = false by simp [rightN, headB, hk, hb])
      clear hk hb
      go_enter Tryz.func63, Tryz.ntmps63
      go_wp2_with (first | (go_at_call 89; (with_reducible refine (HK.out _).mono ?_); rintro e w' ⟨rfl, rfl⟩) | (go_at_call 90; (with_reducible refine (HB.out _).mono ?_); rintro e w' ⟨rfl, rfl⟩))
      go_ret
      exact ⟨retN_bool HN.out.symm, (Below.refl _ _).alloc (Nat.le_refl _) _⟩
    | true =>
      rw [hb] at bb
      have HB := Lib.hid bb
      clear bb
      by_cases h8 : 8000 < v.text.size
      ·
        have HN := Lib.hid (show rightN v = false by simp [rightN, headB, hk, hb, h8, Nat.not_le.2 h8])
        clear hk hb
        go_enter Tryz.func63, Tryz.ntmps63
        go_wp2_with (first | (go_at_call 89; (with_reducible refine (HK.out _).mono ?_); rintro e w' ⟨rfl, rfl⟩) | (go_at_call 90; (with_reducible refine (HB.out _).mono ?_); rintro e w' ⟨rfl, rfl⟩))
        go_ret
        exact ⟨retN_bool HN.out.symm, (Below.refl _ _).alloc (Nat.le_refl _) _⟩
      · by_cases h4 : 40 < v.needs.length
        ·
          have HN := Lib.hid (show rightN v = false by simp [rightN, headB, hk, hb, Nat.not_le.2 h4])
          clear hk hb
          go_enter Tryz.func63, Tryz.ntmps63
          go_wp2_with (first | (go_at_call 89; (with_reducible refine (HK.out _).mono ?_); rintro e w' ⟨rfl, rfl⟩) | (go_at_call 90; (with_reducible refine (HB.out _).mono ?_); rintro e w' ⟨rfl, rfl⟩))
          go_ret
          exact ⟨retN_bool HN.out.symm, (Below.refl _ _).alloc (Nat.le_refl _) _⟩
        · have HH := Lib.hid (show rightN v = needsB v.house v.no v.needs by simp only [rightN, headB, hk, hb, Bool.true_and, Bool.and_true, decide_eq_true (Nat.not_lt.1 h8), decide_eq_true (Nat.not_lt.1 h4)])
          clear hk hb
          go_enter Tryz.func63, Tryz.ntmps63
          go_wp2_with (first | (go_at_call 89; (with_reducible refine (HK.out _).mono ?_); rintro e w' ⟨rfl, rfl⟩) | (go_at_call 90; (with_reducible refine (HB.out _).mono ?_); rintro e w' ⟨rfl, rfl⟩))
          go_loopw [35] (fun u wr => ∃ k : Nat, k ≤ v.needs.length ∧ u = .int .i64 (k : Int) ∧ NRightAt v w wr k) (fun u _ => v.needs.length - (intOf u).toNat)
          case atStart =>
            refine ⟨0, Nat.zero_le _, rfl, ?_, ?_, ⟨?_, ?_⟩, ⟨?_, ?_⟩, ⟨?_, ?_⟩, fun i hi => absurd hi (Nat.not_lt_zero _)⟩
            · exact ((Below.refl _ _).alloc (Nat.le_refl _) _).alloc (by simp) _
            · simp
            all_goals simp [go_sem, lastOf]
          case round =>
            obtain ⟨k, hk, rfl, hB, hsz, ⟨e0, e1⟩, ⟨l0, l1⟩, ⟨f0, f1⟩, hall⟩ := hrel
            have HB2 := Lib.hid hB
            have HAll := Lib.hid hall
            have hw0 := hB.size
            have hs0 : w.heap.size < wr.heap.size := by omega
            clear hB hall
            by_cases hlt : k < v.needs.length
            · obtain ⟨b, off, rfl, _, hbw, _, hcl⟩ := HS.out.get hlt
              have hx : v.needs[k]? = some v.needs[k] := List.getElem?_eq_getElem hlt
              generalize v.needs[k] = x at hx hcl
              have HX := Lib.hid hx
              have c0 : wr.cell? ⟨b, off + k * 2, none⟩ = some (.int .i64 x.house) := (HB2.out.cell (p := ⟨b, off + k * 2, none⟩) hbw).trans (hcl 0 _ rfl)
              have c1 : wr.cell? ⟨b, off + k * 2 + 1, none⟩ = some (.int .i64 x.no) := (HB2.out.cell (p := ⟨b, off + k * 2 + 1, none⟩) hbw).trans (hcl 1 _ rfl)
              have hbr : b < wr.heap.size := by omega
              generalize hL : lastOf v.needs k = la at l0 l1
              have HL := Lib.hid hL
              have hno := fun (q : needB v.house v.no la x = false) => show rightN v = false from HH.out.trans (needs_no HX.out (by rw [HL.out]; exact q))
              have HNO := Lib.hid hno
              have kx := fun W => seal_known x.house x.no W
              clear hcl hx hL hno
              cases hkx : knownB x.house x.no with
              | false =>
                rw [hkx] at kx
                have HKX := Lib.hid kx
                clear kx
                by_cases h1 : la.house < x.house
                ·
                  have HN := Lib.hid (HNO.out (by simp [needB, hkx]))
                  clear hkx
                  go_wp2_with ((go_at_call 89; (with_reducible refine (HKX.out _).mono ?_); rintro e w' ⟨rfl, rfl⟩))
                  go_ret
                  exact ⟨retN_bool HN.out.symm, HB2.out.alloc hw0 _⟩
                · cases h2 : (x.house == la.house) with
                  | true =>
                    by_cases h3 : la.no < x.no
                    ·
                      have HN := Lib.hid (HNO.out (by simp [needB, hkx]))
                      clear hkx
                      go_wp2_with ((go_at_call 89; (with_reducible refine (HKX.out _).mono ?_); rintro e w' ⟨rfl, rfl⟩))
                      go_ret
                      exact ⟨retN_bool HN.out.symm, HB2.out.alloc hw0 _⟩
                    ·
                      have HN := Lib.hid (HNO.out (by simp [needB, hkx]))
                      clear hkx
                      go_wp2_with ((go_at_call 89; (with_reducible refine (HKX.out _).mono ?_); rintro e w' ⟨rfl, rfl⟩))
                      go_ret
                      exact ⟨retN_bool HN.out.symm, HB2.out.alloc hw0 _⟩
                  | false =>
                    have HN := Lib.hid (HNO.out (by simp [needB, hkx]))
                    clear hkx
                    go_wp2_with ((go_at_call 89; (with_reducible refine (HKX.out _).mono ?_); rintro e w' ⟨rfl, rfl⟩))
                    go_ret
                    exact ⟨retN_bool HN.out.symm, HB2.out.alloc hw0 _⟩
              | true =>
                rw [hkx] at kx
                have HKX := Lib.hid kx
                clear kx
                by_cases h1 : la.house < x.house
                ·
                  cases hs : (x.house == v.house) with
                  | true =>
                    by_cases hg : v.no ≤ x.no
                    ·
                      have HN := Lib.hid (HNO.out (by simp [needB, hkx, beq_iff_eq.1 hs, hg]))
                      clear hkx
                      go_wp2_with ((go_at_call 89; (with_reducible refine (HKX.out _).mono ?_); rintro e w' ⟨rfl, rfl⟩))
                      go_ret
                      exact ⟨retN_bool HN.out.symm, HB2.out.alloc hw0 _⟩
                    ·
                      have HN := Lib.hid (nright_step HX.out HAll.out (show needB v.house v.no (lastOf v.needs k) x = true by rw [HL.out]; simp [needB, hkx, laterB, h1, hg]))
                      clear hkx
                      go_wp2_with ((go_at_call 89; (with_reducible refine (HKX.out _).mono ?_); rintro e w' ⟨rfl, rfl⟩))
                      go_roundw
                      case rel =>
                        refine ⟨k + 1, by omega, by go_num, ?_, ?_, ⟨?_, ?_⟩, ⟨?_, ?_⟩, ⟨?_, ?_⟩, HN.out⟩
                        · exact ((HB2.out.setCell (p := ⟨w.heap.size + 1, 0, none⟩) (show w.heap.size ≤ w.heap.size + 1 by omega) _).setCell (p := ⟨w.heap.size + 1, 1, none⟩) (show w.heap.size ≤ w.heap.size + 1 by omega) _).alloc (by simp; exact hw0) _
                        · simp; omega
                        · simp [go_sem, *]
                        · simp [go_sem, *]
                        all_goals (try rw [lastOf_succ HX.out])
                        all_goals simp [go_sem, *]
                      case measure => simp [intOf]; omega
                  | false =>
                    have HN := Lib.hid (nright_step HX.out HAll.out (show needB v.house v.no (lastOf v.needs k) x = true by rw [HL.out]; simp [needB, hkx, laterB, h1, beq_eq_false_iff_ne.1 hs]))
                    clear hkx
                    go_wp2_with ((go_at_call 89; (with_reducible refine (HKX.out _).mono ?_); rintro e w' ⟨rfl, rfl⟩))
                    go_roundw
                    case rel =>
                      refine ⟨k + 1, by omega, by go_num, ?_, ?_, ⟨?_, ?_⟩, ⟨?_, ?_⟩, ⟨?_, ?_⟩, HN.out⟩
                      · exact ((HB2.out.setCell (p := ⟨w.heap.size + 1, 0, none⟩) (show w.heap.size ≤ w.heap.size + 1 by omega) _).setCell (p := ⟨w.heap.size + 1, 1, none⟩) (show w.heap.size ≤ w.heap.size + 1 by omega) _).alloc (by simp; exact hw0) _
                      · simp; omega
                      · simp [go_sem, *]
                      · simp [go_sem, *]
                      all_goals (try rw [lastOf_succ HX.out])
                      all_goals simp [go_sem, *]
                    case measure => simp [intOf]; omega
                · cases h2 : (x.house == la.house) with
                  | true =>
                    by_cases h3 : la.no < x.no
                    ·
                      cases hs : (x.house == v.house) with
                      | true =>
                        by_cases hg : v.no ≤ x.no
                        ·
                          have HN := Lib.hid (HNO.out (by simp [needB, hkx, beq_iff_eq.1 hs, hg]))
                          clear hkx
                          go_wp2_with ((go_at_call 89; (with_reducible refine (HKX.out _).mono ?_); rintro e w' ⟨rfl, rfl⟩))
                          go_ret
                          exact ⟨retN_bool HN.out.symm, HB2.out.alloc hw0 _⟩
                        ·
                          have HN := Lib.hid (nright_step HX.out HAll.out (show needB v.house v.no (lastOf v.needs k) x = true by rw [HL.out]; simp [needB, hkx, laterB, (beq_iff_eq.1 h2).symm, h3, hg]))
                          clear hkx
                          go_wp2_with ((go_at_call 89; (with_reducible refine (HKX.out _).mono ?_); rintro e w' ⟨rfl, rfl⟩))
                          go_roundw
                          case rel =>
                            refine ⟨k + 1, by omega, by go_num, ?_, ?_, ⟨?_, ?_⟩, ⟨?_, ?_⟩, ⟨?_, ?_⟩, HN.out⟩
                            · exact ((HB2.out.setCell (p := ⟨w.heap.size + 1, 0, none⟩) (show w.heap.size ≤ w.heap.size + 1 by omega) _).setCell (p := ⟨w.heap.size + 1, 1, none⟩) (show w.heap.size ≤ w.heap.size + 1 by omega) _).alloc (by simp; exact hw0) _
                            · simp; omega
                            · simp [go_sem, *]
                            · simp [go_sem, *]
                            all_goals (try rw [lastOf_succ HX.out])
                            all_goals simp [go_sem, *]
                          case measure => simp [intOf]; omega
                      | false =>
                        have HN := Lib.hid (nright_step HX.out HAll.out (show needB v.house v.no (lastOf v.needs k) x = true by rw [HL.out]; simp [needB, hkx, laterB, (beq_iff_eq.1 h2).symm, h3, beq_eq_false_iff_ne.1 hs]))
                        clear hkx
                        go_wp2_with ((go_at_call 89; (with_reducible refine (HKX.out _).mono ?_); rintro e w' ⟨rfl, rfl⟩))
                        go_roundw
                        case rel =>
                          refine ⟨k + 1, by omega, by go_num, ?_, ?_, ⟨?_, ?_⟩, ⟨?_, ?_⟩, ⟨?_, ?_⟩, HN.out⟩
                          · exact ((HB2.out.setCell (p := ⟨w.heap.size + 1, 0, none⟩) (show w.heap.size ≤ w.heap.size + 1 by omega) _).setCell (p := ⟨w.heap.size + 1, 1, none⟩) (show w.heap.size ≤ w.heap.size + 1 by omega) _).alloc (by simp; exact hw0) _
                          · simp; omega
                          · simp [go_sem, *]
                          · simp [go_sem, *]
                          all_goals (try rw [lastOf_succ HX.out])
                          all_goals simp [go_sem, *]
                        case measure => simp [intOf]; omega
                    ·
                      have HN := Lib.hid (HNO.out (by exact later_no h1 (fun _ => h3)))
                      clear hkx
                      go_wp2_with ((go_at_call 89; (with_reducible refine (HKX.out _).mono ?_); rintro e w' ⟨rfl, rfl⟩))
                      go_ret
                      exact ⟨retN_bool HN.out.symm, HB2.out.alloc hw0 _⟩
                  | false =>
                    have HN := Lib.hid (HNO.out (by exact later_no h1 (fun e => absurd e.symm (beq_eq_false_iff_ne.1 h2))))
                    clear hkx
                    go_wp2_with ((go_at_call 89; (with_reducible refine (HKX.out _).mono ?_); rintro e w' ⟨rfl, rfl⟩))
                    go_ret
                    exact ⟨retN_bool HN.out.symm, HB2.out.alloc hw0 _⟩
            · obtain rfl : k = v.needs.length := by omega
              have HN := Lib.hid (show rightN v = true from HH.out.trans (needs_yes HAll.out))
              go_wp2_with fail
              go_ret
              exact ⟨retN_bool HN.out.symm, HB2.out⟩
end Go.Proofs.YtaojnjealccjiaaGreatDoor

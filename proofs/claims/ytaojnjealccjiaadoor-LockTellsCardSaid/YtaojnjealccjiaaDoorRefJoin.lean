/- The reference's Join. -/
import Derived.Test.YtaojnjealccjiaaDoorRefPut
namespace Go.Proofs.YtaojnjealccjiaaDoor
open Go Go.RowKit Kb Go.Lib
set_option linter.unusedVariables false

set_option maxHeartbeats 4000000 in
set_option maxRecDepth 100000 in
theorem ref_join (a b : List Akt) (A A' : Option Addr) (ca cb : Nat) (w : World) (hl : Lst aktV 4 w A a) (hl' : Lst aktV 4 w A' b) (hsa : Small a) (hsb : Small b) (ha : a.length ≤ 40) (hb : b.length ≤ 40) :
    Calls Tryd.prog 13 #[.slice A a.length ca, .slice A' b.length cb] w (TurnPost w (putAll (putAll [] a) b)) := by
  have HLa := Lib.hid hl
  have HLb := Lib.hid hl'
  have HSa := Lib.hid hsa.1
  have HSb := Lib.hid hsb.1
  clear hl hl' hsa hsb
  generalize hna : a.length = na at *
  have HNa := Lib.hid hna
  generalize hnb : b.length = nb at *
  have HNb := Lib.hid hnb
  clear hna hnb
  go_enter Tryd.func13, Tryd.ntmps13
  go_wp2_with fail
  go_loopw [5, 6] (fun s5 s6 wr => ∃ (k m : Nat) (A5 : Option Addr) (c5 : Nat) (L : List Akt), k ≤ na ∧ m ≤ 200 ∧ s6 = .int .i64 k ∧ s5 = .slice A5 m c5 ∧ Hid (m = L.length) ∧ Hid (L = putAll [] (a.take k)) ∧ Hid (Lst aktV 4 wr A5 L) ∧ Hid (Below w.heap.size w wr)) (fun _ s6 _ => na - (intOf s6).toNat)
  case atStart => exact ⟨0, 0, _, _, [], Nat.zero_le _, by omega, rfl, rfl, Lib.hid rfl, Lib.hid rfl, Lib.hid Lst.nil, Lib.hid ((Below.refl _ w).alloc (Nat.le_refl _) _)⟩
  case round =>
    obtain ⟨k, m, A5, c5, L, hk, hm, rfl, rfl, HM, HE, HLL, HB⟩ := hrel
    by_cases hlt : k < na
    · have hkl : k < a.length := by rw [HNa.out]; exact hlt
      obtain ⟨b_, off, rfl, hbl, h4⟩ := at4_of HLa.out hkl
      obtain ⟨c0, c1, c2, c3⟩ := h4.below HB.out hbl
      have hso := HSa.out a[k] (List.getElem_mem hkl)
      have hnx : putL L a[k] = putAll [] (a.take (k + 1)) := by rw [HE.out, putAll_take _ _ _ hkl]
      have hln : (putL L a[k]).length ≤ 200 := by rw [hnx]; have h1 := putAll_len (a.take (k + 1)) []; have h2 := List.length_take_le (k + 1) a; simp only [List.length_nil] at h1; omega
      generalize a[k] = x at c0 c1 c2 c3 hso hnx hln
      clear h4
      have hpu := ref_put L A5 c5 x wr HLL.out (by rw [← HM.out]; omega) hso
      rw [← HM.out] at hpu
      obtain ⟨xk, xp, xd, xo⟩ := x
      simp only at c0 c1 c2 c3 hpu
      have HPu := Lib.hid hpu
      have HNx := Lib.hid hnx
      have HLn := Lib.hid hln
      clear hpu hnx hso hln
      have j1 : (k : Int) < (na : Int) := by omega
      have j3 : (0 : Int) ≤ (k : Int) := by omega
      go_wp2_with (go_at_call 33; refine (HPu.out).mono ?_; rintro e w2 ⟨A2, c2', rfl, hl2, hb2⟩; have HB2 := Lib.hid (HB.out.trans (hb2.mono HB.out.size)); have HL2 := Lib.hid hl2; clear hl2 hb2)
      go_roundw
      case rel => exact ⟨k + 1, _, A2, c2', _, by omega, HLn.out, by go_num, rfl, Lib.hid rfl, HNx, HL2, HB2⟩
      case measure => simp [intOf]; omega
    · obtain rfl : k = na := by omega
      have j1 : ¬ (k : Int) < (k : Int) := by omega
      go_wp2_with fail
      go_loopw [5, 7] (fun s5 s6 wr => ∃ (k m : Nat) (A5 : Option Addr) (c5 : Nat) (L : List Akt), k ≤ nb ∧ m ≤ 200 ∧ s6 = .int .i64 k ∧ s5 = .slice A5 m c5 ∧ Hid (m = L.length) ∧ Hid (L = putAll (putAll [] a) (b.take k)) ∧ Hid (Lst aktV 4 wr A5 L) ∧ Hid (Below w.heap.size w wr)) (fun _ s6 _ => nb - (intOf s6).toNat)
      case atStart => exact ⟨0, m, A5, c5, L, Nat.zero_le _, hm, rfl, rfl, HM, Lib.hid (by rw [HE.out, List.take_of_length_le (by rw [HNa.out]; exact Nat.le_refl _)]; rfl), HLL, HB⟩
      case round =>
        clear hlt hk hm HM HE HLL HB j1
        obtain ⟨k, m, A5, c5, L, hk, hm, rfl, rfl, HM, HE, HLL, HB⟩ := hrel
        by_cases hlt : k < nb
        · have hkl : k < b.length := by rw [HNb.out]; exact hlt
          obtain ⟨b_, off, rfl, hbl, h4⟩ := at4_of HLb.out hkl
          obtain ⟨c0, c1, c2, c3⟩ := h4.below HB.out hbl
          have hso := HSb.out b[k] (List.getElem_mem hkl)
          have hnx : putL L b[k] = putAll (putAll [] a) (b.take (k + 1)) := by rw [HE.out, putAll_take _ _ _ hkl]
          have hln : (putL L b[k]).length ≤ 200 := by rw [hnx]; have h1 := putAll_len (b.take (k + 1)) (putAll [] a); have h2 := List.length_take_le (k + 1) b; have h3 := putAll_len a []; have h4 := HNa.out; simp only [List.length_nil] at h3; omega
          generalize b[k] = x at c0 c1 c2 c3 hso hnx hln
          clear h4
          have hpu := ref_put L A5 c5 x wr HLL.out (by rw [← HM.out]; omega) hso
          rw [← HM.out] at hpu
          obtain ⟨xk, xp, xd, xo⟩ := x
          simp only at c0 c1 c2 c3 hpu
          have HPu := Lib.hid hpu
          have HNx := Lib.hid hnx
          have HLn := Lib.hid hln
          clear hpu hnx hso hln
          have j1 : (k : Int) < (nb : Int) := by omega
          have j3 : (0 : Int) ≤ (k : Int) := by omega
          go_wp2_with (go_at_call 33; refine (HPu.out).mono ?_; rintro e w2 ⟨A2, c2', rfl, hl2, hb2⟩; have HB2 := Lib.hid (HB.out.trans (hb2.mono HB.out.size)); have HL2 := Lib.hid hl2; clear hl2 hb2)
          go_roundw
          case rel => exact ⟨k + 1, _, A2, c2', _, by omega, HLn.out, by go_num, rfl, Lib.hid rfl, HNx, HL2, HB2⟩
          case measure => simp [intOf]; omega
        · obtain rfl : k = nb := by omega
          have j1 : ¬ (k : Int) < (k : Int) := by omega
          go_wp2_with fail
          go_ret
          have h9 : L = putAll (putAll [] a) b := by rw [HE.out, List.take_of_length_le (by rw [HNb.out]; exact Nat.le_refl _)]
          rw [← h9]
          exact ⟨A5, c5, by rw [← HM.out]; rfl, HLL.out, HB.out⟩

end Go.Proofs.YtaojnjealccjiaaDoor

/- slices.DeleteFunc over a row of acts of the call's own. -/
import Derived.Test.YtaojnjealccjiaaGreatDoorRow
import Derived.Shelf.SlicesE.DeleteFunc
namespace Go.Proofs.YtaojnjealccjiaaGreatDoor
open Go Go.RowKit Kb Go.Lib
set_option linter.unusedVariables false

def KInv (kp : Akt → Bool) (xs dk : List Akt) (i j : Nat) : Prop :=
  dk.length = xs.length ∧ j ≤ xs.length ∧ i < j ∧ dk.take i = (xs.take j).filter kp ∧ ∀ t, j ≤ t → dk[t]? = xs[t]?

theorem KInv.start {kp : Akt → Bool} {xs : List Akt} {k : Nat} (hk : k < xs.length) (h1 : ∀ j (h : j < k), kp (xs[j]'(by omega)) = true) (h2 : kp xs[k] = false) : KInv kp xs xs k (k + 1) := by
  refine ⟨rfl, hk, by omega, ?_, fun _ _ => rfl⟩
  rw [List.take_succ_eq_append_getElem hk, List.filter_append]
  have : (xs.take k).filter kp = xs.take k := List.filter_eq_self.2 fun a ha => by
    obtain ⟨j, hj, e⟩ := List.getElem_of_mem ha
    have hj' : j < k := by simp at hj; omega
    rw [← e, List.getElem_take]
    exact h1 j hj'
  rw [this]
  simp [h2]
theorem KInv.keep {kp : Akt → Bool} {xs dk : List Akt} {i j : Nat} (h : KInv kp xs dk i j) (hj : j < xs.length) (hk : kp xs[j] = true) : KInv kp xs (dk.set i xs[j]) (i + 1) (j + 1) := by
  obtain ⟨hl, hjl, hij, ht, hh⟩ := h
  refine ⟨by simpa using hl, hj, by omega, ?_, fun t htt => ?_⟩
  · rw [List.take_succ_eq_append_getElem (by simp; omega), List.take_succ_eq_append_getElem hj, List.filter_append, ← ht]
    have hs : (dk.take i).set i xs[j] = dk.take i := List.set_eq_of_length_le (by simp; omega)
    simp [hk, List.take_set, hs]
  · rw [List.getElem?_set_ne (by omega)]
    exact hh t (by omega)
theorem KInv.skip {kp : Akt → Bool} {xs dk : List Akt} {i j : Nat} (h : KInv kp xs dk i j) (hj : j < xs.length) (hk : kp xs[j] = false) : KInv kp xs dk i (j + 1) := by
  obtain ⟨hl, hjl, hij, ht, hh⟩ := h
  refine ⟨hl, hj, by omega, ?_, fun t htt => hh t (by omega)⟩
  rw [List.take_succ_eq_append_getElem hj, List.filter_append, ← ht]
  simp [hk]
theorem KInv.get {kp : Akt → Bool} {xs dk : List Akt} {i j : Nat} (h : KInv kp xs dk i j) (hj : j < xs.length) : dk[j]'(by rw [h.1]; exact hj) = xs[j] := by
  have := h.2.2.2.2 j (Nat.le_refl _)
  rw [List.getElem?_eq_getElem (by rw [h.1]; exact hj), List.getElem?_eq_getElem hj] at this
  exact Option.some.inj this
theorem KInv.done {kp : Akt → Bool} {xs dk : List Akt} {i : Nat} (h : KInv kp xs dk i xs.length) : dk.take i = xs.filter kp ∧ (xs.filter kp).length = i := by
  obtain ⟨hl, hjl, hij, ht, hh⟩ := h
  rw [List.take_length] at ht
  exact ⟨ht, by rw [← ht, List.length_take]; omega⟩

set_option maxHeartbeats 4000000 in
theorem delete_acts (p : Akt → Bool) (f : Nat) (eg : ∀ args w, (callFunc f args).run Tryz.prog w = .ok (.enter f args) w) (B : Nat) (A : Option Addr) (cap : Nat) (xs : List Akt) (w0 w : World)
    (hp : ∀ (W : World) (x : Akt), x ∈ xs → Calls Tryz.prog f #[.agg #[.int .i64 x.kind, .int .i64 x.person, .int .i64 x.day, .string x.obj]] W fun e w' => e = .returned (.bool (p x)) ∧ Below W.heap.size W w')
    (hown : OwnR B w A cap xs) (hB : Below B w0 w) :
    Calls Tryz.prog 43 #[.slice A xs.length cap, .func (.func f) #[] #[]] w fun e w' => e = .returned (.slice A (xs.filter fun x => !p x).length cap) ∧ OwnR B w' A cap (xs.filter fun x => !p x) ∧ Below B w0 w' := by
  obtain ⟨hc1, hc2, hrow⟩ := hown
  unfold maxLen at hc2
  by_cases hne : xs = []
  · subst hne
    go_enter Tryz.func43, Tryz.ntmps43
    go_wp2_with (go_at_call 59; refine (index_none _ _ _ _).mono ?_; rintro e w' ⟨rfl, rfl⟩)
    go_ret
    exact ⟨rfl, ⟨Nat.zero_le _, by unfold maxLen; omega, fun h => absurd rfl h⟩, hB⟩
  · obtain ⟨g, rfl, hgB, hgw, hr⟩ := hrow hne
    have hidx := index_in Tryz.laysIdx 4 Tryz.isAgg47 Tryz.sizeOf47 aktV (fun _ => rfl) p f #[] eg (some ⟨g, 0, none⟩) cap xs w
      (fun W x hx hb => (hp W x hx).mono fun e w' ⟨he, hb'⟩ => ⟨he, hb.trans (hb'.mono hb.size)⟩) (by omega) (OwnR.lst (B := B) (cap := cap) ⟨hc1, by unfold maxLen; omega, fun _ => ⟨g, rfl, hgB, hgw, hr⟩⟩) hne
    change Calls Tryz.prog 59 _ _ _ at hidx
    have hsp := idxByFrom_spec (fun _ y => p y) default xs 0
    unfold Lib.idxBy at hidx
    rcases hsp with ⟨e1, hall⟩ | ⟨k0, hk0, e1, ht, hall⟩
    · rw [e1] at hidx
      have hf : (xs.filter fun x => !p x) = xs := List.filter_eq_self.2 fun a ha => by
        obtain ⟨j, hj, e⟩ := List.getElem_of_mem ha
        have := hall j hj
        rw [getElem!_pos xs j hj, e] at this
        rw [this]; rfl
      rw [hf]
      have HI := Lib.hid hidx
      clear hidx hf e1 hall
      generalize hn : xs.length = n at *
      have HN := Lib.hid hn
      clear hn
      go_enter Tryz.func43, Tryz.ntmps43
      go_wp2_with (go_at_call 59; refine HI.out.mono ?_; rintro e w' ⟨rfl, hb'⟩)
      go_ret
      exact ⟨rfl, ⟨by rw [HN.out]; exact hc1, by unfold maxLen; omega, fun _ => ⟨g, rfl, hgB, Nat.lt_of_lt_of_le hgw hb'.size, hr.below hb' hgw⟩⟩, hB.trans (hb'.mono (by omega))⟩
    · rw [e1] at hidx
      simp only [Nat.zero_add] at hidx
      have hI0 : KInv (fun x => !p x) xs xs k0 (k0 + 1) := KInv.start hk0 (fun j h => by have := hall j h; rw [getElem!_pos xs j (by omega)] at this; simp [this]) (by rw [getElem!_pos xs k0 hk0] at ht; simp [ht])
      have HI := Lib.hid hidx
      have HI0 := Lib.hid hI0
      have HP := Lib.hid hp
      have HR := Lib.hid hr
      clear hidx hI0 e1 hall ht hp hr hrow
      generalize hn : xs.length = n at *
      have HN := Lib.hid hn
      clear hn
      have hk1 : ((k0 : Int) == -1) = false := beq_eq_false_iff_ne.2 (by omega)
      go_enter Tryz.func43, Tryz.ntmps43
      go_wp2_with (go_at_call 59; refine HI.out.mono ?_; rintro e w' ⟨rfl, hb'⟩)
      go_loopw [5, 6] (fun s5 s6 wr => ∃ (i j : Nat) (dk : List Akt), s5 = .int .i64 i ∧ s6 = .int .i64 j ∧ i < j ∧ j ≤ n ∧ Hid (KInv (fun x => !p x) xs dk i j) ∧ Hid (Row wr g dk) ∧ Hid (Below B w0 wr) ∧ g < wr.heap.size) (fun _ s6 _ => n - (intOf s6).toNat)
      case atStart => exact ⟨k0, k0 + 1, xs, rfl, by go_num, by omega, by omega, HI0.out, HR.out.below hb' hgw, hB.trans (hb'.mono (by omega)), Nat.lt_of_lt_of_le hgw hb'.size⟩
      case round =>
        obtain ⟨i, j, dk, rfl, rfl, hij, hjn, HK, HRw, HBl, hgr⟩ := hrel
        by_cases hlt : j < n
        · have hjx : j < xs.length := by rw [HN.out]; exact hlt
          have hjd : j < dk.length := by rw [HK.out.1]; exact hjx
          have hid : i < dk.length := by omega
          obtain ⟨⟨c0, c1, c2, c3⟩, _⟩ := HRw.out.get hjd
          obtain ⟨⟨o0, o1, o2, o3⟩, f0, f1, f2, f3⟩ := HRw.out.get hid
          have hget := HK.out.get hjx
          rw [hget] at c0 c1 c2 c3
          have hcall := fun W => HP.out W xs[j] (List.getElem_mem hjx)
          generalize hu : xs[j] = u at c0 c1 c2 c3 hcall
          have HU := Lib.hid hu
          generalize dk[i] = old at o0 o1 o2 o3
          clear hu hget
          have hgne : g ≠ wr.heap.size := by omega
          have hg1 : g < wr.heap.size + 1 := by omega
          cases hq : p u with
          | false =>
            rw [hq] at hcall
            have HQ := Lib.hid hq
            have HC := Lib.hid hcall
            clear hq hcall
            go_wp2_with (go_at_fn f; refine (HC.out _).mono ?_; rintro e w1 ⟨rfl, hb1⟩; obtain ⟨hc1', hf1'⟩ := bcell hb1)
            go_roundw
            case rel =>
              have hg2 : g < (wr.alloc (.cells #[.int .i64 u.kind, .int .i64 u.person, .int .i64 u.day, .string u.obj] 47)).heap.size := by simpa using hg1
              have hrw := ((HRw.out.below ((Below.refl _ wr).alloc (Nat.le_refl _) _) hgr).below hb1 hg2).store hid u
              have hKk := HK.out.keep hjx (by rw [HU.out, HQ.out]; rfl)
              rw [HU.out] at hKk
              exact ⟨i + 1, j + 1, dk.set i u, by go_num, by go_num, by omega, by omega, hKk, hrw, below_put4 ((HBl.out.alloc (by omega) _).trans (hb1.mono (by simp; omega))) hgB, by have := hb1.size; simp at this; simp; omega⟩
            case measure => simp [intOf]; omega
          | true =>
            rw [hq] at hcall
            have HQ := Lib.hid hq
            have HC := Lib.hid hcall
            clear hq hcall
            go_wp2_with (go_at_fn f; refine (HC.out _).mono ?_; rintro e w1 ⟨rfl, hb1⟩; obtain ⟨hc1', hf1'⟩ := bcell hb1)
            go_roundw
            case rel =>
              have hg2 : g < (wr.alloc (.cells #[.int .i64 u.kind, .int .i64 u.person, .int .i64 u.day, .string u.obj] 47)).heap.size := by simpa using hg1
              exact ⟨i, j + 1, dk, rfl, by go_num, by omega, by omega, HK.out.skip hjx (by rw [HU.out, HQ.out]; rfl), (HRw.out.below ((Below.refl _ wr).alloc (Nat.le_refl _) _) hgr).below hb1 hg2, (HBl.out.alloc (by omega) _).trans (hb1.mono (by simp; omega)), by have := hb1.size; simp at this; omega⟩
            case measure => simp [intOf]; omega
        · obtain rfl : j = n := by omega
          have hdn : dk.length = j := by rw [HK.out.1, HN.out]
          obtain ⟨vs, hclr⟩ := run_clear_acts wr g i (j - i) (cap - i) (by omega) (fun t ht => by
            exact HRw.out.some_ (by omega))
          have hic : i < cap := by omega
          go_wp2_with fail
          go_ret
          have hK := HK.out
          rw [← HN.out] at hK
          obtain ⟨d1, d2⟩ := hK.done
          refine ⟨by rw [d2]; rfl, ⟨by rw [d2]; omega, by unfold maxLen; omega, fun _ => ⟨g, rfl, hgB, ?_, ?_⟩⟩, below_sets hgB _ _ HBl.out⟩
          · have := (below_sets (B := wr.heap.size) (Nat.le_refl _) [] 0 (Below.refl wr.heap.size wr)).size
            exact Nat.lt_of_lt_of_le hgr (below_sets (B := 0) (g := g) (Nat.zero_le _) vs (i * 4) (Below.refl 0 wr)).size
          · rw [← d1]
            exact (HRw.out.take i).cleared vs i (by simp; omega)

end Go.Proofs.YtaojnjealccjiaaGreatDoor

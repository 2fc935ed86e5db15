/- slices.SortFunc by lock.compare over a row of acts of the call's own. -/
import Derived.Test.YtaojnjealccjiaaGreatDoorRow
import Derived.Test.YtaojnjealccjiaaGreatDoorCompare
import Derived.Lib.OwnBridge
import Derived.Shelf.SlSortCmp.NoneTotal
namespace Go.Proofs.YtaojnjealccjiaaGreatDoor
open Go Go.RowKit Kb Go.Lib Go.Sort
set_option linter.unusedVariables false

theorem compareInt_cases (x y : Int) : (x < y ∧ compareInt x y = -1) ∨ (x = y ∧ compareInt x y = 0) ∨ (y < x ∧ compareInt x y = 1) := by
  unfold compareInt
  by_cases h1 : x < y
  · exact .inl ⟨h1, by simp [h1]⟩
  · by_cases h2 : y < x
    · exact .inr (.inr ⟨h2, by simp [h1, h2]⟩)
    · exact .inr (.inl ⟨by omega, by simp [h1, h2]⟩)
theorem compareBytes_cases : ∀ (x y : List UInt8), (x < y ∧ compareBytes x y = -1) ∨ (x = y ∧ compareBytes x y = 0) ∨ (y < x ∧ compareBytes x y = 1)
  | [], [] => .inr (.inl ⟨rfl, rfl⟩)
  | [], _ :: _ => .inl ⟨List.nil_lt_cons _ _, rfl⟩
  | _ :: _, [] => .inr (.inr ⟨List.nil_lt_cons _ _, rfl⟩)
  | a :: r, b :: s => by
    unfold compareBytes
    by_cases h1 : a < b
    · exact .inl ⟨List.cons_lt_cons_iff.2 (.inl h1), by simp [h1]⟩
    · by_cases h2 : b < a
      · exact .inr (.inr ⟨List.cons_lt_cons_iff.2 (.inl h2), by simp [h1, h2]⟩)
      · have e : a = b := by
          have h3 : b ≤ a := UInt8.not_lt.1 h1
          have h4 : a ≤ b := UInt8.not_lt.1 h2
          exact UInt8.le_antisymm h4 h3
        subst e
        simp only [h1, if_false]
        rcases compareBytes_cases r s with ⟨h, e⟩ | ⟨h, e⟩ | ⟨h, e⟩
        · exact .inl ⟨List.cons_lt_cons_iff.2 (.inr ⟨rfl, h⟩), e⟩
        · exact .inr (.inl ⟨by rw [h], e⟩)
        · exact .inr (.inr ⟨List.cons_lt_cons_iff.2 (.inr ⟨rfl, h⟩), e⟩)

theorem cmpA_lt (a b : Akt) : ltOf cmpA a b = decide (ltAct a b) := by
  unfold ltOf
  rw [Bool.eq_iff_iff, decide_eq_true_eq, decide_eq_true_eq]
  unfold cmpA ltAct
  rcases compareInt_cases a.day b.day with ⟨h, e⟩ | ⟨h, e⟩ | ⟨h, e⟩
  · simp only [orI, e]; simp [h]
  · rcases compareInt_cases a.kind b.kind with ⟨h2, e2⟩ | ⟨h2, e2⟩ | ⟨h2, e2⟩
    · simp only [orI, e, e2]; simp [h, h2]
    · rcases compareInt_cases a.person b.person with ⟨h3, e3⟩ | ⟨h3, e3⟩ | ⟨h3, e3⟩
      · simp only [orI, e, e2, e3]; simp [h, h2, h3]
      · rcases compareBytes_cases a.o b.o with ⟨h4, e4⟩ | ⟨h4, e4⟩ | ⟨h4, e4⟩
        · simp only [orI, e, e2, e3, e4]; simp [h, h2, h3, h4]
        · simp only [orI, e, e2, e3, e4]; simp [h, h2, h3, h4, List.lt_irrefl]
        · have : ¬ a.o < b.o := fun h5 => List.lt_irrefl _ (List.lt_trans h4 h5)
          simp only [orI, e, e2, e3, e4]; simp [h, h2, h3, this]
      · have n1 : ¬ a.person < b.person := by omega
        have n2 : ¬ a.person = b.person := by omega
        simp only [orI, e, e2, e3]; simp [h, h2, n1, n2]
    · have n1 : ¬ a.kind < b.kind := by omega
      have n2 : ¬ a.kind = b.kind := by omega
      simp only [orI, e, e2]; simp [h, n1, n2]
  · have n1 : ¬ a.day < b.day := by omega
    have n2 : ¬ a.day = b.day := by omega
    simp only [orI, e]; simp [n1, n2]

theorem ltAct_swo : SWO (ltOf cmpA) where
  irrefl x := by rw [cmpA_lt]; simp [ltAct_irrefl]
  trans x y z h1 h2 := by rw [cmpA_lt, decide_eq_true_eq] at *; exact ltAct_trans h1 h2
  ntrans x y z h1 h2 := by
    rw [cmpA_lt, decide_eq_false_iff_not] at *
    intro h3
    by_cases h4 : ltAct y x
    · exact h2 (ltAct_trans h4 h3)
    · rw [ltAct_tri h1 h4] at h3; exact h2 h3

theorem holds_of_row {w : World} {g : Nat} {xs : List Akt} (h : Row w g xs) : HoldsK aktV 4 w g 0 xs.toArray := fun t ht => by
  have ht' : t < xs.length * 4 := by rw [size_flatK] at ht; simpa using ht
  have hj : t / 4 < xs.length := by omega
  rw [get_flatK _ _ _ _ (by simpa using ht'), Nat.zero_add]
  obtain ⟨⟨c0, c1, c2, c3⟩, f0, f1, f2, f3⟩ := h.get hj
  have e : xs.toArray[t / 4]! = xs[t / 4] := by rw [getElem!_pos xs.toArray (t / 4) (by simpa using hj)]; simp
  rw [e]
  have h4 : (t % 4 = 0 ∧ t = t / 4 * 4) ∨ (t % 4 = 1 ∧ t = t / 4 * 4 + 1) ∨ (t % 4 = 2 ∧ t = t / 4 * 4 + 2) ∨ (t % 4 = 3 ∧ t = t / 4 * 4 + 3) := by omega
  generalize xs[t / 4] = a at *
  generalize t / 4 * 4 = o at *
  rcases h4 with ⟨h, rfl⟩ | ⟨h, rfl⟩ | ⟨h, rfl⟩ | ⟨h, rfl⟩ <;> rw [h]
  · exact ⟨c0, f0⟩
  · exact ⟨c1, f1⟩
  · exact ⟨c2, f2⟩
  · exact ⟨c3, f3⟩
theorem row_of_holds {w : World} {g : Nat} {d : Array Akt} (h : HoldsK aktV 4 w g 0 d) : Row w g d.toList := fun j a ha => by
  have hj : j < d.size := by have := (List.getElem?_eq_some_iff.1 ha).1; simpa using this
  have e : d[j]! = a := by
    rw [getElem!_pos d j hj]
    have := (List.getElem?_eq_some_iff.1 ha).2
    simpa using this
  have hc := fun c (hc : c < 4) => h.cell hj hc
  rw [e] at hc
  simp only [Nat.zero_add] at hc
  exact ⟨⟨(hc 0 (by omega)).1, (hc 1 (by omega)).1, (hc 2 (by omega)).1, (hc 3 (by omega)).1⟩, (hc 0 (by omega)).2, (hc 1 (by omega)).2, (hc 2 (by omega)).2, (hc 3 (by omega)).2⟩

theorem below_grow {B : Nat} {a w : World} (h : Below B a w) (hB : B ≤ w.heap.size) (os : Array Obj) : RowKit.Below B a (grow w os) :=
  ⟨h.os, h.tape, h.output, Nat.le_trans h.size (by simp [grow]), fun i hi => by
    rw [← h.block i hi]
    simp only [grow]
    rw [Array.getElem?_append_left (by omega)]⟩

set_option maxHeartbeats 1000000 in
theorem sort_acts (B : Nat) (A : Option Addr) (cap : Nat) (xs : List Akt) (w0 w : World) (hown : OwnR B w A cap xs) (hB : RowKit.Below B w0 w) (hbig : xs.length < 4611686018427387904) :
    Calls Tryz.prog 46 #[.slice A xs.length cap, .func (.func 47) #[] #[]] w fun e w' => e = .returned (.tuple #[]) ∧ ∃ ys : List Akt, ys.Perm xs ∧ ys.Pairwise (fun a b => ¬ ltAct b a) ∧ OwnR B w' A cap ys ∧ RowKit.Below B w0 w' := by
  by_cases hne : xs = []
  · subst hne
    refine (AnyF.slices_SortFunc_none { Tryz.laysSort with } A cap _ w).mono fun e w' ⟨he, hw⟩ => ?_
    subst hw
    exact ⟨he, [], List.Perm.refl _, List.Pairwise.nil, hown, hB⟩
  · obtain ⟨hc1, hc2, hrow⟩ := hown
    obtain ⟨g, rfl, hgB, hgw, hr⟩ := hrow hne
    have eg : ∀ args w, (callFunc 47 args).run Tryz.prog w = .ok (.enter 47 args) w := enters_of Tryz.func47 (by kernel_rfl) rfl
    have hH := holds_of_row hr
    have h := AnyQ.slices_SortFunc Tryz.laysSort 4 Tryz.isAgg47 Tryz.sizeOf47 aktV (fun _ => rfl) (fun x v hv => by simp [aktV] at hv; rcases hv with rfl | rfl | rfl | rfl <;> rfl) cmpA ltAct_swo 47 #[] g 0 cap xs.toArray w eg
      (fun m os dk _ x y => lock_compare x y _) hH hgw (by simpa using hbig)
    rw [List.size_toArray] at h
    refine h.mono fun e w' ⟨he, d', n, os, hp, hs, hw⟩ => ⟨he, d'.toList, ?_, ?_, ⟨?_, hc2, fun _ => ⟨g, rfl, hgB, ?_, ?_⟩⟩, ?_⟩
    · have := hp.2.2
      have e1 : d'.extract 0 xs.length = d' := by rw [Array.extract_eq_self_of_le (by rw [hp.1]; simp)]
      have e2 : xs.toArray.extract 0 xs.length = xs.toArray := by rw [Array.extract_eq_self_of_le (by simp)]
      rw [e1, e2] at this
      simpa using this
    · rw [List.pairwise_iff_getElem]
      intro i j hi hj hij
      have := hs i j (Nat.zero_le _) hij (by have := hp.1; simp at this hj; omega)
      rw [cmpA_lt, decide_eq_false_iff_not, getElem!_pos d' j (by simpa using hj), getElem!_pos d' i (by simpa using hi)] at this
      simpa using this
    · have := hp.1
      simp at this ⊢
      omega
    · rw [hw]
      exact Nat.lt_of_lt_of_le hgw (size_sortWorldK_c _ _ _ _ _ _ _ _)
    · rw [hw]
      exact row_of_holds (holdsK_sortWorldK_c _ _ _ _ _ _ _ _ _ hH hgw hp.1)
    · rw [hw]
      unfold sortWorldK
      exact below_grow (Lib.below_putRow hB hgB) (by rw [size_putRow]; show B ≤ w.heap.size; omega) os

end Go.Proofs.YtaojnjealccjiaaGreatDoor

/- slices.BinarySearchFunc over houses, gossip.find, gossip.ready. -/
import Derived.Test.YtaojnjealccjiaaGreatDoorNHouse
import Derived.Deep.LoopGhost
namespace Go.Proofs.YtaojnjealccjiaaGreatDoor
open Go Go.RowKit Nt Go.Proofs Go.Lib
set_option linter.unusedVariables false
set_option linter.unusedSimpArgs false

theorem find_cl (x : HouseT) (n : Int) (w : World) : Calls Tryz.prog 129 #[.agg #[.int .i64 x.number, .slice x.A x.rs.length x.c, .bool x.forked, .int .i64 (x.taken : Int)], .int .i64 n] w fun e w' => e = .returned (.int .i64 (compareInt x.number n)) ∧ Below w.heap.size w w' := by
  have hci := fun (x y : Int) (W : World) => Any.cmp_Compare_int Tryz.lays122 x y W
  change ∀ x y W, Calls Tryz.prog 74 _ _ _ at hci
  have HC := Lib.hid hci
  clear hci
  go_enter Tryz.func129, Tryz.ntmps129
  go_wp2_with fail
  refine (HC.out _ _ _).mono ?_
  rintro e w1 ⟨rfl, rfl⟩
  go_wp2_with fail
  go_ret
  exact ⟨rfl, (Below.refl _ _).alloc (Nat.le_refl _) _⟩
/-- what the search says: the index of the house, or that there is none -/
def FindPost (hs : List HouseT) (n : Int) (w : World) (e : Ending) (w' : World) : Prop :=
  ∃ (i : Nat) (b : Bool), e = .returned (.tuple #[.int .i64 (i : Int), .bool b]) ∧ (b = true → ∃ x, hs[i]? = some x ∧ x.number = n) ∧ (b = false → ∀ x ∈ hs, x.number ≠ n) ∧ Below w.heap.size w w'
set_option maxRecDepth 100000 in
set_option maxHeartbeats 4000000 in
theorem search_houses (hs : List HouseT) (A : Option Addr) (c : Nat) (n : Int) (w : World) (h : Sl houseD w Any1 A hs) (hsrt : hs.Pairwise fun a b => a.number < b.number) (hl : hs.length ≤ 100000) :
    Calls Tryz.prog 128 #[.slice A hs.length c, .int .i64 n, .func (.func 129) #[] #[]] w (FindPost hs n w) := by
  have H := Lib.hid h
  have HP := Lib.hid (show ∀ (i j : Nat) (x y : HouseT), i < j → hs[i]? = some x → hs[j]? = some y → x.number < y.number from fun i j x y hij hx hy => by
    obtain ⟨hi, rfl⟩ := List.getElem?_eq_some_iff.1 hx
    obtain ⟨hj, rfl⟩ := List.getElem?_eq_some_iff.1 hy
    exact List.pairwise_iff_getElem.1 hsrt i j hi hj hij)
  clear h hsrt
  go_enter Tryz.func128, Tryz.ntmps128
  go_wp2_with fail
  go_loopg [9, 10] hs.length (fun kx s9 s10 wr => ∃ lo hi : Nat, s9 = .int .i64 (lo : Int) ∧ s10 = .int .i64 (hi : Int) ∧ lo ≤ hi ∧ hi ≤ hs.length ∧ hi - lo ≤ kx ∧ Hid (∀ (t : Nat) (x : HouseT), t < lo → hs[t]? = some x → x.number < n) ∧ Hid (∀ (t : Nat) (x : HouseT), hi ≤ t → hs[t]? = some x → n ≤ x.number) ∧ Hid (Below w.heap.size w wr))
  case atStart => exact ⟨0, hs.length, rfl, rfl, Nat.zero_le _, Nat.le_refl _, by omega, fun t x ht => absurd ht (Nat.not_lt_zero _), fun t x ht hx => by have := (List.getElem?_eq_some_iff.1 hx).1; omega, Below.refl _ _⟩
  case round =>
    obtain ⟨lo, hi, rfl, rfl, hlh, hin, hg, HLo, HHi, HW⟩ := hrel
    have hw1 := HW.out.size
    by_cases hlt : lo < hi
    · have hml : (lo + hi) / 2 < hs.length := by omega
      obtain ⟨b, off, rfl, _, hbw, _, hcl⟩ := (H.out.below HW.out).get hml
      have hx : hs[(lo + hi) / 2]? = some hs[(lo + hi) / 2] := List.getElem?_eq_getElem hml
      generalize hs[(lo + hi) / 2] = x at hx hcl
      have c0 : wr.cell? ⟨b, off + (lo + hi) / 2 * 4, none⟩ = some (.int .i64 x.number) := hcl 0 _ rfl
      have c1 : wr.cell? ⟨b, off + (lo + hi) / 2 * 4 + 1, none⟩ = some (.slice x.A x.rs.length x.c) := hcl 1 _ rfl
      have c2 : wr.cell? ⟨b, off + (lo + hi) / 2 * 4 + 2, none⟩ = some (.bool x.forked) := hcl 2 _ rfl
      have c3 : wr.cell? ⟨b, off + (lo + hi) / 2 * 4 + 3, none⟩ = some (.int .i64 (x.taken : Int)) := hcl 3 _ rfl
      have HX := Lib.hid hx
      clear hx hcl
      have hcc := fun W => find_cl x n W
      by_cases hxn : x.number < n
      · have e1 : compareInt x.number n = -1 := by rcases compareInt_cases x.number n with ⟨_, e⟩ | ⟨q, e⟩ | ⟨q, e⟩ <;> first | exact e | omega
        rw [e1] at hcc
        have HCC := Lib.hid hcc
        clear hcc e1
        go_wp2_with (go_at_call 129; refine (HCC.out _).mono ?_; rintro e w1 ⟨rfl, hb1⟩)
        go_roundg (hi - ((lo + hi) / 2 + 1))
        case measure => omega
        case rel => exact ⟨(lo + hi) / 2 + 1, hi, by rw [show ((lo : Int) + (hi : Int)) / 2 + 1 = (((lo + hi) / 2 + 1 : Nat) : Int) by omega], rfl, by omega, hin, Nat.le_refl _, fun t y ht hy => by
            rcases Nat.lt_or_ge t ((lo + hi) / 2) with q | q
            · have := HP.out t _ y x q hy HX.out; omega
            · obtain rfl : t = (lo + hi) / 2 := by omega
              rw [HX.out] at hy
              cases hy
              exact hxn, HHi.out, HW.out.trans (hb1.mono hw1)⟩
      · have e1 : 0 ≤ compareInt x.number n := by rcases compareInt_cases x.number n with ⟨q, e⟩ | ⟨q, e⟩ | ⟨q, e⟩ <;> omega
        generalize compareInt x.number n = cc at e1 hcc
        have e2 : ¬ cc < 0 := by omega
        have HCC := Lib.hid hcc
        clear hcc e1
        go_wp2_with (go_at_call 129; refine (HCC.out _).mono ?_; rintro e w1 ⟨rfl, hb1⟩)
        go_roundg ((lo + hi) / 2 - lo)
        case measure => omega
        case rel => exact ⟨lo, (lo + hi) / 2, rfl, by rw [show ((lo : Int) + (hi : Int)) / 2 = (((lo + hi) / 2 : Nat) : Int) by omega], by omega, by omega, Nat.le_refl _, HLo.out, fun t y ht hy => by
            rcases Nat.lt_or_ge ((lo + hi) / 2) t with q | q
            · have := HP.out _ t x y q HX.out hy; omega
            · obtain rfl : t = (lo + hi) / 2 := by omega
              rw [HX.out] at hy
              cases hy
              omega, HW.out.trans (hb1.mono hw1)⟩
    · obtain rfl : hi = lo := by omega
      by_cases hn : hi < hs.length
      · obtain ⟨b, off, rfl, _, hbw, _, hcl⟩ := (H.out.below HW.out).get hn
        have hx : hs[hi]? = some hs[hi] := List.getElem?_eq_getElem hn
        generalize hs[hi] = x at hx hcl
        have c0 : wr.cell? ⟨b, off + hi * 4, none⟩ = some (.int .i64 x.number) := hcl 0 _ rfl
        have c1 : wr.cell? ⟨b, off + hi * 4 + 1, none⟩ = some (.slice x.A x.rs.length x.c) := hcl 1 _ rfl
        have c2 : wr.cell? ⟨b, off + hi * 4 + 2, none⟩ = some (.bool x.forked) := hcl 2 _ rfl
        have c3 : wr.cell? ⟨b, off + hi * 4 + 3, none⟩ = some (.int .i64 (x.taken : Int)) := hcl 3 _ rfl
        have HX := Lib.hid hx
        clear hx hcl
        have hcc := fun W => find_cl x n W
        by_cases hxn : x.number = n
        · have e1 : compareInt x.number n = 0 := by rcases compareInt_cases x.number n with ⟨q, e⟩ | ⟨q, e⟩ | ⟨q, e⟩ <;> first | exact e | omega
          have HXN := Lib.hid hxn
          rw [e1] at hcc
          have HCC := Lib.hid hcc
          clear hcc e1 hxn
          go_wp2_with (go_at_call 129; refine (HCC.out _).mono ?_; rintro e w1 ⟨rfl, hb1⟩)
          go_ret2
          exact ⟨hi, true, rfl, fun _ => ⟨x, HX.out, HXN.out⟩, fun h => (by cases h), HW.out.trans (hb1.mono hw1)⟩
        · have e1 : compareInt x.number n ≠ 0 := by rcases compareInt_cases x.number n with ⟨q, e⟩ | ⟨q, e⟩ | ⟨q, e⟩ <;> omega
          generalize compareInt x.number n = cc at e1 hcc
          have e2 : (cc == 0) = false := by simpa using e1
          have HXN := Lib.hid hxn
          have HCC := Lib.hid hcc
          clear hcc e1 hxn
          go_wp2_with (go_at_call 129; refine (HCC.out _).mono ?_; rintro e w1 ⟨rfl, hb1⟩)
          go_ret2
          exact ⟨hi, false, rfl, fun h => (by cases h), fun _ y hy => by
            obtain ⟨t, ht, e⟩ := List.getElem_of_mem hy
            have hty : hs[t]? = some y := by rw [List.getElem?_eq_getElem ht, e]
            rcases Nat.lt_trichotomy t hi with q | q | q
            · have := HLo.out t y q hty; omega
            · subst q
              rw [HX.out] at hty
              cases hty
              exact HXN.out
            · have h1 := HP.out hi t x y q HX.out hty
              have h2 := HHi.out hi x (Nat.le_refl _) HX.out
              omega, HW.out.trans (hb1.mono hw1)⟩
      · go_wp2_with fail
        go_ret2
        exact ⟨hi, false, rfl, fun h => (by cases h), fun _ y hy => by
          obtain ⟨t, ht, e⟩ := List.getElem_of_mem hy
          have hty : hs[t]? = some y := by rw [List.getElem?_eq_getElem ht, e]
          have := HLo.out t y (by omega) hty
          omega, HW.out⟩
theorem gossip_find (hs : List HouseT) (A : Option Addr) (c : Nat) (n : Int) (w : World) (h : Sl houseD w Any1 A hs) (hsrt : hs.Pairwise fun a b => a.number < b.number) (hl : hs.length ≤ 100000) :
    Calls Tryz.prog 96 #[.slice A hs.length c, .int .i64 n] w (FindPost hs n w) := by
  have HS := Lib.hid (search_houses hs A c n w h hsrt hl)
  clear h hsrt
  go_enter Tryz.func96, Tryz.ntmps96
  go_wp2_with fail
  refine HS.out.mono ?_
  rintro e w1 ⟨i, b, rfl, h1, h2, hb⟩
  have H1 := Lib.hid h1
  have H2 := Lib.hid h2
  clear h1 h2
  go_wp2_with fail
  go_ret2
  exact ⟨i, b, rfl, H1.out, H2.out, hb⟩
end Go.Proofs.YtaojnjealccjiaaGreatDoor

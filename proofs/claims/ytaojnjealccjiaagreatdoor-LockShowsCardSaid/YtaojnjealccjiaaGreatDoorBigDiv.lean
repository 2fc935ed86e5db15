/- The contract of big.div, first part: a lesser number; one digit. -/
import Derived.Test.YtaojnjealccjiaaGreatDoorBigSettle
import Derived.Test.YtaojnjealccjiaaGreatDoorBigCmp
import Derived.Test.YtaojnjealccjiaaGreatDoorClone
namespace Go.Proofs.YtaojnjealccjiaaGreatDoor
open Go Go.RowKit Bg Go.Proofs
set_option linter.unusedVariables false

/-- a slice that reads as the digits of n -/
def Reads1 (w : World) (v : Value) (n : Nat) : Prop := ∃ A c, v = .slice A (dig n).length c ∧ (dig n).length ≤ c ∧ Arr w A ((dig n).map nv)
theorem Reads1.below {w w' : World} {v : Value} {n : Nat} (h : Reads1 w v n) (hb : Below w.heap.size w w') : Reads1 w' v n := by
  obtain ⟨A, c, h1, h2, h3⟩ := h
  exact ⟨A, c, h1, h2, h3.below hb⟩
def DivPost (a b : Nat) (w : World) (e : Ending) (w' : World) : Prop :=
  ∃ q r, e = .returned (.tuple #[q, r]) ∧ Reads1 w' q (a / b) ∧ Reads1 w' r (a % b) ∧ Below w.heap.size w w'

theorem one_nv (l : List Nat) : ∀ u ∈ l.map nv, u.oneCell' = true := by
  intro u hu
  obtain ⟨d, _, rfl⟩ := List.mem_map.1 hu
  rfl
theorem one_iv (l : List Int) : ∀ u ∈ l.map iv, u.oneCell' = true := by
  intro u hu
  obtain ⟨d, _, rfl⟩ := List.mem_map.1 hu
  rfl

set_option maxRecDepth 100000 in
set_option maxHeartbeats 1000000 in
theorem big_div_less (a b : List Nat) (A A' : Option Addr) (c c' : Nat) (w : World) (hca : Canon a) (hcb : Canon b) (ha : Arr w A (a.map nv)) (hb : Arr w A' (b.map nv)) (hl : a.length ≤ 1000000) (hl' : b.length ≤ 1000000) (hlt : val a < val b) :
    Calls Tryz.prog 138 #[.slice A a.length c, .slice A' b.length c'] w (DivPost (val a) (val b) w) := by
  have hcmp := big_compare a b A A' c c' w hca hcb ha hb hl hl'
  rw [cmpN_lt hlt] at hcmp
  have HC := Lib.hid hcmp
  have HQ := Lib.hid (show val a / val b = 0 from Nat.div_eq_of_lt hlt)
  have HR := Lib.hid (show val a % val b = val a from Nat.mod_eq_of_lt hlt)
  clear hcmp
  go_enter Tryz.func138, Tryz.ntmps138
  go_wp2_with fail
  refine HC.out.mono ?_
  rintro e w' ⟨rfl, n, rfl⟩
  go_wp2_with fail
  have HK := Lib.hid (int_clone (a.map nv) A c (w.drewN n) (one_nv a) (ha.drewN n) (by simpa using hl))
  have HK2 : Hid (Calls Tryz.prog 137 #[.slice A a.length c] (w.drewN n) (ClonePost (a.map nv) (w.drewN n))) := by
    have := HK.out
    rw [List.length_map] at this
    exact this
  clear HK
  refine HK2.out.mono ?_
  rintro e w1 ⟨A1, c1, rfl, hA1, hl1, hf1, hb1⟩
  go_wp2
  go_ret2
  have e1 : dig (val a) = a := (canon_eq hca).symm
  refine ⟨_, _, rfl, ?_, ?_, below_drewN_left hb1⟩
  · rw [HQ.out]
    exact ⟨none, 0, by rw [dig_zero]; rfl, by rw [dig_zero]; simp, by rw [dig_zero]; exact Arr.nil⟩
  · rw [HR.out]
    exact ⟨A1, c1, by rw [e1]; simp, by rw [e1]; simpa using hl1, by rw [e1]; exact hA1⟩

set_option maxRecDepth 100000 in
set_option maxHeartbeats 1000000 in
theorem big_div_one (a : List Nat) (d : Nat) (A A' : Option Addr) (c c' : Nat) (w : World) (hca : Canon a) (hd0 : 0 < d) (hd : d < 1048576) (ha : Arr w A (a.map nv)) (hb : Arr w A' ([d].map nv)) (hl : a.length ≤ 1000000) (hle : d ≤ val a) :
    Calls Tryz.prog 138 #[.slice A a.length c, .slice A' 1 c'] w (DivPost (val a) d w) := by
  have hv : val [d] = d := by simp [val]
  have hcb : Canon [d] := ⟨Dig.cons hd Dig.nil, fun _ => by simp; omega⟩
  have hcmp := big_compare a [d] A A' c c' w hca hcb ha hb hl (by simp)
  rw [hv] at hcmp
  obtain ⟨b1, off1, y, rfl, hlt1, hcell1, hyl, HY⟩ := hb.dg hcb.1 (k := 0) (by simp)
  obtain rfl : d = y := by simpa using HY.out
  simp only [Nat.add_zero] at hcell1
  have hge : ¬ cmpN (val a) d < 0 := by
    rcases Nat.lt_or_ge d (val a) with h | h
    · rw [cmpN_gt h]; omega
    · rw [cmpN_eq (by omega)]; omega
  have HC := Lib.hid hcmp
  have HG := Lib.hid hge
  clear hcmp hge hv HY
  go_enter Tryz.func138, Tryz.ntmps138
  go_wp2_with fail
  refine HC.out.mono ?_
  rintro e w' ⟨rfl, n, rfl⟩
  have hge := HG.out
  generalize cmpN (val a) d = z at hge
  clear HC HG
  have hge2 : decide (z < 0) = false := by simpa using hge
  go_wp2_with fail
  have HS := Lib.hid (big_short a d A c (w.drewN n) hca.1 hd0 (by omega) (ha.drewN n) hl)
  refine HS.out.mono ?_
  rintro e w1 ⟨cc, rfl, hcc, hcm, hown, hb1⟩
  clear HS
  have hb1' := below_drewN_left hb1
  go_wp2_with fail
  have HT := Lib.hid (big_trim [val a % d] (some ⟨w1.heap.size, 0, none⟩) 1 (w1.alloc (.cells #[.int .i64 ((val a % d : Nat) : Int)] 3)) (Dig.cons (by have := Nat.mod_lt (val a) hd0; omega) Dig.nil) (Blk.arr (t := 3) (heap_alloc_new w1 _)) (Nat.le_refl _) (by simp))
  refine HT.out.mono ?_
  rintro e w2 ⟨rfl, rfl⟩
  go_wp2
  go_ret2
  have hval : val [val a % d] = val a % d := by simp [val]
  refine ⟨_, _, rfl, ?_, ?_, hb1'.alloc hb1'.size _⟩
  · exact ⟨_, cc, rfl, hcc, hown.arr.alloc _⟩
  · refine ⟨_, 1, by rw [hval]; rfl, ?_, ?_⟩
    · have := dig_len (l := [val a % d]) (Dig.cons (by have := Nat.mod_lt (val a) hd0; omega) Dig.nil)
      rw [hval] at this
      exact this
    · have h2 := (Blk.arr (t := 3) (heap_alloc_new w1 (.cells #[.int .i64 ((val a % d : Nat) : Int)] 3)) : Arr _ _ ([val a % d].map nv)).take_ (dig (val [val a % d])).length
      rw [← List.map_take, ← dig_take (Dig.cons (by have := Nat.mod_lt (val a) hd0; omega) Dig.nil), hval] at h2
      exact h2
end Go.Proofs.YtaojnjealccjiaaGreatDoor

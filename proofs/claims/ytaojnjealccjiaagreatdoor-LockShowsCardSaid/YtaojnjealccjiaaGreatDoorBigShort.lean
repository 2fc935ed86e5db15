/- The contract of big.short. -/
import Derived.Test.YtaojnjealccjiaaGreatDoorBigMul
namespace Go.Proofs.YtaojnjealccjiaaGreatDoor
open Go Go.RowKit Bg
set_option linter.unusedVariables false

/-- what the loop keeps: the digits from i on are divided -/
def ShortAt (a : List Nat) (d B : Nat) (w wr : World) (i r : Nat) : Prop :=
  ∃ out : List Nat, out.length = a.length ∧ Dig out ∧ Blk wr B 3 (out.map nv) ∧ val (out.drop i) * d + r = val (a.drop i) ∧ Below B w wr

theorem ShortAt.step {a out : List Nat} {d B : Nat} {w wr : World} {i r x : Nat} (hda : Dig a) (hd : d < 1048577) (hi : i < a.length) (hr : r < d) (h1 : out.length = a.length) (h2 : Dig out) (h3 : Blk wr B 3 (out.map nv)) (h4 : val (out.drop (i + 1)) * d + r = val (a.drop (i + 1))) (h5 : Below B w wr)
    (hx : a.getD i 0 = x) : (r * 1048576 + x) / d < 1048576 ∧ ShortAt a d B w (wr.setCell ⟨B, i, none⟩ (.int .i64 (((r * 1048576 + x) / d : Nat) : Int))) i ((r * 1048576 + x) % d) := by
  subst hx
  have hs := short_digit r d (a.getD i 0) hr hd (hda.get i)
  exact ⟨hs.1, out.set i _, by simpa using h1, h2.set_ _ hs.1, h3.nset _ _, short_step a out i d r hi h1 hr h4, h5.setCell (Nat.le_refl _) _⟩

set_option maxHeartbeats 1000000 in
theorem big_short (a : List Nat) (d : Nat) (A : Option Addr) (c : Nat) (w : World) (hda : Dig a) (hd0 : 0 < d) (hd : d < 1048577) (ha : Arr w A (a.map nv)) (hl : a.length ≤ 1000000) :
    Calls Tryz.prog 159 #[.slice A a.length c, .int .i64 (d : Int)] w fun e w' => ∃ cc, e = .returned (.tuple #[.slice (some ⟨w.heap.size, 0, none⟩) (dig (val a / d)).length cc, .int .i64 ((val a % d : Nat) : Int)]) ∧ (dig (val a / d)).length ≤ cc ∧ cc ≤ 1000000 ∧
      OwnD w' w.heap.size cc (val a / d) ∧ Below w.heap.size w w' := by
  have hmk : ∀ W : World, (Instr.makeSlice 38 (.int .i64 ((a.length : Int))) (.int .i64 (a.length : Int))).run Tryz.prog W = .ok (.slice (some ⟨W.heap.size, 0, none⟩) a.length a.length) (W.alloc (.cells ((List.replicate a.length (.int .i64 0)).toArray) 3)) := fun W => by
    have := run_make_row' (P := Tryz.prog) 38 3 (.int .i64 0) 8 Tryz.underlying38 Tryz.infoInt rfl .i64 .i64 a.length (by omega) (by omega) W
    rw [made_list] at this
    exact this
  go_enter Tryz.func159, Tryz.ntmps159
  go_wp2
  go_loopw [7, 8] (fun t u wr => ∃ k r : Nat, k ≤ a.length ∧ r < d ∧ t = .int .i64 (r : Int) ∧ u = .int .i64 ((k : Int) - 1) ∧ ShortAt a d w.heap.size w wr k r) (fun _ u _ => (intOf u + 1).toNat)
  case atStart =>
    refine ⟨a.length, 0, Nat.le_refl _, hd0, rfl, rfl, List.replicate a.length 0, by simp, Dig.zeros _, ?_, by simp [val], (Below.refl _ _).alloc (Nat.le_refl _) _⟩
    have := heap_alloc_new w (.cells ((List.replicate a.length (Value.int .i64 0)).toArray) 3)
    unfold Blk
    rw [List.map_replicate]
    exact this
  case round =>
    obtain ⟨k, r, hk, hr, rfl, rfl, out, h1, h2, h3, h4, h5⟩ := hrel
    clear hmk
    by_cases h0 : k = 0
    · subst h0
      have ht := big_trim out (some ⟨w.heap.size, 0, none⟩) a.length wr h2 h3.arr (by omega) (by omega)
      simp only [List.drop_zero] at h4
      have he := short_end (val a) (val out) d r hr h4
      rw [h1, he.1] at ht
      have HT := Lib.hid ht
      have HE := Lib.hid he
      have H1 := Lib.hid h1
      clear ht he h4 h1
      have hneg : decide ((0 : Int) ≤ ((0 : Nat) : Int) - 1) = false := by decide
      go_wp2_with (go_at_call 160; refine HT.out.mono ?_; rintro e w' ⟨rfl, rfl⟩)
      go_ret2
      have hle := dig_len h2
      rw [HE.out.1, H1.out] at hle
      refine ⟨a.length, ret_two rfl (int_eq (by rw [← HE.out.2])), hle, hl, ?_, h5⟩
      have := OwnD.of h2 h3
      rw [H1.out, HE.out.1] at this
      exact this
    · obtain ⟨i, rfl⟩ : ∃ i, k = i + 1 := ⟨k - 1, by omega⟩
      obtain ⟨b1, off1, x, rfl, hlt1, hcell1, hxl, HX⟩ := (ha.below h5).dg hda (k := i) (by omega)
      have hik : i < out.length := by omega
      obtain ⟨o, hcell3, hol, HO⟩ := h3.dg h2 hik
      have hfz := h3.frozen i
      have HS := Lib.hid (ShortAt.step hda hd (by omega) hr h1 h2 h3 h4 h5 HX.out)
      have hor := or_digit r x (by omega) hxl
      have H1 := Lib.hid h1
      have H4 := Lib.hid h4
      clear h1 h4
      go_wp2
      go_roundw
      case rel => exact ⟨i, (r * 1048576 + x) % d, by omega, Nat.mod_lt _ hd0, by rw [smod], rfl, by rw [sdiv]; exact HS.out.2⟩
      case measure => simp [intOf]
end Go.Proofs.YtaojnjealccjiaaGreatDoor

/- The contract of big.mul. -/
import Derived.Test.YtaojnjealccjiaaGreatDoorBigW
namespace Go.Proofs.YtaojnjealccjiaaGreatDoor
open Go Go.RowKit Bg
set_option linter.unusedVariables false
attribute [local go_sem] and_mask

theorem Tryz.infoInt : (Tryz.prog.info? 3).map (fun i => (i.zero, i.size, i.bytes)) = some (some (.int .i64 0), 1, 8) := by kernel_rfl

/-- what the outer loop keeps -/
def MulOut (a b : List Nat) (B : Nat) (w wr : World) (i : Nat) : Prop :=
  ∃ out : List Nat, out.length = a.length + b.length ∧ Dig out ∧ Blk wr B 3 (out.map nv) ∧ val out = val (a.take i) * val b ∧ Below B w wr
/-- what the inner loop keeps -/
def MulIn (a b : List Nat) (B : Nat) (w wr : World) (i k c : Nat) : Prop :=
  ∃ out : List Nat, out.length = a.length + b.length ∧ Dig out ∧ Blk wr B 3 (out.map nv) ∧ val out + c * 1048576 ^ (i + k) = val (a.take i) * val b + a.getD i 0 * (1048576 ^ i * val (b.take k)) ∧ Below B w wr

theorem MulIn.step {a b : List Nat} {B : Nat} {w wr : World} {i k c d y o : Nat} {out : List Nat} (hda : Dig a) (hdb : Dig b) (hi : i < a.length) (hk : k < b.length) (hc : c < 1048576) (h1 : out.length = a.length + b.length) (h2 : Dig out) (h3 : Blk wr B 3 (out.map nv))
    (h4 : val out + c * 1048576 ^ (i + k) = val (a.take i) * val b + a.getD i 0 * (1048576 ^ i * val (b.take k))) (h5 : Below B w wr) (hd : a.getD i 0 = d) (hy : b.getD k 0 = y) (ho : out.getD (i + k) 0 = o) (n : Nat) (hn : n = o + d * y + c) :
    n / 1048576 < 1048576 ∧ MulIn a b B w (wr.setCell ⟨B, i + k, none⟩ (.int .i64 ((n % 1048576 : Nat) : Int))) i (k + 1) (n / 1048576) := by
  subst hd hy ho
  have hx := hda.get i
  have hyy := hdb.get k
  have hoo := h2.get (i + k)
  have hm := mul_carry _ _ _ _ hoo hx hyy hc
  rw [← hn] at hm
  refine ⟨hm.2, out.set (i + k) (n % 1048576), by simpa using h1, h2.set_ _ (by omega), h3.nset _ _, ?_, h5.setCell (Nat.le_refl _) _⟩
  have := mul_inner out (i + k) (a.getD i 0) (b.getD k 0) c n _ (by omega) h4 hn
  rw [mul_step b _ i k hk]
  rw [← Nat.add_assoc i k 1]
  omega

theorem MulOut.step {a b : List Nat} {B : Nat} {w wr : World} {i c o : Nat} {out : List Nat} (hda : Dig a) (hdb : Dig b) (hi : i < a.length) (h1 : out.length = a.length + b.length) (h2 : Dig out) (h3 : Blk wr B 3 (out.map nv))
    (h4 : val out + c * 1048576 ^ (i + b.length) = val (a.take i) * val b + a.getD i 0 * (1048576 ^ i * val (b.take b.length))) (h5 : Below B w wr) (ho : out.getD (i + b.length) 0 = o) :
    o + c < 1048576 ∧ MulOut a b B w (wr.setCell ⟨B, i + b.length, none⟩ (.int .i64 ((o + c : Nat) : Int))) (i + 1) := by
  subst ho
  rw [List.take_of_length_le (Nat.le_refl _), ← mul_next a b i hi] at h4
  have hb := mul_bound (i := i + 1) hda hdb hi
  rw [show i + 1 + b.length = i + b.length + 1 by omega] at hb
  have := mul_end out (i + b.length) c _ (by omega) h4 hb
  exact ⟨this.1, out.set _ _, by simpa using h1, h2.set_ _ this.1, h3.nset _ _, this.2, h5.setCell (Nat.le_refl _) _⟩

set_option maxHeartbeats 1000000 in
theorem big_mul (a b : List Nat) (A A' : Option Addr) (c c' : Nat) (w : World) (hda : Dig a) (hdb : Dig b) (ha : Arr w A (a.map nv)) (hb : Arr w A' (b.map nv)) (hl : a.length + b.length ≤ 1000000) :
    Calls Tryz.prog 161 #[.slice A a.length c, .slice A' b.length c'] w fun e w' => ∃ cc, e = .returned (.slice (some ⟨w.heap.size, 0, none⟩) (dig (val a * val b)).length cc) ∧ (dig (val a * val b)).length ≤ cc ∧ cc ≤ 1000000 ∧
      OwnD w' w.heap.size cc (val a * val b) ∧ Below w.heap.size w w' := by
  have hmk : ∀ W : World, (Instr.makeSlice 38 (.int .i64 ((a.length : Int) + (b.length : Int))) (.int .i64 ((a.length : Int) + (b.length : Int)))).run Tryz.prog W = .ok (.slice (some ⟨W.heap.size, 0, none⟩) (a.length + b.length) (a.length + b.length)) (W.alloc (.cells ((List.replicate (a.length + b.length) (.int .i64 0)).toArray) 3)) := fun W => by
    have := run_make_row' (P := Tryz.prog) 38 3 (.int .i64 0) 8 Tryz.underlying38 Tryz.infoInt rfl .i64 .i64 (a.length + b.length) (by omega) (by omega) W
    rw [made_list, Int.natCast_add] at this
    exact this
  go_enter Tryz.func161, Tryz.ntmps161
  go_wp2
  go_loopw [20] (fun t wr => ∃ i : Nat, i ≤ a.length ∧ t = .int .i64 (i : Int) ∧ MulOut a b w.heap.size w wr i) (fun t _ => a.length - (intOf t).toNat)
  case atStart =>
    refine ⟨0, Nat.zero_le _, rfl, List.replicate (a.length + b.length) 0, by simp, Dig.zeros _, ?_, by simp [val_zeros, val], (Below.refl _ _).alloc (Nat.le_refl _) _⟩
    have := heap_alloc_new w (.cells ((List.replicate (a.length + b.length) (Value.int .i64 0)).toArray) 3)
    unfold Blk
    rw [List.map_replicate]
    exact this
  case round =>
    obtain ⟨i, hi, rfl, HM⟩ := hrel
    by_cases hlt : i < a.length
    · have HM0 : MulIn a b w.heap.size w wr i 0 0 := by
        obtain ⟨out, h1, h2, h3, h4, h5⟩ := HM
        exact ⟨out, h1, h2, h3, by simp [val, h4], h5⟩
      have hbw : Below w.heap.size w wr := by obtain ⟨out, h1, h2, h3, h4, h5⟩ := HM; exact h5
      obtain ⟨b1, off1, d, rfl, hlt1, hcell1, hdl, HD⟩ := (ha.below hbw).dg hda hlt
      clear HM
      obtain ⟨wo, rfl⟩ : ∃ wo : World, wo = wr := ⟨_, rfl⟩
      go_wp2
      go_loopw [8, 27] (fun t u wq => ∃ k c : Nat, k ≤ b.length ∧ c < 1048576 ∧ t = .int .i64 (c : Int) ∧ u = .int .i64 (k : Int) ∧ MulIn a b w.heap.size w wq i k c) (fun _ u _ => b.length - (intOf u).toNat)
      case atStart => exact ⟨0, 0, Nat.zero_le _, by omega, rfl, rfl, HM0⟩
      case round =>
        obtain ⟨k, cc, hk, hcc, rfl, rfl, HM⟩ := hrel
        clear HM0 hmk
        by_cases hkt : k < b.length
        · obtain ⟨out, h1, h2, h3, h4, h5⟩ := HM
          obtain ⟨b2, off2, y, rfl, hlt2, hcell2, hyl, HY⟩ := (hb.below h5).dg hdb hkt
          have hik : i + k < out.length := by omega
          have hik2 : i + k < a.length + b.length := by omega
          obtain ⟨o, hcell3, hol, HO⟩ := h3.dg h2 hik
          have hfz := h3.frozen (i + k)
          have hp1 : (d : Int) * (y : Int) ≤ 1099509530625 := by
            have : d * y ≤ 1048575 * 1048575 := Nat.mul_le_mul (by omega) (by omega)
            have e : (d : Int) * (y : Int) = ((d * y : Nat) : Int) := by simp
            omega
          have hp0 : 0 ≤ (d : Int) * (y : Int) := Int.mul_nonneg (by omega) (by omega)
          have H4 := Lib.hid h4
          have H1 := Lib.hid h1
          clear h4 h1
          go_wp2
          go_roundw
          case rel =>
            have hs := MulIn.step hda hdb hlt hkt hcc H1.out h2 h3 H4.out h5 HD.out HY.out HO.out (o + d * y + cc) rfl
            exact ⟨k + 1, (o + d * y + cc) / 1048576, by omega, hs.1, by rw [vdiv], by go_num, by rw [vmod]; exact hs.2⟩
          case measure => simp [intOf]; omega
        · obtain rfl : k = b.length := by omega
          obtain ⟨out, h1, h2, h3, h4, h5⟩ := HM
          have hik : i + b.length < out.length := by omega
          have hik2 : i + b.length < a.length + b.length := by omega
          obtain ⟨o, hcell3, hol, HO⟩ := h3.dg h2 hik
          have hfz := h3.frozen (i + b.length)
          have hsum : o + cc < 1048576 ∧ MulOut a b w.heap.size w (wr.setCell ⟨w.heap.size, i + b.length, none⟩ (.int .i64 ((o + cc : Nat) : Int))) (i + 1) := MulOut.step hda hdb hlt h1 h2 h3 h4 h5 HO.out
          have hsl := hsum.1
          have HS := Lib.hid hsum.2
          clear h1 h4 hsum
          go_wp2
          go_roundw
          case rel => exact ⟨i + 1, by omega, by go_num, by rw [← Int.natCast_add]; exact HS.out⟩
          case measure => simp [intOf]; omega
    · obtain rfl : i = a.length := by omega
      obtain ⟨out, h1, h2, h3, h4, h5⟩ := HM
      rw [List.take_of_length_le (Nat.le_refl _)] at h4
      have H4 := Lib.hid h4
      have h1' : out.length = a.length + b.length := h1
      have H1 := Lib.hid h1
      clear h4 h1
      have ht := big_trim out (some ⟨w.heap.size, 0, none⟩) (a.length + b.length) wr h2 h3.arr (by omega) (by omega)
      rw [h1', H4.out] at ht
      have HT := Lib.hid ht
      clear ht h1'
      go_wp2_with (go_at_call 160; refine HT.out.mono ?_; rintro e w' ⟨rfl, rfl⟩)
      go_ret
      have hle := dig_len h2
      rw [H4.out, H1.out] at hle
      refine ⟨a.length + b.length, rfl, hle, hl, ?_, h5⟩
      have := OwnD.of h2 h3
      rw [H1.out, H4.out] at this
      exact this
end Go.Proofs.YtaojnjealccjiaaGreatDoor

/- The contract of big.settle. -/
import Derived.Test.YtaojnjealccjiaaGreatDoorBigShort
namespace Go.Proofs.YtaojnjealccjiaaGreatDoor
open Go Go.RowKit Bg
set_option linter.unusedVariables false
attribute [local go_sem] and_mask

/-- what the first loop keeps -/
def SetA (pre post : List Value) (u v : List Nat) (gs g : Nat) (w wr : World) (i b : Nat) : Prop :=
  ∃ u1 : List Nat, u1.length = u.length ∧ Dig u1 ∧ Wnd wr g pre u1 post ∧ val u1 + gs * val (v.take i) = val u + b * 1048576 ^ i ∧ w.grownBy wr (some g)
/-- what the second loop keeps -/
def SetB (pre post : List Value) (u1 v : List Nat) (g : Nat) (w wr : World) (i c : Nat) : Prop :=
  ∃ u2 : List Nat, u2.length = u1.length ∧ Dig u2 ∧ Wnd wr g pre u2 post ∧ val u2 + c * 1048576 ^ i = val u1 + val (v.take i) ∧ w.grownBy wr (some g)

theorem SetA.step {pre post : List Value} {u v u1 : List Nat} {gs g : Nat} {w wr : World} {i b x y : Nat} (hv : Dig v) (hg : gs < 1048576) (hi : i < u.length) (hb : b < 1048576) (h1 : u1.length = u.length) (h2 : Dig u1) (h3 : Wnd wr g pre u1 post) (h4 : val u1 + gs * val (v.take i) = val u + b * 1048576 ^ i) (h5 : w.grownBy wr (some g))
    (hx : u1.getD i 0 = x) (hy : v.getD i 0 = y) (n : Int) (hn : n = (x : Int) - b - (gs : Int) * (y : Int)) :
    ∃ b' : Nat, b' < 1048576 ∧ -(n / 1048576) = (b' : Int) ∧ SetA pre post u v gs g w (wr.setCell ⟨g, pre.length + i, none⟩ (.int .i64 (n % 1048576))) (i + 1) b' := by
  subst hx hy
  have hyl := hv.get i
  have hs := settle_step u1 i gs (v.getD i 0) b _ (by omega) h2 hb hg hyl _ h4 n (by rw [hn]; simp)
  obtain ⟨p1, p2, p3, p4, p5⟩ := hs
  refine ⟨(-(n / 1048576)).toNat, p3, by omega, u1.set i (n % 1048576).toNat, by simpa using h1, h2.set_ _ p4, ?_, ?_, grown_set h5 _ _⟩
  · have := h3.set_ (i := i) (by omega) (n % 1048576).toNat
    rw [show (((n % 1048576).toNat : Nat) : Int) = n % 1048576 by omega] at this
    exact this
  · rw [← p5]
    congr 1
    rcases Nat.lt_or_ge i v.length with hlt | hge
    · rw [val_take_succ v i hlt, Nat.mul_add]
    · rw [List.take_of_length_le (show v.length ≤ i + 1 by omega), List.take_of_length_le hge]
      simp [hge]
theorem SetB.step {pre post : List Value} {u1 v u2 : List Nat} {g : Nat} {w wr : World} {i c x y : Nat} (hv : Dig v) (hi : i < u1.length) (hc : c ≤ 1) (h1 : u2.length = u1.length) (h2 : Dig u2) (h3 : Wnd wr g pre u2 post) (h4 : val u2 + c * 1048576 ^ i = val u1 + val (v.take i)) (h5 : w.grownBy wr (some g))
    (hx : u2.getD i 0 = x) (hy : v.getD i 0 = y) (n : Nat) (hn : n = c + x + y) :
    n / 1048576 ≤ 1 ∧ SetB pre post u1 v g w (wr.setCell ⟨g, pre.length + i, none⟩ (.int .i64 ((n % 1048576 : Nat) : Int))) (i + 1) (n / 1048576) := by
  subst hx hy
  have hs := settle_add u2 i (v.getD i 0) c _ (by omega) h2 hc (hv.get i) h4 n hn
  refine ⟨hs.1, u2.set i (n % 1048576), by simpa using h1, h2.set_ _ (by omega), h3.set_ (by omega) _, ?_, grown_set h5 _ _⟩
  rw [hs.2, Nat.add_assoc]
  congr 1
  rcases Nat.lt_or_ge i v.length with hlt | hge
  · rw [val_take_succ v i hlt]
  · rw [List.take_of_length_le (show v.length ≤ i + 1 by omega), List.take_of_length_le hge]
    simp [hge]

def SettlePost (pre post : List Value) (u v : List Nat) (gs g : Nat) (w : World) (e : Ending) (w' : World) : Prop :=
  ∃ u' : List Nat, u'.length = u.length ∧ Dig u' ∧ val u' = val u - (if gs * val v ≤ val u then gs else gs - 1) * val v ∧ e = .returned (.int .i64 (((if gs * val v ≤ val u then gs else gs - 1) : Nat) : Int)) ∧ Wnd w' g pre u' post ∧ w.grownBy w' (some g)

set_option maxHeartbeats 1000000 in
theorem big_settle (pre post : List Value) (u v : List Nat) (gs g cap : Nat) (A : Option Addr) (c : Nat) (w : World) (hu : Dig u) (hv : Dig v) (hvu : v.length ≤ u.length) (hl : u.length ≤ 1000000) (hg : gs < 1048576) (hw : Wnd w g pre u post) (ha : Arr w A (v.map nv)) (hne : ∀ b o, A = some ⟨b, o, none⟩ → b ≠ g)
    (hq : gs = 0 ∨ (gs - 1) * val v ≤ val u) :
    Calls Tryz.prog 162 #[.slice (some ⟨g, pre.length, none⟩) u.length cap, .slice A v.length c, .int .i64 (gs : Int)] w (SettlePost pre post u v gs g w) := by
  go_enter Tryz.func162, Tryz.ntmps162
  go_wp2
  go_loopw [7, 14] (fun t s wr => ∃ i b : Nat, i ≤ u.length ∧ b < 1048576 ∧ t = .int .i64 (b : Int) ∧ s = .int .i64 (i : Int) ∧ SetA pre post u v gs g w wr i b) (fun _ s _ => u.length - (intOf s).toNat)
  case atStart => exact ⟨0, 0, Nat.zero_le _, by omega, rfl, rfl, u, rfl, hu, hw, by simp [val], World.grownBy.refl _ _⟩
  case round =>
    obtain ⟨i, b, hi, hb, rfl, rfl, u1, h1, h2, h3, h4, h5⟩ := hrel
    by_cases hlt : i < u.length
    · obtain ⟨x, hcell, hxl, HX⟩ := h3.dg h2 (i := i) (by omega)
      have hfz := h3.frozen (pre.length + i)
      by_cases hiv : i < v.length
      · obtain ⟨b2, off2, y, rfl, hlt2, hcell2, hyl, HY⟩ := (ha.grown h5 (fun b o e h => hne b o e (by injection h))).dg hv hiv
        have HS := Lib.hid (fun n hn => SetA.step hv hg hlt hb h1 h2 h3 h4 h5 HX.out HY.out n hn)
        have hp1 : (gs : Int) * (y : Int) ≤ 1099509530625 := by
          have : gs * y ≤ 1048575 * 1048575 := Nat.mul_le_mul (by omega) (by omega)
          have e : (gs : Int) * (y : Int) = ((gs * y : Nat) : Int) := by simp
          omega
        have hp0 : 0 ≤ (gs : Int) * (y : Int) := Int.mul_nonneg (by omega) (by omega)
        clear h1 h4
        go_wp2
        go_roundw
        case rel =>
          obtain ⟨b', hb', e1, hS⟩ := HS.out _ rfl
          exact ⟨i + 1, b', by omega, hb', by rw [e1], by go_num, hS⟩
        case measure => simp [intOf]; omega
      · have hy : v.getD i 0 = 0 := by rw [List.getD_eq_getElem?_getD, List.getElem?_eq_none (by omega)]; rfl
        have HS := Lib.hid (fun n hn => SetA.step hv hg hlt hb h1 h2 h3 h4 h5 HX.out hy n hn)
        clear h1 h4 hy
        go_wp2
        go_roundw
        case rel =>
          obtain ⟨b', hb', e1, hS⟩ := HS.out ((x : Int) - b) (by simp)
          exact ⟨i + 1, b', by omega, hb', by rw [e1], by go_num, hS⟩
        case measure => simp [intOf]; omega
    · obtain rfl : i = u.length := by omega
      rw [List.take_of_length_le hvu] at h4
      cases hb0 : ((b : Int) == 0) with
      | true =>
        have e0 : b = 0 := by simpa using hb0
        have HL := Lib.hid (settle_low (v := v) (g := gs) (U := val u) (b := b) h2 (by rw [h1]; exact h4) e0)
        have H1 := Lib.hid h1
        clear h4 h1 e0
        go_wp2
        go_ret
        exact ⟨u1, H1.out, h2, by rw [if_pos HL.out.1]; exact HL.out.2, by rw [if_pos HL.out.1]; rfl, h3, h5⟩
      | false =>
        have hbn : b ≠ 0 := fun e => by subst e; simp at hb0
        have hgs : 0 < gs := by
          rcases Nat.eq_zero_or_pos gs with e | e
          · subst e
            exfalso
            have hq2 := val_lt h2
            rw [h1] at hq2
            have := Nat.mul_le_mul_right (1048576 ^ u.length) (show 1 ≤ b by omega)
            omega
          · exact e
        have HN := Lib.hid hbn
        have H4 := Lib.hid h4
        have H1 := Lib.hid h1
        clear h4 h1 hbn
        obtain ⟨wo, rfl⟩ : ∃ wo : World, wo = wr := ⟨_, rfl⟩
        go_wp2
        go_loopw [10, 49] (fun t s wr => ∃ i c : Nat, i ≤ u.length ∧ c ≤ 1 ∧ t = .int .i64 (c : Int) ∧ s = .int .i64 (i : Int) ∧ SetB pre post u1 v g w wr i c) (fun _ s _ => u.length - (intOf s).toNat)
        case atStart => exact ⟨0, 0, Nat.zero_le _, by omega, rfl, rfl, u1, rfl, h2, h3, by simp [val], h5⟩
        case round =>
          obtain ⟨i, c1, hi, hc1, rfl, rfl, u2, k1, k2, k3, k4, k5⟩ := hrel
          have hlu : u2.length = u.length := k1.trans H1.out
          by_cases hlt : i < u.length
          · obtain ⟨x, hcell, hxl, HX⟩ := k3.dg k2 (i := i) (by omega)
            have hfz := k3.frozen (pre.length + i)
            by_cases hiv : i < v.length
            · obtain ⟨b2, off2, y, rfl, hlt2, hcell2, hyl, HY⟩ := (ha.grown k5 (fun b o e h => hne b o e (by injection h))).dg hv hiv
              have HS := Lib.hid (fun n hn => SetB.step hv (by omega) hc1 k1 k2 k3 k4 k5 HX.out HY.out n hn)
              clear k1 k4 hlu
              go_wp2
              go_roundw
              case rel =>
                have hS := HS.out (c1 + x + y) rfl
                exact ⟨i + 1, (c1 + x + y) / 1048576, by omega, hS.1, int_eq (by omega), by go_num, by
                  have := hS.2
                  rw [show (((c1 + x + y) % 1048576 : Nat) : Int) = ((c1 : Int) + x + y) % 1048576 by omega] at this
                  exact this⟩
              case measure => simp [intOf]; omega
            · have hy : v.getD i 0 = 0 := by rw [List.getD_eq_getElem?_getD, List.getElem?_eq_none (by omega)]; rfl
              have HS := Lib.hid (fun n hn => SetB.step hv (by omega) hc1 k1 k2 k3 k4 k5 HX.out hy n hn)
              clear k1 k4 hlu hy
              go_wp2
              go_roundw
              case rel =>
                have hS := HS.out (c1 + x) rfl
                exact ⟨i + 1, (c1 + x) / 1048576, by omega, hS.1, int_eq (by omega), by go_num, by
                  have := hS.2
                  rw [show (((c1 + x) % 1048576 : Nat) : Int) = ((c1 : Int) + x) % 1048576 by omega] at this
                  exact this⟩
              case measure => simp [intOf]; omega
          · obtain rfl : i = u.length := by omega
            rw [List.take_of_length_le hvu] at k4
            have HH := Lib.hid (settle_high (u := u1) (u2 := u2) (g := gs) (U := val u) (V := val v) (b := b) (c := c1) h2 k2 k1 (by rw [H1.out]; exact H4.out) HN.out (by rw [H1.out]; exact k4) (by rw [H1.out]; exact val_lt hu) hq)
            have HL := Lib.hid hlu
            clear k1 k4 hlu
            go_wp2
            go_ret
            have hn : ¬ gs * val v ≤ val u := by have := HH.out.1; omega
            exact ⟨u2, HL.out, k2, by rw [if_neg hn]; exact HH.out.2.2, by rw [if_neg hn]; exact ret_int (by omega), k3, k5⟩
end Go.Proofs.YtaojnjealccjiaaGreatDoor

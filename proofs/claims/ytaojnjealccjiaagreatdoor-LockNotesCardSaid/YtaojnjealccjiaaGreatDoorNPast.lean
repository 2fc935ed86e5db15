/- The contracts of seal.Check at numbered notes of one house, and of gossip.past. -/
import Derived.Test.YtaojnjealccjiaaGreatDoorNJoin
import Derived.Deep.QuietTactic
import Derived.BigQuiet
namespace Go.Proofs.YtaojnjealccjiaaGreatDoor
open Go Go.RowKit Nt Go.Proofs Go.Lib
set_option linter.unusedVariables false
set_option linter.unusedSimpArgs false

/-! ### plain -/
def lastDay (l : List NoteV) (k : Nat) : Int := ((l.take k).map NoteV.day).getLastD 0
def ascB (l : List NoteV) : Bool := (List.range l.length).all fun i => decide (lastDay l i ≤ (l.map NoteV.day).getD i 0)
theorem lastDay_succ {l : List NoteV} {k : Nat} {x : NoteV} (h : l[k]? = some x) : lastDay l (k + 1) = x.day := by
  obtain ⟨hk, he⟩ := List.getElem?_eq_some_iff.1 h
  unfold lastDay
  rw [List.take_succ_eq_append_getElem hk, he]
  simp
theorem asc_no {l : List NoteV} {k : Nat} {x : NoteV} (hk : l[k]? = some x) (hn : x.day < lastDay l k) : ascB l = false := by
  obtain ⟨hk, he⟩ := List.getElem?_eq_some_iff.1 hk
  unfold ascB
  rw [List.all_eq_false]
  refine ⟨k, List.mem_range.2 hk, ?_⟩
  have : (l.map NoteV.day).getD k 0 = x.day := by simp [hk, he]
  rw [this]
  simp
  omega
theorem asc_yes {l : List NoteV} (hp : ∀ i, i < l.length → ∀ x, l[i]? = some x → lastDay l i ≤ x.day) : ascB l = true := by
  unfold ascB
  rw [List.all_eq_true]
  intro i hi
  have hi := List.mem_range.1 hi
  have : (l.map NoteV.day).getD i 0 = l[i].day := by simp [hi]
  rw [this]
  exact decide_eq_true (hp i hi _ (List.getElem?_eq_getElem hi))
theorem asc_iff {l : List NoteV} : ascB l = true ↔ ∀ i x, l[i]? = some x → lastDay l i ≤ x.day := by
  constructor
  · intro h i x hx
    by_cases q : x.day < lastDay l i
    · rw [asc_no hx q] at h; cases h
    · omega
  · intro h
    exact asc_yes fun i _ x hx => h i x hx
/-- the first n notes are numbered, and alone -/
def Pre (l : List NoteV) (n : Nat) : Prop := n ≤ l.length ∧ ∀ i x, i < n → l[i]? = some x → x.no = (i : Int) ∧ ∀ y, l[i + 1]? = some y → (i : Int) < y.no
theorem Pre.next {l : List NoteV} {n : Nat} {x : NoteV} (h : Pre l n) (hx : l[n]? = some x) (h1 : x.no = (n : Int)) (h2 : ∀ y, l[n + 1]? = some y → (n : Int) < y.no) : Pre l (n + 1) := by
  refine ⟨(List.getElem?_eq_some_iff.1 hx).1, fun i z hi hz => ?_⟩
  rcases Nat.lt_or_ge i n with q | q
  · exact h.2 i z q hz
  · obtain rfl : i = n := by omega
    rw [hx] at hz
    cases hz
    exact ⟨h1, h2⟩
theorem good_iff {l : List NoteV} {n : Nat} (h : Pre l n) (hd : ∀ x ∈ l, 0 ≤ x.day) : Nt.Good l n ↔ ascB (l.take n) = true := by
  rw [asc_iff]
  unfold Nt.Good
  have ht : ∀ i, i < n → (l.take n)[i]? = l[i]? := fun i hi => by rw [List.getElem?_take, if_pos hi]
  have hl : ∀ i, i < n → lastDay (l.take n) (i + 1) = lastDay l (i + 1) := fun i hi => by unfold lastDay; rw [List.take_take, Nat.min_eq_left (by omega)]
  constructor
  · rintro ⟨_, _, g⟩ i x hx
    have hi : i < n := by have := (List.getElem?_eq_some_iff.1 hx).1; rw [List.length_take] at this; omega
    rw [ht i hi] at hx
    cases i with
    | zero => exact hd x (List.mem_of_getElem? hx)
    | succ i =>
      have hil : i < l.length := by have := (List.getElem?_eq_some_iff.1 hx).1; omega
      rw [hl i (by omega), lastDay_succ (List.getElem?_eq_getElem hil)]
      exact g i _ x hi (List.getElem?_eq_getElem hil) hx
  · intro g
    refine ⟨h.1, h.2, fun i x y hi hx hy => ?_⟩
    have := g (i + 1) y (by rw [ht (i + 1) hi]; exact hy)
    rw [hl i (by omega), lastDay_succ hx] at this
    exact this
/-- two of the first i stand side by side with one number -/
def fkB (l : List NoteV) (i : Nat) : Bool := (List.range (i - 1)).any fun j => decide ((l.map NoteV.no).getD (j + 1) 0 = (l.map NoteV.no).getD j 0)
theorem fk_next {l : List NoteV} {i : Nat} {x y : NoteV} (hi : 1 ≤ i) (hx : l[i]? = some x) (hy : l[i - 1]? = some y) : fkB l (i + 1) = (fkB l i || (x.no == y.no)) := by
  obtain ⟨j, rfl⟩ : ∃ j, i = j + 1 := ⟨i - 1, by omega⟩
  unfold fkB
  simp only [Nat.add_sub_cancel] at *
  rw [List.range_succ, List.any_append]
  simp [hx, hy]
  rfl
theorem fk_iff {l : List NoteV} : fkB l l.length = true ↔ Forked l := by
  unfold fkB Forked
  rw [List.any_eq_true]
  constructor
  · rintro ⟨j, hj, h⟩
    have hj := List.mem_range.1 hj
    have h1 : j < l.length := by omega
    have h2 : j + 1 < l.length := by omega
    refine ⟨j, l[j], l[j + 1], List.getElem?_eq_getElem h1, List.getElem?_eq_getElem h2, ?_⟩
    simp [h1, h2] at h
    exact h.symm
  · rintro ⟨j, x, y, hx, hy, e⟩
    obtain ⟨h1, rfl⟩ := List.getElem?_eq_some_iff.1 hx
    obtain ⟨h2, rfl⟩ := List.getElem?_eq_some_iff.1 hy
    refine ⟨j, List.mem_range.2 (by omega), ?_⟩
    simp [h1, h2, e]

/-! ### seal.Check -/
/-- notes of one house, right and numbered -/
def Numbered (l : List NoteR) : Prop := ∀ (i : Nat) (x : NoteR), l[i]? = some x → rightN x.v = true ∧ x.v.no = (i : Int) ∧ ∀ y, l[0]? = some y → x.v.house = y.v.house
theorem below_dn {B : Nat} {a w : World} (h : Below B a w) (n : Nat) : Below B a (w.drewN n) := ⟨h.os, h.tape, h.output, h.size, h.block⟩
def SaysI (n : Int) (w : World) (e : Ending) (w' : World) : Prop := e = .returned (.int .i64 n) ∧ Below w.heap.size w w'
set_option maxRecDepth 100000 in
set_option maxHeartbeats 4000000 in
theorem seal_check (l : List NoteR) (A : Option Addr) (c : Nat) (w : World) (h : Sl noteD w Any1 A l) (hn : Numbered l) (hl : l.length ≤ 400) :
    Calls Tryz.prog 97 #[.slice A l.length c] w (SaysI (if ascB (l.map NoteR.v) then 0 else 18) w) := by
  have H := Lib.hid h
  have HN := Lib.hid hn
  clear h hn
  generalize hq : (if ascB (l.map NoteR.v) then (0 : Int) else 18) = q
  have HQ := Lib.hid hq
  clear hq
  go_enter Tryz.func97, Tryz.ntmps97
  go_wp2_with fail
  go_loopw [3, 11] (fun t u wr => ∃ k : Nat, k ≤ l.length ∧ t = .int .i64 (lastDay (l.map NoteR.v) k) ∧ u = .int .i64 (k : Int) ∧ Hid (∀ i, i < k → ∀ x, (l.map NoteR.v)[i]? = some x → lastDay (l.map NoteR.v) i ≤ x.day) ∧ Hid (Below w.heap.size w wr)) (fun _ u _ => l.length - (intOf u).toNat)
  case atStart => exact ⟨0, Nat.zero_le _, rfl, rfl, fun i hi => absurd hi (Nat.not_lt_zero _), Below.refl _ _⟩
  case round =>
    obtain ⟨k, hk, rfl, rfl, HA, HW⟩ := hrel
    have hw1 := HW.out.size
    by_cases hlt : k < l.length
    · have hl0 : 0 < l.length := by omega
      obtain ⟨b0, off0, e0, _, hb0, _, hcl0⟩ := (H.out.below HW.out).get hl0
      obtain ⟨b, off, rfl, _, hbw, hok, hcl⟩ := (H.out.below HW.out).get hlt
      injection e0 with e0
      injection e0 with e1 e2
      subst e1 e2
      have hx : l[k]? = some l[k] := List.getElem?_eq_getElem hlt
      have hy : l[0]? = some l[0] := List.getElem?_eq_getElem hl0
      generalize l[k] = x at hx hcl hok
      generalize l[0] = y at hy hcl0
      obtain ⟨hr, hno, hh⟩ := HN.out k x hx
      have hhy := hh y hy
      have y0 : wr.cell? ⟨b, off, none⟩ = some (.int .i64 y.v.house) := by simpa using hcl0 0 _ rfl
      have c0 : wr.cell? ⟨b, off + k * 5, none⟩ = some (.int .i64 x.v.house) := hcl 0 _ rfl
      have c1 : wr.cell? ⟨b, off + k * 5 + 1, none⟩ = some (.int .i64 x.v.no) := hcl 1 _ rfl
      have c2 : wr.cell? ⟨b, off + k * 5 + 2, none⟩ = some (.int .i64 x.v.day) := hcl 2 _ rfl
      have c3 : wr.cell? ⟨b, off + k * 5 + 3, none⟩ = some (.slice x.A x.v.needs.length x.c) := hcl 3 _ rfl
      have c4 : wr.cell? ⟨b, off + k * 5 + 4, none⟩ = some (.string x.v.text) := hcl 4 _ rfl
      have hri := fun W (q : Sl refD W Any1 x.A x.v.needs) => seal_right x.v x.A x.c W Any1 q (by have := (headB_iff.1 (rightN_head hr)).2.2.2.2; omega) (by have := (headB_iff.1 (rightN_head hr)).2.2.2.1; omega)
      rw [hr] at hri
      have HRI := Lib.hid hri
      have HOK := Lib.hid (show Sl refD wr Any1 x.A x.v.needs from hok)
      have t1 : (x.v.house != y.v.house) = false := by simp [hhy]
      have t2 : ¬ (k : Int) < x.v.no := by omega
      have t3 : ¬ x.v.no < (k : Int) := by omega
      have HX := Lib.hid (map_next hx NoteR.v)
      generalize hld : lastDay (l.map NoteR.v) k = ld at *
      have HLD := Lib.hid hld
      have hb1 : b < wr.heap.size := hbw
      have i0 : (0 : Int) < (l.length : Int) := by omega
      clear hri hok hcl hcl0 hx hy hh hhy hno hr hld
      by_cases hd : x.v.day < ld
      · have HF := Lib.hid (show q = 18 by rw [← HQ.out, asc_no HX.out (by rw [HLD.out]; exact hd)]; rfl)
        go_wp2_with fail
        refine (HRI.out _ (HOK.out.below ((Below.refl _ _).alloc (Nat.le_refl _) _))).mono ?_
        rintro e w2 ⟨rfl, hb2⟩
        have d0 : w2.cell? ⟨wr.heap.size, 0, none⟩ = some (.int .i64 x.v.house) := (hb2.cell (p := ⟨wr.heap.size, 0, none⟩) (by simp)).trans (by simp [go_sem])
        have d1 : w2.cell? ⟨wr.heap.size, 1, none⟩ = some (.int .i64 x.v.no) := (hb2.cell (p := ⟨wr.heap.size, 1, none⟩) (by simp)).trans (by simp [go_sem])
        have d2 : w2.cell? ⟨wr.heap.size, 2, none⟩ = some (.int .i64 x.v.day) := (hb2.cell (p := ⟨wr.heap.size, 2, none⟩) (by simp)).trans (by simp [go_sem])
        have d3 : w2.cell? ⟨wr.heap.size, 3, none⟩ = some (.slice x.A x.v.needs.length x.c) := (hb2.cell (p := ⟨wr.heap.size, 3, none⟩) (by simp)).trans (by simp [go_sem])
        have d4 : w2.cell? ⟨wr.heap.size, 4, none⟩ = some (.string x.v.text) := (hb2.cell (p := ⟨wr.heap.size, 4, none⟩) (by simp)).trans (by simp [go_sem])
        have z0 : w2.cell? ⟨b, off, none⟩ = some (.int .i64 y.v.house) := (hb2.cell (p := ⟨b, off, none⟩) (by simp; omega)).trans (by simp [go_sem, hb1, y0])
        have HB2 := Lib.hid (show Below w.heap.size w w2 from (HW.out.alloc hw1 _).trans (hb2.mono (by simp; omega)))
        clear hb2
        go_wp2_with fail
        go_quiet (fail)
        go_wp2_with fail
        go_ret
        exact ⟨retN_int HF.out.symm, below_dn HB2.out _⟩
      · have HAN := Lib.hid (show ∀ i, i < k + 1 → ∀ z, (l.map NoteR.v)[i]? = some z → lastDay (l.map NoteR.v) i ≤ z.day from fun i hi z hz => by
          rcases Nat.lt_or_ge i k with p | p
          · exact HA.out i p z hz
          · obtain rfl : i = k := by omega
            rw [HX.out] at hz
            cases hz
            rw [HLD.out]; omega)
        have HNX := Lib.hid (lastDay_succ HX.out)
        go_wp2_with fail
        refine (HRI.out _ (HOK.out.below ((Below.refl _ _).alloc (Nat.le_refl _) _))).mono ?_
        rintro e w2 ⟨rfl, hb2⟩
        have d0 : w2.cell? ⟨wr.heap.size, 0, none⟩ = some (.int .i64 x.v.house) := (hb2.cell (p := ⟨wr.heap.size, 0, none⟩) (by simp)).trans (by simp [go_sem])
        have d1 : w2.cell? ⟨wr.heap.size, 1, none⟩ = some (.int .i64 x.v.no) := (hb2.cell (p := ⟨wr.heap.size, 1, none⟩) (by simp)).trans (by simp [go_sem])
        have d2 : w2.cell? ⟨wr.heap.size, 2, none⟩ = some (.int .i64 x.v.day) := (hb2.cell (p := ⟨wr.heap.size, 2, none⟩) (by simp)).trans (by simp [go_sem])
        have d3 : w2.cell? ⟨wr.heap.size, 3, none⟩ = some (.slice x.A x.v.needs.length x.c) := (hb2.cell (p := ⟨wr.heap.size, 3, none⟩) (by simp)).trans (by simp [go_sem])
        have d4 : w2.cell? ⟨wr.heap.size, 4, none⟩ = some (.string x.v.text) := (hb2.cell (p := ⟨wr.heap.size, 4, none⟩) (by simp)).trans (by simp [go_sem])
        have z0 : w2.cell? ⟨b, off, none⟩ = some (.int .i64 y.v.house) := (hb2.cell (p := ⟨b, off, none⟩) (by simp; omega)).trans (by simp [go_sem, hb1, y0])
        have HB2 := Lib.hid (show Below w.heap.size w w2 from (HW.out.alloc hw1 _).trans (hb2.mono (by simp; omega)))
        clear hb2
        go_wp2_with fail
        go_quiet (fail)
        go_wp2_with fail
        go_roundw
        case rel => exact ⟨k + 1, by omega, by rw [HNX.out], by go_num, HAN.out, below_dn HB2.out _⟩
        case measure => simp [intOf]; omega
    · obtain rfl : k = l.length := by omega
      have HF := Lib.hid (show q = 0 by rw [← HQ.out, asc_yes (fun i hi x hx => HA.out i (by simpa using hi) x hx)]; rfl)
      go_wp2_with fail
      go_ret
      exact ⟨retN_int HF.out.symm, HW.out⟩

/-! ### gossip.past -/
theorem pre_le {l : List NoteV} {n : Nat} (h : Pre l n) (hr : ∀ x ∈ l, rightN x = true) : n ≤ 400 := by
  rcases Nat.eq_zero_or_pos n with e | e
  · omega
  · have hk : n - 1 < l.length := by have := h.1; omega
    have h1 := (h.2 (n - 1) l[n - 1] (by omega) (List.getElem?_eq_getElem hk)).1
    have h2 := (headB_iff.1 (rightN_head (hr _ (List.getElem_mem hk)))).2.1
    omega
def PastPost (rs : List NoteR) (A : Option Addr) (c : Nat) (w : World) (e : Ending) (w' : World) : Prop := e = .returned (.tuple #[.slice A (past (rs.map NoteR.v)).length c, .bool (fkB (rs.map NoteR.v) rs.length)]) ∧ Below w.heap.size w w'
/-- no good beginning is longer -/
def MaxG (l : List NoteV) (n : Nat) : Prop := ∀ m, Nt.Good l m → m ≤ n
theorem take_numbered {rs : List NoteR} {n : Nat} {h : Int} (hp : Pre (rs.map NoteR.v) n) (hr : ∀ r ∈ rs, rightN r.v = true) (hh : ∀ r ∈ rs, r.v.house = h) : Numbered (rs.take n) := fun i x hx => by
  have hi : i < n := by have := (List.getElem?_eq_some_iff.1 hx).1; rw [List.length_take] at this; omega
  rw [List.getElem?_take, if_pos hi] at hx
  refine ⟨hr x (List.mem_of_getElem? hx), (hp.2 i x.v hi (map_next hx NoteR.v)).1, fun y hy => ?_⟩
  rw [List.getElem?_take, if_pos (by omega)] at hy
  rw [hh x (List.mem_of_getElem? hx), hh y (List.mem_of_getElem? hy)]
set_option maxRecDepth 100000 in
set_option maxHeartbeats 8000000 in
theorem gossip_past (rs : List NoteR) (A : Option Addr) (c : Nat) (h : Int) (w : World) (hs : Sl noteD w Any1 A rs) (hr : ∀ r ∈ rs, rightN r.v = true) (hh : ∀ r ∈ rs, r.v.house = h) (hl : rs.length ≤ 100000) (hc : rs.length ≤ c) (hcm : c ≤ maxLen) (hne : rs ≠ []) :
    Calls Tryz.prog 68 #[.slice A rs.length c] w (PastPost rs A c w) := by
  unfold maxLen at hcm
  have hl1 : 1 ≤ rs.length := by cases rs with
    | nil => exact absurd rfl hne
    | cons x l => simp
  have hrv : ∀ x ∈ rs.map NoteR.v, rightN x = true := fun x hx => by obtain ⟨r, hr', rfl⟩ := List.mem_map.1 hx; exact hr r hr'
  have hdv : ∀ x ∈ rs.map NoteR.v, 0 ≤ x.day := fun x hx => (headB_iff.1 (rightN_head (hrv x hx))).2.2.1.1
  have HRV := Lib.hid hrv
  have HDV := Lib.hid hdv
  have HS := Lib.hid hs
  have HR := Lib.hid hr
  have HH := Lib.hid hh
  obtain ⟨b, off, hA, _, hbw, hcells⟩ := hs.1 hne
  subst hA
  have HCE := Lib.hid hcells
  have HLM := Lib.hid (show (rs.map NoteR.v).length = rs.length by simp)
  clear hrv hdv hs hr hh hcells hne
  go_enter Tryz.func68, Tryz.ntmps68
  go_wp2_with fail
  go_loop [4] (fun s4 => ∃ n : Nat, n ≤ rs.length ∧ s4 = .int .i64 (n : Int) ∧ Hid (Pre (rs.map NoteR.v) n)) (fun s4 => rs.length - (intOf s4).toNat)
  case atStart => exact ⟨0, Nat.zero_le _, rfl, Nat.zero_le _, fun i x hi => absurd hi (Nat.not_lt_zero _)⟩
  case round =>
    obtain ⟨n, hn, rfl, HP⟩ := hrel
    have fin : (n = rs.length ∨ ¬ Pre (rs.map NoteR.v) (n + 1)) → MaxG (rs.map NoteR.v) n := fun q m hm => by
      rcases q with q | q
      · have := hm.1; rw [HLM.out] at this; omega
      · rcases Nat.lt_or_ge n m with p | p
        · exact absurd (⟨by have := hm.1; omega, fun i x hi hx => hm.2.1 i x (by omega) hx⟩ : Pre (rs.map NoteR.v) (n + 1)) q
        · exact p
    have HFIN := Lib.hid fin
    clear fin
    have rest : ∀ (hmax : MaxG (rs.map NoteR.v) n), True := fun _ => trivial
    clear rest
    by_cases hlt : n < rs.length
    · have hx : rs[n]? = some rs[n] := List.getElem?_eq_getElem hlt
      generalize rs[n] = x at hx
      have c1 : w.cell? ⟨b, off + n * 5 + 1, none⟩ = some (.int .i64 x.v.no) := HCE.out n x hx 1 _ rfl
      have HX := Lib.hid hx
      clear hx
      cases hq : (x.v.no == (n : Int)) with
      | true =>
        cases hq2 : ((n : Int) + 1 == (rs.length : Int)) with
        | true =>
          have hpn : Pre (rs.map NoteR.v) (n + 1) := HP.out.next (map_next HX.out NoteR.v) (by simpa using hq) (fun y hy => by
            have := (List.getElem?_eq_some_iff.1 hy).1
            rw [HLM.out] at this
            have := beq_iff_eq.1 hq2
            omega)
          have HPN := Lib.hid hpn
          clear hpn
          go_wp2_with fail
          go_round
          case rel => exact ⟨n + 1, by omega, by go_num, HPN.out⟩
          case measure => simp [intOf]; omega
        | false =>
          have hn1 : n + 1 < rs.length := by have := beq_eq_false_iff_ne.1 hq2; omega
          have hy : rs[n + 1]? = some rs[n + 1] := List.getElem?_eq_getElem hn1
          generalize rs[n + 1] = y at hy
          have d1 : w.cell? ⟨b, off + (n + 1) * 5 + 1, none⟩ = some (.int .i64 y.v.no) := HCE.out (n + 1) y hy 1 _ rfl
          have HY := Lib.hid hy
          have i1 : ((n : Int) + 1).toNat = n + 1 := by omega
          have i2 : (n : Int) + 1 < (rs.length : Int) := by omega
          clear hy
          by_cases hg : (n : Int) < y.v.no
          · have hpn : Pre (rs.map NoteR.v) (n + 1) := HP.out.next (map_next HX.out NoteR.v) (by simpa using hq) (fun z hz => by
              rw [map_next HY.out NoteR.v] at hz
              cases hz
              exact hg)
            have HPN := Lib.hid hpn
            clear hpn
            go_wp2_with fail
            go_round
            case rel => exact ⟨n + 1, by omega, by go_num, HPN.out⟩
            case measure => simp [intOf]; omega
          · have hmax := HFIN.out (.inr fun q => hg ((q.2 n x.v (by omega) (map_next HX.out NoteR.v)).2 y.v (map_next HY.out NoteR.v)))
            have HMX := Lib.hid hmax
            clear hmax
            go_wp2_with fail
            go_loopw [5, 6] (fun s5 s6 wr => ∃ i : Nat, 1 ≤ i ∧ i ≤ rs.length ∧ s6 = .int .i64 (i : Int) ∧ s5 = .bool (fkB (rs.map NoteR.v) i) ∧ Hid (∃ m, wr = w.drewN m)) (fun _ s6 _ => rs.length - (intOf s6).toNat)
            case atStart => exact ⟨1, Nat.le_refl _, hl1, rfl, rfl, 0, rfl⟩
            case round =>
              obtain ⟨i, hi1, hil, rfl, rfl, HM⟩ := hrel
              by_cases hlt2 : i < rs.length
              · have hx2 : rs[i]? = some rs[i] := List.getElem?_eq_getElem hlt2
                have hy2 : rs[i - 1]? = some (rs[i - 1]'(by omega)) := List.getElem?_eq_getElem _
                generalize rs[i] = xx at hx2
                generalize rs[i - 1]'(by omega) = yy at hy2
                obtain ⟨m, hm⟩ := HM.out
                have g1 : wr.cell? ⟨b, off + i * 5 + 1, none⟩ = some (.int .i64 xx.v.no) := by rw [hm]; exact HCE.out i xx hx2 1 _ rfl
                have g2 : wr.cell? ⟨b, off + (i - 1) * 5 + 1, none⟩ = some (.int .i64 yy.v.no) := by rw [hm]; exact HCE.out (i - 1) yy hy2 1 _ rfl
                have HFK := Lib.hid (fk_next hi1 (map_next hx2 NoteR.v) (map_next hy2 NoteR.v))
                have HMM := Lib.hid hm
                have i1 : (0 : Int) ≤ (i : Int) - 1 := by omega
                have i2 : (i : Int) - 1 < (rs.length : Int) := by omega
                have i3 : ((i : Int) - 1).toNat = i - 1 := by omega
                have i4 : (i : Int) < (rs.length : Int) := by omega
                clear hx2 hy2 hm
                generalize hf : fkB (rs.map NoteR.v) i = f at *
                clear hf
                cases f with
                | true =>
                  go_wp2_with fail
                  go_quiet (fail)
                  go_wp2_with fail
                  go_roundw
                  case rel => exact ⟨i + 1, by omega, by omega, by go_num, by rw [HFK.out]; rfl, m + nq, by rw [HMM.out, World.drewN_drewN]⟩
                  case measure => simp [intOf]; omega
                | false =>
                  go_wp2_with fail
                  go_quiet (fail)
                  go_wp2_with fail
                  go_roundw
                  case rel => exact ⟨i + 1, by omega, by omega, by go_num, by rw [HFK.out]; rfl, m + nq, by rw [HMM.out, World.drewN_drewN]⟩
                  case measure => simp [intOf]; omega
              · obtain rfl : i = rs.length := by omega
                obtain ⟨m, hm⟩ := HM.out
                have HW0 := Lib.hid (show Below w.heap.size w wr by rw [hm]; exact below_dn (Below.refl _ _) _)
                clear hm HM
                go_wp2_with fail
                go_loopw [4] (fun s4 wr => ∃ n : Nat, n ≤ rs.length ∧ s4 = .int .i64 (n : Int) ∧ Hid (Pre (rs.map NoteR.v) n) ∧ Hid (MaxG (rs.map NoteR.v) n) ∧ Hid (Below w.heap.size w wr)) (fun s4 _ => (intOf s4).toNat)
                case atStart => exact ⟨n, hn, rfl, HP.out, HMX.out, HW0.out⟩
                case round =>
                  clear HP HMX HW0 hn
                  obtain ⟨n, hn, rfl, HP, HMX, HW⟩ := hrel
                  have hfin : Nt.Good (rs.map NoteR.v) n → (past (rs.map NoteR.v)).length = n := fun q => by
                    have h1 := past_eq HDV.out q (.inr fun q2 => by have := HMX.out _ q2; omega)
                    rw [← h1, List.length_take, HLM.out]
                    omega
                  have HFN := Lib.hid hfin
                  clear hfin
                  rcases Nat.eq_zero_or_pos n with hz | hz
                  · subst hz
                    have HE := Lib.hid (HFN.out ⟨Nat.zero_le _, fun i x hi => absurd hi (Nat.not_lt_zero _), fun i x y hi => absurd hi (Nat.not_lt_zero _)⟩)
                    go_wp2_with fail
                    go_ret2
                    exact ⟨by rw [HE.out]; rfl, HW.out⟩
                  · have hck := fun W (q : Sl noteD W Any1 (some ⟨b, off, none⟩) rs) => seal_check (rs.take n) (some ⟨b, off, none⟩) c W (q.take n) (take_numbered HP.out HR.out HH.out) (by rw [List.length_take]; have := pre_le HP.out HRV.out; omega)
                    have hln : (rs.take n).length = n := by rw [List.length_take]; omega
                    have hgi := good_iff HP.out HDV.out
                    have hnc : n ≤ c := by omega
                    rw [hln, List.map_take] at hck
                    cases ha : ascB ((rs.map NoteR.v).take n) with
                    | true =>
                      have HE := Lib.hid (HFN.out (hgi.2 ha))
                      rw [ha] at hck
                      simp only [if_true] at hck
                      have HCK := Lib.hid hck
                      clear hck hln hgi ha
                      go_wp2_with fail
                      refine (HCK.out _ (HS.out.below HW.out)).mono ?_
                      rintro e w2 ⟨rfl, hb2⟩
                      have HB2 := Lib.hid (HW.out.trans (hb2.mono HW.out.size))
                      clear hb2
                      go_wp2_with fail
                      go_ret2
                      exact ⟨by rw [HE.out]; rfl, HB2.out⟩
                    | false =>
                      have HPN := Lib.hid (show Pre (rs.map NoteR.v) (n - 1) from ⟨by have := HP.out.1; omega, fun i x hi hx => HP.out.2 i x (by omega) hx⟩)
                      have HMN := Lib.hid (show MaxG (rs.map NoteR.v) (n - 1) from fun m hm => by
                        have := HMX.out m hm
                        rcases Nat.lt_or_ge m n with q | q
                        · omega
                        · obtain rfl : m = n := by omega
                          rw [hgi.1 hm] at ha
                          cases ha)
                      rw [ha] at hck
                      simp only [Bool.false_eq_true, if_false] at hck
                      have HCK := Lib.hid hck
                      clear hck hln hgi ha
                      go_wp2_with fail
                      refine (HCK.out _ (HS.out.below HW.out)).mono ?_
                      rintro e w2 ⟨rfl, hb2⟩
                      have HB2 := Lib.hid (HW.out.trans (hb2.mono HW.out.size))
                      clear hb2
                      go_wp2_with fail
                      go_roundw
                      case rel => exact ⟨n - 1, by omega, by rw [show ((n - 1 : Nat) : Int) = (n : Int) - 1 by omega], HPN.out, HMN.out, HB2.out⟩
                      case measure => simp [intOf]; omega
      | false =>
        have hmax := HFIN.out (.inr fun q => by
          have := (q.2 n x.v (by omega) (map_next HX.out NoteR.v)).1
          rw [this] at hq
          simp at hq)
        have HMX := Lib.hid hmax
        clear hmax
        go_wp2_with fail
        go_loopw [5, 6] (fun s5 s6 wr => ∃ i : Nat, 1 ≤ i ∧ i ≤ rs.length ∧ s6 = .int .i64 (i : Int) ∧ s5 = .bool (fkB (rs.map NoteR.v) i) ∧ Hid (∃ m, wr = w.drewN m)) (fun _ s6 _ => rs.length - (intOf s6).toNat)
        case atStart => exact ⟨1, Nat.le_refl _, hl1, rfl, rfl, 0, rfl⟩
        case round =>
          obtain ⟨i, hi1, hil, rfl, rfl, HM⟩ := hrel
          by_cases hlt2 : i < rs.length
          · have hx2 : rs[i]? = some rs[i] := List.getElem?_eq_getElem hlt2
            have hy2 : rs[i - 1]? = some (rs[i - 1]'(by omega)) := List.getElem?_eq_getElem _
            generalize rs[i] = xx at hx2
            generalize rs[i - 1]'(by omega) = yy at hy2
            obtain ⟨m, hm⟩ := HM.out
            have g1 : wr.cell? ⟨b, off + i * 5 + 1, none⟩ = some (.int .i64 xx.v.no) := by rw [hm]; exact HCE.out i xx hx2 1 _ rfl
            have g2 : wr.cell? ⟨b, off + (i - 1) * 5 + 1, none⟩ = some (.int .i64 yy.v.no) := by rw [hm]; exact HCE.out (i - 1) yy hy2 1 _ rfl
            have HFK := Lib.hid (fk_next hi1 (map_next hx2 NoteR.v) (map_next hy2 NoteR.v))
            have HMM := Lib.hid hm
            have i1 : (0 : Int) ≤ (i : Int) - 1 := by omega
            have i2 : (i : Int) - 1 < (rs.length : Int) := by omega
            have i3 : ((i : Int) - 1).toNat = i - 1 := by omega
            have i4 : (i : Int) < (rs.length : Int) := by omega
            clear hx2 hy2 hm
            generalize hf : fkB (rs.map NoteR.v) i = f at *
            clear hf
            cases f with
            | true =>
              go_wp2_with fail
              go_quiet (fail)
              go_wp2_with fail
              go_roundw
              case rel => exact ⟨i + 1, by omega, by omega, by go_num, by rw [HFK.out]; rfl, m + nq, by rw [HMM.out, World.drewN_drewN]⟩
              case measure => simp [intOf]; omega
            | false =>
              go_wp2_with fail
              go_quiet (fail)
              go_wp2_with fail
              go_roundw
              case rel => exact ⟨i + 1, by omega, by omega, by go_num, by rw [HFK.out]; rfl, m + nq, by rw [HMM.out, World.drewN_drewN]⟩
              case measure => simp [intOf]; omega
          · obtain rfl : i = rs.length := by omega
            obtain ⟨m, hm⟩ := HM.out
            have HW0 := Lib.hid (show Below w.heap.size w wr by rw [hm]; exact below_dn (Below.refl _ _) _)
            clear hm HM
            go_wp2_with fail
            go_loopw [4] (fun s4 wr => ∃ n : Nat, n ≤ rs.length ∧ s4 = .int .i64 (n : Int) ∧ Hid (Pre (rs.map NoteR.v) n) ∧ Hid (MaxG (rs.map NoteR.v) n) ∧ Hid (Below w.heap.size w wr)) (fun s4 _ => (intOf s4).toNat)
            case atStart => exact ⟨n, hn, rfl, HP.out, HMX.out, HW0.out⟩
            case round =>
              clear HP HMX HW0 hn
              obtain ⟨n, hn, rfl, HP, HMX, HW⟩ := hrel
              have hfin : Nt.Good (rs.map NoteR.v) n → (past (rs.map NoteR.v)).length = n := fun q => by
                have h1 := past_eq HDV.out q (.inr fun q2 => by have := HMX.out _ q2; omega)
                rw [← h1, List.length_take, HLM.out]
                omega
              have HFN := Lib.hid hfin
              clear hfin
              rcases Nat.eq_zero_or_pos n with hz | hz
              · subst hz
                have HE := Lib.hid (HFN.out ⟨Nat.zero_le _, fun i x hi => absurd hi (Nat.not_lt_zero _), fun i x y hi => absurd hi (Nat.not_lt_zero _)⟩)
                go_wp2_with fail
                go_ret2
                exact ⟨by rw [HE.out]; rfl, HW.out⟩
              · have hck := fun W (q : Sl noteD W Any1 (some ⟨b, off, none⟩) rs) => seal_check (rs.take n) (some ⟨b, off, none⟩) c W (q.take n) (take_numbered HP.out HR.out HH.out) (by rw [List.length_take]; have := pre_le HP.out HRV.out; omega)
                have hln : (rs.take n).length = n := by rw [List.length_take]; omega
                have hgi := good_iff HP.out HDV.out
                have hnc : n ≤ c := by omega
                rw [hln, List.map_take] at hck
                cases ha : ascB ((rs.map NoteR.v).take n) with
                | true =>
                  have HE := Lib.hid (HFN.out (hgi.2 ha))
                  rw [ha] at hck
                  simp only [if_true] at hck
                  have HCK := Lib.hid hck
                  clear hck hln hgi ha
                  go_wp2_with fail
                  refine (HCK.out _ (HS.out.below HW.out)).mono ?_
                  rintro e w2 ⟨rfl, hb2⟩
                  have HB2 := Lib.hid (HW.out.trans (hb2.mono HW.out.size))
                  clear hb2
                  go_wp2_with fail
                  go_ret2
                  exact ⟨by rw [HE.out]; rfl, HB2.out⟩
                | false =>
                  have HPN := Lib.hid (show Pre (rs.map NoteR.v) (n - 1) from ⟨by have := HP.out.1; omega, fun i x hi hx => HP.out.2 i x (by omega) hx⟩)
                  have HMN := Lib.hid (show MaxG (rs.map NoteR.v) (n - 1) from fun m hm => by
                    have := HMX.out m hm
                    rcases Nat.lt_or_ge m n with q | q
                    · omega
                    · obtain rfl : m = n := by omega
                      rw [hgi.1 hm] at ha
                      cases ha)
                  rw [ha] at hck
                  simp only [Bool.false_eq_true, if_false] at hck
                  have HCK := Lib.hid hck
                  clear hck hln hgi ha
                  go_wp2_with fail
                  refine (HCK.out _ (HS.out.below HW.out)).mono ?_
                  rintro e w2 ⟨rfl, hb2⟩
                  have HB2 := Lib.hid (HW.out.trans (hb2.mono HW.out.size))
                  clear hb2
                  go_wp2_with fail
                  go_roundw
                  case rel => exact ⟨n - 1, by omega, by rw [show ((n - 1 : Nat) : Int) = (n : Int) - 1 by omega], HPN.out, HMN.out, HB2.out⟩
                  case measure => simp [intOf]; omega
    · have hmax := HFIN.out (.inl (by omega))
      have HMX := Lib.hid hmax
      clear hmax
      go_wp2_with fail
      go_loopw [5, 6] (fun s5 s6 wr => ∃ i : Nat, 1 ≤ i ∧ i ≤ rs.length ∧ s6 = .int .i64 (i : Int) ∧ s5 = .bool (fkB (rs.map NoteR.v) i) ∧ Hid (∃ m, wr = w.drewN m)) (fun _ s6 _ => rs.length - (intOf s6).toNat)
      case atStart => exact ⟨1, Nat.le_refl _, hl1, rfl, rfl, 0, rfl⟩
      case round =>
        obtain ⟨i, hi1, hil, rfl, rfl, HM⟩ := hrel
        by_cases hlt2 : i < rs.length
        · have hx2 : rs[i]? = some rs[i] := List.getElem?_eq_getElem hlt2
          have hy2 : rs[i - 1]? = some (rs[i - 1]'(by omega)) := List.getElem?_eq_getElem _
          generalize rs[i] = xx at hx2
          generalize rs[i - 1]'(by omega) = yy at hy2
          obtain ⟨m, hm⟩ := HM.out
          have g1 : wr.cell? ⟨b, off + i * 5 + 1, none⟩ = some (.int .i64 xx.v.no) := by rw [hm]; exact HCE.out i xx hx2 1 _ rfl
          have g2 : wr.cell? ⟨b, off + (i - 1) * 5 + 1, none⟩ = some (.int .i64 yy.v.no) := by rw [hm]; exact HCE.out (i - 1) yy hy2 1 _ rfl
          have HFK := Lib.hid (fk_next hi1 (map_next hx2 NoteR.v) (map_next hy2 NoteR.v))
          have HMM := Lib.hid hm
          have i1 : (0 : Int) ≤ (i : Int) - 1 := by omega
          have i2 : (i : Int) - 1 < (rs.length : Int) := by omega
          have i3 : ((i : Int) - 1).toNat = i - 1 := by omega
          have i4 : (i : Int) < (rs.length : Int) := by omega
          clear hx2 hy2 hm
          generalize hf : fkB (rs.map NoteR.v) i = f at *
          clear hf
          cases f with
          | true =>
            go_wp2_with fail
            go_quiet (fail)
            go_wp2_with fail
            go_roundw
            case rel => exact ⟨i + 1, by omega, by omega, by go_num, by rw [HFK.out]; rfl, m + nq, by rw [HMM.out, World.drewN_drewN]⟩
            case measure => simp [intOf]; omega
          | false =>
            go_wp2_with fail
            go_quiet (fail)
            go_wp2_with fail
            go_roundw
            case rel => exact ⟨i + 1, by omega, by omega, by go_num, by rw [HFK.out]; rfl, m + nq, by rw [HMM.out, World.drewN_drewN]⟩
            case measure => simp [intOf]; omega
        · obtain rfl : i = rs.length := by omega
          obtain ⟨m, hm⟩ := HM.out
          have HW0 := Lib.hid (show Below w.heap.size w wr by rw [hm]; exact below_dn (Below.refl _ _) _)
          clear hm HM
          go_wp2_with fail
          go_loopw [4] (fun s4 wr => ∃ n : Nat, n ≤ rs.length ∧ s4 = .int .i64 (n : Int) ∧ Hid (Pre (rs.map NoteR.v) n) ∧ Hid (MaxG (rs.map NoteR.v) n) ∧ Hid (Below w.heap.size w wr)) (fun s4 _ => (intOf s4).toNat)
          case atStart => exact ⟨n, hn, rfl, HP.out, HMX.out, HW0.out⟩
          case round =>
            clear HP HMX HW0 hn
            obtain ⟨n, hn, rfl, HP, HMX, HW⟩ := hrel
            have hfin : Nt.Good (rs.map NoteR.v) n → (past (rs.map NoteR.v)).length = n := fun q => by
              have h1 := past_eq HDV.out q (.inr fun q2 => by have := HMX.out _ q2; omega)
              rw [← h1, List.length_take, HLM.out]
              omega
            have HFN := Lib.hid hfin
            clear hfin
            rcases Nat.eq_zero_or_pos n with hz | hz
            · subst hz
              have HE := Lib.hid (HFN.out ⟨Nat.zero_le _, fun i x hi => absurd hi (Nat.not_lt_zero _), fun i x y hi => absurd hi (Nat.not_lt_zero _)⟩)
              go_wp2_with fail
              go_ret2
              exact ⟨by rw [HE.out]; rfl, HW.out⟩
            · have hck := fun W (q : Sl noteD W Any1 (some ⟨b, off, none⟩) rs) => seal_check (rs.take n) (some ⟨b, off, none⟩) c W (q.take n) (take_numbered HP.out HR.out HH.out) (by rw [List.length_take]; have := pre_le HP.out HRV.out; omega)
              have hln : (rs.take n).length = n := by rw [List.length_take]; omega
              have hgi := good_iff HP.out HDV.out
              have hnc : n ≤ c := by omega
              rw [hln, List.map_take] at hck
              cases ha : ascB ((rs.map NoteR.v).take n) with
              | true =>
                have HE := Lib.hid (HFN.out (hgi.2 ha))
                rw [ha] at hck
                simp only [if_true] at hck
                have HCK := Lib.hid hck
                clear hck hln hgi ha
                go_wp2_with fail
                refine (HCK.out _ (HS.out.below HW.out)).mono ?_
                rintro e w2 ⟨rfl, hb2⟩
                have HB2 := Lib.hid (HW.out.trans (hb2.mono HW.out.size))
                clear hb2
                go_wp2_with fail
                go_ret2
                exact ⟨by rw [HE.out]; rfl, HB2.out⟩
              | false =>
                have HPN := Lib.hid (show Pre (rs.map NoteR.v) (n - 1) from ⟨by have := HP.out.1; omega, fun i x hi hx => HP.out.2 i x (by omega) hx⟩)
                have HMN := Lib.hid (show MaxG (rs.map NoteR.v) (n - 1) from fun m hm => by
                  have := HMX.out m hm
                  rcases Nat.lt_or_ge m n with q | q
                  · omega
                  · obtain rfl : m = n := by omega
                    rw [hgi.1 hm] at ha
                    cases ha)
                rw [ha] at hck
                simp only [Bool.false_eq_true, if_false] at hck
                have HCK := Lib.hid hck
                clear hck hln hgi ha
                go_wp2_with fail
                refine (HCK.out _ (HS.out.below HW.out)).mono ?_
                rintro e w2 ⟨rfl, hb2⟩
                have HB2 := Lib.hid (HW.out.trans (hb2.mono HW.out.size))
                clear hb2
                go_wp2_with fail
                go_roundw
                case rel => exact ⟨n - 1, by omega, by rw [show ((n - 1 : Nat) : Int) = (n : Int) - 1 by omega], HPN.out, HMN.out, HB2.out⟩
                case measure => simp [intOf]; omega
end Go.Proofs.YtaojnjealccjiaaGreatDoor

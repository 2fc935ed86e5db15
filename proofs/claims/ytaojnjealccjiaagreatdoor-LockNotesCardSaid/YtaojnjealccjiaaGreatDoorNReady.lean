/- The contract of gossip.ready. -/
import Derived.Test.YtaojnjealccjiaaGreatDoorNFind
namespace Go.Proofs.YtaojnjealccjiaaGreatDoor
open Go Go.RowKit Nt Go.Proofs Go.Lib
set_option linter.unusedVariables false
set_option linter.unusedSimpArgs false

theorem met_iff {hs : List HouseT} (hsrt : hs.Pairwise fun a b => a.number < b.number) {i : Nat} {x : HouseT} {r : RefV} (hx : hs[i]? = some x) (hn : x.number = r.house) : Nt.Met (hs.map HouseT.s) (hs.map HouseT.taken) r ↔ r.no < (x.taken : Int) ∨ (x.forked = true ∧ (x.rs.length : Int) ≤ r.no) := by
  constructor
  · rintro ⟨j, h, t, h1, h2, h3, h4⟩
    rw [List.getElem?_map] at h1 h2
    cases hq : hs[j]? with
    | none => rw [hq] at h1; cases h1
    | some y =>
      rw [hq] at h1 h2
      cases h1
      cases h2
      have hij : i = j := by
        obtain ⟨hi, rfl⟩ := List.getElem?_eq_some_iff.1 hx
        obtain ⟨hj, rfl⟩ := List.getElem?_eq_some_iff.1 hq
        rw [List.pairwise_iff_getElem] at hsrt
        have e : hs[i].number = hs[j].number := hn.trans h3.symm
        rcases Nat.lt_trichotomy i j with q | q | q
        · have := hsrt i j hi hj q; omega
        · exact q
        · have := hsrt j i hj hi q; omega
      subst hij
      rw [hx] at hq
      cases hq
      rcases h4 with h4 | ⟨h4, h5⟩
      · exact .inl h4
      · exact .inr ⟨h4, by simpa [HouseT.s] using h5⟩
  · intro h
    refine ⟨i, x.s, x.taken, by rw [List.getElem?_map, hx]; rfl, by rw [List.getElem?_map, hx]; rfl, hn, ?_⟩
    rcases h with h | ⟨h1, h2⟩
    · exact .inl h
    · exact .inr ⟨h1, by simpa [HouseT.s] using h2⟩
theorem met_none {hs : List HouseT} {r : RefV} (h : ∀ x ∈ hs, x.number ≠ r.house) : ¬ Nt.Met (hs.map HouseT.s) (hs.map HouseT.taken) r := by
  rintro ⟨j, q, t, h1, h2, h3, h4⟩
  rw [List.getElem?_map] at h1
  cases hq : hs[j]? with
  | none => rw [hq] at h1; cases h1
  | some y =>
    rw [hq] at h1
    cases h1
    exact h y (List.mem_of_getElem? hq) h3
def ReadyPost (hs : List HouseT) (v : NoteV) (w : World) (e : Ending) (w' : World) : Prop :=
  ∃ b, e = .returned (.bool b) ∧ (b = true ↔ Nt.Ready (hs.map HouseT.s) (hs.map HouseT.taken) v) ∧ Below w.heap.size w w'
set_option maxRecDepth 100000 in
set_option maxHeartbeats 4000000 in
theorem gossip_ready (hs : List HouseT) (A : Option Addr) (c : Nat) (v : NoteV) (An : Option Addr) (cn : Nat) (w : World) (h : Sl houseD w Any1 A hs) (hsrt : hs.Pairwise fun a b => a.number < b.number) (hl : hs.length ≤ 100000) (hn : Sl refD w Any1 An v.needs) (hnl : v.needs.length ≤ 100000) :
    Calls Tryz.prog 67 #[.slice A hs.length c, .agg #[.int .i64 v.house, .int .i64 v.no, .int .i64 v.day, .slice An v.needs.length cn, .string v.text]] w (ReadyPost hs v w) := by
  have H := Lib.hid h
  have HS := Lib.hid hsrt
  have HNd := Lib.hid hn
  have hfi := fun (n : Int) W (q : Sl houseD W Any1 A hs) => gossip_find hs A c n W q hsrt hl
  have HFI := Lib.hid hfi
  clear h hsrt hn hfi
  go_enter Tryz.func67, Tryz.ntmps67
  go_wp2_with fail
  go_loopw [12] (fun u wr => ∃ k : Nat, k ≤ v.needs.length ∧ u = .int .i64 (k : Int) ∧ Hid (∀ (i : Nat) (r : RefV), i < k → v.needs[i]? = some r → Nt.Met (hs.map HouseT.s) (hs.map HouseT.taken) r) ∧ Hid (Below w.heap.size w wr)) (fun u _ => v.needs.length - (intOf u).toNat)
  case atStart => exact ⟨0, Nat.zero_le _, rfl, fun i r hi => absurd hi (Nat.not_lt_zero _), (Below.refl _ _).alloc (Nat.le_refl _) _⟩
  case round =>
    obtain ⟨k, hk, rfl, HA, HW⟩ := hrel
    have hw1 := HW.out.size
    by_cases hlt : k < v.needs.length
    · obtain ⟨nb, noff, rfl, _, hbw, _, hcl⟩ := (HNd.out.below HW.out).get hlt
      have hx : v.needs[k]? = some v.needs[k] := List.getElem?_eq_getElem hlt
      generalize v.needs[k] = r at hx hcl
      have c0 : wr.cell? ⟨nb, noff + k * 2, none⟩ = some (.int .i64 r.house) := hcl 0 _ rfl
      have c1 : wr.cell? ⟨nb, noff + k * 2 + 1, none⟩ = some (.int .i64 r.no) := hcl 1 _ rfl
      have HRM := Lib.hid (List.mem_of_getElem? hx)
      have HNX := Lib.hid (show Nt.Met (hs.map HouseT.s) (hs.map HouseT.taken) r → ∀ (i : Nat) (z : RefV), i < k + 1 → v.needs[i]? = some z → Nt.Met (hs.map HouseT.s) (hs.map HouseT.taken) z from fun q i z hi hz => by
        rcases Nat.lt_or_ge i k with p | p
        · exact HA.out i z p hz
        · obtain rfl : i = k := by omega
          rw [hx] at hz
          cases hz
          exact q)
      clear hx hcl
      go_wp2_with fail
      refine (HFI.out r.house _ ((H.out.below HW.out).below ((Below.refl _ _).alloc (Nat.le_refl _) _))).mono ?_
      rintro e w2 ⟨i, b, rfl, h1, h2, hb2⟩
      have d0 : w2.cell? ⟨wr.heap.size, 0, none⟩ = some (.int .i64 r.house) := (hb2.cell (p := ⟨wr.heap.size, 0, none⟩) (by simp)).trans (by simp [go_sem])
      have d1 : w2.cell? ⟨wr.heap.size, 1, none⟩ = some (.int .i64 r.no) := (hb2.cell (p := ⟨wr.heap.size, 1, none⟩) (by simp)).trans (by simp [go_sem])
      have HB2 := Lib.hid (show Below w.heap.size w w2 from (HW.out.alloc hw1 _).trans (hb2.mono (by simp; omega)))
      clear hb2
      cases b with
      | false =>
        have HNM := Lib.hid (met_none (h2 rfl))
        clear h1 h2
        go_wp2_with fail
        go_quiet (fail)
        go_wp2_with fail
        go_ret
        exact ⟨false, rfl, ⟨fun q => (by cases q), fun q => absurd (q r HRM.out) HNM.out⟩, below_dn HB2.out _⟩
      | true =>
        obtain ⟨x, hx, hnum⟩ := h1 rfl
        have hil : i < hs.length := (List.getElem?_eq_some_iff.1 hx).1
        have hmi := met_iff HS.out hx hnum
        obtain ⟨hb, hoff, rfl, _, hhb, _, hcl⟩ := (H.out.below HB2.out).get hil
        have hxe : hs[i] = x := (List.getElem?_eq_some_iff.1 hx).2
        rw [hxe] at hcl
        have g0 : w2.cell? ⟨hb, hoff + i * 4, none⟩ = some (.int .i64 x.number) := hcl 0 _ rfl
        have g1 : w2.cell? ⟨hb, hoff + i * 4 + 1, none⟩ = some (.slice x.A x.rs.length x.c) := hcl 1 _ rfl
        have g2 : w2.cell? ⟨hb, hoff + i * 4 + 2, none⟩ = some (.bool x.forked) := hcl 2 _ rfl
        have g3 : w2.cell? ⟨hb, hoff + i * 4 + 3, none⟩ = some (.int .i64 (x.taken : Int)) := hcl 3 _ rfl
        have i4 : (i : Int) < (hs.length : Int) := by omega
        have HMI := Lib.hid hmi
        clear h1 h2 hx hnum hcl hxe hmi
        by_cases ht : r.no < (x.taken : Int)
        · have HMET := Lib.hid (HMI.out.2 (.inl ht))
          have hdt : decide ((x.taken : Int) ≤ r.no) = false := by simp; omega
          go_wp2_with fail
          go_quiet (fail)
          go_wp2_with fail
          go_roundw
          case rel => exact ⟨k + 1, by omega, by go_num, HNX.out HMET.out, below_dn HB2.out _⟩
          case measure => simp [intOf]; omega
        · have hdt : decide ((x.taken : Int) ≤ r.no) = true := by simp; omega
          cases hf : x.forked with
          | false =>
            rw [hf] at g2
            have HNM := Lib.hid (show ¬ Nt.Met (hs.map HouseT.s) (hs.map HouseT.taken) r from fun q => by
              rcases HMI.out.1 q with p | ⟨p, _⟩
              · exact ht p
              · rw [hf] at p; cases p)
            clear hf
            go_wp2_with fail
            go_quiet (fail)
            go_wp2_with fail
            go_ret
            exact ⟨false, rfl, ⟨fun q => (by cases q), fun q => absurd (q r HRM.out) HNM.out⟩, below_dn HB2.out _⟩
          | true =>
            rw [hf] at g2
            by_cases hp : (x.rs.length : Int) ≤ r.no
            · have HMET := Lib.hid (HMI.out.2 (.inr ⟨hf, hp⟩))
              have hdp : decide ((x.rs.length : Int) ≤ r.no) = true := by simp; omega
              clear hf
              go_wp2_with fail
              go_quiet (fail)
              go_wp2_with fail
              go_roundw
              case rel => exact ⟨k + 1, by omega, by go_num, HNX.out HMET.out, below_dn HB2.out _⟩
              case measure => simp [intOf]; omega
            · have HNM := Lib.hid (show ¬ Nt.Met (hs.map HouseT.s) (hs.map HouseT.taken) r from fun q => by
                rcases HMI.out.1 q with p | ⟨_, p⟩
                · exact ht p
                · exact hp p)
              have hdp : decide ((x.rs.length : Int) ≤ r.no) = false := by simp; omega
              clear hf
              go_wp2_with fail
              go_quiet (fail)
              go_wp2_with fail
              go_ret
              exact ⟨false, rfl, ⟨fun q => (by cases q), fun q => absurd (q r HRM.out) HNM.out⟩, below_dn HB2.out _⟩
    · obtain rfl : k = v.needs.length := by omega
      have HR := Lib.hid (show Nt.Ready (hs.map HouseT.s) (hs.map HouseT.taken) v from fun r hr => by
        obtain ⟨i, hi, e⟩ := List.getElem_of_mem hr
        exact HA.out i r hi (by rw [List.getElem?_eq_getElem hi, e]))
      go_wp2_with fail
      go_ret
      exact ⟨true, rfl, ⟨fun _ => HR.out, fun _ => rfl⟩, HW.out⟩
end Go.Proofs.YtaojnjealccjiaaGreatDoor

/- The contracts of gossip.run and Order. -/
import Derived.Test.YtaojnjealccjiaaGreatDoorNRunP
namespace Go.Proofs.YtaojnjealccjiaaGreatDoor
open Go Go.RowKit Nt Go.Proofs Go.Lib
set_option linter.unusedVariables false
set_option linter.unusedSimpArgs false

/-- the notes that count came back -/
def RunPost (l : List NoteV) (w : World) (e : Ending) (w' : World) : Prop :=
  ∃ v4 A c out ys S0, e = .returned (.tuple #[v4, .slice A (out : List NoteR).length c]) ∧ Sl noteD w' Any1 A out ∧ IsJoin l ys ∧ IsHouses ys S0 ∧ Counts S0 (out.map NoteR.v) ∧ out.length ≤ l.length * l.length ∧ Below w.heap.size w w'
def OrderPost (l : List NoteV) (w : World) (e : Ending) (w' : World) : Prop :=
  ∃ A c out ys S0, e = .returned (.slice A (out : List NoteR).length c) ∧ Sl noteD w' Any1 A out ∧ IsJoin l ys ∧ IsHouses ys S0 ∧ Counts S0 (out.map NoteR.v) ∧ out.length ≤ l.length * l.length ∧ Below w.heap.size w w'
set_option maxRecDepth 100000 in
set_option maxHeartbeats 16000000 in
theorem gossip_run (l : List NoteR) (A : Option Addr) (c : Nat) {B : Nat} (w : World) (ht : Tab B w) (hB : B ≤ w.heap.size) (h : Sl noteD w Any1 A l) (hsm : ∀ r ∈ l, SmN r.v) (hl : l.length ≤ 1000) :
    Calls Tryz.prog 39 #[.slice A l.length c] w (RunPost (l.map NoteR.v) w) := by
  have HH := Lib.hid (gossip_houses l A c w ht hB h hsm (by omega))
  clear ht h hsm hB B
  go_enter Tryz.func39, Tryz.ntmps39
  go_wp2_with fail
  refine HH.out.mono ?_
  rintro e w2 ⟨A4, c4, hs0, ys, rfl, hown, hj, hih, h3, hle, hb2⟩
  obtain ⟨g, hat0, hg0⟩ := HsAt.of_own hown
  obtain ⟨o, ho⟩ : ∃ o, o = 0 := ⟨_, rfl⟩
  rw [← ho] at hat0
  obtain ⟨B, hBd⟩ : ∃ B, B = w2.heap.size := ⟨_, rfl⟩
  rw [← hBd] at hat0
  obtain ⟨n0, hn0⟩ : ∃ n0, n0 = hs0.length := ⟨_, rfl⟩
  have hyl : ys.length ≤ l.length := by have := join_len hj; rwa [List.length_map] at this
  have hll : hs0.length ≤ l.length := by rwa [List.length_map] at hle
  have hrl0 : ∀ x ∈ hs0, x.rs.length ≤ l.length := fun x hx => by
    have := house_len hih (List.mem_map_of_mem hx)
    have e : x.s.past.length = x.rs.length := by simp [HouseT.s]
    omega
  have hleft : left hs0 ≤ l.length * l.length := Nat.le_trans (left_le hrl0) (Nat.mul_le_mul_right _ hll)
  have hsq : l.length * l.length ≤ 1000000 := Nat.mul_le_mul hl hl
  obtain ⟨N, hN⟩ : ∃ N, N = l.length * l.length := ⟨_, rfl⟩
  rw [← hN] at hleft hsq
  have HN := Lib.hid hN
  have HST := Lib.hid (show (hs0.map HouseT.s).Pairwise fun a b => a.number < b.number from hih.1)
  have HRL := Lib.hid (show ∀ (hs : List HouseT), hs.map HouseT.s = hs0.map HouseT.s → hs.length = n0 ∧ (hs.Pairwise fun a b => a.number < b.number) ∧ ∀ x ∈ hs, x.rs.length ≤ 1000 from fun hs e => by
    refine ⟨by have := congrArg List.length e; simpa [hn0] using this, ?_, fun x hx => ?_⟩
    · have q := HST.out
      rw [← e, List.pairwise_map] at q
      exact q
    · have : x.s ∈ hs0.map HouseT.s := by rw [← e]; exact List.mem_map_of_mem hx
      have := house_len hih this
      have e2 : x.s.past.length = x.rs.length := by simp [HouseT.s]
      omega)
  have HG := Lib.hid (show ∀ (hs : List HouseT), hs.map HouseT.s = hs0.map HouseT.s → hs ≠ [] → w.heap.size ≤ g from fun hs e hne => hg0 fun q => hne (by rw [q] at e; simpa using e))
  have HS0 := Lib.hid (show RunAt (hs0.map HouseT.s) g o B N A4 w w2 (.slice none 0 0) hs0 [] from ⟨rfl, hat0, OwnS.nil_, by
      have e : hs0.map HouseT.taken = List.replicate (hs0.map HouseT.s).length 0 := by
        refine List.eq_replicate_iff.2 ⟨by simp, fun t ht => ?_⟩
        obtain ⟨q, hq, rfl⟩ := List.mem_map.1 ht
        exact (h3 q hq).1
      rw [e]
      exact Runs.start, by simpa using hleft, fun h hh => (h3 h hh).2, hb2⟩)
  have hn1 : n0 ≤ 1000 := by omega
  rw [← hn0]
  have HJ := Lib.hid hj
  have HIH := Lib.hid hih
  have hBw : w.heap.size ≤ B := by rw [hBd]; exact hb2.size
  clear hown hj hih h3 hle hb2 hat0 hg0 hyl hll hrl0 hBd hn0 ho hN HST
  generalize hs0.map HouseT.s = S0 at *
  generalize hk0 : left hs0 = K0 at hleft
  go_wp2_with fail
  go_loopg [5] K0 (fun kx s5 wr => ∃ (hs : List HouseT) (out : List NoteR), left hs ≤ kx ∧ Hid (RunAt S0 g o B N A4 w wr s5 hs out))
  case atStart => exact ⟨hs0, [], by omega, HS0.out⟩
  case round =>
    obtain ⟨hs, out, hlk, HRA⟩ := hrel
    obtain ⟨hS, hat, hown, hruns, hN2, hright, hbw⟩ := HRA.out
    obtain ⟨hlen, hsrt, hrl⟩ := HRL.out hs hS
    have HSS := Lib.hid hS
    have HAT := Lib.hid hat
    have HOW := Lib.hid hown
    have HRN := Lib.hid hruns
    have HRI := Lib.hid hright
    have HBW := Lib.hid hbw
    have HSRT := Lib.hid hsrt
    have HRLN := Lib.hid hrl
    have HLN := Lib.hid hlen
    have hBr : B ≤ wr.heap.size := hat.2.2
    clear HRA hS hat hown hruns hright hbw hsrt hrl hlen
    go_wp2_with fail
    obtain ⟨wo, hwo⟩ : ∃ wo : World, wo = wr := ⟨_, rfl⟩
    rw [← hwo] at HAT HOW HBW hBr
    go_loopw [6, 13] (fun s6 s13 wr => ∃ (k : Nat) (best : Int), k ≤ n0 ∧ s13 = .int .i64 (k : Int) ∧ s6 = .int .i64 best ∧ Hid (BestAt hs k best) ∧ Hid (Below wo.heap.size wo wr)) (fun _ s13 _ => n0 - (intOf s13).toNat)
    case atStart => exact ⟨0, -1, Nat.zero_le _, rfl, rfl, .inl ⟨rfl, fun j x r hj => absurd hj (Nat.not_lt_zero _)⟩, by rw [hwo]; exact Below.refl _ _⟩
    case round =>
      obtain ⟨k, best, hk, rfl, rfl, HBE, HW⟩ := hrel
      have hw1 := HW.out.size
      have HATR := Lib.hid (HAT.out.below (HW.out.mono hBr))
      by_cases hlt : k < n0
      · have hlt' : k < hs.length := by rw [HLN.out]; exact hlt
        have hx : hs[k]? = some hs[k] := List.getElem?_eq_getElem hlt'
        generalize hs[k] = x at hx
        have HX := Lib.hid hx
        have hxm : x ∈ hs := List.mem_of_getElem? hx
        obtain ⟨rfl, hgB, hcl⟩ := HATR.out.1 (fun e => by rw [e] at hlt'; simp at hlt')
        have hxl := HRLN.out x hxm
        have HXS := Lib.hid (HATR.out.2.1 x hxm)
        have HXR := Lib.hid (HRI.out x hxm)
        have c0 : wr.cell? ⟨g, o + k * 4, none⟩ = some (.int .i64 x.number) := (hcl k x hx 0 _ rfl).1
        have c1 : wr.cell? ⟨g, o + k * 4 + 1, none⟩ = some (.slice x.A x.rs.length x.c) := (hcl k x hx 1 _ rfl).1
        have c2 : wr.cell? ⟨g, o + k * 4 + 2, none⟩ = some (.bool x.forked) := (hcl k x hx 2 _ rfl).1
        have c3 : wr.cell? ⟨g, o + k * 4 + 3, none⟩ = some (.int .i64 (x.taken : Int)) := (hcl k x hx 3 _ rfl).1
        clear hx hcl hxm hlt'
        by_cases htk : x.taken < x.rs.length
        · obtain ⟨nb, noff, hxA, _, hnbw, hrok, hncl⟩ := HXS.out.get htk
          have hr : x.rs[x.taken]? = some x.rs[x.taken] := List.getElem?_eq_getElem htk
          generalize x.rs[x.taken] = r at hr hrok hncl
          have HRX := Lib.hid hr
          have HNN := Lib.hid (show Sl refD wr Any1 r.A r.v.needs from hrok.all)
          have hnl : r.v.needs.length ≤ 40 := by
            have := rightN_head (HXR.out r (List.mem_of_getElem? hr))
            rw [headB_iff] at this
            omega
          have HNC := Lib.hid (show wr.cell? ⟨nb, noff + x.taken * 5, none⟩ = some (.int .i64 r.v.house) ∧ wr.cell? ⟨nb, noff + x.taken * 5 + 1, none⟩ = some (.int .i64 r.v.no) ∧ wr.cell? ⟨nb, noff + x.taken * 5 + 2, none⟩ = some (.int .i64 r.v.day) ∧ wr.cell? ⟨nb, noff + x.taken * 5 + 3, none⟩ = some (.slice r.A r.v.needs.length r.c) ∧ wr.cell? ⟨nb, noff + x.taken * 5 + 4, none⟩ = some (.string r.v.text) from ⟨hncl 0 _ rfl, hncl 1 _ rfl, hncl 2 _ rfl, hncl 3 _ rfl, hncl 4 _ rfl⟩)
          rw [hxA] at c1
          clear hr hrok hncl HXS HXR
          go_wp2_with fail
          generalize hW : wr.alloc (.cells #[.int .i64 x.number, .slice (some ⟨nb, noff, none⟩) x.rs.length x.c, .bool x.forked, .int .i64 (x.taken : Int)] 79) = W
          obtain ⟨wz, hwz⟩ : ∃ wz, wz = wr.heap.size := ⟨_, rfl⟩
          rw [← hwz]
          have hzW : wr.heap.size < W.heap.size := by rw [← hW]; simp
          have hbW : Below wr.heap.size wr W := by rw [← hW]; exact (Below.refl _ wr).alloc (Nat.le_refl _) _
          have HWW := Lib.hid (show Below wo.heap.size wo W from HW.out.trans (hbW.mono hw1))
          have hww : wo.heap.size ≤ W.heap.size := by omega
          have HPB := Lib.hid (show W.cell? ⟨wz, 0, none⟩ = some (.int .i64 x.number) ∧ W.cell? ⟨wz, 1, none⟩ = some (.slice (some ⟨nb, noff, none⟩) x.rs.length x.c) ∧ W.cell? ⟨wz, 2, none⟩ = some (.bool x.forked) ∧ W.cell? ⟨wz, 3, none⟩ = some (.int .i64 (x.taken : Int)) ∧ W.cell? ⟨nb, noff + x.taken * 5, none⟩ = some (.int .i64 r.v.house) ∧ W.cell? ⟨nb, noff + x.taken * 5 + 1, none⟩ = some (.int .i64 r.v.no) ∧ W.cell? ⟨nb, noff + x.taken * 5 + 2, none⟩ = some (.int .i64 r.v.day) ∧ W.cell? ⟨nb, noff + x.taken * 5 + 3, none⟩ = some (.slice r.A r.v.needs.length r.c) ∧ W.cell? ⟨nb, noff + x.taken * 5 + 4, none⟩ = some (.string r.v.text) from by
            obtain ⟨a0, a1, a2, a3, a4⟩ := HNC.out
            refine ⟨?_, ?_, ?_, ?_, (hbW.cell (p := ⟨nb, noff + x.taken * 5, none⟩) hnbw).trans a0, (hbW.cell (p := ⟨nb, noff + x.taken * 5 + 1, none⟩) hnbw).trans a1, (hbW.cell (p := ⟨nb, noff + x.taken * 5 + 2, none⟩) hnbw).trans a2, (hbW.cell (p := ⟨nb, noff + x.taken * 5 + 3, none⟩) hnbw).trans a3, (hbW.cell (p := ⟨nb, noff + x.taken * 5 + 4, none⟩) hnbw).trans a4⟩ <;> (rw [← hW, hwz]; simp [go_sem]))
          have HSLH := Lib.hid (show Sl houseD W Any1 (some ⟨g, o, none⟩) hs from (HATR.out.below (hbW.mono (Nat.le_trans hBr hw1))).sl)
          have HRD := Lib.hid (show ∀ W' : World, Below W.heap.size W W' → Calls Tryz.prog 67 #[.slice (some ⟨g, o, none⟩) n0 c4, .agg #[.int .i64 r.v.house, .int .i64 r.v.no, .int .i64 r.v.day, .slice r.A r.v.needs.length r.c, .string r.v.text]] W' (ReadyPost hs r.v W') from fun W' q => by
            have := gossip_ready hs (some ⟨g, o, none⟩) c4 r.v r.A r.c W' (HSLH.out.below q) HSRT.out (by rw [HLN.out]; omega) ((HNN.out.below hbW).below q) (by omega)
            rw [HLN.out] at this
            exact this)
          clear hW c0 c1 c2 c3
          have hbz : Below (wz + 1) W W := Below.refl _ _
          have hwzW : wz < W.heap.size := by rw [hwz]; exact hzW
          have hnbW : nb < W.heap.size := by omega
          have hgW : g < W.heap.size := by omega
          clear hwz
          have ht1 : (x.taken : Int) < (x.rs.length : Int) := by omega
          have htd : decide ((x.taken : Int) < (x.rs.length : Int)) = true := by simp; omega
          rcases HBE.out with ⟨rfl, hbn⟩ | ⟨bi, y, z, rfl, hy, hz, hrdy⟩
          · have HALL := Lib.hid (show ∀ W' : World, Below W.heap.size W W' → W'.cell? ⟨wz, 0, none⟩ = some (.int .i64 x.number) ∧ W'.cell? ⟨wz, 1, none⟩ = some (.slice (some ⟨nb, noff, none⟩) x.rs.length x.c) ∧ W'.cell? ⟨wz, 2, none⟩ = some (.bool x.forked) ∧ W'.cell? ⟨wz, 3, none⟩ = some (.int .i64 (x.taken : Int)) ∧ W'.cell? ⟨nb, noff + x.taken * 5, none⟩ = some (.int .i64 r.v.house) ∧ W'.cell? ⟨nb, noff + x.taken * 5 + 1, none⟩ = some (.int .i64 r.v.no) ∧ W'.cell? ⟨nb, noff + x.taken * 5 + 2, none⟩ = some (.int .i64 r.v.day) ∧ W'.cell? ⟨nb, noff + x.taken * 5 + 3, none⟩ = some (.slice r.A r.v.needs.length r.c) ∧ W'.cell? ⟨nb, noff + x.taken * 5 + 4, none⟩ = some (.string r.v.text) from fun W' q => by
              obtain ⟨a0, a1, a2, a3, a4, a5, a6, a7, a8⟩ := HPB.out
              exact ⟨(q.cell (p := ⟨wz, 0, none⟩) hwzW).trans a0, (q.cell (p := ⟨wz, 1, none⟩) hwzW).trans a1, (q.cell (p := ⟨wz, 2, none⟩) hwzW).trans a2, (q.cell (p := ⟨wz, 3, none⟩) hwzW).trans a3, (q.cell (p := ⟨nb, noff + x.taken * 5, none⟩) hnbW).trans a4, (q.cell (p := ⟨nb, noff + x.taken * 5 + 1, none⟩) hnbW).trans a5, (q.cell (p := ⟨nb, noff + x.taken * 5 + 2, none⟩) hnbW).trans a6, (q.cell (p := ⟨nb, noff + x.taken * 5 + 3, none⟩) hnbW).trans a7, (q.cell (p := ⟨nb, noff + x.taken * 5 + 4, none⟩) hnbW).trans a8⟩)
            obtain ⟨e0, e1, e2, e3, e4, e5, e6, e7, e8⟩ := HPB.out
            clear hbn
            refine wp_region_held_drew (S := (fun w' => w'.cell? ⟨wz, 0, none⟩ = some (.int .i64 x.number) ∧ w'.cell? ⟨wz, 1, none⟩ = some (.slice (some ⟨nb, noff, none⟩) x.rs.length x.c) ∧ w'.cell? ⟨wz, 2, none⟩ = some (.bool x.forked) ∧ w'.cell? ⟨wz, 3, none⟩ = some (.int .i64 (x.taken : Int)) ∧ w'.cell? ⟨nb, noff + x.taken * 5, none⟩ = some (.int .i64 r.v.house) ∧ w'.cell? ⟨nb, noff + x.taken * 5 + 1, none⟩ = some (.int .i64 r.v.no) ∧ w'.cell? ⟨nb, noff + x.taken * 5 + 2, none⟩ = some (.int .i64 r.v.day) ∧ w'.cell? ⟨nb, noff + x.taken * 5 + 3, none⟩ = some (.slice r.A r.v.needs.length r.c) ∧ w'.cell? ⟨nb, noff + x.taken * 5 + 4, none⟩ = some (.string r.v.text))) (by kernel_rfl) (⟨e0, e1, e2, e3, e4, e5, e6, e7, e8⟩) (fun hHeld => ?_)
            refine wpAnyH_take (i := 0) (oi := ⟨some 18, _, _, _, _, _⟩) (v := ?_) rfl (by kernel_rfl) (by kernel_rfl) (by kernel_rfl) (fun _ _ _ h => h) (Or.inl ⟨by kernel_rfl, ?_⟩) (by assumption) ?_
            rotate_left
            · (intro wq hSw; (try dsimp only at hSw); first | (go_simp; done) | (go_simp; with_reducible rfl))
            try simp only [Act.put, List.setIfInBounds_toArray, List.set_cons_zero, List.set_cons_succ]
            refine wpAnyH_take (i := 1) (oi := ⟨some 19, _, _, _, _, _⟩) (v := ?_) rfl (by kernel_rfl) (by kernel_rfl) (by kernel_rfl) (fun _ _ _ h => h) (Or.inl ⟨by kernel_rfl, ?_⟩) (by assumption) ?_
            rotate_left
            · (intro wq hSw; (try dsimp only at hSw); first | (go_simp; done) | (go_simp; with_reducible rfl))
            try simp only [Act.put, List.setIfInBounds_toArray, List.set_cons_zero, List.set_cons_succ]
            refine wpAnyH_take (i := 2) (oi := ⟨some 20, _, _, _, _, _⟩) (v := ?_) rfl (by kernel_rfl) (by kernel_rfl) (by kernel_rfl) (fun _ _ _ h => h) (Or.inl ⟨by kernel_rfl, ?_⟩) (by assumption) ?_
            rotate_left
            · (intro wq hSw; (try dsimp only at hSw); first | (go_simp; done) | (go_simp; with_reducible rfl))
            try simp only [Act.put, List.setIfInBounds_toArray, List.set_cons_zero, List.set_cons_succ]
            refine wpAnyH_take (i := 3) (oi := ⟨some 21, _, _, _, _, _⟩) (v := ?_) rfl (by kernel_rfl) (by kernel_rfl) (by kernel_rfl) (fun _ _ _ h => h) (Or.inl ⟨by kernel_rfl, ?_⟩) (by assumption) ?_
            rotate_left
            · (intro wq hSw; (try dsimp only at hSw); first | (go_simp; done) | (go_simp; with_reducible rfl))
            try simp only [Act.put, List.setIfInBounds_toArray, List.set_cons_zero, List.set_cons_succ]
            refine wpAnyH_take (i := 4) (oi := ⟨some 22, _, _, _, _, _⟩) (v := ?_) rfl (by kernel_rfl) (by kernel_rfl) (by kernel_rfl) (fun _ _ _ h => h) (Or.inl ⟨by kernel_rfl, ?_⟩) (by assumption) ?_
            rotate_left
            · (intro wq hSw; (try dsimp only at hSw); first | (go_simp; done) | (go_simp; with_reducible rfl))
            try simp only [Act.put, List.setIfInBounds_toArray, List.set_cons_zero, List.set_cons_succ]
            refine wpAnyH_take (i := 5) (oi := ⟨some 23, _, _, _, _, _⟩) (v := ?_) rfl (by kernel_rfl) (by kernel_rfl) (by kernel_rfl) (fun _ _ _ h => h) (Or.inl ⟨by kernel_rfl, ?_⟩) (by assumption) ?_
            rotate_left
            · (intro wq hSw; (try dsimp only at hSw); first | (go_simp; done) | (go_simp; with_reducible rfl))
            try simp only [Act.put, List.setIfInBounds_toArray, List.set_cons_zero, List.set_cons_succ]
            refine wpAnyH_take (i := 6) (oi := ⟨some 24, _, _, _, _, _⟩) (v := ?_) rfl (by kernel_rfl) (by kernel_rfl) (by kernel_rfl) (fun _ _ _ h => h) (Or.inl ⟨by kernel_rfl, ?_⟩) (by assumption) ?_
            rotate_left
            · (intro wq hSw; (try dsimp only at hSw); first | (go_simp; done) | (go_simp; with_reducible rfl))
            try simp only [Act.put, List.setIfInBounds_toArray, List.set_cons_zero, List.set_cons_succ]
            refine wpAnyH_take (i := 7) (oi := ⟨some 25, _, _, _, _, _⟩) (v := ?_) rfl (by kernel_rfl) (by kernel_rfl) (by kernel_rfl) (fun _ _ _ h => h) (Or.inl ⟨by kernel_rfl, ?_⟩) (by assumption) ?_
            rotate_left
            · (intro wq hSw; (try dsimp only at hSw); first | (go_simp; done) | (go_simp; with_reducible rfl))
            try simp only [Act.put, List.setIfInBounds_toArray, List.set_cons_zero, List.set_cons_succ]
            refine wpAnyH_take (i := 8) (oi := ⟨some 26, _, _, _, _, _⟩) (v := ?_) rfl (by kernel_rfl) (by kernel_rfl) (by kernel_rfl) (fun _ _ _ h => h) (Or.inl ⟨by kernel_rfl, ?_⟩) (by assumption) ?_
            rotate_left
            · (intro wq hSw; (try dsimp only at hSw); first | (go_simp; done) | (go_simp; with_reducible rfl))
            try simp only [Act.put, List.setIfInBounds_toArray, List.set_cons_zero, List.set_cons_succ]
            refine wpAnyH_take (i := 9) (oi := ⟨some 27, _, _, _, _, _⟩) (v := ?_) rfl (by kernel_rfl) (by kernel_rfl) (by kernel_rfl) (fun _ _ _ h => h) (Or.inl ⟨by kernel_rfl, ?_⟩) (by assumption) ?_
            rotate_left
            · (intro wq hSw; (try dsimp only at hSw); first | (go_simp; done) | (go_simp; with_reducible rfl))
            try simp only [Act.put, List.setIfInBounds_toArray, List.set_cons_zero, List.set_cons_succ]
            refine wpAnyH_take (i := 10) (oi := ⟨some 28, _, _, _, _, _⟩) (v := undef) rfl (by kernel_rfl) (by kernel_rfl) (by kernel_rfl) (fun _ _ _ h => h) (Or.inr ⟨by kernel_rfl, rfl⟩) (by assumption) ?_
            try simp only [Act.put, List.setIfInBounds_toArray, List.set_cons_zero, List.set_cons_succ]
            refine wpAnyH_take (i := 11) (oi := ⟨some 29, _, _, _, _, _⟩) (v := undef) rfl (by kernel_rfl) (by kernel_rfl) (by kernel_rfl) (fun _ _ _ h => h) (Or.inr ⟨by kernel_rfl, rfl⟩) (by assumption) ?_
            try simp only [Act.put, List.setIfInBounds_toArray, List.set_cons_zero, List.set_cons_succ]
            refine wpAnyH_take (i := 12) (oi := ⟨some 30, _, _, _, _, _⟩) (v := undef) rfl (by kernel_rfl) (by kernel_rfl) (by kernel_rfl) (fun _ _ _ h => h) (Or.inr ⟨by kernel_rfl, rfl⟩) (by assumption) ?_
            try simp only [Act.put, List.setIfInBounds_toArray, List.set_cons_zero, List.set_cons_succ]
            refine wpAnyH_take (i := 13) (oi := ⟨some 31, _, _, _, _, _⟩) (v := undef) rfl (by kernel_rfl) (by kernel_rfl) (by kernel_rfl) (fun _ _ _ h => h) (Or.inr ⟨by kernel_rfl, rfl⟩) (by assumption) ?_
            try simp only [Act.put, List.setIfInBounds_toArray, List.set_cons_zero, List.set_cons_succ]
            refine wpAnyH_take (i := 14) (oi := ⟨some 32, _, _, _, _, _⟩) (v := undef) rfl (by kernel_rfl) (by kernel_rfl) (by kernel_rfl) (fun _ _ _ h => h) (Or.inr ⟨by kernel_rfl, rfl⟩) (by assumption) ?_
            try simp only [Act.put, List.setIfInBounds_toArray, List.set_cons_zero, List.set_cons_succ]
            refine wpAnyH_take (i := 15) (oi := ⟨some 33, _, _, _, _, _⟩) (v := undef) rfl (by kernel_rfl) (by kernel_rfl) (by kernel_rfl) (fun _ _ _ h => h) (Or.inr ⟨by kernel_rfl, rfl⟩) (by assumption) ?_
            try simp only [Act.put, List.setIfInBounds_toArray, List.set_cons_zero, List.set_cons_succ]
            refine wpAnyH_take (i := 16) (oi := ⟨some 34, _, _, _, _, _⟩) (v := undef) rfl (by kernel_rfl) (by kernel_rfl) (by kernel_rfl) (fun _ _ _ h => h) (Or.inr ⟨by kernel_rfl, rfl⟩) (by assumption) ?_
            try simp only [Act.put, List.setIfInBounds_toArray, List.set_cons_zero, List.set_cons_succ]
            refine wpAnyH_take (i := 17) (oi := ⟨some 35, _, _, _, _, _⟩) (v := undef) rfl (by kernel_rfl) (by kernel_rfl) (by kernel_rfl) (fun _ _ _ h => h) (Or.inr ⟨by kernel_rfl, rfl⟩) (by assumption) ?_
            try simp only [Act.put, List.setIfInBounds_toArray, List.set_cons_zero, List.set_cons_succ]
            refine wpAnyH_take (i := 18) (oi := ⟨some 36, _, _, _, _, _⟩) (v := undef) rfl (by kernel_rfl) (by kernel_rfl) (by kernel_rfl) (fun _ _ _ h => h) (Or.inr ⟨by kernel_rfl, rfl⟩) (by assumption) ?_
            try simp only [Act.put, List.setIfInBounds_toArray, List.set_cons_zero, List.set_cons_succ]
            refine wpAnyH_take (i := 19) (oi := ⟨some 37, _, _, _, _, _⟩) (v := undef) rfl (by kernel_rfl) (by kernel_rfl) (by kernel_rfl) (fun _ _ _ h => h) (Or.inr ⟨by kernel_rfl, rfl⟩) (by assumption) ?_
            try simp only [Act.put, List.setIfInBounds_toArray, List.set_cons_zero, List.set_cons_succ]
            refine wpAnyH_take (i := 20) (oi := ⟨some 38, _, _, _, _, _⟩) (v := undef) rfl (by kernel_rfl) (by kernel_rfl) (by kernel_rfl) (fun _ _ _ h => h) (Or.inr ⟨by kernel_rfl, rfl⟩) (by assumption) ?_
            try simp only [Act.put, List.setIfInBounds_toArray, List.set_cons_zero, List.set_cons_succ]
            refine wpAnyH_take (i := 21) (oi := ⟨some 39, _, _, _, _, _⟩) (v := undef) rfl (by kernel_rfl) (by kernel_rfl) (by kernel_rfl) (fun _ _ _ h => h) (Or.inr ⟨by kernel_rfl, rfl⟩) (by assumption) ?_
            try simp only [Act.put, List.setIfInBounds_toArray, List.set_cons_zero, List.set_cons_succ]
            refine wpAnyH_take (i := 22) (oi := ⟨some 40, _, _, _, _, _⟩) (v := undef) rfl (by kernel_rfl) (by kernel_rfl) (by kernel_rfl) (fun _ _ _ h => h) (Or.inr ⟨by kernel_rfl, rfl⟩) (by assumption) ?_
            try simp only [Act.put, List.setIfInBounds_toArray, List.set_cons_zero, List.set_cons_succ]
            refine wpAnyH_take (i := 23) (oi := ⟨some 41, _, _, _, _, _⟩) (v := undef) rfl (by kernel_rfl) (by kernel_rfl) (by kernel_rfl) (fun _ _ _ h => h) (Or.inr ⟨by kernel_rfl, rfl⟩) (by assumption) ?_
            try simp only [Act.put, List.setIfInBounds_toArray, List.set_cons_zero, List.set_cons_succ]
            refine wpAnyH_take (i := 24) (oi := ⟨some 42, _, _, _, _, _⟩) (v := undef) rfl (by kernel_rfl) (by kernel_rfl) (by kernel_rfl) (fun _ _ _ h => h) (Or.inr ⟨by kernel_rfl, rfl⟩) (by assumption) ?_
            try simp only [Act.put, List.setIfInBounds_toArray, List.set_cons_zero, List.set_cons_succ]
            refine wpAnyH_take (i := 25) (oi := ⟨some 43, _, _, _, _, _⟩) (v := undef) rfl (by kernel_rfl) (by kernel_rfl) (by kernel_rfl) (fun _ _ _ h => h) (Or.inr ⟨by kernel_rfl, rfl⟩) (by assumption) ?_
            try simp only [Act.put, List.setIfInBounds_toArray, List.set_cons_zero, List.set_cons_succ]
            refine wpAnyH_take (i := 26) (oi := ⟨some 44, _, _, _, _, _⟩) (v := undef) rfl (by kernel_rfl) (by kernel_rfl) (by kernel_rfl) (fun _ _ _ h => h) (Or.inr ⟨by kernel_rfl, rfl⟩) (by assumption) ?_
            try simp only [Act.put, List.setIfInBounds_toArray, List.set_cons_zero, List.set_cons_succ]
            refine wpAnyH_take (i := 27) (oi := ⟨some 45, _, _, _, _, _⟩) (v := undef) rfl (by kernel_rfl) (by kernel_rfl) (by kernel_rfl) (fun _ _ _ h => h) (Or.inr ⟨by kernel_rfl, rfl⟩) (by assumption) ?_
            try simp only [Act.put, List.setIfInBounds_toArray, List.set_cons_zero, List.set_cons_succ]
            refine wpAnyH_take (i := 28) (oi := ⟨some 46, _, _, _, _, _⟩) (v := undef) rfl (by kernel_rfl) (by kernel_rfl) (by kernel_rfl) (fun _ _ _ h => h) (Or.inr ⟨by kernel_rfl, rfl⟩) (by assumption) ?_
            try simp only [Act.put, List.setIfInBounds_toArray, List.set_cons_zero, List.set_cons_succ]
            refine wpAnyH_take (i := 29) (oi := ⟨some 47, _, _, _, _, _⟩) (v := undef) rfl (by kernel_rfl) (by kernel_rfl) (by kernel_rfl) (fun _ _ _ h => h) (Or.inr ⟨by kernel_rfl, rfl⟩) (by assumption) ?_
            try simp only [Act.put, List.setIfInBounds_toArray, List.set_cons_zero, List.set_cons_succ]
            refine wpAnyH_take (i := 30) (oi := ⟨some 48, _, _, _, _, _⟩) (v := undef) rfl (by kernel_rfl) (by kernel_rfl) (by kernel_rfl) (fun _ _ _ h => h) (Or.inr ⟨by kernel_rfl, rfl⟩) (by assumption) ?_
            try simp only [Act.put, List.setIfInBounds_toArray, List.set_cons_zero, List.set_cons_succ]
            refine wpAnyH_take (i := 31) (oi := ⟨some 49, _, _, _, _, _⟩) (v := ?_) rfl (by kernel_rfl) (by kernel_rfl) (by kernel_rfl) (fun _ _ _ h => h) (Or.inl ⟨by kernel_rfl, ?_⟩) (by assumption) ?_
            rotate_left
            · (intro wq hSw; (try dsimp only at hSw); first | (go_simp; done) | (go_simp; with_reducible rfl))
            try simp only [Act.put, List.setIfInBounds_toArray, List.set_cons_zero, List.set_cons_succ]
            refine wpAnyH_take (i := 32) (oi := ⟨some 50, _, _, _, _, _⟩) (v := ?_) rfl (by kernel_rfl) (by kernel_rfl) (by kernel_rfl) (fun _ _ _ h => h) (Or.inl ⟨by kernel_rfl, ?_⟩) (by assumption) ?_
            rotate_left
            · (intro wq hSw; (try dsimp only at hSw); first | (go_simp; done) | (go_simp; with_reducible rfl))
            try simp only [Act.put, List.setIfInBounds_toArray, List.set_cons_zero, List.set_cons_succ]
            refine wpAnyH_take (i := 33) (oi := ⟨some 51, _, _, _, _, _⟩) (v := ?_) rfl (by kernel_rfl) (by kernel_rfl) (by kernel_rfl) (fun _ _ _ h => h) (Or.inl ⟨by kernel_rfl, ?_⟩) (by assumption) ?_
            rotate_left
            · (intro wq hSw; (try dsimp only at hSw); first | (go_simp; done) | (go_simp; with_reducible rfl))
            try simp only [Act.put, List.setIfInBounds_toArray, List.set_cons_zero, List.set_cons_succ]
            refine wpAnyH_take (i := 34) (oi := ⟨some 52, _, _, _, _, _⟩) (v := ?_) rfl (by kernel_rfl) (by kernel_rfl) (by kernel_rfl) (fun _ _ _ h => h) (Or.inl ⟨by kernel_rfl, ?_⟩) (by assumption) ?_
            rotate_left
            · (intro wq hSw; (try dsimp only at hSw); first | (go_simp; done) | (go_simp; with_reducible rfl))
            try simp only [Act.put, List.setIfInBounds_toArray, List.set_cons_zero, List.set_cons_succ]
            refine wpAnyH_take (i := 35) (oi := ⟨some 53, _, _, _, _, _⟩) (v := ?_) rfl (by kernel_rfl) (by kernel_rfl) (by kernel_rfl) (fun _ _ _ h => h) (Or.inl ⟨by kernel_rfl, ?_⟩) (by assumption) ?_
            rotate_left
            · (intro wq hSw; (try dsimp only at hSw); first | (go_simp; done) | (go_simp; with_reducible rfl))
            try simp only [Act.put, List.setIfInBounds_toArray, List.set_cons_zero, List.set_cons_succ]
            refine wpAnyH_take (i := 36) (oi := ⟨some 54, _, _, _, _, _⟩) (v := ?_) rfl (by kernel_rfl) (by kernel_rfl) (by kernel_rfl) (fun _ _ _ h => h) (Or.inl ⟨by kernel_rfl, ?_⟩) (by assumption) ?_
            rotate_left
            · (intro wq hSw; (try dsimp only at hSw); first | (go_simp; done) | (go_simp; with_reducible rfl))
            try simp only [Act.put, List.setIfInBounds_toArray, List.set_cons_zero, List.set_cons_succ]
            refine wpAnyH_take (i := 37) (oi := ⟨some 55, _, _, _, _, _⟩) (v := ?_) rfl (by kernel_rfl) (by kernel_rfl) (by kernel_rfl) (fun _ _ _ h => h) (Or.inl ⟨by kernel_rfl, ?_⟩) (by assumption) ?_
            rotate_left
            · (intro wq hSw; (try dsimp only at hSw); first | (go_simp; done) | (go_simp; with_reducible rfl))
            try simp only [Act.put, List.setIfInBounds_toArray, List.set_cons_zero, List.set_cons_succ]
            refine wpAnyH_take (i := 38) (oi := ⟨some 56, _, _, _, _, _⟩) (v := ?_) rfl (by kernel_rfl) (by kernel_rfl) (by kernel_rfl) (fun _ _ _ h => h) (Or.inl ⟨by kernel_rfl, ?_⟩) (by assumption) ?_
            rotate_left
            · (intro wq hSw; (try dsimp only at hSw); first | (go_simp; done) | (go_simp; with_reducible rfl))
            try simp only [Act.put, List.setIfInBounds_toArray, List.set_cons_zero, List.set_cons_succ]
            refine wpAnyH_take (i := 39) (oi := ⟨some 57, _, _, _, _, _⟩) (v := ?_) rfl (by kernel_rfl) (by kernel_rfl) (by kernel_rfl) (fun _ _ _ h => h) (Or.inl ⟨by kernel_rfl, ?_⟩) (by assumption) ?_
            rotate_left
            · (intro wq hSw; (try dsimp only at hSw); first | (go_simp; done) | (go_simp; with_reducible rfl))
            try simp only [Act.put, List.setIfInBounds_toArray, List.set_cons_zero, List.set_cons_succ]
            refine wpAnyH_take (i := 40) (oi := ⟨some 58, _, _, _, _, _⟩) (v := ?_) rfl (by kernel_rfl) (by kernel_rfl) (by kernel_rfl) (fun _ _ _ h => h) (Or.inl ⟨by kernel_rfl, ?_⟩) (by assumption) ?_
            rotate_left
            · (intro wq hSw; (try dsimp only at hSw); first | (go_simp; done) | (go_simp; with_reducible rfl))
            try simp only [Act.put, List.setIfInBounds_toArray, List.set_cons_zero, List.set_cons_succ]
            refine wpAnyH_ready (rs := [41]) (by kernel_rfl) (by simp) ?_
            refine AllReadyH.cons (o := ⟨some 59, _, _, _, _, _⟩) rfl (fun K hK => ?_) AllReadyH.nil
            go_simp
            refine (HRD.out _ ((Below.refl _ W).drew)).mono ?_
            rintro e w5 ⟨rb, rfl, hr5, hb5⟩
            have HR5 := Lib.hid hr5
            have HB5 := Lib.hid (show Below W.heap.size W w5 from ((Below.refl _ W).drew).trans (hb5.mono (by simp)))
            clear hb5 hr5
            obtain ⟨q0, q1, q2, q3, q4, q5, q6, q7, q8⟩ := HALL.out w5 HB5.out
            refine hK.out _ _ (⟨q0, q1, q2, q3, q4, q5, q6, q7, q8⟩) (fun hHeld => ?_)
            clear hK K
            try simp only [Act.put, List.setIfInBounds_toArray, List.set_cons_zero, List.set_cons_succ]
            refine wpAnyH_take (i := 42) (oi := ⟨some 60, _, _, _, _, _⟩) (v := ?_) rfl (by kernel_rfl) (by kernel_rfl) (by kernel_rfl) (fun _ _ _ h => h) (Or.inl ⟨by kernel_rfl, ?_⟩) (by assumption) ?_
            rotate_left
            · (intro wq hSw; (try dsimp only at hSw); first | (go_simp; done) | (go_simp; with_reducible rfl))
            try simp only [Act.put, List.setIfInBounds_toArray, List.set_cons_zero, List.set_cons_succ]
            refine wpAnyH_done (by kernel_rfl) ?_ _
            cases rb with
            | true =>
              have HRY := Lib.hid (HR5.out.1 rfl)
              go_wp2_with fail
              go_roundw
              case rel => exact ⟨k + 1, (k : Int), by omega, by go_num, rfl, .inr ⟨k, x, r, rfl, HX.out, HRX.out, HRY.out⟩, HWW.out.trans (HB5.out.mono hww)⟩
              case measure => simp [intOf]; omega
            | false =>
              have HRN := Lib.hid (show ¬ Nt.Ready (hs.map HouseT.s) (hs.map HouseT.taken) r.v from fun q => by cases HR5.out.2 q)
              go_wp2_with fail
              go_roundw
              case rel => exact ⟨k + 1, -1, by omega, by go_num, rfl, HBE.out.skip HX.out (fun r' hr' => by rw [HRX.out] at hr'; cases hr'; exact HRN.out), HWW.out.trans (HB5.out.mono hww)⟩
              case measure => simp [intOf]; omega
          · have hyl : bi < hs.length := (List.getElem?_eq_some_iff.1 hy).1
            have hym : y ∈ hs := List.mem_of_getElem? hy
            have hbl : bi < n0 := by rw [← HLN.out]; exact hyl
            obtain ⟨_, _, hycl⟩ := HATR.out.1 (fun e => by rw [e] at hyl; simp at hyl)
            have hyt : y.taken < y.rs.length := (List.getElem?_eq_some_iff.1 hz).1
            have hyr := HRLN.out y hym
            obtain ⟨zb, zoff, hyA, _, hzbw, _, hzcl⟩ := (HATR.out.2.1 y hym).get hyt
            have hze : y.rs[y.taken] = z := (List.getElem?_eq_some_iff.1 hz).2
            rw [hze] at hzcl
            have HALL := Lib.hid (show ∀ W' : World, Below W.heap.size W W' → W'.cell? ⟨wz, 0, none⟩ = some (.int .i64 x.number) ∧ W'.cell? ⟨wz, 1, none⟩ = some (.slice (some ⟨nb, noff, none⟩) x.rs.length x.c) ∧ W'.cell? ⟨wz, 2, none⟩ = some (.bool x.forked) ∧ W'.cell? ⟨wz, 3, none⟩ = some (.int .i64 (x.taken : Int)) ∧ W'.cell? ⟨nb, noff + x.taken * 5, none⟩ = some (.int .i64 r.v.house) ∧ W'.cell? ⟨nb, noff + x.taken * 5 + 1, none⟩ = some (.int .i64 r.v.no) ∧ W'.cell? ⟨nb, noff + x.taken * 5 + 2, none⟩ = some (.int .i64 r.v.day) ∧ W'.cell? ⟨nb, noff + x.taken * 5 + 3, none⟩ = some (.slice r.A r.v.needs.length r.c) ∧ W'.cell? ⟨nb, noff + x.taken * 5 + 4, none⟩ = some (.string r.v.text) ∧ W'.cell? ⟨g, o + bi * 4, none⟩ = some (.int .i64 y.number) ∧ W'.cell? ⟨g, o + bi * 4 + 1, none⟩ = some (.slice (some ⟨zb, zoff, none⟩) y.rs.length y.c) ∧ W'.cell? ⟨g, o + bi * 4 + 2, none⟩ = some (.bool y.forked) ∧ W'.cell? ⟨g, o + bi * 4 + 3, none⟩ = some (.int .i64 (y.taken : Int)) ∧ W'.cell? ⟨zb, zoff + y.taken * 5, none⟩ = some (.int .i64 z.v.house) ∧ W'.cell? ⟨zb, zoff + y.taken * 5 + 1, none⟩ = some (.int .i64 z.v.no) ∧ W'.cell? ⟨zb, zoff + y.taken * 5 + 2, none⟩ = some (.int .i64 z.v.day) ∧ W'.cell? ⟨zb, zoff + y.taken * 5 + 3, none⟩ = some (.slice z.A z.v.needs.length z.c) ∧ W'.cell? ⟨zb, zoff + y.taken * 5 + 4, none⟩ = some (.string z.v.text) from fun W' q => by
              obtain ⟨a0, a1, a2, a3, a4, a5, a6, a7, a8⟩ := HPB.out
              have qb : ∀ p : Addr, p.block < wr.heap.size → W'.cell? p = wr.cell? p := fun p hp => (q.cell (by omega)).trans (hbW.cell hp)
              exact ⟨(q.cell (p := ⟨wz, 0, none⟩) hwzW).trans a0, (q.cell (p := ⟨wz, 1, none⟩) hwzW).trans a1, (q.cell (p := ⟨wz, 2, none⟩) hwzW).trans a2, (q.cell (p := ⟨wz, 3, none⟩) hwzW).trans a3, (q.cell (p := ⟨nb, noff + x.taken * 5, none⟩) hnbW).trans a4, (q.cell (p := ⟨nb, noff + x.taken * 5 + 1, none⟩) hnbW).trans a5, (q.cell (p := ⟨nb, noff + x.taken * 5 + 2, none⟩) hnbW).trans a6, (q.cell (p := ⟨nb, noff + x.taken * 5 + 3, none⟩) hnbW).trans a7, (q.cell (p := ⟨nb, noff + x.taken * 5 + 4, none⟩) hnbW).trans a8, (qb ⟨g, o + bi * 4, none⟩ (by show g < _; omega)).trans (hycl bi y hy 0 _ rfl).1, (qb ⟨g, o + bi * 4 + 1, none⟩ (by show g < _; omega)).trans (by rw [← hyA]; exact (hycl bi y hy 1 _ rfl).1), (qb ⟨g, o + bi * 4 + 2, none⟩ (by show g < _; omega)).trans (hycl bi y hy 2 _ rfl).1, (qb ⟨g, o + bi * 4 + 3, none⟩ (by show g < _; omega)).trans (hycl bi y hy 3 _ rfl).1, (qb ⟨zb, zoff + y.taken * 5, none⟩ hzbw).trans (hzcl 0 _ rfl), (qb ⟨zb, zoff + y.taken * 5 + 1, none⟩ hzbw).trans (hzcl 1 _ rfl), (qb ⟨zb, zoff + y.taken * 5 + 2, none⟩ hzbw).trans (hzcl 2 _ rfl), (qb ⟨zb, zoff + y.taken * 5 + 3, none⟩ hzbw).trans (hzcl 3 _ rfl), (qb ⟨zb, zoff + y.taken * 5 + 4, none⟩ hzbw).trans (hzcl 4 _ rfl)⟩)
            have HBI := Lib.hid (show BestAt hs (k + 1) (bi : Int) from .inr ⟨bi, y, z, rfl, hy, hz, hrdy⟩)
            obtain ⟨e0, e1, e2, e3, e4, e5, e6, e7, e8, e9, e10, e11, e12, e13, e14, e15, e16, e17⟩ := HALL.out W (Below.refl _ _)
            have hi0 : ¬ (bi : Int) < 0 := by omega
            have hi1 : (bi : Int) < (n0 : Int) := by omega
            have hid : decide ((bi : Int) < 0) = false := by simp
            have ht2 : (y.taken : Int) < (y.rs.length : Int) := by omega
            have hbi : bi ≤ 1000 := by omega
            clear hycl hzcl hze hy hz hrdy hyl hym HPB
            by_cases hday : r.v.day < z.v.day
            · have hdd : decide (r.v.day < z.v.day) = true := by simpa using hday
              go_region_held3 (fun w' => w'.cell? ⟨wz, 0, none⟩ = some (.int .i64 x.number) ∧ w'.cell? ⟨wz, 1, none⟩ = some (.slice (some ⟨nb, noff, none⟩) x.rs.length x.c) ∧ w'.cell? ⟨wz, 2, none⟩ = some (.bool x.forked) ∧ w'.cell? ⟨wz, 3, none⟩ = some (.int .i64 (x.taken : Int)) ∧ w'.cell? ⟨nb, noff + x.taken * 5, none⟩ = some (.int .i64 r.v.house) ∧ w'.cell? ⟨nb, noff + x.taken * 5 + 1, none⟩ = some (.int .i64 r.v.no) ∧ w'.cell? ⟨nb, noff + x.taken * 5 + 2, none⟩ = some (.int .i64 r.v.day) ∧ w'.cell? ⟨nb, noff + x.taken * 5 + 3, none⟩ = some (.slice r.A r.v.needs.length r.c) ∧ w'.cell? ⟨nb, noff + x.taken * 5 + 4, none⟩ = some (.string r.v.text) ∧ w'.cell? ⟨g, o + bi * 4, none⟩ = some (.int .i64 y.number) ∧ w'.cell? ⟨g, o + bi * 4 + 1, none⟩ = some (.slice (some ⟨zb, zoff, none⟩) y.rs.length y.c) ∧ w'.cell? ⟨g, o + bi * 4 + 2, none⟩ = some (.bool y.forked) ∧ w'.cell? ⟨g, o + bi * 4 + 3, none⟩ = some (.int .i64 (y.taken : Int)) ∧ w'.cell? ⟨zb, zoff + y.taken * 5, none⟩ = some (.int .i64 z.v.house) ∧ w'.cell? ⟨zb, zoff + y.taken * 5 + 1, none⟩ = some (.int .i64 z.v.no) ∧ w'.cell? ⟨zb, zoff + y.taken * 5 + 2, none⟩ = some (.int .i64 z.v.day) ∧ w'.cell? ⟨zb, zoff + y.taken * 5 + 3, none⟩ = some (.slice z.A z.v.needs.length z.c) ∧ w'.cell? ⟨zb, zoff + y.taken * 5 + 4, none⟩ = some (.string z.v.text)) (go_keep)
                (first
                 | (go_at_call 67; refine (HRD.out _ ((Below.refl _ W).drew)).mono ?_; rintro e w5 ⟨rb, rfl, hr5, hb5⟩; have HR5 := Lib.hid hr5; have HB5 := Lib.hid (show Below W.heap.size W w5 from ((Below.refl _ W).drew).trans (hb5.mono (by simp))); clear hb5 hr5; obtain ⟨q0, q1, q2, q3, q4, q5, q6, q7, q8, q9, q10, q11, q12, q13, q14, q15, q16, q17⟩ := HALL.out w5 HB5.out))
              cases rb with
              | true =>
                have HRY := Lib.hid (HR5.out.1 rfl)
                go_wp2_with fail
                go_roundw
                case rel => exact ⟨k + 1, (k : Int), by omega, by go_num, rfl, .inr ⟨k, x, r, rfl, HX.out, HRX.out, HRY.out⟩, HWW.out.trans (HB5.out.mono hww)⟩
                case measure => simp [intOf]; omega
              | false =>
                have HRN := Lib.hid (show ¬ Nt.Ready (hs.map HouseT.s) (hs.map HouseT.taken) r.v from fun q => by cases HR5.out.2 q)
                go_wp2_with fail
                go_roundw
                case rel => exact ⟨k + 1, (bi : Int), by omega, by go_num, rfl, HBE.out.skip HX.out (fun r' hr' => by rw [HRX.out] at hr'; cases hr'; exact HRN.out), HWW.out.trans (HB5.out.mono hww)⟩
                case measure => simp [intOf]; omega
            · have hdd : decide (r.v.day < z.v.day) = false := by simpa using hday
              go_quiet (fail)
              go_wp2_with fail
              go_roundw
              case rel => exact ⟨k + 1, (bi : Int), by omega, by go_num, rfl, HBI.out, below_dn HWW.out _⟩
              case measure => simp [intOf]; omega
        · have htd : decide ((x.taken : Int) < (x.rs.length : Int)) = false := by simp; omega
          have hbW : Below wr.heap.size wr (wr.alloc (.cells #[.int .i64 x.number, .slice x.A x.rs.length x.c, .bool x.forked, .int .i64 (x.taken : Int)] 79)) := (Below.refl _ wr).alloc (Nat.le_refl _) _
          have HWW := Lib.hid (show Below wo.heap.size wo (wr.alloc (.cells #[.int .i64 x.number, .slice x.A x.rs.length x.c, .bool x.forked, .int .i64 (x.taken : Int)] 79)) from HW.out.trans (hbW.mono hw1))
          have HSK := Lib.hid (show BestAt hs (k + 1) best from HBE.out.skip HX.out (fun r' hr' => absurd (List.getElem?_eq_some_iff.1 hr').1 htk))
          clear hbW
          go_wp2_with fail
          go_quiet (fail)
          go_wp2_with fail
          go_roundw
          case rel => exact ⟨k + 1, best, by omega, by go_num, rfl, HSK.out, below_dn HWW.out _⟩
          case measure => simp [intOf]; omega
      · obtain rfl : k = n0 := by omega
        rcases HBE.out with ⟨rfl, hbn⟩ | ⟨bi, y, z, rfl, hy, hz, hrdy⟩
        · obtain ⟨A5, c5, rfl, _⟩ := HOW.out.slice
          have HF := Lib.hid (show RunPost (l.map NoteR.v) w (.returned (.tuple #[.slice A4 k c4, .slice A5 out.length c5])) wr from by
            refine ⟨_, A5, c5, out, ys, S0, rfl, (HOW.out.mono (S' := Any1) (fun _ _ _ => trivial)).sl (fun _ _ _ => trivial) |>.below HW.out, HJ.out, HIH.out, ⟨hs.map HouseT.taken, HRN.out, ?_⟩, ?_, HBW.out.trans (HW.out.mono (Nat.le_trans hBw hBr))⟩
            · have := run_final (hs := hs) (.inl ⟨rfl, by rw [HLN.out]; exact hbn⟩)
              rw [HSS.out] at this
              exact this
            · rw [List.length_map, ← HN.out]; omega)
          clear hbn
          go_wp2_with fail
          go_ret2
          exact HF.out
        · have hyl : bi < hs.length := (List.getElem?_eq_some_iff.1 hy).1
          have hym : y ∈ hs := List.mem_of_getElem? hy
          have hbl : bi < k := by rw [← HLN.out]; exact hyl
          have hne : hs ≠ [] := fun e => by rw [e] at hyl; simp at hyl
          obtain ⟨rfl, hgB, hycl⟩ := HATR.out.1 hne
          have hwg := HG.out hs HSS.out hne
          have hyt : y.taken < y.rs.length := (List.getElem?_eq_some_iff.1 hz).1
          have hyr := HRLN.out y hym
          obtain ⟨zb, zoff, hyA, hzS, hzbw, hzok, hzcl⟩ := (HATR.out.2.1 y hym).get hyt
          have hze : y.rs[y.taken] = z := (List.getElem?_eq_some_iff.1 hz).2
          rw [hze] at hzcl hzok
          have hBr2 : B ≤ wr.heap.size := by omega
          have HYZ := Lib.hid (show ∀ W' : World, Below B wr W' → W'.cell? ⟨g, o + bi * 4, none⟩ = some (.int .i64 y.number) ∧ W'.cell? ⟨g, o + bi * 4 + 1, none⟩ = some (.slice (some ⟨zb, zoff, none⟩) y.rs.length y.c) ∧ W'.cell? ⟨g, o + bi * 4 + 2, none⟩ = some (.bool y.forked) ∧ W'.cell? ⟨g, o + bi * 4 + 3, none⟩ = some (.int .i64 (y.taken : Int)) ∧ W'.cell? ⟨zb, zoff + y.taken * 5, none⟩ = some (.int .i64 z.v.house) ∧ W'.cell? ⟨zb, zoff + y.taken * 5 + 1, none⟩ = some (.int .i64 z.v.no) ∧ W'.cell? ⟨zb, zoff + y.taken * 5 + 2, none⟩ = some (.int .i64 z.v.day) ∧ W'.cell? ⟨zb, zoff + y.taken * 5 + 3, none⟩ = some (.slice z.A z.v.needs.length z.c) ∧ W'.cell? ⟨zb, zoff + y.taken * 5 + 4, none⟩ = some (.string z.v.text) from fun W' q =>
            ⟨(q.cell (p := ⟨g, o + bi * 4, none⟩) hgB).trans (hycl bi y hy 0 _ rfl).1, (q.cell (p := ⟨g, o + bi * 4 + 1, none⟩) hgB).trans (by rw [← hyA]; exact (hycl bi y hy 1 _ rfl).1), (q.cell (p := ⟨g, o + bi * 4 + 2, none⟩) hgB).trans (hycl bi y hy 2 _ rfl).1, (q.cell (p := ⟨g, o + bi * 4 + 3, none⟩) hgB).trans (hycl bi y hy 3 _ rfl).1, (q.cell (p := ⟨zb, zoff + y.taken * 5, none⟩) hzS.2).trans (hzcl 0 _ rfl), (q.cell (p := ⟨zb, zoff + y.taken * 5 + 1, none⟩) hzS.2).trans (hzcl 1 _ rfl), (q.cell (p := ⟨zb, zoff + y.taken * 5 + 2, none⟩) hzS.2).trans (hzcl 2 _ rfl), (q.cell (p := ⟨zb, zoff + y.taken * 5 + 3, none⟩) hzS.2).trans (hzcl 3 _ rfl), (q.cell (p := ⟨zb, zoff + y.taken * 5 + 4, none⟩) hzS.2).trans (hzcl 4 _ rfl)⟩)
          obtain ⟨e0, e1, e2, e3, e4, e5, e6, e7, e8⟩ := HYZ.out wr (Below.refl _ _)
          have hbD : Below wr.heap.size wr (wr.drew.alloc (.cells #[.int .i64 z.v.house, .int .i64 z.v.no, .int .i64 z.v.day, .slice z.A z.v.needs.length z.c, .string z.v.text] 42)) := (Below.refl _ wr).drew.alloc (Nat.le_refl _) _
          have HBD := Lib.hid (hbD.mono hBr2)
          have HOD := Lib.hid ((HOW.out.below HW.out).below hbD)
          have HZO := Lib.hid (show Sl refD (wr.drew.alloc (.cells #[.int .i64 z.v.house, .int .i64 z.v.no, .int .i64 z.v.day, .slice z.A z.v.needs.length z.c, .string z.v.text] 42)) (fun b => (b ≠ g ∧ b < B) ∧ some b ≠ Value.ownBlock u5) z.A z.v.needs from (hzok.mono fun b hb q => ⟨q, fun e => by have := (owns_lt HOW.out.1 b e.symm).1; omega⟩).below hbD)
          have HRDN := Lib.hid (show Reads (wr.drew.alloc (.cells #[.int .i64 z.v.house, .int .i64 z.v.no, .int .i64 z.v.day, .slice z.A z.v.needs.length z.c, .string z.v.text] 42)) (wr.heap.size + 1) 5 (some ⟨wr.heap.size, 0, none⟩) 1 [.int .i64 z.v.house, .int .i64 z.v.no, .int .i64 z.v.day, .slice z.A z.v.needs.length z.c, .string z.v.text] from reads_new wr.drew [.int .i64 z.v.house, .int .i64 z.v.no, .int .i64 z.v.day, .slice z.A z.v.needs.length z.c, .string z.v.text] 42 1 5 rfl)
          have HON := Lib.hid (show ∀ u ∈ ([.int .i64 z.v.house, .int .i64 z.v.no, .int .i64 z.v.day, .slice z.A z.v.needs.length z.c, .string z.v.text] : List Value), u.oneCell' = true from fun u hu => by simp at hu; rcases hu with rfl | rfl | rfl | rfl | rfl <;> rfl)
          have HYF := Lib.hid (show wr.frozen? ⟨g, o + bi * 4 + 3, none⟩ = false from (hycl bi y hy 3 _ rfl).2)
          have HRS := Lib.hid (run_step HSS.out HRN.out hy hz hrdy)
          have HLS := Lib.hid (left_set hy hyt)
          have hls := left_set hy hyt
          have HY := Lib.hid hy
          obtain ⟨i0, hi0, hz0, hz1, hz2⟩ := info_parts Tryz.infoNote
          have hb0 : ¬ (bi : Int) < 0 := by omega
          have hb1 : (bi : Int) < (k : Int) := by omega
          have hbd : decide ((bi : Int) < 0) = false := by simp
          have ht2 : (y.taken : Int) < (y.rs.length : Int) := by omega
          have hbi : bi ≤ 1000 := by omega
          have HATX := Lib.hid (show ∀ W' : World, Below B wr W' → HsAt g o B W' (some ⟨g, o, none⟩) hs from fun W' q => HATR.out.below q)
          have HRIX := Lib.hid (show ∀ h ∈ hs.set bi y.up, ∀ r ∈ h.rs, rightN r.v = true from fun h hh => by
            rcases List.mem_or_eq_of_mem_set hh with q | rfl
            · exact HRI.out h q
            · exact HRI.out y hym)
          have hol : out.length ≤ 1000000 := by omega
          clear hycl hzcl hzok hze hz hrdy hbD hym hyl HATR HBE hy
          go_wp2_with fail
          go_region_held3 (fun w' => w'.cell? ⟨g, o + bi * 4, none⟩ = some (.int .i64 y.number) ∧ w'.cell? ⟨g, o + bi * 4 + 1, none⟩ = some (.slice (some ⟨zb, zoff, none⟩) y.rs.length y.c) ∧ w'.cell? ⟨g, o + bi * 4 + 2, none⟩ = some (.bool y.forked) ∧ w'.cell? ⟨g, o + bi * 4 + 3, none⟩ = some (.int .i64 (y.taken : Int)) ∧ w'.cell? ⟨zb, zoff + y.taken * 5, none⟩ = some (.int .i64 z.v.house) ∧ w'.cell? ⟨zb, zoff + y.taken * 5 + 1, none⟩ = some (.int .i64 z.v.no) ∧ w'.cell? ⟨zb, zoff + y.taken * 5 + 2, none⟩ = some (.int .i64 z.v.day) ∧ w'.cell? ⟨zb, zoff + y.taken * 5 + 3, none⟩ = some (.slice z.A z.v.needs.length z.c) ∧ w'.cell? ⟨zb, zoff + y.taken * 5 + 4, none⟩ = some (.string z.v.text)) (go_keep)
            (first
             | (refine step_append_any _ (by rfl) (.tmp 67) (.tmp 80) 33 (by rfl) B 42 i0 _ 5 64 Tryz.underlying33 hi0 hz0 hz1 hz2 (by rfl) (by omega) u5 out.length (out.flatMap noteD.cells) (by rfl) HOD.out.1 (wr.heap.size + 1) (some ⟨wr.heap.size, 0, none⟩) 1 1 [.int .i64 z.v.house, .int .i64 z.v.no, .int .i64 z.v.day, .slice z.A z.v.needs.length z.c, .string z.v.text] (by rfl) HRDN.out HON.out (by simp only [maxLen]; omega) (by omega) (by simp; omega) ?_; intro v9 w9 hown9 hg9 hat9; have HM9 := Lib.hid (OwnS.more (D := noteD) (S := fun b => b ≠ g ∧ b < B) (news := [z]) (xs := out) HOD.out.2 (fun t ht => by rw [List.mem_singleton.1 ht]; exact HZO.out) (by simp [noteD, NoteR.cells]) rfl hown9 hg9 (by simpa using hat9)); have HB9 := Lib.hid (show Below B wr w9 from HBD.out.grown hg9 (by simp; omega) (fun t ht => (owns_lt HOD.out.1 t ht).1)); clear hown9 hg9 hat9; obtain ⟨k0, k1, k2, k3, k4, k5, k6, k7, k8⟩ := HYZ.out w9 HB9.out))
          have hfz : w9.frozen? ⟨g, o + bi * 4 + 3, none⟩ = false := (HB9.out.frozen (p := ⟨g, o + bi * 4 + 3, none⟩) hgB).trans HYF.out
          go_wp2_with fail
          go_roundg (left (hs.set bi y.up))
          case measure => omega
          case rel => exact ⟨hs.set bi y.up, out ++ [z], Nat.le_refl _, HRS.out.1, (HATX.out _ HB9.out).set HY.out, HM9.out.setCell ⟨g, o + bi * 4 + 3, none⟩ hgB (fun b q => q.1) _, HRS.out.2, by simp; omega, HRIX.out, (HBW.out.trans (HW.out.mono (Nat.le_trans hBw hBr))).trans ((HB9.out.mono hBw).setCell (p := ⟨g, o + bi * 4 + 3, none⟩) hwg _)⟩
set_option maxHeartbeats 4000000 in
theorem gossip_order (l : List NoteR) (A : Option Addr) (c : Nat) {B : Nat} (w : World) (ht : Tab B w) (hB : B ≤ w.heap.size) (h : Sl noteD w Any1 A l) (hsm : ∀ r ∈ l, SmN r.v) (hl : l.length ≤ 1000) :
    Calls Tryz.prog 17 #[.slice A l.length c] w (OrderPost (l.map NoteR.v) w) := by
  have HH := Lib.hid (gossip_run l A c w ht hB h hsm hl)
  clear ht h hsm
  go_enter Tryz.func17, Tryz.ntmps17
  go_wp2_with fail
  refine HH.out.mono ?_
  rintro e w2 ⟨v4, A5, c5, out, ys, S0, rfl, h1⟩
  have H1 := Lib.hid h1
  clear h1
  go_wp2_with fail
  go_ret
  exact ⟨A5, c5, out, ys, S0, rfl, H1.out⟩
end Go.Proofs.YtaojnjealccjiaaGreatDoor

/- strings.Split at the separator '/', lock.object, lock.above, lock.Right. -/
import Derived.Test.YtaojnjealccjiaaGreatDoorLex
import Derived.Test.YtaojnjealccjiaaGreatDoorShelf
import Derived.Shelf.Strings.SplitCore
namespace Go.Proofs
open Go.Shelf Go.RowKit Go.Lib
variable {P : Program} {ρ : Ren}
set_option maxHeartbeats 1000000 in
/-- strings.Split at a separator of one byte: no variable of the library's is read. -/
theorem split_one (L : Lays.n146 P ρ) (hi9 : (P.info? (ρ.t 9)).map (fun i => (i.zero, i.size, i.bytes)) = some (some (.string ByteArray.empty), 1, 16)) (s : ByteArray) (c : UInt8) (w : World)
    (hs : s.size < 4294967281) :
    Calls P (ρ.f 146) #[.string s, .string ⟨#[c]⟩] w fun e w' =>
      e = .returned (.slice (some ⟨w.heap.size, 0, none⟩) (Lib.countB s ⟨#[c]⟩ + 1) (Lib.countB s ⟨#[c]⟩ + 1)) ∧ w' = w.alloc (.cells ((Lib.splitB ⟨#[c]⟩ 0 (Lib.countB s ⟨#[c]⟩) s).map Value.string).toArray (ρ.t 9)) := by
  have h1 : 1 ≤ (⟨#[c]⟩ : ByteArray).size := Nat.le_refl _
  have hle := Lib.countB_le ⟨#[c]⟩ h1 s.size s (Nat.le_refl _)
  have hlen := Lib.splitB_all ⟨#[c]⟩ h1 0 _ s rfl
  have c0 := Any.strings_genSplit_core { L with } hi9 s ⟨#[c]⟩ 0 (-1) (Lib.countB s ⟨#[c]⟩ + 1) w hs h1 (Nat.zero_le _)
    (fun x cs hx => (Any.strings_Index_one { L with } x c _).mono fun e w' ⟨he, hw⟩ => ⟨he.trans (by show _ = Ending.returned (Value.int .i64 (Lib.index x.data.toList [c])); rw [← Lib.index_one]), hw⟩)
    ((Any.strings_Count_one { L with } s c w).mono fun e w' ⟨he, hw⟩ => ⟨he.trans (by
      show _ = Ending.returned (Value.int .i64 ((Lib.count s.data.toList [c] : Nat) : Int))
      rw [Lib.count_one]
      rfl), hw⟩) (by decide) (by decide) (by rw [if_pos (by decide)]; omega)
  rw [Nat.add_sub_cancel, hlen] at c0
  have e2 : Lib.cellsOf (Lib.splitB ⟨#[c]⟩ 0 (Lib.countB s ⟨#[c]⟩) s) (Lib.countB s ⟨#[c]⟩ + 1) = ((Lib.splitB ⟨#[c]⟩ 0 (Lib.countB s ⟨#[c]⟩) s).map Value.string).toArray := by rw [← hlen]; exact Lib.cellsOf_full _
  rw [e2] at c0
  have t3 := L.t3; have t9 := L.t9; have t31 := L.t31
  have a3 := L.a3; have a9 := L.a9; have a31 := L.a31
  have z3 := L.z3; have v3 := L.v3; have z9 := L.z9; have v9 := L.v9; have z31 := L.z31; have v31 := L.v31
  have e221 : ∀ args w, (callFunc (ρ.f 221) args).run P w = .ok (.enter (ρ.f 221) args) w := enters_of L.f221 (by kernel_rfl) rfl
  go_enter L.f146, Body.n146_ntmps ρ
  go_wp2_with (go_at_fn (ρ.f 221); refine c0.mono ?_; rintro e w' ⟨rfl, hw⟩; rw [hw])
  go_ret
  exact ⟨rfl, rfl⟩
end Go.Proofs

namespace Go.Proofs.YtaojnjealccjiaaGreatDoor
open Go Go.RowKit Kb Go.Lib
set_option linter.unusedVariables false

theorem splitK_pieces : ∀ l : List UInt8, splitK [47] 0 (l.count 47) l = pieces l
  | [] => rfl
  | b :: r => by
    have ih := splitK_pieces r
    by_cases hb : b = 47
    · subst hb
      rw [List.count_cons_self]
      have hi : index (47 :: r) [47] = 0 := by simp [index_one, indexByte]
      simp [splitK, hi, ih, pieces]
    · have hc : (b :: r).count 47 = r.count 47 := List.count_cons_of_ne hb
      have hbb : (b == 47) = false := by simp [hb]
      rw [hc]
      cases hk : r.count 47 with
      | zero =>
        rw [hk] at ih
        simp only [splitK] at ih ⊢
        simp only [pieces, hb, if_false, ← ih]
      | succ k =>
        rw [hk] at ih
        have hge := indexByte_ge r 47
        have hne : indexByte r 47 ≠ -1 := fun h => by
          have hm : (47 : UInt8) ∈ r := List.count_pos_iff.1 (by omega)
          obtain ⟨j, hj, he⟩ := List.getElem_of_mem hm
          exact indexByte_none h j (by rw [List.getElem?_eq_getElem hj, he])
        obtain ⟨i, hi⟩ : ∃ i : Nat, indexByte r 47 = i := ⟨(indexByte r 47).toNat, by omega⟩
        have h1 : index r [47] = i := by rw [index_one, hi]
        have h2 : index (b :: r) [47] = ((i + 1 : Nat) : Int) := by
          rw [index_one, indexByte, hbb, hi]
          have : ((i : Int) == -1) = false := by rw [beq_eq_false_iff_ne]; omega
          simp [this]
        have n1 : ((i : Int) == -1) = false := by rw [beq_eq_false_iff_ne]; omega
        have n2 : (((i + 1 : Nat) : Int) == -1) = false := by rw [beq_eq_false_iff_ne]; omega
        unfold splitK at ih ⊢
        rw [h1, n1] at ih
        rw [h2, n2]
        simp only [Bool.false_eq_true, if_false, Int.toNat_natCast, List.length_singleton, Nat.add_zero] at ih ⊢
        simp only [pieces, hb, if_false, ← ih]
        rfl

theorem splitB_pieces (s : ByteArray) : (splitB ⟨#[47]⟩ 0 (countB s ⟨#[47]⟩) s).map (·.data.toList) = pieces s.data.toList := by
  rw [splitB_data]
  show splitK [47] 0 (count s.data.toList [47]) _ = _
  rw [count_one, splitK_pieces]

def clipS (s : ByteArray) : ByteArray := if s.size ≤ maxLen then s else ByteArray.empty
theorem clipS_le (s : ByteArray) : (clipS s).size ≤ maxLen := by
  unfold clipS
  split
  · assumption
  · exact Nat.zero_le _
theorem clipS_of {s : ByteArray} (h : s.size ≤ maxLen) : clipS s = s := by unfold clipS; rw [if_pos h]

theorem object_pred (w : World) : PredAt Tryz.prog 57 #[] (fun s => .string (clipS s)) (fun s => !nameB (clipS s).data.toList) w := fun W s _ => by
  have hn := fun W => lex_name (clipS s) W (clipS_le s)
  unfold FnGives
  show Calls Tryz.prog 57 #[.string (clipS s)] W fun e w' => e = .returned (.bool (!nameB (clipS s).data.toList)) ∧ ∃ q, w' = W.drewN q
  generalize nameB (clipS s).data.toList = b at hn ⊢
  generalize clipS s = t at hn ⊢
  go_enter Tryz.func57, Tryz.ntmps57
  have HN := Lib.hid hn
  clear hn
  go_wp2_with (go_at_call 58; refine (HN.out _).mono ?_; rintro e w' ⟨rfl, rfl⟩)
  go_ret
  exact ⟨rfl, 0, rfl⟩

theorem Tryz.info9 : (Tryz.prog.info? 9).map (fun i => (i.zero, i.size, i.bytes)) = some (some (.string ByteArray.empty), 1, 16) := by kernel_rfl

theorem pieces_size : ∀ {l p : List UInt8}, p ∈ pieces l → p.length ≤ l.length
  | [], p, h => by simp [pieces] at h; simp [h]
  | c :: r, p, h => by
    unfold pieces at h
    by_cases hc : c = 47
    · simp only [hc, if_true, List.mem_cons] at h
      rcases h with rfl | h
      · simp
      · have := pieces_size h; simp; omega
    · simp only [hc, if_false] at h
      cases hp : pieces r with
      | nil => exact absurd hp (pieces_ne r)
      | cons x t =>
        rw [hp] at h
        simp only [List.mem_cons] at h
        rcases h with rfl | h
        · have := pieces_size (l := r) (p := x) (by rw [hp]; simp); simp; omega
        · have := pieces_size (l := r) (p := p) (by rw [hp]; simp [h]); simp; omega

set_option maxHeartbeats 1000000 in
theorem lock_object (s : ByteArray) (w : World) (hs : s.size < 4294967281) :
    Calls Tryz.prog 30 #[.string s] w fun e w' => e = .returned (.bool (objectB s.data.toList)) ∧ Below w.heap.size w w' := by
  have hsp := split_one Tryz.lays146 Tryz.info9 s 47 w hs
  change Calls Tryz.prog 55 _ _ _ at hsp
  have hpc := splitB_pieces s
  generalize hps : splitB ⟨#[47]⟩ 0 (countB s ⟨#[47]⟩) s = ps at hsp hpc
  have hlen : ps.length = countB s ⟨#[47]⟩ + 1 := by rw [← hps]; exact Lib.splitB_all ⟨#[47]⟩ (Nat.le_refl _) 0 _ s rfl
  rw [← hlen] at hsp
  have hsmall : ∀ p ∈ ps, p.size ≤ maxLen := fun p hp => by
    have : p.data.toList ∈ pieces s.data.toList := by rw [← hpc]; exact List.mem_map.2 ⟨p, hp, rfl⟩
    have := pieces_size this
    rw [size_list, size_list] at this
    unfold maxLen; omega
  have hple : ps.length ≤ 4294967282 := by
    have := Lib.countB_le ⟨#[47]⟩ (Nat.le_refl _) s.size s (Nat.le_refl _)
    omega
  have hobj : objectB s.data.toList = (decide (ps.length ≤ 4) && !(ps.any fun p => !nameB (clipS p).data.toList)) := by
    unfold objectB
    rw [← hpc]
    congr 1
    · simp
    · rw [List.all_map, List.any_eq_not_all_not, Bool.not_not, Bool.eq_iff_iff, List.all_eq_true, List.all_eq_true]
      constructor <;> intro h p hp
      · have := h p hp; simp only [Function.comp] at this; rw [clipS_of (hsmall p hp), this]; rfl
      · have := h p hp; rw [clipS_of (hsmall p hp)] at this; simpa using this
  have eg : ∀ args w, (callFunc 57 args).run Tryz.prog w = .ok (.enter 57 args) w := enters_of Tryz.func57 (by kernel_rfl) rfl
  have hcon := AnyE.slices_ContainsFunc Tryz.laysContS (fun s => .string (clipS s)) (fun s => !nameB (clipS s).data.toList) 57 #[] eg w.heap.size 0 ps.length ps.length ps
    (w.alloc (.cells (ps.map Value.string).toArray 9)) (object_pred _) (Nat.le_refl _) (by omega) (fun j hj => by
      rw [World.cell?_alloc_new]
      simp [hj, clipS_of (hsmall ps[j] (List.getElem_mem hj))])
  change Calls Tryz.prog 56 _ _ _ at hcon
  rw [List.take_length] at hcon
  rw [hobj]
  generalize (ps.any fun p => !nameB (clipS p).data.toList) = b at hcon ⊢
  change Calls Tryz.prog 55 _ _ (fun e w' => _ ∧ w' = w.alloc (.cells (ps.map Value.string).toArray 9)) at hsp
  clear hobj hsmall hpc hlen hps
  have h4 : decide ((ps.length : Int) ≤ 4) = decide (ps.length ≤ 4) := by rw [Bool.eq_iff_iff]; simp; omega
  have HC := Lib.hid hcon
  have HS := Lib.hid hsp
  clear hcon hsp
  have H4 := Lib.hid h4
  clear h4
  by_cases hle : ps.length ≤ 4
  · go_enter Tryz.func30, Tryz.ntmps30
    go_wp2_with (first | (go_at_call 55; refine HS.out.mono ?_; rintro e w' ⟨rfl, hw⟩; rw [hw]; clear hw) | (go_at_call 56; refine HC.out.mono ?_; rintro e w' ⟨rfl, q, hw⟩; rw [hw]; clear hw))
    go_ret
    exact ⟨by simp [hle], below_drewN ((Below.refl _ _).alloc (Nat.le_refl _) _) _⟩
  · go_enter Tryz.func30, Tryz.ntmps30
    go_wp2_with (first | (go_at_call 55; refine HS.out.mono ?_; rintro e w' ⟨rfl, hw⟩; rw [hw]; clear hw))
    go_ret
    exact ⟨by simp, (Below.refl _ _).alloc (Nat.le_refl _) _⟩

end Go.Proofs.YtaojnjealccjiaaGreatDoor

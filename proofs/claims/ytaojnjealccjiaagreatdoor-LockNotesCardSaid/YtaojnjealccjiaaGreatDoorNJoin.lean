/- The contracts of gossip.items, notes, Join. -/
import Derived.Test.YtaojnjealccjiaaGreatDoorNItems
namespace Go.Proofs.YtaojnjealccjiaaGreatDoor
open Go Go.RowKit Nt Go.Proofs Go.Lib
set_option linter.unusedVariables false
set_option linter.unusedSimpArgs false

theorem filter_next {α : Type} {l : List α} {k : Nat} {x : α} (h : l[k]? = some x) (p : α → Bool) : (l.take (k + 1)).filter p = if p x then (l.take k).filter p ++ [x] else (l.take k).filter p := by
  obtain ⟨hk, he⟩ := List.getElem?_eq_some_iff.1 h
  rw [List.take_succ_eq_append_getElem hk, he, List.filter_append]
  cases hp : p x <;> simp [List.filter_cons, hp]
theorem map_next {α β : Type} {l : List α} {k : Nat} {x : α} (h : l[k]? = some x) (f : α → β) : (l.map f)[k]? = some (f x) := by simp [h]
/-- what the loop over the notes keeps: the right ones, copied -/
def ItemsAt (l : List NoteR) (w wr : World) (k : Nat) (t : Value) : Prop := ∃ rs, OwnS noteD 95 w.heap.size wr Any1 t rs ∧ rs.map NoteR.v = ((l.map NoteR.v).take k).filter rightN ∧ Below w.heap.size w wr
theorem ItemsAt.same {l : List NoteR} {w wr w' : World} {k : Nat} {t : Value} (h : ItemsAt l w wr k t) (hb : Below wr.heap.size wr w') (hq : ((l.map NoteR.v).take (k + 1)).filter rightN = ((l.map NoteR.v).take k).filter rightN) : ItemsAt l w w' (k + 1) t := by
  obtain ⟨rs, h1, h2, h3⟩ := h
  exact ⟨rs, h1.below hb, by rw [hq]; exact h2, h3.trans (hb.mono h3.size)⟩
def JoinPost (l : List NoteV) (w : World) (e : Ending) (w' : World) : Prop := ∃ A c rs, e = .returned (.slice A rs.length c) ∧ Sl noteD w' Any1 A rs ∧ IsJoin l (rs.map NoteR.v) ∧ rs.length ≤ l.length ∧ Below w.heap.size w w'
def NotesPostC (rs : List NoteR) (w : World) (e : Ending) (w' : World) : Prop := ∃ A c, e = .returned (.slice A rs.length c) ∧ rs.length ≤ c ∧ c ≤ maxLen ∧ Sl noteD w' Any1 A rs ∧ Below w.heap.size w w'
def JoinPostC (l : List NoteV) (w : World) (e : Ending) (w' : World) : Prop := ∃ A c rs, e = .returned (.slice A rs.length c) ∧ rs.length ≤ c ∧ c ≤ maxLen ∧ Sl noteD w' Any1 A rs ∧ IsJoin l (rs.map NoteR.v) ∧ rs.length ≤ l.length ∧ Below w.heap.size w w'
theorem once_join {l : List NoteV} {rs rs' : List NoteR} (h : Once rs rs') (hr : rs.map NoteR.v = l.filter rightN) : IsJoin l (rs'.map NoteR.v) :=
  ⟨h.1, fun x => by rw [h.2 x, hr, List.mem_filter]; exact And.comm⟩

theorem tab_up {B B' : Nat} {w : World} (h : Tab B w) (hB : B ≤ B') : Tab B' w := fun w' hb => h w' (hb.mono hB)
/-- what lay in w lies below every later block -/
theorem sl_low {α : Type} {D : Dat α} {w : World} {A : Option Addr} {xs : List α} {S : Nat → Prop} (h : Sl D w Any1 A xs) (hs : ∀ b, b < w.heap.size → S b) : Sl D w S A xs := h.mono fun b hb _ => hs b hb
theorem Sl.below2 {α : Type} {D : Dat α} {w w1 w2 : World} {A : Option Addr} {xs : List α} {S : Nat → Prop} (h : Sl D w S A xs) (h1 : Below w.heap.size w w1) (h2 : Below w1.heap.size w1 w2) : Sl D w2 S A xs := (h.below h1).below h2

set_option maxRecDepth 100000 in
set_option maxHeartbeats 4000000 in
theorem gossip_items (a b : List NoteR) (Aa Ab : Option Addr) (ca cb : Nat) {B : Nat} (w : World) (ht : Tab B w) (hB : B ≤ w.heap.size) (ha : Sl noteD w Any1 Aa a) (hb : Sl noteD w Any1 Ab b) (hsm : ∀ r ∈ a ++ b, SmN r.v) (hn : a.length + b.length ≤ 100000) :
    Calls Tryz.prog 36 #[.slice Aa a.length ca, .slice Ab b.length cb] w (JoinPost ((a ++ b).map NoteR.v) w) := by
  have hba : Below w.heap.size w (w.alloc (.cells #[.slice Aa a.length ca, .slice Ab b.length cb] 33)) := (Below.refl _ _).alloc (Nat.le_refl _) _
  have hcc := concat_notes a b Aa Ab ca cb w.heap.size (w.alloc (.cells #[.slice Aa a.length ca, .slice Ab b.length cb] 33)) (by simp) (by simp) (by simp) (ha.below hba) (hb.below hba) (by omega)
  have HCC := Lib.hid hcc
  have HBA := Lib.hid hba
  have HSM := Lib.hid hsm
  have HT := Lib.hid ht
  clear hcc hba ha hb hsm ht
  go_enter Tryz.func36, Tryz.ntmps36
  go_wp2_with fail
  refine HCC.out.mono ?_
  rintro e w1 ⟨A, c, rfl, hsl, hb1⟩
  have HSL := Lib.hid hsl
  have HB1 := Lib.hid (HBA.out.trans (hb1.mono HBA.out.size))
  have hll : (a ++ b).length ≤ 100000 := by simp; omega
  clear hsl hb1 HCC
  generalize hl : a ++ b = l at *
  clear hl
  go_wp2_with fail
  go_loopw [5, 13] (fun t u wr => ∃ k : Nat, k ≤ l.length ∧ u = .int .i64 (k : Int) ∧ Hid (ItemsAt l w1 wr k t)) (fun _ u _ => l.length - (intOf u).toNat)
  case atStart => exact ⟨0, Nat.zero_le _, rfl, ⟨[], OwnS.nil_, by simp, Below.refl _ _⟩⟩
  case round =>
    obtain ⟨k, hk, rfl, HI⟩ := hrel
    have hw' : Below w1.heap.size w1 wr := by obtain ⟨_, _, _, q⟩ := HI.out; exact q
    have HW := Lib.hid hw'
    have hw1 := hw'.size
    clear hw'
    by_cases hlt : k < l.length
    · obtain ⟨b, off, rfl, _, hbw, hok, hcl⟩ := (HSL.out.below HW.out).get hlt
      have hx : l[k]? = some l[k] := List.getElem?_eq_getElem hlt
      have hsm := HSM.out l[k] (List.getElem_mem hlt)
      generalize l[k] = x at hx hcl hok hsm
      have HFN := Lib.hid (filter_next (map_next hx NoteR.v) rightN)
      have HOK := Lib.hid (show Sl refD wr Any1 x.A x.v.needs from hok)
      obtain ⟨sm1, sm2⟩ := hsm
      have hri := fun W (q : Sl refD W Any1 x.A x.v.needs) => seal_right x.v x.A x.c W Any1 q (by omega) (by omega)
      have hclo := fun W (q : Sl refD W Any1 x.A x.v.needs) => clone_refs x.v.needs x.A x.c Any1 W q (by omega)
      have c0 : wr.cell? ⟨b, off + k * 5, none⟩ = some (.int .i64 x.v.house) := hcl 0 _ rfl
      have c1 : wr.cell? ⟨b, off + k * 5 + 1, none⟩ = some (.int .i64 x.v.no) := hcl 1 _ rfl
      have c2 : wr.cell? ⟨b, off + k * 5 + 2, none⟩ = some (.int .i64 x.v.day) := hcl 2 _ rfl
      have c3 : wr.cell? ⟨b, off + k * 5 + 3, none⟩ = some (.slice x.A x.v.needs.length x.c) := hcl 3 _ rfl
      have c4 : wr.cell? ⟨b, off + k * 5 + 4, none⟩ = some (.string x.v.text) := hcl 4 _ rfl
      clear hx hcl hok
      cases hr : rightN x.v with
      | false =>
        have HFQ := Lib.hid (show ((l.map NoteR.v).take (k + 1)).filter rightN = ((l.map NoteR.v).take k).filter rightN by rw [HFN.out, hr]; rfl)
        rw [hr] at hri
        have HRI := Lib.hid hri
        clear hri hclo hr
        go_wp2_with fail
        refine (HRI.out _ (HOK.out.below ((Below.refl _ _).alloc (Nat.le_refl _) _))).mono ?_
        rintro e w2 ⟨rfl, hb2⟩
        have HB2 := Lib.hid (show Below wr.heap.size wr w2 from ((Below.refl _ wr).alloc (Nat.le_refl _) _).trans (hb2.mono (by simp)))
        clear hb2
        go_wp2_with fail
        go_roundw
        case rel => exact ⟨k + 1, by omega, by go_num, HI.out.same HB2.out HFQ.out⟩
        case measure => simp [intOf]; omega
      | true =>
        have HFQ := Lib.hid (show ((l.map NoteR.v).take (k + 1)).filter rightN = ((l.map NoteR.v).take k).filter rightN ++ [x.v] by rw [HFN.out, hr]; rfl)
        rw [hr] at hri
        have HRI := Lib.hid hri
        have HCL := Lib.hid hclo
        clear hri hclo hr
        go_wp2_with fail
        refine (HRI.out _ (HOK.out.below ((Below.refl _ _).alloc (Nat.le_refl _) _))).mono ?_
        rintro e w2 ⟨rfl, hb2⟩
        have d0 : w2.cell? ⟨wr.heap.size, 0, none⟩ = some (.int .i64 x.v.house) := (hb2.cell (p := ⟨wr.heap.size, 0, none⟩) (by simp)).trans (by simp [go_sem])
        have d1 : w2.cell? ⟨wr.heap.size, 1, none⟩ = some (.int .i64 x.v.no) := (hb2.cell (p := ⟨wr.heap.size, 1, none⟩) (by simp)).trans (by simp [go_sem])
        have d2 : w2.cell? ⟨wr.heap.size, 2, none⟩ = some (.int .i64 x.v.day) := (hb2.cell (p := ⟨wr.heap.size, 2, none⟩) (by simp)).trans (by simp [go_sem])
        have d3 : w2.cell? ⟨wr.heap.size, 3, none⟩ = some (.slice x.A x.v.needs.length x.c) := (hb2.cell (p := ⟨wr.heap.size, 3, none⟩) (by simp)).trans (by simp [go_sem])
        have d4 : w2.cell? ⟨wr.heap.size, 4, none⟩ = some (.string x.v.text) := (hb2.cell (p := ⟨wr.heap.size, 4, none⟩) (by simp)).trans (by simp [go_sem])
        have d3f : w2.frozen? ⟨wr.heap.size, 3, none⟩ = false := (hb2.frozen (p := ⟨wr.heap.size, 3, none⟩) (by simp)).trans (by simp [go_sem])
        have HB2 := Lib.hid (show Below wr.heap.size wr w2 from ((Below.refl _ wr).alloc (Nat.le_refl _) _).trans (hb2.mono (by simp)))
        have hz2 : wr.heap.size < w2.heap.size := Nat.lt_of_lt_of_le (by simp) hb2.size
        clear hb2
        go_wp2_with fail
        refine (HCL.out _ (HOK.out.below HB2.out)).mono ?_
        rintro e w3 ⟨A', c', rfl, hs3, hb3⟩
        have e0 : w3.cell? ⟨wr.heap.size, 0, none⟩ = some (.int .i64 x.v.house) := (hb3.cell (p := ⟨wr.heap.size, 0, none⟩) hz2).trans d0
        have e1 : w3.cell? ⟨wr.heap.size, 1, none⟩ = some (.int .i64 x.v.no) := (hb3.cell (p := ⟨wr.heap.size, 1, none⟩) hz2).trans d1
        have e2 : w3.cell? ⟨wr.heap.size, 2, none⟩ = some (.int .i64 x.v.day) := (hb3.cell (p := ⟨wr.heap.size, 2, none⟩) hz2).trans d2
        have e3 : w3.cell? ⟨wr.heap.size, 3, none⟩ = some (.slice x.A x.v.needs.length x.c) := (hb3.cell (p := ⟨wr.heap.size, 3, none⟩) hz2).trans d3
        have e4 : w3.cell? ⟨wr.heap.size, 4, none⟩ = some (.string x.v.text) := (hb3.cell (p := ⟨wr.heap.size, 4, none⟩) hz2).trans d4
        have e3f : w3.frozen? ⟨wr.heap.size, 3, none⟩ = false := (hb3.frozen (p := ⟨wr.heap.size, 3, none⟩) hz2).trans d3f
        have HB3 := Lib.hid (HB2.out.trans (hb3.mono HB2.out.size))
        have HS3 := Lib.hid hs3
        have hz3 : wr.heap.size < w3.heap.size := Nat.lt_of_lt_of_le hz2 hb3.size
        clear hs3 hb3 d0 d1 d2 d3 d4 d3f
        have hbs : Below wr.heap.size wr (w3.setCell ⟨wr.heap.size, 3, none⟩ (.slice A' x.v.needs.length c')) := HB3.out.setCell (p := ⟨wr.heap.size, 3, none⟩) (Nat.le_refl _) _
        obtain ⟨rs, ho, hv, hbw0⟩ := HI.out
        have hown_lt := fun g hg => owns_lt ho.1 g hg
        have hbu : Below wr.heap.size wr ((w3.setCell ⟨wr.heap.size, 3, none⟩ (.slice A' x.v.needs.length c')).alloc (.cells #[.int .i64 x.v.house, .int .i64 x.v.no, .int .i64 x.v.day, .slice A' x.v.needs.length c', .string x.v.text] 95)) := hbs.alloc (by simp; omega) _
        have HOB := Lib.hid (ho.below hbu)
        have HNW := Lib.hid (show Sl refD ((w3.setCell ⟨wr.heap.size, 3, none⟩ (.slice A' x.v.needs.length c')).alloc (.cells #[.int .i64 x.v.house, .int .i64 x.v.no, .int .i64 x.v.day, .slice A' x.v.needs.length c', .string x.v.text] 95)) (fun b => Any1 b ∧ some b ≠ u5.ownBlock) A' x.v.needs from
          ((HS3.out.keep (w' := w3.setCell ⟨wr.heap.size, 3, none⟩ (.slice A' x.v.needs.length c')) ⟨by simp [World.setCell], fun b _ hb => by
            show (w3.heap.modify wr.heap.size _)[b]? = _
            rw [Array.getElem?_modify, if_neg (by omega)]⟩).below ((Below.refl _ _).alloc (Nat.le_refl _) _)).mono fun b _ hb => ⟨trivial, fun e => by have := (hown_lt b e.symm).2; omega⟩)
        have HV := Lib.hid hv
        have HBU := Lib.hid hbu
        have hrl : rs.length ≤ 100000 := by
          have := congrArg List.length hv
          have h2 := List.length_filter_le rightN ((l.map NoteR.v).take k)
          rw [List.length_map] at this
          rw [List.length_take, List.length_map] at h2
          omega
        obtain ⟨i0, hi0, hz0, hz1, hz2'⟩ := info_parts Tryz.infoItem
        clear hbs hbu ho hv hown_lt
        go_wp2_with (at_builtin; refine wpList_append_any _ rfl (.tmp 23) (.tmp 25) _ rfl w1.heap.size 95 i0 _ 5 64 Tryz.underlying71 hi0 hz0 hz1 hz2' rfl (by omega) _ rs.length (rs.flatMap noteD.cells) rfl HOB.out.1 (w3.heap.size + 1) (some ⟨w3.heap.size, 0, none⟩) 1 1 [.int .i64 x.v.house, .int .i64 x.v.no, .int .i64 x.v.day, .slice A' x.v.needs.length c', .string x.v.text] rfl ?c2 ?c6 ?c3 ?c4 ?c5 ?_)
        case c2 => simpa using reads_new (w3.setCell ⟨wr.heap.size, 3, none⟩ (.slice A' x.v.needs.length c')) [.int .i64 x.v.house, .int .i64 x.v.no, .int .i64 x.v.day, .slice A' x.v.needs.length c', .string x.v.text] 95 1 5 rfl
        case c6 => exact noteD.one ⟨x.v, A', c'⟩
        case c3 => unfold maxLen; omega
        case c4 => omega
        case c5 => simp; omega
        intro v9 w9 hown9 hg9 hat9
        have HM9 := Lib.hid (OwnS.more (D := noteD) (S := Any1) (news := [⟨x.v, A', c'⟩]) (xs := rs) HOB.out.2 (fun y hy => by rw [List.mem_singleton.1 hy]; exact HNW.out) rfl rfl hown9 hg9 (by simpa using hat9))
        have HB9 := Lib.hid (show Below w1.heap.size w1 w9 from (HW.out.trans (HBU.out.mono hw1)).grown hg9 (Nat.le_trans hw1 HBU.out.size) (fun g hg => (owns_lt HOB.out.1 g hg).1))
        clear hown9 hg9 hat9
        go_wp2_with fail
        go_roundw
        case rel => exact ⟨k + 1, by omega, by go_num, ⟨rs ++ [⟨x.v, A', c'⟩], HM9.out, by rw [HFQ.out, List.map_append, HV.out]; rfl, HB9.out⟩⟩
        case measure => simp [intOf]; omega
    · obtain rfl : k = l.length := by omega
      obtain ⟨rs, ho, hv, hbw⟩ := HI.out
      rw [List.take_of_length_le (by simp)] at hv
      have hrr : ∀ r ∈ rs, rightN r.v = true := fun r hr => by
        have : r.v ∈ rs.map NoteR.v := List.mem_map_of_mem hr
        rw [hv, List.mem_filter] at this
        exact this.2
      have hrl : rs.length ≤ l.length := by
        have := congrArg List.length hv
        have h2 := List.length_filter_le rightN (l.map NoteR.v)
        rw [List.length_map] at this h2
        omega
      have hso := gossip_sorted w1.heap.size _ rs w1 wr ho hrr (tab_up (HT.out.on ((HB1.out.trans (hbw.mono HB1.out.size)).mono hB)) (Nat.le_trans hB HB1.out.size)) hbw hbw.size (by omega)
      have HSO := Lib.hid hso
      have HV := Lib.hid hv
      clear hso hv ho hrr hbw
      go_wp2_with fail
      refine HSO.out.mono ?_
      rintro e w2 ⟨A2, c2, rs2, rfl, hsl2, hon, hle2, hb2⟩
      have HSL2 := Lib.hid hsl2
      have HJ := Lib.hid (once_join hon HV.out)
      have HB2 := Lib.hid (HB1.out.trans (hb2.mono HB1.out.size))
      have HLE := Lib.hid hle2
      clear hsl2 hon hb2 hle2
      go_wp2_with fail
      go_ret
      exact ⟨A2, c2, rs2, rfl, HSL2.out, HJ.out, by rw [List.length_map]; exact Nat.le_trans HLE.out hrl, HB2.out⟩

set_option maxRecDepth 100000 in
set_option maxHeartbeats 4000000 in
theorem gossip_notes (l : List NoteR) (A : Option Addr) (c : Nat) (w : World) (h : Sl noteD w Any1 A l) (hl : l.length ≤ 100000) : Calls Tryz.prog 35 #[.slice A l.length c] w (NotesPostC l w) := by
  have H := Lib.hid h
  clear h
  go_enter Tryz.func35, Tryz.ntmps35
  go_wp2_with fail
  go_loopw [3, 8] (fun t u wr => ∃ k : Nat, k ≤ l.length ∧ u = .int .i64 (k : Int) ∧ Hid (OwnS noteD 42 w.heap.size wr Any1 t (l.take k)) ∧ Hid (Below w.heap.size w wr)) (fun _ u _ => l.length - (intOf u).toNat)
  case atStart => exact ⟨0, Nat.zero_le _, rfl, OwnS.nil_, Below.refl _ _⟩
  case round =>
    obtain ⟨k, hk, rfl, HO, HW⟩ := hrel
    have hw1 := HW.out.size
    by_cases hlt : k < l.length
    · obtain ⟨b, off, rfl, _, hbw, hok, hcl⟩ := (H.out.below HW.out).get hlt
      have hb0 : b < w.heap.size := by
        obtain ⟨b2, off2, e2, _, h2, _⟩ := H.out.1 (fun e => by rw [e] at hlt; simp at hlt)
        injection e2 with e2
        injection e2 with e2
        omega
      have htk : l.take (k + 1) = l.take k ++ [l[k]] := List.take_succ_eq_append_getElem hlt
      have hok0 : Sl refD w Any1 l[k].A l[k].v.needs := H.out.2 _ (List.getElem_mem hlt)
      generalize l[k] = x at hcl hok htk hok0
      have HTK := Lib.hid htk
      have HOK := Lib.hid hok0
      have c0 : wr.cell? ⟨b, off + k * 5, none⟩ = some (.int .i64 x.v.house) := hcl 0 _ rfl
      have c1 : wr.cell? ⟨b, off + k * 5 + 1, none⟩ = some (.int .i64 x.v.no) := hcl 1 _ rfl
      have c2 : wr.cell? ⟨b, off + k * 5 + 2, none⟩ = some (.int .i64 x.v.day) := hcl 2 _ rfl
      have c3 : wr.cell? ⟨b, off + k * 5 + 3, none⟩ = some (.slice x.A x.v.needs.length x.c) := hcl 3 _ rfl
      have c4 : wr.cell? ⟨b, off + k * 5 + 4, none⟩ = some (.string x.v.text) := hcl 4 _ rfl
      have hlk : (l.take k).length ≤ 100000 := by rw [List.length_take]; omega
      generalize l.take k = rs at *
      obtain ⟨i0, hi0, hz0, hz1, hz2⟩ := info_parts Tryz.infoNote
      have hbu : Below wr.heap.size wr ((wr.alloc (.cells #[.int .i64 x.v.house, .int .i64 x.v.no, .int .i64 x.v.day, .slice x.A x.v.needs.length x.c, .string x.v.text] 95)).alloc (.cells #[.int .i64 x.v.house, .int .i64 x.v.no, .int .i64 x.v.day, .slice x.A x.v.needs.length x.c, .string x.v.text] 42)) := ((Below.refl _ _).alloc (Nat.le_refl _) _).alloc (by simp) _
      have HOB := Lib.hid (HO.out.below hbu)
      have HBU := Lib.hid hbu
      have hown_lt := fun g hg => owns_lt HO.out.1 g hg
      have HNW := Lib.hid (show Sl refD ((wr.alloc (.cells #[.int .i64 x.v.house, .int .i64 x.v.no, .int .i64 x.v.day, .slice x.A x.v.needs.length x.c, .string x.v.text] 95)).alloc (.cells #[.int .i64 x.v.house, .int .i64 x.v.no, .int .i64 x.v.day, .slice x.A x.v.needs.length x.c, .string x.v.text] 42)) (fun b => Any1 b ∧ some b ≠ u3.ownBlock) x.A x.v.needs from
        (sl_low HOK.out fun b hb => ⟨trivial, fun e => by have := (hown_lt b e.symm).1; omega⟩).below2 HW.out hbu)
      clear hcl hok htk hok0 hbu hown_lt
      go_wp2_with (at_builtin; refine wpList_append_any _ rfl (.tmp 12) (.tmp 14) _ rfl w.heap.size 42 i0 _ 5 64 Tryz.underlying33 hi0 hz0 hz1 hz2 rfl (by omega) _ rs.length (rs.flatMap noteD.cells) rfl HOB.out.1 (wr.heap.size + 1 + 1) (some ⟨wr.heap.size + 1, 0, none⟩) 1 1 [.int .i64 x.v.house, .int .i64 x.v.no, .int .i64 x.v.day, .slice x.A x.v.needs.length x.c, .string x.v.text] rfl ?c2 ?c6 ?c3 ?c4 ?c5 ?_)
      case c2 => simpa using reads_new (wr.alloc (.cells #[.int .i64 x.v.house, .int .i64 x.v.no, .int .i64 x.v.day, .slice x.A x.v.needs.length x.c, .string x.v.text] 95)) [.int .i64 x.v.house, .int .i64 x.v.no, .int .i64 x.v.day, .slice x.A x.v.needs.length x.c, .string x.v.text] 42 1 5 rfl
      case c6 => exact noteD.one x
      case c3 => unfold maxLen; omega
      case c4 => omega
      case c5 => simp; omega
      intro v9 w9 hown9 hg9 hat9
      have HM9 := Lib.hid (OwnS.more (D := noteD) (S := Any1) (news := [x]) (xs := rs) HOB.out.2 (fun y hy => by rw [List.mem_singleton.1 hy]; exact HNW.out) rfl rfl hown9 hg9 (by simpa using hat9))
      have HB9 := Lib.hid (show Below w.heap.size w w9 from (HW.out.trans (HBU.out.mono hw1)).grown hg9 (Nat.le_trans hw1 HBU.out.size) (fun g hg => (owns_lt HOB.out.1 g hg).1))
      clear hown9 hg9 hat9
      go_wp2_with fail
      go_roundw
      case rel => exact ⟨k + 1, by omega, by go_num, by rw [HTK.out]; exact HM9.out, HB9.out⟩
      case measure => simp [intOf]; omega
    · obtain rfl : k = l.length := by omega
      have ho := HO.out
      rw [List.take_of_length_le (Nat.le_refl _)] at ho
      obtain ⟨A3, c3, rfl, hc3, hm3⟩ := ho.slice
      have HC3 := Lib.hid hc3
      have HM3 := Lib.hid hm3
      have HS := Lib.hid (ho.sl (fun _ _ _ => trivial))
      clear ho hc3 hm3
      go_wp2_with fail
      go_ret
      exact ⟨A3, c3, rfl, HC3.out, HM3.out, HS.out, HW.out⟩

set_option maxHeartbeats 400000 in
theorem gossip_join (a b : List NoteR) (Aa Ab : Option Addr) (ca cb : Nat) {B : Nat} (w : World) (ht : Tab B w) (hB : B ≤ w.heap.size) (ha : Sl noteD w Any1 Aa a) (hb : Sl noteD w Any1 Ab b) (hsm : ∀ r ∈ a ++ b, SmN r.v) (hn : a.length + b.length ≤ 100000) :
    Calls Tryz.prog 14 #[.slice Aa a.length ca, .slice Ab b.length cb] w (JoinPostC ((a ++ b).map NoteR.v) w) := by
  have HI := Lib.hid (gossip_items a b Aa Ab ca cb w ht hB ha hb hsm hn)
  clear ht ha hb hsm
  go_enter Tryz.func14, Tryz.ntmps14
  go_wp2_with fail
  refine HI.out.mono ?_
  rintro e w1 ⟨A1, c1, rs, rfl, hsl, hj, hle, hb1⟩
  have HN := Lib.hid (gossip_notes rs A1 c1 w1 hsl (by rw [List.length_map, List.length_append] at hle; omega))
  have HJ := Lib.hid hj
  have HB1 := Lib.hid hb1
  have HLE := Lib.hid hle
  clear hsl hj hb1 hle
  go_wp2_with fail
  refine HN.out.mono ?_
  rintro e w2 ⟨A2, c2, rfl, hc2, hm2, hsl2, hb2⟩
  have HB2 := Lib.hid (HB1.out.trans (hb2.mono HB1.out.size))
  have HS2 := Lib.hid hsl2
  have HC2 := Lib.hid hc2
  have HM2 := Lib.hid hm2
  clear hsl2 hb2 hc2 hm2
  go_wp2_with fail
  go_ret
  exact ⟨A2, c2, rs, rfl, HC2.out, HM2.out, HS2.out, HJ.out, HLE.out, HB2.out⟩
end Go.Proofs.YtaojnjealccjiaaGreatDoor

/- The contracts of strings.Builder.WriteString, String at this program; of wire.Int, Num, Text, Nums. -/
import Derived.Test.YtaojnjealccjiaaGreatDoorNWire
import Derived.Test.YtaojnjealccjiaaGreatDoorDrawn2
namespace Go.Proofs.YtaojnjealccjiaaGreatDoor
open Go Go.RowKit Nt Go.Proofs
set_option linter.unusedVariables false
set_option linter.unusedSimpArgs false

abbrev TB : Nat := 199
abbrev TU : Nat := 5
theorem Tryz.infoByte : (Tryz.prog.info? 5).map (fun i => (i.zero, i.size, i.bytes)) = some (some (.int .u8 0), 1, 1) := by kernel_rfl
theorem builder_below {T e B b : Nat} {bs : List Value} {w w' : World} (h : Lib.IsBuilderF T e B b bs w) (hb : Below w.heap.size w w') : Lib.IsBuilderF T e B b bs w' := by
  have go : ∀ p, Lib.BuilderAtF T e B b p bs w → Lib.BuilderAtF T e B b p bs w' := fun p ⟨h1, v, h2, h3, h4⟩ => by
    refine ⟨h1, v, ?_, ⟨h3.1, ?_⟩, h4⟩
    · rw [hb.block b (Array.getElem?_eq_some_iff.1 h2).1]; exact h2
    · rcases h3.2 with q | ⟨g, cap, cur, fz, e1, e2, e3, rest⟩
      · exact .inl q
      · exact .inr ⟨g, cap, cur, fz, e1, e2, by rw [hb.block g (Array.getElem?_eq_some_iff.1 e3).1]; exact e3, rest⟩
  rcases h with h | h
  · exact .inl (go _ h)
  · exact .inr (go _ h)
theorem b_copy (B b : Nat) (bs : List Value) (w : World) (h : Lib.IsBuilderF TB TU B b bs w) :
    Calls Tryz.prog 177 #[.pointer (some ⟨b, 0, none⟩)] w fun e w' => e = .returned (.tuple #[]) ∧ Lib.BuilderAtF TB TU B b (.pointer (some ⟨b, 0, none⟩)) bs w' ∧ Below B w w' := by
  rcases h with h | h
  · refine (copy_fresh b w h.cell0 h.shape h.frozen0).mono ?_
    rintro e w' ⟨rfl, rfl⟩
    exact ⟨rfl, h.used _, (Below.refl B w).setCell (p := ⟨b, 0, none⟩) h.1 _⟩
  · refine (copy_used b w h.cell0).mono ?_
    rintro e w' ⟨rfl, rfl⟩
    exact ⟨rfl, h, Below.refl B _⟩
set_option maxHeartbeats 2000000 in
set_option maxRecDepth 100000 in
theorem b_write (B b : Nat) (bs : List Value) (s : ByteArray) (w : World) (h : Lib.IsBuilderF TB TU B b bs w) (hlen : bs.length + s.size ≤ 140737488355328) (hBw : B ≤ w.heap.size) :
    Calls Tryz.prog 171 #[.pointer (some ⟨b, 0, none⟩), .string s] w fun e w' => e = .returned (.tuple #[.int .i64 s.size, .nilIface]) ∧ Lib.IsBuilderF TB TU B b (bs ++ Lib.strCells s) w' ∧ Below B w w' := by
  obtain ⟨i0, hi, hz0, hz1, hz2⟩ := info_parts Tryz.infoByte
  have H := Lib.hid h
  clear h
  go_enter Tryz.func171, Tryz.ntmps171
  go_wp2_with (go_at_call 177; refine (b_copy B b bs _ H.out).mono ?_)
  rintro e w1 ⟨rfl, h1, hb1⟩
  obtain ⟨hB, v, hbk, hown, hne⟩ := h1
  have c0 : w1.cell? ⟨b, 0, none⟩ = some (.pointer (some ⟨b, 0, none⟩)) := by rw [Lib.cell_of_heap hbk]; rfl
  have c1 : w1.cell? ⟨b, 1, none⟩ = some v := by rw [Lib.cell_of_heap hbk]; rfl
  have HBK := Lib.hid hbk
  have HOW := Lib.hid hown
  have HNE := Lib.hid hne
  have HB1 := Lib.hid hb1
  have hw1 := hb1.size
  clear hbk hown hne hb1
  go_wp2_with (at_builtin; refine Lib.wpList_append_own_stringF _ rfl _ _ 197 9 rfl B 5 i0 Tryz.underlying197 Tryz.underlying9 hi hz0 hz1 hz2 _ _ _ rfl HOW.out s rfl ?c3 ?c4 ?c5 ?_)
  case c3 => unfold maxLen; omega
  case c4 => omega
  case c5 => omega
  intro v' w2 hown' hgrow _
  have hlt : b < w1.heap.size := (Array.getElem?_eq_some_iff.1 HBK.out).1
  have hb2 : w2.heap[b]? = some (.cells #[.pointer (some ⟨b, 0, none⟩), v] 199 (0, 0)) := by
    rw [hgrow.block b hlt (fun e => HNE.out e.symm)]
    exact HBK.out
  have d0 : w2.cell? ⟨b, 0, none⟩ = some (.pointer (some ⟨b, 0, none⟩)) := by rw [Lib.cell_of_heap hb2]; rfl
  have d1 : w2.cell? ⟨b, 1, none⟩ = some v := by rw [Lib.cell_of_heap hb2]; rfl
  have f1 : w2.frozen? ⟨b, 1, none⟩ = false := Lib.frozen_of_heap hb2 1
  obtain ⟨ao, n', cap, rfl⟩ : ∃ ao n' cap, v' = .slice ao n' cap := by
    rcases hown'.2 with ⟨hv, _⟩ | ⟨g, cap, cur, fz, hv, _⟩
    · exact ⟨_, _, _, hv⟩
    · exact ⟨_, _, _, hv⟩
  have HO' := Lib.hid hown'
  have HG := Lib.hid hgrow
  have HB2 := Lib.hid hb2
  clear hown' hgrow hb2
  go_wp2
  go_ret2
  refine ⟨rfl, .inr ?_, ?_⟩
  · exact Lib.BuilderAtF.put (T := TB) (e := TU) hB HB2.out (bs' := bs ++ Lib.strCells s) (by simpa [Lib.strCells_length] using HO'.out) (by decide)
  · exact (HB1.out.grown HG.out (by omega) (fun k hk => (HOW.out.lt k hk).1)).setCell (p := ⟨b, 1, none⟩) hB _
theorem b_string (B b : Nat) (l : List UInt8) (w : World) (h : Lib.IsBuilderF TB TU B b (Lib.byteCells l) w) (hBw : B ≤ w.heap.size) :
    Calls Tryz.prog 172 #[.pointer (some ⟨b, 0, none⟩)] w fun e w' => e = .returned (.string ⟨l.toArray⟩) ∧ Below B w w' :=
  (Any.Builder_String_any_k Tryz.lays169 Tryz.Builder_Extra_169 B b l w h hBw).mono fun e w' q => ⟨q.1, q.2.2.1⟩
theorem ret_str {a b : ByteArray} (h : a = b) : Ending.returned (.string a) = .returned (.string b) := by rw [h]

set_option maxHeartbeats 400000 in
theorem wire_int (n : Int) (h0 : -9223372036854775808 ≤ n) (h1 : n ≤ 9223372036854775807) {B : Nat} (w : World) (ht : Tab B w) :
    Calls Tryz.prog 155 #[.int .i64 n] w (SaysS (num n) w) := by
  have HT := Lib.hid ht
  have hl := Lib.itoa_length_le n h0 h1
  clear ht
  go_enter Tryz.func155, Tryz.ntmps155
  go_wp2_with (go_at_call 157; refine (wire_itoa n h0 h1 _ HT.out).mono ?_; rintro e w1 ⟨rfl, hb⟩)
  go_ret
  exact ⟨ret_str (str_app _ [59]), hb⟩
set_option maxHeartbeats 400000 in
theorem wire_num (n : Int) (h0 : 0 ≤ n) (h1 : n ≤ 9223372036854775807) {B : Nat} (w : World) (ht : Tab B w) :
    Calls Tryz.prog 124 #[.int .i64 n] w (SaysS (num n) w) := by
  have HT := Lib.hid ht
  clear ht
  go_enter Tryz.func124, Tryz.ntmps124
  go_wp2_with (go_at_call 155; refine (wire_int n (by omega) h1 _ HT.out).mono ?_; rintro e w1 ⟨rfl, hb⟩)
  go_ret
  exact ⟨rfl, hb⟩
set_option maxHeartbeats 400000 in
theorem wire_text (s : ByteArray) (hs : s.size ≤ 1000000) {B : Nat} (w : World) (ht : Tab B w) :
    Calls Tryz.prog 126 #[.string s] w (SaysS (txt s) w) := by
  have HT := Lib.hid ht
  have hl := Lib.itoa_length_le (s.size : Int) (by omega) (by omega)
  clear ht
  go_enter Tryz.func126, Tryz.ntmps126
  go_wp2_with (go_at_call 157; refine (wire_itoa _ (by omega) (by omega) _ HT.out).mono ?_; rintro e w1 ⟨rfl, hb⟩)
  go_ret
  refine ⟨ret_str ?_, hb⟩
  apply ByteArray.ext
  simp [ByteArray.data_append, txt]

def intD : Dat Int where
  cells n := [.int .i64 n]
  k := 1
  len _ := rfl
  one n v hv := by simp at hv; rw [hv]; rfl
  ok _ _ _ := True
  keep _ _ := trivial
  mono _ _ := trivial
theorem num_len (n : Int) (h0 : -9223372036854775808 ≤ n) (h1 : n ≤ 9223372036854775807) : (num n).length ≤ 22 := by
  have := Lib.itoa_length_le n h0 h1
  unfold num
  simp
  omega
theorem nums_len : ∀ (l : List Int), (∀ n ∈ l, -9223372036854775808 ≤ n ∧ n ≤ 9223372036854775807) → (l.flatMap num).length ≤ l.length * 22
  | [], _ => by simp
  | x :: l, h => by
    have h1 := num_len x (h x (by simp)).1 (h x (by simp)).2
    have h2 := nums_len l (fun n hn => h n (by simp [hn]))
    simp only [List.flatMap_cons, List.length_append, List.length_cons]
    omega
theorem byte_app (a b : List UInt8) : Lib.byteCells a ++ Lib.strCells ⟨b.toArray⟩ = Lib.byteCells (a ++ b) := by
  rw [Lib.byteCells_append]
  rfl
/-- what the loop keeps -/
def ListAt (l : List Int) (w wr : World) (k : Nat) : Prop := Lib.IsBuilderF TB TU w.heap.size w.heap.size (Lib.byteCells (Lib.itoa l.length ++ [91] ++ (l.take k).flatMap num)) wr ∧ Below w.heap.size w wr
set_option maxRecDepth 100000 in
set_option maxHeartbeats 2000000 in
theorem wire_nums (l : List Int) (A : Option Addr) (c : Nat) (S : Nat → Prop) {B : Nat} (w : World) (ht : Tab B w) (hB : B ≤ w.heap.size) (hs : Sl intD w S A l) (hn : ∀ n ∈ l, -9223372036854775808 ≤ n ∧ n ≤ 9223372036854775807) (hl : l.length ≤ 1000) :
    Calls Tryz.prog 156 #[.slice A l.length c, .func (.func 155) #[] #[]] w (SaysS (nums l) w) := by
  have HT := Lib.hid ht
  have HS := Lib.hid hs
  have HN := Lib.hid hn
  have hl0 := Lib.itoa_length_le (l.length : Int) (by omega) (by omega)
  clear ht hs hn
  go_enter Tryz.func156, Tryz.ntmps156
  go_wp2_with fail
  refine (wire_itoa _ (by omega) (by omega) _ (HT.out.next hB ((Below.refl _ _).alloc (Nat.le_refl _) _))).mono ?_
  rintro e w1 ⟨rfl, hb1⟩
  have HI := Lib.hid (builder_below (Lib.IsBuilderF.of (Lib.fresh_isBuilder TB TU w)) hb1)
  have HB1 := Lib.hid (show Below w.heap.size w w1 from ((Below.refl _ w).alloc (Nat.le_refl _) _).trans (hb1.mono (by simp)))
  have hw1 := HB1.out.size
  clear hb1
  go_wp2_with fail
  refine (b_write w.heap.size w.heap.size [] _ _ HI.out (by rw [ByteArray.size_append]; show 0 + ((Lib.itoa l.length).toArray.size + 1) ≤ _; rw [List.size_toArray]; omega) hw1).mono ?_
  rintro e w2 ⟨rfl, hI2, hb2⟩
  have HI2 := Lib.hid hI2
  have HB2 := Lib.hid (HB1.out.trans hb2)
  have hw2 := HB2.out.size
  clear hI2 hb2
  go_wp2_with fail
  go_loopw [15] (fun u wr => ∃ k : Nat, k ≤ l.length ∧ u = .int .i64 (k : Int) ∧ ListAt l w wr k) (fun u _ => l.length - (intOf u).toNat)
  case atStart =>
    refine ⟨0, Nat.zero_le _, rfl, ?_, HB2.out⟩
    have e : Lib.strCells (⟨(Lib.itoa l.length).toArray⟩ ++ ⟨#[91]⟩) = Lib.byteCells (Lib.itoa l.length ++ [91]) := by
      rw [show (⟨(Lib.itoa l.length).toArray⟩ ++ ⟨#[91]⟩ : ByteArray) = ⟨(Lib.itoa l.length ++ [91]).toArray⟩ from str_app _ [91]]
      rfl
    have h := HI2.out
    rw [List.nil_append, e] at h
    rw [List.take_zero, List.flatMap_nil, List.append_nil]
    exact h
  case round =>
    obtain ⟨k, hk, rfl, hI, hB3⟩ := hrel
    have HI3 := Lib.hid hI
    have HB3 := Lib.hid hB3
    have hw3 := hB3.size
    clear hI hB3
    have hlen : (Lib.itoa l.length ++ [91] ++ (l.take k).flatMap num).length ≤ 22 + 1000 * 22 := by
      have := nums_len (l.take k) (fun n hn => HN.out n (List.mem_of_mem_take hn))
      simp only [List.length_append, List.length_take, List.length_cons, List.length_nil] at this ⊢
      omega
    by_cases hlt : k < l.length
    · obtain ⟨b, off, rfl, _, hbw, _, hcl⟩ := HS.out.get hlt
      have hx : l[k]? = some l[k] := List.getElem?_eq_getElem hlt
      have hmem := HN.out l[k] (List.getElem_mem hlt)
      generalize l[k] = x at hx hcl hmem
      have c0 : wr.cell? ⟨b, off + k, none⟩ = some (.int .i64 x) := by
        have := hcl 0 _ rfl
        simp only [intD, Nat.mul_one, Nat.add_zero] at this
        exact (HB3.out.cell (p := ⟨b, off + k, none⟩) hbw).trans this
      have HX := Lib.hid hx
      have hbr : b < wr.heap.size := by omega
      have hnl := num_len x hmem.1 hmem.2
      clear hcl hx
      go_wp2_with fail
      refine (wire_int x hmem.1 hmem.2 _ (HT.out.on (HB3.out.mono hB))).mono ?_
      rintro e w4 ⟨rfl, hb4⟩
      have HI4 := Lib.hid (builder_below HI3.out hb4)
      have HB4 := Lib.hid (HB3.out.trans (hb4.mono hw3))
      have hw4 := HB4.out.size
      clear hb4
      go_wp2_with fail
      refine (b_write w.heap.size w.heap.size _ _ _ HI4.out (by rw [Lib.byteCells_length]; show _ + (num x).toArray.size ≤ _; rw [List.size_toArray]; omega) hw4).mono ?_
      rintro e w5 ⟨rfl, hI5, hb5⟩
      have HI5 := Lib.hid hI5
      have HB5 := Lib.hid (HB4.out.trans hb5)
      clear hI5 hb5
      go_wp2_with fail
      go_roundw
      case rel =>
        refine ⟨k + 1, by omega, by go_num, ?_, HB5.out⟩
        have := HI5.out
        rw [byte_app] at this
        obtain ⟨hk', he⟩ := List.getElem?_eq_some_iff.1 HX.out
        rw [List.take_succ_eq_append_getElem hk', he]
        simpa using this
      case measure => simp [intOf]; omega
    · obtain rfl : k = l.length := by omega
      have HL := Lib.hid (show l.take l.length = l from List.take_of_length_le (Nat.le_refl _))
      obtain ⟨q, hq, hI, hql⟩ : ∃ q, q = Lib.itoa l.length ++ [91] ++ (l.take l.length).flatMap num ∧ Lib.IsBuilderF TB TU w.heap.size w.heap.size (Lib.byteCells q) wr ∧ q.length ≤ 22022 := ⟨_, rfl, HI3.out, hlen⟩
      have HQ := Lib.hid hq
      have HIQ := Lib.hid hI
      clear hq hI hlen
      go_wp2_with fail
      refine (b_string w.heap.size w.heap.size q _ HIQ.out hw3).mono ?_
      rintro e w6 ⟨rfl, hb6⟩
      have HB6 := Lib.hid (HB3.out.trans hb6)
      clear hb6
      go_wp2_with fail
      go_ret
      refine ⟨ret_str ?_, HB6.out⟩
      rw [HQ.out, HL.out]
      exact str_app (Lib.itoa l.length ++ [91] ++ l.flatMap num) [93]
theorem wire_Nums (l : List Int) (A : Option Addr) (c : Nat) (S : Nat → Prop) {B : Nat} (w : World) (ht : Tab B w) (hB : B ≤ w.heap.size) (hs : Sl intD w S A l) (hn : ∀ n ∈ l, -9223372036854775808 ≤ n ∧ n ≤ 9223372036854775807) (hl : l.length ≤ 1000) :
    Calls Tryz.prog 125 #[.slice A l.length c] w (SaysS (nums l) w) := by
  have H := Lib.hid (wire_nums l A c S w ht hB hs hn hl)
  clear ht hs hn
  go_enter Tryz.func125, Tryz.ntmps125
  go_wp2_with fail
  refine H.out.mono ?_
  rintro e w1 ⟨rfl, hb⟩
  go_wp2_with fail
  go_ret
  exact ⟨rfl, hb⟩
end Go.Proofs.YtaojnjealccjiaaGreatDoor

/- The contract of restate.All. -/
import Derived.Test.YtaojnjealccjiaaGreatDoorOwn
namespace Go.Proofs.YtaojnjealccjiaaGreatDoor
open Go Go.RowKit Bg Go.Proofs
set_option linter.unusedVariables false

theorem Tryz.infoShown : (Tryz.prog.info? 60).map (fun i => (i.zero, i.size, i.bytes)) = some (some (.agg #[Value.string ⟨#[]⟩, Value.int .i64 0, Value.int .i64 0, Value.slice none 0 0, Value.int .i64 0, Value.slice none 0 0, Value.int .i64 0, Value.slice none 0 0, Value.int .i64 0, Value.slice none 0 0]), 10, 152) := by kernel_rfl

/-- the memory at A is not in a row -/
def Av (row : Option Nat) (A : Option Addr) : Prop := ∀ b o, A = some ⟨b, o, none⟩ → some b ≠ row
def AvR (row : Option Nat) (r : Raw) (x : ShownV) : Prop := (x.value.lo.p.dg ≠ [] → Av row r.A1) ∧ (x.value.lo.q.dg ≠ [] → Av row r.A2) ∧ (x.value.hi.p.dg ≠ [] → Av row r.A3) ∧ (x.value.hi.q.dg ≠ [] → Av row r.A4)
theorem isBig_grown {M n : Nat} {w w' : World} {s : Int} {A : Option Addr} {b : BigV} {row : Option Nat} (h : IsBig M w s A n b) (hg : w.grownBy w' row) (ha : b.dg ≠ [] → Av row A) : IsBig M w' s A n b := by
  refine ⟨h.1, h.2.1, h.2.2.1, fun hn => ?_⟩
  have hne : b.dg ≠ [] := fun e => hn (by rw [e]; rfl)
  exact (h.2.2.2.grown hg (ha hne)) hn
theorem IsShown.grown {M : Nat} {w w' : World} {r : Raw} {x : ShownV} {row : Option Nat} (h : IsShown M w r x) (ha : AvR row r x) (hg : w.grownBy w' row) : IsShown M w' r x :=
  ⟨h.1, h.2.1, ⟨isBig_grown h.2.2.1.1 hg ha.1, isBig_grown h.2.2.1.2 hg ha.2.1⟩, ⟨isBig_grown h.2.2.2.1 hg ha.2.2.1, isBig_grown h.2.2.2.2 hg ha.2.2.2⟩⟩
theorem av_new {M n : Nat} {w : World} {s : Int} {A : Option Addr} {b : BigV} (h : IsBig M w s A n b) (hn : b.dg ≠ []) : Av (some w.heap.size) A := by
  intro b' o e hh
  obtain ⟨b2, o2, e2, hlt, _⟩ := h.2.2.2 (by simpa using hn)
  rw [e2] at e
  injection e with e
  injection e with e
  injection hh with hh
  omega
theorem IsShown.av_new {M : Nat} {w : World} {r : Raw} {x : ShownV} (h : IsShown M w r x) : AvR (some w.heap.size) r x := ⟨Go.Proofs.YtaojnjealccjiaaGreatDoor.av_new h.2.2.1.1, Go.Proofs.YtaojnjealccjiaaGreatDoor.av_new h.2.2.1.2, Go.Proofs.YtaojnjealccjiaaGreatDoor.av_new h.2.2.2.1, Go.Proofs.YtaojnjealccjiaaGreatDoor.av_new h.2.2.2.2⟩
theorem av_fresh {B : Nat} {r : Raw} {x : ShownV} {row : Option Nat} (h : FreshR B r) (hr : ∀ g, row = some g → g < B) : AvR row r x := by
  have go : ∀ A, Fresh B A → Av row A := fun A hf b o e hh => by have := hf b o e; have := hr b hh.symm; omega
  exact ⟨fun _ => go _ h.1, fun _ => go _ h.2.1, fun _ => go _ h.2.2.1, fun _ => go _ h.2.2.2⟩
theorem own_below {w w' : World} {B e size n : Nat} {v : Value} {xs : List Value} (h : w.ownsRow B e size v n xs) (hb : Below w.heap.size w w') : w'.ownsRow B e size v n xs := by
  refine ⟨h.1, ?_⟩
  rcases h.2 with h1 | ⟨g, cap, cur, rfl, hB, hg, rest⟩
  · exact .inl h1
  · refine .inr ⟨g, cap, cur, rfl, hB, ?_, rest⟩
    have hlt : g < w.heap.size := by
      rcases Nat.lt_or_ge g w.heap.size with h2 | h2
      · exact h2
      · rw [Array.getElem?_eq_none h2] at hg; cases hg
    rw [hb.block g hlt]; exact hg
/-- what the loop keeps: the row v of the call's own holds figures that read as xs -/
def RowIs (M : Nat) (w wr : World) (v : Value) (xs : List ShownV) : Prop :=
  ∃ rs : List Raw, wr.ownsRow w.heap.size 60 10 v rs.length (rs.flatMap Raw.cells) ∧ rs.length = xs.length ∧ (∀ (j : Nat) (r : Raw) (x : ShownV), rs[j]? = some r → xs[j]? = some x → IsShown M wr r x ∧ r.k.size ≤ 1000 ∧ AvR v.ownBlock r x) ∧ Below w.heap.size w wr
theorem RowIs.below {M : Nat} {w wr w' : World} {v : Value} {xs : List ShownV} (h : RowIs M w wr v xs) (hb : Below wr.heap.size wr w') : RowIs M w w' v xs := by
  obtain ⟨rs, h1, h2, h3, h4⟩ := h
  refine ⟨rs, own_below h1 hb, h2, fun j r x a b => ⟨(h3 j r x a b).1.below hb, (h3 j r x a b).2⟩, h4.trans (hb.mono h4.size)⟩
theorem cells_len (r : Raw) : r.cells.length = 10 := rfl
theorem RowIs.shs {M : Nat} {w wr : World} {v : Value} {xs : List ShownV} (h : RowIs M w wr v xs) : ∃ A c rs, v = .slice A xs.length c ∧ Shs M wr A rs xs := by
  obtain ⟨rs, h1, h2, h3, h4⟩ := h
  obtain ⟨A, c, rfl⟩ : ∃ A c, v = .slice A rs.length c := by
    rcases h1.2 with ⟨h, hn⟩ | ⟨g, cap, cur, h, _⟩
    · exact ⟨none, 0, by rw [h, hn]⟩
    · exact ⟨_, _, h⟩
  refine ⟨A, c, rs, by rw [h2], lst_of_owns cells_len h1, h2, fun j r x a b => ⟨(h3 j r x a b).1, (h3 j r x a b).2.1⟩⟩
theorem reads_new (w : World) (cs : List Value) (t : TypeId) (k : Nat) (hk : cs.length = k) : Reads (w.alloc (.cells cs.toArray t)) (w.heap.size + 1) k (some ⟨w.heap.size, 0, none⟩) 1 cs := by
  refine ⟨by omega, fun _ => ⟨_, rfl, Nat.lt_succ_self _, fun j u hu => ?_⟩⟩
  have hb : Blk (w.alloc (.cells cs.toArray t)) w.heap.size t cs := heap_alloc_new w _
  have := hb.cell j
  rw [hu] at this
  unfold Addr.add
  split
  · next h0 => subst h0; exact this
  · simp only [Nat.zero_add]; exact this
/-- one figure more -/
theorem RowIs.more {M : Nat} {w W w' : World} {v v' : Value} {xs : List ShownV} {r : Raw} {x : ShownV} {rs : List Raw} (h2 : rs.length = xs.length) (h3 : ∀ (j : Nat) (r : Raw) (x : ShownV), rs[j]? = some r → xs[j]? = some x → IsShown M W r x ∧ r.k.size ≤ 1000 ∧ AvR v.ownBlock r x) (h4 : Below w.heap.size w W) (hr : IsShown M W r x) (hk : r.k.size ≤ 1000) (hav : AvR v.ownBlock r x)
    (ho : w'.ownsRow w.heap.size 60 10 v' (rs.length + 1) (rs.flatMap Raw.cells ++ r.cells)) (hg : W.grownBy w' v.ownBlock) (hat : v'.ownBlock = v.ownBlock ∨ v'.ownBlock = some W.heap.size) (hlow : ∀ g, v.ownBlock = some g → w.heap.size ≤ g) : RowIs M w w' v' (xs ++ [x]) := by
  have keep : ∀ (q : Raw) (y : ShownV), IsShown M W q y → AvR v.ownBlock q y → IsShown M w' q y ∧ AvR v'.ownBlock q y := fun q y a b => ⟨a.grown b hg, by
    rcases hat with e | e
    · rw [e]; exact b
    · rw [e]; exact a.av_new⟩
  refine ⟨rs ++ [r], by simpa using ho, by simp [h2], fun j q y a b => ?_, h4.grown hg h4.size hlow⟩
  rcases Nat.lt_or_ge j rs.length with hj | hj
  · rw [List.getElem?_append_left hj] at a
    rw [List.getElem?_append_left (by omega)] at b
    obtain ⟨p1, p2, p3⟩ := h3 j q y a b
    exact ⟨(keep q y p1 p3).1, p2, (keep q y p1 p3).2⟩
  · rw [List.getElem?_append_right hj] at a
    rw [List.getElem?_append_right (by omega), ← h2] at b
    rcases hjj : j - rs.length with _ | n
    · rw [hjj] at a b
      obtain rfl : r = q := by simpa using a
      obtain rfl : x = y := by simpa using b
      exact ⟨(keep r x hr hav).1, hk, (keep r x hr hav).2⟩
    · rw [hjj] at a; simp at a
theorem own_lt {w : World} {base n : Nat} {v : Value} {xs : List Value} (h : w.ownsRow base 60 10 v n xs) (g : Nat) (hg : v.ownBlock = some g) : base ≤ g ∧ g < w.heap.size := by
  rcases h.2 with ⟨rfl, _⟩ | ⟨g', cap, cur, rfl, hb, hh, _⟩
  · simp [Value.ownBlock] at hg
  · have : g' = g := by simpa [Value.ownBlock] using hg
    subst this
    exact ⟨hb, (Array.getElem?_eq_some_iff.1 hh).1⟩

def AllPost (M : Nat) (xs : List ShownV) (w : World) (e : Ending) (w' : World) : Prop := ∃ A c rs, e = .returned (.slice A xs.length c) ∧ Shs M w' A rs xs ∧ Below w.heap.size w w'
theorem filter_take {l : List ShownV} {k : Nat} {x : ShownV} (h : l[k]? = some x) (p : ShownV → Bool) : (l.take (k + 1)).filter p = if p x then (l.take k).filter p ++ [x] else (l.take k).filter p := by
  obtain ⟨hk, he⟩ := List.getElem?_eq_some_iff.1 h
  rw [List.take_succ_eq_append_getElem hk, he, List.filter_append]
  cases hp : p x <;> simp [List.filter_cons, hp]
theorem raw_one (r : Raw) : ∀ u ∈ r.cells, u.oneCell' = true := by
  intro u hu
  simp only [Raw.cells, List.mem_cons, List.not_mem_nil, or_false] at hu
  rcases hu with h | h | h | h | h | h | h | h | h | h <;> rw [h] <;> rfl

set_option maxRecDepth 100000 in
set_option maxHeartbeats 4000000 in
theorem res_all {M : Nat} (rs : List Raw) (l : List ShownV) (A : Option Addr) (c : Nat) (key : ByteArray) (w : World) (h : Shs M w A rs l) (hr : rightL oddK l = true) (hM : M + M + (M + M) ≤ 400000) (hl : l.length ≤ 1000000) :
    Calls Tryz.prog 10 #[.slice A l.length c, .string key] w (AllPost M (l.filter fun x => decide (x.key = key)) w) := by
  have hri := res_right rs l A c w h hM hl
  rw [hr] at hri
  have HR := Lib.hid hri
  have HRL := Lib.hid hr
  have H := Lib.hid h
  clear h hri hr
  go_enter Tryz.func10, Tryz.ntmps10
  go_wp2_with fail
  refine HR.out.mono ?_
  rintro e w0 ⟨rfl, hb0⟩
  have HB0 := Lib.hid hb0
  clear HR hb0
  go_wp2_with fail
  go_loopw [5, 13] (fun t u wr => ∃ k : Nat, k ≤ l.length ∧ u = .int .i64 (k : Int) ∧ RowIs M w wr t ((l.take k).filter fun x => decide (x.key = key))) (fun _ u _ => l.length - (intOf u).toNat)
  case atStart => exact ⟨0, Nat.zero_le _, rfl, [], ⟨rfl, .inl ⟨rfl, rfl⟩⟩, rfl, fun j r x hr => by simp at hr, HB0.out⟩
  case round =>
    obtain ⟨k, hk, rfl, hrow⟩ := hrel
    have HRW := Lib.hid hrow
    have hbw : Below w.heap.size w wr := by obtain ⟨_, _, _, _, hb⟩ := hrow; exact hb
    have HB := Lib.hid hbw
    clear hrow hbw
    by_cases hlt : k < l.length
    · obtain ⟨b, off, r, x, rfl, hbl, hr, hx, hsh, hks, hcl⟩ := (H.out.below HB.out).get hlt
      have HCL := Lib.hid hcl
      have HX := Lib.hid hx
      have HSH := Lib.hid hsh
      have HFT := Lib.hid (filter_take hx fun x => decide (x.key = key))
      have hxk := hsh.1
      have hxr := shownB_value oddK (rightL_mem oddK HRL.out x (List.mem_of_getElem? hx))
      clear hcl hr hsh hx
      have a0 : wr.cell? ⟨b, off + k * 10, none⟩ = some (Value.string r.k) := HCL.out 0 _ rfl
      have a1 : wr.cell? ⟨b, off + k * 10 + 1, none⟩ = some (Value.int .i64 r.nt) := HCL.out 1 _ rfl
      have a2 : wr.cell? ⟨b, off + k * 10 + 2, none⟩ = some (Value.int .i64 r.s1) := HCL.out 2 _ rfl
      have a3 : wr.cell? ⟨b, off + k * 10 + 3, none⟩ = some (Value.slice r.A1 r.n1 r.c1) := HCL.out 3 _ rfl
      have a4 : wr.cell? ⟨b, off + k * 10 + 4, none⟩ = some (Value.int .i64 r.s2) := HCL.out 4 _ rfl
      have a5 : wr.cell? ⟨b, off + k * 10 + 5, none⟩ = some (Value.slice r.A2 r.n2 r.c2) := HCL.out 5 _ rfl
      have a6 : wr.cell? ⟨b, off + k * 10 + 6, none⟩ = some (Value.int .i64 r.s3) := HCL.out 6 _ rfl
      have a7 : wr.cell? ⟨b, off + k * 10 + 7, none⟩ = some (Value.slice r.A3 r.n3 r.c3) := HCL.out 7 _ rfl
      have a8 : wr.cell? ⟨b, off + k * 10 + 8, none⟩ = some (Value.int .i64 r.s4) := HCL.out 8 _ rfl
      have a9 : wr.cell? ⟨b, off + k * 10 + 9, none⟩ = some (Value.slice r.A4 r.n4 r.c4) := HCL.out 9 _ rfl
      have hw0 := HB.out.size
      have hlk : ((l.take k).filter fun x => decide (x.key = key)).length ≤ 1000000 := Nat.le_trans (List.length_filter_le _ _) (by rw [List.length_take]; omega)
      by_cases hkk : r.k = key
      · have hkb : (r.k.toList == key.toList) = true := by rw [hkk]; simp
        have HFN := Lib.hid (show (l.take (k + 1)).filter (fun x => decide (x.key = key)) = (l.take k).filter (fun x => decide (x.key = key)) ++ [x] by rw [HFT.out, hxk, hkk]; simp)
        have HO := Lib.hid (fun W (q : IsShown M W r x) => res_own W q hxr hM)
        obtain ⟨i0, hi0, hz0, hz1, hz2⟩ := info_parts Tryz.infoShown
        clear hkk hxk hxr
        go_wp2_with fail
        refine (HO.out _ (HSH.out.alloc _)).mono ?_
        rintro e w1 ⟨r2, rfl, hA2, hk2, hF2, hb1⟩
        have hr1 : RowIs M w w1 u5 ((l.take k).filter fun x => decide (x.key = key)) := (HRW.out.below ((Below.refl _ _).alloc (Nat.le_refl _) _)).below hb1
        have hr2 := hr1.below (w' := w1.alloc (.cells #[Value.string r2.k, Value.int .i64 r2.nt, Value.int .i64 r2.s1, Value.slice r2.A1 r2.n1 r2.c1, Value.int .i64 r2.s2, Value.slice r2.A2 r2.n2 r2.c2, Value.int .i64 r2.s3, Value.slice r2.A3 r2.n3 r2.c3, Value.int .i64 r2.s4, Value.slice r2.A4 r2.n4 r2.c4] 60)) ((Below.refl _ _).alloc (Nat.le_refl _) _)
        have HA2 := Lib.hid (hA2.alloc (.cells #[Value.string r2.k, Value.int .i64 r2.nt, Value.int .i64 r2.s1, Value.slice r2.A1 r2.n1 r2.c1, Value.int .i64 r2.s2, Value.slice r2.A2 r2.n2 r2.c2, Value.int .i64 r2.s3, Value.slice r2.A3 r2.n3 r2.c3, Value.int .i64 r2.s4, Value.slice r2.A4 r2.n4 r2.c4] 60))
        have hz1' : wr.heap.size < w1.heap.size := by have := hb1.size; simp at this; omega
        have hk2' : r2.k.size ≤ 1000 := by rw [hk2]; exact hks
        have HRR := Lib.hid hr2
        have HAV := Lib.hid (show AvR (u5 : Value).ownBlock r2 x from av_fresh hF2 (fun g hg => by
          obtain ⟨rs0, o1, _⟩ := HRW.out
          have := (own_lt o1 g hg).2
          simp
          omega))
        clear hr1 hA2 hk2 hF2 hb1
        obtain ⟨rs0, o1, o2, o3, o4⟩ := hr2
        have HO1 := Lib.hid o1
        have HO2 := Lib.hid o2
        have HO3 := Lib.hid o3
        have HO4 := Lib.hid o4
        have hrl : rs0.length ≤ 1000000 := by omega
        have HLOW := Lib.hid (fun g hg => (own_lt o1 g hg).1)
        clear o1 o2 o3 o4 hlk
        go_wp2_with (at_builtin; refine wpList_append_any _ rfl (.tmp 21) (.tmp 24) _ rfl w.heap.size 60 i0 _ 10 152 Tryz.underlying22 hi0 hz0 hz1 hz2 rfl (by omega) _ rs0.length (rs0.flatMap Raw.cells) rfl HO1.out (w1.heap.size + 1) (some ⟨w1.heap.size, 0, none⟩) 1 1 r2.cells rfl ?c2 (raw_one r2) ?c3 ?c4 ?c5 ?_)
        case c2 => exact reads_new w1 r2.cells 60 10 rfl
        case c3 => unfold maxLen; omega
        case c4 => omega
        case c5 => simp; omega
        intro v9 w9 hown9 hg9 hat9
        have HM9 := Lib.hid (RowIs.more HO2.out HO3.out HO4.out HA2.out hk2' HAV.out hown9 hg9 (by simpa using hat9) HLOW.out)
        clear hown9 hg9 hat9
        go_wp2_with fail
        go_roundw
        case rel => exact ⟨k + 1, by omega, by go_num, by rw [HFN.out]; exact HM9.out⟩
        case measure => simp [intOf]; omega
      · have hkb : (r.k.toList == key.toList) = false := by
          rw [beq_eq_false_iff_ne]
          intro e
          rw [Lib.toList_data, Lib.toList_data] at e
          exact hkk (ByteArray.ext (Array.toList_inj.1 e))
        have HFN := Lib.hid (show (l.take (k + 1)).filter (fun x => decide (x.key = key)) = (l.take k).filter (fun x => decide (x.key = key)) by rw [HFT.out, hxk]; simp [hkk])
        clear hkk hxk hxr
        go_wp2_with fail
        go_roundw
        case rel => exact ⟨k + 1, by omega, by go_num, by rw [HFN.out]; exact HRW.out.below ((Below.refl _ _).alloc (Nat.le_refl _) _)⟩
        case measure => simp [intOf]; omega
    · obtain rfl : k = l.length := by omega
      have HL := Lib.hid (show l.take l.length = l from List.take_of_length_le (Nat.le_refl _))
      go_wp2_with fail
      go_ret
      obtain ⟨A9, c9, rs9, hv9, hs9⟩ := HRW.out.shs
      rw [HL.out] at hv9 hs9
      exact ⟨A9, c9, rs9, congrArg Ending.returned hv9, hs9, HB.out⟩
end Go.Proofs.YtaojnjealccjiaaGreatDoor

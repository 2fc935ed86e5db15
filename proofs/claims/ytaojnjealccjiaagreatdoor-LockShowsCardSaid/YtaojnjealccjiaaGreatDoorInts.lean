/- Rows of cells that are read, and blocks that are known whole: the words for digits. -/
import Derived.Test.YtaojnjealccjiaaGreatDoorProg
import Derived.Test.YtaojnjealccjiaaGreatDoorBig
import Derived.Test.YtaojnjealccjiaaGreatDoorShow
import Derived.WalkKit
import Derived.WalkLawsBesides
import Derived.Below
import Derived.Lib.Hide
import Derived.LoopTactic
import Derived.Laws.OwnMore
import Derived.Deep.Draws
import Derived.Laws.Rows
import Derived.Deep.QuietTactic
import Derived.BigQuiet
import Derived.Laws.BitsAllLaws
import Derived.Laws.BitsLemmas
import Derived.Outline
import Derived.Deep.OwnRows
import Derived.Laws.MakeOwn
namespace Go.Proofs.YtaojnjealccjiaaGreatDoor
open Go Go.RowKit Bg
set_option linter.unusedVariables false

/-- the cells from A on are xs -/
def Arr (w : World) (A : Option Addr) (xs : List Value) : Prop :=
  xs ≠ [] → ∃ b off, A = some ⟨b, off, none⟩ ∧ b < w.heap.size ∧ ∀ j v, xs[j]? = some v → w.cell? ⟨b, off + j, none⟩ = some v
/-- a digit as a cell -/
def nv (d : Nat) : Value := .int .i64 (d : Int)
def iv (d : Int) : Value := .int .i64 d
section
variable {w w' : World} {A : Option Addr} {xs : List Value}
theorem Arr.nil : Arr w A [] := fun h => absurd rfl h
theorem Arr.below (h : Arr w A xs) (hb : Below w.heap.size w w') : Arr w' A xs := fun hn => by
  obtain ⟨b, off, e, hlt, hc⟩ := h hn
  exact ⟨b, off, e, Nat.lt_of_lt_of_le hlt hb.size, fun j v hv => (hb.cell (p := ⟨b, off + j, none⟩) hlt).trans (hc j v hv)⟩
theorem Arr.below' {B : Nat} {b off : Nat} (h : Arr w (some ⟨b, off, none⟩) xs) (hb : Below B w w') (hB : b < B) : Arr w' (some ⟨b, off, none⟩) xs := fun hn => by
  obtain ⟨b', off', e, hlt, hc⟩ := h hn
  injection e with e
  injection e with e1 e2
  subst e1 e2
  exact ⟨b, off, rfl, Nat.lt_of_lt_of_le hlt hb.size, fun j v hv => (hb.cell (p := ⟨b, off + j, none⟩) hB).trans (hc j v hv)⟩
theorem Arr.drew (h : Arr w A xs) : Arr w.drew A xs := h
theorem Arr.drewN (h : Arr w A xs) (n : Nat) : Arr (w.drewN n) A xs := h
theorem Arr.alloc (h : Arr w A xs) (o : Obj) : Arr (w.alloc o) A xs := h.below ((Below.refl _ _).alloc (Nat.le_refl _) _)
theorem Arr.take_ (h : Arr w A xs) (n : Nat) : Arr w A (xs.take n) := fun hn => by
  obtain ⟨b, off, e, hlt, hc⟩ := h (fun e => hn (by rw [e]; simp))
  refine ⟨b, off, e, hlt, fun j v hv => hc j v ?_⟩
  rw [List.getElem?_take] at hv
  split at hv
  · exact hv
  · cases hv
theorem Arr.get (h : Arr w A xs) {k : Nat} (hk : k < xs.length) : ∃ b off, A = some ⟨b, off, none⟩ ∧ b < w.heap.size ∧ w.cell? ⟨b, off + k, none⟩ = some xs[k] := by
  obtain ⟨b, off, e, hlt, hc⟩ := h (fun e => by subst e; simp at hk)
  exact ⟨b, off, e, hlt, hc k _ (List.getElem?_eq_getElem hk)⟩
end
theorem Arr.nat {w : World} {A : Option Addr} {xs : List Nat} (h : Arr w A (xs.map nv)) {k : Nat} (hk : k < xs.length) : ∃ b off, A = some ⟨b, off, none⟩ ∧ b < w.heap.size ∧ w.cell? ⟨b, off + k, none⟩ = some (.int .i64 ((xs.getD k 0 : Nat) : Int)) := by
  obtain ⟨b, off, e, hlt, hc⟩ := h.get (k := k) (by simpa using hk)
  refine ⟨b, off, e, hlt, hc.trans ?_⟩
  simp [nv, hk]
theorem Arr.int {w : World} {A : Option Addr} {xs : List Int} (h : Arr w A (xs.map iv)) {k : Nat} (hk : k < xs.length) : ∃ b off, A = some ⟨b, off, none⟩ ∧ b < w.heap.size ∧ w.cell? ⟨b, off + k, none⟩ = some (.int .i64 (xs.getD k 0)) := by
  obtain ⟨b, off, e, hlt, hc⟩ := h.get (k := k) (by simpa using hk)
  refine ⟨b, off, e, hlt, hc.trans ?_⟩
  simp [iv, hk]

/-- a digit that is read, under a name of its own -/
theorem Arr.dg {w : World} {A : Option Addr} {xs : List Nat} (h : Arr w A (xs.map nv)) (hd : Dig xs) {k : Nat} (hk : k < xs.length) :
    ∃ (b off d : Nat), A = some ⟨b, off, none⟩ ∧ b < w.heap.size ∧ w.cell? ⟨b, off + k, none⟩ = some (.int .i64 (d : Int)) ∧ d < 1048576 ∧ Hid (xs.getD k 0 = d) := by
  obtain ⟨b, off, e, hlt, hc⟩ := h.nat hk
  exact ⟨b, off, _, e, hlt, hc, hd.get k, rfl⟩
/-- block g is just the cells cs, none frozen -/
def Blk (w : World) (g : Nat) (t : TypeId) (cs : List Value) : Prop := w.heap[g]? = some (.cells cs.toArray t (0, 0))
section
variable {w w' : World} {g : Nat} {t : TypeId} {cs : List Value}
theorem Blk.lt (h : Blk w g t cs) : g < w.heap.size := by
  rcases Nat.lt_or_ge g w.heap.size with hlt | hge
  · exact hlt
  · unfold Blk at h; rw [Array.getElem?_eq_none hge] at h; cases h
theorem Blk.cell (h : Blk w g t cs) (i : Nat) : w.cell? ⟨g, i, none⟩ = cs[i]? := by
  rw [cell_of_row w g i cs.toArray t (0, 0) h]; simp
theorem Blk.frozen (h : Blk w g t cs) (i : Nat) : w.frozen? ⟨g, i, none⟩ = false := by
  unfold Blk at h
  simp [World.frozen?, h]
theorem Blk.drew (h : Blk w g t cs) : Blk w.drew g t cs := h
theorem Blk.drewN (h : Blk w g t cs) (n : Nat) : Blk (w.drewN n) g t cs := h
theorem Blk.alloc (h : Blk w g t cs) (o : Obj) : Blk (w.alloc o) g t cs := (Below.heap_alloc w o g h.lt).trans h
theorem Blk.set_ (h : Blk w g t cs) (i : Nat) (u : Value) : Blk (w.setCell ⟨g, i, none⟩ u) g t (cs.set i u) := by
  unfold Blk at h ⊢
  simp [World.setCell, Array.getElem?_modify, h]
theorem Blk.below {B : Nat} (h : Blk w g t cs) (hb : Below B w w') (hg : g < B) : Blk w' g t cs := (hb.block g hg).trans h
theorem Blk.arr (h : Blk w g t cs) : Arr w (some ⟨g, 0, none⟩) cs := fun _ => ⟨g, 0, rfl, h.lt, fun j v hv => by rw [Nat.zero_add, h.cell]; exact hv⟩
theorem Blk.nat {xs : List Nat} (h : Blk w g t (xs.map nv)) {k : Nat} (hk : k < xs.length) : w.cell? ⟨g, k, none⟩ = some (.int .i64 ((xs.getD k 0 : Nat) : Int)) := by
  rw [h.cell]; simp [nv, hk]
theorem Blk.dg {xs : List Nat} (h : Blk w g t (xs.map nv)) (hd : Dig xs) {k : Nat} (hk : k < xs.length) : ∃ d : Nat, w.cell? ⟨g, k, none⟩ = some (.int .i64 (d : Int)) ∧ d < 1048576 ∧ Hid (xs.getD k 0 = d) :=
  ⟨_, h.nat hk, hd.get k, rfl⟩
theorem Blk.nset {xs : List Nat} (h : Blk w g t (xs.map nv)) (k d : Nat) : Blk (w.setCell ⟨g, k, none⟩ (.int .i64 (d : Int))) g t ((xs.set k d).map nv) := by
  have := h.set_ k (nv d)
  rw [List.map_set]
  exact this
end
/-- a window of digits in a block -/
def Wnd (w : World) (g : Nat) (pre : List Value) (u : List Nat) (post : List Value) : Prop := Blk w g 3 (pre ++ (u.map nv ++ post))
section
variable {w w' : World} {g : Nat} {pre post : List Value} {u : List Nat}
theorem Wnd.dg (h : Wnd w g pre u post) (hd : Dig u) {i : Nat} (hi : i < u.length) : ∃ d : Nat, w.cell? ⟨g, pre.length + i, none⟩ = some (.int .i64 (d : Int)) ∧ d < 1048576 ∧ Hid (u.getD i 0 = d) := by
  refine ⟨u.getD i 0, ?_, hd.get i, rfl⟩
  rw [Blk.cell h, List.getElem?_append_right (by omega), Nat.add_sub_cancel_left, List.getElem?_append_left (by simpa using hi)]
  simp [nv, hi]
theorem Wnd.frozen (h : Wnd w g pre u post) (i : Nat) : w.frozen? ⟨g, i, none⟩ = false := Blk.frozen h i
theorem Wnd.lt (h : Wnd w g pre u post) : g < w.heap.size := Blk.lt h
theorem Wnd.set_ (h : Wnd w g pre u post) {i : Nat} (hi : i < u.length) (d : Nat) : Wnd (w.setCell ⟨g, pre.length + i, none⟩ (.int .i64 (d : Int))) g pre (u.set i d) post := by
  have := Blk.set_ h (pre.length + i) (nv d)
  rw [List.set_append_right _ _ (by omega), Nat.add_sub_cancel_left, List.set_append_left _ _ (by simpa using hi), ← List.map_set] at this
  exact this
end
/-- only block g has turned, and what is new -/
theorem grown_set {a w : World} {g : Nat} (h : a.grownBy w (some g)) (i : Nat) (u : Value) : a.grownBy (w.setCell ⟨g, i, none⟩ u) (some g) :=
  ⟨h.os, h.tape, h.output, by simpa [World.setCell] using h.size, fun k hk hne => (Below.heap_setCell w ⟨g, i, none⟩ u k (by
    rintro rfl
    exact hne rfl)).trans (h.block k hk hne)⟩
theorem Arr.grown {w w' : World} {A : Option Addr} {xs : List Value} {row : Option Nat} (h : Arr w A xs) (hg : w.grownBy w' row) (hne : ∀ b o, A = some ⟨b, o, none⟩ → some b ≠ row) : Arr w' A xs := fun hn => by
  obtain ⟨b, off, e, hlt, hc⟩ := h hn
  exact ⟨b, off, e, Nat.lt_of_lt_of_le hlt hg.size, fun j v hv => (World.cell?_of_block (hg.block b hlt (hne b off e))).trans (hc j v hv)⟩
/-- a block of the call's own that begins with the digits of n -/
def OwnD (w : World) (g cc n : Nat) : Prop := ∃ k, cc = (dig n).length + k ∧ Blk w g 3 ((dig n ++ List.replicate k 0).map nv)
theorem OwnD.le {w : World} {g cc n : Nat} (h : OwnD w g cc n) : (dig n).length ≤ cc := by obtain ⟨k, h, _⟩ := h; omega
theorem OwnD.arr {w : World} {g cc n : Nat} (h : OwnD w g cc n) : Arr w (some ⟨g, 0, none⟩) ((dig n).map nv) := by
  obtain ⟨k, h, hb⟩ := h
  have := hb.arr.take_ (dig n).length
  rw [← List.map_take, List.take_left' rfl] at this
  exact this
theorem OwnD.of {w : World} {g : Nat} {out : List Nat} (hd : Dig out) (h : Blk w g 3 (out.map nv)) : OwnD w g out.length (val out) := by
  obtain ⟨k, hk⟩ := dig_zeros hd
  refine ⟨k, ?_, by rw [← hk]; exact h⟩
  have := congrArg List.length hk
  simpa using this
theorem OwnD.below {w w' : World} {B g cc n : Nat} (h : OwnD w g cc n) (hb : Below B w w') (hg : g < B) : OwnD w' g cc n := by
  obtain ⟨k, h, hk⟩ := h
  exact ⟨k, h, hk.below hb hg⟩
theorem OwnD.lt {w : World} {g cc n : Nat} (h : OwnD w g cc n) : g < w.heap.size := by
  obtain ⟨k, h, hk⟩ := h
  exact hk.lt
theorem quiet_add_left {P : Program} {f : FuncId} {args : Array Value} {w : World} {a n : Nat} {v : Value}
    (h : Calls P f args (w.drewN (a + n)) fun e w' => e = .returned v ∧ w.drewN (a + n) = w') :
    Calls P f args (w.drewN (a + n)) fun e w'' => e = .returned v ∧ ∃ m, w'' = w.drewN (a + m) :=
  h.mono fun _ _ ⟨he, hm⟩ => ⟨he, n, hm.symm⟩
theorem quiet_left {P : Program} {f : FuncId} {args : Array Value} {w : World} {n : Nat} {v : Value}
    (h : Calls P f args (w.drewN n) fun e w' => e = .returned v ∧ w.drewN n = w') : Calls P f args (w.drewN n) fun e w'' => e = .returned v ∧ ∃ m, w'' = w.drewN m :=
  h.mono fun _ _ ⟨he, hm⟩ => ⟨he, n, hm.symm⟩
theorem quiet_add {P : Program} {f : FuncId} {args : Array Value} {w : World} {a n : Nat} {v : Value}
    (h : Calls P f args (w.drewN (a + n)) fun e w' => e = .returned v ∧ ∃ m, w' = (w.drewN (a + n)).drewN m) :
    Calls P f args (w.drewN (a + n)) fun e w'' => e = .returned v ∧ ∃ m, w'' = w.drewN (a + m) :=
  h.mono fun _ _ ⟨he, m, hm⟩ => ⟨he, n + m, by rw [hm, World.drewN_drewN, Nat.add_assoc]⟩
theorem below_drewN_left {B : Nat} {w w' : World} {n : Nat} (h : Below B (w.drewN n) w') : Below B w w' := ⟨h.os, h.tape, h.output, h.size, h.block⟩
theorem below_drewN {B : Nat} {a w : World} (h : Below B a w) (n : Nat) : Below B a (w.drewN n) := ⟨h.os, h.tape, h.output, h.size, h.block⟩
theorem lexB_of {md : Region.Mode} {ops : Array Oper} (hs : Region.noSelect ops = true) (h : Region.lexFrom md ops ops.size 0 (Array.replicate ops.size false) = true) : Region.lexB md ops = true := by
  unfold Region.lexB; rw [hs, h]; rfl
theorem lex_start {md : Region.Mode} {ops : Array Oper} {n : Nat} {L : Array Bool} (h1 : ops.size = n) (h2 : Array.replicate n false = L) (h : Region.lexFrom md ops n 0 L = true) : Region.lexFrom md ops ops.size 0 (Array.replicate ops.size false) = true := by
  rw [h1, h2]; exact h
theorem lex_step {md : Region.Mode} {ops : Array Oper} {f k : Nat} {K L : Array Bool} (h1 : (Region.ready md ops K).contains k = true) (h2 : Region.free md ops K k = true) (h3 : K.setIfInBounds k true = L) (h4 : Region.lexFrom md ops f (k + 1) L = true) : Region.lexFrom md ops (f + 1) k K = true := by
  unfold Region.lexFrom
  rw [h1, h2, h3, h4]; rfl
theorem ret_slice {A : Option Addr} {n m c : Nat} (h : n = m) : Ending.returned (.slice A n c) = .returned (.slice A m c) := by rw [h]
theorem ret_int {k : IntKind} {a b : Int} (h : a = b) : Ending.returned (.int k a) = .returned (.int k b) := by rw [h]
theorem ret_two {a b c d : Value} (h : a = c) (k : b = d) : Ending.returned (.tuple #[a, b]) = .returned (.tuple #[c, d]) := by rw [h, k]
theorem int_eq {k : IntKind} {a b : Int} (h : a = b) : Value.int k a = .int k b := by rw [h]
theorem ret_bool {a b : Bool} (h : a = b) : Ending.returned (.bool a) = .returned (.bool b) := by rw [h]
theorem toNat_ofInt (n : Int) : (BitVec.ofInt 64 n).toNat = (n % 18446744073709551616).toNat := by
  rw [BitVec.toNat_ofInt]; rfl
theorem wrap_id {n : Int} (h : -9223372036854775808 ≤ n ∧ n ≤ 9223372036854775807) : IntKind.i64.wrap n = n := by
  rw [IntKind.wrap_i64]; omega
/-- '& mask', of any int -/
theorem and_mask (n : Int) : bits .and .i64 n 1048575 = n % 1048576 := by
  show IntKind.i64.wrap ((BitVec.ofInt 64 n &&& BitVec.ofInt 64 1048575).toNat : Int) = _
  have e : (BitVec.ofInt 64 1048575).toNat = 2 ^ 20 - 1 := by decide
  rw [BitVec.toNat_and, e, Nat.and_two_pow_sub_one_eq_mod, toNat_ofInt]
  rw [wrap_id (by omega)]
  omega
/-- 'r << bits | x' -/
theorem or_digit (r x : Nat) (hr : r < 8796093022208) (hx : x < 1048576) : bits .or .i64 ((r : Int) * 1048576) (x : Int) = (r : Int) * 1048576 + (x : Int) := by
  show IntKind.i64.wrap ((BitVec.ofInt 64 ((r : Int) * 1048576) ||| BitVec.ofInt 64 (x : Int)).toNat : Int) = _
  rw [BitVec.toNat_or, toNat_ofInt, toNat_ofInt]
  have e1 : ((r : Int) * 1048576 % 18446744073709551616).toNat = r <<< 20 := by rw [Nat.shiftLeft_eq]; omega
  have e2 : ((x : Int) % 18446744073709551616).toNat = x := by omega
  rw [e1, e2, ← Nat.shiftLeft_add_eq_or_of_lt (by omega), Nat.shiftLeft_eq, wrap_id (by omega)]
  omega
theorem or_top (t2 t1 top : Nat) (h : top = t2 * 1048576 + t1) (h2 : t2 < 1048576) (ht1 : t1 < 1048576) : bits .or .i64 ((t2 : Int) * 1048576) (t1 : Int) = (top : Int) := by
  rw [or_digit t2 t1 (by omega) ht1]; omega
theorem made_list (z : Value) (n : Nat) : madeCells #[z] n = (List.replicate n z).toArray := by
  unfold madeCells
  apply Array.ext
  · simp
  · intro i h1 h2
    simp [Nat.mod_one]
theorem cast3 (o d y c : Nat) : (o : Int) + (d : Int) * (y : Int) + (c : Int) = ((o + d * y + c : Nat) : Int) := by simp
theorem vdiv (o d y c : Nat) : ((o : Int) + (d : Int) * (y : Int) + (c : Int)) / 1048576 = (((o + d * y + c) / 1048576 : Nat) : Int) := by rw [cast3]; omega
theorem vmod (o d y c : Nat) : ((o : Int) + (d : Int) * (y : Int) + (c : Int)) % 1048576 = (((o + d * y + c) % 1048576 : Nat) : Int) := by rw [cast3]; omega
theorem sdiv (r x d : Nat) : ((r : Int) * 1048576 + (x : Int)) / (d : Int) = (((r * 1048576 + x) / d : Nat) : Int) := by rw [Int.natCast_ediv]; congr 1
theorem smod (r x d : Nat) : ((r : Int) * 1048576 + (x : Int)) % (d : Int) = (((r * 1048576 + x) % d : Nat) : Int) := by rw [Int.natCast_emod]; congr 1
theorem maxLen_eq : maxLen = 9223372036854775807 := rfl
end Go.Proofs.YtaojnjealccjiaaGreatDoor

/- Notes and references in memory; the table that strconv reads. -/
import Derived.Test.YtaojnjealccjiaaGreatDoorNote
import Derived.Test.YtaojnjealccjiaaGreatDoorDat
import Derived.Lib.AppendIntMem
import Derived.Test.YtaojnjealccjiaaGreatDoorProg
import Derived.Test.YtaojnjealccjiaaGreatDoorRows
import Derived.WalkKit
import Derived.WalkLawsBesides
import Derived.Lib.Hide
import Derived.LoopTactic
namespace Go.Proofs.YtaojnjealccjiaaGreatDoor
open Go Go.RowKit Nt Go.Proofs
set_option linter.unusedVariables false
set_option linter.unusedSimpArgs false

def refD : Dat RefV where
  cells r := [.int .i64 r.house, .int .i64 r.no]
  k := 2
  len _ := rfl
  one r v hv := by simp at hv; rcases hv with rfl | rfl <;> rfl
  ok _ _ _ := True
  keep _ _ := trivial
  mono _ _ := trivial
/-- a note in memory: its value, and where its needs lie -/
structure NoteR where
  v : NoteV
  A : Option Addr
  c : Nat
def NoteR.cells (r : NoteR) : List Value := [.int .i64 r.v.house, .int .i64 r.v.no, .int .i64 r.v.day, .slice r.A r.v.needs.length r.c, .string r.v.text]
def noteD : Dat NoteR where
  cells := NoteR.cells
  k := 5
  len _ := rfl
  one r v hv := by simp [NoteR.cells] at hv; rcases hv with rfl | rfl | rfl | rfl | rfl <;> rfl
  ok w S r := Sl refD w S r.A r.v.needs
  keep h k := h.keep k
  mono h k := h.mono k
abbrev Any1 : Nat → Prop := fun _ => True
/-- sizes of a note -/
def SmN (x : NoteV) : Prop := x.needs.length ≤ 45 ∧ x.text.size ≤ 200

/-- the table's name, as the given row lists it -/
def tabName : String := match Rows.lockNotesRow.laid with
  | _ :: _ :: x :: _ => x.1
  | _ => default
/-- the table, in this world and in each that stands below B as it does -/
def Tab (B : Nat) (w : World) : Prop := Lib.TabBelow Tryz.prog B w tabName .u64 Lib.pow10Tab
theorem Tab.on {B : Nat} {w w1 : World} (h : Tab B w) (hb : Below B w w1) : Tab B w1 := Lib.TabBelow.on h hb
theorem Tab.here {B : Nat} {w : World} (h : Tab B w) : Lib.TabIs Tryz.prog w tabName .u64 Lib.pow10Tab := Lib.TabBelow.here h
theorem Tab.next {B : Nat} {w w1 : World} (h : Tab B w) (hB : B ≤ w.heap.size) (hb : Below w.heap.size w w1) : Tab B w1 := h.on (hb.mono hB)

/-- the call returned b, and made memory at most -/
def SaysN (b : Bool) (w : World) (e : Ending) (w' : World) : Prop := e = .returned (.bool b) ∧ Below w.heap.size w w'
theorem retN_bool {a b : Bool} (h : a = b) : Ending.returned (.bool a) = .returned (.bool b) := by rw [h]
theorem retN_int {a b : Int} (h : a = b) : Ending.returned (.int .i64 a) = .returned (.int .i64 b) := by rw [h]
end Go.Proofs.YtaojnjealccjiaaGreatDoor

/- A map with strings as keys that the call itself has made: what it holds, as a function of the key; the laws at a look-up and at a store. -/
import Derived.Test.YtaojnjealccjiaaGreatDoorInts
import Derived.Maps.Own
import Derived.Maps.OwnOps
import Derived.Maps.OwnSet
import Derived.Maps.Views
import Derived.Carry
import Derived.StillTailTactics
namespace Go.Proofs.YtaojnjealccjiaaGreatDoor
open Go Go.RowKit Go.Maps
set_option linter.unusedVariables false

/-- an element reads as itself -/
def heldR (v : Value) : Option (DataW Value × List MemPlace) := some (.held v, [])
def keyL (k : ByteArray) : Lit := .string k.data.toList
theorem keyL_ne {k k' : ByteArray} (h : k' ≠ k) : keyL k' ≠ keyL k := fun e => h (by
  unfold keyL at e
  injection e with e
  exact ByteArray.ext (Array.toList_inj.1 e))
theorem isKey (k : ByteArray) : WideAt.IsKeyLit (keyL k) := by unfold keyL; simp [WideAt.IsKeyLit]
/-- block g is a map that holds f -/
def MapIs (w : World) (g n : Nat) (f : ByteArray → Option Value) : Prop :=
  ∃ D : DataW Value, w.ownsMap Tryz.prog 9 heldR g n D ∧ IsMap D ∧ ∀ k : ByteArray, Maps.has D (keyL k) = (f k).isSome ∧ (∀ v z, f k = some v → D.atKey (keyL k) z = .held v) ∧ (∀ z, f k = none → D.atKey (keyL k) z = z)
theorem law_string : Keyed Tryz.prog 9 := string_keyed Tryz.underlying9

section
variable {w w' : World} {g n : Nat} {f : ByteArray → Option Value}
theorem MapIs.made (w : World) : MapIs (w.alloc (.map #[] 0)) w.heap.size 0 (fun _ => none) :=
  ⟨.map [], World.ownsMap_made w _ _ _, ⟨[], rfl⟩, fun k => ⟨rfl, fun v z h => (by cases h), fun z _ => rfl⟩⟩
theorem MapIs.lt (h : MapIs w g n f) : g < w.heap.size := by
  obtain ⟨D, h1, _⟩ := h
  exact h1.lt
theorem MapIs.below {B : Nat} (h : MapIs w g n f) (hb : Below B w w') (hg : g < B) : MapIs w' g n f := by
  obtain ⟨D, ⟨es, clock, hbk, F, hs, hD⟩, h2, h3⟩ := h
  exact ⟨D, ⟨es, clock, (hb.block g hg).trans hbk, F, hs, hD⟩, h2, h3⟩
theorem MapIs.alloc (h : MapIs w g n f) (o : Obj) : MapIs (w.alloc o) g n f := h.below ((Below.refl _ _).alloc (Nat.le_refl _) _) h.lt
theorem MapIs.drewN (h : MapIs w g n f) (k : Nat) : MapIs (w.drewN k) g n f := h
theorem MapIs.drew (h : MapIs w g n f) : MapIs w.drew g n f := h
theorem MapIs.set_far {p : Addr} (h : MapIs w g n f) (hp : g ≠ p.block) (u : Value) : MapIs (w.setCell p u) g n f := by
  obtain ⟨D, ⟨es, clock, hbk, F, hs, hD⟩, h2, h3⟩ := h
  exact ⟨D, ⟨es, clock, (Below.heap_setCell w p u g hp).trans hbk, F, hs, hD⟩, h2, h3⟩
theorem MapIs.mono {m : Nat} (h : MapIs w g n f) (hm : n ≤ m) : MapIs w g m f := by
  obtain ⟨D, h1, h2⟩ := h
  exact ⟨D, h1.mono hm, h2⟩
end
section
variable (w : World) {ops : Array Oper} {rest : List Oper} {o : Oper} {a : Act} {Q : Exit → Act → World → Prop}
/-- 'v, ok := m[k]', the key is there -/
theorem wpList_look_some (hg : o.guard = none) (m x : Operand) (t : TypeId) (hop : o.op = Op.lookup t m x true) (e : TypeId) (ht : Tryz.prog.underlying t = some (.map 9 e)) {z : Value} (hz : (zeroValue e).run Tryz.prog w = .ok z w) (b n : Nat) (f : ByteArray → Option Value)
    (hm : a.eval m = .map (some b)) (hown : MapIs w b n f) (k : ByteArray) (hx : a.eval x = .string k) (hk : k.size ≤ maxLen) (u : Value) (hf : f k = some u)
    (hK : wpList Tryz.prog ops Q rest (a.put o.dst (.tuple #[u, .bool true])) w) : wpList Tryz.prog ops Q (o :: rest) a w := by
  obtain ⟨D, h1, h2, h3⟩ := hown
  obtain ⟨p1, p2, p3⟩ := h3 k
  refine wpList_lookup_own_ok w hg m x t hop 9 e law_string ht heldR hz (.held z) [] rfl b n D hm h1 (.string k) (keyL k) hx (WideMaps.keyOf_string_mk Tryz.underlying9 hk) (fun v ps hv => ?_)
  rw [p2 u _ hf] at hv
  rw [p1, hf]
  injection hv with hv
  injection hv with hv _
  injection hv with hv
  subst hv
  exact hK
/-- .. it is not there -/
theorem wpList_look_none (hg : o.guard = none) (m x : Operand) (t : TypeId) (hop : o.op = Op.lookup t m x true) (e : TypeId) (ht : Tryz.prog.underlying t = some (.map 9 e)) {z : Value} (hz : (zeroValue e).run Tryz.prog w = .ok z w) (b n : Nat) (f : ByteArray → Option Value)
    (hm : a.eval m = .map (some b)) (hown : MapIs w b n f) (k : ByteArray) (hx : a.eval x = .string k) (hk : k.size ≤ maxLen) (hf : f k = none)
    (hK : wpList Tryz.prog ops Q rest (a.put o.dst (.tuple #[z, .bool false])) w) : wpList Tryz.prog ops Q (o :: rest) a w := by
  obtain ⟨D, h1, h2, h3⟩ := hown
  obtain ⟨p1, p2, p3⟩ := h3 k
  refine wpList_lookup_own_ok w hg m x t hop 9 e law_string ht heldR hz (.held z) [] rfl b n D hm h1 (.string k) (keyL k) hx (WideMaps.keyOf_string_mk Tryz.underlying9 hk) (fun v ps hv => ?_)
  rw [p3 _ hf] at hv
  rw [p1, hf]
  injection hv with hv
  injection hv with hv _
  injection hv with hv
  subst hv
  exact hK
/-- 'm[k] = v' -/
theorem wpList_put_held (hg : o.guard = none) (m x v : Operand) (t : TypeId) (hop : o.op = Op.mapUpdate t m x v) (e : TypeId) (ht : Tryz.prog.underlying t = some (.map 9 e)) (b n : Nat) (f : ByteArray → Option Value)
    (hm : a.eval m = .map (some b)) (hown : MapIs w b n f) (hn : n < maxLen) (k : ByteArray) (u : Value) (hx : a.eval x = .string k) (hv : a.eval v = u) (hk : k.size ≤ maxLen)
    (hK : ∀ w', MapIs w' b (n + 1) (fun k' => if k' = k then some u else f k') → w.grownBy w' (some b) → wpList Tryz.prog ops Q rest (a.put o.dst undef) w') : wpList Tryz.prog ops Q (o :: rest) a w := by
  obtain ⟨D, h1, h2, h3⟩ := hown
  refine wpList_mapUpdate_own w hg m x v t hop 9 e law_string ht heldR b n D hm h1 hn (.string k) u (keyL k) hx hv (WideMaps.keyOf_string_mk Tryz.underlying9 hk) (.held u) [] rfl (fun w' k1 k2 => hK w' ⟨_, k1, ?_, fun k' => ?_⟩ k2)
  · obtain ⟨es, rfl⟩ := h2
    exact ⟨_, rfl⟩
  · by_cases hkk : k' = k
    · subst hkk
      simp only [if_true]
      refine ⟨has_put_same h2 (isKey k') _, fun v z h => ?_, fun z h => ?_⟩
      · have hv : u = v := Option.some.inj h
        rw [← hv]
        exact atKey_put_same h2 (isKey k') _ _
      · exact absurd h (by simp)
    · simp only [if_neg hkk]
      obtain ⟨p1, p2, p3⟩ := h3 k'
      exact ⟨(has_put_other (keyL_ne hkk) _).trans p1, fun v z h => (atKey_put_other (keyL_ne hkk) _ _).trans (p2 v z h), fun z h => (atKey_put_other (keyL_ne hkk) _ _).trans (p3 z h)⟩
end
end Go.Proofs.YtaojnjealccjiaaGreatDoor

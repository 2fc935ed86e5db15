/- slices.Concat at notes, slices.Clone at references; gossip.sorted, items, notes, Join. -/
import Derived.Test.YtaojnjealccjiaaGreatDoorNCompact
namespace Go.Proofs.YtaojnjealccjiaaGreatDoor
open Go Go.RowKit Nt Go.Proofs Go.Lib Go.Sort
set_option linter.unusedVariables false
set_option linter.unusedSimpArgs false

theorem Tryz.infoNote : (Tryz.prog.info? 42).map (fun i => (i.zero, i.size, i.bytes)) = some (some (.agg #[.int .i64 0, .int .i64 0, .int .i64 0, .slice none 0 0, .string ⟨#[]⟩]), 5, 64) := by kernel_rfl
theorem Tryz.infoItem : (Tryz.prog.info? 95).map (fun i => (i.zero, i.size, i.bytes)) = some (some (.agg #[.int .i64 0, .int .i64 0, .int .i64 0, .slice none 0 0, .string ⟨#[]⟩]), 5, 64) := by kernel_rfl
theorem Tryz.infoRef : (Tryz.prog.info? 100).map (fun i => (i.zero, i.size, i.bytes)) = some (some (.agg #[.int .i64 0, .int .i64 0]), 2, 16) := by kernel_rfl

theorem grow_nilN (n : Nat) (w : World) (hn : n ≤ 1000000) :
    Calls Tryz.prog 88 #[.slice none 0 0, .int .i64 n] w fun e w' => ∃ v, e = .returned v ∧ w'.ownsRow w.heap.size 42 5 v 0 [] ∧ Below w.heap.size w w' := by
  by_cases h0 : n = 0
  · subst h0
    refine (Any8.slices_Grow_room Tryz.laysGrowN none 0 0 0 w (Nat.le_refl _) (by decide) (by decide) (Nat.le_refl _)).mono fun e w' ⟨he, hw⟩ => ?_
    subst hw
    exact ⟨_, he, World.ownsRow_nil _ _ _ _, Below.refl _ _⟩
  · obtain ⟨i0, hi0, hz0, hz1, hz2⟩ := info_parts Tryz.infoNote
    have h := Any8.slices_Grow_grow Tryz.laysGrowN i0 _ hi0 hz0 (by rw [hz1]; decide) none 0 0 n [] w (Nat.le_refl _) (by omega) (by rw [hz2]; omega) (by omega) (by simp) (fun _ => rfl) (fun a ha => by cases ha)
    refine h.mono fun e w' ⟨he, hw⟩ => ⟨_, he, ?_, ?_⟩
    · rw [hw]
      have hge := grownCap_ge w (0 + n) 0 (Tryz.laysGrowN_ren.t 25)
      have hle := grownCap_le_maxLen w (0 + n) 0 (Tryz.laysGrowN_ren.t 25) (by unfold maxLen; omega)
      refine World.ownsRow_made w.drew _ _ (Nat.le_refl _) hle ?_
      have hz4 : (Value.agg #[.int .i64 0, .int .i64 0, .int .i64 0, .slice none 0 0, .string ⟨#[]⟩]).cells.size = 5 := rfl
      simp only [Builtin.zeroCells, hz4, Array.size_append, Array.size_map, Array.size_range, List.size_toArray, List.length_nil]
      omega
    · rw [hw]
      exact (Below.refl _ w).drew.alloc (Nat.le_refl _) _

/-- a slice of notes came back, in memory that may be new -/
def NotesPost (rs : List NoteR) (w : World) (e : Ending) (w' : World) : Prop := ∃ A c, e = .returned (.slice A rs.length c) ∧ Sl noteD w' Any1 A rs ∧ Below w.heap.size w w'
theorem sl_owns {α : Type} {D : Dat α} {w w' : World} {B T n : Nat} {v : Value} {xs : List α} (h : w'.ownsRow B T D.k v n (xs.flatMap D.cells)) (hn : n = xs.length) (hb : Below w.heap.size w w') (hok : ∀ x ∈ xs, D.ok w Any1 x) : ∃ A c, v = .slice A xs.length c ∧ Sl D w' Any1 A xs := by
  subst hn
  obtain ⟨A, c, rfl, _⟩ := owns_slice h
  refine ⟨A, c, rfl, fun hne => ?_, fun x hx => D.keep (hok x hx) (Keeps.of_below hb)⟩
  obtain ⟨b, off, e, hlt, hc⟩ := lst_of_owns D.len h hne
  exact ⟨b, off, e, trivial, hlt, hc⟩

set_option maxHeartbeats 4000000 in
set_option maxRecDepth 100000 in
theorem concat_notes (a b : List NoteR) (Aa Ab : Option Addr) (ca cb g : Nat) (w : World) (h0 : w.cell? ⟨g, 0, none⟩ = some (.slice Aa a.length ca)) (h1 : w.cell? ⟨g, 1, none⟩ = some (.slice Ab b.length cb)) (hg : g < w.heap.size)
    (hla : Sl noteD w Any1 Aa a) (hlb : Sl noteD w Any1 Ab b) (hn : a.length + b.length ≤ 1000000) :
    Calls Tryz.prog 62 #[.slice (some ⟨g, 0, none⟩) 2 2] w (NotesPost (a ++ b) w) := by
  have ra := hla.reads
  have rb := hlb.reads
  have hfl : (a ++ b).flatMap noteD.cells = a.flatMap noteD.cells ++ b.flatMap noteD.cells := by simp
  have hgr := fun W => grow_nilN (a.length + b.length) W hn
  simp only [Int.natCast_add] at hgr
  have hok : ∀ x ∈ a ++ b, noteD.ok w Any1 x := fun x hx => by
    rcases List.mem_append.1 hx with h | h
    · exact hla.2 x h
    · exact hlb.2 x h
  have fin : ∀ (v : Value) (W : World), Below w.heap.size w W → W.ownsRow w.heap.size 42 5 v (a.length + b.length) (a.flatMap noteD.cells ++ b.flatMap noteD.cells) → ∃ A cap, v = .slice A (a ++ b).length cap ∧ Sl noteD W Any1 A (a ++ b) := fun v W hbW h => by
    rw [← hfl] at h
    exact sl_owns (D := noteD) h (by simp) hbW hok
  obtain ⟨i0, hi0, hz0, hz1, hz2⟩ := info_parts Tryz.infoNote
  have hca : ∀ u ∈ a.flatMap noteD.cells, u.oneCell' = true := flat_one
  have hcb : ∀ u ∈ b.flatMap noteD.cells, u.oneCell' = true := flat_one
  unfold NotesPost
  generalize hna : a.length = na at *
  generalize hnb : b.length = nb at *
  generalize a.flatMap noteD.cells = fa at *
  generalize b.flatMap noteD.cells = fb at *
  have HF := Lib.hid fin
  have HG := Lib.hid hgr
  have RA := Lib.hid ra
  have RB := Lib.hid rb
  have O1 := Lib.hid hca
  have O2 := Lib.hid hcb
  clear fin hgr ra rb hca hcb hfl hna hnb hla hlb hok
  go_enter Tryz.func62, Tryz.ntmps62
  go_wp2_with fail
  go_loop [3, 11] (fun s i => Hid ((s = .int .i64 0 ∧ i = .int .i64 0) ∨ (s = .int .i64 na ∧ i = .int .i64 1) ∨ (s = .int .i64 ((na : Int) + (nb : Int)) ∧ i = .int .i64 2))) (fun _ i => 2 - (intOf i).toNat)
  case atStart => exact .inl ⟨rfl, rfl⟩
  case round =>
    rcases hrel.out with ⟨rfl, rfl⟩ | ⟨rfl, rfl⟩ | ⟨rfl, rfl⟩
    · clear hrel
      go_wp2_with fail
      go_round
      case rel => exact .inr (.inl ⟨rfl, rfl⟩)
      case measure => simp [intOf]
    · clear hrel
      go_wp2_with fail
      go_round
      case rel => exact .inr (.inr ⟨rfl, rfl⟩)
      case measure => simp [intOf]
    · clear hrel
      go_wp2_with (go_at_call 88; refine (HG.out _).mono ?_; rintro e w1 ⟨v, rfl, hown, hb1⟩)
      go_loopw [6, 27] (fun s i wr => ∃ v6 : Value, v6 = s ∧ Hid (Below w.heap.size w wr) ∧ Hid ((i = .int .i64 0 ∧ wr.ownsRow w.heap.size 42 5 v6 0 []) ∨ (i = .int .i64 1 ∧ wr.ownsRow w.heap.size 42 5 v6 na fa) ∨ (i = .int .i64 2 ∧ wr.ownsRow w.heap.size 42 5 v6 (na + nb) (fa ++ fb)))) (fun _ i _ => 2 - (intOf i).toNat)
      case atStart => exact ⟨_, rfl, hb1, .inl ⟨rfl, hown⟩⟩
      case round =>
        clear hown hb1
        obtain ⟨v6, rfl, HB, hrel⟩ := hrel
        have q0 : wr.cell? ⟨g, 0, none⟩ = some (.slice Aa na ca) := (HB.out.cell (p := ⟨g, 0, none⟩) hg).trans h0
        have q1 : wr.cell? ⟨g, 1, none⟩ = some (.slice Ab nb cb) := (HB.out.cell (p := ⟨g, 1, none⟩) hg).trans h1
        rcases hrel.out with ⟨rfl, hown⟩ | ⟨rfl, hown⟩ | ⟨rfl, hown⟩
        · clear hrel
          have HOw := Lib.hid hown
          clear hown
          go_wp2_with (at_builtin; refine wpList_append_any _ rfl (.tmp 31) (.tmp 32) _ rfl w.heap.size 42 i0 _ 5 64 Tryz.underlying33 hi0 hz0 hz1 hz2 rfl (by omega) v6 0 [] rfl HOw.out w.heap.size Aa na ca fa rfl (RA.out.below HB.out) O1.out (by simp only [maxLen]; omega) (by omega) HB.out.size ?_; intro v2 w2 hown2 hg2 hat2)
          have hb2 : Below w.heap.size w w2 := HB.out.grown hg2 HB.out.size (fun k hk => (HOw.out.lt k hk).1)
          (try simp only [Nat.zero_add, List.nil_append] at hown2)
          have HO2 := Lib.hid hown2
          have HB2 := Lib.hid hb2
          clear hown2 hg2 hat2 hb2
          go_roundw
          case rel => exact ⟨_, rfl, HB2.out, .inr (.inl ⟨rfl, HO2.out⟩)⟩
          case measure => simp [intOf]
        · clear hrel
          have HOw := Lib.hid hown
          clear hown
          go_wp2_with (at_builtin; refine wpList_append_any _ rfl (.tmp 31) (.tmp 32) _ rfl w.heap.size 42 i0 _ 5 64 Tryz.underlying33 hi0 hz0 hz1 hz2 rfl (by omega) v6 na fa rfl HOw.out w.heap.size Ab nb cb fb rfl (RB.out.below HB.out) O2.out (by simp only [maxLen]; omega) (by omega) HB.out.size ?_; intro v2 w2 hown2 hg2 hat2)
          have hb2 : Below w.heap.size w w2 := HB.out.grown hg2 HB.out.size (fun k hk => (HOw.out.lt k hk).1)
          (try simp only [Nat.zero_add, List.nil_append] at hown2)
          have HO2 := Lib.hid hown2
          have HB2 := Lib.hid hb2
          clear hown2 hg2 hat2 hb2
          go_roundw
          case rel => exact ⟨_, rfl, HB2.out, .inr (.inr ⟨rfl, HO2.out⟩)⟩
          case measure => simp [intOf]
        · clear hrel
          obtain ⟨A, cap, hv, hO⟩ := HF.out v6 wr HB.out hown
          have HOr := Lib.hid hO
          clear hown hO
          rw [hv]
          clear hv
          go_wp2_with fail
          go_ret
          exact ⟨A, cap, rfl, HOr.out, HB.out⟩

/-- a copy of references came back, in new memory -/
def ClonePostR (xs : List RefV) (w : World) (e : Ending) (w' : World) : Prop := ∃ A' c', e = .returned (.slice A' xs.length c') ∧ Sl refD w' (fun b => w.heap.size ≤ b) A' xs ∧ Below w.heap.size w w'
set_option maxHeartbeats 400000 in
theorem clone_refs (xs : List RefV) (A : Option Addr) (c : Nat) (S : Nat → Prop) (w : World) (h : Sl refD w S A xs) (hl : xs.length ≤ 1000000) :
    Calls Tryz.prog 64 #[.slice A xs.length c] w (ClonePostR xs w) := by
  have q : ∀ (w : World) (a : Option Addr) (n c n' c' : Nat), (binOp .eql 40 (.slice a n c) (.slice none n' c')).run Tryz.prog w = .ok (.bool a.isNone) w := fun w a n c n' c' => Lib.run_eql_slice_nil w _ _ a n c n' c' Tryz.underlying40
  rcases A with _ | ad
  · have hx : xs = [] := by
      rcases xs with _ | ⟨x, r⟩
      · rfl
      · obtain ⟨b, off, e, _⟩ := h.1 (by simp)
        cases e
    subst hx
    simp only [List.length_nil]
    go_enter Tryz.func64, Tryz.ntmps64
    go_wp2
    go_ret
    exact ⟨none, 0, rfl, Sl.nil, Below.refl _ _⟩
  · obtain ⟨i0, hi0, hz0, hz1, hz2⟩ := info_parts Tryz.infoRef
    have H := Lib.hid h
    clear h
    go_enter Tryz.func64, Tryz.ntmps64
    go_wp2_with (at_builtin; refine wpList_append_any _ rfl (.tmp 5) (.tmp 6) _ rfl w.heap.size 100 i0 _ 2 16 Tryz.underlying40 hi0 hz0 hz1 hz2 rfl (by omega) _ 0 [] rfl ?c1 (w.heap.size + 1) (some ad) xs.length c (xs.flatMap refD.cells) rfl ?c2 flat_one ?c3 ?c4 ?c5 ?_)
    case c1 => exact ⟨by simp, .inr ⟨w.heap.size, 0, #[], rfl, Nat.le_refl _, heap_alloc_new w _, Nat.le_refl _, by unfold maxLen; omega, by simp, by simp⟩⟩
    case c2 => exact ((H.out.reads).alloc (Nat.le_refl _) _).more (by omega)
    case c3 => unfold maxLen; omega
    case c4 => omega
    case c5 => simp
    intro v1 w1 hown hg _
    have hb : Below w.heap.size w w1 := ((Below.refl _ _).alloc (Nat.le_refl _) _).grown hg (by simp) (by simp [Value.ownBlock])
    obtain ⟨A', c', rfl, _⟩ := owns_slice hown
    have hs : Sl refD w1 (fun b => w.heap.size ≤ b) A' xs := by
      refine ⟨fun hne => ?_, fun _ _ => trivial⟩
      obtain ⟨b, off, e, hlt, hc⟩ := lst_of_owns refD.len hown hne
      exact ⟨b, off, e, (owns_lt hown b (by rw [e]; rfl)).1, hlt, hc⟩
    have HS := Lib.hid hs
    have HB := Lib.hid hb
    clear q hs hown hg hb
    go_wp2
    go_ret
    exact ⟨A', c', rfl, HS.out, HB.out⟩

/-- each once, in order -/
def Once (rs rs' : List NoteR) : Prop := (rs'.map NoteR.v).Pairwise ltN ∧ ∀ z, z ∈ rs'.map NoteR.v ↔ z ∈ rs.map NoteR.v
def OncePost (B : Nat) (rs : List NoteR) (w0 : World) (e : Ending) (w' : World) : Prop := ∃ A c rs', e = .returned (.slice A rs'.length c) ∧ Sl noteD w' Any1 A rs' ∧ Once rs rs' ∧ rs'.length ≤ rs.length ∧ Below B w0 w'
theorem cptK_len {α β : Type} {key : α → β} {xs : List α} : ∀ j, (cptK key xs j).length ≤ j
  | 0 => Nat.zero_le _
  | j + 1 => by
    have := cptK_len (key := key) (xs := xs) j
    unfold cptK
    rw [List.length_append]
    split
    · cases h : xs[j]? <;> simp <;> omega
    · simp; omega
theorem sl_row {w : World} {g : Nat} {rs : List NoteR} (h : RowD noteD w g rs) (hg : g < w.heap.size) (hok : ∀ r ∈ rs, Sl refD w (fun b => b ≠ g) r.A r.v.needs) : Sl noteD w Any1 (some ⟨g, 0, none⟩) rs :=
  ⟨fun _ => ⟨g, 0, rfl, trivial, hg, fun j x hx i v hv => by rw [Nat.zero_add]; exact (h j x hx i v hv).1⟩, fun r hr => (hok r hr).all⟩
set_option maxHeartbeats 1000000 in
theorem gossip_sorted (B : Nat) (v : Value) (rs : List NoteR) (w0 w : World) (ho : OwnS noteD 95 B w Any1 v rs) (hr : ∀ r ∈ rs, rightN r.v = true) (ht : Tab B w) (hB : Below B w0 w) (hBw : B ≤ w.heap.size) (hl : rs.length ≤ 100000) :
    Calls Tryz.prog 65 #[v, .func (.func 66) #[] #[]] w (OncePost B rs w0) := by
  obtain ⟨A, cap, rfl, hcap, hcm⟩ := ho.slice
  have hBa : Below B w0 (w.alloc (.cells #[.func (.func 66) #[] #[]] 102)) := hB.alloc hBw _
  have hba : Below w.heap.size w (w.alloc (.cells #[.func (.func 66) #[] #[]] 102)) := (Below.refl _ _).alloc (Nat.le_refl _) _
  by_cases hne : rs = []
  · subst hne
    have hs := fun W => AnyF.slices_SortFunc_none { Tryz.laysSortN with } A cap (.func (.func 66) #[] #[]) W
    change ∀ W, Calls Tryz.prog 91 _ _ _ at hs
    have HS := Lib.hid hs
    have HBa := Lib.hid hBa
    clear hs hBa hba hB ho hr ht
    simp only [List.length_nil]
    go_enter Tryz.func65, Tryz.ntmps65
    go_wp2_with fail
    refine (HS.out _).mono ?_
    rintro e w1 ⟨rfl, rfl⟩
    go_wp2_with fail
    refine (compact_short A 0 cap _ _ (by omega)).mono ?_
    rintro e w2 ⟨rfl, rfl⟩
    go_wp2_with fail
    go_ret
    exact ⟨A, cap, [], rfl, Sl.nil, ⟨by simp, fun z => Iff.rfl⟩, Nat.le_refl _, HBa.out⟩
  · obtain ⟨g, cap', hv, hg1, hg2⟩ := ho.1.form (by cases rs with
      | nil => exact absurd rfl hne
      | cons x l => simp)
    have hA : A = some ⟨g, 0, none⟩ := by injection hv
    subst hA
    have hrow : RowD noteD w g rs := RowD.of_owns ho.1 rfl
    have hdeep : ∀ r ∈ rs, Sl refD w (fun b => b ≠ g) r.A r.v.needs := fun r h => Sl.mono (ho.2 r h) fun b _ q => fun e => q.2 (by rw [e]; rfl)
    have hsort := sort_items B g cap rs (w.alloc (.cells #[.func (.func 66) #[] #[]] 102)) hg1 (by simp; omega) (hrow.below hba hg2) (fun r h => ⟨hr r h, (hdeep r h).below hba⟩) (ht.next hBw hba) (by omega) hne
    have HS := Lib.hid hsort
    have HRT := Lib.hid hr
    have HTB := Lib.hid (ht.next hBw hba)
    have HBB := Lib.hid (hba.mono hBw)
    have HB0 := Lib.hid hBa
    clear hsort hBa hba hB ho hr ht hdeep hrow hv
    go_enter Tryz.func65, Tryz.ntmps65
    go_wp2_with fail
    refine HS.out.mono ?_
    rintro e w1 ⟨rfl, rs1, hs1, hb1, hk1⟩
    obtain ⟨hp, hso, hrow1, hdeep1, hlt1⟩ := hs1
    have hlen : rs1.length = rs.length := hp.length_eq
    have hr1 : ∀ r ∈ rs1, rightN r.v = true := fun r h => HRT.out r (hp.mem_iff.1 h)
    have hmem1 : ∀ z, z ∈ rs1.map NoteR.v ↔ z ∈ rs.map NoteR.v := fun z => (hp.map NoteR.v).mem_iff
    have hcw : CW B g w.heap.size rs1 w0 w1 := ⟨hdeep1, (World.cell?_of_block (a := ⟨w.heap.size, 0, none⟩) (hk1.2 w.heap.size (by simp) (by omega))).trans (by simp [go_sem]), Nat.lt_of_lt_of_le (by simp) hk1.1, by omega, hlt1, Nat.le_trans hBw (Nat.le_trans (by simp) hk1.1), hg1, HB0.out.trans hb1, HTB.out.on hb1⟩
    have hbc : w1.cell? ⟨w.heap.size, 0, none⟩ = some (.func (.func 66) #[] #[]) := hcw.box
    by_cases h2 : 2 ≤ rs1.length
    · have hcomp := compact_items B g w.heap.size cap rs1 w0 w1 (by omega) hcm hrow1 hcw hr1 h2
      rw [hlen] at hcomp
      have HCO := Lib.hid hcomp
      have HON := Lib.hid (show Once rs (cptK NoteR.v rs1 rs1.length) from ⟨cptK_strict hso (fun a ha b hb q1 q2 => ltN_tri (hr1 a ha) (hr1 b hb) q1 q2) _ (Nat.le_refl _), fun z => by rw [cptK_mem _ (Nat.le_refl _), List.take_length]; exact hmem1 z⟩)
      have HLE := Lib.hid (show (cptK NoteR.v rs1 rs1.length).length ≤ rs.length by rw [← hlen]; exact cptK_len _)
      clear hcomp hp hso hrow1 hdeep1 hlen hr1 hmem1 hcw hb1 hk1
      go_wp2_with fail
      refine HCO.out.mono ?_
      rintro e w2 ⟨rfl, hrow2, hcw2⟩
      have HSL := Lib.hid (show Sl noteD w2 Any1 (some ⟨g, 0, none⟩) (cptK NoteR.v rs1 rs1.length) from sl_row hrow2 hcw2.lt (fun r h => hcw2.deep r (cptK_sub _ (Nat.le_refl _) r h)))
      have HBE := Lib.hid hcw2.bel
      clear hrow2 hcw2
      go_wp2_with fail
      go_ret
      exact ⟨_, _, _, rfl, HSL.out, HON.out, HLE.out, HBE.out⟩
    · have HSL := Lib.hid (show Sl noteD w1 Any1 (some ⟨g, 0, none⟩) rs1 from sl_row hrow1 hlt1 hdeep1)
      have HON := Lib.hid (show Once rs rs1 from ⟨by
        match rs1, h2 with
        | [], _ => simp
        | [x], _ => simp
        | x :: y :: l, h2 => simp at h2, hmem1⟩)
      have HBE := Lib.hid hcw.bel
      have HLE := Lib.hid hlen
      have h2' : rs.length < 2 := by omega
      clear hp hso hrow1 hdeep1 hlen hr1 hmem1 hcw hb1 hk1
      go_wp2_with fail
      refine (compact_short _ _ cap _ _ h2').mono ?_
      rintro e w2 ⟨rfl, rfl⟩
      go_wp2_with fail
      go_ret
      exact ⟨_, _, rs1, by rw [HLE.out]; rfl, HSL.out, HON.out, by rw [HLE.out]; exact Nat.le_refl _, HBE.out⟩
end Go.Proofs.YtaojnjealccjiaaGreatDoor

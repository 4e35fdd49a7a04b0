/- Ground for the walks of the arena: what stays (Fr), an arena in memory (AS, AO), a store into a node. -/
import Derived.Test.YtjebpaapkmbahaaPArenaPlaysx0
import Derived.Deep.RegionLaw
import Derived.BigRegion
import Derived.WideShapes
import Derived.Deep.DeepCutAuto
import Derived.Deep.CutBlock
namespace Go.Proofs.Ytjebpaapkmbahaa.Ar
open Go.RowKit Go.Proofs.Ytjebpaapkmbahaa.PArenaPlays Go.Proofs.YtjebpaapkmbahaaW.PrintWords Go.Proofs.YtjebpaapkmbahaaW.PrintLast
set_option linter.unusedVariables false
set_option linter.unusedSimpArgs false
theorem hide {p : Prop} (h : p) : Hid p := h
theorem cellW {w w' : World} {p : Addr} {v : Value} (h : w.cell? p = some v) (hb : Below w.heap.size w w') : w'.cell? p = some v := pw_cell_below hb h
/-- What stays: all below N, and each block of a type that is none of T. -/
structure Fr (N : Nat) (T : Nat → Prop) (w w' : World) : Prop where
  below : Below N w w'
  keep : ∀ (k : Nat) (cs : Array Value) (t : Nat), w.heap[k]? = some (.cells cs t (0, 0)) → ¬ T t → w'.heap[k]? = w.heap[k]?
theorem Fr.refl (N : Nat) (T : Nat → Prop) (w : World) : Fr N T w w := ⟨Below.refl N w, fun _ _ _ _ _ => rfl⟩
theorem Fr.of_below {N : Nat} {T : Nat → Prop} {w w' : World} (h : Below w.heap.size w w') (hN : N ≤ w.heap.size) : Fr N T w w' := ⟨h.mono hN, fun k _ _ hk _ => h.block k (blk_lt hk)⟩
theorem Fr.trans {N : Nat} {T : Nat → Prop} {w w1 w2 : World} (h : Fr N T w w1) (h2 : Fr N T w1 w2) : Fr N T w w2 := ⟨h.below.trans h2.below, fun k cs t hk ht => (h2.keep k cs t ((h.keep k cs t hk ht).trans hk) ht).trans (h.keep k cs t hk ht)⟩
theorem Fr.low {N N' : Nat} {T : Nat → Prop} {w w' : World} (h : Fr N T w w') (hN : N' ≤ N) : Fr N' T w w' := ⟨h.below.mono hN, h.keep⟩
theorem Fr.wide {N : Nat} {T T' : Nat → Prop} {w w' : World} (h : Fr N T w w') (hT : ∀ t, T t → T' t) : Fr N T' w w' := ⟨h.below, fun k cs t hk ht => h.keep k cs t hk (fun h => ht (hT t h))⟩
theorem Fr.size {N : Nat} {T : Nat → Prop} {w w' : World} (h : Fr N T w w') : w.heap.size ≤ w'.heap.size := h.below.size
theorem Fr.then_ {N : Nat} {T : Nat → Prop} {w w1 w2 : World} (h : Fr N T w w1) (hb : Below w1.heap.size w1 w2) (hN : N ≤ w.heap.size) : Fr N T w w2 := h.trans (Fr.of_below hb (Nat.le_trans hN h.size))
theorem Fr.set {N : Nat} {T : Nat → Prop} {w w' : World} (h : Fr N T w w') {g t : Nat} {cs : Array Value} (hg : w'.heap[g]? = some (.cells cs t (0, 0))) (ht : T t) (hN : N ≤ g) (j : Nat) (u : Value) : Fr N T w (w'.setCell ⟨g, j, none⟩ u) :=
  ⟨h.below.setCell (p := ⟨g, j, none⟩) hN u, fun k c t' hk ht' => by
    have h1 := h.keep k c t' hk ht'
    refine (Below.heap_setCell w' ⟨g, j, none⟩ u k (fun e => ?_)).trans h1
    have e' : k = g := e
    subst e'
    rw [hk] at h1
    rw [h1] at hg
    simp only [Option.some.injEq, Obj.cells.injEq] at hg
    exact ht' (by rw [hg.2.1]; exact ht)⟩
theorem Fr.grown {N : Nat} {T : Nat → Prop} {w w1 w2 : World} (h : Fr N T w w1) {row : Option Nat} (hg : w1.grownBy w2 row) (hr : ∀ b, row = some b → N ≤ b ∧ ∃ cs t, w1.heap[b]? = some (.cells cs t (0, 0)) ∧ T t) (hN : N ≤ w.heap.size) : Fr N T w w2 := by
  have hN1 : N ≤ w1.heap.size := Nat.le_trans hN h.size
  refine h.trans ⟨⟨hg.os, hg.tape, hg.output, hg.size, fun k hk => hg.block k (by omega) (fun e => ?_)⟩, fun k cs t hk ht => hg.block k (blk_lt hk) (fun e => ?_)⟩
  · have := (hr k e.symm).1
    omega
  · obtain ⟨_, cs', t', h1, h2⟩ := hr k e.symm
    rw [hk] at h1
    simp only [Option.some.injEq, Obj.cells.injEq] at h1
    exact ht (by rw [h1.2.1]; exact h2)
theorem Fr.R {N base e : Nat} {T : Nat → Prop} {w w' : World} (h : Fr N T w w') {α : Type} {d : Kd α} {ok : Nat → Prop} {v : Value} {xs : List α} (hR : d.R e w base ok v xs) (ht : ∀ q, q ∈ e :: d.E → ¬ T q) : d.R e w' base ok v xs :=
  Kd.R_mono (Kd.R_step (Kd.R_bound hR) (fun k hk _ => by
    obtain ⟨_, _, _, q, hq, cells, hc⟩ := hk
    exact h.keep k cells q hc (ht q hq))) (fun k hk => hk.1)
/-- The blocks that an arena's calls write. -/
def TA (t : Nat) : Prop := t = 69 ∨ t = 72
/-- The blocks that the reference's calls write. -/
def TB (t : Nat) : Prop := t = 89 ∨ t = 86
def nd (l : List S72) (i : Nat) : S72 := l.getD i z72
theorem nd_get {l : List S72} {i : Nat} (h : i < l.length) : l[i]? = some (nd l i) := by
  unfold nd
  rw [List.getD_eq_getElem?_getD, List.getElem?_eq_getElem h]
  rfl
theorem nd_set {l : List S72} {i j : Nat} (x : S72) (h : i < l.length) : nd (l.set i x) j = if j = i then x else nd l j := by
  unfold nd
  rw [List.getD_eq_getElem?_getD, List.getD_eq_getElem?_getD, List.getElem?_set]
  by_cases e : i = j
  · subst e
    simp [h]
  · rw [if_neg e, if_neg (fun e2 => e e2.symm)]
/-- An arena in memory, at block g. -/
def AS (w : World) (N g : Nat) (l : List S72) (q : Bool) : Prop := ∃ v, w.heap[g]? = some (.cells #[v, .bool q] 69 (0, 0)) ∧ N ≤ g ∧ k72.R 72 w N (fun _ => True) v l
/-- The same, its row's block gl. -/
structure AO (w : World) (N g gl cap : Nat) (l : List S72) (q : Bool) : Prop where
  box : w.heap[g]? = some (.cells #[.slice (some ⟨gl, 0, none⟩) l.length cap, .bool q] 69 (0, 0))
  hg : N ≤ g
  row : k72.R 72 w N (fun _ => True) (.slice (some ⟨gl, 0, none⟩) l.length cap) l
theorem AS.open_ {w : World} {N g : Nat} {l : List S72} {q : Bool} (h : AS w N g l q) (hl : 0 < l.length) : ∃ gl cap, AO w N g gl cap l q := by
  obtain ⟨v, hb, hg, hR⟩ := h
  obtain ⟨gl, cap, rfl, _⟩ := Kd.R_form hR hl
  exact ⟨gl, cap, hb, hg, hR⟩
theorem AO.as {w : World} {N g gl cap : Nat} {l : List S72} {q : Bool} (h : AO w N g gl cap l q) : AS w N g l q := ⟨_, h.box, h.hg, h.row⟩
theorem AO.blk {w : World} {N g gl cap : Nat} {l : List S72} {q : Bool} (h : AO w N g gl cap l q) : N ≤ gl ∧ ∃ cs, w.heap[gl]? = some (.cells cs 72 (0, 0)) := ⟨Kd.R_base h.row gl rfl, Kd.R_typed h.row gl rfl⟩
theorem AO.ne {w : World} {N g gl cap : Nat} {l : List S72} {q : Bool} (h : AO w N g gl cap l q) : g ≠ gl := by
  obtain ⟨_, cs, hc⟩ := h.blk
  rintro rfl
  rw [h.box] at hc
  simp only [Option.some.injEq, Obj.cells.injEq] at hc
  exact absurd hc.2.1 (by decide)
theorem AS.frame {w w' : World} {N N' g : Nat} {l : List S72} {q : Bool} {T : Nat → Prop} (h : AS w N g l q) (hf : Fr N' T w w') (h69 : ¬ T 69) (h72 : ∀ t, t ∈ [72, 35, 62] → ¬ T t) : AS w' N g l q := by
  obtain ⟨v, hb, hg, hR⟩ := h
  refine ⟨v, (hf.keep g _ 69 hb h69).trans hb, hg, hf.R hR (fun t ht => h72 t ?_)⟩
  have hE : ∀ q, q ∈ 72 :: k72.E → q ∈ [72, 35, 62] := by decide
  exact hE t ht
theorem AO.frame {w w' : World} {N N' g gl cap : Nat} {l : List S72} {q : Bool} {T : Nat → Prop} (h : AO w N g gl cap l q) (hf : Fr N' T w w') (h69 : ¬ T 69) (h72 : ∀ t, t ∈ [72, 35, 62] → ¬ T t) : AO w' N g gl cap l q := by
  refine ⟨(hf.keep g _ 69 h.box h69).trans h.box, h.hg, hf.R h.row (fun t ht => h72 t ?_)⟩
  have hE : ∀ q, q ∈ 72 :: k72.E → q ∈ [72, 35, 62] := by decide
  exact hE t ht
theorem AS.below {w w' : World} {N g : Nat} {l : List S72} {q : Bool} (h : AS w N g l q) (hb : Below w.heap.size w w') : AS w' N g l q :=
  h.frame (T := fun _ => False) (Fr.of_below hb (Nat.le_refl _)) id (fun _ _ => id)
theorem AO.below {w w' : World} {N g gl cap : Nat} {l : List S72} {q : Bool} (h : AO w N g gl cap l q) (hb : Below w.heap.size w w') : AO w' N g gl cap l q :=
  h.frame (T := fun _ => False) (Fr.of_below hb (Nat.le_refl _)) id (fun _ _ => id)
/-- A node's cells. -/
structure Nd (w : World) (gl o : Nat) (x : S72) (v3 v5 : Value) : Prop where
  c0 : w.cell? ⟨gl, o, none⟩ = some (.int .i64 x.f0.f0)
  c1 : w.cell? ⟨gl, o + 1, none⟩ = some (.int .i64 x.f0.f1)
  c2 : w.cell? ⟨gl, o + 2, none⟩ = some (.string x.f0.f2)
  c3 : w.cell? ⟨gl, o + 3, none⟩ = some v3
  c4 : w.cell? ⟨gl, o + 4, none⟩ = some (.string x.f0.f4)
  c5 : w.cell? ⟨gl, o + 5, none⟩ = some v5
  c6 : w.cell? ⟨gl, o + 6, none⟩ = some (.int .i64 x.f1)
  c7 : w.cell? ⟨gl, o + 7, none⟩ = some (.int .i64 x.f2)
  c8 : w.cell? ⟨gl, o + 8, none⟩ = some (.int .i64 x.f3)
  c9 : w.cell? ⟨gl, o + 9, none⟩ = some (.int .i64 x.f4)
  c10 : w.cell? ⟨gl, o + 10, none⟩ = some (.int .i64 x.f5)
  c11 : w.cell? ⟨gl, o + 11, none⟩ = some (.int .i64 x.f6)
theorem AO.elem {w : World} {N g gl cap : Nat} {l : List S72} {q : Bool} (h : AO w N g gl cap l q) (i : Nat) (hi : i < l.length) : ∃ v3 v5, Nd w gl (i * 12) (nd l i) v3 v5 ∧ k62.R 62 w N (fun k => k ≠ gl) v3 (nd l i).f0.f3 ∧ k35.R 35 w N (fun k => k ≠ gl) v5 (nd l i).f0.f5 := by
  obtain ⟨c, hl, hM, hcc, _⟩ := Kd.R_elem h.row z72 (i : Int) (by omega) (by omega)
  obtain ⟨v3, v5, rfl, g3, g5⟩ := k72_openM hM
  have hcc' : ∀ j u, _ → w.cell? ⟨gl, i * 12 + j, none⟩ = some u := hcc
  exact ⟨v3, v5, ⟨hcc' 0 _ rfl, hcc' 1 _ rfl, hcc' 2 _ rfl, hcc' 3 _ rfl, hcc' 4 _ rfl, hcc' 5 _ rfl, hcc' 6 _ rfl, hcc' 7 _ rfl, hcc' 8 _ rfl, hcc' 9 _ rfl, hcc' 10 _ rfl, hcc' 11 _ rfl⟩, Kd.R_mono g3 (fun k hk => hk.2), Kd.R_mono g5 (fun k hk => hk.2)⟩
theorem AO.fz {w : World} {N g gl cap : Nat} {l : List S72} {q : Bool} (h : AO w N g gl cap l q) (j : Nat) : w.frozen? ⟨gl, j, none⟩ = false := by
  obtain ⟨_, cs, hc⟩ := h.blk
  exact blk_frozen hc j
theorem AO.c0 {w : World} {N g gl cap : Nat} {l : List S72} {q : Bool} (h : AO w N g gl cap l q) : w.cell? ⟨g, 0, none⟩ = some (.slice (some ⟨gl, 0, none⟩) l.length cap) := cell_of_row _ _ 0 _ _ _ h.box
theorem AO.c1 {w : World} {N g gl cap : Nat} {l : List S72} {q : Bool} (h : AO w N g gl cap l q) : w.cell? ⟨g, 1, none⟩ = some (.bool q) := cell_of_row _ _ 1 _ _ _ h.box
/-- Another 'up'. -/
def s1 (x : S72) (v : Int) : S72 := ⟨x.f0, v, x.f2, x.f3, x.f4, x.f5, x.f6⟩
theorem AO.s1 {w : World} {N g gl cap : Nat} {l : List S72} {q : Bool} (h : AO w N g gl cap l q) (i : Nat) (hi : i < l.length) (v : Int) : AO (w.setCell ⟨gl, i * 12 + 6, none⟩ (.int .i64 v)) N g gl cap (l.set i (s1 (nd l i) v)) q := by
  obtain ⟨c, hl, hM, hcc, _⟩ := Kd.R_elem h.row z72 (i : Int) (by omega) (by omega)
  obtain ⟨v3, v5, rfl, g3, g5⟩ := k72_openM hM
  have h1 := (Kd.R_seg (d := k72) h.row (i : Int) (by omega) (by omega) rfl hcc (seg := [.int .i64 v]) (j := 6) (by show 6 + 1 ≤ 12; omega) (x' := Ar.s1 (nd l i) v) (k72_mkM w N _ (Ar.s1 (nd l i) v) g3 g5) (fun k hk => hk)).1
  rw [Int.toNat_natCast] at h1
  exact ⟨by rw [List.length_set]; exact (Below.heap_setCell _ _ _ _ h.ne).trans h.box, h.hg, by rw [List.length_set]; exact h1⟩
/-- Another 'first'. -/
def s2 (x : S72) (v : Int) : S72 := ⟨x.f0, x.f1, v, x.f3, x.f4, x.f5, x.f6⟩
theorem AO.s2 {w : World} {N g gl cap : Nat} {l : List S72} {q : Bool} (h : AO w N g gl cap l q) (i : Nat) (hi : i < l.length) (v : Int) : AO (w.setCell ⟨gl, i * 12 + 7, none⟩ (.int .i64 v)) N g gl cap (l.set i (s2 (nd l i) v)) q := by
  obtain ⟨c, hl, hM, hcc, _⟩ := Kd.R_elem h.row z72 (i : Int) (by omega) (by omega)
  obtain ⟨v3, v5, rfl, g3, g5⟩ := k72_openM hM
  have h1 := (Kd.R_seg (d := k72) h.row (i : Int) (by omega) (by omega) rfl hcc (seg := [.int .i64 v]) (j := 7) (by show 7 + 1 ≤ 12; omega) (x' := Ar.s2 (nd l i) v) (k72_mkM w N _ (Ar.s2 (nd l i) v) g3 g5) (fun k hk => hk)).1
  rw [Int.toNat_natCast] at h1
  exact ⟨by rw [List.length_set]; exact (Below.heap_setCell _ _ _ _ h.ne).trans h.box, h.hg, by rw [List.length_set]; exact h1⟩
/-- Another 'last'. -/
def s3 (x : S72) (v : Int) : S72 := ⟨x.f0, x.f1, x.f2, v, x.f4, x.f5, x.f6⟩
theorem AO.s3 {w : World} {N g gl cap : Nat} {l : List S72} {q : Bool} (h : AO w N g gl cap l q) (i : Nat) (hi : i < l.length) (v : Int) : AO (w.setCell ⟨gl, i * 12 + 8, none⟩ (.int .i64 v)) N g gl cap (l.set i (s3 (nd l i) v)) q := by
  obtain ⟨c, hl, hM, hcc, _⟩ := Kd.R_elem h.row z72 (i : Int) (by omega) (by omega)
  obtain ⟨v3, v5, rfl, g3, g5⟩ := k72_openM hM
  have h1 := (Kd.R_seg (d := k72) h.row (i : Int) (by omega) (by omega) rfl hcc (seg := [.int .i64 v]) (j := 8) (by show 8 + 1 ≤ 12; omega) (x' := Ar.s3 (nd l i) v) (k72_mkM w N _ (Ar.s3 (nd l i) v) g3 g5) (fun k hk => hk)).1
  rw [Int.toNat_natCast] at h1
  exact ⟨by rw [List.length_set]; exact (Below.heap_setCell _ _ _ _ h.ne).trans h.box, h.hg, by rw [List.length_set]; exact h1⟩
/-- Another 'before'. -/
def s4 (x : S72) (v : Int) : S72 := ⟨x.f0, x.f1, x.f2, x.f3, v, x.f5, x.f6⟩
theorem AO.s4 {w : World} {N g gl cap : Nat} {l : List S72} {q : Bool} (h : AO w N g gl cap l q) (i : Nat) (hi : i < l.length) (v : Int) : AO (w.setCell ⟨gl, i * 12 + 9, none⟩ (.int .i64 v)) N g gl cap (l.set i (s4 (nd l i) v)) q := by
  obtain ⟨c, hl, hM, hcc, _⟩ := Kd.R_elem h.row z72 (i : Int) (by omega) (by omega)
  obtain ⟨v3, v5, rfl, g3, g5⟩ := k72_openM hM
  have h1 := (Kd.R_seg (d := k72) h.row (i : Int) (by omega) (by omega) rfl hcc (seg := [.int .i64 v]) (j := 9) (by show 9 + 1 ≤ 12; omega) (x' := Ar.s4 (nd l i) v) (k72_mkM w N _ (Ar.s4 (nd l i) v) g3 g5) (fun k hk => hk)).1
  rw [Int.toNat_natCast] at h1
  exact ⟨by rw [List.length_set]; exact (Below.heap_setCell _ _ _ _ h.ne).trans h.box, h.hg, by rw [List.length_set]; exact h1⟩
/-- Another 'behind'. -/
def s5 (x : S72) (v : Int) : S72 := ⟨x.f0, x.f1, x.f2, x.f3, x.f4, v, x.f6⟩
theorem AO.s5 {w : World} {N g gl cap : Nat} {l : List S72} {q : Bool} (h : AO w N g gl cap l q) (i : Nat) (hi : i < l.length) (v : Int) : AO (w.setCell ⟨gl, i * 12 + 10, none⟩ (.int .i64 v)) N g gl cap (l.set i (s5 (nd l i) v)) q := by
  obtain ⟨c, hl, hM, hcc, _⟩ := Kd.R_elem h.row z72 (i : Int) (by omega) (by omega)
  obtain ⟨v3, v5, rfl, g3, g5⟩ := k72_openM hM
  have h1 := (Kd.R_seg (d := k72) h.row (i : Int) (by omega) (by omega) rfl hcc (seg := [.int .i64 v]) (j := 10) (by show 10 + 1 ≤ 12; omega) (x' := Ar.s5 (nd l i) v) (k72_mkM w N _ (Ar.s5 (nd l i) v) g3 g5) (fun k hk => hk)).1
  rw [Int.toNat_natCast] at h1
  exact ⟨by rw [List.length_set]; exact (Below.heap_setCell _ _ _ _ h.ne).trans h.box, h.hg, by rw [List.length_set]; exact h1⟩
/-- Another 'in_'. -/
def s6 (x : S72) (v : Int) : S72 := ⟨x.f0, x.f1, x.f2, x.f3, x.f4, x.f5, v⟩
theorem AO.s6 {w : World} {N g gl cap : Nat} {l : List S72} {q : Bool} (h : AO w N g gl cap l q) (i : Nat) (hi : i < l.length) (v : Int) : AO (w.setCell ⟨gl, i * 12 + 11, none⟩ (.int .i64 v)) N g gl cap (l.set i (s6 (nd l i) v)) q := by
  obtain ⟨c, hl, hM, hcc, _⟩ := Kd.R_elem h.row z72 (i : Int) (by omega) (by omega)
  obtain ⟨v3, v5, rfl, g3, g5⟩ := k72_openM hM
  have h1 := (Kd.R_seg (d := k72) h.row (i : Int) (by omega) (by omega) rfl hcc (seg := [.int .i64 v]) (j := 11) (by show 11 + 1 ≤ 12; omega) (x' := Ar.s6 (nd l i) v) (k72_mkM w N _ (Ar.s6 (nd l i) v) g3 g5) (fun k hk => hk)).1
  rw [Int.toNat_natCast] at h1
  exact ⟨by rw [List.length_set]; exact (Below.heap_setCell _ _ _ _ h.ne).trans h.box, h.hg, by rw [List.length_set]; exact h1⟩
/-- Another text. -/
def sT (x : S72) (s : ByteArray) : S72 := ⟨⟨x.f0.f0, x.f0.f1, x.f0.f2, x.f0.f3, s, x.f0.f5⟩, x.f1, x.f2, x.f3, x.f4, x.f5, x.f6⟩
theorem AO.sT {w : World} {N g gl cap : Nat} {l : List S72} {q : Bool} (h : AO w N g gl cap l q) (i : Nat) (hi : i < l.length) (s : ByteArray) : AO (w.setCell ⟨gl, i * 12 + 4, none⟩ (.string s)) N g gl cap (l.set i (sT (nd l i) s)) q := by
  obtain ⟨c, hl, hM, hcc, _⟩ := Kd.R_elem h.row z72 (i : Int) (by omega) (by omega)
  obtain ⟨v3, v5, rfl, g3, g5⟩ := k72_openM hM
  have h1 := (Kd.R_seg (d := k72) h.row (i : Int) (by omega) (by omega) rfl hcc (seg := [.string s]) (j := 4) (by show 4 + 1 ≤ 12; omega) (x' := Ar.sT (nd l i) s) (k72_mkM w N _ (Ar.sT (nd l i) s) g3 g5) (fun k hk => hk)).1
  rw [Int.toNat_natCast] at h1
  exact ⟨by rw [List.length_set]; exact (Below.heap_setCell _ _ _ _ h.ne).trans h.box, h.hg, by rw [List.length_set]; exact h1⟩
/-- Other attributes. -/
def sA (x : S72) (a : List S62) : S72 := ⟨⟨x.f0.f0, x.f0.f1, x.f0.f2, a, x.f0.f4, x.f0.f5⟩, x.f1, x.f2, x.f3, x.f4, x.f5, x.f6⟩
theorem AO.sA {w : World} {N g gl cap : Nat} {l : List S72} {q : Bool} (h : AO w N g gl cap l q) (i : Nat) (hi : i < l.length) {v : Value} {a : List S62} {ok : Nat → Prop} (hv : k62.R 62 w N ok v a) : AO (w.setCell ⟨gl, i * 12 + 3, none⟩ v) N g gl cap (l.set i (sA (nd l i) a)) q := by
  obtain ⟨c, hl, hM, hcc, _⟩ := Kd.R_elem h.row z72 (i : Int) (by omega) (by omega)
  obtain ⟨v3, v5, rfl, g3, g5⟩ := k72_openM hM
  obtain ⟨_, cs, hc⟩ := h.blk
  have hv' : k62.R 62 w N (fun k => True ∧ k ≠ gl) v a := Kd.R_mono (Kd.R_types hv hc (by decide)) (fun k hk => ⟨trivial, hk.2⟩)
  have h1 := (Kd.R_seg (d := k72) h.row (i : Int) (by omega) (by omega) rfl hcc (seg := [v]) (j := 3) (by show 3 + 1 ≤ 12; omega) (x' := Ar.sA (nd l i) a) (k72_mkM w N _ (Ar.sA (nd l i) a) hv' g5) (fun k hk => hk)).1
  rw [Int.toNat_natCast] at h1
  exact ⟨by rw [List.length_set]; exact (Below.heap_setCell _ _ _ _ h.ne).trans h.box, h.hg, by rw [List.length_set]; exact h1⟩
end Go.Proofs.Ytjebpaapkmbahaa.Ar

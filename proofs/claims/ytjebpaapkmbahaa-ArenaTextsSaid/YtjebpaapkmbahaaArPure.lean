/- The walk of the arena's Pure. -/
import Derived.Test.YtjebpaapkmbahaaArPureP
namespace Go.Proofs.Ytjebpaapkmbahaa.Ar
open Go.RowKit Go.Proofs.Ytjebpaapkmbahaa.PArenaPlays Go.Proofs.YtjebpaapkmbahaaW.PrintWords Go.Proofs.YtjebpaapkmbahaaW.PrintLast
set_option linter.unusedVariables false
set_option linter.unusedSimpArgs false
theorem info35 : (Try.prog.info? 35).map (fun i => (i.zero, i.size, i.bytes)) = some (some (.agg #[.int .i64 0, .int .i64 0, .string ⟨#[]⟩, .slice none 0 0, .string ⟨#[]⟩, .slice none 0 0]), 6, 96) := by kernel_rfl
/-- The blocks that a stack's calls write. -/
def TS (t : Nat) : Prop := t = 109 ∨ t = 81
theorem push_fr {base s : Nat} {v v1 : Value} {xs : List Jb} {w w' : World} (h : StkJb base s v xs w) (hp : Push_ w w' s v v1) : Fr base TS w w' :=
  ⟨h.step ⟨v1, hp⟩ (Nat.le_refl _), fun k cs t hk ht => hp.keep.2 k (blk_lt hk) (fun e => by
    subst e
    rw [h.stk] at hk
    simp only [Option.some.injEq, Obj.cells.injEq] at hk
    exact ht (.inl hk.2.1.symm)) (fun e => by
    obtain ⟨cs', hc⟩ := Kd.R_typed h.row k e.symm
    rw [hk] at hc
    simp only [Option.some.injEq, Obj.cells.injEq] at hc
    exact ht (.inr hc.2.1))⟩
theorem TP.far {w w' : World} {B : Nat} {v : Value} {t : S35} (h : TP w B v t) (hf : ∀ k, B ≤ k → w'.heap[k]? = w.heap[k]?) : TP w' B v t := fun W hW => h W (fun k cs q hk hc hq => (hW k cs q hk ((hf k hk).trans hc) hq).trans (hf k hk))
def toJb (j : Nat × Nat × Nat) : Jb := ⟨some ⟨j.1, j.2.1, none⟩, (j.2.2 : Int)⟩
/-- What waits, and what is there. -/
structure PBase (w : World) (B X X6 N g gl cap : Nat) (l : List S72) (q : Bool) (n : Nat) (js : List (Nat × Nat × Nat)) (wr : World) : Prop where
  inv : Inv B l X6 n js wr
  pnd : ∀ j, j ∈ js → Pnd B l wr j.1 j.2.1 j.2.2
  nod : (js.map (fun j => (j.1, j.2.1))).Nodup
  xb : wr.heap[X]? = some (.cells #[.int .i64 0, .int .i64 0, .string ⟨#[]⟩, .slice none 0 0, .string ⟨#[]⟩, .slice none 0 0] 35 (0, 0))
  x6 : ∃ cs, wr.heap[X6]? = some (.cells cs 35 (0, 0))
  bel : Below w.heap.size w wr
/-- At the loop's head. -/
structure PRel (w : World) (B s X X6 N g gl cap : Nat) (l : List S72) (q : Bool) (n : Nat) (v : Value) (js : List (Nat × Nat × Nat)) (wr : World) : Prop extends PBase w B X X6 N g gl cap l q n js wr where
  stk : StkJb w.heap.size s v (js.map toJb) wr
theorem PBase.fr {w : World} {B X X6 N g gl cap : Nat} {l : List S72} {q : Bool} {n : Nat} {js : List (Nat × Nat × Nat)} {wr w' : World} {T : Nat → Prop} (h : PBase w B X X6 N g gl cap l q n js wr) (hf : Fr w.heap.size T wr w') (h35 : ¬ T 35) (h62 : ¬ T 62) (h69 : ¬ T 69) (h72 : ¬ T 72) : PBase w B X X6 N g gl cap l q n js w' := by
  refine ⟨h.inv.fr hf h35 h62, fun j hj => (h.pnd j hj).fr hf h35 h62, h.nod, (hf.keep _ _ 35 h.xb h35).trans h.xb, ?_, h.bel.trans hf.below⟩
  · obtain ⟨cs, hc⟩ := h.x6
    exact ⟨cs, (hf.keep _ _ 35 hc h35).trans hc⟩
theorem nTS {t : Nat} (h1 : t ≠ 109) (h2 : t ≠ 81) : ¬ TS t := by rintro (h | h); exact h1 h; exact h2 h
theorem PBase.ts {w : World} {B X X6 N g gl cap : Nat} {l : List S72} {q : Bool} {n : Nat} {js : List (Nat × Nat × Nat)} {wr w' : World} (h : PBase w B X X6 N g gl cap l q n js wr) (hf : Fr w.heap.size TS wr w') : PBase w B X X6 N g gl cap l q n js w' :=
  h.fr hf (nTS (by decide) (by decide)) (nTS (by decide) (by decide)) (nTS (by decide) (by decide)) (nTS (by decide) (by decide))
theorem PBase.below {w : World} {B X X6 N g gl cap : Nat} {l : List S72} {q : Bool} {n : Nat} {js : List (Nat × Nat × Nat)} {wr w' : World} (h : PBase w B X X6 N g gl cap l q n js wr) (hb : Below wr.heap.size wr w') : PBase w B X X6 N g gl cap l q n js w' :=
  h.fr (T := fun _ => False) (Fr.of_below hb h.bel.size) id id id id
theorem PBase.dis {w : World} {B X X6 N g gl cap : Nat} {l : List S72} {q : Bool} {n b o m : Nat} {qs : List (Nat × Nat × Nat)} {wr : World} (h : PBase w B X X6 N g gl cap l q n (qs ++ [(b, o, m)]) wr) : ∀ j, j ∈ qs → ¬ (j.1 = b ∧ j.2.1 = o) := fun j hj e => by
  have hn := h.nod
  rw [List.map_append, List.nodup_append] at hn
  exact hn.2.2 (j.1, j.2.1) (List.mem_map.2 ⟨j, hj, rfl⟩) (b, o) (by simp) (by rw [e.1, e.2])
/-- A node without kids is done. -/
theorem PBase.leaf {w : World} {B X X6 N g gl cap : Nat} {l : List S72} {q : Bool} {n b o m : Nat} {qs : List (Nat × Nat × Nat)} {wr : World} (h : PBase w B X X6 N g gl cap l q n (qs ++ [(b, o, m)]) wr) (hp : PureOk l) (hk : kidsL l m = []) : PBase w B X X6 N g gl cap l q n qs wr :=
  ⟨h.inv.leaf hp (h.pnd _ (List.mem_append_right _ (List.mem_singleton.2 rfl))) hk h.dis (fun j hj => (h.pnd j (List.mem_append_left _ hj)).ho), fun j hj => h.pnd j (List.mem_append_left _ hj), by
    have hn := h.nod
    rw [List.map_append, List.nodup_append] at hn
    exact hn.1, h.xb, h.x6, h.bel⟩
def wtJ (l : List S72) (js : List (Nat × Nat × Nat)) : Nat := (js.map (fun j => szT l j.2.2)).sum
theorem wtJ_app (l : List S72) (a b : List (Nat × Nat × Nat)) : wtJ l (a ++ b) = wtJ l a + wtJ l b := by unfold wtJ; rw [List.map_append, List.sum_append]
theorem PureOk.pos {l : List S72} (h : PureOk l) {n : Nat} (hn : n < l.length) : 1 ≤ szT l n := by rw [h.sz hn]; omega
theorem wtJ_len {l : List S72} (h : PureOk l) : ∀ js : List (Nat × Nat × Nat), (∀ j, j ∈ js → j.2.2 < l.length) → js.length ≤ wtJ l js
  | [], _ => Nat.zero_le _
  | j :: js, hj => by
    have h1 := wtJ_len h js (fun x hx => hj x (List.mem_cons_of_mem _ hx))
    have h2 := h.pos (hj j List.mem_cons_self)
    unfold wtJ at h1 ⊢
    rw [List.map_cons, List.sum_cons, List.length_cons]
    omega
theorem wtJ_kids (l : List S72) (Z : Nat) (ks : List Nat) : wtJ l (kjobs Z ks) = (ks.map (szT l)).sum := by
  unfold wtJ kjobs
  rw [List.map_map]
  congr 1
  refine List.ext_getElem (by simp) (fun i h1 h2 => ?_)
  simp only [List.length_map, List.length_range] at h1
  simp [List.getD_eq_getElem?_getD, List.getElem?_eq_getElem h1]
theorem make35 (m : Nat) (hm : m ≤ 1000000) : ∃ zc : Array Value, zc.size = m * 6 ∧ ∀ W : World, (Instr.makeSlice 33 (.int .i64 (m : Int)) (.int .i64 (m : Int))).run Try.prog W = .ok (.slice (some ⟨W.heap.size, 0, none⟩) m m) (W.alloc (.cells zc 35)) := by
  obtain ⟨i0, hi, hzz⟩ := Option.map_eq_some_iff.1 info35
  simp only [Prod.mk.injEq] at hzz
  obtain ⟨hz0, hz1, hz2⟩ := hzz
  refine ⟨madeCells #[.int .i64 0, .int .i64 0, .string ⟨#[]⟩, .slice none 0 0, .string ⟨#[]⟩, .slice none 0 0] (m * 6), size_madeCells _ _, fun W => ?_⟩
  have h := run_make (P := Try.prog) W 33 35 i0 _ Try.underlying33 hi hz0 .i64 .i64 (m : Int) (m : Int) (by omega) (by omega) (by rw [hz2]; omega) (by omega)
  rw [Int.toNat_natCast, hz1] at h
  exact h
/-- What a round has done so far, its row of kids there. -/
structure RP (B : Nat) (w w2 : World) (b o Z m c : Nat) : Prop extends Rnd B w w2 b o Z m c where
  zb : ∃ zc, w2.heap[Z]? = some (.cells zc 35 (0, 0)) ∧ m * 6 ≤ zc.size
theorem RP.step {B : Nat} {w w2 w4 : World} {b o Z m c : Nat} (h : RP B w w2 b o Z m c) (hB : B ≤ b) {cs : Array Value} (hb : w.heap[b]? = some (.cells cs 35 (0, 0))) (hs : ∀ (k : Nat) (cs : Array Value) (t : Nat), w2.heap[k]? = some (.cells cs t (0, 0)) → (t = 35 ∨ t = 62) → k ≠ Z → w4.heap[k]? = w2.heap[k]?) (hz : ∃ zc, w4.heap[Z]? = some (.cells zc 35 (0, 0)) ∧ m * 6 ≤ zc.size) : RP B w w4 b o Z m c := by
  have hnew := h.new
  refine ⟨⟨fun k cs hk hc => ?_, fun k cs hk hc => ?_, ?_, h.new, h.mc⟩, hz⟩
  · have h1 := h.e62 k cs hk hc
    exact (hs k cs 62 (h1.trans hc) (.inr rfl) (by have := blk_lt hc; omega)).trans h1
  · obtain ⟨cs', h1, h2⟩ := h.e35 k cs hk hc
    exact ⟨cs', (hs k cs' 35 h1 (.inl rfl) (by have := blk_lt hc; omega)).trans h1, h2⟩
  · obtain ⟨cs', h1, h2⟩ := h.e35 b cs hB hb
    have h3 := (hs b cs' 35 h1 (.inl rfl) (by have := blk_lt hb; omega)).trans h1
    rw [cell_of_arr h3, ← cell_of_arr h1]
    exact h.at5
theorem Pnd.rnd {B : Nat} {l : List S72} {w w2 : World} {b o Z m c b' o' n' : Nat} (h : Pnd B l w b' o' n') (hr : Rnd B w w2 b o Z m c) (hd : ¬ (b' = b ∧ o' = o)) (ho : o % 6 = 0) : Pnd B l w2 b' o' n' := by
  obtain ⟨cs, A3, c3, A5, c5, h0, q0, q1, q2, q3, q4, q5, hR⟩ := h.cells
  obtain ⟨cs', h1, h2⟩ := hr.e35 b' cs h.hB h0
  have ho' := h.ho
  have key : ∀ i, i < 6 → cs'[o' + i]? = cs[o' + i]? := fun i hi => h2 _ (fun e => hd ⟨e.1, by omega⟩)
  refine ⟨h.hn, h.hB, h.ho, cs', A3, c3, A5, c5, h1, (key 0 (by omega)).trans q0, (key 1 (by omega)).trans q1, (key 2 (by omega)).trans q2, (key 3 (by omega)).trans q3, (key 4 (by omega)).trans q4, (key 5 (by omega)).trans q5, ?_⟩
  exact Kd.R_mono (Kd.R_step (Kd.R_bound hR) (fun k hk _ => by
    obtain ⟨_, hb, _, q, hq, cells, hc⟩ := hk
    have hE : ∀ q, q ∈ 62 :: k62.E → q = 62 := by decide
    rw [hE q hq] at hc
    exact hr.e62 k cells hb hc)) (fun k hk => hk.1)
theorem set6_get (zc : Array Value) (p : Nat) (v0 v1 v2 v3 v4 v5 : Value) (h : p + 6 ≤ zc.size) : ∃ zc', (((((zc.setIfInBounds p v0).setIfInBounds (p + 1) v1).setIfInBounds (p + 2) v2).setIfInBounds (p + 3) v3).setIfInBounds (p + 4) v4).setIfInBounds (p + 5) v5 = zc' ∧ zc'.size = zc.size ∧ zc'[p]? = some v0 ∧ zc'[p + 1]? = some v1 ∧ zc'[p + 2]? = some v2 ∧ zc'[p + 3]? = some v3 ∧ zc'[p + 4]? = some v4 ∧ zc'[p + 5]? = some v5 ∧ ∀ q, q < p ∨ p + 6 ≤ q → zc'[q]? = zc[q]? := by
  refine ⟨_, rfl, by simp, ?_, ?_, ?_, ?_, ?_, ?_, fun q hq => ?_⟩
  all_goals (simp only [Array.getElem?_setIfInBounds, Array.size_setIfInBounds])
  all_goals (repeat (first | rw [if_pos trivial] | rw [if_pos (by omega)] | rw [if_neg (by omega)]))
theorem StkJb.far {base s : Nat} {v : Value} {xs : List Jb} {w w' : World} (h : StkJb base s v xs w) {Z : Nat} {zc : Array Value} (hz : w.heap[Z]? = some (.cells zc 35 (0, 0))) (hf : ∀ k, k ≠ Z → w'.heap[k]? = w.heap[k]?) : StkJb base s v xs w' := by
  refine ⟨(hf s (fun e => ?_)).trans h.stk, ?_, h.bs⟩
  · have hj := h.stk
    rw [e, hz] at hj
    simp only [Option.some.injEq, Obj.cells.injEq] at hj
    exact absurd hj.2.1 (by decide)
  · have h3 : ∀ q, q ∈ 81 :: kJb.E → q ≠ 35 := by decide
    exact Kd.R_mono (Kd.R_step (Kd.R_types h.row hz h3) (fun k hk _ => hf k hk.2)) (fun _ _ => trivial)
theorem cell_ex {w : World} {g : Nat} {cs : Array Value} {t : Nat} (h : w.heap[g]? = some (.cells cs t (0, 0))) (k : Nat) (hk : k < cs.size) : ∃ v, w.cell? ⟨g, k, none⟩ = some v := ⟨cs[k], by rw [cell_of_arr h, Array.getElem?_eq_getElem hk]⟩
/-- At the inner loop's head, but for the stack. -/
structure KB (w w0 : World) (B X X6 : Nat) (l : List S72) (b o Z J m : Nat) (ks : List Nat) (vk : Value) (kb : Nat) (c : Nat) (wr : World) : Prop where
  rp : RP B w0 wr b o Z ks.length ks.length
  pnd : ∀ i, i < c → Pnd B l wr Z (i * 6) (ks.getD i 0)
  xb : wr.heap[X]? = some (.cells #[.int .i64 0, .int .i64 0, .string ⟨#[]⟩, .slice none 0 0, .string ⟨#[]⟩, .slice none 0 0] 35 (0, 0))
  x6 : ∃ cs, wr.heap[X6]? = some (.cells cs 35 (0, 0))
  bel : Below w.heap.size w wr
  jb : wr.heap[J]? = some (.cells #[.pointer (some ⟨b, o, none⟩), .int .i64 (m : Int)] 81 (0, 0))
  kr : kI.R 3 wr kb (fun _ => True) vk (ks.map Int.ofNat)
theorem kI_fr {N base : Nat} {T : Nat → Prop} {w w' : World} {v : Value} {xs : List Int} (h : kI.R 3 w base (fun _ => True) v xs) (hf : Fr N T w w') (h3 : ¬ T 3) : kI.R 3 w' base (fun _ => True) v xs :=
  hf.R h (fun t ht => by
    have hE : ∀ q, q ∈ 3 :: kI.E → q ∈ [3] := by decide
    have e : t = 3 := by simpa using hE t ht
    rw [e]
    exact h3)
theorem KB.fr {w w0 : World} {B X X6 : Nat} {l : List S72} {b o Z J m : Nat} {ks : List Nat} {vk : Value} {kb c : Nat} {wr w' : World} {T : Nat → Prop} (h : KB w w0 B X X6 l b o Z J m ks vk kb c wr) (hB : B ≤ b) {cs : Array Value} (hb : w0.heap[b]? = some (.cells cs 35 (0, 0))) (hf : Fr w.heap.size T wr w') (h35 : ¬ T 35) (h62 : ¬ T 62) (h3 : ¬ T 3) (hj : w'.heap[J]? = wr.heap[J]?) : KB w w0 B X X6 l b o Z J m ks vk kb c w' := by
  refine ⟨h.rp.step hB hb (fun k cs t hk ht _ => hf.keep k cs t hk (by rcases ht with rfl | rfl; exact h35; exact h62)) ?_, fun i hi => (h.pnd i hi).fr hf h35 h62, (hf.keep _ _ 35 h.xb h35).trans h.xb, ?_, h.bel.trans hf.below, hj.trans h.jb, kI_fr h.kr hf h3⟩
  · obtain ⟨zc, hz, hs⟩ := h.rp.zb
    exact ⟨zc, (hf.keep _ _ 35 hz h35).trans hz, hs⟩
  · obtain ⟨cs, hc⟩ := h.x6
    exact ⟨cs, (hf.keep _ _ 35 hc h35).trans hc⟩
theorem KB.below {w w0 : World} {B X X6 : Nat} {l : List S72} {b o Z J m : Nat} {ks : List Nat} {vk : Value} {kb c : Nat} {wr w' : World} (h : KB w w0 B X X6 l b o Z J m ks vk kb c wr) (hB : B ≤ b) {cs : Array Value} (hb : w0.heap[b]? = some (.cells cs 35 (0, 0))) (hbw : Below wr.heap.size wr w') : KB w w0 B X X6 l b o Z J m ks vk kb c w' :=
  h.fr (T := fun _ => False) hB hb (Fr.of_below hbw h.bel.size) id id id (hbw.block _ (blk_lt h.jb))
/-- One kid more in the row. -/
theorem KB.put {w w0 : World} {B X X6 : Nat} {l : List S72} {b o Z J m : Nat} {ks : List Nat} {vk : Value} {kb c : Nat} {wr : World} (h : KB w w0 B X X6 l b o Z J m ks vk kb c wr) (hB : B ≤ b) {cs : Array Value} (hb : w0.heap[b]? = some (.cells cs 35 (0, 0))) (hX : X < B) (hBw : w.heap.size ≤ B) (hw0 : B ≤ w0.heap.size) (hX6 : X6 < w0.heap.size) (hc : c < ks.length) (hk : ks.getD c 0 < l.length) {x : S72} (hx : nd l (ks.getD c 0) = x) {E3 E5 : Option Addr} {e3 e5 : Nat} (hR : k62.R 62 wr B (fun _ => True) (.slice E3 x.f0.f3.length e3) x.f0.f3) :
    KB w w0 B X X6 l b o Z J m ks vk kb (c + 1) ((((((wr.setCell ⟨Z, c * 6, none⟩ (.int .i64 x.f0.f0)).setCell ⟨Z, c * 6 + 1, none⟩ (.int .i64 x.f0.f1)).setCell ⟨Z, c * 6 + 2, none⟩ (.string x.f0.f2)).setCell ⟨Z, c * 6 + 3, none⟩ (.slice E3 x.f0.f3.length e3)).setCell ⟨Z, c * 6 + 4, none⟩ (.string x.f0.f4)).setCell ⟨Z, c * 6 + 5, none⟩ (.slice E5 0 e5)) := by
  obtain ⟨zc, hz, hs⟩ := h.rp.zb
  have hZn := h.rp.new
  obtain ⟨zc', ez, hzs, z0, z1, z2, z3, z4, z5, hzo⟩ := set6_get zc (c * 6) (.int .i64 x.f0.f0) (.int .i64 x.f0.f1) (.string x.f0.f2) (.slice E3 x.f0.f3.length e3) (.string x.f0.f4) (.slice E5 0 e5) (by omega)
  have h6 := blk_set (blk_set (blk_set (blk_set (blk_set (blk_set hz (c * 6) (.int .i64 x.f0.f0)) (c * 6 + 1) (.int .i64 x.f0.f1)) (c * 6 + 2) (.string x.f0.f2)) (c * 6 + 3) (.slice E3 x.f0.f3.length e3)) (c * 6 + 4) (.string x.f0.f4)) (c * 6 + 5) (.slice E5 0 e5)
  rw [ez] at h6
  have hfar : ∀ k, k ≠ Z → _ := fun k hk => set6_far (w := wr) (g := Z) (a0 := c * 6) (a1 := c * 6 + 1) (a2 := c * 6 + 2) (a3 := c * 6 + 3) (a4 := c * 6 + 4) (a5 := c * 6 + 5) (v0 := .int .i64 x.f0.f0) (v1 := .int .i64 x.f0.f1) (v2 := .string x.f0.f2) (v3 := .slice E3 x.f0.f3.length e3) (v4 := .string x.f0.f4) (v5 := .slice E5 0 e5) k hk
  have hbel : Below w.heap.size w ((((((wr.setCell ⟨Z, c * 6, none⟩ (.int .i64 x.f0.f0)).setCell ⟨Z, c * 6 + 1, none⟩ (.int .i64 x.f0.f1)).setCell ⟨Z, c * 6 + 2, none⟩ (.string x.f0.f2)).setCell ⟨Z, c * 6 + 3, none⟩ (.slice E3 x.f0.f3.length e3)).setCell ⟨Z, c * 6 + 4, none⟩ (.string x.f0.f4)).setCell ⟨Z, c * 6 + 5, none⟩ (.slice E5 0 e5)) :=
    (((((h.bel.setCell (p := ⟨Z, c * 6, none⟩) (by show w.heap.size ≤ Z; omega) _).setCell (p := ⟨Z, c * 6 + 1, none⟩) (by show w.heap.size ≤ Z; omega) _).setCell (p := ⟨Z, c * 6 + 2, none⟩) (by show w.heap.size ≤ Z; omega) _).setCell (p := ⟨Z, c * 6 + 3, none⟩) (by show w.heap.size ≤ Z; omega) _).setCell (p := ⟨Z, c * 6 + 4, none⟩) (by show w.heap.size ≤ Z; omega) _).setCell (p := ⟨Z, c * 6 + 5, none⟩) (by show w.heap.size ≤ Z; omega) _
  obtain ⟨w4, hw4⟩ : ∃ w4, (((((wr.setCell ⟨Z, c * 6, none⟩ (.int .i64 x.f0.f0)).setCell ⟨Z, c * 6 + 1, none⟩ (.int .i64 x.f0.f1)).setCell ⟨Z, c * 6 + 2, none⟩ (.string x.f0.f2)).setCell ⟨Z, c * 6 + 3, none⟩ (.slice E3 x.f0.f3.length e3)).setCell ⟨Z, c * 6 + 4, none⟩ (.string x.f0.f4)).setCell ⟨Z, c * 6 + 5, none⟩ (.slice E5 0 e5) = w4 := ⟨_, rfl⟩
  rw [hw4] at h6 hbel ⊢
  have hfar' : ∀ k, k ≠ Z → w4.heap[k]? = wr.heap[k]? := fun k hk => by rw [← hw4]; exact hfar k hk
  have hT : ∀ {A : Option Addr} {n : Nat} {xs : List S62}, k62.R 62 wr B (fun _ => True) (.slice A xs.length n) xs → k62.R 62 w4 B (fun _ => True) (.slice A xs.length n) xs := fun {A n xs} hr => Kd.R_mono (Kd.R_step (Kd.R_types hr hz (by decide)) (fun k hk _ => hfar' k hk.2)) (fun _ _ => trivial)
  refine ⟨h.rp.step hB hb (fun k cs t _ _ hk => hfar' k hk) ⟨zc', h6, by omega⟩, fun i hi => ?_, (hfar' X (by omega)).trans h.xb, ?_, hbel, (hfar' J (fun e => ?_)).trans h.jb, ?_⟩
  · by_cases e : i = c
    · subst e
      refine ⟨hk, by omega, by omega, zc', E3, e3, E5, e5, h6, ?_, ?_, ?_, ?_, ?_, z5, ?_⟩
      · rw [hx]; exact z0
      · rw [hx]; exact z1
      · rw [hx]; exact z2
      · rw [hx]; exact z3
      · rw [hx]; exact z4
      · rw [hx]; exact hT hR
    · have hp := h.pnd i (by omega)
      obtain ⟨cs1, A3, c3, A5, c5, y, y0, y1, y2, y3, y4, y5, hr⟩ := hp.cells
      rw [hz] at y
      simp only [Option.some.injEq, Obj.cells.injEq] at y
      obtain ⟨rfl, _⟩ := y
      exact ⟨hp.hn, hp.hB, hp.ho, zc', A3, c3, A5, c5, h6, (hzo _ (by omega)).trans y0, (hzo _ (by omega)).trans y1, (hzo _ (by omega)).trans y2, (hzo _ (by omega)).trans y3, (hzo _ (by omega)).trans y4, (hzo _ (by omega)).trans y5, hT hr⟩
  · obtain ⟨c6, h6'⟩ := h.x6
    exact ⟨c6, (hfar' X6 (by omega)).trans h6'⟩
  · subst e
    have := h.jb
    rw [hz] at this
    simp only [Option.some.injEq, Obj.cells.injEq] at this
    exact absurd this.2.1 (by decide)
  · have h3 : ∀ q, q ∈ 3 :: kI.E → q ≠ 35 := by decide
    exact Kd.R_mono (Kd.R_step (Kd.R_types h.kr hz h3) (fun k hk _ => hfar' k hk.2)) (fun _ _ => trivial)
theorem kjobs_take (Z : Nat) (ks : List Nat) (c : Nat) (h : c < ks.length) : (kjobs Z ks).take (c + 1) = (kjobs Z ks).take c ++ [(Z, c * 6, ks.getD c 0)] := by
  have hl : (kjobs Z ks).length = ks.length := by simp [kjobs]
  rw [List.take_succ_eq_append_getElem (by omega)]
  simp [kjobs]
theorem kjobs_all (Z : Nat) (ks : List Nat) : (kjobs Z ks).take ks.length = kjobs Z ks := List.take_of_length_le (by simp [kjobs])
/-- The row of kids is full: they wait in their parent's stead. -/
theorem PBase.kids {w w0 : World} {B X X6 : Nat} {l : List S72} {q : Bool} {n b o m Z J : Nat} {qs : List (Nat × Nat × Nat)} {vk : Value} {kb : Nat} {wr : World} {N g gl cap : Nat} (h : PBase w B X X6 N g gl cap l q n (qs ++ [(b, o, m)]) w0) (hp : PureOk l) (hk : KB w w0 B X X6 l b o Z J m (kidsL l m) vk kb (kidsL l m).length wr) (hpos : 0 < (kidsL l m).length) : PBase w B X X6 N g gl cap l q n (qs ++ kjobs Z (kidsL l m)) wr := by
  have hpm := h.pnd (b, o, m) (by simp)
  have ho6 : ∀ j, j ∈ qs → j.2.1 % 6 = 0 := fun j hj => (h.pnd j (List.mem_append_left _ hj)).ho
  have hZ : ∀ j, j ∈ qs → j.1 ≠ Z := fun j hj e => by
    obtain ⟨cs, _, _, _, _, hc, _⟩ := (h.pnd j (List.mem_append_left _ hj)).cells
    have := blk_lt hc
    have := hk.rp.new
    omega
  refine ⟨h.inv.kids hp hpm hk.rp.toRnd hpos h.dis ho6, fun j hj => ?_, ?_, hk.xb, hk.x6, hk.bel⟩
  · rcases List.mem_append.1 hj with hj | hj
    · exact (h.pnd j (List.mem_append_left _ hj)).rnd hk.rp.toRnd (h.dis j hj) hpm.ho
    · obtain ⟨i, hi, rfl⟩ := mem_kjobs hj
      exact hk.pnd i hi
  · have hn := h.nod
    rw [List.map_append, List.nodup_append] at hn
    rw [List.map_append, List.nodup_append]
    refine ⟨hn.1, ?_, fun x hx y hy e => ?_⟩
    · unfold kjobs
      rw [List.map_map]
      rw [List.Nodup, List.pairwise_map]
      exact List.Pairwise.imp (fun hne e => hne (by simp only [Function.comp, Prod.mk.injEq] at e; omega)) List.nodup_range
    · obtain ⟨j, hj, rfl⟩ := List.mem_map.1 hx
      obtain ⟨j2, hj2, rfl⟩ := List.mem_map.1 hy
      obtain ⟨i, hi, rfl⟩ := mem_kjobs hj2
      injection e with e1 e2
      exact hZ j hj e1
set_option maxHeartbeats 20000000 in
set_option maxRecDepth 100000 in
theorem pure_ {w : World} {N g gl cap : Nat} {l : List S72} {q : Bool} (h : AO w N g gl cap l q) (hp : PureOk l) (n : Nat) (hn : n < l.length) (hz : szT l n ≤ 100000000) :
    Calls Try.prog 17 #[.pointer (some ⟨g, 0, none⟩), .int .i64 (n : Int)] w fun e w' => ∃ v, e = .returned (.tuple #[v, .int .i64 0]) ∧ TP w' (w.heap.size + 1) v (Tn l n) ∧ Below w.heap.size w w' := by
  have b1 := below_alloc (Below.refl w.heap.size w) (.cells #[.int .i64 0, .int .i64 0, .string ⟨#[]⟩, .slice none 0 0, .string ⟨#[]⟩, .slice none 0 0] 35)
  have hX1 := heap_alloc_new w (.cells #[.int .i64 0, .int .i64 0, .string ⟨#[]⟩, .slice none 0 0, .string ⟨#[]⟩, .slice none 0 0] 35)
  have hs1 : (w.alloc (.cells #[.int .i64 0, .int .i64 0, .string ⟨#[]⟩, .slice none 0 0, .string ⟨#[]⟩, .slice none 0 0] 35)).heap.size = w.heap.size + 1 := by simp
  obtain ⟨w1, hw1⟩ : ∃ w1, w.alloc (.cells #[.int .i64 0, .int .i64 0, .string ⟨#[]⟩, .slice none 0 0, .string ⟨#[]⟩, .slice none 0 0] 35) = w1 := ⟨_, rfl⟩
  rw [hw1] at b1 hX1 hs1
  have HND := hide (node (h.below b1) n hn (hp.f5 n hn) (hp.att n hn))
  have HO := hide h
  have HP := hide hp
  have HN := hide hn
  have HZ := hide hz
  have HW1 := hide hw1
  have HB1 := hide b1
  have HX1 := hide hX1
  have HS1 := hide hs1
  clear h hn hz hw1 b1 hX1 hs1 hp
  go_enter Try.func17, Try.ntmps17
  have hw1 := HW1.out
  go_upto_region 2 with (go_at_call 23; (with_reducible refine HND.out.mono ?_); rintro e wn ⟨A3, c3, A5, c5, rfl, hR, hG, hB⟩; obtain ⟨⟨⟨x0, x1, x2, x3, x4, x5⟩, u1, u2, u3, u4, u5, u6⟩, hx⟩ : ∃ x, nd l n = x := ⟨_, rfl⟩; have HXE := hide hx; rw [hx] at hR ⊢; dsimp only at hR ⊢; have HRN := hide hR; have HBN := hide hB; clear hR hG hB hx)
  clear hw1
  -- the tree's own box
  have hb6 := below_alloc (Below.refl wn.heap.size wn) (.cells #[.int .i64 x0, .int .i64 x1, .string x2, .slice A3 x3.length c3, .string x4, .slice A5 0 c5] 35)
  have h6 := heap_alloc_new wn (.cells #[.int .i64 x0, .int .i64 x1, .string x2, .slice A3 x3.length c3, .string x4, .slice A5 0 c5] 35)
  obtain ⟨w6, hw6⟩ : ∃ w6, wn.alloc (.cells #[.int .i64 x0, .int .i64 x1, .string x2, .slice A3 x3.length c3, .string x4, .slice A5 0 c5] 35) = w6 := ⟨_, rfl⟩
  rw [hw6] at hb6 h6 ⊢
  obtain ⟨X6, hX6⟩ : ∃ X, wn.heap.size = X := ⟨_, rfl⟩
  have hB6 : w.heap.size + 1 ≤ X6 := by have h1 := HBN.out.size; have h2 := HS1.out; omega
  rw [hX6] at h6 ⊢
  have HB6 := hide (below_step HB1.out (below_step HBN.out hb6))
  have hX := (below_step HBN.out hb6).block w.heap.size (by have := HS1.out; omega)
  have HX6b := hide h6
  have HXb := hide (hX.trans HX1.out)
  have HRx := hide (Kd.R_below HRN.out hb6)
  have HB6l := hide hB6
  clear hb6 hw6 hX6 hB6 h6 hX HX1 HRN HBN
  go_upto_region 4 with fail
  have HNS := hide (newJb w.heap.size w6 HB6.out.size)
  go_upto_region 5 with (go_at_call 48; (with_reducible refine HNS.out.mono ?_); rintro e ws ⟨s, rfl, hst, hb⟩; have HST := hide hst; have HBS := hide hb; clear hst hb)
  have HPU := hide (pushJb w.heap.size s _ [] (toJb (X6, 0, n)) ws HST.out (Nat.le_trans HB6.out.size HBS.out.size) (by simp))
  have HP0 := HPU.out
  unfold toJb VJb at HP0
  dsimp only at HP0
  have HPU2 := hide HP0
  clear HP0 HPU
  go_wp2_with (go_at_call 49; (with_reducible refine HPU2.out.mono ?_); rintro e w' ⟨rfl, v1, hst, hp⟩; have HST1 := hide hst; have HP1 := hide hp; clear hst hp)
  have HR0 := hide (show PRel w (w.heap.size + 1) s w.heap.size X6 N g gl cap l q n v1 [(X6, 0, n)] w' from by
    have hfr := push_fr HST.out HP1.out
    have hx6 := (HBS.out.block X6 (blk_lt HX6b.out)).trans HX6b.out
    have hxb := (HBS.out.block w.heap.size (blk_lt HXb.out)).trans HXb.out
    have n35 : ¬ TS 35 := by rintro (h | h) <;> exact absurd h (by decide)
    have n62 : ¬ TS 62 := by rintro (h | h) <;> exact absurd h (by decide)
    have hx6' := (hfr.keep X6 _ 35 hx6 n35).trans hx6
    have hpd : Pnd (w.heap.size + 1) l w' X6 0 n := by
      refine ⟨HN.out, HB6l.out, rfl, _, A3, c3, A5, c5, hx6', ?_, ?_, ?_, ?_, ?_, rfl, ?_⟩
      · rw [HXE.out]; rfl
      · rw [HXE.out]; rfl
      · rw [HXE.out]; rfl
      · rw [HXE.out]; rfl
      · rw [HXE.out]; rfl
      · rw [HXE.out]
        have hE : ∀ q, q ∈ 62 :: k62.E → q = 62 := by decide
        exact hfr.R (Kd.R_lower (Kd.R_below HRx.out HBS.out) (by rw [HS1.out]; exact Nat.le_refl _)) (fun t ht => by rw [hE t ht]; exact n62)
    refine ⟨⟨fun W hW hj => hj _ (List.mem_singleton.2 rfl), fun j hj => by rw [List.mem_singleton] at hj; subst hj; exact hpd, by simp, (hfr.keep _ _ 35 hxb n35).trans hxb, ⟨_, hx6'⟩, ?_⟩, HST1.out⟩
    exact (below_step HB6.out HBS.out).trans hfr.below)
  have HB0 := hide HB6l.out
  clear HST HP1 HST1 HPU2 HNS HBS HX6b HXb HRx HB6 HND HB1 HW1 HXE
  go_wp2_with fail
  go_loopg [9] (szT l n) (fun gk _ wr => Aside0 (∃ v js, wtJ l js = gk ∧ gk ≤ szT l n ∧ PRel w (w.heap.size + 1) s w.heap.size X6 N g gl cap l q n v js wr))
  case atStart => exact ⟨v1, [(X6, 0, n)], by simp [wtJ], Nat.le_refl _, HR0.out⟩
  case round =>
    clear HR0
    obtain ⟨v, js, hwt, hgk, hR⟩ := hrel.out
    clear hrel
    rcases List.eq_nil_or_concat js with rfl | ⟨qs, j, rfl⟩
    · obtain ⟨cs6, h6⟩ := hR.x6
      obtain ⟨A3, c3, A5, c5, z0, z1, z2, z3, z4, z5, hT⟩ := hR.inv.done HB0.out h6
      have x0 := cell_of_row _ _ 0 _ _ _ hR.xb
      have x1 := cell_of_row _ _ 1 _ _ _ hR.xb
      have x2 := cell_of_row _ _ 2 _ _ _ hR.xb
      have x3 := cell_of_row _ _ 3 _ _ _ hR.xb
      have x4 := cell_of_row _ _ 4 _ _ _ hR.xb
      have x5 := cell_of_row _ _ 5 _ _ _ hR.xb
      have f0 := blk_frozen hR.xb 0
      have f1 := blk_frozen hR.xb 1
      have f2 := blk_frozen hR.xb 2
      have f3 := blk_frozen hR.xb 3
      have f4 := blk_frozen hR.xb 4
      have f5 := blk_frozen hR.xb 5
      have HX := hide hR.xb
      have HT := hide hT
      have HBL := hide hR.bel
      have HPN := hide (popNoneJb w.heap.size s v wr hR.stk)
      obtain ⟨⟨t0, t1, t2, t3, t4, t5⟩, ht⟩ : ∃ t, Tn l n = t := ⟨_, rfl⟩
      rw [ht] at z0 z1 z2 z3 z4 z5 HT
      dsimp only at z0 z1 z2 z3 z4 z5 HT
      have HTE := hide ht
      clear hR hT h6 hwt hgk ht
      go_upto_region 7 with (go_at_call 50; (with_reducible refine HPN.out.mono ?_); rintro e wp ⟨rfl, hb⟩; have HBP := hide hb; clear hb)
      have bq := below_step HBP.out (below_alloc (Below.refl wp.heap.size wp) (.cells #[.pointer none, .int .i64 0] 81))
      obtain ⟨wq, hwq⟩ : ∃ wq, wp.alloc (.cells #[.pointer none, .int .i64 0] 81) = wq := ⟨_, rfl⟩
      rw [hwq] at bq ⊢
      have hXq := (bq.block _ (blk_lt HX.out)).trans HX.out
      have HXQ := hide hXq
      have HBQ := hide (below_step HBL.out bq)
      have HTQ := hide (HT.out.below bq)
      have y0 := cellW z0 bq
      have y1 := cellW z1 bq
      have y2 := cellW z2 bq
      have y3 := cellW z3 bq
      have y4 := cellW z4 bq
      have y5 := cellW z5 bq
      have g0 := blk_frozen hXq 0
      have g1 := blk_frozen hXq 1
      have g2 := blk_frozen hXq 2
      have g3 := blk_frozen hXq 3
      have g4 := blk_frozen hXq 4
      have g5 := blk_frozen hXq 5
      have p0 := cell_of_row _ _ 0 _ _ _ hXq
      have p1 := cell_of_row _ _ 1 _ _ _ hXq
      have p2 := cell_of_row _ _ 2 _ _ _ hXq
      have p3 := cell_of_row _ _ 3 _ _ _ hXq
      have p4 := cell_of_row _ _ 4 _ _ _ hXq
      have p5 := cell_of_row _ _ 5 _ _ _ hXq
      clear z0 z1 z2 z3 z4 z5 x0 x1 x2 x3 x4 x5 f0 f1 f2 f3 f4 f5 bq hwq hXq HBP HPN HT HX HBL
      go_wp2_with fail
      have hfin := (blk_set (blk_set (blk_set (blk_set (blk_set (blk_set HXQ.out 0 (.int .i64 t0)) 1 (.int .i64 t1)) 2 (.string t2)) 3 (.slice A3 t3.length c3)) 4 (.string t4)) 5 (.slice A5 t5.length c5))
      have hbF := ((((((HBQ.out.setCell (p := ⟨w.heap.size, 0, none⟩) (Nat.le_refl _) (.int .i64 t0)).setCell (p := ⟨w.heap.size, 1, none⟩) (Nat.le_refl _) (.int .i64 t1)).setCell (p := ⟨w.heap.size, 2, none⟩) (Nat.le_refl _) (.string t2)).setCell (p := ⟨w.heap.size, 3, none⟩) (Nat.le_refl _) (.slice A3 t3.length c3)).setCell (p := ⟨w.heap.size, 4, none⟩) (Nat.le_refl _) (.string t4)).setCell (p := ⟨w.heap.size, 5, none⟩) (Nat.le_refl _) (.slice A5 t5.length c5))
      have hTF := HTQ.out.far (w' := _) (fun k hk => set6_far (g := w.heap.size) (a0 := 0) (a1 := 1) (a2 := 2) (a3 := 3) (a4 := 4) (a5 := 5) (v0 := .int .i64 t0) (v1 := .int .i64 t1) (v2 := .string t2) (v3 := .slice A3 t3.length c3) (v4 := .string t4) (v5 := .slice A5 t5.length c5) k (by omega))
      rw [HTE.out]
      exact ⟨rfl, _, res_tree2 hfin 4 5 _ rfl rfl rfl, _, rfl, hTF, hbF⟩
    · rw [List.concat_eq_append] at hwt hR
      obtain ⟨b, o, m⟩ := j
      have hPm := hR.pnd (b, o, m) (by simp)
      have hml := hPm.hn
      dsimp only at hml
      have hst := hR.stk
      rw [List.map_append] at hst
      have hqn : qs.length ≤ 1000000000 := by
        have h1 := wtJ_len HP.out (qs ++ [(b, o, m)]) (fun j hj => (hR.pnd j hj).hn)
        have h2 := HZ.out
        rw [List.length_append] at h1
        omega
      have HPO := hide (show Calls Try.prog 50 #[.pointer (some ⟨s, 0, none⟩)] wr fun e w' => e = .returned (.tuple #[.agg #[.pointer (some ⟨b, o, none⟩), .int .i64 (m : Int)], .bool true]) ∧ ∃ v1, StkJb w.heap.size s v1 (qs.map toJb) w' ∧ Push_ wr w' s v v1 from popJb w.heap.size s v (qs.map toJb) (toJb (b, o, m)) wr hst (by rw [List.length_map]; exact hqn))
      have HSTr := hide hst
      have HPB := hide hR.toPBase
      have HML := hide hml
      have HQN := hide hqn
      have HQ2 := hide (show qs.length ≤ 100000000 by
        have h1 := wtJ_len HP.out (qs ++ [(b, o, m)]) (fun j hj => (hR.pnd j hj).hn)
        have h2 := HZ.out
        rw [List.length_append] at h1
        omega)
      have HWT := hide hwt
      have HGK := hide hgk
      clear hR hst hml hqn hwt hgk hPm
      go_upto_region 7 with (go_at_call 50; (with_reducible refine HPO.out.mono ?_); rintro e wp ⟨rfl, v2, hst, hpu⟩; have HST := hide hst; have HPU := hide hpu; clear hst hpu)
      have hfr := push_fr HSTr.out HPU.out
      have hb0 := HPB.out.ts hfr
      have bj := below_alloc (Below.refl wp.heap.size wp) (.cells #[.pointer (some ⟨b, o, none⟩), .int .i64 (m : Int)] 81)
      have hJ := heap_alloc_new wp (.cells #[.pointer (some ⟨b, o, none⟩), .int .i64 (m : Int)] 81)
      obtain ⟨wj, hwj⟩ : ∃ wj, wp.alloc (.cells #[.pointer (some ⟨b, o, none⟩), .int .i64 (m : Int)] 81) = wj := ⟨_, rfl⟩
      rw [hwj] at bj hJ ⊢
      obtain ⟨J, hJe⟩ : ∃ J, wp.heap.size = J := ⟨_, rfl⟩
      have hJv : v2.ownBlock ≠ some J := fun e => by
        have := Kd.R_lt HST.out.row J e
        omega
      rw [hJe] at hJ ⊢
      have HSTj := hide (HST.out.below bj)
      have HPBj := hide (hb0.below bj)
      have HJ := hide hJ
      have HJV := hide hJv
      have x0 : wj.cell? ⟨J, 0, none⟩ = some (.pointer (some ⟨b, o, none⟩)) := cell_of_row _ _ 0 _ _ _ hJ
      have x1 : wj.cell? ⟨J, 1, none⟩ = some (.int .i64 (m : Int)) := cell_of_row _ _ 1 _ _ _ hJ
      have HK := hide (kids (HO.out.below HPBj.out.bel) m HML.out (HP.out.kc m HML.out) (HP.out.kl m HML.out))
      clear hfr hb0 bj hwj hJ hJv hJe HPO HSTr HST HPU HPB
      go_upto_region 10 with (go_at_call 21; (with_reducible refine HK.out.mono ?_); rintro e wk ⟨vk, rfl, hRk, hBk⟩; obtain ⟨Ak, ck, rfl⟩ := Kd.R_slice hRk; rw [List.length_map] at hRk ⊢; have HRK := hide hRk; have HBK := hide hBk; clear hRk hBk)
      have HPBk := hide (HPBj.out.below HBK.out)
      have HSTk := hide (HSTj.out.below HBK.out)
      have HJk := hide ((HBK.out.block J (blk_lt HJ.out)).trans HJ.out)
      obtain ⟨nk, hnk⟩ : ∃ nk, (kidsL l m).length = nk := ⟨_, rfl⟩
      rw [hnk] at HRK ⊢
      have HNK := hide hnk
      clear hnk x0 x1 HK HPBj HSTj HBK
      by_cases h0 : nk = 0
      · subst h0
        have hnil : kidsL l m = [] := List.eq_nil_of_length_eq_zero HNK.out
        have hg : wtJ l qs + 1 = gk := by
          rw [← HWT.out, wtJ_app]
          have h1 : wtJ l [(b, o, m)] = szT l m := by simp [wtJ]
          have h2 := HP.out.sz HML.out
          rw [hnil] at h2
          rw [h1, h2]
          rfl
        have HG := hide hg
        have HNIL := hide hnil
        clear hg hnil
        go_wp2_with fail
        go_roundg (wtJ l qs)
        case measure => have := HG.out; omega
        case rel => exact ⟨v2, qs, rfl, by have h1 := HG.out; have h2 := HGK.out; omega, HPBk.out.leaf HP.out HNIL.out, HSTk.out⟩
      · have hPm := HPBk.out.pnd (b, o, m) (by simp)
        obtain ⟨cs, E3, e3, E5, e5, hbc, q0, q1, q2, q3, q4, q5, -⟩ := hPm.cells
        have y5 : wk.cell? ⟨b, o + 5, none⟩ = some (.slice E5 0 e5) := (cell_of_arr hbc).trans q5
        have fb := blk_frozen hbc (o + 5)
        have j0 : wk.cell? ⟨J, 0, none⟩ = some (.pointer (some ⟨b, o, none⟩)) := cell_of_row _ _ 0 _ _ _ HJk.out
        have HBC := hide hbc
        have hnb : nk ≤ 1000000 := by rw [← HNK.out]; exact HP.out.kl m HML.out
        have e0 : ((nk : Int) == 0) = false := by rw [beq_eq_false_iff_ne]; omega
        have HNB := hide hnb
        have HN0 := hide h0
        clear hPm hbc q0 q1 q2 q3 q4 q5 h0
        obtain ⟨zc, hzs, hmk⟩ := make35 nk HNB.out
        have HZS := hide hzs
        have HZN := hide (fun (W : World) => heap_alloc_new W (.cells zc 35))
        have HZB := hide (fun (W : World) => below_alloc (Below.refl W.heap.size W) (.cells zc 35))
        clear hzs
        go_upto_region 11 with fail
        have y5' := cellW y5 (HZB.out wk)
        have fb' := blk_frozen ((HZB.out wk).block b (blk_lt HBC.out) |>.trans HBC.out) (o + 5)
        have j0' := cellW j0 (HZB.out wk)
        go_region
        clear hmk y5 fb j0 y5' fb' j0'
        have hJlt : J < wk.heap.size := blk_lt HJk.out
        have hPm := HPBk.out.pnd (b, o, m) (by simp)
        have hBb : w.heap.size + 1 ≤ b := hPm.hB
        have hza := HZN.out wk
        have hba := HZB.out wk
        have hbca := (hba.block b (blk_lt HBC.out)).trans HBC.out
        have hbw : b < wk.heap.size := blk_lt HBC.out
        obtain ⟨wa, hwa⟩ : ∃ wa, wk.alloc (.cells zc 35) = wa := ⟨_, rfl⟩
        rw [hwa] at hza hba hbca ⊢
        obtain ⟨Z, hZe⟩ : ∃ Z, wk.heap.size = Z := ⟨_, rfl⟩
        rw [hZe] at hza ⊢
        -- the world behind the store
        have hfarz : ∀ k, k ≠ b → (wa.setCell ⟨b, o + 5, none⟩ (.slice (some ⟨Z, 0, none⟩) nk nk)).drew.heap[k]? = wa.heap[k]? := fun k hk => Below.heap_setCell wa ⟨b, o + 5, none⟩ _ k hk
        have hbz : (wa.setCell ⟨b, o + 5, none⟩ (.slice (some ⟨Z, 0, none⟩) nk nk)).drew.heap[b]? = some (.cells (cs.setIfInBounds (o + 5) (.slice (some ⟨Z, 0, none⟩) nk nk)) 35 (0, 0)) := blk_set hbca (o + 5) _
        have hbelz : Below w.heap.size w (wa.setCell ⟨b, o + 5, none⟩ (.slice (some ⟨Z, 0, none⟩) nk nk)).drew := ((below_step HPBk.out.bel hba).setCell (p := ⟨b, o + 5, none⟩) (by show w.heap.size ≤ b; omega) _).drew
        obtain ⟨wz, hwz⟩ : ∃ wz, (wa.setCell ⟨b, o + 5, none⟩ (.slice (some ⟨Z, 0, none⟩) nk nk)).drew = wz := ⟨_, rfl⟩
        rw [hwz] at hfarz hbz hbelz ⊢
        have hold : ∀ k, k < wk.heap.size → k ≠ b → wz.heap[k]? = wk.heap[k]? := fun k hk hkb => (hfarz k hkb).trans (hba.block k hk)
        obtain ⟨cs5, E3_, e3_, E5_, e5_, hbc5, -, -, -, -, -, q5, -⟩ := hPm.cells
        have hsz5 : o + 5 < cs.size := by
          rw [HBC.out] at hbc5
          simp only [Option.some.injEq, Obj.cells.injEq] at hbc5
          rw [hbc5.1]
          exact (Array.getElem?_eq_some_iff.1 q5).1
        have hRP : RP (w.heap.size + 1) wk wz b o Z nk nk := by
          refine ⟨⟨fun k c hk hc => hold k (blk_lt hc) (fun e => ?_), fun k c hk hc => ?_, ?_, by omega, Nat.le_refl _⟩, zc, (hfarz Z (by omega)).trans hza, by rw [HZS.out]; exact Nat.le_refl _⟩
          · rw [e, HBC.out] at hc
            simp only [Option.some.injEq, Obj.cells.injEq] at hc
            exact absurd hc.2.1 (by decide)
          · by_cases e : k = b
            · subst e
              rw [HBC.out] at hc
              simp only [Option.some.injEq, Obj.cells.injEq] at hc
              obtain ⟨rfl, _⟩ := hc
              exact ⟨_, hbz, fun x hx => Array.getElem?_setIfInBounds_ne (fun e => hx ⟨rfl, e.symm⟩)⟩
            · exact ⟨c, (hold k (blk_lt hc) e).trans hc, fun _ _ => rfl⟩
          · rw [cell_of_arr hbz, Array.getElem?_setIfInBounds_self_of_lt hsz5]
        have hXlt : w.heap.size < wk.heap.size := blk_lt HPBk.out.xb
        obtain ⟨c6, h6⟩ := HPBk.out.x6
        have hKB : KB w wk (w.heap.size + 1) w.heap.size X6 l b o Z J m (kidsL l m) (.slice Ak nk ck) wj.heap.size 0 wz := by
          refine ⟨by rw [HNK.out]; exact hRP, fun i hi => absurd hi (Nat.not_lt_zero i), (hold _ hXlt (by omega)).trans HPBk.out.xb, ?_, hbelz, (hold J hJlt (fun e => ?_)).trans HJk.out, ?_⟩
          · by_cases e : X6 = b
            · subst e; exact ⟨_, hbz⟩
            · exact ⟨c6, (hold X6 (blk_lt h6) e).trans h6⟩
          · have hj := HJk.out
            rw [e, HBC.out] at hj
            simp only [Option.some.injEq, Obj.cells.injEq] at hj
            exact absurd hj.2.1 (by decide)
          · have h3 : ∀ q, q ∈ 3 :: kI.E → q ≠ 35 := by decide
            exact Kd.R_mono (Kd.R_step (Kd.R_bound (Kd.R_types HRK.out HBC.out h3)) (fun k hk hlt => hold k hlt hk.1.2)) (fun _ _ => trivial)
        have hSTz : StkJb w.heap.size s v2 (qs.map toJb) wz := by
          have hs := HSTk.out
          refine ⟨(hold s (blk_lt hs.stk) (fun e => ?_)).trans hs.stk, ?_, hs.bs⟩
          · have hj := hs.stk
            rw [e, HBC.out] at hj
            simp only [Option.some.injEq, Obj.cells.injEq] at hj
            exact absurd hj.2.1 (by decide)
          · have h3 : ∀ q, q ∈ 81 :: kJb.E → q ≠ 35 := by decide
            exact Kd.R_mono (Kd.R_step (Kd.R_bound (Kd.R_types hs.row HBC.out h3)) (fun k hk hlt => hold k hlt hk.1.2)) (fun _ _ => trivial)
        have HKB := hide hKB
        have HSTz := hide hSTz
        have HBb := hide hBb
        have HX6l := hide (blk_lt h6)
        have HXl := hide hXlt
        clear hJlt hPm hza hba hbca hwa hfarz hbz hbelz hwz hold hbc5 q5 hsz5 hRP h6 hKB hSTz hBb hXlt HSTk HJk HRK HZN HZB HZS hbw hZe
        go_wp2_with fail
        go_loopw [52] (fun i wr2 => ∃ c : Nat, c ≤ nk ∧ i = .int .i64 (c : Int) ∧ Aside0 (∃ v3, StkJb w.heap.size s v3 ((qs ++ (kjobs Z (kidsL l m)).take c).map toJb) wr2 ∧ v3.ownBlock ≠ some J ∧ KB w wk (w.heap.size + 1) w.heap.size X6 l b o Z J m (kidsL l m) (.slice Ak nk ck) wj.heap.size c wr2)) (fun i _ => nk - (intOf i).toNat)
        case atStart => exact ⟨0, Nat.zero_le _, rfl, ⟨v2, by rw [List.take_zero, List.append_nil]; exact HSTz.out, HJV.out, HKB.out⟩⟩
        case round =>
          clear HKB HSTz
          obtain ⟨c, hcn, rfl, hin⟩ := hrel
          obtain ⟨v3, hst, hjv, hkb⟩ := hin.out
          clear hin
          by_cases hlt : c < nk
          · have hcl : c < (kidsL l m).length := by rw [HNK.out]; exact hlt
            obtain ⟨k, hk⟩ : ∃ k, (kidsL l m).getD c 0 = k := ⟨_, rfl⟩
            have hke : (kidsL l m)[c]? = some k := by rw [← hk, List.getD_eq_getElem?_getD, List.getElem?_eq_getElem hcl]; rfl
            have hkl : k < l.length := Kc_lt (HP.out.kc m HML.out) k (List.mem_of_getElem? hke)
            obtain ⟨ad, hA, hc⟩ := (Kd.R_reads' hkb.kr).2.2.2.2 (by rw [List.length_map]; omega)
            subst hA
            obtain ⟨cc, hcl', hcK, hcc⟩ := hc c (k : Int) (by rw [List.getElem?_map, hke]; rfl)
            have hcK' : cc = [.int .i64 (k : Int)] := hcK
            subst hcK'
            have y0 : wr.cell? (ad.add c) = some (.int .i64 (k : Int)) := by
              have := hcc 0 _ rfl
              rwa [show c * kI.sz + 0 = c from by show c * 1 + 0 = c; omega] at this
            have j0 : wr.cell? ⟨J, 0, none⟩ = some (.pointer (some ⟨b, o, none⟩)) := cell_of_row _ _ 0 _ _ _ hkb.jb
            have a5 : wr.cell? ⟨b, o + 5, none⟩ = some (.slice (some ⟨Z, 0, none⟩) nk nk) := by have := hkb.rp.at5; rwa [HNK.out] at this
            have c1 : (c : Int) < (nk : Int) := by omega
            have HND := hide (fun (V : World) (hV : Below wr.heap.size wr V) => node ((HO.out.below hkb.bel).below hV) k hkl (HP.out.f5 k hkl) (HP.out.att k hkl))
            have hws : w.heap.size + 1 ≤ wr.heap.size := by
              obtain ⟨zq, hzq, -⟩ := hkb.rp.zb
              have h1 := blk_lt hzq
              have h2 := hkb.rp.new
              have h3 := HXl.out
              omega
            have HWS := hide hws
            clear hws
            have HKB2 := hide hkb
            have HST2 := hide hst
            have HJV2 := hide hjv
            have HCL := hide hcl
            have HKE := hide hk
            have HKL := hide hkl
            clear hcl hk hke hkl hc hcl' hcK hcc hkb hst hjv
            go_upto_region 15 with fail
            go_region_with (go_at_call 23; (with_reducible refine (HND.out _ (by first | exact Below.refl _ _ | exact below_drew (Below.refl _ _))).mono ?_); rintro e wn ⟨E3, e3, E5, e5, rfl, hR, hG, hB⟩; obtain ⟨⟨⟨t0, t1, t2, t3, t4, t5⟩, p1, p2, p3, p4, p5, p6⟩, hx⟩ : ∃ x, nd l k = x := ⟨_, rfl⟩; have HXE := hide hx; rw [hx] at hR ⊢; dsimp only at hR ⊢; have hBd := below_step (below_drew (Below.refl wr.heap.size wr)) hB; have hkb := HKB2.out.below HBb.out HBC.out hBd; have jn := cellW j0 hBd; have an := cellW a5 hBd; obtain ⟨zc2, hz2, hzs2⟩ := hkb.rp.zb; have g0 := blk_frozen hz2 (c * 6); have g1 := blk_frozen hz2 (c * 6 + 1); have g2 := blk_frozen hz2 (c * 6 + 2); have g3 := blk_frozen hz2 (c * 6 + 3); have g4 := blk_frozen hz2 (c * 6 + 4); have g5 := blk_frozen hz2 (c * 6 + 5); obtain ⟨r0, hr0⟩ := cell_ex hz2 (c * 6) (by have := HCL.out; omega); obtain ⟨r1, hr1⟩ := cell_ex hz2 (c * 6 + 1) (by have := HCL.out; omega); obtain ⟨r2, hr2⟩ := cell_ex hz2 (c * 6 + 2) (by have := HCL.out; omega); obtain ⟨r3, hr3⟩ := cell_ex hz2 (c * 6 + 3) (by have := HCL.out; omega); obtain ⟨r4, hr4⟩ := cell_ex hz2 (c * 6 + 4) (by have := HCL.out; omega); obtain ⟨r5, hr5⟩ := cell_ex hz2 (c * 6 + 5) (by have := HCL.out; omega); have HKB3 := hide hkb; have HRN := hide (Kd.R_lower hR (show w.heap.size + 1 ≤ _ from HWS.out)); have HST3 := hide (HST2.out.below hBd); clear hR hG hB hBd hkb hx hz2 hzs2)
            all_goals (
              have hput := HKB3.out.put HBb.out HBC.out (Nat.lt_succ_self _) (Nat.le_succ _) HXl.out HX6l.out HCL.out (by rw [HKE.out]; exact HKL.out) (x := ⟨⟨t0, t1, t2, t3, t4, t5⟩, p1, p2, p3, p4, p5, p6⟩) (by rw [HKE.out]; exact HXE.out) (E3 := E3) (e3 := e3) (E5 := E5) (e5 := e5) HRN.out
              dsimp only at hput
              obtain ⟨zq, hzq, -⟩ := HKB3.out.rp.zb
              have hst4 := HST3.out.far hzq (fun k hk => set6_far (w := wn) (g := Z) (a0 := c * 6) (a1 := c * 6 + 1) (a2 := c * 6 + 2) (a3 := c * 6 + 3) (a4 := c * 6 + 4) (a5 := c * 6 + 5) (v0 := .int .i64 t0) (v1 := .int .i64 t1) (v2 := .string t2) (v3 := .slice E3 t3.length e3) (v4 := .string t4) (v5 := .slice E5 0 e5) k hk)
              obtain ⟨w4, hw4⟩ : ∃ w4, (((((wn.setCell ⟨Z, c * 6, none⟩ (.int .i64 t0)).setCell ⟨Z, c * 6 + 1, none⟩ (.int .i64 t1)).setCell ⟨Z, c * 6 + 2, none⟩ (.string t2)).setCell ⟨Z, c * 6 + 3, none⟩ (.slice E3 t3.length e3)).setCell ⟨Z, c * 6 + 4, none⟩ (.string t4)).setCell ⟨Z, c * 6 + 5, none⟩ (.slice E5 0 e5) = w4 := ⟨_, rfl⟩
              rw [hw4] at hput hst4 ⊢
              have j4 : w4.cell? ⟨J, 0, none⟩ = some (.pointer (some ⟨b, o, none⟩)) := cell_of_row _ _ 0 _ _ _ hput.jb
              have a4 : w4.cell? ⟨b, o + 5, none⟩ = some (.slice (some ⟨Z, 0, none⟩) nk nk) := by have := hput.rp.at5; rwa [HNK.out] at this
              have hlen : ((qs ++ (kjobs Z (kidsL l m)).take c).map toJb).length ≤ 1000000000 := by
                rw [List.length_map, List.length_append, List.length_take]
                have h1 := HQN.out
                have h2 := HNB.out
                have h3 := HCL.out
                rw [HNK.out] at h3
                have h4 := HQ2.out
                omega
              have HPU := hide (fun (V : World) (hV : Below w4.heap.size w4 V) => show Calls Try.prog 49 #[.pointer (some ⟨s, 0, none⟩), .agg #[.pointer (some ⟨Z, c * 6, none⟩), .int .i64 (k : Int)]] V fun e w' => e = .returned (.tuple #[]) ∧ ∃ v1, StkJb w.heap.size s v1 ((qs ++ (kjobs Z (kidsL l m)).take c).map toJb ++ [toJb (Z, c * 6, k)]) w' ∧ Push_ V w' s v3 v1 from pushJb w.heap.size s v3 _ (toJb (Z, c * 6, k)) V (hst4.below hV) (hput.below HBb.out HBC.out hV).bel.size hlen)
              have HPT := hide hput
              have HPUD := hide (HPU.out w4 (Below.refl _ _))
              clear HPU
              have HST4 := hide hst4
              clear hput hzq hst4 hw4 hlen jn an g0 g1 g2 g3 g4 g5 hr0 hr1 hr2 hr3 hr4 hr5 y0 j0 a5
              go_wp2_with (go_at_call 49; (with_reducible refine HPUD.out.mono ?_); rintro e w5 ⟨rfl, v4, hst5, hp5⟩; have HST5 := hide hst5; have HP5 := hide hp5; clear hst5 hp5)
              go_roundw
              case rel =>
                refine ⟨c + 1, by omega, by go_num, ⟨v4, ?_, ?_, ?_⟩⟩
                · have h1 := HST5.out
                  rw [kjobs_take Z (kidsL l m) c HCL.out, HKE.out, ← List.append_assoc, List.map_append]
                  exact h1
                · intro e
                  rcases HP5.out.own with h1 | ⟨q, h1, h2⟩
                  · exact HJV2.out (h1.symm.trans e)
                  · rw [e] at h1
                    injection h1 with h1
                    have h3 := blk_lt HPT.out.jb
                    rw [← h1] at h2
                    exact absurd (Nat.lt_of_lt_of_le h3 h2) (Nat.lt_irrefl _)
                · have hk5 := HPT.out
                  exact hk5.fr HBb.out HBC.out (push_fr HST4.out HP5.out) (nTS (by decide) (by decide)) (nTS (by decide) (by decide)) (nTS (by decide) (by decide)) (HP5.out.keep.2 J (blk_lt hk5.jb) (fun e => by
                    have h1 := hk5.jb
                    rw [e, HST4.out.stk] at h1
                    simp only [Option.some.injEq, Obj.cells.injEq] at h1
                    exact absurd h1.2.1 (by decide)) (fun e => HJV2.out e.symm))
              case measure => simp [intOf]; omega)
          · have hce : c = nk := by omega
            have c1 : ¬ (c : Int) < (nk : Int) := by omega
            have hg : wtJ l (qs ++ kjobs Z (kidsL l m)) + 1 = gk := by
              rw [← HWT.out, wtJ_app, wtJ_app, wtJ_kids]
              have h1 : wtJ l [(b, o, m)] = szT l m := by simp [wtJ]
              rw [h1, HP.out.sz HML.out]
              omega
            rw [hce, ← HNK.out] at hkb hst
            rw [kjobs_all] at hst
            have HG := hide hg
            have HST9 := hide hst
            have HPB9 := hide (HPBk.out.kids HP.out hkb (by have h1 := HN0.out; have h2 := HNK.out; omega))
            clear hg hst hkb hjv hce
            go_wp2_with fail
            go_roundg (wtJ l (qs ++ kjobs Z (kidsL l m)))
            case measure => have := HG.out; omega
            case rel => exact ⟨v3, qs ++ kjobs Z (kidsL l m), rfl, by have h1 := HG.out; have h2 := HGK.out; omega, HPB9.out, HST9.out⟩
end Go.Proofs.Ytjebpaapkmbahaa.Ar

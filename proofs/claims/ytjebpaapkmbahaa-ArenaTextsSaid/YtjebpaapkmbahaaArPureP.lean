/- What Pure makes: trees below a node. Plain part: trees with places that wait. -/
import Derived.Test.YtjebpaapkmbahaaArMove
import Derived.Test.YtjebpaapkmbahaaArStkJb
namespace Go.Proofs.Ytjebpaapkmbahaa.Ar
open Go.RowKit Go.Proofs.Ytjebpaapkmbahaa.PArenaPlays Go.Proofs.YtjebpaapkmbahaaW.PrintWords Go.Proofs.YtjebpaapkmbahaaW.PrintLast
set_option linter.unusedVariables false
set_option linter.unusedSimpArgs false
def labT (x : S35) (ks : List S35) : S35 := ⟨x.f0, x.f1, x.f2, x.f3, x.f4, ks⟩
/-- Something of a node out of what its kids have. -/
def foldF {α : Type} (l : List S72) (f : Nat → List α → α) : Nat → Nat → α
  | 0, n => f n []
  | k + 1, n => f n ((kidsL l n).map (foldF l f k))
/-- No way down is longer. -/
def Ht (l : List S72) : Nat → Nat → Prop
  | 0, n => kidsL l n = []
  | k + 1, n => ∀ m, m ∈ kidsL l n → Ht l k m
theorem foldF_more {α : Type} (l : List S72) (f : Nat → List α → α) : ∀ (k n : Nat), Ht l k n → foldF l f (k + 1) n = foldF l f k n
  | 0, n, h => by
    have h0 : kidsL l n = [] := h
    show f n ((kidsL l n).map _) = f n []
    rw [h0]
    rfl
  | k + 1, n, h => by
    have h1 : ∀ m, m ∈ kidsL l n → Ht l k m := h
    show f n ((kidsL l n).map (foldF l f (k + 1))) = f n ((kidsL l n).map (foldF l f k))
    rw [List.map_congr_left (fun m hm => foldF_more l f k m (h1 m hm))]
def foldT {α : Type} (l : List S72) (f : Nat → List α → α) (n : Nat) : α := foldF l f l.length n
theorem foldT_eq {α : Type} (l : List S72) (f : Nat → List α → α) (n : Nat) (h : Ht l l.length n) : foldT l f n = f n ((kidsL l n).map (foldT l f)) := by
  have h1 := foldF_more l f l.length n h
  unfold foldT
  rw [← h1]
  rfl
/-- The tree below a node. -/
def Tn (l : List S72) (n : Nat) : S35 := foldT l (fun n ks => labT (nd l n).f0 ks) n
/-- How many nodes it has. -/
def szT (l : List S72) (n : Nat) : Nat := foldT l (fun _ xs => 1 + xs.sum) n
structure PureOk (l : List S72) : Prop where
  kc : ∀ m, m < l.length → Kc l (nd l m).f2 (kidsL l m)
  kl : ∀ m, m < l.length → (kidsL l m).length ≤ 1000000
  f5 : ∀ m, m < l.length → (nd l m).f0.f5 = []
  att : ∀ m, m < l.length → (nd l m).f0.f3.length ≤ 1000000
  ht : ∀ m, m < l.length → Ht l l.length m
theorem Kc_lt {l : List S72} {n : Int} {xs : List Nat} (h : Kc l n xs) : ∀ m, m ∈ xs → m < l.length := by
  induction h with
  | nil => intro m hm; cases hm
  | cons hn _ ih =>
    intro m hm
    rcases List.mem_cons.1 hm with rfl | hm
    · exact hn
    · exact ih m hm
theorem PureOk.tn {l : List S72} (h : PureOk l) {n : Nat} (hn : n < l.length) : Tn l n = labT (nd l n).f0 ((kidsL l n).map (Tn l)) := foldT_eq l _ n (h.ht n hn)
theorem PureOk.sz {l : List S72} (h : PureOk l) {n : Nat} (hn : n < l.length) : szT l n = 1 + ((kidsL l n).map (szT l)).sum := foldT_eq l _ n (h.ht n hn)
/-- A tree as a value. -/
def TV (w : World) (v : Value) (t : S35) : Prop := ∃ (A3 : Option Addr) (c3 : Nat) (A5 : Option Addr) (c5 : Nat), v = .agg #[.int .i64 t.f0, .int .i64 t.f1, .string t.f2, .slice A3 t.f3.length c3, .string t.f4, .slice A5 t.f5.length c5] ∧ t.f3.length ≤ c3 ∧ k62.C w A3 t.f3.length t.f3 ∧ t.f5.length ≤ c5 ∧ k35.C w A5 t.f5.length t.f5
/-- A tree at a place. -/
def At (w : World) (b o : Nat) (t : S35) : Prop := ∃ c, k35.K w t c ∧ ∀ (i : Nat) (u : Value), c[i]? = some u → w.cell? ⟨b, o + i, none⟩ = some u
/-- W is w but for the holes, as far as trees' blocks from B on go. -/
structure Ext (B : Nat) (H : List (Nat × Nat)) (w W : World) : Prop where
  e62 : ∀ (k : Nat) (cs : Array Value), B ≤ k → w.heap[k]? = some (.cells cs 62 (0, 0)) → W.heap[k]? = w.heap[k]?
  e35 : ∀ (k : Nat) (cs : Array Value), B ≤ k → w.heap[k]? = some (.cells cs 35 (0, 0)) → ∃ cs', W.heap[k]? = some (.cells cs' 35 (0, 0)) ∧ ∀ o, (k, o) ∉ H → cs'[o]? = cs[o]?
def holes (js : List (Nat × Nat × Nat)) : List (Nat × Nat) := js.map (fun j => (j.1, j.2.1 + 5))
/-- Once what waits is there, the whole is. -/
def Inv (B : Nat) (l : List S72) (X n0 : Nat) (js : List (Nat × Nat × Nat)) (w : World) : Prop := ∀ W, Ext B (holes js) w W → (∀ j, j ∈ js → At W j.1 j.2.1 (Tn l j.2.2)) → At W X 0 (Tn l n0)
/-- A node that waits for its kids. -/
structure Pnd (B : Nat) (l : List S72) (w : World) (b o n : Nat) : Prop where
  hn : n < l.length
  hB : B ≤ b
  ho : o % 6 = 0
  cells : ∃ (cs : Array Value) (A3 : Option Addr) (c3 : Nat) (A5 : Option Addr) (c5 : Nat), w.heap[b]? = some (.cells cs 35 (0, 0)) ∧ cs[o]? = some (.int .i64 (nd l n).f0.f0) ∧ cs[o + 1]? = some (.int .i64 (nd l n).f0.f1) ∧ cs[o + 2]? = some (.string (nd l n).f0.f2) ∧ cs[o + 3]? = some (.slice A3 (nd l n).f0.f3.length c3) ∧ cs[o + 4]? = some (.string (nd l n).f0.f4) ∧ cs[o + 5]? = some (.slice A5 0 c5) ∧ k62.R 62 w B (fun _ => True) (.slice A3 (nd l n).f0.f3.length c3) (nd l n).f0.f3
theorem Ext.mono {B : Nat} {H H' : List (Nat × Nat)} {w W : World} (h : Ext B H w W) (hH : ∀ x, x ∈ H → x ∈ H') : Ext B H' w W :=
  ⟨h.e62, fun k cs hk hc => by
    obtain ⟨cs', h1, h2⟩ := h.e35 k cs hk hc
    exact ⟨cs', h1, fun o ho => h2 o (fun hm => ho (hH _ hm))⟩⟩
theorem Ext.fr {B N : Nat} {H : List (Nat × Nat)} {T : Nat → Prop} {w w' W : World} (h : Ext B H w' W) (hf : Fr N T w w') (h35 : ¬ T 35) (h62 : ¬ T 62) : Ext B H w W :=
  ⟨fun k cs hk hc => by
    have h1 := hf.keep k cs 62 hc h62
    exact (h.e62 k cs hk (h1.trans hc)).trans h1, fun k cs hk hc => by
    have h1 := hf.keep k cs 35 hc h35
    exact h.e35 k cs hk (h1.trans hc)⟩
theorem Inv.fr {B N X n0 : Nat} {l : List S72} {js : List (Nat × Nat × Nat)} {T : Nat → Prop} {w w' : World} (h : Inv B l X n0 js w) (hf : Fr N T w w') (h35 : ¬ T 35) (h62 : ¬ T 62) : Inv B l X n0 js w' :=
  fun W hW hj => h W (hW.fr hf h35 h62) hj
theorem Pnd.fr {B N b o n : Nat} {l : List S72} {T : Nat → Prop} {w w' : World} (h : Pnd B l w b o n) (hf : Fr N T w w') (h35 : ¬ T 35) (h62 : ¬ T 62) : Pnd B l w' b o n := by
  obtain ⟨cs, A3, c3, A5, c5, h0, r⟩ := h.cells
  obtain ⟨r0, r1, r2, r3, r4, r5, hR⟩ := r
  refine ⟨h.hn, h.hB, h.ho, cs, A3, c3, A5, c5, (hf.keep b cs 35 h0 h35).trans h0, r0, r1, r2, r3, r4, r5, hf.R hR (fun t ht => ?_)⟩
  have hE : ∀ q, q ∈ 62 :: k62.E → q = 62 := by decide
  rw [hE t ht]
  exact h62
theorem Ext.C62 {B : Nat} {H : List (Nat × Nat)} {w W : World} (h : Ext B H w W) {A : Option Addr} {c : Nat} {xs : List S62} (hR : k62.R 62 w B (fun _ => True) (.slice A xs.length c) xs) : xs.length ≤ c ∧ k62.C W A xs.length xs := by
  have h1 : k62.R 62 W B (fun _ => True) (.slice A xs.length c) xs := Kd.R_mono (Kd.R_step (Kd.R_bound hR) (fun k hk _ => by
    obtain ⟨_, hb, _, q, hq, cells, hc⟩ := hk
    have hE : ∀ q, q ∈ 62 :: k62.E → q = 62 := by decide
    rw [hE q hq] at hc
    exact h.e62 k cells hb hc)) (fun k hk => hk.1)
  exact ⟨(Kd.R_reads' h1).2.1, (Kd.R_reads' h1).2.2⟩
theorem cell_of_arr {w : World} {b o : Nat} {cs : Array Value} {t : Nat} (h : w.heap[b]? = some (.cells cs t (0, 0))) : w.cell? ⟨b, o, none⟩ = cs[o]? := cell_of_row _ _ _ _ _ _ h
/-- A node without kids that waits: it is there. -/
theorem Pnd.leaf {B b o n : Nat} {l : List S72} {w W : World} {H : List (Nat × Nat)} (h : Pnd B l w b o n) (hW : Ext B H w W) (hH : ∀ i, i < 6 → (b, o + i) ∉ H) (hp : PureOk l) (hk : kidsL l n = []) : At W b o (Tn l n) := by
  obtain ⟨cs, A3, c3, A5, c5, h0, r0, r1, r2, r3, r4, r5, hR⟩ := h.cells
  obtain ⟨cs', h1, h2⟩ := hW.e35 b cs h.hB h0
  obtain ⟨hl3, hC3⟩ := hW.C62 hR
  rw [hp.tn h.hn, hk]
  refine ⟨_, k35_mk W (labT (nd l n).f0 []) hl3 hC3 (A5 := A5) (c5 := c5) (Nat.zero_le _) ⟨rfl, Nat.zero_le _, fun hx => absurd hx (Nat.lt_irrefl 0)⟩, fun i u hu => ?_⟩
  rw [cell_of_arr h1]
  have key : ∀ i, i < 6 → cs'[o + i]? = cs[o + i]? := fun i hi => h2 _ (hH i hi)
  match i, hu with
  | 0, hu => rw [key 0 (by omega)]; exact r0.trans hu
  | 1, hu => rw [key 1 (by omega)]; exact r1.trans hu
  | 2, hu => rw [key 2 (by omega)]; exact r2.trans hu
  | 3, hu => rw [key 3 (by omega)]; exact r3.trans hu
  | 4, hu => rw [key 4 (by omega)]; exact r4.trans hu
  | 5, hu => rw [key 5 (by omega)]; exact r5.trans hu
theorem mem_holes {js : List (Nat × Nat × Nat)} {b o : Nat} (h : (b, o) ∈ holes js) : ∃ j, j ∈ js ∧ j.1 = b ∧ j.2.1 + 5 = o := by
  obtain ⟨j, hj, e⟩ := List.mem_map.1 h
  injection e with e1 e2
  exact ⟨j, hj, e1, e2⟩
theorem Inv.leaf {B X n0 b o n : Nat} {l : List S72} {js : List (Nat × Nat × Nat)} {w : World} (h : Inv B l X n0 (js ++ [(b, o, n)]) w) (hp : PureOk l) (hn : Pnd B l w b o n) (hk : kidsL l n = []) (hd : ∀ j, j ∈ js → ¬ (j.1 = b ∧ j.2.1 = o)) (h6 : ∀ j, j ∈ js → j.2.1 % 6 = 0) : Inv B l X n0 js w := by
  intro W hW hj
  refine h W (hW.mono (fun x hx => by unfold holes at hx ⊢; rw [List.map_append]; exact List.mem_append_left _ hx)) (fun j hm => ?_)
  rcases List.mem_append.1 hm with hm | hm
  · exact hj j hm
  · rw [List.mem_singleton] at hm
    subst hm
    refine hn.leaf hW (fun i hi hx => ?_) hp hk
    obtain ⟨j, hm, e1, e2⟩ := mem_holes hx
    have := h6 j hm
    have := hn.ho
    exact hd j hm ⟨e1, by omega⟩
/-- The kids' places. -/
def kjobs (Z : Nat) (ks : List Nat) : List (Nat × Nat × Nat) := (List.range ks.length).map (fun i => (Z, i * 6, ks.getD i 0))
theorem mem_kjobs {Z : Nat} {ks : List Nat} {j : Nat × Nat × Nat} (h : j ∈ kjobs Z ks) : ∃ i, i < ks.length ∧ j = (Z, i * 6, ks.getD i 0) := by
  obtain ⟨i, hi, e⟩ := List.mem_map.1 h
  exact ⟨i, List.mem_range.1 hi, e.symm⟩
/-- What a round did: a row Z of kids at one place; all else as it was. -/
structure Rnd (B : Nat) (w w2 : World) (b o : Nat) (Z m c : Nat) : Prop where
  e62 : ∀ (k : Nat) (cs : Array Value), B ≤ k → w.heap[k]? = some (.cells cs 62 (0, 0)) → w2.heap[k]? = w.heap[k]?
  e35 : ∀ (k : Nat) (cs : Array Value), B ≤ k → w.heap[k]? = some (.cells cs 35 (0, 0)) → ∃ cs', w2.heap[k]? = some (.cells cs' 35 (0, 0)) ∧ ∀ q, ¬ (k = b ∧ q = o + 5) → cs'[q]? = cs[q]?
  at5 : w2.cell? ⟨b, o + 5, none⟩ = some (.slice (some ⟨Z, 0, none⟩) m c)
  new : w.heap.size ≤ Z
  mc : m ≤ c
theorem Inv.kids {B X n0 b o n Z c : Nat} {l : List S72} {js : List (Nat × Nat × Nat)} {w w2 : World} (h : Inv B l X n0 (js ++ [(b, o, n)]) w) (hp : PureOk l) (hn : Pnd B l w b o n) (hr : Rnd B w w2 b o Z (kidsL l n).length c) (hpos : 0 < (kidsL l n).length) (hd : ∀ j, j ∈ js → ¬ (j.1 = b ∧ j.2.1 = o)) (h6 : ∀ j, j ∈ js → j.2.1 % 6 = 0) : Inv B l X n0 (js ++ kjobs Z (kidsL l n)) w2 := by
  intro W hW hj
  obtain ⟨cs, A3, c3, A5, c5, h0, r0, r1, r2, r3, r4, r5, hR⟩ := hn.cells
  have hbw : b < w.heap.size := blk_lt h0
  have hbZ : b ≠ Z := by have := hr.new; omega
  have hW0 : Ext B (holes (js ++ [(b, o, n)])) w W := by
    refine ⟨fun k cs hk hc => ?_, fun k cs hk hc => ?_⟩
    · have h1 := hr.e62 k cs hk hc
      exact (hW.e62 k cs hk (h1.trans hc)).trans h1
    · obtain ⟨cs1, h1, h2⟩ := hr.e35 k cs hk hc
      obtain ⟨cs2, h3, h4⟩ := hW.e35 k cs1 hk h1
      refine ⟨cs2, h3, fun q hq => (h4 q (fun hm => ?_)).trans (h2 q (fun e => hq ?_))⟩
      · obtain ⟨j, hm, e1, e2⟩ := mem_holes hm
        rcases List.mem_append.1 hm with hm | hm
        · refine hq ?_
          unfold holes
          rw [List.map_append]
          exact List.mem_append_left _ (List.mem_map.2 ⟨j, hm, by rw [e1, e2]⟩)
        · obtain ⟨i, _, rfl⟩ := mem_kjobs hm
          have hk1 := blk_lt hc
          have := hr.new
          dsimp only at e1
          omega
      · obtain ⟨rfl, rfl⟩ := e
        unfold holes
        rw [List.map_append]
        exact List.mem_append_right _ (by simp)
  refine h W hW0 (fun j hm => ?_)
  rcases List.mem_append.1 hm with hm | hm
  · exact hj j (List.mem_append_left _ hm)
  · rw [List.mem_singleton] at hm
    subst hm
    dsimp only
    obtain ⟨cs1, h1, h2⟩ := hr.e35 b cs hn.hB h0
    obtain ⟨cs2, h3, h4⟩ := hW.e35 b cs1 hn.hB h1
    obtain ⟨hl3, hC3⟩ := hW0.C62 hR
    have ho := hn.ho
    have hq : ∀ i, i < 6 → cs2[o + i]? = cs1[o + i]? := fun i hi => h4 _ (fun hx => by
      obtain ⟨j, hm, e1, e2⟩ := mem_holes hx
      rcases List.mem_append.1 hm with hm | hm
      · have := h6 j hm
        exact hd j hm ⟨e1, by omega⟩
      · obtain ⟨i', _, rfl⟩ := mem_kjobs hm
        exact hbZ e1.symm)
    have hq1 : ∀ i, i < 5 → cs1[o + i]? = cs[o + i]? := fun i hi => h2 _ (fun e => by omega)
    have h5 : cs1[o + 5]? = some (.slice (some ⟨Z, 0, none⟩) (kidsL l n).length c) := by rw [← cell_of_arr h1]; exact hr.at5
    rw [hp.tn hn.hn]
    have hm : ((kidsL l n).map (Tn l)).length = (kidsL l n).length := List.length_map _
    have hkids : k35.C W (some ⟨Z, 0, none⟩) ((kidsL l n).map (Tn l)).length ((kidsL l n).map (Tn l)) := by
      refine ⟨rfl, by rw [hm]; exact Nat.le_trans (hp.kl n hn.hn) (by decide), fun _ => ⟨_, rfl, fun i x hx => ?_⟩⟩
      have hi : i < (kidsL l n).length := by rw [← hm]; exact (List.getElem?_eq_some_iff.1 hx).1
      rw [List.getElem?_map, List.getElem?_eq_getElem hi] at hx
      have ex : Tn l ((kidsL l n).getD i 0) = x := by
        rw [List.getD_eq_getElem?_getD, List.getElem?_eq_getElem hi]
        exact Option.some.inj hx
      obtain ⟨cc, hK, hcell⟩ := hj (Z, i * 6, (kidsL l n).getD i 0) (List.mem_append_right _ (List.mem_map.2 ⟨i, List.mem_range.2 hi, rfl⟩))
      dsimp only at hK hcell
      rw [ex] at hK
      exact ⟨cc, k35.K_len hK, hK, fun q u hu => by rw [add0]; exact hcell q u hu⟩
    refine ⟨_, k35_mk W (labT (nd l n).f0 ((kidsL l n).map (Tn l))) hl3 hC3 (A5 := some ⟨Z, 0, none⟩) (c5 := c) (by show ((kidsL l n).map (Tn l)).length ≤ c; rw [hm]; exact hr.mc) hkids, fun i u hu => ?_⟩
    rw [cell_of_arr h3]
    match i, hu with
    | 0, hu => rw [hq 0 (by omega), hq1 0 (by omega)]; exact r0.trans hu
    | 1, hu => rw [hq 1 (by omega), hq1 1 (by omega)]; exact r1.trans hu
    | 2, hu => rw [hq 2 (by omega), hq1 2 (by omega)]; exact r2.trans hu
    | 3, hu => rw [hq 3 (by omega), hq1 3 (by omega)]; exact r3.trans hu
    | 4, hu => rw [hq 4 (by omega), hq1 4 (by omega)]; exact r4.trans hu
    | 5, hu =>
      rw [hq 5 (by omega), h5, ← hm]
      exact hu
/-- Trees' blocks from B on are as they were. -/
def Keep35 (B : Nat) (w W : World) : Prop := ∀ (k : Nat) (cs : Array Value) (t : Nat), B ≤ k → w.heap[k]? = some (.cells cs t (0, 0)) → (t = 35 ∨ t = 62) → W.heap[k]? = w.heap[k]?
/-- A tree as a value, in trees' blocks from B on. -/
def TP (w : World) (B : Nat) (v : Value) (t : S35) : Prop := ∀ W, Keep35 B w W → TV W v t
theorem TP.now {w : World} {B : Nat} {v : Value} {t : S35} (h : TP w B v t) : TV w v t := h w (fun _ _ _ _ _ _ => rfl)
theorem TP.fr {w w' : World} {B N : Nat} {v : Value} {t : S35} {T : Nat → Prop} (h : TP w B v t) (hf : Fr N T w w') (h35 : ¬ T 35) (h62 : ¬ T 62) : TP w' B v t := fun W hW => h W (fun k cs q hk hc hq => by
  have h1 := hf.keep k cs q hc (by rcases hq with rfl | rfl; exact h35; exact h62)
  exact (hW k cs q hk (h1.trans hc) hq).trans h1)
theorem TP.below {w w' : World} {B : Nat} {v : Value} {t : S35} (h : TP w B v t) (hb : Below w.heap.size w w') : TP w' B v t := h.fr (T := fun _ => False) (Fr.of_below hb (Nat.le_refl _)) id id
theorem At.cells {w : World} {b o : Nat} {t : S35} (h : At w b o t) : ∃ (A3 : Option Addr) (c3 : Nat) (A5 : Option Addr) (c5 : Nat), w.cell? ⟨b, o, none⟩ = some (.int .i64 t.f0) ∧ w.cell? ⟨b, o + 1, none⟩ = some (.int .i64 t.f1) ∧ w.cell? ⟨b, o + 2, none⟩ = some (.string t.f2) ∧ w.cell? ⟨b, o + 3, none⟩ = some (.slice A3 t.f3.length c3) ∧ w.cell? ⟨b, o + 4, none⟩ = some (.string t.f4) ∧ w.cell? ⟨b, o + 5, none⟩ = some (.slice A5 t.f5.length c5) ∧ TV w (.agg #[.int .i64 t.f0, .int .i64 t.f1, .string t.f2, .slice A3 t.f3.length c3, .string t.f4, .slice A5 t.f5.length c5]) t := by
  obtain ⟨c, hK, hc⟩ := h
  obtain ⟨A3, c3, A5, c5, rfl, l3, g3, l5, g5⟩ := k35_open hK
  exact ⟨A3, c3, A5, c5, hc 0 _ rfl, hc 1 _ rfl, hc 2 _ rfl, hc 3 _ rfl, hc 4 _ rfl, hc 5 _ rfl, A3, c3, A5, c5, rfl, l3, g3, l5, g5⟩
/-- Nothing waits any more. -/
theorem Inv.done {B X n0 : Nat} {l : List S72} {w : World} (h : Inv B l X n0 [] w) (hX : B ≤ X) {cs : Array Value} (hb : w.heap[X]? = some (.cells cs 35 (0, 0))) : ∃ (A3 : Option Addr) (c3 : Nat) (A5 : Option Addr) (c5 : Nat), w.cell? ⟨X, 0, none⟩ = some (.int .i64 (Tn l n0).f0) ∧ w.cell? ⟨X, 1, none⟩ = some (.int .i64 (Tn l n0).f1) ∧ w.cell? ⟨X, 2, none⟩ = some (.string (Tn l n0).f2) ∧ w.cell? ⟨X, 3, none⟩ = some (.slice A3 (Tn l n0).f3.length c3) ∧ w.cell? ⟨X, 4, none⟩ = some (.string (Tn l n0).f4) ∧ w.cell? ⟨X, 5, none⟩ = some (.slice A5 (Tn l n0).f5.length c5) ∧ TP w B (.agg #[.int .i64 (Tn l n0).f0, .int .i64 (Tn l n0).f1, .string (Tn l n0).f2, .slice A3 (Tn l n0).f3.length c3, .string (Tn l n0).f4, .slice A5 (Tn l n0).f5.length c5]) (Tn l n0) := by
  have hk : ∀ W, Keep35 B w W → At W X 0 (Tn l n0) := fun W hW => h W ⟨fun k cs hk hc => hW k cs 62 hk hc (.inr rfl), fun k cs hk hc => ⟨cs, (hW k cs 35 hk hc (.inl rfl)).trans hc, fun _ _ => rfl⟩⟩ (fun j hj => by cases hj)
  obtain ⟨A3, c3, A5, c5, z0, z1, z2, z3, z4, z5, hT⟩ := (hk w (fun _ _ _ _ _ _ => rfl)).cells
  simp only [Nat.zero_add] at z0 z1 z2 z3 z4 z5
  refine ⟨A3, c3, A5, c5, z0, z1, z2, z3, z4, z5, fun W hW => ?_⟩
  obtain ⟨B3, d3, B5, d5, y0, y1, y2, y3, y4, y5, hT2⟩ := (hk W hW).cells
  simp only [Nat.zero_add] at y0 y1 y2 y3 y4 y5
  have hX2 := hW X cs 35 hX hb (.inl rfl)
  have e3 : (Value.slice B3 (Tn l n0).f3.length d3) = .slice A3 (Tn l n0).f3.length c3 := by
    rw [cell_of_arr (hX2.trans hb), ← cell_of_arr hb, z3] at y3
    exact (Option.some.inj y3).symm
  have e5 : (Value.slice B5 (Tn l n0).f5.length d5) = .slice A5 (Tn l n0).f5.length c5 := by
    rw [cell_of_arr (hX2.trans hb), ← cell_of_arr hb, z5] at y5
    exact (Option.some.inj y5).symm
  rw [e3, e5] at hT2
  exact hT2
end Go.Proofs.Ytjebpaapkmbahaa.Ar

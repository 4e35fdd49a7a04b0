/- What CompareNumbers makes of its trees, by hand: the row of one kid, with a field turned. Plain part. -/
import Derived.Test.YteglfgmgpbablaaDoorCmpGrowO
import Derived.Test.YteglfgmgpbablaaDoorCmpKnownW
namespace Go.Proofs.YteglfgmgpbablaaDoor.Cmp
open Go.RowKit Go.Proofs.YteglfgmgpbablaaDoor.PCompareTells Go.Proofs.YteglfgmgpbablaaDoorW.PrintWords Go.Proofs.YteglfgmgpbablaaDoorW.PrintLast
set_option linter.unusedVariables false
set_option linter.unusedSimpArgs false
def numN : List S45 := [⟨3, 4, 0, false, ⟨#[]⟩, []⟩, ⟨3, 1, 0, false, ⟨#[]⟩, []⟩, ⟨1, 0, 0, false, ⟨#[116]⟩, []⟩, ⟨0, 0, 1, false, ⟨#[99]⟩, []⟩]
def numKK : List S26 := [⟨3, 1, ⟨#[98]⟩, [], ⟨#[]⟩, [⟨4, 0, ⟨#[]⟩, [], ⟨#[116]⟩, []⟩]⟩, ⟨5, 0, ⟨#[]⟩, [], ⟨#[99]⟩, []⟩]
def numK : S26 := ⟨3, 1, ⟨#[100, 105, 118]⟩, [], ⟨#[]⟩, numKK⟩
def docN (k : List S26) : S26 := ⟨1, 0, ⟨#[]⟩, [], ⟨#[]⟩, k⟩
theorem num_grow : growL numN = docN [numK] := by kernel_rfl
theorem num_deep : LastDeep numN := by
  intro n hn
  have h : n = 3 := by have : numN.length = 4 := rfl; omega
  subst h
  exact of_decide_eq_true (by kernel_rfl)
theorem raw_narrow {e : Nat} {w : World} {base : Nat} {ok : Nat → Prop} {v : Value} {rs : List Raw} (h : kRaw.R e w base ok v rs) : kRaw.R e w base (fun k => v.ownBlock = some k) v rs :=
  ⟨fun k hk => hk, h.2.imp_ (fun x cs hp => kRaw_KM (kRaw.K_of_M hp))⟩
theorem lit_attr {w : World} {L : Nat} (h : w.heap[L]? = some (.cells #[.string ⟨#[97]⟩, .string ⟨#[]⟩] 47 (0, 0))) : k47.C w (some ⟨L, 0, none⟩) 1 [⟨⟨#[97]⟩, ⟨#[]⟩⟩] := by
  refine ⟨rfl, by decide, fun _ => ⟨_, rfl, fun j p hj => ?_⟩⟩
  match j, hj with
  | 0, hj =>
    cases hj
    refine ⟨[.string ⟨#[97]⟩, .string ⟨#[]⟩], rfl, ⟨[.string ⟨#[97]⟩], [.string ⟨#[]⟩], rfl, rfl, rfl⟩, fun i u hu => ?_⟩
    rw [add0, cell_of_row w L _ _ _ _ h]
    match i, hu with
    | 0, hu => rw [← hu]; rfl
    | 1, hu => rw [← hu]; rfl
/-- The tree in its box, its one kid in a row of its own. -/
structure Ow (N X : Nat) (A3 : Option Addr) (c3 g c5 : Nat) (w : World) : Prop where
  box : w.heap[X]? = some (.cells #[.int .i64 1, .int .i64 0, .string ⟨#[]⟩, .slice A3 0 c3, .string ⟨#[]⟩, .slice (some ⟨g, 0, none⟩) 1 c5] 26 (0, 0))
  hg : N ≤ g
  hX : g ≠ X
  row : ∃ (K3 : Option Addr) (k3 : Nat) (K5 : Option Addr) (k5 : Nat), kRaw.R 26 w N (fun k => N ≤ k ∧ k ≠ X) (.slice (some ⟨g, 0, none⟩) 1 c5) [rawT numK K3 k3 K5 k5] ∧ Kd.F k26 w (fun k => k ≠ g ∧ k ≠ X) K5 2 numKK ∧ 2 ≤ k5
/-- What is there behind a turn. -/
def NumX (X : Nat) (w : World) : Prop := ∃ (x : S26) (A3 : Option Addr) (c3 : Nat) (A5 : Option Addr) (c5 : Nat), w.heap[X]? = some (.cells #[.int .i64 x.f0, .int .i64 x.f1, .string x.f2, .slice A3 x.f3.length c3, .string x.f4, .slice A5 x.f5.length c5] 26 (0, 0)) ∧ TV w (.agg #[.int .i64 x.f0, .int .i64 x.f1, .string x.f2, .slice A3 x.f3.length c3, .string x.f4, .slice A5 x.f5.length c5]) x ∧ AL 6 x ∧ W x ≤ 101
theorem C0 {α : Type} (d : Kd α) (w : World) (A : Option Addr) : d.C w A 0 [] := ⟨rfl, Nat.zero_le _, fun h => absurd h (Nat.lt_irrefl 0)⟩
theorem Ow.mk' {N : Nat} {wa : World} {v : Value} (h : OwnT (fun _ => False) N wa v (docN [numK])) : ∃ (A3 : Option Addr) (c3 g c5 : Nat), v = .agg #[.int .i64 1, .int .i64 0, .string ⟨#[]⟩, .slice A3 0 c3, .string ⟨#[]⟩, .slice (some ⟨g, 0, none⟩) 1 c5] ∧ N ≤ g ∧ g < wa.heap.size ∧ ∀ w, Below wa.heap.size wa w → ∀ X, wa.heap.size ≤ X → w.heap[X]? = some (.cells #[.int .i64 1, .int .i64 0, .string ⟨#[]⟩, .slice A3 0 c3, .string ⟨#[]⟩, .slice (some ⟨g, 0, none⟩) 1 c5] 26 (0, 0)) → Ow N X A3 c3 g c5 w := by
  obtain ⟨A3, c3, g, c5, rs, e, hg, l3, h3, hR, hl, hk⟩ := h
  have hgl : g < wa.heap.size := by
    obtain ⟨inner, ho⟩ := Kd.R_own hR
    exact own_lt ho g rfl
  refine ⟨A3, c3, g, c5, e, hg, hgl, fun w hw X hX hb => ⟨hb, hg, by omega, ?_⟩⟩
  obtain ⟨K3, k3, K5, k5, hr, ht⟩ := kid_TF (xs := [numK]) hk 0 (by decide)
  obtain ⟨D3, g3, D5, g5, er, l3, f3, l5, f5⟩ := ht.open_
  injection er with er
  injection er with er
  simp only [List.cons.injEq, Value.slice.injEq] at er
  obtain ⟨_, _, _, ⟨rfl, _, rfl⟩, _, ⟨rfl, _, rfl⟩, _⟩ := er
  have hrs : rs = [rawT numK K3 k3 K5 k5] := by
    have hl1 : rs.length = 1 := hl
    match rs, hl1, hr with
    | [r], _, hr => cases hr; rfl
  subst hrs
  refine ⟨K3, k3, K5, k5, ?_, ?_, l5⟩
  · exact Kd.R_mono (Kd.R_step (Kd.R_bound hR) (fun k hk hlt => hw.block k hlt)) (fun k hk => ⟨hk.1, by have := hk.2.2.1; omega⟩)
  · exact Foot.mono (Foot.step (Foot.bound f5) (fun k hk hlt => hw.block k hlt)) (fun k hk => ⟨hk.1.2, by have := hk.2; omega⟩)
theorem Ow.below {N X : Nat} {A3 : Option Addr} {c3 g c5 : Nat} {w w' : World} (h : Ow N X A3 c3 g c5 w) (hb : Below w.heap.size w w') : Ow N X A3 c3 g c5 w' := by
  obtain ⟨K3, k3, K5, k5, hR, hF, hk⟩ := h.row
  exact ⟨(hb.block _ (blk_lt h.box)).trans h.box, h.hg, h.hX, K3, k3, K5, k5, Kd.R_below hR hb, Foot.step hF (fun k _ hlt => hb.block k hlt), hk⟩
theorem Ow.cells {N X : Nat} {A3 : Option Addr} {c3 g c5 : Nat} {w : World} (h : Ow N X A3 c3 g c5 w) : ∃ gc, w.heap[g]? = some (.cells gc 26 (0, 0)) ∧ 6 ≤ gc.size := by
  obtain ⟨K3, k3, K5, k5, hR, _⟩ := h.row
  obtain ⟨inner, ho⟩ := Kd.R_own hR
  rcases ho.2 with ⟨h1, h2⟩ | ⟨g', cap, cur, h1, h2, h3, h4, h8, h5, _⟩
  · cases h1
  · injection h1 with h6 h7 h8
    injection h6 with h6
    injection h6 with h6
    subst h6
    exact ⟨cur, h3, by rw [h5]; show 6 ≤ cap * 6; omega⟩
/-- A store into the kid. -/
theorem Ow.seg {N X : Nat} {A3 : Option Addr} {c3 g c5 : Nat} {w : World} (h : Ow N X A3 c3 g c5 w) {K3 K5 : Option Addr} {k3 k5 : Nat} {ok : Nat → Prop} (hR : kRaw.R 26 w N ok (.slice (some ⟨g, 0, none⟩) 1 c5) [rawT numK K3 k3 K5 k5]) (y : S26) {Y3 Y5 : Option Addr} {y3 y5 : Nat} (j : Nat) (u : Value) (hj : j < 6) (hc : cl (rawT y Y3 y3 Y5 y5) = (cl (rawT numK K3 k3 K5 k5)).take j ++ [u] ++ (cl (rawT numK K3 k3 K5 k5)).drop (j + 1))
    (ly3 : y.f3.length ≤ y3) (fy3 : k47.C (w.setCell ⟨g, j, none⟩ u) Y3 y.f3.length y.f3) (ly5 : y.f5.length ≤ y5) (fy5 : k26.C (w.setCell ⟨g, j, none⟩ u) Y5 y.f5.length y.f5) (hal : AL 6 (docN [y])) (hW : W (docN [y]) ≤ 101) : NumX X (w.setCell ⟨g, j, none⟩ u) := by
  have h1 := (Kd.R_seg (d := kRaw) hR 0 (by decide) (by decide) (c := cl (rawT numK K3 k3 K5 k5)) (seg := [u]) (j := j) rfl (fun i v hi => by
    obtain ⟨z0, z1, z2, z3, z4, z5⟩ := raw_cells (Kd.R_reads' hR).2.2 0 _ rfl
    match i, hi with
    | 0, hi => cases hi; exact z0
    | 1, hi => cases hi; exact z1
    | 2, hi => cases hi; exact z2
    | 3, hi => cases hi; exact z3
    | 4, hi => cases hi; exact z4
    | 5, hi => cases hi; exact z5) (by show j + 1 ≤ 6; omega) (x' := rawT y Y3 y3 Y5 y5) (okp := fun _ => False) (by
      have e : (cl (rawT numK K3 k3 K5 k5)).take j ++ [u] ++ (cl (rawT numK K3 k3 K5 k5)).drop (j + [u].length) = cl (rawT y Y3 y3 Y5 y5) := hc.symm
      rw [e]
      exact kRaw_M _ _ _ _) (fun k hk => hk.elim)).1
  have e1 : w.setCells g (((0 : Int).toNat) * kRaw.sz + j) [u] = w.setCell ⟨g, j, none⟩ u := by
    have : ((0 : Int).toNat) * kRaw.sz + j = j := by show 0 * 6 + j = j; omega
    rw [this]
    rfl
  rw [e1] at h1
  have e2 : [rawT numK K3 k3 K5 k5].set ((0 : Int).toNat) (rawT y Y3 y3 Y5 y5) = [rawT y Y3 y3 Y5 y5] := rfl
  rw [e2] at h1
  have hk : KL (w.setCell ⟨g, j, none⟩ u) [y] [rawT y Y3 y3 Y5 y5] := .cons (k26_mk _ y ly3 fy3 ly5 fy5) .nil
  have hC := raw_C (xs := [y]) (Kd.R_reads' h1).2.2 hk
  exact ⟨docN [y], A3, c3, some ⟨g, 0, none⟩, c5, (Below.heap_setCell _ _ _ _ (fun e => h.hX e.symm)).trans h.box, ⟨A3, c3, some ⟨g, 0, none⟩, c5, rfl, Nat.zero_le _, C0 _ _ _, (Kd.R_reads' h1).2.1, hC⟩, hal, hW⟩
theorem Ow.same {N X : Nat} {A3 : Option Addr} {c3 g c5 : Nat} {w : World} (h : Ow N X A3 c3 g c5 w) : NumX X w := by
  obtain ⟨K3, k3, K5, k5, hR, hF, hk⟩ := h.row
  have hC := raw_C (xs := [numK]) (Kd.R_reads' hR).2.2 (.cons (k26_mk _ numK (Nat.zero_le _) (C0 _ _ _) hk (Kd.F_now hF)) .nil)
  exact ⟨docN [numK], A3, c3, some ⟨g, 0, none⟩, c5, h.box, ⟨A3, c3, some ⟨g, 0, none⟩, c5, rfl, Nat.zero_le _, C0 _ _ _, (Kd.R_reads' hR).2.1, hC⟩, by simp [docN, numK, numKK, AL, ALK], by simp [docN, numK, numKK, W, WK]⟩
theorem Ow.name {N X : Nat} {A3 : Option Addr} {c3 g c5 : Nat} {w : World} (h : Ow N X A3 c3 g c5 w) : NumX X (w.setCell ⟨g, 2, none⟩ (.string ⟨#[112]⟩)) := by
  obtain ⟨K3, k3, K5, k5, hR, hF, hk⟩ := h.row
  exact h.seg hR ⟨3, 1, ⟨#[112]⟩, [], ⟨#[]⟩, numKK⟩ (Y3 := K3) (y3 := k3) (Y5 := K5) (y5 := k5) 2 _ (by decide) rfl (Nat.zero_le _) (C0 _ _ _) hk (Kd.F_now (Foot.step hF (fun k hk _ => Below.heap_setCell _ _ _ _ hk.1))) (by simp [docN, numK, numKK, AL, ALK]) (by simp [docN, numK, numKK, W, WK])
theorem Ow.ns {N X : Nat} {A3 : Option Addr} {c3 g c5 : Nat} {w : World} (h : Ow N X A3 c3 g c5 w) : NumX X (w.setCell ⟨g, 1, none⟩ (.int .i64 2)) := by
  obtain ⟨K3, k3, K5, k5, hR, hF, hk⟩ := h.row
  exact h.seg hR ⟨3, 2, ⟨#[100, 105, 118]⟩, [], ⟨#[]⟩, numKK⟩ (Y3 := K3) (y3 := k3) (Y5 := K5) (y5 := k5) 1 _ (by decide) rfl (Nat.zero_le _) (C0 _ _ _) hk (Kd.F_now (Foot.step hF (fun k hk _ => Below.heap_setCell _ _ _ _ hk.1))) (by simp [docN, numK, numKK, AL, ALK]) (by simp [docN, numK, numKK, W, WK])
theorem Ow.text {N X : Nat} {A3 : Option Addr} {c3 g c5 : Nat} {w : World} (h : Ow N X A3 c3 g c5 w) : NumX X (w.setCell ⟨g, 4, none⟩ (.string ⟨#[117]⟩)) := by
  obtain ⟨K3, k3, K5, k5, hR, hF, hk⟩ := h.row
  exact h.seg hR ⟨3, 1, ⟨#[100, 105, 118]⟩, [], ⟨#[117]⟩, numKK⟩ (Y3 := K3) (y3 := k3) (Y5 := K5) (y5 := k5) 4 _ (by decide) rfl (Nat.zero_le _) (C0 _ _ _) hk (Kd.F_now (Foot.step hF (fun k hk _ => Below.heap_setCell _ _ _ _ hk.1))) (by simp [docN, numK, numKK, AL, ALK]) (by simp [docN, numK, numKK, W, WK])
theorem Ow.kids {N X : Nat} {A3 : Option Addr} {c3 g c5 : Nat} {w : World} (h : Ow N X A3 c3 g c5 w) : NumX X (w.setCell ⟨g, 5, none⟩ (.slice none 0 0)) := by
  obtain ⟨K3, k3, K5, k5, hR, hF, hk⟩ := h.row
  exact h.seg hR ⟨3, 1, ⟨#[100, 105, 118]⟩, [], ⟨#[]⟩, []⟩ (Y3 := K3) (y3 := k3) (Y5 := none) (y5 := 0) 5 _ (by decide) rfl (Nat.zero_le _) (C0 _ _ _) (Nat.le_refl 0) (C0 _ _ _) (by simp [docN, numK, numKK, AL, ALK]) (by simp [docN, numK, numKK, W, WK])
/-- Other attributes. -/
theorem Ow.attr {N X : Nat} {A3 : Option Addr} {c3 g c5 : Nat} {w : World} (h : Ow N X A3 c3 g c5 w) {L : Nat} (hL : w.heap[L]? = some (.cells #[.string ⟨#[97]⟩, .string ⟨#[]⟩] 47 (0, 0))) : NumX X (w.setCell ⟨g, 3, none⟩ (.slice (some ⟨L, 0, none⟩) 1 1)) := by
  obtain ⟨K3, k3, K5, k5, hR, hF, hk⟩ := h.row
  obtain ⟨gc, hgc, _⟩ := h.cells
  have hgL : L ≠ g := by
    rintro rfl
    rw [hgc] at hL
    simp only [Option.some.injEq, Obj.cells.injEq] at hL
    exact absurd hL.2.1 (by decide)
  have hL' := (Below.heap_setCell w ⟨g, 3, none⟩ (.slice (some ⟨L, 0, none⟩) 1 1) L hgL).trans hL
  exact h.seg hR ⟨3, 1, ⟨#[100, 105, 118]⟩, [⟨⟨#[97]⟩, ⟨#[]⟩⟩], ⟨#[]⟩, numKK⟩ (Y3 := some ⟨L, 0, none⟩) (y3 := 1) (Y5 := K5) (y5 := k5) 3 _ (by decide) rfl (Nat.le_refl 1) (lit_attr hL') hk (Kd.F_now (Foot.step hF (fun k hk _ => Below.heap_setCell _ _ _ _ hk.1))) (by simp [docN, numKK, AL, ALK]) (by simp [docN, numKK, W, WK])
/-- A kid more. -/
theorem Ow.more {N X : Nat} {A3 : Option Addr} {c3 g c5 : Nat} {w V w3 : World} (h : Ow N X A3 c3 g c5 w) (hb : Below w.heap.size w V) (hg : V.grownBy w3 (some g)) {Av : Option Addr} {cv : Nat} {ok : Nat → Prop} {K3 K5 : Option Addr} {k3 k5 : Nat} (hF : Kd.F k26 w (fun k => k ≠ g ∧ k ≠ X) K5 2 numKK) (hk : 2 ≤ k5)
    (hR : kRaw.R 26 w3 N ok (.slice Av 2 cv) ([rawT numK K3 k3 K5 k5] ++ [⟨⟨.int .i64 5, rfl⟩, ⟨.int .i64 0, rfl⟩, ⟨.string ⟨#[]⟩, rfl⟩, ⟨.slice none 0 0, rfl⟩, ⟨.string ⟨#[]⟩, rfl⟩, ⟨.slice none 0 0, rfl⟩⟩])) (hne : (Value.slice Av 2 cv).ownBlock ≠ some X) : NumX X (w3.setCell ⟨X, 5, none⟩ (.slice Av 2 cv)) := by
  have hX3 := (hg.block X (by have := blk_lt h.box; have := hb.size; omega) (by intro e; injection e with e; exact h.hX e.symm)).trans ((hb.block X (blk_lt h.box)).trans h.box)
  have hF3 : Kd.F k26 w3 (fun k => k ≠ g ∧ k ≠ X) K5 2 numKK := Foot.step (Foot.step hF (fun k _ hlt => hb.block k hlt)) (fun k hk hlt => hg.block k hlt (by intro e; injection e with e; exact hk.1 e))
  have hF4 := Kd.F_now (Foot.step hF3 (fun k hk _ => Below.heap_setCell w3 ⟨X, 5, none⟩ (.slice Av 2 cv) k hk.2))
  have hR4 := Kd.R_step (Kd.R_mono (raw_narrow hR) (ok' := fun k => k ≠ X) (fun k hk => by rintro rfl; exact hne hk)) (fun k hk _ => Below.heap_setCell w3 ⟨X, 5, none⟩ (.slice Av 2 cv) k hk)
  have hC := raw_C (xs := [numK, ⟨5, 0, ⟨#[]⟩, [], ⟨#[]⟩, []⟩]) (Kd.R_reads' hR4).2.2 (.cons (k26_mk _ numK (Nat.zero_le _) (C0 _ _ _) hk hF4) (.cons (k26_mk _ ⟨5, 0, ⟨#[]⟩, [], ⟨#[]⟩, []⟩ (A3 := none) (A5 := none) (Nat.le_refl 0) (C0 _ _ _) (Nat.le_refl 0) (C0 _ _ _)) .nil))
  exact ⟨docN [numK, ⟨5, 0, ⟨#[]⟩, [], ⟨#[]⟩, []⟩], A3, c3, Av, cv, blk_set hX3 5 _, ⟨A3, c3, Av, cv, rfl, Nat.zero_le _, C0 _ _ _, (Kd.R_reads' hR4).2.1, hC⟩, by simp [docN, numK, numKK, AL, ALK], by simp [docN, numK, numKK, W, WK]⟩
/-- No kids. -/
theorem Ow.none_ {N X : Nat} {A3 : Option Addr} {c3 g c5 : Nat} {w : World} (h : Ow N X A3 c3 g c5 w) : NumX X (w.setCell ⟨X, 5, none⟩ (.slice none 0 0)) :=
  ⟨docN [], A3, c3, none, 0, blk_set h.box 5 _, ⟨A3, c3, none, 0, rfl, Nat.zero_le _, C0 _ _ _, Nat.le_refl 0, C0 _ _ _⟩, by simp [docN, AL, ALK], by simp [docN, W, WK]⟩
/-- Another Kind. -/
theorem Ow.kind {N X : Nat} {A3 : Option Addr} {c3 g c5 : Nat} {w : World} (h : Ow N X A3 c3 g c5 w) : NumX X (w.setCell ⟨X, 0, none⟩ (.int .i64 6)) := by
  obtain ⟨K3, k3, K5, k5, hR, hF, hk⟩ := h.row
  have hR4 := Kd.R_far (p := ⟨X, 0, none⟩) hR (fun k hk => hk.2) (.int .i64 6)
  have hF4 := Kd.F_now (Foot.step hF (fun k hk _ => Below.heap_setCell w ⟨X, 0, none⟩ (.int .i64 6) k hk.2))
  have hC := raw_C (xs := [numK]) (Kd.R_reads' hR4).2.2 (.cons (k26_mk _ numK (Nat.zero_le _) (C0 _ _ _) hk hF4) .nil)
  exact ⟨⟨6, 0, ⟨#[]⟩, [], ⟨#[]⟩, [numK]⟩, A3, c3, some ⟨g, 0, none⟩, c5, blk_set h.box 0 _, ⟨A3, c3, some ⟨g, 0, none⟩, c5, rfl, Nat.zero_le _, C0 _ _ _, (Kd.R_reads' hR4).2.1, hC⟩, by simp [numK, numKK, AL, ALK], by simp [numK, numKK, W, WK]⟩
end Go.Proofs.YteglfgmgpbablaaDoor.Cmp

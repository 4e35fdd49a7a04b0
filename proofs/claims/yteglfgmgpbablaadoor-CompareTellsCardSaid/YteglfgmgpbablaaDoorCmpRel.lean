/- What holds at the head of compare.Diff's loop. -/
import Derived.Test.YteglfgmgpbablaaDoorCmpLabel
namespace Go.Proofs.YteglfgmgpbablaaDoor.Cmp
open Go.RowKit Go.Proofs.YteglfgmgpbablaaDoor.PCompareTells Go.Proofs.YteglfgmgpbablaaDoorW.PrintWords Go.Proofs.YteglfgmgpbablaaDoorW.PrintLast
/-- A pointer to a tree, or to none. -/
def PT (w : World) (N : Nat) : Option Addr → Option S26 → Prop
  | none, none => True
  | some ad, some t => TAt w ad t ∧ AL N t
  | _, _ => False
structure PG (w : World) (N : Nat) (p : Pr) (g : G) : Prop where
  a : PT w N p.x0 g.a
  b : PT w N p.x1 g.b
  d : p.x2 = g.deep
  n : p.x3 = g.n
inductive Mt (w : World) (N : Nat) : List Pr → List G → Prop
  | nil : Mt w N [] []
  | cons {p : Pr} {g : G} {ps : List Pr} {gs : List G} (h : PG w N p g) (t : Mt w N ps gs) : Mt w N (p :: ps) (g :: gs)
theorem Mt.len {w : World} {N : Nat} {ps : List Pr} {gs : List G} (h : Mt w N ps gs) : ps.length = gs.length := by
  induction h with
  | nil => rfl
  | cons _ _ ih => simp [ih]
def DRel (w2 : World) (base s N M : Nat) (res : Option (List Int)) (g : Nat) (vw : Value) (wr : World) : Prop :=
  ∃ (way : List Int) (gs : List G) (xs : List Pr) (v : Value), TW gs = g ∧ ((∀ x ∈ gs, x.deep + g ≤ M) ∧ g ≤ M) ∧ StkPr base s v xs wr ∧ Kd.R (Kd.int .i64) 3 wr base (fun _ => True) vw way ∧ Below base w2 wr ∧ Mt w2 N xs.reverse gs ∧ Good way gs ∧ FF way gs = res
/-- Inside a round: some of the kids pushed. -/
def KRel (w2 : World) (base s N : Nat) (v8 : Nat) (pc : Pr) (vw : Value) (way : List Int) (l m : List S26) (d : Nat) (r : List G) (c : Nat) (wr : World) : Prop :=
  ∃ (xs : List Pr) (v : Value), StkPr base s v xs wr ∧ Kd.R (Kd.int .i64) 3 wr base (fun _ => True) vw way ∧ Below base w2 wr ∧ wr.heap[v8]? = some (.cells #[.pointer pc.x0, .pointer pc.x1, .int .i64 pc.x2, .int .i64 pc.x3] 56 (0, 0)) ∧ Mt w2 N xs.reverse (kidsG l m d c (max l.length m.length - c) ++ r) ∧ some v8 ≠ v.ownBlock ∧ v8 < wr.heap.size
/-- Behind a Pop, the way turned. -/
def RRel (w2 : World) (base s N M : Nat) (res : Option (List Int)) (g0 X : Nat) (vw : Value) (wx : World) : Prop :=
  ∃ (way : List Int) (g : G) (gs : List G) (p : Pr) (ps : List Pr) (v : Value), TW (g :: gs) = g0 ∧ ((∀ x ∈ g :: gs, x.deep + g0 ≤ M) ∧ g0 ≤ M) ∧ StkPr base s v ps.reverse wx ∧ Kd.R (Kd.int .i64) 3 wx base (fun _ => True) vw (way1 way g) ∧ Below base w2 wx ∧ wx.heap[X]? = some (.cells #[.pointer p.x0, .pointer p.x1, .int .i64 p.x2, .int .i64 p.x3] 56 (0, 0)) ∧ base ≤ X ∧ PG w2 N p g ∧ Mt w2 N ps gs ∧ Good way (g :: gs) ∧ FF way (g :: gs) = res ∧ some X ≠ v.ownBlock
theorem StkPr.over {base s : Nat} {v : Value} {xs : List Pr} {W1 w1 : World} {b : Nat} {ok : Nat → Prop} {u : Value} {ys : List Int} (h : StkPr base s v xs W1) (hr : (Kd.int .i64).R 3 W1 b ok u ys) (hg : W1.grownBy w1 u.ownBlock) : StkPr base s v xs w1 :=
  ⟨(hg.block s (blk_lt h.stk) (Kd.R_ne hr h.stk (by decide))).trans h.stk, Kd.R_over h.row hr (by decide) hg, h.bs⟩
theorem PT_kid {w : World} {N : Nat} {A : Option Addr} {l : List S26} (h : k26.C w A l.length l) (hA : ALK N l) (i : Nat) : PT w N (if i < l.length then A.map (·.add (i * 6)) else none) l[i]? := by
  by_cases hi : i < l.length
  · obtain ⟨ad, rfl, ht⟩ := TAt_kid h i hi
    rw [if_pos hi, show l[i]? = some (rd_T26 l (i : Int)) from by unfold rd_T26; simp [List.getD, hi]]
    exact ⟨ht, ALK_at N l i hi hA⟩
  · rw [if_neg hi, List.getElem?_eq_none (by omega)]
    trivial
theorem KRel.push {w2 wr w' w9 : World} {base s N v8 : Nat} {pc : Pr} {vw : Value} {way : List Int} {l m : List S26} {d : Nat} {r : List G} {c : Nat} {xs : List Pr} {v v1 : Value} {p : Pr} (hst : StkPr base s v xs w') (hst9 : StkPr base s v1 (xs ++ [p]) w9) (hp : Push_ w' w9 s v v1) (hb : Below wr.heap.size wr w') (hway : Kd.R (Kd.int .i64) 3 wr base (fun _ => True) vw way) (hb2 : Below base w2 wr) (hx : wr.heap[v8]? = some (.cells #[.pointer pc.x0, .pointer pc.x1, .int .i64 pc.x2, .int .i64 pc.x3] 56 (0, 0)))
    (hm : Mt w2 N xs.reverse (kidsG l m d (c + 1) (max l.length m.length - (c + 1)) ++ r)) (hne : some v8 ≠ v.ownBlock) (hc : c < max l.length m.length) (hpg : PG w2 N p ⟨l[c]?, m[c]?, d + 1, (c : Int)⟩) (hbase : base = w2.heap.size) : KRel w2 base s N v8 pc vw way l m d r c w9 := by
  have hx' := (hb.block _ (blk_lt hx)).trans hx
  have hs8 : v8 ≠ s := fun e => by
    subst e
    rw [hst.stk] at hx'
    injection hx' with hx'
    injection hx' with _ hx'
    exact absurd hx' (by decide)
  refine ⟨xs ++ [p], v1, hst9, Push_.kept rfl hp (Kd.R_below hway hb) hst.stk (by decide) hst.row (by decide), (below_step (by rw [hbase] at hb2; exact hb2) hb |>.mono (by rw [hbase]; exact Nat.le_refl _)).trans (hst.step ⟨_, hp⟩ (Nat.le_refl _)), (hp.keep.2 _ (blk_lt hx') hs8 hne).trans hx', ?_, ?_, Nat.lt_of_lt_of_le (blk_lt hx') hp.keep.1⟩
  · rw [List.reverse_append, List.reverse_singleton, List.singleton_append, show max l.length m.length - c = (max l.length m.length - (c + 1)) + 1 from by omega, kidsG, List.cons_append]
    exact .cons hpg hm
  · rcases hp.own with h | ⟨b, h, hb'⟩
    · rw [h]; exact hne
    · rw [h]
      intro e
      have := Option.some.inj e
      have := blk_lt hx'
      omega
end Go.Proofs.YteglfgmgpbablaaDoor.Cmp

/- Ground for the stacks of this seat: what a push leaves, clear on a row's spare end, a guarded append. -/
import Derived.Test.YtjebpaapkmbahaaArBase
import Derived.Deep.RegionLaw
import Derived.BigRegion
import Derived.WideShapes
namespace Go.Proofs.Ytjebpaapkmbahaa.Ar
open Go.RowKit Go.Proofs.YtjebpaapkmbahaaW.PrintWords Go.Proofs.YtjebpaapkmbahaaW.PrintLast
/-- A pointer as a value. -/
def ptrV (p : Option Addr) : Value := .pointer p
abbrev kPtr : Kd (Option Addr) := Kd.scalar ptrV (fun _ => rfl)
/-- What a Push leaves: all but the stack's own block s and its old row is as it was. -/
structure Push_ (w w' : World) (s : Nat) (v v1 : Value) : Prop where
  keep : KeepBut w w' s v.ownBlock
  os : w'.os = w.os
  tape : w'.tape = w.tape
  output : w'.output = w.output
  own : v1.ownBlock = v.ownBlock ∨ ∃ b, v1.ownBlock = some b ∧ w.heap.size ≤ b
theorem Push_.below {w w' : World} {s : Nat} {v v1 : Value} (h : Push_ w w' s v v1) {B : Nat} (hs : B ≤ s) (hv : ∀ k, v.ownBlock = some k → B ≤ k) (hB : B ≤ w.heap.size) : Below B w w' :=
  ⟨h.os, h.tape, h.output, h.keep.1, fun k hk => h.keep.2 k (by omega) (by omega) (fun e => by have := hv k e.symm; omega)⟩
theorem Push_.refl (w : World) (s : Nat) (v : Value) : Push_ w w s v v := ⟨⟨Nat.le_refl _, fun _ _ _ _ => rfl⟩, rfl, rfl, rfl, .inl rfl⟩
theorem Push_.trans {w w1 w2 : World} {s : Nat} {v v1 v2 : Value} (h1 : Push_ w w1 s v v1) (h2 : Push_ w1 w2 s v1 v2) : Push_ w w2 s v v2 := by
  refine ⟨⟨Nat.le_trans h1.keep.1 h2.keep.1, fun k hk ks kv => ?_⟩, h2.os.trans h1.os, h2.tape.trans h1.tape, h2.output.trans h1.output, ?_⟩
  · refine (h2.keep.2 k (Nat.lt_of_lt_of_le hk h1.keep.1) ks (fun e => ?_)).trans (h1.keep.2 k hk ks kv)
    rcases h1.own with h | ⟨b, h, hb⟩
    · exact kv (e.trans h)
    · rw [h] at e; injection e with e; omega
  · rcases h2.own with h | ⟨b, h, hb⟩
    · rcases h1.own with g | ⟨c, g, hc⟩
      · exact .inl (h.trans g)
      · exact .inr ⟨c, h.trans g, hc⟩
    · exact .inr ⟨b, h, Nat.le_trans h1.keep.1 hb⟩
theorem Push_.after {w0 w w' : World} {s : Nat} {v v1 : Value} (hb : Below w0.heap.size w0 w) (h : Push_ w w' s v v1) : Push_ w0 w' s v v1 := by
  refine ⟨⟨Nat.le_trans hb.size h.keep.1, fun k hk ks kv => ?_⟩, h.os.trans hb.os, h.tape.trans hb.tape, h.output.trans hb.output, ?_⟩
  · exact (h.keep.2 k (Nat.lt_of_lt_of_le hk hb.size) ks kv).trans (hb.block k hk)
  · rcases h.own with g | ⟨c, g, hc⟩
    · exact .inl g
    · exact .inr ⟨c, g, Nat.le_trans hb.size hc⟩
theorem Push_.then_ {w w1 w' : World} {s : Nat} {v v1 : Value} (h : Push_ w w1 s v v1) (hb : Below w1.heap.size w1 w') : Push_ w w' s v v1 := by
  refine ⟨⟨Nat.le_trans h.keep.1 hb.size, fun k hk ks kv => ?_⟩, hb.os.trans h.os, hb.tape.trans h.tape, hb.output.trans h.output, h.own⟩
  exact (hb.block k (Nat.lt_of_lt_of_le hk h.keep.1)).trans (h.keep.2 k hk ks kv)
theorem Push_.kept {α : Type} {d : Kd α} {e base : Nat} {u : Value} {xs : List α} {w w' : World} {s t : Nat} {v v1 : Value} {cells : Array Value} {β : Type} {d' : Kd β} {e' base' : Nat} {ys : List β} (hE : d.E = []) (h : Push_ w w' s v v1) (hr : d.R e w base (fun _ => True) u xs) (hs : w.heap[s]? = some (.cells cells t (0, 0))) (ht : e ≠ t) (hv : d'.R e' w base' (fun _ => True) v ys) (he : e ≠ e') : d.R e w' base (fun _ => True) u xs := by
  refine Kd.R_mono (ok := fun k => some k = u.ownBlock) (Kd.R_step (Kd.R_tight hE hr) (fun k hk hlt => h.keep.2 k hlt (fun e0 => ?_) (fun e0 => ?_))) (fun _ _ => trivial)
  · subst e0; exact Kd.R_ne hr hs ht hk
  · by_cases hp : 0 < ys.length
    · obtain ⟨g, cap, rfl, _, _, c2, hc2⟩ := Kd.R_form hv hp
      have : some k = some g := e0
      injection this with this; subst this
      exact Kd.R_ne hr hc2 he hk
    · have hl : ys = [] := List.eq_nil_of_length_eq_zero (by omega)
      subst hl
      obtain ⟨inner, ho⟩ := Kd.R_own hv
      rcases ho.2 with ⟨h1, _⟩ | ⟨g', cap', cur, h1, _, hh, _⟩
      · rw [h1] at e0; simp [Value.ownBlock] at e0
      · rw [h1] at e0
        have : some k = some g' := e0
        injection this with this; subst this
        exact Kd.R_ne hr hh he hk
theorem Push_.mk' {w w2 w3 : World} {s : Nat} {v v1 : Value} (hb : Below w.heap.size w w2) (hg : w2.grownBy w3 v.ownBlock) (hv : v1.ownBlock = v.ownBlock) (u : Value) : Push_ w (w3.setCell ⟨s, 0, none⟩ u) s v v1 :=
  ⟨⟨Nat.le_trans hb.size (by simpa [World.setCell] using hg.size), fun k hk h1 h2 => (Below.heap_setCell _ _ _ _ h1).trans ((hg.block k (Nat.lt_of_lt_of_le hk hb.size) h2).trans (hb.block k hk))⟩, hg.os.trans hb.os, hg.tape.trans hb.tape, hg.output.trans hb.output, .inl hv⟩
theorem Push_.far {w w' : World} {s : Nat} {v v1 : Value} (h : Push_ w w' s v v1) {X : Nat} (hX : w.heap.size ≤ X) (j : Nat) (u : Value) : Push_ w (w'.setCell ⟨X, j, none⟩ u) s v v1 :=
  ⟨⟨by simpa [World.setCell] using h.keep.1, fun k hk h1 h2 => (Below.heap_setCell _ _ _ _ (by show k ≠ X; omega)).trans (h.keep.2 k hk h1 h2)⟩, h.os, h.tape, h.output, h.own⟩
/-- 'clear' on the place right behind a row of one's own: the row is as it was. -/
theorem R_clear {α : Type} (d : Kd α) {W : World} {base e g m c : Nat} {ok : Nat → Prop} {xs : List α} (HO : d.R e W base ok (.slice (some ⟨g, 0, none⟩) m c) xs) (hmc : m < c) (zs : List Value) (hz : zs.length = d.sz) :
    d.R e (W.setCells g (m * d.sz) zs) base ok (.slice (some ⟨g, 0, none⟩) m c) xs ∧ W.grownBy (W.setCells g (m * d.sz) zs) (some g) ∧ (∀ j, j < d.sz → (W.cell? ⟨g, m * d.sz + j, none⟩).isSome = true) ∧ (∀ j, j < d.sz → W.frozen? ⟨g, m * d.sz + j, none⟩ = false) := by
  obtain ⟨hn, hnc, _⟩ := Kd.R_reads' HO
  obtain ⟨hok, inner, hown, hr⟩ := HO
  rcases hown.2 with ⟨hv, _⟩ | ⟨g', cap', cur, hv, hb, hh, hq, hcm, hcs, htake⟩
  · cases hv
  injection hv with ha _ hc
  injection ha with ha
  injection ha with hg
  subst hg; subst hc
  have hcc : (m + 1) * d.sz ≤ c * d.sz := Nat.mul_le_mul_right _ hmc
  rw [Nat.succ_mul] at hcc
  obtain ⟨cur', h3, h4, h5⟩ := setCells_row zs (m * d.sz) W cur hh (by rw [hcs, hz]; omega)
  obtain ⟨s1, s2, s3, s4⟩ := setCells_same g zs (m * d.sz) W
  have hfar : ∀ k', k' ≠ g → (W.setCells g (m * d.sz) zs).heap[k']? = W.heap[k']? := fun k' hk' => setCells_far zs _ k' hk'
  refine ⟨⟨hok, inner, ⟨hown.1, .inr ⟨g, c, cur', by rw [hn], hb, h3, hq, hcm, by rw [h4, hcs], ?_⟩⟩, ?_⟩, ⟨s1, s2, s3, by rw [s4]; exact Nat.le_refl _, fun k' _ hk' => hfar k' (fun he => hk' (by rw [he]))⟩, fun j hj => ?_, fun j _ => blk_frozen hh _⟩
  · rw [← htake, h5, ← hn, List.append_assoc, List.take_append_of_le_length (by rw [List.length_take, Array.length_toList, hcs]; omega), List.take_take, Nat.min_self]
  · exact hr.imp_ (fun p q hp => d.M_move (fun k' hk' => hfar k' (fun he => hk'.2 (by rw [he]; rfl))) hp)
  · rw [cell_of_row W g _ cur e (0, 0) hh]
    simp [hcs]
    omega
theorem run_clear1 {P : Program} (w : World) (t e ty : TypeId) (z : Value) (zs : List Value) (ht : P.underlying t = some (.slice e)) (hv : ∀ w, (zeroValue e).run P w = .ok z w) (hz : (Builtin.zeroCells z.cells 1).toList = zs) (h1 : ∀ u ∈ zs, u.oneCell' = true) (b o c : Nat)
    (hc : ∀ j, j < zs.length → (w.cell? ⟨b, o + j, none⟩).isSome = true) (hf : ∀ j, j < zs.length → w.frozen? ⟨b, o + j, none⟩ = false) :
    (Builtin.clear_ #[t] ty #[.slice (some ⟨b, o, none⟩) 1 c]).run P w = .ok (.tuple #[]) (w.setCells b o zs) := by
  have hst := run_storeCells_cells (P := P) b o zs 0 w (by simpa using hc) (by simpa using hf) h1
  simp only [Nat.add_zero] at hst
  simp [Builtin.clear_, run_underlying ht, hv, hz, hst]
theorem wpList_clear {P : Program} {ops : Array Oper} {Q : Exit → Act → World → Prop} {a : Act} {W W' : World} {rest : List Oper} {o : Oper} (hgd : o.guard = none) (x : Operand) (t : TypeId) (ho : o.op = .call { callee := .builtin .clear, args := #[x], argTypes := #[t] }) {v : Value} (hx : a.eval x = v)
    (hr : (Builtin.clear_ #[t] o.type #[v]).run P W = .ok (.tuple #[]) W') (h : wpList P ops Q rest (a.put o.dst (.tuple #[])) W') : wpList P ops Q (o :: rest) a W := by
  refine wpList_plain hgd fun K hK => ?_
  unfold Oper.wp execOp
  simp only [ho, resolve, invoke, builtin, Sem.run_bind, Sem.run_pure, Result.andThen_ok, List.map_toArray, List.map_cons, List.map_nil, hx, hr]
  exact hK _ _ h
theorem add0 (g k : Nat) : (⟨g, 0, none⟩ : Addr).add k = ⟨g, k, none⟩ := by unfold Addr.add; split <;> simp_all
theorem cut_mid' {P : Program} (t e : TypeId) (kl kh : IntKind) {i : TypeInfo} (ht : P.underlying t = some (.slice e)) (hi : P.info? e = some i) (size : Nat) (hsz : i.size = size) (A : Option Addr) (n c : Nat) (lo hi' : Int) (h0 : 0 ≤ lo) (h1 : lo ≤ hi') (h2 : hi' ≤ c) :
    ∀ W : World, (Instr.slice t (.slice A n c) (some (.int kl lo)) (some (.int kh hi')) none).run P W = .ok (.slice (if c = lo.toNat then A else A.map (·.add (lo.toNat * size))) (hi'.toNat - lo.toNat) (c - lo.toNat)) W := by
  intro W
  have hel : P.elem t = e := by simp [Program.elem, ht]
  have hu : P.underlying t = some (.slice (P.elem t)) := by rw [hel]; exact ht
  rw [run_slice_lh W t A n c hu kl kh lo hi' h0 h1 (by omega), hel]
  simp [sizeOf, typeInfo, hi, hsz, sliced, Result.andThen]
theorem wpList_of_step {P : Program} {ops : Array Oper} {Q : Exit → Act → World → Prop} {a : Act} {W : World} {rest : List Oper} {o : Oper} (hw : Region.wanted o (yielded ops a.tmps) = true)
    (h : if Region.wanted o (yielded ops a.tmps) = true then Oper.wp P o a W (wpList P ops Q rest) Q else wpList P ops Q rest (a.put o.dst undef) W) : wpList P ops Q (o :: rest) a W := by
  rw [if_pos hw] at h
  show if _ then _ else _
  rw [if_pos hw]
  exact .inl h
end Go.Proofs.Ytjebpaapkmbahaa.Ar

/- The walks of slices.Clone over rows of attributes and of trees. A tree in memory of which one node's rows are put aside for others that read alike: it reads as it did. The walk of tree.Copy: the copy reads as the tree. -/
import Derived.Test.YteglfgmgpbablaaDoorCmpFoot
import Derived.WalkSpells
import Derived.Lib.SliceRun
import Derived.Test.YteglfgmgpbablaaDoorCmpPure
import Derived.Test.YteglfgmgpbablaaDoorCmpStkT
import Derived.Test.YteglfgmgpbablaaDoorCmpUnderT
import Derived.Deep.LoopGhost
namespace Go.Proofs.YteglfgmgpbablaaDoor.Cmp
open Go.RowKit Go.Proofs.YteglfgmgpbablaaDoor.PCompareTells Go.Proofs.YteglfgmgpbablaaDoorW.PrintWords Go.Proofs.YteglfgmgpbablaaDoorW.PrintLast
set_option maxHeartbeats 4000000 in
set_option maxRecDepth 100000 in
theorem cloneA (A : Option Addr) (c : Nat) (xs : List S47) (w : World) (hC : k47.C w A xs.length xs) (hn : xs.length ≤ 100000000) :
    Calls Tryd.prog 42 #[.slice A xs.length c] w fun e w' => ∃ v, e = .returned v ∧ k47.R 47 w' w.heap.size (fun _ => True) v xs ∧ Below w.heap.size w w' := by
  have HC := hide hC
  cases A with
  | none =>
    have h0 : xs.length = 0 := by
      by_cases h : 0 < xs.length
      · obtain ⟨ad, he, _⟩ := hC.2.2 h
        cases he
      · omega
    have hx : xs = [] := List.eq_nil_of_length_eq_zero h0
    subst hx
    clear hC h0
    rw [List.length_nil]
    have hq := fun (W : World) => Lib.run_eql_slice_nil (P := Tryd.prog) W 23 47 none 0 c 0 0 Tryd.underlying23
    go_enter Tryd.func42, Tryd.ntmps42
    go_wp2_with fail
    go_ret
    exact ⟨_, rfl, Kd.R_nil _ _ _ _ _, Below.refl _ _⟩
  | some ad =>
    clear hC
    have hq := fun (W : World) => Lib.run_eql_slice_nil (P := Tryd.prog) W 23 47 (some ad) xs.length c 0 0 Tryd.underlying23
    go_enter Tryd.func42, Tryd.ntmps42
    go_wp2_with (at_builtin; refine Kd.R_append_rows k47 (Rr := k47.K (w.alloc (.cells #[] 47))) (w0 := w) w.heap.size rfl (.tmp 5) (.tmp 6) 23 47 (.agg #[.string ⟨#[]⟩, .string ⟨#[]⟩]) 32 rfl Tryd.underlying23 (by kernel_rfl) rfl (by decide) (by decide) _ [] xs (some ad) xs.length c (fun _ => True) (fun _ => False) rfl rfl ?h0 (Kd.C_alloc HC.out _) ?h1 (fun k hk => hk.elim) (fun _ _ => trivial) (below_alloc (Below.refl _ _) _) (by simp) (by simp; omega) ?_; (case h0 => exact ⟨fun _ _ => trivial, [], by have := World.ownsRow_lit (base := w.heap.size) (e := 47) (size := 2) w #[] 0 (Nat.le_refl _) (by simp) rfl; exact this, Reps.none _ _⟩); (case h1 => intro x cs hx; rw [k47_open hx]; exact k47_mkM _ _ _ _); intro v1 w1 ho hb hg hown; have HO := hide ho; have HB := hide hb; clear ho hb hg hown)
    go_ret
    exact ⟨_, rfl, by have := HO.out; rwa [List.nil_append] at this, HB.out⟩
set_option maxHeartbeats 4000000 in
set_option maxRecDepth 100000 in
theorem cloneK (A : Option Addr) (c : Nat) (xs : List Raw) (w : World) (hC : kRaw.C w A xs.length xs) (hn : xs.length ≤ 100000000) :
    Calls Tryd.prog 43 #[.slice A xs.length c] w fun e w' => ∃ v, e = .returned v ∧ kRaw.R 26 w' w.heap.size (fun _ => True) v xs ∧ Below w.heap.size w w' := by
  have HC := hide hC
  cases A with
  | none =>
    have h0 : xs.length = 0 := by
      by_cases h : 0 < xs.length
      · obtain ⟨ad, he, _⟩ := hC.2.2 h
        cases he
      · omega
    have hx : xs = [] := List.eq_nil_of_length_eq_zero h0
    subst hx
    clear hC h0
    rw [List.length_nil]
    have hq := fun (W : World) => Lib.run_eql_slice_nil (P := Tryd.prog) W 24 26 none 0 c 0 0 Tryd.underlying24
    go_enter Tryd.func43, Tryd.ntmps43
    go_wp2_with fail
    go_ret
    exact ⟨_, rfl, Kd.R_nil _ _ _ _ _, Below.refl _ _⟩
  | some ad =>
    clear hC
    have hq := fun (W : World) => Lib.run_eql_slice_nil (P := Tryd.prog) W 24 26 (some ad) xs.length c 0 0 Tryd.underlying24
    go_enter Tryd.func43, Tryd.ntmps43
    go_wp2_with (at_builtin; refine Kd.R_append_rows kRaw (Rr := kRaw.K w) (w0 := w) w.heap.size rfl (.tmp 5) (.tmp 6) 24 26 (.agg #[.int .i64 0, .int .i64 0, .string ⟨#[]⟩, .slice none 0 0, .string ⟨#[]⟩, .slice none 0 0]) 96 rfl Tryd.underlying24 info26 rfl (by decide) (by decide) _ [] xs (some ad) xs.length c (fun _ => True) (fun _ => False) rfl rfl (lit0R w _ (Nat.le_refl _)) (Kd.C_alloc HC.out _) (fun _ _ h => kRaw_KM h) (fun k hk => hk.elim) (fun _ _ => trivial) (below_alloc (Below.refl _ _) _) (by simp) (by simp; omega) ?_; intro v1 w1 ho hb hg hown; have HO := hide ho; have HB := hide hb; clear ho hb hg hown)
    go_ret
    exact ⟨_, rfl, by have := HO.out; rwa [List.nil_append] at this, HB.out⟩
end Go.Proofs.YteglfgmgpbablaaDoor.Cmp
namespace Go.Proofs.YteglfgmgpbablaaDoor.Cmp
open Go.RowKit Go.Proofs.YteglfgmgpbablaaDoor.PCompareTells Go.Proofs.YteglfgmgpbablaaDoorW.PrintWords Go.Proofs.YteglfgmgpbablaaDoorW.PrintLast
theorem cell_plain {w : World} {a : Addr} {u : Value} (h : w.cell? a = some u) : a = ⟨a.block, a.off, none⟩ := by
  obtain ⟨b, o, sp⟩ := a
  cases sp with
  | none => rfl
  | some s =>
    unfold World.cell? at h
    dsimp only at h
    split at h
    · simp at h
    · cases h
theorem cell_blk {w w' : World} {a : Addr} {u : Value} (h : w.cell? a = some u) (hb : w'.heap[a.block]? = w.heap[a.block]?) : w'.cell? a = some u := by
  unfold World.cell? at h ⊢
  rw [hb]
  exact h
theorem TAt.plain {w : World} {a : Addr} {t : S26} (h : TAt w a t) : a = ⟨a.block, a.off, none⟩ := by
  obtain ⟨_, _, _, _, h0, _⟩ := h
  exact cell_plain h0
theorem addr_step (ad : Addr) (k i : Nat) (hi : 0 < i) : (⟨(ad.add k).block, (ad.add k).off + i, none⟩ : Addr) = ad.add (k + i) := by
  unfold Addr.add
  by_cases h : k = 0
  · subst h
    rw [if_pos rfl, if_neg (by omega), Nat.zero_add]
  · rw [if_neg h, if_neg (by omega)]
    simp [Nat.add_assoc]
theorem C_of_TAt {w : World} {ad : Addr} {xs : List S26} (hn : xs.length ≤ 9223372036854775807) (h : ∀ j y, xs[j]? = some y → TAt w (ad.add (j * 6)) y) : k26.C w (some ad) xs.length xs := by
  refine ⟨rfl, hn, fun _ => ⟨ad, rfl, fun j y hy => ?_⟩⟩
  obtain ⟨A3, c3, A5, c5, h0, h1, h2, h3, h4, h5, l3, g3, l5, g5⟩ := h j y hy
  rw [addr_step ad (j * 6) 1 (by omega)] at h1
  rw [addr_step ad (j * 6) 2 (by omega)] at h2
  rw [addr_step ad (j * 6) 3 (by omega)] at h3
  rw [addr_step ad (j * 6) 4 (by omega)] at h4
  rw [addr_step ad (j * 6) 5 (by omega)] at h5
  refine ⟨_, rfl, k26_mk w y l3 g3 l5 g5, fun i u hu => ?_⟩
  match i, hu with
  | 0, hu => cases hu; exact h0
  | 1, hu => cases hu; exact h1
  | 2, hu => cases hu; exact h2
  | 3, hu => cases hu; exact h3
  | 4, hu => cases hu; exact h4
  | 5, hu => cases hu; exact h5
theorem kid_TAt {w : World} {ad : Addr} {xs : List S26} {n : Nat} (h : k26.C w (some ad) n xs) (j : Nat) (y : S26) (hy : xs[j]? = some y) : TAt w (ad.add (j * 6)) y := by
  have hj : j < xs.length := (List.getElem?_eq_some_iff.1 hy).1
  have hn := h.1
  subst hn
  obtain ⟨ad', e, hk⟩ := TAt_kid h j hj
  cases e
  have e2 : rd_T26 xs (j : Int) = y := by
    unfold rd_T26
    rw [Int.toNat_natCast, List.getD_eq_getElem?_getD, hy]
    rfl
  rwa [e2] at hk
theorem k47_det {w : World} {A : Option Addr} {n : Nat} {xs ys : List S47} (h : k47.C w A n xs) (h2 : k47.C w A n ys) : xs = ys := by
  refine List.ext_getElem? (fun j => ?_)
  by_cases hj : j < n
  · obtain ⟨ad, hA, hc⟩ := h.2.2 (by omega)
    obtain ⟨ad2, hA2, hc2⟩ := h2.2.2 (by omega)
    rw [hA] at hA2
    cases hA2
    obtain ⟨p, e1⟩ : ∃ p, xs[j]? = some p := ⟨_, List.getElem?_eq_getElem (by rw [h.1]; exact hj)⟩
    obtain ⟨q, e2⟩ : ∃ q, ys[j]? = some q := ⟨_, List.getElem?_eq_getElem (by rw [h2.1]; exact hj)⟩
    obtain ⟨c, _, hK, hcell⟩ := hc j _ e1
    obtain ⟨c2, _, hK2, hcell2⟩ := hc2 j _ e2
    obtain rfl := k47_open hK
    obtain rfl := k47_open hK2
    have a0 := hcell 0 _ rfl
    have b0 := hcell2 0 _ rfl
    have a1 := hcell 1 _ rfl
    have b1 := hcell2 1 _ rfl
    rw [a0] at b0
    rw [a1] at b1
    simp only [Option.some.injEq, Value.string.injEq] at b0 b1
    rw [e1, e2]
    obtain ⟨p0, p1⟩ := p
    obtain ⟨q0, q1⟩ := q
    dsimp only at b0 b1
    rw [b0, b1]
  · rw [List.getElem?_eq_none (by rw [h.1]; omega), List.getElem?_eq_none (by rw [h2.1]; omega)]
/-- The rows of the node at ⟨b, o⟩ are put aside for others. -/
structure Swap (w w' : World) (b o : Nat) (x : S26) (A5 B3 B5 : Option Addr) (d3 d5 : Nat) : Prop where
  here : ∃ (A3 : Option Addr) (c3 c5 : Nat), w.cell? ⟨b, o, none⟩ = some (.int .i64 x.f0) ∧ w.cell? ⟨b, o + 1, none⟩ = some (.int .i64 x.f1) ∧ w.cell? ⟨b, o + 2, none⟩ = some (.string x.f2) ∧ w.cell? ⟨b, o + 3, none⟩ = some (.slice A3 x.f3.length c3) ∧ w.cell? ⟨b, o + 4, none⟩ = some (.string x.f4) ∧ w.cell? ⟨b, o + 5, none⟩ = some (.slice A5 x.f5.length c5) ∧ k47.C w A3 x.f3.length x.f3
  far : ∀ a u, w.cell? a = some u → a.block ≠ b → w'.cell? a = some u
  near : ∀ q u, w.cell? ⟨b, q, none⟩ = some u → q ≠ o + 3 → q ≠ o + 5 → w'.cell? ⟨b, q, none⟩ = some u
  at3 : w'.cell? ⟨b, o + 3, none⟩ = some (.slice B3 x.f3.length d3)
  at5 : w'.cell? ⟨b, o + 5, none⟩ = some (.slice B5 x.f5.length d5)
  l3 : x.f3.length ≤ d3
  l5 : x.f5.length ≤ d5
  row3 : k47.C w' B3 x.f3.length x.f3
  copy : ∀ a5, A5 = some a5 → 0 < x.f5.length → ∃ b5, B5 = some b5 ∧ ∀ k u, k < x.f5.length * 6 → w.cell? (a5.add k) = some u → w'.cell? (b5.add k) = some u
namespace Swap
variable {w w' : World} {b o : Nat} {x : S26} {A5 B3 B5 : Option Addr} {d3 d5 : Nat}
theorem flat (h : Swap w w' b o x A5 B3 B5 d3 d5) {a : Addr} {u : Value} (hc : w.cell? a = some u) (hu : ∀ A n c, u ≠ .slice A n c) : w'.cell? a = some u := by
  by_cases hb : a.block = b
  · have e := cell_plain hc
    rw [e, hb] at hc ⊢
    obtain ⟨A3, c3, c5, _, _, _, h3, _, h5, _⟩ := h.here
    refine h.near _ _ hc (fun e3 => ?_) (fun e5 => ?_)
    · rw [e3, h3] at hc
      cases hc
      exact hu _ _ _ rfl
    · rw [e5, h5] at hc
      cases hc
      exact hu _ _ _ rfl
  · exact h.far a u hc hb
theorem attrs (h : Swap w w' b o x A5 B3 B5 d3 d5) {A : Option Addr} {n : Nat} {l : List S47} (hc : k47.C w A n l) : k47.C w' A n l := by
  refine ⟨hc.1, hc.2.1, fun hp => ?_⟩
  obtain ⟨ad, hA, hel⟩ := hc.2.2 hp
  refine ⟨ad, hA, fun j p hj => ?_⟩
  obtain ⟨c, hl, hK, hcell⟩ := hel j p hj
  have hK' := k47_open hK
  refine ⟨c, hl, by rw [hK']; rw [hK'] at hK; exact hK, fun i u hu => ?_⟩
  refine h.flat (hcell i u hu) (fun A n c' e => ?_)
  rw [hK'] at hu
  match i, hu with
  | 0, hu => rw [e] at hu; cases hu
  | 1, hu => rw [e] at hu; cases hu
theorem tree (h : Swap w w' b o x A5 B3 B5 d3 d5) : ∀ (n : Nat) (q : Addr) (y : S26), W y ≤ n → TAt w q y → TAt w' q y
  | 0, q, y, hn, _ => by have := W_eq y; omega
  | n + 1, q, y, hn, ht => by
    have hpl := ht.plain
    obtain ⟨E3, e3, E5, e5, h0, h1, h2, h3, h4, h5, l3, g3, l5, g5⟩ := ht
    have hW := W_eq y
    have kids : ∀ (E : Option Addr) (zs : List S26), WK zs ≤ n → k26.C w E zs.length zs → k26.C w' E zs.length zs := by
      intro E zs hz hc
      by_cases hp : 0 < zs.length
      · obtain ⟨ad, hA, _⟩ := hc.2.2 hp
        subst hA
        refine C_of_TAt hc.2.1 (fun j z hj => tree h n _ z ?_ (kid_TAt hc j z hj))
        have hjl : j < zs.length := (List.getElem?_eq_some_iff.1 hj).1
        have h9 := WK_at zs j hjl
        have e2 : rd_T26 zs (j : Int) = z := by
          unfold rd_T26
          rw [Int.toNat_natCast, List.getD_eq_getElem?_getD, hj]
          rfl
        rw [e2] at h9
        omega
      · exact ⟨rfl, hc.2.1, fun h' => absurd h' hp⟩
    have hk5 := kids E5 y.f5 (by omega) g5
    rw [hpl] at h0 ⊢
    obtain ⟨qb, qo, qs⟩ := q
    dsimp only at h0 h1 h2 h3 h4 h5 ⊢
    by_cases hq : qb = b ∧ qo = o
    · obtain ⟨rfl, rfl⟩ := hq
      obtain ⟨A3, c3, c5, i0, i1, i2, i3, i4, i5, j3⟩ := h.here
      rw [h3] at i3
      rw [h5] at i5
      simp only [Option.some.injEq, Value.slice.injEq] at i3 i5
      obtain ⟨rfl, en3, rfl⟩ := i3
      obtain ⟨rfl, en5, rfl⟩ := i5
      have e3' : y.f3 = x.f3 := k47_det g3 (by rw [en3]; exact j3)
      refine ⟨B3, d3, B5, d5, h.flat h0 (by simp), h.flat h1 (by simp), h.flat h2 (by simp), by rw [en3]; exact h.at3, h.flat h4 (by simp), by rw [en5]; exact h.at5, by rw [en3]; exact h.l3, by rw [e3']; exact h.row3, by rw [en5]; exact h.l5, ?_⟩
      by_cases hp : 0 < y.f5.length
      · obtain ⟨a5, hA, _⟩ := g5.2.2 hp
        obtain ⟨b5, hB, hcp⟩ := h.copy a5 hA (by omega)
        subst hA
        subst hB
        refine C_of_TAt g5.2.1 (fun j z hj => ?_)
        have hjl : j < y.f5.length := (List.getElem?_eq_some_iff.1 hj).1
        obtain ⟨F3, f3, F5, f5, k0, k1, k2, k3, k4, k5, m3, u3, m5, u5⟩ := kid_TAt g5 j z hj
        rw [addr_step a5 (j * 6) 1 (by omega)] at k1
        rw [addr_step a5 (j * 6) 2 (by omega)] at k2
        rw [addr_step a5 (j * 6) 3 (by omega)] at k3
        rw [addr_step a5 (j * 6) 4 (by omega)] at k4
        rw [addr_step a5 (j * 6) 5 (by omega)] at k5
        have hWz : WK z.f5 ≤ n := by
          have h9 := WK_at y.f5 j hjl
          have e2 : rd_T26 y.f5 (j : Int) = z := by
            unfold rd_T26
            rw [Int.toNat_natCast, List.getD_eq_getElem?_getD, hj]
            rfl
          rw [e2] at h9
          have := W_eq z
          omega
        refine ⟨F3, f3, F5, f5, hcp _ _ (by omega) k0, ?_, ?_, ?_, ?_, ?_, m3, h.attrs u3, m5, kids F5 z.f5 hWz u5⟩
        · rw [addr_step b5 (j * 6) 1 (by omega)]; exact hcp _ _ (by omega) k1
        · rw [addr_step b5 (j * 6) 2 (by omega)]; exact hcp _ _ (by omega) k2
        · rw [addr_step b5 (j * 6) 3 (by omega)]; exact hcp _ _ (by omega) k3
        · rw [addr_step b5 (j * 6) 4 (by omega)]; exact hcp _ _ (by omega) k4
        · rw [addr_step b5 (j * 6) 5 (by omega)]; exact hcp _ _ (by omega) k5
      · have h00 : y.f5 = [] := List.eq_nil_of_length_eq_zero (by omega)
        rw [h00]
        exact ⟨rfl, by simp, fun h' => absurd h' (by simp)⟩
    · have slot : ∀ (i : Nat) (u : Value), w.cell? ⟨qb, qo + i, none⟩ = some u → (i = 3 ∨ i = 5) → w'.cell? ⟨qb, qo + i, none⟩ = some u := by
        intro i u hc hi
        by_cases hb : qb = b
        · subst hb
          obtain ⟨A3, c3, c5, i0, i1, i2, i3, i4, i5, _⟩ := h.here
          refine h.near _ _ hc (fun e => ?_) (fun e => ?_)
          · rcases hi with rfl | rfl
            · exact hq ⟨rfl, by omega⟩
            · have e' : qo + 2 = o := by omega
              rw [e', i0] at h2
              cases h2
          · rcases hi with rfl | rfl
            · have e' : o + 2 = qo := by omega
              rw [← e', i2] at h0
              cases h0
            · exact hq ⟨rfl, by omega⟩
        · exact h.far _ _ hc hb
      exact ⟨E3, e3, E5, e5, h.flat h0 (by simp), h.flat h1 (by simp), h.flat h2 (by simp), slot 3 _ h3 (.inl rfl), h.flat h4 (by simp), slot 5 _ h5 (.inr rfl), l3, h.attrs g3, l5, hk5⟩
end Swap
/-- The blocks that a tree of the call's own may lie in: what came in, and rows of trees and of attributes but the one Z. -/
def okT (ok : Nat → Prop) (N Z : Nat) (w : World) (k : Nat) : Prop := (ok k ∧ k < N) ∨ (N ≤ k ∧ k ≠ Z ∧ ∃ cs t, w.heap[k]? = some (.cells cs t (0, 0)) ∧ (t = 26 ∨ t = 47))
theorem okT_step {ok : Nat → Prop} {N Z : Nat} {w w' : World} {P : World → Prop} (h : Foot P w (okT ok N Z w)) (hs : ∀ k, okT ok N Z w k → k < w.heap.size → w'.heap[k]? = w.heap[k]?) : Foot P w' (okT ok N Z w') :=
  (h.step hs).mono (fun k hk => by
    rcases hk with hk | ⟨h1, h2, cs, t, hb, ht⟩
    · exact .inl hk
    · exact .inr ⟨h1, h2, cs, t, (hs k (.inr ⟨h1, h2, cs, t, hb, ht⟩) (blk_lt hb)).trans hb, ht⟩)
/-- A node of one's own at a place. -/
structure Own (ok : Nat → Prop) (N Z : Nat) (w : World) (p : Option Addr) (x : S26) (b o : Nat) : Prop where
  ptr : p = some ⟨b, o, none⟩
  blk : ∃ cs, w.heap[b]? = some (.cells cs 26 (0, 0))
  new : N ≤ b ∧ b ≠ Z
  foot : Foot (fun W => TAt W ⟨b, o, none⟩ x) w (okT ok N Z w)
theorem Own.step {ok : Nat → Prop} {N Z : Nat} {w w' : World} {p : Option Addr} {x : S26} {b o : Nat} (h : Own ok N Z w p x b o) (hs : ∀ k, okT ok N Z w k → k < w.heap.size → w'.heap[k]? = w.heap[k]?) : Own ok N Z w' p x b o := by
  obtain ⟨h1, ⟨cs, h2⟩, h3, h4⟩ := h
  exact ⟨h1, ⟨cs, (hs b (.inr ⟨h3.1, h3.2, cs, 26, h2, .inl rfl⟩) (blk_lt h2)).trans h2⟩, h3, okT_step h4 hs⟩
/-- A block as it was before. -/
theorem reverted (W' : World) (b : Nat) (o : Obj) (hlt : b < W'.heap.size) : ∃ W : World, W.heap[b]? = some o ∧ ∀ k, k ≠ b → W.heap[k]? = W'.heap[k]? := by
  refine ⟨{ W' with heap := W'.heap.setIfInBounds b o }, by simp [hlt], fun k hk => by simp [Ne.symm hk]⟩
theorem swap_foot {ok : Nat → Prop} {N Z : Nat} {w w' : World} {p : Option Addr} {x : S26} {b o : Nat} (hp : Own ok N Z w p x b o) {cs : Array Value} (hcs : w.heap[b]? = some (.cells cs 26 (0, 0))) {B3 B5 : Option Addr} {d3 d5 : Nat}
    (hb : w'.heap[b]? = some (.cells ((cs.setIfInBounds (o + 3) (.slice B3 x.f3.length d3)).setIfInBounds (o + 5) (.slice B5 x.f5.length d5)) 26 (0, 0)))
    (hk : ∀ k, okT ok N Z w k → k < w.heap.size → k ≠ b → w'.heap[k]? = w.heap[k]?)
    (l3 : x.f3.length ≤ d3) (l5 : x.f5.length ≤ d5) (r3 : Kd.F k47 w' (okT ok N Z w') B3 x.f3.length x.f3) {rs : List Raw} {A5 : Option Addr} {c5 : Nat} (ha5 : w.cell? ⟨b, o + 5, none⟩ = some (.slice A5 x.f5.length c5)) (a5 : kRaw.C w A5 rs.length rs) (r5 : Kd.F kRaw w' (okT ok N Z w') B5 rs.length rs) (hrl : rs.length = x.f5.length) :
    ∀ (q : Addr) (y : S26), Foot (fun W => TAt W q y) w (okT ok N Z w) → Foot (fun W => TAt W q y) w' (okT ok N Z w') := by
  intro q y hq W' hW'
  have hok' : ∀ k, okT ok N Z w k → okT ok N Z w' k := fun k hk' => by
    rcases hk' with h | ⟨h1, h2, cs', t, hh, ht⟩
    · exact .inl h
    · by_cases e : k = b
      · subst e
        exact .inr ⟨h1, h2, _, 26, hb, .inl rfl⟩
      · exact .inr ⟨h1, h2, cs', t, (hk k (.inr ⟨h1, h2, cs', t, hh, ht⟩) (blk_lt hh) e).trans hh, ht⟩
  have hokb : okT ok N Z w b := .inr ⟨hp.new.1, hp.new.2, cs, 26, hcs, .inl rfl⟩
  have hbW' := hW' b (hok' b hokb) (blk_lt hb)
  rw [hb] at hbW'
  obtain ⟨V, hWb, hWk⟩ := reverted W' b (.cells cs 26 (0, 0)) (blk_lt hbW')
  have hsz : ∀ k, okT ok N Z w k → k < w.heap.size → k ≠ b → k < w'.heap.size := fun k h1 h2 h3 => by
    have h4 := hk k h1 h2 h3
    rw [Array.getElem?_eq_getElem h2] at h4
    exact (Array.getElem?_eq_some_iff.1 h4).1
  have hag : ∀ k, okT ok N Z w k → k < w.heap.size → V.heap[k]? = w.heap[k]? := fun k h1 h2 => by
    by_cases e : k = b
    · subst e
      rw [hWb, hcs]
    · rw [hWk k e, hW' k (hok' k h1) (hsz k h1 h2 e), hk k h1 h2 e]
  have tq := hq V hag
  have tp := hp.foot V hag
  have u3 := r3 W' hW'
  have u5 := r5 W' hW'
  obtain ⟨A3, c3, A5', c5', i0, i1, i2, i3, i4, i5, j3, v3, j5, v5⟩ := tp
  dsimp only at i0 i1 i2 i3 i4 i5
  have hcell : ∀ q, V.cell? ⟨b, q, none⟩ = w.cell? ⟨b, q, none⟩ := fun q => by
    unfold World.cell?
    rw [hWb, hcs]
  rw [hcell, ha5] at i5
  simp only [Option.some.injEq, Value.slice.injEq] at i5
  obtain ⟨rfl, _, rfl⟩ := i5
  have ho5 : o + 5 < cs.size := by
    have h9 := ha5
    unfold World.cell? at h9
    rw [hcs] at h9
    simp at h9
    exact (Array.getElem?_eq_some_iff.1 h9).1
  have hS : Swap V W' b o x A5 B3 B5 d3 d5 := by
    refine ⟨⟨A3, c3, c5, i0, i1, i2, i3, i4, by rw [hcell]; exact ha5, v3⟩, fun a u hc hn => cell_blk hc (hWk _ hn).symm, fun q u hc h3 h5 => ?_, ?_, ?_, l3, l5, u3, fun a5' hA hp0 => ?_⟩
    · unfold World.cell? at hc ⊢
      rw [hWb] at hc
      rw [hbW']
      simp at hc ⊢
      rw [Array.getElem?_setIfInBounds_ne (by omega), Array.getElem?_setIfInBounds_ne (by omega)]
      exact hc
    · unfold World.cell?
      rw [hbW']
      simp only [Option.isSome_none, Bool.false_eq_true, if_false]
      rw [Array.getElem?_setIfInBounds_ne (by omega), Array.getElem?_setIfInBounds_self_of_lt (by omega)]
    · unfold World.cell?
      rw [hbW']
      simp only [Option.isSome_none, Bool.false_eq_true, if_false]
      rw [Array.getElem?_setIfInBounds_self_of_lt (by rw [Array.size_setIfInBounds]; omega)]
    · subst hA
      obtain ⟨b5, hB, hcp⟩ := u5.2.2 (by omega)
      obtain ⟨_, e5, hca⟩ := a5.2.2 (by omega)
      cases e5
      refine ⟨b5, hB, fun k u hk' hc => ?_⟩
      obtain ⟨r, hr⟩ : ∃ r, rs[k / 6]? = some r := ⟨_, List.getElem?_eq_getElem (by omega)⟩
      obtain ⟨c, hl, hK, hcc⟩ := hcp _ r hr
      obtain rfl := kRaw_K hK
      obtain ⟨c2, hl2, hK2, hcc2⟩ := hca _ r hr
      obtain rfl := kRaw_K hK2
      have hkk : k / 6 * kRaw.sz + k % 6 = k := by show k / 6 * 6 + k % 6 = k; omega
      obtain ⟨u', hu'⟩ : ∃ u', (cl r)[k % 6]? = some u' := ⟨_, List.getElem?_eq_getElem (by show k % 6 < 6; omega)⟩
      have g1 := hcc _ _ hu'
      have g2 := hcc2 _ _ hu'
      rw [hkk] at g1 g2
      rw [g1]
      have hF : Kd.F k26 w (okT ok N Z w) (some a5') x.f5.length x.f5 := fun V2 h2 => by
        obtain ⟨_, _, E5, e5, _, _, _, _, _, k5, _, _, _, v5'⟩ := hp.foot V2 h2
        dsimp only at k5
        have hbb := h2 b hokb (blk_lt hcs)
        have := cell_blk (w' := w) k5 hbb.symm
        rw [ha5] at this
        cases this
        exact v5'
      have hin := Kd.F_in hF rfl hp0 (by show 0 < 6; omega)
      have hlt := Kd.C_lt (Kd.F_now hF) hp0 (by show 0 < 6; omega)
      have hbk : (a5'.add k).block = a5'.block := by unfold Addr.add; split <;> rfl
      have hcc3 := cell_blk (w' := w) hc (by rw [hbk]; exact (hag _ hin hlt).symm)
      rw [g2] at hcc3
      exact hcc3
  exact hS.tree (W y) q y (Nat.le_refl _) tq
end Go.Proofs.YteglfgmgpbablaaDoor.Cmp
namespace Go.Proofs.YteglfgmgpbablaaDoor.Cmp
open Go.RowKit Go.Proofs.YteglfgmgpbablaaDoor.PCompareTells Go.Proofs.YteglfgmgpbablaaDoorW.PrintWords Go.Proofs.YteglfgmgpbablaaDoorW.PrintLast
inductive Owns (ok : Nat → Prop) (N Z : Nat) (w : World) : List (Option Addr) → List S26 → Prop
  | nil : Owns ok N Z w [] []
  | snoc {ps : List (Option Addr)} {ts : List S26} {p : Option Addr} {x : S26} {b o : Nat} (h : Owns ok N Z w ps ts) (hp : Own ok N Z w p x b o) : Owns ok N Z w (ps ++ [p]) (ts ++ [x])
/-- Blocks of trees stay. -/
def KeepT (ok : Nat → Prop) (N Z : Nat) (w w' : World) : Prop := w.heap.size ≤ w'.heap.size ∧ (∀ k, okT ok N Z w k → k < w.heap.size → w'.heap[k]? = w.heap[k]?) ∧ w'.heap[Z]? = w.heap[Z]?
theorem KeepT.refl (ok : Nat → Prop) (N Z : Nat) (w : World) : KeepT ok N Z w w := ⟨Nat.le_refl _, fun _ _ _ => rfl, rfl⟩
theorem KeepT.ok {ok : Nat → Prop} {N Z : Nat} {w w' : World} (h : KeepT ok N Z w w') {k : Nat} (hk : okT ok N Z w k) : okT ok N Z w' k := by
  rcases hk with hk | ⟨h1, h2, cs, t, hb, ht⟩
  · exact .inl hk
  · exact .inr ⟨h1, h2, cs, t, (h.2.1 k (.inr ⟨h1, h2, cs, t, hb, ht⟩) (blk_lt hb)).trans hb, ht⟩
theorem KeepT.trans {ok : Nat → Prop} {N Z : Nat} {w w1 w2 : World} (h : KeepT ok N Z w w1) (h2 : KeepT ok N Z w1 w2) : KeepT ok N Z w w2 :=
  ⟨Nat.le_trans h.1 h2.1, fun k hk hlt => (h2.2.1 k (h.ok hk) (Nat.lt_of_lt_of_le hlt h.1)).trans (h.2.1 k hk hlt), h2.2.2.trans h.2.2⟩
theorem KeepT.below {ok : Nat → Prop} {N Z : Nat} {w w' : World} (h : Below w.heap.size w w') (hZ : Z < w.heap.size) : KeepT ok N Z w w' := ⟨h.size, fun k _ hk => h.block k hk, h.block Z hZ⟩
theorem Owns.step {ok : Nat → Prop} {N Z : Nat} {w w' : World} {ps : List (Option Addr)} {ts : List S26} (h : Owns ok N Z w ps ts) (hs : KeepT ok N Z w w') : Owns ok N Z w' ps ts := by
  induction h with
  | nil => exact .nil
  | snoc _ hp ih => exact .snoc ih (hp.step hs.2.1)
theorem Owns.len {ok : Nat → Prop} {N Z : Nat} {w : World} {ps : List (Option Addr)} {ts : List S26} (h : Owns ok N Z w ps ts) : ps.length = ts.length := by
  induction h with
  | nil => rfl
  | snoc _ _ ih => simp [ih]
theorem Owns.cases {ok : Nat → Prop} {N Z : Nat} {w : World} {ps : List (Option Addr)} {ts : List S26} (h : Owns ok N Z w ps ts) : (ps = [] ∧ ts = []) ∨ ∃ qs p us x b o, ps = qs ++ [p] ∧ ts = us ++ [x] ∧ Owns ok N Z w qs us ∧ Own ok N Z w p x b o := by
  cases h with
  | nil => exact .inl ⟨rfl, rfl⟩
  | snoc h hp => exact .inr ⟨_, _, _, _, _, _, rfl, rfl, h, hp⟩
/-- A push or a pop leaves the trees alone. -/
theorem keep_push {ok : Nat → Prop} {N Z : Nat} {s : Nat} {v v1 : Value} {ps : List (Option Addr)} {w w' : World} (h : StkPt N s v ps w) (hp : Push_ w w' s v v1) {zc : Array Value} (hz : w.heap[Z]? = some (.cells zc 26 (0, 0))) : KeepT ok N Z w w' := by
  have ty : ∀ (k : Nat) (cs : Array Value) (t : TypeId), w.heap[k]? = some (Obj.cells cs t (0, 0)) → (t = 26 ∨ t = 47) → w'.heap[k]? = w.heap[k]? := fun k cs t hk ht => by
    refine hp.keep.2 k (blk_lt hk) (fun e => ?_) (fun e => ?_)
    · subst e
      rw [h.stk] at hk
      simp only [Option.some.injEq, Obj.cells.injEq] at hk
      obtain ⟨_, h9, _⟩ := hk
      subst h9
      rcases ht with h | h <;> cases h
    · obtain ⟨cs', hc'⟩ := Kd.R_typed h.row k e.symm
      rw [hc'] at hk
      simp only [Option.some.injEq, Obj.cells.injEq] at hk
      obtain ⟨_, h9, _⟩ := hk
      subst h9
      rcases ht with h | h <;> cases h
  refine ⟨hp.keep.1, fun k hk hlt => ?_, ty Z zc 26 hz (.inl rfl)⟩
  rcases hk with ⟨_, hk⟩ | ⟨h1, h2, cs, t, hb, ht⟩
  · refine hp.keep.2 k hlt (fun e => by have := h.bs; omega) (fun e => ?_)
    have := Kd.R_base h.row k e.symm
    omega
  · exact ty k cs t hb ht
theorem WK_one (x : S26) : WK [x] = 1 + W x := by simp only [WK, Nat.add_zero]
theorem WK_apd (us vs : List S26) : WK (us ++ vs) = WK us + WK vs := by
  induction us with
  | nil => rw [List.nil_append]; simp only [WK, Nat.zero_add]
  | cons y us ih => rw [List.cons_append, WK, WK, ih]; omega
theorem WK_snoc (us : List S26) (x : S26) : WK (us ++ [x]) = WK us + (1 + W x) := by rw [WK_apd, WK_one]
theorem ALK_apd (n : Nat) (us vs : List S26) : ALK n (us ++ vs) ↔ ALK n us ∧ ALK n vs := by
  induction us with
  | nil => rw [List.nil_append]; simp only [ALK, true_and]
  | cons y us ih => rw [List.cons_append, ALK, ALK, ih, and_assoc]
theorem ALK_one (n : Nat) (x : S26) : ALK n [x] ↔ AL n x := by simp only [ALK, and_true]
theorem WK_ge (us : List S26) : us.length ≤ WK us := by
  induction us with
  | nil => simp
  | cons y us ih => rw [List.length_cons, WK]; have := W_eq y; omega
/-- At the loop's head. -/
def CopyRel (ok : Nat → Prop) (w0 : World) (s M : Nat) (t : S26) (g : Nat) (wr : World) : Prop := ∃ (v : Value) (ps : List (Option Addr)) (ts : List S26), StkPt w0.heap.size s v ps wr ∧ Owns ok w0.heap.size (w0.heap.size + 1) wr ps ts ∧ WK ts = g ∧ g ≤ M ∧ ALK 100000000 ts ∧ Foot (fun V => TAt V ⟨w0.heap.size, 0, none⟩ t) wr (okT ok w0.heap.size (w0.heap.size + 1) wr) ∧ (∃ cs, wr.heap[w0.heap.size]? = some (.cells cs 26 (0, 0))) ∧ wr.heap[w0.heap.size + 1]? = some (.cells #[.int .i64 0, .int .i64 0, .string ⟨#[]⟩, .slice none 0 0, .string ⟨#[]⟩, .slice none 0 0] 26 (0, 0)) ∧ Below w0.heap.size w0 wr
/-- The kids' places. -/
def kidsP (g0 c : Nat) : List (Option Addr) := (List.range c).map (fun j => some ⟨g0, j * 6, none⟩)
theorem kidsP_succ (g0 c : Nat) : kidsP g0 (c + 1) = kidsP g0 c ++ [some ⟨g0, c * 6, none⟩] := by
  unfold kidsP
  rw [List.range_succ, List.map_append]
  rfl
theorem Own.swap {ok : Nat → Prop} {N Z : Nat} {w w' : World} {p : Option Addr} {x : S26} {b o : Nat} (h : Own ok N Z w p x b o) (hs : ∀ (q : Addr) (y : S26), Foot (fun V => TAt V q y) w (okT ok N Z w) → Foot (fun V => TAt V q y) w' (okT ok N Z w')) (ht : ∀ (k : Nat) (cs : Array Value), w.heap[k]? = some (Obj.cells cs 26 (0, 0)) → (N ≤ k ∧ k ≠ Z) → ∃ cs', w'.heap[k]? = some (Obj.cells cs' 26 (0, 0))) : Own ok N Z w' p x b o := by
  obtain ⟨h1, ⟨cs, h2⟩, h3, h4⟩ := h
  exact ⟨h1, ht b cs h2 h3, h3, hs _ _ h4⟩
theorem Owns.swap {ok : Nat → Prop} {N Z : Nat} {w w' : World} {ps : List (Option Addr)} {ts : List S26} (h : Owns ok N Z w ps ts) (hs : ∀ (q : Addr) (y : S26), Foot (fun V => TAt V q y) w (okT ok N Z w) → Foot (fun V => TAt V q y) w' (okT ok N Z w')) (ht : ∀ (k : Nat) (cs : Array Value), w.heap[k]? = some (Obj.cells cs 26 (0, 0)) → (N ≤ k ∧ k ≠ Z) → ∃ cs', w'.heap[k]? = some (Obj.cells cs' 26 (0, 0))) : Owns ok N Z w' ps ts := by
  induction h with
  | nil => exact .nil
  | snoc _ hp ih => exact .snoc ih (hp.swap hs ht)
theorem owns_kids {ok : Nat → Prop} {N Z : Nat} {w : World} {qs : List (Option Addr)} {us : List S26} (h : Owns ok N Z w qs us) (x : S26) (g0 : Nat) : ∀ c, c ≤ x.f5.length → (∀ j y, x.f5[j]? = some y → Own ok N Z w (some ⟨g0, j * 6, none⟩) y g0 (j * 6)) → Owns ok N Z w (qs ++ kidsP g0 c) (us ++ x.f5.take c)
  | 0, _, _ => by simpa [kidsP] using h
  | c + 1, hc, hk => by
    rw [kidsP_succ, List.take_succ_eq_append_getElem (by omega), ← List.append_assoc, ← List.append_assoc]
    exact .snoc (owns_kids h x g0 c (by omega) hk) (hk c _ (List.getElem?_eq_getElem (by omega)))
/-- Behind the two clones and the two stores. -/
def Rel6 (w1 : World) (b o : Nat) (x : S26) (rs : List Raw) (wx : World) : Prop := ∃ (wy : World) (B3 B5 : Option Addr) (d3 d5 : Nat), wx = (wy.setCell ⟨b, o + 3, none⟩ (.slice B3 x.f3.length d3)).setCell ⟨b, o + 5, none⟩ (.slice B5 x.f5.length d5) ∧ Below w1.heap.size w1 wy ∧ k47.R 47 wy w1.heap.size (fun _ => True) (.slice B3 x.f3.length d3) x.f3 ∧ kRaw.R 26 wy w1.heap.size (fun _ => True) (.slice B5 x.f5.length d5) rs
set_option maxHeartbeats 20000000 in
set_option maxRecDepth 100000 in
theorem copy (t : S26) (vt : Value) (w : World) (ok : Nat → Prop) (ht : TF w ok vt t) (hW : W t ≤ 100000000) (hA : AL 100000000 t) :
    Calls Tryd.prog 29 #[vt] w fun e w' => ∃ v, e = .returned v ∧ TF w' (fun k => ok k ∨ w.heap.size ≤ k) v t ∧ Below w.heap.size w w' := by
  obtain ⟨A3, c3, A5, c5, rfl, l3, g3, l5, g5⟩ := ht.open_
  have b1 := below_alloc (Below.refl w.heap.size w) (.cells #[.int .i64 t.f0, .int .i64 t.f1, .string t.f2, .slice A3 t.f3.length c3, .string t.f4, .slice A5 t.f5.length c5] 26)
  have hs1 : (w.alloc (.cells #[.int .i64 t.f0, .int .i64 t.f1, .string t.f2, .slice A3 t.f3.length c3, .string t.f4, .slice A5 t.f5.length c5] 26)).heap.size = w.heap.size + 1 := by simp
  have hX1 := heap_alloc_new w (.cells #[.int .i64 t.f0, .int .i64 t.f1, .string t.f2, .slice A3 t.f3.length c3, .string t.f4, .slice A5 t.f5.length c5] 26)
  obtain ⟨w1, hw1⟩ : ∃ w1, w.alloc (.cells #[.int .i64 t.f0, .int .i64 t.f1, .string t.f2, .slice A3 t.f3.length c3, .string t.f4, .slice A5 t.f5.length c5] 26) = w1 := ⟨_, rfl⟩
  rw [hw1] at b1 hs1 hX1
  have b2 := below_alloc (Below.refl w1.heap.size w1) (.cells #[.int .i64 0, .int .i64 0, .string ⟨#[]⟩, .slice none 0 0, .string ⟨#[]⟩, .slice none 0 0] 26)
  have hX2 := heap_alloc_new w1 (.cells #[.int .i64 0, .int .i64 0, .string ⟨#[]⟩, .slice none 0 0, .string ⟨#[]⟩, .slice none 0 0] 26)
  have hs2 : (w1.alloc (.cells #[.int .i64 0, .int .i64 0, .string ⟨#[]⟩, .slice none 0 0, .string ⟨#[]⟩, .slice none 0 0] 26)).heap.size = w.heap.size + 2 := by simp [hs1]
  obtain ⟨w2, hw2⟩ : ∃ w2, w1.alloc (.cells #[.int .i64 0, .int .i64 0, .string ⟨#[]⟩, .slice none 0 0, .string ⟨#[]⟩, .slice none 0 0] 26) = w2 := ⟨_, rfl⟩
  rw [hw2] at b2 hX2 hs2
  rw [hs1] at hX2
  have hX1' := (b2.block _ (by omega)).trans hX1
  have hB2 := below_step b1 b2
  have hroot : Foot (fun V => TAt V ⟨w.heap.size, 0, none⟩ t) w2 (okT ok w.heap.size (w.heap.size + 1) w2) := fun V hV => by
    have h1 := hV w.heap.size (.inr ⟨Nat.le_refl _, by omega, _, 26, hX1', .inl rfl⟩) (blk_lt hX1')
    refine TAt_blk (h1.trans hX1') l3 (g3 V (fun k hk hlt => ?_)) l5 (g5 V (fun k hk hlt => ?_))
    · exact (hV k (.inl ⟨hk, hlt⟩) (by omega)).trans (hB2.block k hlt)
    · exact (hV k (.inl ⟨hk, hlt⟩) (by omega)).trans (hB2.block k hlt)
  have HROOT := hide hroot
  have HX1 := hide hX1'
  have HX2 := hide hX2
  have HB2 := hide hB2
  have HS2 := hide hs2
  have HS1 := hide hs1
  have HWT := hide hW
  have HAT := hide hA
  clear hroot hX1 hX1' hX2 hB2 b1 b2 g3 g5 l3 l5 ht hs1 hs2 hW hA
  go_enter Tryd.func29, Tryd.ntmps29
  go_wp2_with fail
  clear hw1 hw2
  rw [HS1.out]
  refine (newPt w.heap.size w2 HB2.out.size).mono ?_
  rintro e w3 ⟨rfl, hs3, hb3⟩
  dsimp only
  generalize w2.heap.size = s at hs3 HS2 ⊢
  have HS3 := hide hs3
  have HB3 := hide hb3
  clear hs3 hb3
  go_wp2_with fail
  refine (pushPt w.heap.size s _ [] (some ⟨w.heap.size, 0, none⟩) w3 HS3.out (by have h1 := HB2.out.size; have h2 := HB3.out.size; omega) (by simp)).mono ?_
  rintro e w4 ⟨rfl, v4, hs4, hp4⟩
  dsimp only
  have hk34 := keep_push HS3.out hp4 ((HB3.out.block _ (blk_lt HX2.out)).trans HX2.out) (ok := ok)
  have hk24 := (KeepT.below (ok := ok) HB3.out (blk_lt HX2.out)).trans hk34
  have HR0 := hide (show CopyRel ok w s (1 + W t) t (1 + W t) w4 from by
    obtain ⟨csr, hcr⟩ : ∃ cs, w4.heap[w.heap.size]? = some (.cells cs 26 (0, 0)) := ⟨_, (hk24.2.1 w.heap.size (.inr ⟨Nat.le_refl _, by omega, _, 26, HX1.out, .inl rfl⟩) (blk_lt HX1.out)).trans HX1.out⟩
    have hr := okT_step HROOT.out hk24.2.1
    exact ⟨v4, _, [t], hs4, .snoc (.nil) ⟨rfl, ⟨csr, hcr⟩, ⟨Nat.le_refl _, by omega⟩, hr⟩, WK_one t, Nat.le_refl _, (ALK_one _ _).2 HAT.out, hr, ⟨csr, hcr⟩, hk24.2.2.trans HX2.out, (below_step HB2.out HB3.out).trans (HS3.out.step ⟨v4, hp4⟩ (Nat.le_refl _))⟩)
  clear hk34 hk24 hs4 hp4 HROOT HX1 HX2 HB2 HS3 HB3
  go_wp2_with fail
  go_loopg [4, 5, 6] (1 + W t) (fun g _ _ _ wr => Aside0 (CopyRel ok w s (1 + W t) t g wr))
  case atStart => exact ⟨HR0.out⟩
  case round =>
    clear HR0
    obtain ⟨v, ps, ts, hst, hown, hwk, hgm, hal, hroot, hX1, hX2, hbl⟩ := hrel.out
    clear hrel
    rcases hown.cases with ⟨rfl, rfl⟩ | ⟨qs, p, us, x, b, o, rfl, rfl, hqs, hp⟩
    · obtain ⟨E3, e3, E5, e5, i0, i1, i2, i3, i4, i5, -, -, -, -⟩ := Foot.now hroot
      dsimp only at i0 i1 i2 i3 i4 i5
      have x0 := cell_of_row _ _ 0 _ _ _ hX2
      have x1 := cell_of_row _ _ 1 _ _ _ hX2
      have x2 := cell_of_row _ _ 2 _ _ _ hX2
      have x3 := cell_of_row _ _ 3 _ _ _ hX2
      have x4 := cell_of_row _ _ 4 _ _ _ hX2
      have x5 := cell_of_row _ _ 5 _ _ _ hX2
      have f0 := blk_frozen hX2 0
      have f1 := blk_frozen hX2 1
      have f2 := blk_frozen hX2 2
      have f3 := blk_frozen hX2 3
      have f4 := blk_frozen hX2 4
      have f5 := blk_frozen hX2 5
      have HX2 := hide hX2
      have HST := hide hst
      have HBL := hide hbl
      have HRO := hide hroot
      obtain ⟨cr, hcr⟩ := hX1
      have HCR := hide hcr
      clear hX2 hst hbl hroot hcr hwk hgm hown hal
      go_wp2_with fail
      refine (popNonePt w.heap.size s v wr HST.out).mono ?_
      rintro e w' ⟨rfl, rfl⟩
      dsimp only
      go_wp2_with fail
      have hfin := (blk_set (blk_set (blk_set (blk_set (blk_set (blk_set HX2.out 0 (.int .i64 t.f0)) 1 (.int .i64 t.f1)) 2 (.string t.f2)) 3 (.slice E3 t.f3.length e3)) 4 (.string t.f4)) 5 (.slice E5 t.f5.length e5))
      have hbF := ((((((HBL.out.setCell (p := ⟨w.heap.size + 1, 0, none⟩) (Nat.le_succ _) (.int .i64 t.f0)).setCell (p := ⟨w.heap.size + 1, 1, none⟩) (Nat.le_succ _) (.int .i64 t.f1)).setCell (p := ⟨w.heap.size + 1, 2, none⟩) (Nat.le_succ _) (.string t.f2)).setCell (p := ⟨w.heap.size + 1, 3, none⟩) (Nat.le_succ _) (.slice E3 t.f3.length e3)).setCell (p := ⟨w.heap.size + 1, 4, none⟩) (Nat.le_succ _) (.string t.f4)).setCell (p := ⟨w.heap.size + 1, 5, none⟩) (Nat.le_succ _) (.slice E5 t.f5.length e5))
      refine ⟨rfl, _, res_tree hfin 2 _ rfl rfl, _, rfl, fun V hV => ?_, hbF⟩
      have hag : ∀ k, okT ok w.heap.size (w.heap.size + 1) w' k → k < w'.heap.size → V.heap[k]? = w'.heap[k]? := fun k hk hlt => by
        have hn : k ≠ w.heap.size + 1 := by
          rcases hk with hk | hk
          · have := hk.2
            omega
          · exact hk.2.1
        have hfar := set6_far (g := w.heap.size + 1) (a0 := 0) (a1 := 1) (a2 := 2) (a3 := 3) (a4 := 4) (a5 := 5) (v0 := (.int .i64 t.f0)) (v1 := (.int .i64 t.f1)) (v2 := (.string t.f2)) (v3 := (.slice E3 t.f3.length e3)) (v4 := (.string t.f4)) (v5 := (.slice E5 t.f5.length e5)) (w := w') k hn
        refine (hV k ?_ (by simpa [World.setCell] using hlt)).trans hfar
        rcases hk with hk | hk
        · exact .inl hk.1
        · exact .inr hk.1
      obtain ⟨D3, d3, D5, d5, j0, j1, j2, j3, j4, j5, m3, n3, m5, n5⟩ := HRO.out V hag
      dsimp only at j3 j5
      have hcl : ∀ q u, V.cell? ⟨w.heap.size, q, none⟩ = some u → w'.cell? ⟨w.heap.size, q, none⟩ = some u := fun q u hq => cell_blk hq (hag w.heap.size (.inr ⟨Nat.le_refl _, by omega, cr, 26, HCR.out, .inl rfl⟩) (blk_lt HCR.out)).symm
      have k3 := hcl _ _ j3
      have k5 := hcl _ _ j5
      rw [i3] at k3
      rw [i5] at k5
      simp only [Option.some.injEq, Value.slice.injEq, true_and] at k3 k5
      obtain ⟨rfl, rfl⟩ := k3
      obtain ⟨rfl, rfl⟩ := k5
      exact ⟨_, _, _, _, rfl, m3, n3, m5, n5⟩
    · rw [WK_snoc] at hwk
      rw [ALK_apd, ALK_one] at hal
      have HAL := hide hal
      have hxa := hal.2
      rw [AL_eq] at hxa
      have hxa3 := hxa.1
      clear hal hxa
      obtain ⟨E3, e3, E5, e5, i0, i1, i2, i3, i4, i5, l3, g3, l5, g5⟩ := Foot.now hp.foot
      have hWx := W_eq x
      have hlx := WK_len x.f5
      have hlu := WK_ge us
      have hlq := hqs.len
      have HST := hide hst
      have HBL := hide hbl
      have HRO := hide hroot
      have HQS := hide hqs
      have HP := hide hp
      have HX1 := hide hX1
      have HX2 := hide hX2
      have HWK := hide hwk
      have HGM := hide hgm
      have hql : qs.length ≤ 100000000 := by have := HWT.out; omega
      have hnx : x.f5.length ≤ 100000000 := by have := HWT.out; omega
      have hpp := hp.ptr
      subst hpp
      clear i0 i1 i2 i3 i4 i5 l3 g3 l5 g5 hst hbl hroot hqs hp hX1 hX2 hwk hgm hWx hlx hlu hlq hown
      go_wp2_with fail
      refine (popPt w.heap.size s v qs (some ⟨b, o, none⟩) wr HST.out (by omega)).mono ?_
      rintro e w1 ⟨rfl, v1, hst1, hp1⟩
      dsimp only
      have hk1 := keep_push HST.out hp1 HX2.out (ok := ok)
      have HST1 := hide hst1
      have HBL1 := hide (HBL.out.trans (HST.out.step ⟨v1, hp1⟩ (Nat.le_refl _)))
      have HRO1 := hide (okT_step HRO.out hk1.2.1)
      have HQS1 := hide (HQS.out.step hk1)
      have HP1 := hide (HP.out.step hk1.2.1)
      have HX21 := hide (hk1.2.2.trans HX2.out)
      obtain ⟨cr, hcr⟩ := HX1.out
      have HX11 := hide ((hk1.2.1 w.heap.size (.inr ⟨Nat.le_refl _, by omega, cr, 26, hcr, .inl rfl⟩) (blk_lt hcr)).trans hcr)
      clear HST HBL HRO HQS HP HX1 HX2 hst1 hp1 hk1 hcr
      obtain ⟨E3, e3, E5, e5, i0, i1, i2, i3, i4, i5, l3, g3, l5, g5⟩ := Foot.now HP1.out.foot
      dsimp only at i0 i1 i2 i3 i4 i5
      obtain ⟨rs, hrs, hKL⟩ := C_raw g5
      obtain ⟨cb, hcb⟩ := HP1.out.blk
      have HCB := hide hcb
      have HRS := hide hrs
      have hrl := hKL.len
      have HI5 := hide i5
      have HRL := hide hrl
      have HCA := hide (show ∀ V : World, Below w1.heap.size w1 V → Calls Tryd.prog 42 #[.slice E3 x.f3.length e3] V fun e w' => ∃ B d, e = .returned (.slice B x.f3.length d) ∧ k47.R 47 w' V.heap.size (fun _ => True) (.slice B x.f3.length d) x.f3 ∧ Below V.heap.size V w' from fun V hV => (cloneA E3 e3 x.f3 V (Kd.C_below g3 hV) hxa3).mono (by
        rintro e w' ⟨v, rfl, hr, hb⟩
        obtain ⟨B, d, rfl⟩ := Kd.R_slice hr
        exact ⟨B, d, rfl, hr, hb⟩))
      have HCK := hide (show ∀ V : World, Below w1.heap.size w1 V → Calls Tryd.prog 43 #[.slice E5 x.f5.length e5] V fun e w' => ∃ B d, e = .returned (.slice B x.f5.length d) ∧ kRaw.R 26 w' V.heap.size (fun _ => True) (.slice B x.f5.length d) rs ∧ Below V.heap.size V w' from fun V hV => by
        rw [hrl]
        exact (cloneK E5 e5 rs V (Kd.C_below hrs hV) (by rw [← hrl]; exact hnx)).mono (by
          rintro e w' ⟨v, rfl, hr, hb⟩
          obtain ⟨B, d, rfl⟩ := Kd.R_slice hr
          exact ⟨B, d, rfl, hr, hb⟩))
      clear i0 i1 i2 i4 l3 g3 l5 g5 hrs hKL hrl hxa3
      go_upto_region 6 with fail
      go_cut [] from 18 to 33 (fun wx => Rel6 w1 b o x rs wx)
      case first =>
        have HI3 := hide i3
        first
        | go_region_with (first
          | (go_at_call 42; (with_reducible refine (HCA.out wk HBK1.out).mono ?_); rintro e wa ⟨B3, d3, rfl, ra, ba⟩; have hba := below_step HBK1.out ba; have HRA := hide ra; have HRK := hide (Kd.R_below HRK1.out ba); have HLA := hide HBK1.out.size; have HLK := hide (Nat.le_refl w1.heap.size); have HBE := hide hba; clear y3 y5 z3 z5; have y3 := cellW i3 hba; have y5 := cellW i5 hba; have hcbn := (hba.block _ (blk_lt HCB.out)).trans HCB.out; have z3 := blk_frozen hcbn (o + 3); have z5 := blk_frozen hcbn (o + 5); have HCBN := hide hcbn; clear hcbn; clear ra ba hba)
          | (go_at_call 43; (with_reducible refine (HCK.out wa HBA1.out).mono ?_); rintro e wk ⟨B5, d5, rfl, rk, bk⟩; have hbk := below_step HBA1.out bk; have HRK := hide rk; have HRA := hide (Kd.R_below HRA1.out bk); have HLK := hide HBA1.out.size; have HLA := hide (Nat.le_refl w1.heap.size); have HBE := hide hbk; clear y3 y5 z3 z5; have y3 := cellW i3 hbk; have y5 := cellW i5 hbk; have hcbn := (hbk.block _ (blk_lt HCB.out)).trans HCB.out; have z3 := blk_frozen hcbn (o + 3); have z5 := blk_frozen hcbn (o + 5); have HCBN := hide hcbn; clear hcbn; clear rk bk hbk)
          | (go_at_call 42; (with_reducible refine (HCA.out w1.drew ((Below.refl _ _).drew)).mono ?_); rintro e wa ⟨B3, d3, rfl, ra, ba⟩; have hba := below_step ((Below.refl w1.heap.size w1).drew) ba; have HRA1 := hide ra; have HBA1 := hide hba; have y3 := cellW i3 hba; have y5 := cellW i5 hba; have hcbn := (hba.block _ (blk_lt HCB.out)).trans HCB.out; have z3 := blk_frozen hcbn (o + 3); have z5 := blk_frozen hcbn (o + 5); have HCBN := hide hcbn; clear hcbn; clear ra ba hba)
          | (go_at_call 43; (with_reducible refine (HCK.out w1.drew ((Below.refl _ _).drew)).mono ?_); rintro e wk ⟨B5, d5, rfl, rk, bk⟩; have hbk := below_step ((Below.refl w1.heap.size w1).drew) bk; have HRK1 := hide rk; have HBK1 := hide hbk; have y3 := cellW i3 hbk; have y5 := cellW i5 hbk; have hcbn := (hbk.block _ (blk_lt HCB.out)).trans HCB.out; have z3 := blk_frozen hcbn (o + 3); have z5 := blk_frozen hcbn (o + 5); have HCBN := hide hcbn; clear hcbn; clear rk bk hbk))
        | fail
        all_goals (
          go_wp2_with fail
          go_meet
          exact ⟨_, B3, B5, d3, d5, rfl, HBE.out, Kd.R_lower HRA.out HLA.out, Kd.R_lower HRK.out HLK.out⟩)
      case rest =>
        clear HCA HCK i3 i5
        obtain ⟨wy, B3, B5, d3, d5, rfl, hby, hra, hrk⟩ := hcut
        obtain ⟨hNb, hZb⟩ := HP1.out.new
        have hbl : b < w1.heap.size := blk_lt HCB.out
        have hsb : s ≠ b := fun e => by
          subst e
          have h1 := HST1.out.stk
          rw [HCB.out] at h1
          simp only [Option.some.injEq, Obj.cells.injEq] at h1
          exact absurd h1.2.1 (by decide)
        have hvb : ∀ k, v1.ownBlock = some k → k ≠ b := fun k hk e => by
          subst e
          obtain ⟨cs', hc'⟩ := Kd.R_typed HST1.out.row k hk
          rw [HCB.out] at hc'
          simp only [Option.some.injEq, Obj.cells.injEq] at hc'
          exact absurd hc'.2.1 (by decide)
        have far : ∀ k, k ≠ b → ((wy.setCell ⟨b, o + 3, none⟩ (.slice B3 x.f3.length d3)).setCell ⟨b, o + 5, none⟩ (.slice B5 x.f5.length d5)).heap[k]? = wy.heap[k]? := fun k hk => (Below.heap_setCell _ _ _ _ hk).trans (Below.heap_setCell _ _ _ _ hk)
        have hyb := (hby.block b hbl).trans HCB.out
        have hbk := blk_set (blk_set hyb (o + 3) (.slice B3 x.f3.length d3)) (o + 5) (.slice B5 x.f5.length d5)
        have hst2 := HST1.out.below hby
        have hst3 : StkPt w.heap.size s v1 qs ((wy.setCell ⟨b, o + 3, none⟩ (.slice B3 x.f3.length d3)).setCell ⟨b, o + 5, none⟩ (.slice B5 x.f5.length d5)) := hst2.far (far s hsb) (fun k hk => far k (hvb k hk))
        have hbl3 := ((below_then HBL1.out HBL1.out.size hby).setCell (p := ⟨b, o + 3, none⟩) hNb (.slice B3 x.f3.length d3)).setCell (p := ⟨b, o + 5, none⟩) hNb (.slice B5 x.f5.length d5)
        have hra3 := Kd.R_bound (Kd.R_step (Kd.R_bound hra) (fun k hk _ => far k (by have := hk.2.1; omega)))
        have hrk3 := Kd.R_bound (Kd.R_step (Kd.R_bound hrk) (fun k hk _ => far k (by have := hk.2.1; omega)))
        have hX2f := (far (w.heap.size + 1) (fun e => hZb e.symm)).trans ((hby.block _ (blk_lt HX21.out)).trans HX21.out)
        have hkp : ∀ k, okT ok w.heap.size (w.heap.size + 1) w1 k → k < w1.heap.size → k ≠ b → ((wy.setCell ⟨b, o + 3, none⟩ (.slice B3 x.f3.length d3)).setCell ⟨b, o + 5, none⟩ (.slice B5 x.f5.length d5)).heap[k]? = w1.heap[k]? := fun k _ hlt hn => (far k hn).trans (hby.block k hlt)
        have hX1f : ∃ cs, ((wy.setCell ⟨b, o + 3, none⟩ (.slice B3 x.f3.length d3)).setCell ⟨b, o + 5, none⟩ (.slice B5 x.f5.length d5)).heap[w.heap.size]? = some (.cells cs 26 (0, 0)) := by
          by_cases e : w.heap.size = b
          · rw [e]
            exact ⟨_, hbk⟩
          · exact ⟨_, (far _ e).trans ((hby.block _ (blk_lt HX11.out)).trans HX11.out)⟩
        have hNw := HBL1.out.size
        have hZl := blk_lt HX21.out
        obtain ⟨wz, hwz⟩ : ∃ wz, ((wy.setCell ⟨b, o + 3, none⟩ (.slice B3 x.f3.length d3)).setCell ⟨b, o + 5, none⟩ (.slice B5 x.f5.length d5)) = wz := ⟨_, rfl⟩
        rw [hwz] at hbk hst3 hbl3 hra3 hrk3 hX2f hkp hX1f ⊢
        clear hwz far hst2 hyb hvb hby hra hrk
        have tyF : ∀ (k : Nat) (q : Nat), (q = 26 ∨ q = 47) → w1.heap.size ≤ k → (∃ cells, wz.heap[k]? = some (.cells cells q (0, 0))) → okT ok w.heap.size (w.heap.size + 1) wz k := fun k q hq h1 ⟨cells, hc⟩ => .inr ⟨by omega, by omega, cells, q, hc, hq⟩
        have r3 : Kd.F k47 wz (okT ok w.heap.size (w.heap.size + 1) wz) B3 x.f3.length x.f3 := Kd.F_mono (Kd.R_F hra3) (fun k hk => by
          obtain ⟨-, h2, h3, q, hq, hc⟩ := hk
          have h9 : q = 47 := by
            rcases List.mem_cons.1 hq with h | h
            · exact h
            · cases h
          subst h9
          exact tyF k 47 (.inr rfl) h2 hc)
        have r5 : Kd.F kRaw wz (okT ok w.heap.size (w.heap.size + 1) wz) B5 rs.length rs := Kd.F_mono (by rw [← HRL.out]; exact Kd.R_F hrk3) (fun k hk => by
          obtain ⟨-, h2, h3, q, hq, hc⟩ := hk
          have h9 : q = 26 := by
            rcases List.mem_cons.1 hq with h | h
            · exact h
            · cases h
          subst h9
          exact tyF k 26 (.inl rfl) h2 hc)
        have hd3 := (Kd.R_reads' hra3).2.1
        have hd5 := (Kd.R_reads' hrk3).2.1
        have hsw := swap_foot HP1.out HCB.out hbk hkp hd3 hd5 r3 HI5.out HRS.out r5 HRL.out.symm
        have hty : ∀ (k : Nat) (cs : Array Value), w1.heap[k]? = some (Obj.cells cs 26 (0, 0)) → (w.heap.size ≤ k ∧ k ≠ w.heap.size + 1) → ∃ cs', wz.heap[k]? = some (Obj.cells cs' 26 (0, 0)) := fun k cs hk hn => by
          by_cases e : k = b
          · subst e
            exact ⟨_, hbk⟩
          · exact ⟨cs, (hkp k (.inr ⟨hn.1, hn.2, cs, 26, hk, .inl rfl⟩) (blk_lt hk) e).trans hk⟩
        have hown3 := HQS1.out.swap hsw hty
        have hp3 := HP1.out.swap hsw hty
        have hro3 := hsw _ _ HRO1.out
        have y5 : wz.cell? ⟨b, o + 5, none⟩ = some (.slice B5 x.f5.length d5) := by
          have h5 := HI5.out
          unfold World.cell? at h5 ⊢
          rw [HCB.out] at h5
          rw [hbk]
          simp only [Option.isSome_none, Bool.false_eq_true, if_false] at h5 ⊢
          have h6 := (Array.getElem?_eq_some_iff.1 h5).1
          rw [Array.getElem?_setIfInBounds_self_of_lt (by rw [Array.size_setIfInBounds]; exact h6)]
        obtain ⟨g0, hg0⟩ : ∃ g0, 0 < x.f5.length → B5 = some ⟨g0, 0, none⟩ ∧ w1.heap.size ≤ g0 ∧ ∃ cs, wz.heap[g0]? = some (.cells cs 26 (0, 0)) := by
          by_cases h0 : 0 < x.f5.length
          · obtain ⟨g, cap, e, h1, h2, cs, hc⟩ := Kd.R_form hrk3 (by rw [← HRL.out]; exact h0)
            injection e with e _ _
            exact ⟨g, fun _ => ⟨e, h1, cs, hc⟩⟩
          · exact ⟨0, fun h => absurd h h0⟩
        have HOW := hide (show ∀ c, c ≤ x.f5.length → Owns ok w.heap.size (w.heap.size + 1) wz (qs ++ kidsP g0 c) (us ++ x.f5.take c) from fun c hc => by
          refine owns_kids hown3 x g0 c hc (fun j y hj => ?_)
          have hpos : 0 < x.f5.length := by have := (List.getElem?_eq_some_iff.1 hj).1; omega
          obtain ⟨e, h1, hcs⟩ := hg0 hpos
          refine ⟨rfl, hcs, ⟨by omega, by omega⟩, fun V hV => ?_⟩
          obtain ⟨_, _, E5', e5', _, _, _, _, _, j5, _, _, _, m5⟩ := hp3.foot V hV
          dsimp only at j5
          have hbb := hV b (.inr ⟨hNb, hZb, _, 26, hbk, .inl rfl⟩) (blk_lt hbk)
          have j5' := cell_blk (w' := wz) j5 hbb.symm
          rw [y5] at j5'
          simp only [Option.some.injEq, Value.slice.injEq, true_and] at j5'
          obtain ⟨rfl, rfl⟩ := j5'
          rw [e] at m5
          have h7 := kid_TAt m5 j y hj
          rwa [add0] at h7)
        have HST3 := hide hst3
        have HBL3 := hide hbl3
        have HRO3 := hide hro3
        have HX23 := hide hX2f
        have HX13 := hide hX1f
        have HG0 := hide hg0
        have HY5 := hide y5
        have HBK := hide hbk
        have HNB := hide (And.intro hNb hZb)
        clear hbk hst3 hbl3 hra3 hrk3 hX2f hkp hX1f tyF r3 r5 hd3 hd5 hsw hty hown3 hp3 hro3 hg0 hNb hZb hNw hZl hsb hbl
        go_wp2_with fail
        clear y5
        go_loopg [39, 6] x.f5.length (fun g i _ wr2 => ∃ c : Nat, c + g = x.f5.length ∧ i = .int .i64 (c : Int) ∧ Aside0 (∃ v2, StkPt w.heap.size s v2 (qs ++ kidsP g0 c) wr2 ∧ KeepT ok w.heap.size (w.heap.size + 1) wz wr2 ∧ Below w.heap.size w wr2))
        case atStart => exact ⟨0, by omega, rfl, ⟨v1, by simpa [kidsP] using HST3.out, KeepT.refl _ _ _ _, HBL3.out⟩⟩
        case round =>
          obtain ⟨c, hcg, rfl, hin⟩ := hrel
          obtain ⟨v2, hst2, hkt, hbl2⟩ := hin.out
          clear hin
          have HKT := hide hkt
          have HST2 := hide hst2
          have HBL2 := hide hbl2
          by_cases hc : c < x.f5.length
          · obtain ⟨eB, -, -⟩ := HG0.out (by omega)
            have hyb := (hkt.2.1 b (.inr ⟨HNB.out.1, HNB.out.2, _, 26, HBK.out, .inl rfl⟩) (blk_lt HBK.out))
            have y5 := cell_blk HY5.out hyb
            rw [eB] at y5
            have j0 : (0 : Int) ≤ (c : Int) := by omega
            have j1 : (c : Int) < (x.f5.length : Int) := by omega
            have hpl : (qs ++ kidsP g0 c).length ≤ 1000000000 := by
              rw [List.length_append]
              unfold kidsP
              rw [List.length_map, List.length_range]
              omega
            have HPL := hide hpl
            have HCG := hide hcg
            have HC := hide hc
            clear hkt hst2 hbl2 hyb eB hpl hcg hc
            go_wp2_with fail
            refine (pushPt w.heap.size s v2 (qs ++ kidsP g0 c) (some ⟨g0, c * 6, none⟩) wr HST2.out HBL2.out.size HPL.out).mono ?_
            rintro e w' ⟨rfl, v3, hst4, hp4⟩
            dsimp only
            have hk4 := keep_push HST2.out hp4 (HKT.out.2.2.trans HX23.out) (ok := ok)
            have HK4 := hide (HKT.out.trans hk4)
            have HST4 := hide hst4
            have HBL4 := hide (HBL2.out.trans (HST2.out.step ⟨v3, hp4⟩ (Nat.le_refl _)))
            clear hk4 hst4 hp4
            go_wp2_with fail
            have hcg := HCG.out
            have hc := HC.out
            go_roundg (gk - 1)
            case measure => omega
            case rel => exact ⟨c + 1, by omega, by go_num, ⟨v3, by rw [kidsP_succ, ← List.append_assoc]; exact HST4.out, HK4.out, HBL4.out⟩⟩
          · have hcn : c = x.f5.length := by omega
            have hnc : ¬ (c : Int) < (x.f5.length : Int) := by omega
            have HCN := hide hcn
            clear hcn hcg hc hkt hst2 hbl2
            go_wp2_with fail
            have hcn := HCN.out
            have hW1 := W_eq x
            have hW2 := WK_apd us x.f5
            have hW3 := HWK.out
            have hW4 := HGM.out
            have how := HOW.out c (by omega)
            rw [hcn, List.take_length] at how
            have hst9 := HST2.out
            rw [hcn] at hst9
            obtain ⟨cz, hcz⟩ := HX13.out
            go_roundg (WK (us ++ x.f5))
            case measure => omega
            case rel => exact ⟨v2, _, us ++ x.f5, hst9, how.step HKT.out, rfl, by omega, (ALK_apd _ _ _).2 ⟨HAL.out.1, by have h := HAL.out.2; rw [AL_eq] at h; exact h.2⟩, okT_step HRO3.out HKT.out.2.1, ⟨_, (HKT.out.2.1 w.heap.size (.inr ⟨Nat.le_refl _, by omega, cz, 26, hcz, .inl rfl⟩) (blk_lt hcz)).trans hcz⟩, HKT.out.2.2.trans HX23.out, HBL2.out⟩
end Go.Proofs.YteglfgmgpbablaaDoor.Cmp

/- The walk of tree.Copy once more: what it hands back, and its kids, have their rows in blocks of their own. Stores into a copy leave what it was copied from. Plain part of the law TreeCopies. -/
import Derived.Test.YtaponaemgolmoaaTrPut
namespace Go.Proofs.Ytaponaemgolmoaa.Tr
open Go.RowKit Go.Proofs.Ytaponaemgolmoaa.PTreeTells Go.Proofs.YtaponaemgolmoaaW.PrintWords Go.Proofs.YtaponaemgolmoaaW.PrintLast
set_option linter.unusedVariables false
set_option linter.unusedSimpArgs false
/-- A node that is popped: its cells, its rows; and what its round leaves. -/
def NodeF (ok : Nat → Prop) (N0 : Nat) (t x : S26) (b o : Nat) (qs : List (Option Addr)) (us : List S26) (w1 : World) : Prop := ∃ (cb : Array Value) (E3 : Option Addr) (e3 : Nat) (E5 : Option Addr) (e5 : Nat) (rs : List Raw), w1.heap[b]? = some (.cells cb 26 (0, 0)) ∧ w1.cell? ⟨b, o + 3, none⟩ = some (.slice E3 x.f3.length e3) ∧ w1.cell? ⟨b, o + 5, none⟩ = some (.slice E5 x.f5.length e5) ∧ k33.C w1 E3 x.f3.length x.f3 ∧ kRaw.C w1 E5 rs.length rs ∧ rs.length = x.f5.length ∧ N0 ≤ b ∧ b ≠ N0 + 1 ∧ ∀ (wy wz : World) (B3 B5 : Option Addr) (d3 d5 g0 : Nat), Rnd w1 wy b o x cb rs B3 B5 d3 d5 g0 wz → Aft ok N0 t x qs us g0 wz ∧ Frs N0 t (qs ++ kidsP g0 x.f5.length) wz
/-- At the loop's head. -/
def CRelF (ok : Nat → Prop) (w : World) (s : Nat) (t : S26) (A3 : Option Addr) (c3 : Nat) (A5 : Option Addr) (c5 : Nat) (g : Nat) (wr : World) : Prop := ∃ (v : Value) (ps : List (Option Addr)) (ts : List S26), WK ts = g ∧ g ≤ 1 + W t ∧ wr.heap[w.heap.size + 1]? = some (.cells #[.int .i64 0, .int .i64 0, .string ⟨#[]⟩, .slice none 0 0, .string ⟨#[]⟩, .slice none 0 0] 26 (0, 0)) ∧ Below w.heap.size w wr ∧ ((ps = [some ⟨w.heap.size, 0, none⟩] ∧ ts = [t] ∧ P1 ok w.heap.size s t A3 c3 A5 c5 v wr) ∨ (P2 ok w.heap.size s t v ps ts wr ∧ Frs w.heap.size t ps wr))
theorem CRelF.next {ok : Nat → Prop} {w : World} (hok : ∀ k, ok k → k < w.heap.size) {s : Nat} {t : S26} {A3 : Option Addr} {c3 : Nat} {A5 : Option Addr} {c5 g : Nat} {wr : World} (h : CRelF ok w s t A3 c3 A5 c5 g wr) : (∃ v, P2 ok w.heap.size s t v [] [] wr ∧ Frs w.heap.size t [] wr) ∨ ∃ v qs us x b o, WK us + (1 + W x) = g ∧ StkPt w.heap.size s v (qs ++ [some ⟨b, o, none⟩]) wr ∧ qs.length = us.length ∧ ALK 100000000 us ∧ AL 100000000 x ∧ ∀ w1, Keep3 w.heap.size wr w1 → NodeF ok w.heap.size t x b o qs us w1 := by
  obtain ⟨v, ps, ts, hg, hgm, hz, hb, h | ⟨h, hf⟩⟩ := h
  · obtain ⟨rfl, rfl, hp⟩ := h
    refine .inr ⟨v, [], [], t, w.heap.size, 0, ?_, hp.1, rfl, by rw [ALK]; trivial, hp.2.1, fun w1 hk => ?_⟩
    · rw [← hg, WK_one, WK]
      omega
    · obtain ⟨cb, E3, e3, E5, e5, rs, h1, h2, h3, h4, h5, h6, h7, h8, h9⟩ := node_root hok hp hz hk
      exact ⟨cb, E3, e3, E5, e5, rs, h1, h2, h3, h4, h5, h6, h7, h8, fun wy wz B3 B5 d3 d5 g0 hr => ⟨h9 _ _ _ _ _ _ _ hr, frs_root hr h3⟩⟩
  · rcases node_next hok h with ⟨rfl, rfl⟩ | ⟨qs, us, x, b, o, rfl, rfl, hl, hn⟩
    · exact .inl ⟨v, h, hf⟩
    · obtain ⟨i1, i2, ⟨cb0, i3⟩, i4⟩ := p2_id h
      obtain ⟨N2, Z, B3, d3, B5, d5, hN, hN2, hst, hO, hal, hT, zc, hz⟩ := h
      rw [ALK_apd, ALK_one] at hal
      rw [WK_snoc] at hg
      refine .inr ⟨v, qs, us, x, b, o, hg, hst, hl, hal.1, hal.2, fun w1 hk => ?_⟩
      obtain ⟨cb, E3, e3, E5, e5, rs, h1, h2, h3, h4, h5, h6, h7, h8, h9⟩ := hn w1 hk
      have hb0 := hk.2.2 _ _ _ i3 (.inl rfl)
      exact ⟨cb, E3, e3, E5, e5, rs, h1, h2, h3, h4, h5, h6, h7, h8, fun wy wz B3 B5 d3 d5 g0 hr => ⟨h9 _ _ _ _ _ _ _ hr, (frs_round hr (hf.keep hk i3) i1 (Nat.le_trans i2 hk.1) h2 h3 (fun Z c hc hp e => i4 Z c (cell_blk hc hb0.symm) hp e)).more⟩⟩
/-- What comes out: a tree whose rows, and whose kids' rows, are its own. -/
def CopyResF (ok : Nat → Prop) (w : World) (t : S26) (B3 : Option Addr) (d3 : Nat) (B5 : Option Addr) (d5 : Nat) (w' : World) : Prop := (t.f3.length ≤ d3 ∧ Kd.F k33 w' (fun k => (ok k ∨ w.heap.size ≤ k) ∧ (Value.slice B5 t.f5.length d5).ownBlock ≠ some k) B3 t.f3.length t.f3 ∧ ∃ rs, kRaw.R 26 w' w.heap.size (fun k => (Value.slice B5 t.f5.length d5).ownBlock = some k) (.slice B5 t.f5.length d5) rs ∧ rs.length = t.f5.length ∧ Foot (fun W => KL W t.f5 rs) w' (fun k => (ok k ∨ w.heap.size ≤ k) ∧ (Value.slice B5 t.f5.length d5).ownBlock ≠ some k)) ∧ ∀ Z, B5 = some ⟨Z, 0, none⟩ → ∀ (j : Nat) (x : S26), t.f5[j]? = some x → KidF w.heap.size w' Z j x
set_option maxHeartbeats 20000000 in
set_option maxRecDepth 100000 in
theorem copyF (t : S26) (A3 : Option Addr) (c3 : Nat) (A5 : Option Addr) (c5 : Nat) (w : World) (ok0 : Nat → Prop) (ht : TF w ok0 (.agg #[.int .i64 t.f0, .int .i64 t.f1, .string t.f2, .slice A3 t.f3.length c3, .string t.f4, .slice A5 t.f5.length c5]) t) (hW : W t ≤ 100000000) (hA : AL 100000000 t) :
    Calls Try.prog 14 #[.agg #[.int .i64 t.f0, .int .i64 t.f1, .string t.f2, .slice A3 t.f3.length c3, .string t.f4, .slice A5 t.f5.length c5]] w fun e w' => ∃ (B3 : Option Addr) (d3 : Nat) (B5 : Option Addr) (d5 : Nat), e = .returned (.agg #[.int .i64 t.f0, .int .i64 t.f1, .string t.f2, .slice B3 t.f3.length d3, .string t.f4, .slice B5 t.f5.length d5]) ∧ CopyResF ok0 w t B3 d3 B5 d5 w' ∧ Below w.heap.size w w' := by
  obtain ⟨_, _, _, _, er, l3, g3, l5, g5⟩ := ht.bound.open_
  injection er with er
  injection er with er
  simp only [List.cons.injEq, Value.slice.injEq] at er
  obtain ⟨_, _, _, ⟨rfl, _, rfl⟩, _, ⟨rfl, _, rfl⟩, _⟩ := er
  obtain ⟨ok, hok_⟩ : ∃ ok : Nat → Prop, ok = fun k => ok0 k ∧ k < w.heap.size := ⟨_, rfl⟩
  rw [← hok_] at g3 g5
  have hok : ∀ k, ok k → k < w.heap.size := fun k hk => by rw [hok_] at hk; exact hk.2
  have hok0 : ∀ k, ok k → ok0 k := fun k hk => by rw [hok_] at hk; exact hk.1
  have HOK := hide hok
  have HOK0 := hide hok0
  clear hok_ ht hok0
  have b1 := below_alloc (Below.refl w.heap.size w) (.cells #[.int .i64 t.f0, .int .i64 t.f1, .string t.f2, .slice A3 t.f3.length c3, .string t.f4, .slice A5 t.f5.length c5] 26)
  have hs1 : (w.alloc (.cells #[.int .i64 t.f0, .int .i64 t.f1, .string t.f2, .slice A3 t.f3.length c3, .string t.f4, .slice A5 t.f5.length c5] 26)).heap.size = w.heap.size + 1 := by simp
  have hX1 := heap_alloc_new w (.cells #[.int .i64 t.f0, .int .i64 t.f1, .string t.f2, .slice A3 t.f3.length c3, .string t.f4, .slice A5 t.f5.length c5] 26)
  obtain ⟨w1, hw1⟩ : ∃ w1, w.alloc (.cells #[.int .i64 t.f0, .int .i64 t.f1, .string t.f2, .slice A3 t.f3.length c3, .string t.f4, .slice A5 t.f5.length c5] 26) = w1 := ⟨_, rfl⟩
  rw [hw1] at b1 hs1 hX1
  have b2 := below_alloc (Below.refl w1.heap.size w1) (.cells #[.int .i64 0, .int .i64 0, .string ⟨#[]⟩, .slice none 0 0, .string ⟨#[]⟩, .slice none 0 0] 26)
  have hX2 := heap_alloc_new w1 (.cells #[.int .i64 0, .int .i64 0, .string ⟨#[]⟩, .slice none 0 0, .string ⟨#[]⟩, .slice none 0 0] 26)
  have hs2 : (w1.alloc (.cells #[.int .i64 0, .int .i64 0, .string ⟨#[]⟩, .slice none 0 0, .string ⟨#[]⟩, .slice none 0 0] 26)).heap.size = w.heap.size + 2 := by simp [hs1]
  obtain ⟨w2, hw2⟩ : ∃ w2, w1.alloc (.cells #[.int .i64 0, .int .i64 0, .string ⟨#[]⟩, .slice none 0 0, .string ⟨#[]⟩, .slice none 0 0] 26) = w2 := ⟨_, rfl⟩
  rw [hw2] at b2 hX2 hs2
  rw [hs1] at hX2
  have hX1' := (b2.block _ (by omega)).trans hX1
  have hB2 := below_step b1 b2
  have HX1 := hide hX1'
  have HX2 := hide hX2
  have HB2 := hide hB2
  have HS2 := hide hs2
  have HS1 := hide hs1
  have HG3 := hide (Foot.step (W1 := w2) g3 (fun k hk hl => hB2.block k hl))
  have HG5 := hide (Foot.step (W1 := w2) g5 (fun k hk hl => hB2.block k hl))
  have HWT := hide hW
  have HAT := hide hA
  clear hX1 hX1' hX2 hB2 b1 b2 g3 g5 l3 l5 hs1 hs2 hW hA
  go_enter Try.func14, Try.ntmps14
  go_wp2_with fail
  clear hw1 hw2
  rw [HS1.out]
  refine (newPt w.heap.size w2 HB2.out.size).mono ?_
  rintro e w3 ⟨rfl, hs3, hb3⟩
  dsimp only
  generalize w2.heap.size = s at hs3 HS2 ⊢
  have HS3 := hide hs3
  have HB3 := hide hb3
  clear hs3 hb3
  go_wp2_with fail
  refine (pushPt w.heap.size s _ [] (some ⟨w.heap.size, 0, none⟩) w3 HS3.out (by have h1 := HB2.out.size; have h2 := HB3.out.size; omega) (by simp)).mono ?_
  rintro e w4 ⟨rfl, v4, hs4, hp4⟩
  dsimp only
  have hk34 := keep3_push HS3.out hp4
  have HR0 := hide (show CRelF ok w s t A3 c3 A5 c5 (1 + W t) w4 from by
    have hb3 := HB3.out
    have e1 := (hk34.2.2 _ _ _ ((hb3.block _ (blk_lt HX1.out)).trans HX1.out) (.inl rfl)).trans ((hb3.block _ (blk_lt HX1.out)).trans HX1.out)
    have e2 := (hk34.2.2 _ _ _ ((hb3.block _ (blk_lt HX2.out)).trans HX2.out) (.inl rfl)).trans ((hb3.block _ (blk_lt HX2.out)).trans HX2.out)
    have st : ∀ k, ok k → k < w2.heap.size → w4.heap[k]? = w2.heap[k]? := fun k hk hl => (hk34.2.1 k (HOK.out k hk) (Nat.lt_of_lt_of_le hl hb3.size)).trans (hb3.block k hl)
    exact ⟨v4, _, [t], WK_one t, Nat.le_refl _, e2, (below_step HB2.out HB3.out).trans (HS3.out.step ⟨v4, hp4⟩ (Nat.le_refl _)), .inl ⟨rfl, rfl, hs4, HAT.out, e1, Foot.step (W1 := w4) HG3.out st, Foot.step (W1 := w4) HG5.out st⟩⟩)
  clear hk34 hs4 hp4 HX1 HX2 HB2 HS3 HB3 HG3 HG5
  go_wp2_with fail
  go_loopg [4, 5, 6] (1 + W t) (fun g _ _ _ wr => Aside0 (CRelF ok w s t A3 c3 A5 c5 g wr))
  case atStart => exact ⟨HR0.out⟩
  case round =>
    clear HR0
    have hcr := hrel.out
    clear hrel
    have hcr2 := hcr
    obtain ⟨_, _, _, _, hgm, hX2, hbl, _⟩ := hcr2
    rcases hcr.next HOK.out with ⟨v, hp2, hfrs⟩ | ⟨v, qs, us, x, b, o, hwk, hst, hlq, hau, hax, hnode⟩
    · obtain ⟨N2, Z, B3, d3, B5, d5, hN, hN2, hst, hO, hal, hT, zc, hz⟩ := hp2
      have HFRS := hide hfrs
      clear hfrs
      have y0 := cell_of_row _ _ 0 _ _ _ hT.box
      have y1 := cell_of_row _ _ 1 _ _ _ hT.box
      have y2 := cell_of_row _ _ 2 _ _ _ hT.box
      have y3 := cell_of_row _ _ 3 _ _ _ hT.box
      have y4 := cell_of_row _ _ 4 _ _ _ hT.box
      have y5 := cell_of_row _ _ 5 _ _ _ hT.box
      have x0 := cell_of_row _ _ 0 _ _ _ hX2
      have x1 := cell_of_row _ _ 1 _ _ _ hX2
      have x2 := cell_of_row _ _ 2 _ _ _ hX2
      have x3 := cell_of_row _ _ 3 _ _ _ hX2
      have x4 := cell_of_row _ _ 4 _ _ _ hX2
      have x5 := cell_of_row _ _ 5 _ _ _ hX2
      have f0 := blk_frozen hX2 0
      have f1 := blk_frozen hX2 1
      have f2 := blk_frozen hX2 2
      have f3 := blk_frozen hX2 3
      have f4 := blk_frozen hX2 4
      have f5 := blk_frozen hX2 5
      have HX2 := hide hX2
      have HST := hide hst
      have HBL := hide hbl
      have HT := hide hT
      have HN := hide hN
      clear hX2 hst hbl hT hO hal hz hcr hgm
      go_wp2_with fail
      refine (popNonePt w.heap.size s v wr HST.out).mono ?_
      rintro e w' ⟨rfl, rfl⟩
      dsimp only
      go_wp2_with fail
      have hfin := (blk_set (blk_set (blk_set (blk_set (blk_set (blk_set HX2.out 0 (.int .i64 t.f0)) 1 (.int .i64 t.f1)) 2 (.string t.f2)) 3 (.slice B3 t.f3.length d3)) 4 (.string t.f4)) 5 (.slice B5 t.f5.length d5))
      have hbF := ((((((HBL.out.setCell (p := ⟨w.heap.size + 1, 0, none⟩) (Nat.le_succ _) (.int .i64 t.f0)).setCell (p := ⟨w.heap.size + 1, 1, none⟩) (Nat.le_succ _) (.int .i64 t.f1)).setCell (p := ⟨w.heap.size + 1, 2, none⟩) (Nat.le_succ _) (.string t.f2)).setCell (p := ⟨w.heap.size + 1, 3, none⟩) (Nat.le_succ _) (.slice B3 t.f3.length d3)).setCell (p := ⟨w.heap.size + 1, 4, none⟩) (Nat.le_succ _) (.string t.f4)).setCell (p := ⟨w.heap.size + 1, 5, none⟩) (Nat.le_succ _) (.slice B5 t.f5.length d5))
      have hfar : ∀ k, k ≠ w.heap.size + 1 → ((((((w'.setCell ⟨w.heap.size + 1, 0, none⟩ (.int .i64 t.f0)).setCell ⟨w.heap.size + 1, 1, none⟩ (.int .i64 t.f1)).setCell ⟨w.heap.size + 1, 2, none⟩ (.string t.f2)).setCell ⟨w.heap.size + 1, 3, none⟩ (.slice B3 t.f3.length d3)).setCell ⟨w.heap.size + 1, 4, none⟩ (.string t.f4)).setCell ⟨w.heap.size + 1, 5, none⟩ (.slice B5 t.f5.length d5)).heap[k]? = w'.heap[k]? := fun k hk => set6_far (g := w.heap.size + 1) (a0 := 0) (a1 := 1) (a2 := 2) (a3 := 3) (a4 := 4) (a5 := 5) (v0 := (.int .i64 t.f0)) (v1 := (.int .i64 t.f1)) (v2 := (.string t.f2)) (v3 := (.slice B3 t.f3.length d3)) (v4 := (.string t.f4)) (v5 := (.slice B5 t.f5.length d5)) (w := w') k hk
      obtain ⟨t1, t2, t3, t8, ⟨rt, t4, t5, t6⟩, t7⟩ := HT.out
      have hN := HN.out
      have hne : ∀ k, okT ok N2 Z w' k → k ≠ w.heap.size + 1 := fun k hk => by
        rcases hk with hk | hk
        · have := HOK.out k hk.1
          omega
        · have := hk.1
          omega
      have hmo : ∀ k, okT ok N2 Z w' k → (ok0 k ∨ w.heap.size ≤ k) ∧ (Value.slice B5 t.f5.length d5).ownBlock ≠ some k := fun k hk => by
        refine ⟨?_, fun e => ?_⟩
        · rcases hk with hk | hk
          · exact .inl (HOK0.out k hk.1)
          · exact .inr (by have := hk.1; omega)
        · rcases hk with hk | hk
          · have h1 := HOK.out k hk.1
            have h2 := Kd.R_base t4 k e
            omega
          · exact hk.2.1 (t8 k e)
      have hkf : ∀ Z, B5 = some ⟨Z, 0, none⟩ → ∀ (j : Nat) (x : S26), t.f5[j]? = some x → KidF w.heap.size ((((((w'.setCell ⟨w.heap.size + 1, 0, none⟩ (.int .i64 t.f0)).setCell ⟨w.heap.size + 1, 1, none⟩ (.int .i64 t.f1)).setCell ⟨w.heap.size + 1, 2, none⟩ (.string t.f2)).setCell ⟨w.heap.size + 1, 3, none⟩ (.slice B3 t.f3.length d3)).setCell ⟨w.heap.size + 1, 4, none⟩ (.string t.f4)).setCell ⟨w.heap.size + 1, 5, none⟩ (.slice B5 t.f5.length d5)) Z j x := fun Z' hZ' j x hj => by
        have hp : 0 < t.f5.length := by have := (List.getElem?_eq_some_iff.1 hj).1; omega
        obtain ⟨e1, e2⟩ := t7 hp
        rw [hZ'] at e1
        injection e1 with e1
        injection e1 with e1 _
        subst e1
        have hy5 : w'.cell? ⟨w.heap.size, 5, none⟩ = some (.slice (some ⟨Z', 0, none⟩) t.f5.length d5) := by rw [← hZ']; exact cell_of_row _ _ 5 _ _ _ t1
        rcases HFRS.out Z' d5 hy5 j x hj with h | h
        · cases h
        · exact h.far (fun k hk => hfar k (by omega)) (by omega) (by omega)
      exact ⟨rfl, _, res_tree hfin 2 _ rfl rfl, _, _, _, _, rfl, ⟨⟨t2, Foot.mono (Foot.step t3 (fun k hk _ => hfar k (hne k hk))) hmo, rt, Kd.R_lower (Kd.R_step t4 (fun k hk _ => hfar k (by have := Kd.R_base t4 k hk; omega))) (by omega), t5, Foot.mono (Foot.step t6 (fun k hk _ => hfar k (hne k hk))) hmo⟩, hkf⟩, hbF⟩
    · clear hcr
      have hWx := W_eq x
      have hlx := WK_len x.f5
      have hlu := WK_ge us
      rw [AL_eq] at hax
      have hxa3 := hax.1
      have HST := hide hst
      have HBL := hide hbl
      have HX2 := hide hX2
      have HWK := hide hwk
      have HGM := hide hgm
      have HND := hide hnode
      have HAU := hide hau
      have HAX := hide hax.2
      have hql : qs.length ≤ 100000000 := by have := HWT.out; omega
      have hnx : x.f5.length ≤ 100000000 := by have := HWT.out; omega
      clear hst hbl hX2 hwk hgm hWx hlx hlu hlq hnode hau hax
      go_wp2_with fail
      refine (popPt w.heap.size s v qs (some ⟨b, o, none⟩) wr HST.out (by omega)).mono ?_
      rintro e w1 ⟨rfl, v1, hst1, hp1⟩
      dsimp only
      have hk1 := keep3_push HST.out hp1
      have HST1 := hide hst1
      have HBL1 := hide (HBL.out.trans (HST.out.step ⟨v1, hp1⟩ (Nat.le_refl _)))
      have HX21 := hide ((hk1.2.2 _ _ _ HX2.out (.inl rfl)).trans HX2.out)
      obtain ⟨cb, E3, e3, E5, e5, rs, hcb, i3, i5, g3, hrs, hrl', hNb, hNb1, haft⟩ := HND.out w1 hk1
      have hrl : x.f5.length = rs.length := hrl'.symm
      clear HST HBL HX2 HND hst1 hp1 hk1 hrl'
      have HCB := hide hcb
      have HRL := hide hrl
      have HAFT := hide haft
      have HNB := hide (And.intro hNb hNb1)
      have HI5 := hide i5
      have HCA := hide (show ∀ V : World, Below w1.heap.size w1 V → Calls Try.prog 39 #[.slice E3 x.f3.length e3] V fun e w' => ∃ B d, e = .returned (.slice B x.f3.length d) ∧ k33.R 33 w' V.heap.size (fun _ => True) (.slice B x.f3.length d) x.f3 ∧ Below V.heap.size V w' from fun V hV => (cloneA E3 e3 x.f3 V (Kd.C_below g3 hV) hxa3).mono (by
        rintro e w' ⟨v, rfl, hr, hb⟩
        obtain ⟨B, d, rfl⟩ := Kd.R_slice hr
        exact ⟨B, d, rfl, hr, hb⟩))
      have HCK := hide (show ∀ V : World, Below w1.heap.size w1 V → Calls Try.prog 40 #[.slice E5 x.f5.length e5] V fun e w' => ∃ B d, e = .returned (.slice B x.f5.length d) ∧ kRaw.R 26 w' V.heap.size (fun _ => True) (.slice B x.f5.length d) rs ∧ Below V.heap.size V w' from fun V hV => by
        rw [hrl]
        exact (cloneK E5 e5 rs V (Kd.C_below hrs hV) (by rw [← hrl]; exact hnx)).mono (by
          rintro e w' ⟨v, rfl, hr, hb⟩
          obtain ⟨B, d, rfl⟩ := Kd.R_slice hr
          exact ⟨B, d, rfl, hr, hb⟩))
      clear g3 hrs hrl hxa3 hcb haft hNb hNb1
      go_upto_region 6 with fail
      go_cut [] from 18 to 33 (fun wx => Rel6 w1 b o x rs wx)
      case first =>
        have HI3 := hide i3
        first
        | go_region_with (first
          | (go_at_call 39; (with_reducible refine (HCA.out wk HBK1.out).mono ?_); rintro e wa ⟨B3, d3, rfl, ra, ba⟩; have hba := below_step HBK1.out ba; have HRA := hide ra; have HRK := hide (Kd.R_below HRK1.out ba); have HLA := hide HBK1.out.size; have HLK := hide (Nat.le_refl w1.heap.size); have HBE := hide hba; clear y3 y5 z3 z5; have y3 := cellW i3 hba; have y5 := cellW i5 hba; have hcbn := (hba.block _ (blk_lt HCB.out)).trans HCB.out; have z3 := blk_frozen hcbn (o + 3); have z5 := blk_frozen hcbn (o + 5); have HCBN := hide hcbn; clear hcbn; clear ra ba hba)
          | (go_at_call 40; (with_reducible refine (HCK.out wa HBA1.out).mono ?_); rintro e wk ⟨B5, d5, rfl, rk, bk⟩; have hbk := below_step HBA1.out bk; have HRK := hide rk; have HRA := hide (Kd.R_below HRA1.out bk); have HLK := hide HBA1.out.size; have HLA := hide (Nat.le_refl w1.heap.size); have HBE := hide hbk; clear y3 y5 z3 z5; have y3 := cellW i3 hbk; have y5 := cellW i5 hbk; have hcbn := (hbk.block _ (blk_lt HCB.out)).trans HCB.out; have z3 := blk_frozen hcbn (o + 3); have z5 := blk_frozen hcbn (o + 5); have HCBN := hide hcbn; clear hcbn; clear rk bk hbk)
          | (go_at_call 39; (with_reducible refine (HCA.out w1.drew ((Below.refl _ _).drew)).mono ?_); rintro e wa ⟨B3, d3, rfl, ra, ba⟩; have hba := below_step ((Below.refl w1.heap.size w1).drew) ba; have HRA1 := hide ra; have HBA1 := hide hba; have y3 := cellW i3 hba; have y5 := cellW i5 hba; have hcbn := (hba.block _ (blk_lt HCB.out)).trans HCB.out; have z3 := blk_frozen hcbn (o + 3); have z5 := blk_frozen hcbn (o + 5); have HCBN := hide hcbn; clear hcbn; clear ra ba hba)
          | (go_at_call 40; (with_reducible refine (HCK.out w1.drew ((Below.refl _ _).drew)).mono ?_); rintro e wk ⟨B5, d5, rfl, rk, bk⟩; have hbk := below_step ((Below.refl w1.heap.size w1).drew) bk; have HRK1 := hide rk; have HBK1 := hide hbk; have y3 := cellW i3 hbk; have y5 := cellW i5 hbk; have hcbn := (hbk.block _ (blk_lt HCB.out)).trans HCB.out; have z3 := blk_frozen hcbn (o + 3); have z5 := blk_frozen hcbn (o + 5); have HCBN := hide hcbn; clear hcbn; clear rk bk hbk))
        | fail
        all_goals (
          go_wp2_with fail
          go_meet
          exact ⟨_, B3, B5, d3, d5, rfl, HBE.out, Kd.R_lower HRA.out HLA.out, Kd.R_lower HRK.out HLK.out⟩)
      case rest =>
        clear HCA HCK i3 i5
        obtain ⟨wy, B3, B5, d3, d5, rfl, hby, hra, hrk⟩ := hcut
        obtain ⟨hNb, hNb1⟩ := HNB.out
        have hbl : b < w1.heap.size := blk_lt HCB.out
        have hsb : s ≠ b := fun e => by
          subst e
          have h1 := HST1.out.stk
          rw [HCB.out] at h1
          simp only [Option.some.injEq, Obj.cells.injEq] at h1
          exact absurd h1.2.1 (by decide)
        have hvb : ∀ k, v1.ownBlock = some k → k ≠ b := fun k hk e => by
          subst e
          obtain ⟨cs', hc'⟩ := Kd.R_typed HST1.out.row k hk
          rw [HCB.out] at hc'
          simp only [Option.some.injEq, Obj.cells.injEq] at hc'
          exact absurd hc'.2.1 (by decide)
        have far : ∀ k, k ≠ b → ((wy.setCell ⟨b, o + 3, none⟩ (.slice B3 x.f3.length d3)).setCell ⟨b, o + 5, none⟩ (.slice B5 x.f5.length d5)).heap[k]? = wy.heap[k]? := fun k hk => (Below.heap_setCell _ _ _ _ hk).trans (Below.heap_setCell _ _ _ _ hk)
        obtain ⟨g0, hg0⟩ : ∃ g0, 0 < x.f5.length → B5 = some ⟨g0, 0, none⟩ ∧ w1.heap.size ≤ g0 ∧ ∃ cs, wy.heap[g0]? = some (.cells cs 26 (0, 0)) := by
          by_cases h0 : 0 < x.f5.length
          · obtain ⟨g, cap, e, h1, h2, cs, hc⟩ := Kd.R_form hrk (by rw [← HRL.out]; exact h0)
            injection e with e _ _
            exact ⟨g, fun _ => ⟨e, h1, cs, hc⟩⟩
          · exact ⟨0, fun h => absurd h h0⟩
        have hrnd : Rnd w1 wy b o x cb rs B3 B5 d3 d5 g0 ((wy.setCell ⟨b, o + 3, none⟩ (.slice B3 x.f3.length d3)).setCell ⟨b, o + 5, none⟩ (.slice B5 x.f5.length d5)) := ⟨hby, rfl, HCB.out, hra, hrk, HRL.out.symm, hg0⟩
        have haft := HAFT.out _ _ _ _ _ _ _ hrnd
        have hbk := hrnd.bk
        have hst2 := HST1.out.below hby
        have hst3 : StkPt w.heap.size s v1 qs ((wy.setCell ⟨b, o + 3, none⟩ (.slice B3 x.f3.length d3)).setCell ⟨b, o + 5, none⟩ (.slice B5 x.f5.length d5)) := hst2.far (far s hsb) (fun k hk => far k (hvb k hk))
        have hbl3 := ((below_then HBL1.out HBL1.out.size hby).setCell (p := ⟨b, o + 3, none⟩) hNb (.slice B3 x.f3.length d3)).setCell (p := ⟨b, o + 5, none⟩) hNb (.slice B5 x.f5.length d5)
        have hX2f := (far (w.heap.size + 1) (fun e => hNb1 e.symm)).trans ((hby.block _ (blk_lt HX21.out)).trans HX21.out)
        have hi5 := HI5.out
        obtain ⟨wz, hwz⟩ : ∃ wz, ((wy.setCell ⟨b, o + 3, none⟩ (.slice B3 x.f3.length d3)).setCell ⟨b, o + 5, none⟩ (.slice B5 x.f5.length d5)) = wz := ⟨_, rfl⟩
        rw [hwz] at hbk hst3 hbl3 hX2f haft ⊢
        have y5 : wz.cell? ⟨b, o + 5, none⟩ = some (.slice B5 x.f5.length d5) := by
          unfold World.cell? at hi5 ⊢
          rw [HCB.out] at hi5
          rw [hbk]
          simp only [Option.isSome_none, Bool.false_eq_true, if_false] at hi5 ⊢
          have h6 := (Array.getElem?_eq_some_iff.1 hi5).1
          rw [Array.getElem?_setIfInBounds_self_of_lt (by rw [Array.size_setIfInBounds]; exact h6)]
        have HST3 := hide hst3
        have HBL3 := hide hbl3
        have HX23 := hide hX2f
        have HG0 := hide hg0
        have HY5 := hide y5
        have HBK := hide hbk
        have HAF := hide haft
        clear hwz far hst2 hvb hby hra hrk hbk hst3 hbl3 hX2f hg0 hrnd haft hsb hbl hi5 hNb hNb1
        go_wp2_with fail
        clear y5
        go_loopg [39, 6] x.f5.length (fun g i _ wr2 => ∃ c : Nat, c + g = x.f5.length ∧ i = .int .i64 (c : Int) ∧ Aside0 (∃ v2, StkPt w.heap.size s v2 (qs ++ kidsP g0 c) wr2 ∧ Keep3 w.heap.size wz wr2 ∧ Below w.heap.size w wr2))
        case atStart => exact ⟨0, by omega, rfl, ⟨v1, by simpa [kidsP] using HST3.out, Keep3.refl _ _, HBL3.out⟩⟩
        case round =>
          obtain ⟨c, hcg, rfl, hin⟩ := hrel
          obtain ⟨v2, hst2, hkt, hbl2⟩ := hin.out
          clear hin
          have HKT := hide hkt
          have HST2 := hide hst2
          have HBL2 := hide hbl2
          by_cases hc : c < x.f5.length
          · obtain ⟨eB, -, -⟩ := HG0.out (by omega)
            have hyb := hkt.2.2 b _ 26 HBK.out (.inl rfl)
            have y5 := cell_blk HY5.out hyb
            rw [eB] at y5
            have j0 : (0 : Int) ≤ (c : Int) := by omega
            have j1 : (c : Int) < (x.f5.length : Int) := by omega
            have hpl : (qs ++ kidsP g0 c).length ≤ 1000000000 := by
              rw [List.length_append]
              unfold kidsP
              rw [List.length_map, List.length_range]
              omega
            have HPL := hide hpl
            have HCG := hide hcg
            have HC := hide hc
            clear hkt hst2 hbl2 hyb eB hpl hcg hc
            go_wp2_with fail
            refine (pushPt w.heap.size s v2 (qs ++ kidsP g0 c) (some ⟨g0, c * 6, none⟩) wr HST2.out HBL2.out.size HPL.out).mono ?_
            rintro e w' ⟨rfl, v3, hst4, hp4⟩
            dsimp only
            have HK4 := hide (HKT.out.trans (keep3_push HST2.out hp4))
            have HST4 := hide hst4
            have HBL4 := hide (HBL2.out.trans (HST2.out.step ⟨v3, hp4⟩ (Nat.le_refl _)))
            clear hst4 hp4
            go_wp2_with fail
            have hcg := HCG.out
            have hc := HC.out
            go_roundg (gk - 1)
            case measure => omega
            case rel => exact ⟨c + 1, by omega, by go_num, ⟨v3, by rw [kidsP_succ, ← List.append_assoc]; exact HST4.out, HK4.out, HBL4.out⟩⟩
          · have hcn : c = x.f5.length := by omega
            have hnc : ¬ (c : Int) < (x.f5.length : Int) := by omega
            have HCN := hide hcn
            clear hcn hcg hc hkt hst2 hbl2
            go_wp2_with fail
            have hcn := HCN.out
            have hW1 := W_eq x
            have hW2 := WK_apd us x.f5
            have hW3 := HWK.out
            have hW4 := HGM.out
            obtain ⟨N2, Z, T3, q3, T5, q5, hN, hN2, hT, ⟨zc, hz⟩, how⟩ := HAF.out.1
            have how := how c (by omega)
            rw [hcn, List.take_length] at how
            have hst9 := HST2.out
            rw [hcn] at hst9
            have hkt := HKT.out
            have hs := hkt.okT (N2 := N2) (Z := Z) HOK.out
            go_roundg (WK (us ++ x.f5))
            case measure => omega
            case rel => exact ⟨v2, _, us ++ x.f5, rfl, by omega, (hkt.2.2 _ _ _ HX23.out (.inl rfl)).trans HX23.out, HBL2.out, .inr ⟨⟨N2, Z, T3, q3, T5, q5, hN, Nat.le_trans hN2 hkt.1, hst9, how.step hs, (ALK_apd _ _ _).2 ⟨HAU.out, HAX.out⟩, hT.step hs (hkt.2.2 _ _ _ hT.box (.inl rfl)) (hkt.2.2 _ _ _ hz (.inl rfl)), zc, (hkt.2.2 _ _ _ hz (.inl rfl)).trans hz⟩, HAF.out.2.keep hkt hT.box⟩⟩
end Go.Proofs.Ytaponaemgolmoaa.Tr
namespace Go.Proofs.Ytaponaemgolmoaa.Tr
open Go.RowKit Go.Proofs.Ytaponaemgolmoaa.PTreeTells Go.Proofs.YtaponaemgolmoaaW.PrintWords Go.Proofs.YtaponaemgolmoaaW.PrintLast
set_option linter.unusedVariables false
set_option linter.unusedSimpArgs false
/-- A row in a block between N and U, other than Z. -/
def RowU (N U Z : Nat) (w : World) (B : Option Addr) (m sz : Nat) (ty : TypeId) : Prop := 0 < m → ∃ (g : Nat) (cs : Array Value), B = some ⟨g, 0, none⟩ ∧ N ≤ g ∧ g < U ∧ g ≠ Z ∧ w.heap[g]? = some (.cells cs ty (0, 0)) ∧ m * sz ≤ cs.size
def KidU (N U Z : Nat) (w : World) (j : Nat) (x : S26) : Prop := ∃ (B3 : Option Addr) (d3 : Nat) (B5 : Option Addr) (d5 : Nat), (∃ cz, w.heap[Z]? = some (.cells cz 26 (0, 0))) ∧ w.cell? ⟨Z, j * 6 + 3, none⟩ = some (.slice B3 x.f3.length d3) ∧ w.cell? ⟨Z, j * 6 + 5, none⟩ = some (.slice B5 x.f5.length d5) ∧ RowU N U Z w B3 x.f3.length 2 33 ∧ RowU N U Z w B5 x.f5.length 6 26
theorem FreshR.u {N Z m sz : Nat} {w : World} {B : Option Addr} {ty : TypeId} (h : FreshR N w Z B m sz ty) : RowU N w.heap.size Z w B m sz ty := fun hm => by
  obtain ⟨g, cs, h1, h2, h3, h4, h5⟩ := h hm
  exact ⟨g, cs, h1, h2, blk_lt h4, h3, h4, h5⟩
theorem KidF.u {N Z j : Nat} {w : World} {x : S26} (h : KidF N w Z j x) : KidU N w.heap.size Z w j x := by
  obtain ⟨B3, d3, B5, d5, h0, h1, h2, h3, h4⟩ := h
  exact ⟨B3, d3, B5, d5, h0, h1, h2, h3.u, h4.u⟩
theorem RowU.keep {N U Z m sz : Nat} {w w' : World} {B : Option Addr} {ty : TypeId} (h : RowU N U Z w B m sz ty) (hk : ∀ (k : Nat) (cs : Array Value), w.heap[k]? = some (.cells cs ty (0, 0)) → ∃ cs', w'.heap[k]? = some (.cells cs' ty (0, 0)) ∧ cs'.size = cs.size) : RowU N U Z w' B m sz ty := fun hm => by
  obtain ⟨g, cs, h1, h2, h3, h4, h5, h6⟩ := h hm
  obtain ⟨cs', h7, h8⟩ := hk g cs h5
  exact ⟨g, cs', h1, h2, h3, h4, h7, by omega⟩
theorem KidU.below {N U Z j : Nat} {w w' : World} {x : S26} (h : KidU N U Z w j x) (hb : Below w.heap.size w w') : KidU N U Z w' j x := by
  obtain ⟨B3, d3, B5, d5, ⟨cz, h0⟩, h1, h2, h3, h4⟩ := h
  have k : ∀ (ty : TypeId) (k : Nat) (cs : Array Value), w.heap[k]? = some (.cells cs ty (0, 0)) → ∃ cs', w'.heap[k]? = some (.cells cs' ty (0, 0)) ∧ cs'.size = cs.size := fun ty k cs hc => ⟨cs, (hb.block k (blk_lt hc)).trans hc, rfl⟩
  exact ⟨B3, d3, B5, d5, ⟨cz, (hb.block Z (blk_lt h0)).trans h0⟩, cellW h1 hb, cellW h2 hb, h3.keep (k 33), h4.keep (k 26)⟩
theorem set_keep {w : World} {ty : TypeId} (b o : Nat) (v : Value) (k : Nat) (cs : Array Value) (h : w.heap[k]? = some (.cells cs ty (0, 0))) : ∃ cs', (w.setCell ⟨b, o, none⟩ v).heap[k]? = some (.cells cs' ty (0, 0)) ∧ cs'.size = cs.size := by
  by_cases e : k = b
  · subst e
    exact ⟨_, blk_set h o v, by rw [Array.size_setIfInBounds]⟩
  · exact ⟨cs, (Below.heap_setCell _ _ _ _ e).trans h, rfl⟩
theorem cell_other {w : World} {b o Z q : Nat} {v u : Value} (hZ : ∃ cz, w.heap[Z]? = some (.cells cz 26 (0, 0))) (h : w.cell? ⟨Z, q, none⟩ = some u) (hne : b = Z → o ≠ q) : (w.setCell ⟨b, o, none⟩ v).cell? ⟨Z, q, none⟩ = some u := by
  by_cases e : Z = b
  · subst e
    obtain ⟨cz, hz⟩ := hZ
    rw [blk_cell hz] at h
    rw [blk_cell (blk_set hz o v), Array.getElem?_setIfInBounds_ne (hne rfl)]
    exact h
  · exact cell_blk h (Below.heap_setCell _ _ _ _ e)
theorem KidU.set {N U Z j : Nat} {w : World} {x : S26} (h : KidU N U Z w j x) (b o : Nat) (v : Value) (hne : b = Z → o ≠ j * 6 + 3 ∧ o ≠ j * 6 + 5) : KidU N U Z (w.setCell ⟨b, o, none⟩ v) j x := by
  obtain ⟨B3, d3, B5, d5, ⟨cz, h0⟩, h1, h2, h3, h4⟩ := h
  obtain ⟨cz', h9, _⟩ := set_keep (ty := 26) b o v Z cz h0
  exact ⟨B3, d3, B5, d5, ⟨cz', h9⟩, cell_other ⟨cz, h0⟩ h1 (fun e => (hne e).1), cell_other ⟨cz, h0⟩ h2 (fun e => (hne e).2), h3.keep (set_keep b o v), h4.keep (set_keep b o v)⟩
/-- What holds while the copy is turned. -/
structure Cop (N Z X4 : Nat) (box : Array Value) (t : S26) (w1 wr : World) : Prop where
  low : Below N w1 wr
  bx : wr.heap[X4]? = some (.cells box 26 (0, 0))
  kid : ∀ (j : Nat) (x : S26), t.f5[j]? = some x → KidU N X4 Z wr j x
theorem Cop.below {N Z X4 : Nat} {box : Array Value} {t : S26} {w1 w w' : World} (h : Cop N Z X4 box t w1 w) (hn : N ≤ w.heap.size) (hb : Below w.heap.size w w') : Cop N Z X4 box t w1 w' :=
  ⟨below_then h.low hn hb, (hb.block X4 (blk_lt h.bx)).trans h.bx, fun j x hj => (h.kid j x hj).below hb⟩
theorem Cop.set {N Z X4 : Nat} {box : Array Value} {t : S26} {w1 w : World} (h : Cop N Z X4 box t w1 w) {b o : Nat} (v : Value) (h1 : N ≤ b) (h2 : b < X4) (h3 : b = Z → o % 6 ≠ 3 ∧ o % 6 ≠ 5) : Cop N Z X4 box t w1 (w.setCell ⟨b, o, none⟩ v) :=
  ⟨h.low.setCell (p := ⟨b, o, none⟩) h1 v, (Below.heap_setCell _ _ _ _ (show X4 ≠ b by omega)).trans h.bx, fun j x hj => (h.kid j x hj).set b o v (fun e => ⟨by have := (h3 e).1; omega, by have := (h3 e).2; omega⟩)⟩
/-- The cells of a kid in the row. -/
theorem KidU.cell {N U Z j : Nat} {w : World} {x : S26} (h : KidU N U Z w j x) (i : Nat) (hi : i ≤ 5) : (∃ u, w.cell? ⟨Z, j * 6 + i, none⟩ = some u) ∧ ∀ q, w.frozen? ⟨Z, q, none⟩ = false := by
  obtain ⟨B3, d3, B5, d5, ⟨cz, h0⟩, h1, h2, h3, h4⟩ := h
  rw [blk_cell h0] at h2
  have := (Array.getElem?_eq_some_iff.1 h2).1
  exact ⟨⟨cz[j * 6 + i]'(by omega), by rw [blk_cell h0]; exact Array.getElem?_eq_getElem _⟩, fun q => blk_frozen h0 q⟩
theorem RowU.cell {N U Z m sz : Nat} {w : World} {B : Option Addr} {ty : TypeId} (h : RowU N U Z w B m sz ty) {k : Nat} (hk : k < m) : ∃ g, B = some ⟨g, 0, none⟩ ∧ N ≤ g ∧ g < U ∧ g ≠ Z ∧ (∀ i, i < sz → ∃ u, w.cell? ⟨g, k * sz + i, none⟩ = some u) ∧ ∀ q, w.frozen? ⟨g, q, none⟩ = false := by
  obtain ⟨g, cs, h1, h2, h3, h4, h5, h6⟩ := h (by omega)
  refine ⟨g, h1, h2, h3, h4, fun i hi => ?_, fun q => blk_frozen h5 q⟩
  have h7 : k * sz + i < cs.size := by
    have h8 : (k + 1) * sz ≤ m * sz := Nat.mul_le_mul hk (Nat.le_refl _)
    rw [Nat.add_mul, Nat.one_mul] at h8
    omega
  exact ⟨cs[k * sz + i], by rw [blk_cell h5]; exact Array.getElem?_eq_getElem _⟩
end Go.Proofs.Ytaponaemgolmoaa.Tr

/- What holds at the head of compare.Diff's loop. The walk of compare.Diff. -/
import Derived.Test.YteglfgmgpbablaaDoorCmpLabel
import Derived.Deep.LoopGhost
import Derived.Test.YteglfgmgpbablaaDoorWMore
namespace Go.Proofs.YteglfgmgpbablaaDoor.Cmp
open Go.RowKit Go.Proofs.YteglfgmgpbablaaDoor.PCompareTells Go.Proofs.YteglfgmgpbablaaDoorW.PrintWords Go.Proofs.YteglfgmgpbablaaDoorW.PrintLast
/-- A pointer to a tree, or to none. -/
def PT (w : World) (N : Nat) : Option Addr → Option S26 → Prop
  | none, none => True
  | some ad, some t => TAt w ad t ∧ AL N t
  | _, _ => False
structure PG (w : World) (N : Nat) (p : Pr) (g : G) : Prop where
  a : PT w N p.x0 g.a
  b : PT w N p.x1 g.b
  d : p.x2 = g.deep
  n : p.x3 = g.n
inductive Mt (w : World) (N : Nat) : List Pr → List G → Prop
  | nil : Mt w N [] []
  | cons {p : Pr} {g : G} {ps : List Pr} {gs : List G} (h : PG w N p g) (t : Mt w N ps gs) : Mt w N (p :: ps) (g :: gs)
theorem Mt.len {w : World} {N : Nat} {ps : List Pr} {gs : List G} (h : Mt w N ps gs) : ps.length = gs.length := by
  induction h with
  | nil => rfl
  | cons _ _ ih => simp [ih]
def DRel (w2 : World) (base s N M : Nat) (res : Option (List Int)) (g : Nat) (vw : Value) (wr : World) : Prop :=
  ∃ (way : List Int) (gs : List G) (xs : List Pr) (v : Value), TW gs = g ∧ ((∀ x ∈ gs, x.deep + g ≤ M) ∧ g ≤ M) ∧ StkPr base s v xs wr ∧ Kd.R (Kd.int .i64) 3 wr base (fun _ => True) vw way ∧ Below base w2 wr ∧ Mt w2 N xs.reverse gs ∧ Good way gs ∧ FF way gs = res
/-- Inside a round: some of the kids pushed. -/
def KRel (w2 : World) (base s N : Nat) (v8 : Nat) (pc : Pr) (vw : Value) (way : List Int) (l m : List S26) (d : Nat) (r : List G) (c : Nat) (wr : World) : Prop :=
  ∃ (xs : List Pr) (v : Value), StkPr base s v xs wr ∧ Kd.R (Kd.int .i64) 3 wr base (fun _ => True) vw way ∧ Below base w2 wr ∧ wr.heap[v8]? = some (.cells #[.pointer pc.x0, .pointer pc.x1, .int .i64 pc.x2, .int .i64 pc.x3] 56 (0, 0)) ∧ Mt w2 N xs.reverse (kidsG l m d c (max l.length m.length - c) ++ r) ∧ some v8 ≠ v.ownBlock ∧ v8 < wr.heap.size
/-- Behind a Pop, the way turned. -/
def RRel (w2 : World) (base s N M : Nat) (res : Option (List Int)) (g0 X : Nat) (vw : Value) (wx : World) : Prop :=
  ∃ (way : List Int) (g : G) (gs : List G) (p : Pr) (ps : List Pr) (v : Value), TW (g :: gs) = g0 ∧ ((∀ x ∈ g :: gs, x.deep + g0 ≤ M) ∧ g0 ≤ M) ∧ StkPr base s v ps.reverse wx ∧ Kd.R (Kd.int .i64) 3 wx base (fun _ => True) vw (way1 way g) ∧ Below base w2 wx ∧ wx.heap[X]? = some (.cells #[.pointer p.x0, .pointer p.x1, .int .i64 p.x2, .int .i64 p.x3] 56 (0, 0)) ∧ base ≤ X ∧ PG w2 N p g ∧ Mt w2 N ps gs ∧ Good way (g :: gs) ∧ FF way (g :: gs) = res ∧ some X ≠ v.ownBlock
theorem StkPr.over {base s : Nat} {v : Value} {xs : List Pr} {W1 w1 : World} {b : Nat} {ok : Nat → Prop} {u : Value} {ys : List Int} (h : StkPr base s v xs W1) (hr : (Kd.int .i64).R 3 W1 b ok u ys) (hg : W1.grownBy w1 u.ownBlock) : StkPr base s v xs w1 :=
  ⟨(hg.block s (blk_lt h.stk) (Kd.R_ne hr h.stk (by decide))).trans h.stk, Kd.R_over h.row hr (by decide) hg, h.bs⟩
theorem PT_kid {w : World} {N : Nat} {A : Option Addr} {l : List S26} (h : k26.C w A l.length l) (hA : ALK N l) (i : Nat) : PT w N (if i < l.length then A.map (·.add (i * 6)) else none) l[i]? := by
  by_cases hi : i < l.length
  · obtain ⟨ad, rfl, ht⟩ := TAt_kid h i hi
    rw [if_pos hi, show l[i]? = some (rd_T26 l (i : Int)) from by unfold rd_T26; simp [List.getD, hi]]
    exact ⟨ht, ALK_at N l i hi hA⟩
  · rw [if_neg hi, List.getElem?_eq_none (by omega)]
    trivial
theorem KRel.push {w2 wr w' w9 : World} {base s N v8 : Nat} {pc : Pr} {vw : Value} {way : List Int} {l m : List S26} {d : Nat} {r : List G} {c : Nat} {xs : List Pr} {v v1 : Value} {p : Pr} (hst : StkPr base s v xs w') (hst9 : StkPr base s v1 (xs ++ [p]) w9) (hp : Push_ w' w9 s v v1) (hb : Below wr.heap.size wr w') (hway : Kd.R (Kd.int .i64) 3 wr base (fun _ => True) vw way) (hb2 : Below base w2 wr) (hx : wr.heap[v8]? = some (.cells #[.pointer pc.x0, .pointer pc.x1, .int .i64 pc.x2, .int .i64 pc.x3] 56 (0, 0)))
    (hm : Mt w2 N xs.reverse (kidsG l m d (c + 1) (max l.length m.length - (c + 1)) ++ r)) (hne : some v8 ≠ v.ownBlock) (hc : c < max l.length m.length) (hpg : PG w2 N p ⟨l[c]?, m[c]?, d + 1, (c : Int)⟩) (hbase : base = w2.heap.size) : KRel w2 base s N v8 pc vw way l m d r c w9 := by
  have hx' := (hb.block _ (blk_lt hx)).trans hx
  have hs8 : v8 ≠ s := fun e => by
    subst e
    rw [hst.stk] at hx'
    injection hx' with hx'
    injection hx' with _ hx'
    exact absurd hx' (by decide)
  refine ⟨xs ++ [p], v1, hst9, Push_.kept rfl hp (Kd.R_below hway hb) hst.stk (by decide) hst.row (by decide), (below_step (by rw [hbase] at hb2; exact hb2) hb |>.mono (by rw [hbase]; exact Nat.le_refl _)).trans (hst.step ⟨_, hp⟩ (Nat.le_refl _)), (hp.keep.2 _ (blk_lt hx') hs8 hne).trans hx', ?_, ?_, Nat.lt_of_lt_of_le (blk_lt hx') hp.keep.1⟩
  · rw [List.reverse_append, List.reverse_singleton, List.singleton_append, show max l.length m.length - c = (max l.length m.length - (c + 1)) + 1 from by omega, kidsG, List.cons_append]
    exact .cons hpg hm
  · rcases hp.own with h | ⟨b, h, hb'⟩
    · rw [h]; exact hne
    · rw [h]
      intro e
      have := Option.some.inj e
      have := blk_lt hx'
      omega
end Go.Proofs.YteglfgmgpbablaaDoor.Cmp
namespace Go.Proofs.YteglfgmgpbablaaDoor.Cmp
open Go.RowKit Go.Proofs.YteglfgmgpbablaaDoor.PCompareTells Go.Proofs.YteglfgmgpbablaaDoorW.PrintWords Go.Proofs.YteglfgmgpbablaaDoorW.PrintLast Go.Proofs.YteglfgmgpbablaaDoorW.PrintMore
theorem kidsG_len (l m : List S26) (d : Nat) : ∀ c i, (kidsG l m d i c).length = c
  | 0, _ => rfl
  | c + 1, i => by rw [kidsG, List.length_cons, kidsG_len l m d c (i + 1)]
attribute [local go_sem] max2_int
set_option maxHeartbeats 40000000 in
set_option maxRecDepth 100000 in
theorem diff (N : Nat) (a b : S26) (A3 : Option Addr) (c3 : Nat) (A5 : Option Addr) (c5 : Nat) (B3 : Option Addr) (d3 : Nat) (B5 : Option Addr) (d5 : Nat) (w : World)
    (l3 : a.f3.length ≤ c3) (g3 : k47.C w A3 a.f3.length a.f3) (l5 : a.f5.length ≤ c5) (g5 : k26.C w A5 a.f5.length a.f5) (m3 : b.f3.length ≤ d3) (j3 : k47.C w B3 b.f3.length b.f3) (m5 : b.f5.length ≤ d5) (j5 : k26.C w B5 b.f5.length b.f5)
    (hN : N ≤ 1000000000) (ha : AL N a) (hb : AL N b) (hM : W a + W b ≤ 100000000) :
    Calls Tryd.prog 14 #[.agg #[.int .i64 a.f0, .int .i64 a.f1, .string a.f2, .slice A3 a.f3.length c3, .string a.f4, .slice A5 a.f5.length c5], .agg #[.int .i64 b.f0, .int .i64 b.f1, .string b.f2, .slice B3 b.f3.length d3, .string b.f4, .slice B5 b.f5.length d5]] w fun e w' =>
      ∃ v, e = .returned (.tuple #[v, .bool (resD (dif a b)).2]) ∧ Kd.R (Kd.int .i64) 3 w' w.heap.size (fun _ => True) v (resD (dif a b)).1 ∧ Below w.heap.size w w' := by
  obtain ⟨res, hres⟩ : ∃ res, dif a b = res := ⟨_, rfl⟩
  obtain ⟨M, hMe⟩ : ∃ M, W a + W b + 1 = M := ⟨_, rfl⟩
  have hb1 := below_alloc (Below.refl w.heap.size w) (.cells #[.int .i64 a.f0, .int .i64 a.f1, .string a.f2, .slice A3 a.f3.length c3, .string a.f4, .slice A5 a.f5.length c5] 26)
  have hs1 : (w.alloc (.cells #[.int .i64 a.f0, .int .i64 a.f1, .string a.f2, .slice A3 a.f3.length c3, .string a.f4, .slice A5 a.f5.length c5] 26)).heap.size = w.heap.size + 1 := by simp
  have hn1 := heap_alloc_new w (.cells #[.int .i64 a.f0, .int .i64 a.f1, .string a.f2, .slice A3 a.f3.length c3, .string a.f4, .slice A5 a.f5.length c5] 26)
  obtain ⟨w1, hw1⟩ : ∃ w1, w.alloc (.cells #[.int .i64 a.f0, .int .i64 a.f1, .string a.f2, .slice A3 a.f3.length c3, .string a.f4, .slice A5 a.f5.length c5] 26) = w1 := ⟨_, rfl⟩
  rw [hw1] at hb1 hs1 hn1
  have hb2 := below_alloc (Below.refl w1.heap.size w1) (.cells #[.int .i64 b.f0, .int .i64 b.f1, .string b.f2, .slice B3 b.f3.length d3, .string b.f4, .slice B5 b.f5.length d5] 26)
  have hn2 := heap_alloc_new w1 (.cells #[.int .i64 b.f0, .int .i64 b.f1, .string b.f2, .slice B3 b.f3.length d3, .string b.f4, .slice B5 b.f5.length d5] 26)
  obtain ⟨w2, hw2⟩ : ∃ w2, w1.alloc (.cells #[.int .i64 b.f0, .int .i64 b.f1, .string b.f2, .slice B3 b.f3.length d3, .string b.f4, .slice B5 b.f5.length d5] 26) = w2 := ⟨_, rfl⟩
  rw [hw2] at hb2 hn2
  rw [hs1] at hn2
  have hb02 := below_step hb1 hb2
  have ta : TAt w2 ⟨w.heap.size, 0, none⟩ a := TAt_blk ((hb2.block _ (blk_lt hn1)).trans hn1) l3 (Kd.C_below g3 hb02) l5 (Kd.C_below g5 hb02)
  have tb : TAt w2 ⟨w.heap.size + 1, 0, none⟩ b := TAt_blk hn2 m3 (Kd.C_below j3 hb02) m5 (Kd.C_below j5 hb02)
  have hroot : Mt w2 N [⟨some ⟨w.heap.size, 0, none⟩, some ⟨w.heap.size + 1, 0, none⟩, 0, 0⟩] [⟨some a, some b, 0, 0⟩] := .cons ⟨⟨ta, ha⟩, ⟨tb, hb⟩, rfl, rfl⟩ .nil
  have hFF : FF [] [⟨some a, some b, 0, 0⟩] = res := by
    rw [← hres, FF, itm]
    cases dif a b <;> rfl
  have hTW : TW [⟨some a, some b, 0, 0⟩] = M := by rw [← hMe]; simp only [TW, Wo]; omega
  have hGood : Good [] [⟨some a, some b, 0, 0⟩] := ⟨fun g hg => by rw [List.mem_singleton.1 hg]; simp, fun g hg _ => ⟨rfl, rfl⟩, List.pairwise_singleton ..⟩
  have HRT := hide hroot
  have HFF := hide hFF
  have HTW := hide hTW
  have HGD := hide hGood
  have HB02 := hide hb02
  have HMM := hide (show M ≤ 100000001 from by omega)
  have HW1 := hide hw1
  have HW2 := hide hw2
  rw [hres]
  clear hroot hFF hTW hGood hb02 hb1 hb2 hn1 hn2 ta tb g3 g5 j3 j5 ha hb hM hMe hres hw1 hw2
  obtain ⟨a0, a1, a2, a3, a4, a5⟩ := a
  obtain ⟨b0, b1, b2, b3, b4, b5⟩ := b
  dsimp only at *
  go_enter Tryd.func14, Tryd.ntmps14
  go_wp2_with fail
  rw [HW1.out, HW2.out]
  clear HW1 HW2 hs1
  refine (newPr w2.heap.size w2 (Nat.le_refl _)).mono ?_
  rintro e w3 ⟨s, rfl, hs3, hb3⟩
  dsimp only
  have HS3 := hide hs3
  have HB3 := hide hb3
  clear hs3 hb3
  go_wp2_with fail
  refine (pushPr w2.heap.size s _ [] ⟨some ⟨w.heap.size, 0, none⟩, some ⟨w.heap.size + 1, 0, none⟩, 0, 0⟩ w3 HS3.out HB3.out.size (by simp)).mono ?_
  rintro e w4 ⟨rfl, v4, hs4, hp4⟩
  dsimp only
  have HR4 := hide (show DRel w2 w2.heap.size s N M res M (.slice none 0 0) w4 from ⟨[], _, _, v4, HTW.out, ⟨fun x hx => by rw [List.mem_singleton.1 hx]; simp, Nat.le_refl _⟩, hs4, Kd.R_nil _ _ _ _ _, HB3.out.trans (HS3.out.step ⟨_, hp4⟩ (Nat.le_refl _)), HRT.out, HGD.out, HFF.out⟩)
  clear hs4 hp4 HTW HRT HGD HFF HS3 HB3
  go_wp2_with fail
  go_loopg [7, 8, 9, 10, 11] M (fun g vw _ _ _ _ wr => Aside0 (DRel w2 w2.heap.size s N M res g vw wr))
  case atStart => exact ⟨HR4.out⟩
  case round =>
    clear HR4
    obtain ⟨way, gs, xs, v, hg, hgM, hst, hway, hbw, hmt, hgood, hff⟩ := hrel.out
    clear hrel
    obtain ⟨ps, hps⟩ : ∃ ps, xs.reverse = ps := ⟨_, rfl⟩
    have hxs : xs = ps.reverse := by rw [← hps, List.reverse_reverse]
    rw [hps] at hmt
    subst hxs
    clear hps
    cases hmt with
    | nil =>
      have HST := hide hst
      have HBW := hide hbw
      have hr : res = none := by rw [← hff]; rfl
      subst hr
      clear hst hway hgood hff hg hgM
      go_wp2_with fail
      refine (popNonePr w2.heap.size s v wr HST.out).mono ?_
      rintro e w5 ⟨rfl, hb5⟩
      dsimp only
      have HB5 := hide (below_step HBW.out hb5)
      clear hb5 HST HBW
      go_wp2_with fail
      go_ret2
      exact ⟨_, rfl, Kd.R_nil _ _ _ _ _, HB02.out.trans (Below.mono (below_step HB5.out (below_alloc (Below.refl _ _) _)) HB02.out.size)⟩
    | @cons p g ps gs hpg ht =>
      obtain ⟨x0, x1, x2, x3⟩ := p
      obtain ⟨ga, gb, gd, gn⟩ := g
      obtain ⟨pa, pb, e2, e3⟩ := hpg
      dsimp only at e2 e3 pa pb
      subst e2
      subst e3
      rw [List.reverse_cons] at hst
      have HST := hide hst
      have HBW := hide hbw
      have HGOOD := hide hgood
      have HFF := hide hff
      have HPG := hide (show PG w2 N ⟨x0, x1, gd, x3⟩ ⟨ga, gb, gd, x3⟩ from ⟨pa, pb, rfl, rfl⟩)
      have HT := hide ht
      have HG := hide hg
      have HGM := hide hgM
      have hlen : ps.reverse.length ≤ 1000000000 := by
        have h1 := TW_len (⟨ga, gb, gd, x3⟩ :: gs)
        have h2 := ht.len
        have := HMM.out
        rw [List.length_cons] at h1
        rw [List.length_reverse]
        omega
      have hwlen := hgood.le _ (List.mem_cons_self ..)
      dsimp only at hwlen
      have HLEN := hide hlen
      obtain ⟨Aw, cw, rfl, hcw, _⟩ := Kd.R_reads hway
      have HWAY := hide hway
      have HWL := hide hwlen
      have HCW := hide hcw
      clear hst hway hbw hgood hff pa pb ht hg hgM hlen hwlen hcw
      go_wp2_with fail
      refine (popPr w2.heap.size s v ps.reverse ⟨x0, x1, gd, x3⟩ wr HST.out HLEN.out).mono ?_
      rintro e w5 ⟨rfl, v5, hs5, hp5⟩
      dsimp only
      have hb5 := HBW.out.trans (HST.out.step ⟨_, hp5⟩ (Nat.le_refl _))
      have hW5 := Push_.kept rfl hp5 HWAY.out HST.out.stk (by decide) HST.out.row (by decide)
      have hba := below_alloc (Below.refl w5.heap.size w5) (.cells #[.pointer x0, .pointer x1, .int .i64 gd, .int .i64 x3] 56)
      have hX := heap_alloc_new w5 (.cells #[.pointer x0, .pointer x1, .int .i64 gd, .int .i64 x3] 56)
      have HS5 := hide (hs5.below hba)
      have HB5 := hide (below_step hb5 hba)
      have HW5 := hide (Kd.R_below hW5 hba)
      have HX := hide hX
      have HXB := hide hb5.size
      have HXO := hide (show some w5.heap.size ≠ v5.ownBlock from fun e => by have := Kd.R_lt hs5.row _ e.symm; omega)
      clear hs5 hp5 HST HWAY HBW HLEN hb5 hW5 hba hX
      obtain ⟨wX, hwX⟩ : ∃ wX, w5.alloc (.cells #[.pointer x0, .pointer x1, .int .i64 (gd : Int), .int .i64 x3] 56) = wX := ⟨_, rfl⟩
      rw [hwX] at HS5 HB5 HW5 HX
      have z2 : wX.cell? ⟨w5.heap.size, 2, none⟩ = some (.int .i64 (gd : Int)) := cell_of_row _ _ 2 _ _ _ HX.out
      have z3 : wX.cell? ⟨w5.heap.size, 3, none⟩ = some (.int .i64 x3) := cell_of_row _ _ 3 _ _ _ HX.out
      go_upto_if 25 with fail
      (try rw [hwX])
      clear hwX
      go_cut [7] from 16 to 34 (fun vw wx => RRel w2 w2.heap.size s N M res gk w5.heap.size vw wx)
      case first =>
        cases gd with
        | zero =>
          go_wp2_with fail
          go_meet
          exact ⟨way, _, gs, _, ps, v5, HG.out, HGM.out, HS5.out, HW5.out, HB5.out, HX.out, HXB.out, HPG.out, HT.out, HGOOD.out, HFF.out, HXO.out⟩
        | succ k =>
          have hkw : k ≤ way.length := by have := HWL.out; omega
          obtain ⟨i3, hi3, hs3⟩ : ∃ i, Tryd.prog.info? 3 = some i ∧ i.size = 1 := by
            obtain ⟨i0, hi, hzz⟩ := Option.map_eq_some_iff.1 info3
            simp only [Prod.mk.injEq] at hzz
            exact ⟨i0, hi, hzz.2.1⟩
          have q1 := cut_to (P := Tryd.prog) 31 3 .i64 Tryd.underlying31 hi3 Aw way.length cw (k : Int) (by omega) (by omega) HCW.out
          rw [Int.toNat_natCast] at q1
          have HRT := hide (Kd.R_drew (Kd.R_take HW5.out hkw))
          have z2' : (wX.alloc (.cells #[.int .i64 x3] 3)).cell? ⟨w5.heap.size, 2, none⟩ = some (.int .i64 ((k + 1 : Nat) : Int)) := cellW z2 (below_alloc (Below.refl _ _) _)
          have HBX := hide HB5.out.size
          have HKL := hide (show (way.take k).length = k from by rw [List.length_take]; omega)
          have hk9 : k ≤ 1000000000 := by
            have h1 := HGM.out.1 _ (List.mem_cons_self ..)
            have := HMM.out
            dsimp only at h1
            omega
          have hwk : IntKind.i64.wrap (k : Int) = k := IntWalk.i64_in _ (by omega)
          have HK9 := hide hk9
          clear hs3 hi3 hkw
          go_wp2_with fail
          go_region_law
            (first | (refine Kd.R_append_step (Kd.int .i64) (w0 := wX.drew) w2.heap.size rfl (.tmp 30) (.tmp 33) 31 3 (.int .i64 0) 8 rfl Tryd.underlying31 info3 rfl (by decide) (by decide) (.slice Aw k cw) (way.take k) x3 [.int .i64 x3] (fun _ => True) (fun _ => False) rfl rfl rfl (fun k hk => hk.elim) (fun _ _ => trivial) HRT.out (Below.refl _ _) HBX.out (by rw [HKL.out]; have := HK9.out; omega) ?_; intro v1 wA ho hb2 hg hown; have HO := hide ho; have HG8 := hide hg; have HB8 := hide hb2; clear ho hb2 hg hown))
          all_goals (
            go_wp2_with fail
            go_meet
            exact ⟨way, ⟨ga, gb, k + 1, x3⟩, gs, ⟨x0, x1, ((k + 1 : Nat) : Int), x3⟩, ps, v5, HG.out, HGM.out, (HS5.out.below (below_drew (Below.refl _ _))).over HRT.out HG8.out, HO.out, HB5.out.drew.trans HB8.out, (HG8.out.block _ (blk_lt HX.out) (Kd.R_ne HRT.out HX.out (by decide))).trans HX.out, HXB.out, HPG.out, HT.out, HGOOD.out, HFF.out, HXO.out⟩)
      case rest =>
        clear HS5 HB5 HW5 HX HXB HPG HT HGOOD HFF HG HGM HWL HCW z2 z3 HXO
        obtain ⟨way, ⟨ga, gb, gd, gn⟩, gs, ⟨x0, x1, x2, x3⟩, ps, v7, hg, hgM, hs7, hway, hb7, hX7, hXB, hpg, ht, hgood, hff, hxo⟩ := hcut
        obtain ⟨pa, pb, e2, e3⟩ := hpg
        dsimp only at e2 e3 pa pb hX7
        subst e2
        subst e3
        have z0 : wc.cell? ⟨w5.heap.size, 0, none⟩ = some (.pointer x0) := cell_of_row _ _ 0 _ _ _ hX7
        have z1 : wc.cell? ⟨w5.heap.size, 1, none⟩ = some (.pointer x1) := cell_of_row _ _ 1 _ _ _ hX7
        have z2 : wc.cell? ⟨w5.heap.size, 2, none⟩ = some (.int .i64 (gd : Int)) := cell_of_row _ _ 2 _ _ _ hX7
        have z3 : wc.cell? ⟨w5.heap.size, 3, none⟩ = some (.int .i64 x3) := cell_of_row _ _ 3 _ _ _ hX7
        --REST
        obtain ⟨Aw, cw, rfl, hcw, hCw⟩ := Kd.R_reads hway
        have hlen := way1_len hgood
        have hll : gd ≤ 200000000 := by
          have h1 := hgM.1 _ (List.mem_cons_self ..)
          have := HMM.out
          dsimp only at h1
          omega
        have hstop := FF_stop hgood
        have hstep := fun (ta tb : S26) h1 h2 h3 => FF_step hgood (a := ta) (b := tb) h1 h2 h3
        have hgst := fun l m c i => Good_step hgood l m c i
        simp only [hff] at hstop hstep
        obtain ⟨L, hL⟩ : ∃ L, way1 way ⟨ga, gb, gd, x3⟩ = L := ⟨_, rfl⟩
        simp only [hL] at hlen hCw hway hstop hstep hgst ⊢
        (try dsimp only at hlen hstop hstep hgst)
        have HLL := hide (show L.length ≤ 200000000 from by omega)
        have HGD := hide hll
        have HS7 := hide hs7
        have HWAY := hide hway
        have HCW := hide hCw
        have HB7 := hide hb7
        have HX7 := hide hX7
        have HXB := hide hXB
        have HXO := hide hxo
        have HPA := hide pa
        have HPB := hide pb
        have HT := hide ht
        have HG := hide hg
        have HGM := hide hgM
        have HLG := hide hlen
        have HSTP := hide hstop
        have HSTEP := hide hstep
        have HGST := hide hgst
        clear hs7 hway hCw hb7 hX7 hXB pa pb ht hg hgM hlen hstop hstep hgst hL hgood hff hcw hll hxo
        cases ga with
        | none =>
          cases x0 with
          | some _ => exact HPA.out.elim
          | none =>
            have hr : res = some L := HSTP.out rfl
            subst hr
            clear HSTEP HSTP
            go_wp2_with (at_builtin; refine Kd.R_append_rows (Kd.int .i64) (Rr := (Kd.int .i64).K (wc)) (w0 := w2) w2.heap.size rfl (.const (.slice none 0 0)) (.tmp 51) 31 3 (.int .i64 0) 8 rfl Tryd.underlying31 info3 rfl (by decide) (by decide) (.slice none 0 0) [] L Aw L.length cw (fun _ => True) (fun _ => False) rfl rfl (Kd.R_nil _ _ _ _ _) HCW.out (fun _ _ h => h) (fun k hk => hk.elim) (fun _ _ => trivial) HB7.out (HB7.out).size (by have := HLL.out; simp; omega) ?_; intro v1 w9 ho hb hg hown; have HO9 := hide ho; have HB9 := hide hb; clear ho hb hg hown)
            go_ret2
            exact ⟨v1, rfl, Kd.R_lower (by have := HO9.out; rw [List.nil_append] at this; exact this) HB02.out.size, HB02.out.trans (Below.mono HB9.out HB02.out.size)⟩
        | some ta =>
          cases x0 with
          | none => exact HPA.out.elim
          | some pa =>
            cases gb with
            | none =>
              cases x1 with
              | some _ => exact HPB.out.elim
              | none =>
                have hr : res = some L := HSTP.out rfl
                subst hr
                clear HSTEP HSTP
                go_wp2_with (at_builtin; refine Kd.R_append_rows (Kd.int .i64) (Rr := (Kd.int .i64).K (wc)) (w0 := w2) w2.heap.size rfl (.const (.slice none 0 0)) (.tmp 51) 31 3 (.int .i64 0) 8 rfl Tryd.underlying31 info3 rfl (by decide) (by decide) (.slice none 0 0) [] L Aw L.length cw (fun _ => True) (fun _ => False) rfl rfl (Kd.R_nil _ _ _ _ _) HCW.out (fun _ _ h => h) (fun k hk => hk.elim) (fun _ _ => trivial) HB7.out (HB7.out).size (by have := HLL.out; simp; omega) ?_; intro v1 w9 ho hb hg hown; have HO9 := hide ho; have HB9 := hide hb; clear ho hb hg hown)
                go_ret2
                exact ⟨v1, rfl, Kd.R_lower (by have := HO9.out; rw [List.nil_append] at this; exact this) HB02.out.size, HB02.out.trans (Below.mono HB9.out HB02.out.size)⟩
            | some tb =>
              cases x1 with
              | none => exact HPB.out.elim
              | some pb =>
                have hal := HPA.out.2
                rw [AL_eq] at hal
                go_wp2_with fail
                refine (label pa pb ta tb wc (HPA.out.1.below HB7.out) (HPB.out.1.below HB7.out) (by omega)).mono ?_
                rintro e w8 ⟨rfl, ⟨⟨nd, rfl⟩⟩⟩
                dsimp only
                cases hlab : labL ta tb with
                | false =>
                  have hr : res = some L := HSTP.out (itm_lab hlab)
                  subst hr
                  clear HSTEP HSTP hlab
                  go_wp2_with (at_builtin; refine Kd.R_append_rows (Kd.int .i64) (Rr := (Kd.int .i64).K (wc.drewN nd)) (w0 := w2) w2.heap.size rfl (.const (.slice none 0 0)) (.tmp 51) 31 3 (.int .i64 0) 8 rfl Tryd.underlying31 info3 rfl (by decide) (by decide) (.slice none 0 0) [] L Aw L.length cw (fun _ => True) (fun _ => False) rfl rfl (Kd.R_nil _ _ _ _ _) (Kd.C_drewN HCW.out nd) (fun _ _ h => h) (fun k hk => hk.elim) (fun _ _ => trivial) (pw_below_drewN HB7.out nd) ((pw_below_drewN HB7.out nd)).size (by have := HLL.out; simp; omega) ?_; intro v1 w9 ho hb hg hown; have HO9 := hide ho; have HB9 := hide hb; clear ho hb hg hown)
                  go_ret2
                  exact ⟨v1, rfl, Kd.R_lower (by have := HO9.out; rw [List.nil_append] at this; exact this) HB02.out.size, HB02.out.trans (Below.mono HB9.out HB02.out.size)⟩
                | true =>
                  have hres := HSTEP.out ta tb rfl rfl hlab
                  have hb8 := pw_below_drewN (Below.refl wc.heap.size wc) nd
                  obtain ⟨_, _, AK, cK, _, _, _, _, _, k5, _, _, lK, gK⟩ := HPA.out.1
                  obtain ⟨_, _, BK, dK, _, _, _, _, _, q5, _, _, mK, jK⟩ := HPB.out.1
                  have HS8 := hide (HS7.out.below hb8)
                  have HW8 := hide (Kd.R_below HWAY.out hb8)
                  have HB8 := hide (below_step HB7.out hb8)
                  have HX8 := hide ((hb8.block _ (blk_lt HX7.out)).trans HX7.out)
                  have HRES := hide hres
                  have HAL := hide (show ALK N ta.f5 ∧ ALK N tb.f5 from ⟨hal.2, by have h := HPB.out.2; rw [AL_eq] at h; exact h.2⟩)
                  obtain ⟨w8, hw8⟩ : ∃ w8, wc.drewN nd = w8 := ⟨_, rfl⟩
                  rw [hw8] at HS8 HW8 HB8 HX8 ⊢
                  clear hw8 hb8 hres HSTEP HSTP hlab HS7 HWAY HB7 HX7 HCW z0 z1 z2 z3 hal
                  have z0 : w8.cell? ⟨w5.heap.size, 0, none⟩ = some (.pointer (some pa)) := cell_of_row _ _ 0 _ _ _ HX8.out
                  have z1 : w8.cell? ⟨w5.heap.size, 1, none⟩ = some (.pointer (some pb)) := cell_of_row _ _ 1 _ _ _ HX8.out
                  have hGK := gK
                  have hJK := jK
                  have HGK := hide hGK
                  have HJK := hide hJK
                  have hlt : ta.f5.length + tb.f5.length ≤ 200000000 := by
                    have h1 := HG.out
                    have h2 := HGM.out.2
                    have h3 := HMM.out
                    have h4 := W_eq ta
                    have h5 := WK_len ta.f5
                    have h6 := W_eq tb
                    have h7 := WK_len tb.f5
                    simp only [TW, Wo] at h1
                    omega
                  obtain ⟨la, hlae⟩ : ∃ la, ta.f5.length = la := ⟨_, rfl⟩
                  obtain ⟨lb, hlbe⟩ : ∃ lb, tb.f5.length = lb := ⟨_, rfl⟩
                  rw [hlae] at k5 lK
                  rw [hlbe] at q5 mK
                  rw [hlae, hlbe] at hlt
                  have HLA := hide hlae
                  have HLB := hide hlbe
                  have HK5 := hide k5
                  have HQ5 := hide q5
                  have HLK := hide lK
                  have HMK := hide mK
                  obtain ⟨g0, hg0⟩ : ∃ g0, g0 = gk := ⟨_, rfl⟩
                  rw [← hg0] at HG HGM
                  have HG0 := hide hg0
                  clear hg0
                  have hla : la ≤ 200000000 := by omega
                  have hlb : lb ≤ 200000000 := by omega
                  have k5' := cellW k5 HB8.out
                  have q5' := cellW q5 HB8.out
                  clear hlae hlbe gK jK hGK hJK k5 q5 lK mK
                  go_wp2_with fail
                  go_region
                  obtain ⟨mx, hmx⟩ : ∃ mx, max la lb = mx := ⟨_, rfl⟩
                  have hmi : (if la < lb then (lb : Int) else (la : Int)) = (mx : Int) := by split <;> omega
                  rw [hmi]
                  clear hmi
                  have HK0 := hide (show KRel w2 w2.heap.size s N w5.heap.size ⟨some pa, some pb, gd, x3⟩ (.slice Aw L.length cw) L ta.f5 tb.f5 gd gs mx w8.drew from ⟨ps.reverse, v7, HS8.out.below (below_drew (Below.refl _ _)), Kd.R_drew HW8.out, HB8.out.drew, HX8.out, by rw [HLA.out, HLB.out, hmx, Nat.sub_self, List.reverse_reverse]; exact HT.out, HXO.out, blk_lt HX8.out⟩)
                  clear z0 z1 k5' q5' HS8 HW8 HB8 HX8 HXO HT
                  go_wp2_with fail
                  go_loopg [10, 11] mx (fun c i _ wr => c ≤ mx ∧ i = .int .i64 ((c : Int) - 1) ∧ Aside0 (KRel w2 w2.heap.size s N w5.heap.size ⟨some pa, some pb, gd, x3⟩ (.slice Aw L.length cw) L ta.f5 tb.f5 gd gs c wr))
                  case atStart => exact ⟨Nat.le_refl _, rfl, ⟨HK0.out⟩⟩
                  case round =>
                    clear HK0
                    obtain ⟨hc, rfl, HKR⟩ := hrel
                    cases gk with
                    | zero =>
                      have ci : ((0 : Nat) : Int) - 1 = -1 := by omega
                      rw [ci]
                      go_wp2_with fail
                      obtain ⟨xs, v, hst, hway, hbw, hx, hmt, hne, hxl⟩ := HKR.out
                      rw [Nat.sub_zero] at hmt
                      have hTk := TW_kids ta.f5 tb.f5 gd (max ta.f5.length tb.f5.length) 0 (by omega)
                      have hTA := TW_app (kidsG ta.f5 tb.f5 gd 0 (max ta.f5.length tb.f5.length)) gs
                      rw [List.drop_zero, List.drop_zero] at hTk
                      have h1 := HG.out
                      have h2 := HGM.out
                      have h4 := W_eq ta
                      have h6 := W_eq tb
                      have h8 := HG0.out
                      simp only [TW, Wo] at h1
                      go_roundg (TW (kidsG ta.f5 tb.f5 gd 0 (max ta.f5.length tb.f5.length) ++ gs))
                      case measure => omega
                      case rel =>
                        refine ⟨⟨L, _, xs, v, rfl, ⟨fun x hx => ?_, by omega⟩, hst, hway, hbw, hmt, HGST.out _ _ _ _, HRES.out.symm⟩⟩
                        rcases List.mem_append.1 hx with hx | hx
                        · have := kidsG_deep _ _ _ _ _ x hx
                          have h3 := h2.1 _ (List.mem_cons_self ..)
                          dsimp only at h3
                          omega
                        · have := h2.1 x (List.mem_cons_of_mem _ hx)
                          omega
                    | succ c =>
                      obtain ⟨xs, v, hst, hway, hbw, hx, hmt, hne, hxl⟩ := HKR.out
                      clear HKR
                      dsimp only at hx
                      have hxlen := hmt.len
                      rw [List.length_reverse] at hxlen
                      have HST := hide hst
                      have HWAY := hide hway
                      have HBW := hide hbw
                      have HXX := hide hx
                      have HMT := hide hmt
                      have HNE := hide hne
                      have hxl9 : xs.length ≤ 1000000000 := by
                        rw [hxlen, List.length_append, kidsG_len, HLA.out, HLB.out]
                        have h0 := TW_len gs
                        have h1 := HG.out
                        have h2 := HGM.out.2
                        have h3 := HMM.out
                        simp only [TW, Wo] at h1
                        omega
                      have HXL := hide hxl9
                      have z0 : wr.cell? ⟨w5.heap.size, 0, none⟩ = some (.pointer (some pa)) := cell_of_row _ _ 0 _ _ _ hx
                      have z1 : wr.cell? ⟨w5.heap.size, 1, none⟩ = some (.pointer (some pb)) := cell_of_row _ _ 1 _ _ _ hx
                      have z2 : wr.cell? ⟨w5.heap.size, 2, none⟩ = some (.int .i64 gd) := cell_of_row _ _ 2 _ _ _ hx
                      have k5' := cellW HK5.out hbw
                      have q5' := cellW HQ5.out hbw
                      have a0 := below_alloc (Below.refl wr.heap.size wr)
                      have y0 := fun o => cellW z0 (a0 o)
                      have y1 := fun o => cellW z1 (a0 o)
                      have y5 := fun o => cellW k5' (a0 o)
                      have y6 := fun o => cellW q5' (a0 o)
                      clear hst hway hbw hx hmt hne hxlen hxl hxl9 a0
                      have ci : ((c + 1 : Nat) : Int) - 1 = c := by omega
                      have c0 : (0 : Int) ≤ c := by omega
                      have gd9 : (gd : Int) ≤ 200000000 := by have := HGD.out; omega
                      have gd0 : (0 : Int) ≤ gd := by omega
                      have hcm : c < mx := by omega
                      rw [ci]
                      by_cases h1 : c < la
                      · by_cases h2 : c < lb
                        · skip
                          obtain ⟨ak, hak, -⟩ := TAt_kid HGK.out c (by rw [HLA.out]; omega)
                          subst hak
                          obtain ⟨bk, hbk, -⟩ := TAt_kid HJK.out c (by rw [HLB.out]; omega)
                          subst hbk
                          have hpg : PG w2 N ⟨(some (ak.add (c * 6))), (some (bk.add (c * 6))), (gd : Int) + 1, (c : Int)⟩ ⟨ta.f5[c]?, tb.f5[c]?, gd + 1, (c : Int)⟩ := ⟨by have h := PT_kid HGK.out HAL.out.1 c; rw [HLA.out] at h; rw [if_pos h1] at h; exact h, by have h := PT_kid HJK.out HAL.out.2 c; rw [HLB.out] at h; rw [if_pos h2] at h; exact h, rfl, rfl⟩
                          have HPGN := hide hpg
                          have i1 : (c : Int) < la := by omega
                          have i2 : (c : Int) < lb := by omega
                          have HNEW := hide (heap_alloc_new wr (.cells #[.pointer (some (ak.add (c * 6))), .pointer (some (bk.add (c * 6))), .int .i64 ((gd : Int) + 1), .int .i64 c] 56))
                          clear hpg h1 h2
                          go_wp2_with fail
                          refine (pushPr w2.heap.size s v xs ⟨(some (ak.add (c * 6))), (some (bk.add (c * 6))), (gd : Int) + 1, (c : Int)⟩ _ (HST.out.below (below_alloc (Below.refl _ _) _)) (by simp; have := HBW.out.size; omega) HXL.out).mono ?_
                          rintro e w9 ⟨rfl, v1, hs9, hp9⟩
                          dsimp only
                          have HK9 := hide (KRel.push (c := c) (pc := ⟨some pa, some pb, gd, x3⟩) (HST.out.below (below_alloc (Below.refl _ _) _)) hs9 hp9 (below_alloc (Below.refl _ _) _) HWAY.out HBW.out HXX.out HMT.out HNE.out (by rw [HLA.out, HLB.out]; omega) HPGN.out rfl)
                          clear hs9 hp9 HST HWAY HBW HXX HMT HNE HXL HPGN HNEW k5' q5' z0 z1 z2 y0 y1 y5 y6
                          go_wp2_with fail
                          go_roundg c
                          case measure => omega
                          case rel => exact ⟨by omega, by go_num, ⟨HK9.out⟩⟩
                        · skip
                          obtain ⟨ak, hak, -⟩ := TAt_kid HGK.out c (by rw [HLA.out]; omega)
                          subst hak
                          have hpg : PG w2 N ⟨(some (ak.add (c * 6))), none, (gd : Int) + 1, (c : Int)⟩ ⟨ta.f5[c]?, tb.f5[c]?, gd + 1, (c : Int)⟩ := ⟨by have h := PT_kid HGK.out HAL.out.1 c; rw [HLA.out] at h; rw [if_pos h1] at h; exact h, by have h := PT_kid HJK.out HAL.out.2 c; rw [HLB.out] at h; rw [if_neg h2] at h; exact h, rfl, rfl⟩
                          have HPGN := hide hpg
                          have i1 : (c : Int) < la := by omega
                          have i2 : ¬ (c : Int) < lb := by omega
                          have HNEW := hide (heap_alloc_new wr (.cells #[.pointer (some (ak.add (c * 6))), .pointer none, .int .i64 ((gd : Int) + 1), .int .i64 c] 56))
                          clear hpg h1 h2
                          go_wp2_with fail
                          refine (pushPr w2.heap.size s v xs ⟨(some (ak.add (c * 6))), none, (gd : Int) + 1, (c : Int)⟩ _ (HST.out.below (below_alloc (Below.refl _ _) _)) (by simp; have := HBW.out.size; omega) HXL.out).mono ?_
                          rintro e w9 ⟨rfl, v1, hs9, hp9⟩
                          dsimp only
                          have HK9 := hide (KRel.push (c := c) (pc := ⟨some pa, some pb, gd, x3⟩) (HST.out.below (below_alloc (Below.refl _ _) _)) hs9 hp9 (below_alloc (Below.refl _ _) _) HWAY.out HBW.out HXX.out HMT.out HNE.out (by rw [HLA.out, HLB.out]; omega) HPGN.out rfl)
                          clear hs9 hp9 HST HWAY HBW HXX HMT HNE HXL HPGN HNEW k5' q5' z0 z1 z2 y0 y1 y5 y6
                          go_wp2_with fail
                          go_roundg c
                          case measure => omega
                          case rel => exact ⟨by omega, by go_num, ⟨HK9.out⟩⟩
                      · by_cases h2 : c < lb
                        · skip
                          obtain ⟨bk, hbk, -⟩ := TAt_kid HJK.out c (by rw [HLB.out]; omega)
                          subst hbk
                          have hpg : PG w2 N ⟨none, (some (bk.add (c * 6))), (gd : Int) + 1, (c : Int)⟩ ⟨ta.f5[c]?, tb.f5[c]?, gd + 1, (c : Int)⟩ := ⟨by have h := PT_kid HGK.out HAL.out.1 c; rw [HLA.out] at h; rw [if_neg h1] at h; exact h, by have h := PT_kid HJK.out HAL.out.2 c; rw [HLB.out] at h; rw [if_pos h2] at h; exact h, rfl, rfl⟩
                          have HPGN := hide hpg
                          have i1 : ¬ (c : Int) < la := by omega
                          have i2 : (c : Int) < lb := by omega
                          have HNEW := hide (heap_alloc_new wr (.cells #[.pointer none, .pointer (some (bk.add (c * 6))), .int .i64 ((gd : Int) + 1), .int .i64 c] 56))
                          clear hpg h1 h2
                          go_wp2_with fail
                          refine (pushPr w2.heap.size s v xs ⟨none, (some (bk.add (c * 6))), (gd : Int) + 1, (c : Int)⟩ _ (HST.out.below (below_alloc (Below.refl _ _) _)) (by simp; have := HBW.out.size; omega) HXL.out).mono ?_
                          rintro e w9 ⟨rfl, v1, hs9, hp9⟩
                          dsimp only
                          have HK9 := hide (KRel.push (c := c) (pc := ⟨some pa, some pb, gd, x3⟩) (HST.out.below (below_alloc (Below.refl _ _) _)) hs9 hp9 (below_alloc (Below.refl _ _) _) HWAY.out HBW.out HXX.out HMT.out HNE.out (by rw [HLA.out, HLB.out]; omega) HPGN.out rfl)
                          clear hs9 hp9 HST HWAY HBW HXX HMT HNE HXL HPGN HNEW k5' q5' z0 z1 z2 y0 y1 y5 y6
                          go_wp2_with fail
                          go_roundg c
                          case measure => omega
                          case rel => exact ⟨by omega, by go_num, ⟨HK9.out⟩⟩
                        · exact absurd hcm (by omega)
end Go.Proofs.YteglfgmgpbablaaDoor.Cmp

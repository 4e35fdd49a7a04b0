/- The walk of tree.Same. -/
import Derived.Test.YtaponaemgolmoaaTrEq
import Derived.Test.YtaponaemgolmoaaTrLabel
import Derived.Test.YtaponaemgolmoaaTrStkPt
import Derived.Deep.LoopGhost
namespace Go.Proofs.Ytaponaemgolmoaa.Tr
open Go.RowKit Go.Proofs.Ytaponaemgolmoaa.PTreeTells Go.Proofs.YtaponaemgolmoaaW.PrintWords Go.Proofs.YtaponaemgolmoaaW.PrintLast
set_option linter.unusedVariables false
set_option linter.unusedSimpArgs false
/-- Pairs of places, and the trees that lie there. -/
inductive M2 (w : World) (N : Nat) : List Tw → List (S26 × S26) → Prop
  | nil : M2 w N [] []
  | cons {p q : Addr} {a b : S26} {xs : List Tw} {gs : List (S26 × S26)} (ha : TAt w p a) (hb : TAt w q b) (hn : AL N a) (t : M2 w N xs gs) : M2 w N (⟨some p, some q⟩ :: xs) ((a, b) :: gs)
theorem M2.len {w : World} {N : Nat} {xs : List Tw} {gs : List (S26 × S26)} (h : M2 w N xs gs) : xs.length = gs.length := by
  induction h with
  | nil => rfl
  | cons _ _ _ _ ih => simp [ih]
/-- What is still to be held against one another. -/
def W2 : List (S26 × S26) → Nat
  | [] => 0
  | p :: l => W p.1 + W2 l
theorem W2_len : ∀ l : List (S26 × S26), l.length ≤ W2 l
  | [] => Nat.le_refl _
  | p :: l => by
    have := W2_len l
    have := W_eq p.1
    rw [W2, List.length_cons]
    omega
theorem W2_app : ∀ l m : List (S26 × S26), W2 (l ++ m) = W2 l + W2 m
  | [], m => by simp [W2]
  | p :: l, m => by rw [List.cons_append, W2, W2, W2_app l m]; omega
def eqs (l : List (S26 × S26)) : Bool := l.all fun p => eqT p.1 p.2
theorem eqs_app (l m : List (S26 × S26)) : eqs (l ++ m) = (eqs l && eqs m) := by unfold eqs; rw [List.all_append]
theorem eqs_rev (l : List (S26 × S26)) : eqs l.reverse = eqs l := by unfold eqs; rw [List.all_reverse]
theorem W2_rev : ∀ l : List (S26 × S26), W2 l.reverse = W2 l
  | [] => rfl
  | p :: l => by rw [List.reverse_cons, W2_app, W2_rev l, W2, W2, W2]; omega
theorem W2_zip : ∀ l m : List S26, W2 (l.zip m) ≤ WK l
  | [], _ => by simp [W2]
  | _ :: _, [] => by simp [W2]
  | x :: l, y :: m => by
    have := W2_zip l m
    rw [List.zip_cons_cons, W2, WK]
    dsimp only
    omega
/-- Inside a round: so many pairs of kids pushed. -/
def IRel (w2 : World) (base s N v8 : Nat) (p q : Addr) (gs : List (S26 × S26)) (l m : List S26) (k : Nat) (wr : World) : Prop :=
  ∃ (xs : List Tw) (v : Value), StkTw base s v xs wr ∧ Below base w2 wr ∧ wr.heap[v8]? = some (.cells #[.pointer (some p), .pointer (some q)] 67 (0, 0)) ∧ M2 w2 N xs.reverse (((l.zip m).take k).reverse ++ gs) ∧ some v8 ≠ v.ownBlock
theorem take_zip (l m : List S26) (k : Nat) (h : k < l.length) (h2 : k < m.length) : (l.zip m).take (k + 1) = (l.zip m).take k ++ [(rd_T26 l (k : Int), rd_T26 m (k : Int))] := by
  have hk : k < (l.zip m).length := by rw [List.length_zip]; omega
  rw [List.take_add_one, List.getElem?_eq_getElem hk]
  simp only [List.getElem_zip, Option.toList_some]
  unfold rd_T26
  simp [List.getD, h, h2]
theorem IRel.push {w2 wr w' w9 : World} {base s N v8 : Nat} {p q pa pb : Addr} {gs : List (S26 × S26)} {l m : List S26} {k : Nat} {xs : List Tw} {v v1 : Value} (hst : StkTw base s v xs w') (hst9 : StkTw base s v1 (xs ++ [⟨some pa, some pb⟩]) w9) (hp : Push_ w' w9 s v v1) (hb : Below wr.heap.size wr w') (hb2 : Below base w2 wr) (hx : wr.heap[v8]? = some (.cells #[.pointer (some p), .pointer (some q)] 67 (0, 0)))
    (hm : M2 w2 N xs.reverse (((l.zip m).take k).reverse ++ gs)) (hne : some v8 ≠ v.ownBlock) (hl : k < l.length) (hl2 : k < m.length) (ha : TAt w2 pa (rd_T26 l (k : Int))) (hc : TAt w2 pb (rd_T26 m (k : Int))) (hal : AL N (rd_T26 l (k : Int))) (hbase : base = w2.heap.size) : IRel w2 base s N v8 p q gs l m (k + 1) w9 := by
  have hx' := (hb.block _ (blk_lt hx)).trans hx
  have hs8 : v8 ≠ s := fun e => by
    subst e
    rw [hst.stk] at hx'
    injection hx' with hx'
    injection hx' with _ hx'
    exact absurd hx' (by decide)
  refine ⟨xs ++ [⟨some pa, some pb⟩], v1, hst9, (below_step (by rw [hbase] at hb2; exact hb2) hb |>.mono (by rw [hbase]; exact Nat.le_refl _)).trans (hst.step ⟨_, hp⟩ (Nat.le_refl _)), (hp.keep.2 _ (blk_lt hx') hs8 hne).trans hx', ?_, ?_⟩
  · rw [List.reverse_append, List.reverse_singleton, List.singleton_append, take_zip l m k hl hl2, List.reverse_append, List.reverse_singleton, List.singleton_append, List.cons_append]
    exact .cons ha hc hal hm
  · rcases hp.own with h | ⟨b, h, hb'⟩
    · rw [h]; exact hne
    · rw [h]
      intro e
      have := Option.some.inj e
      have := blk_lt hx'
      omega
/-- At the head of the loop over the stack. -/
def SRel (w2 : World) (base s N M : Nat) (res : Bool) (g : Nat) (wr : World) : Prop := ∃ (gs : List (S26 × S26)) (xs : List Tw) (v : Value), W2 gs = g ∧ g ≤ M ∧ StkTw base s v xs wr ∧ Below base w2 wr ∧ M2 w2 N xs.reverse gs ∧ eqs gs = res
set_option maxHeartbeats 20000000 in
set_option maxRecDepth 100000 in
theorem tsame (N : Nat) (a b : S26) (A3 : Option Addr) (c3 : Nat) (A5 : Option Addr) (c5 : Nat) (B3 : Option Addr) (d3 : Nat) (B5 : Option Addr) (d5 : Nat) (w : World)
    (l3 : a.f3.length ≤ c3) (g3 : k33.C w A3 a.f3.length a.f3) (l5 : a.f5.length ≤ c5) (g5 : k26.C w A5 a.f5.length a.f5) (m3 : b.f3.length ≤ d3) (j3 : k33.C w B3 b.f3.length b.f3) (m5 : b.f5.length ≤ d5) (j5 : k26.C w B5 b.f5.length b.f5)
    (hN : N ≤ 1000000000) (ha : AL N a) (hM : W a ≤ 100000000) :
    Calls Try.prog 12 #[.agg #[.int .i64 a.f0, .int .i64 a.f1, .string a.f2, .slice A3 a.f3.length c3, .string a.f4, .slice A5 a.f5.length c5], .agg #[.int .i64 b.f0, .int .i64 b.f1, .string b.f2, .slice B3 b.f3.length d3, .string b.f4, .slice B5 b.f5.length d5]] w fun e w' => e = .returned (.bool (eqT a b)) ∧ Below w.heap.size w w' := by
  obtain ⟨res, hres⟩ : ∃ res, eqT a b = res := ⟨_, rfl⟩
  obtain ⟨M, hMe⟩ : ∃ M, W a = M := ⟨_, rfl⟩
  have hb1 := below_alloc (Below.refl w.heap.size w) (.cells #[.int .i64 a.f0, .int .i64 a.f1, .string a.f2, .slice A3 a.f3.length c3, .string a.f4, .slice A5 a.f5.length c5] 26)
  have hs1 : (w.alloc (.cells #[.int .i64 a.f0, .int .i64 a.f1, .string a.f2, .slice A3 a.f3.length c3, .string a.f4, .slice A5 a.f5.length c5] 26)).heap.size = w.heap.size + 1 := by simp
  have hn1 := heap_alloc_new w (.cells #[.int .i64 a.f0, .int .i64 a.f1, .string a.f2, .slice A3 a.f3.length c3, .string a.f4, .slice A5 a.f5.length c5] 26)
  obtain ⟨w1, hw1⟩ : ∃ w1, w.alloc (.cells #[.int .i64 a.f0, .int .i64 a.f1, .string a.f2, .slice A3 a.f3.length c3, .string a.f4, .slice A5 a.f5.length c5] 26) = w1 := ⟨_, rfl⟩
  rw [hw1] at hb1 hs1 hn1
  have hb2 := below_alloc (Below.refl w1.heap.size w1) (.cells #[.int .i64 b.f0, .int .i64 b.f1, .string b.f2, .slice B3 b.f3.length d3, .string b.f4, .slice B5 b.f5.length d5] 26)
  have hn2 := heap_alloc_new w1 (.cells #[.int .i64 b.f0, .int .i64 b.f1, .string b.f2, .slice B3 b.f3.length d3, .string b.f4, .slice B5 b.f5.length d5] 26)
  obtain ⟨w2, hw2⟩ : ∃ w2, w1.alloc (.cells #[.int .i64 b.f0, .int .i64 b.f1, .string b.f2, .slice B3 b.f3.length d3, .string b.f4, .slice B5 b.f5.length d5] 26) = w2 := ⟨_, rfl⟩
  rw [hw2] at hb2 hn2
  rw [hs1] at hn2
  have hb02 := below_step hb1 hb2
  have ta : TAt w2 ⟨w.heap.size, 0, none⟩ a := TAt_blk ((hb2.block _ (blk_lt hn1)).trans hn1) l3 (Kd.C_below g3 hb02) l5 (Kd.C_below g5 hb02)
  have tb : TAt w2 ⟨w.heap.size + 1, 0, none⟩ b := TAt_blk hn2 m3 (Kd.C_below j3 hb02) m5 (Kd.C_below j5 hb02)
  have hroot : M2 w2 N [⟨some ⟨w.heap.size, 0, none⟩, some ⟨w.heap.size + 1, 0, none⟩⟩] [(a, b)] := .cons ta tb ha .nil
  have hFF : eqs [(a, b)] = res := by unfold eqs; simp [hres]
  have hTW : W2 [(a, b)] = M := by rw [← hMe]; simp [W2]
  have HRT := hide hroot
  have HFF := hide hFF
  have HTW := hide hTW
  have HB02 := hide hb02
  have HMM := hide (show M ≤ 100000001 from by omega)
  have HW1 := hide hw1
  have HW2 := hide hw2
  rw [hres]
  clear hroot hFF hTW hb02 hb1 hb2 hn1 hn2 ta tb g3 g5 j3 j5 ha hM hMe hres hw1 hw2
  obtain ⟨a0, a1, a2, a3, a4, a5⟩ := a
  obtain ⟨b0, b1, b2, b3, b4, b5⟩ := b
  dsimp only at *
  go_enter Try.func12, Try.ntmps12
  go_wp2_with fail
  rw [HW1.out, HW2.out]
  clear HW1 HW2 hs1
  refine (newTw w2.heap.size w2 (Nat.le_refl _)).mono ?_
  rintro e w3 ⟨s, rfl, hs3, hb3⟩
  dsimp only
  have HS3 := hide hs3
  have HB3 := hide hb3
  clear hs3 hb3
  go_wp2_with fail
  refine (pushTw w2.heap.size s _ [] ⟨some ⟨w.heap.size, 0, none⟩, some ⟨w.heap.size + 1, 0, none⟩⟩ w3 HS3.out HB3.out.size (by simp)).mono ?_
  rintro e w4 ⟨rfl, v4, hs4, hp4⟩
  dsimp only
  have HR4 := hide (show SRel w2 w2.heap.size s N M res M w4 from ⟨_, _, v4, HTW.out, Nat.le_refl _, hs4, HB3.out.trans (HS3.out.step ⟨_, hp4⟩ (Nat.le_refl _)), HRT.out, HFF.out⟩)
  clear hs4 hp4 HTW HRT HFF HS3 HB3
  go_wp2_with fail
  go_loopg [6, 7, 8] M (fun g _ _ _ wr => Aside0 (SRel w2 w2.heap.size s N M res g wr))
  case atStart => exact ⟨HR4.out⟩
  case round =>
    clear HR4
    obtain ⟨gs, xs, v, hg, hgM, hst, hbw, hmt, hff⟩ := hrel.out
    clear hrel
    obtain ⟨ps, hps⟩ : ∃ ps, xs.reverse = ps := ⟨_, rfl⟩
    have hxs : xs = ps.reverse := by rw [← hps, List.reverse_reverse]
    rw [hps] at hmt
    subst hxs
    clear hps
    cases hmt with
    | nil =>
      have HST := hide hst
      have HBW := hide hbw
      have hr : res = true := by rw [← hff]; rfl
      subst hr
      clear hst hff hg hgM
      go_wp2_with fail
      refine (popNoneTw w2.heap.size s v wr HST.out).mono ?_
      rintro e w5 ⟨rfl, hb5⟩
      dsimp only
      have HB5 := hide (below_step HBW.out hb5)
      clear hb5 HST HBW
      go_wp2_with fail
      first | go_ret2 | go_ret
      exact ⟨rfl, HB02.out.trans ((below_step HB5.out (below_alloc (Below.refl _ _) _)).mono HB02.out.size)⟩
    | @cons p q a b ps gs ha hb hn t =>
      rw [List.reverse_cons] at hst
      have hlen := t.len
      have hwl := W2_len gs
      rw [W2] at hg
      dsimp only at hg
      have hWa := W_eq a
      have hl : ps.reverse.length ≤ 1000000000 := by have := HMM.out; rw [List.length_reverse]; omega
      have HPOP := hide (popTw w2.heap.size s v ps.reverse ⟨some p, some q⟩ wr hst hl)
      have HST := hide hst
      have HBW := hide hbw
      have hal := hn
      rw [AL_eq] at hal
      obtain ⟨lab, hlab⟩ : ∃ lab, labL a b = lab := ⟨_, rfl⟩
      have heq := eqT_eq a b
      rw [hlab, eqK_zip] at heq
      have HFF2 := hide (show eqs ((a, b) :: gs) = res from hff)
      have HEQ := hide heq
      have HA := hide ha
      have HBB := hide hb
      have HT := hide t
      have HG := hide hg
      have HWA := hide hWa
      have HGM := hide hgM
      have HAL := hide hal
      have HLAB := hide hlab
      obtain ⟨_, _, A5', c5', _, _, _, _, _, k5, _, _, lK, gK⟩ := ha
      obtain ⟨_, _, B5', d5', _, _, _, _, _, q5, _, _, mK, jK⟩ := hb
      have HGK := hide gK
      have HJK := hide jK
      obtain ⟨la, hlae⟩ : ∃ la, a.f5.length = la := ⟨_, rfl⟩
      obtain ⟨lb, hlbe⟩ : ∃ lb, b.f5.length = lb := ⟨_, rfl⟩
      have hla9 : la ≤ 200000000 := by have := WK_len a.f5; have := HMM.out; omega
      rw [hlae] at k5 lK
      rw [hlbe] at q5 mK
      have HLA := hide hlae
      have HLB := hide hlbe
      have HK5 := hide k5
      have HQ5 := hide q5
      have HLA9 := hide hla9
      clear hl hlen hwl hst hbw hal heq hff t hg hWa hgM hn gK jK k5 q5 hlae hlbe hlab lK mK hla9
      go_wp2_with fail
      refine HPOP.out.mono ?_
      rintro e w5 ⟨rfl, v5, hs5, hp5⟩
      dsimp only
      clear HPOP
      have hb5 := HBW.out.trans (HST.out.step ⟨_, hp5⟩ (Nat.le_refl _))
      have hba := below_alloc (Below.refl w5.heap.size w5) (.cells #[.pointer (some p), .pointer (some q)] 67)
      have hX := heap_alloc_new w5 (.cells #[.pointer (some p), .pointer (some q)] 67)
      have HS5 := hide (hs5.below hba)
      have HB5 := hide (below_step hb5 hba)
      have HX := hide hX
      have HXO := hide (show some w5.heap.size ≠ v5.ownBlock from fun e => by have := Kd.R_lt hs5.row _ e.symm; omega)
      clear hs5 hp5 HST HBW hb5 hba hX
      go_wp2_with fail
      obtain ⟨wX, hwX⟩ : ∃ wX, w5.alloc (.cells #[.pointer (some p), .pointer (some q)] 67) = wX := ⟨_, rfl⟩
      rw [hwX] at HS5 HB5 HX ⊢
      clear hwX
      have z0 : wX.cell? ⟨w5.heap.size, 0, none⟩ = some (.pointer (some p)) := cell_of_row _ _ 0 _ _ _ HX.out
      have z1 : wX.cell? ⟨w5.heap.size, 1, none⟩ = some (.pointer (some q)) := cell_of_row _ _ 1 _ _ _ HX.out
      have k5' := cellW HK5.out HB5.out
      have q5' := cellW HQ5.out HB5.out
      have HLBL := hide (fun (n : Nat) => label p q a b (wX.drewN n) ((HA.out.below HB5.out).below (pw_below_drewN (Below.refl _ _) n)) ((HBB.out.below HB5.out).below (pw_below_drewN (Below.refl _ _) n)) (by have := HAL.out.1; omega))
      simp only [HLAB.out] at HLBL
      cases lab with
      | false =>
        have hr : res = false := by
          rw [← HFF2.out]
          unfold eqs
          rw [List.all_cons]
          dsimp only
          rw [HEQ.out]
          simp
        subst hr
        first | go_quiet ((go_at_call 35; (with_reducible refine (HLBL.out _).mono ?_); rintro e w' ⟨rfl, ⟨⟨nd, rfl⟩⟩⟩; exact ⟨rfl, _, World.drewN_drewN _ _ _⟩)) | fail
        go_wp2_with fail
        first | go_ret2 | go_ret
        exact ⟨rfl, HB02.out.trans (Below.mono (pw_below_drewN HB5.out _) HB02.out.size)⟩
      | true =>
        by_cases hll : la = lb
        · subst hll
          have n0 : ¬ ((la : Int) ≠ la) := by omega
          first | go_quiet ((go_at_call 35; (with_reducible refine (HLBL.out _).mono ?_); rintro e w' ⟨rfl, ⟨⟨nd, rfl⟩⟩⟩; exact ⟨rfl, _, World.drewN_drewN _ _ _⟩)) | fail
          clear HLBL z0 z1 k5' q5'
          obtain ⟨w8, hw8⟩ : ∃ w8, wX.drewN nq = w8 := ⟨_, rfl⟩
          have hb8 := pw_below_drewN (Below.refl wX.heap.size wX) nq
          have HS8 := hide (HS5.out.below hb8)
          have HB8 := hide (below_step HB5.out hb8)
          have HX8 := hide ((hb8.block _ (blk_lt HX.out)).trans HX.out)
          rw [hw8] at HS8 HB8 HX8 ⊢
          clear hw8 hb8 HS5 HB5 HX
          have z0 : w8.cell? ⟨w5.heap.size, 0, none⟩ = some (.pointer (some p)) := cell_of_row _ _ 0 _ _ _ HX8.out
          have k5' := cellW HK5.out HB8.out
          have HI := hide (show IRel w2 w2.heap.size s N w5.heap.size p q gs a.f5 b.f5 0 w8 from ⟨ps.reverse, v5, HS8.out, HB8.out, HX8.out, by rw [List.take_zero, List.reverse_nil, List.nil_append, List.reverse_reverse]; exact HT.out, HXO.out⟩)
          have hpl : ps.length = gs.length := HT.out.len
          have hplw := W2_len gs
          have HPL := hide (show gs.length + la ≤ 200000000 from by have h1 := HG.out; have h2 := HWA.out; have h3 := HGM.out; have h4 := HMM.out; have h5 := WK_len a.f5; have h6 := HLA.out; omega)
          clear HS8 HB8 HX8 HT HXO hpl hplw
          go_wp2_with fail
          go_loopw [8, 47] (fun _ i wr => ∃ k : Nat, k ≤ la ∧ i = .int .i64 (k : Int) ∧ Aside0 (IRel w2 w2.heap.size s N w5.heap.size p q gs a.f5 b.f5 k wr)) (fun _ i _ => la - (intOf i).toNat)
          case atStart => exact ⟨0, Nat.zero_le _, rfl, ⟨HI.out⟩⟩
          case round =>
            clear HI z0 k5'
            obtain ⟨k, hk, rfl, HIR⟩ := hrel
            obtain ⟨xs, v, hst, hbw, hx, hmt, hne⟩ := HIR.out
            clear HIR
            have z0 : wr.cell? ⟨w5.heap.size, 0, none⟩ = some (.pointer (some p)) := cell_of_row _ _ 0 _ _ _ hx
            have z1 : wr.cell? ⟨w5.heap.size, 1, none⟩ = some (.pointer (some q)) := cell_of_row _ _ 1 _ _ _ hx
            have k5' := cellW HK5.out hbw
            have q5' := cellW HQ5.out hbw
            by_cases hkl : k < la
            · obtain ⟨ak, hak, hta⟩ := TAt_kid HGK.out k (by rw [HLA.out]; omega)
              subst hak
              obtain ⟨bk, hbk, htb⟩ := TAt_kid HJK.out k (by rw [HLB.out]; omega)
              subst hbk
              have hlen := hmt.len
              have HLEN := hide (show xs.length ≤ 1000000000 from by rw [List.length_reverse] at hlen; rw [hlen, List.length_append, List.length_reverse, List.length_take]; have := HPL.out; omega)
              have i1 : (k : Int) < la := by omega
              have hla9 := HLA9.out
              have HST := hide hst
              have HBW := hide hbw
              have HXX := hide hx
              have HMT := hide hmt
              have HNE := hide hne
              have HTA := hide hta
              have HTB := hide htb
              have w1 : IntKind.i64.wrap ((k : Int) + 1) = ((k + 1 : Nat) : Int) := by rw [IntWalk.i64_in _ (by omega)]; rfl
              have HCX := hide (fun (W : World) (h : Below wr.heap.size wr W) => (⟨cellW z0 h, cellW z1 h, cellW k5' h, cellW q5' h⟩ : W.cell? ⟨w5.heap.size, 0, none⟩ = some (.pointer (some p)) ∧ W.cell? ⟨w5.heap.size, 1, none⟩ = some (.pointer (some q)) ∧ W.cell? ⟨p.block, p.off + 5, none⟩ = some (.slice (some ak) la c5') ∧ W.cell? ⟨q.block, q.off + 5, none⟩ = some (.slice (some bk) la d5')))
              have HCI := hide (fun (W : World) (k' : Nat) (h : IRel w2 w2.heap.size s N w5.heap.size p q gs a.f5 b.f5 k' W) => (by
                obtain ⟨_, _, _, hbw, hx, _, _⟩ := h
                exact ⟨cell_of_row _ _ 0 _ _ _ hx, cell_of_row _ _ 1 _ _ _ hx, cellW HK5.out hbw, cellW HQ5.out hbw⟩ : W.cell? ⟨w5.heap.size, 0, none⟩ = some (.pointer (some p)) ∧ W.cell? ⟨w5.heap.size, 1, none⟩ = some (.pointer (some q)) ∧ W.cell? ⟨p.block, p.off + 5, none⟩ = some (.slice (some ak) la c5') ∧ W.cell? ⟨q.block, q.off + 5, none⟩ = some (.slice (some bk) la d5')))
              have HPUSH := hide (fun (W : World) (h : Below wr.heap.size wr W) => (pushTw w2.heap.size s v xs ⟨some (ak.add (k * 6)), some (bk.add (k * 6))⟩ W (HST.out.below h) (by have := HBW.out.size; have := h.size; omega) HLEN.out).mono (fun (e : Ending) (w9 : World) ⟨he, v1, hs9, hp9⟩ => (⟨he, IRel.push (k := k) (HST.out.below h) hs9 hp9 h HBW.out HXX.out HMT.out HNE.out (by rw [HLA.out]; omega) (by rw [HLB.out]; omega) HTA.out HTB.out (ALK_at N _ k (by rw [HLA.out]; omega) HAL.out.2) rfl⟩ : e = Ending.returned (.tuple #[]) ∧ IRel w2 w2.heap.size s N w5.heap.size p q gs a.f5 b.f5 (k + 1) w9)))
              clear hst hbw hx hmt hne hta htb hlen z0 z1 k5' q5'
              go_upto_region 11 with fail
              go_region_held3 (fun W => W.cell? ⟨w5.heap.size, 0, none⟩ = some (.pointer (some p)) ∧ W.cell? ⟨w5.heap.size, 1, none⟩ = some (.pointer (some q)) ∧ W.cell? ⟨p.block, p.off + 5, none⟩ = some (.slice (some ak) la c5') ∧ W.cell? ⟨q.block, q.off + 5, none⟩ = some (.slice (some bk) la d5'))
                (first | exact HCX.out _ (Below.drew (Below.refl _ _)) | exact HCX.out _ (Below.refl _ _) | exact HCI.out _ _ hK9)
                (first | (go_at_call 33; (with_reducible refine (HPUSH.out _ (Below.drew (Below.refl _ _))).mono ?_); rintro e w9 ⟨rfl, hK9⟩))
              all_goals
                have HK9 := hide hK9
                clear hK9 HPUSH HCI HCX
                go_wp2_with fail
                go_roundw
                case measure => simp only [intOf]; omega
                case rel => exact ⟨k + 1, by omega, by go_num, ⟨HK9.out⟩⟩
            · have hke : k = la := by omega
              subst hke
              have HST := hide hst
              have HBW := hide hbw
              have HMT := hide hmt
              have i1 : ¬ (k : Int) < k := by omega
              have hzl : (a.f5.zip b.f5).length = k := by rw [List.length_zip, HLA.out, HLB.out]; omega
              rw [List.take_of_length_le (by omega)] at hmt
              have hZW := W2_zip a.f5 b.f5
              have HFIN := hide (show SRel w2 w2.heap.size s N M res (W2 ((a.f5.zip b.f5).reverse ++ gs)) wr from ⟨_, xs, v, rfl, by rw [W2_app, W2_rev]; have h1 := HG.out; have h2 := HWA.out; have h3 := HGM.out; omega, hst, hbw, hmt, by
                rw [eqs_app, eqs_rev, ← HFF2.out]
                unfold eqs
                rw [List.all_cons]
                dsimp only
                rw [HEQ.out, HLA.out, HLB.out]
                simp⟩)
              have HLT := hide (show W2 ((a.f5.zip b.f5).reverse ++ gs) < gk from by rw [W2_app, W2_rev]; have h1 := HG.out; have h2 := HWA.out; omega)
              clear hst hbw hx hmt hne hkl hzl hZW
              go_wp2_with fail
              go_roundg (W2 ((a.f5.zip b.f5).reverse ++ gs))
              case measure => exact HLT.out
              case rel => exact ⟨HFIN.out⟩
        · have hr : res = false := by
            rw [← HFF2.out]
            unfold eqs
            rw [List.all_cons]
            dsimp only
            rw [HEQ.out, HLA.out, HLB.out, beq_eq_false_iff_ne.2 hll]
            simp
          subst hr
          have n0 : (la : Int) ≠ lb := by omega
          first | go_quiet ((go_at_call 35; (with_reducible refine (HLBL.out _).mono ?_); rintro e w' ⟨rfl, ⟨⟨nd, rfl⟩⟩⟩; exact ⟨rfl, _, World.drewN_drewN _ _ _⟩)) | fail
          go_wp2_with fail
          first | go_ret2 | go_ret
          exact ⟨rfl, HB02.out.trans (Below.mono (pw_below_drewN HB5.out _) HB02.out.size)⟩
end Go.Proofs.Ytaponaemgolmoaa.Tr

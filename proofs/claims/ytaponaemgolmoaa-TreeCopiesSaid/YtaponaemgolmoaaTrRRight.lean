/- The walks of arbourref14.right and Right. -/
import Derived.Test.YtaponaemgolmoaaTrAlone
import Derived.Deep.DeepCutAuto
import Derived.Deep.CutBlock
namespace Go.Proofs.Ytaponaemgolmoaa.Tr
open Go.RowKit Go.Proofs.Ytaponaemgolmoaa.PTreeTells Go.Proofs.YtaponaemgolmoaaW.PrintWords Go.Proofs.YtaponaemgolmoaaW.PrintLast
set_option linter.unusedVariables false
set_option linter.unusedSimpArgs false
mutual
/-- Each node is right. -/
def allR : S26 → Bool
  | ⟨a, b, c, d, e, k⟩ => rightG (⟨a, b, c, d, e, k⟩, 0) && allRK k
def allRK : List S26 → Bool
  | [] => true
  | x :: l => allR x && allRK l
end
theorem allR_eq (x : S26) : allR x = (fieldsB x && (kidsB x && allRK x.f5)) := by
  obtain ⟨a, b, c, d, e, k⟩ := x
  rw [allR]
  unfold rightG
  rw [Bool.and_assoc]
mutual
theorem pre_all : ∀ (x : S26) (d : Nat), (pre x d).all rightG = allR x
  | ⟨a, b, c, d', e, k⟩, d => by rw [pre, List.all_cons, preL_all k (d + 1), allR]; rfl
theorem preL_all : ∀ (l : List S26) (d : Nat), (preL l d).all rightG = allRK l
  | [], d => by rw [preL, allRK]; rfl
  | x :: l, d => by rw [preL, List.all_append, pre_all x d, preL_all l d, allRK]
end
theorem right_all (t : S26) : rightB t = (t.f0 == 1 && allR t) := by unfold rightB; rw [pre_all]
/-- What the reference refuses of a kid. -/
def badB (k0 : Int) (first : Bool) (was kind : Int) : Bool := kind == 1 || ((kind == 2 && !(k0 == 1)) || (kind == 4 && (k0 == 1 || (!first && was == 4))))
def rFrom (tm : Bool) (k0 : Int) : Bool → Int → List S26 → Bool
  | _, _, [] => true
  | first, was, x :: l => !badB k0 first was x.f0 && (((x.f0 == 6) == (tm && first)) && (allR x && rFrom tm k0 false x.f0 l))
theorem ok_next (tm : Bool) (k0 was kind : Int) : kidOk tm k0 false was kind = (!badB k0 false was kind && ((kind == 6) == (tm && false))) := by
  unfold kidOk badB
  by_cases h1 : kind = 1
  · subst h1; simp
  by_cases h6 : kind = 6
  · subst h6; simp
  by_cases h4 : kind = 4
  · subst h4
    cases e : (k0 == 1) <;> cases e2 : (was == 4) <;> simp [e, e2]
  by_cases h2 : kind = 2
  · subst h2
    cases e : (k0 == 1) <;> simp [e]
  simp [h1, h2, h4, h6]
theorem ok_first (tm : Bool) (k0 kind : Int) : (if tm && !(kind == 6) then false else kidOk tm k0 true 0 kind) = (!badB k0 true 0 kind && ((kind == 6) == (tm && true))) := by
  unfold kidOk badB
  by_cases h1 : kind = 1
  · subst h1; cases tm <;> simp
  by_cases h6 : kind = 6
  · subst h6; cases tm <;> simp
  by_cases h4 : kind = 4
  · subst h4
    cases e : (k0 == 1) <;> cases tm <;> simp [e]
  by_cases h2 : kind = 2
  · subst h2
    cases e : (k0 == 1) <;> cases tm <;> simp [e]
  cases tm <;> simp [h1, h2, h4, h6]
theorem rFrom_next (tm : Bool) (k0 : Int) : ∀ (l : List S26) (was : Int), rFrom tm k0 false was l = (kidsFrom tm k0 false was l && allRK l)
  | [], was => by rw [rFrom, kidsFrom, allRK]; rfl
  | x :: l, was => by
    rw [rFrom, kidsFrom, allRK, rFrom_next tm k0 l x.f0, ok_next]
    cases badB k0 false was x.f0 <;> cases ((x.f0 == 6) == (tm && false)) <;> cases allR x <;> cases kidsFrom tm k0 false x.f0 l <;> cases allRK l <;> rfl
theorem kids_all (x : S26) : (kidsB x && allRK x.f5) = (if templB x && ((x.f5.length : Int) == 0) then false else rFrom (templB x) x.f0 true 0 x.f5) := by
  unfold kidsB
  cases hx : x.f5 with
  | nil =>
    rw [kidsFrom, allRK, rFrom]
    cases templB x <;> rfl
  | cons y l =>
    have h0 : (((y :: l).length : Int) == 0) = false := by
      rw [beq_eq_false_iff_ne]
      simp only [List.length_cons]
      omega
    have hr : (rd_T26 (y :: l) 0).f0 = y.f0 := rfl
    rw [h0, hr, Bool.false_or, Bool.and_false, if_neg (show ¬ (false = true) from by decide), kidsFrom, allRK, rFrom, rFrom_next]
    have h := ok_first (templB x) x.f0 y.f0
    rw [← Bool.and_assoc (!badB x.f0 true 0 y.f0), ← h]
    cases (templB x && !(y.f0 == 6)) <;> cases kidOk (templB x) x.f0 true 0 y.f0 <;> cases allR y <;> cases kidsFrom (templB x) x.f0 false y.f0 l <;> cases allRK l <;> rfl
/-- The kind ahead. -/
def wasK (l : List S26) (i : Nat) : Int := if i = 0 then 0 else (rd_T26 l ((i - 1 : Nat) : Int)).f0
/-- At the loop's head. -/
def RRel (w2 : World) (res tm : Bool) (x0 : Int) (l : List S26) (k : Nat) (wr : World) : Prop := res = rFrom tm x0 (k == 0) (wasK l k) (l.drop k) ∧ Below w2.heap.size w2 wr
theorem RRel.step {w2 wr : World} {res tm : Bool} {x0 : Int} {l : List S26} {k : Nat} (h : RRel w2 res tm x0 l k wr) (hk : k < l.length) : res = (!badB x0 (k == 0) (wasK l k) (rd_T26 l (k : Int)).f0 && ((((rd_T26 l (k : Int)).f0 == 6) == (tm && (k == 0))) && (allR (rd_T26 l (k : Int)) && rFrom tm x0 (k + 1 == 0) (wasK l (k + 1)) (l.drop (k + 1))))) := by
  rw [h.1, rd26 l k hk, rFrom]
  rfl
abbrev RightAt (N : Nat) : Prop := ∀ (x : S26) (A3 : Option Addr) (c3 : Nat) (A5 : Option Addr) (c5 : Nat) (w : World), W x ≤ N → W x ≤ 1000000000 → AL 10 x → x.f3.length ≤ c3 → k33.C w A3 x.f3.length x.f3 → k26.C w A5 x.f5.length x.f5 →
  Calls Try.prog 64 #[.agg #[.int .i64 x.f0, .int .i64 x.f1, .string x.f2, .slice A3 x.f3.length c3, .string x.f4, .slice A5 x.f5.length c5]] w fun e w' => e = .returned (.bool (allR x)) ∧ Below w.heap.size w w'
set_option maxHeartbeats 8000000 in
set_option maxRecDepth 100000 in
theorem rright_succ (N : Nat) (ih : RightAt N) : RightAt (N + 1) := by
  intro x A3 c3 A5 c5 w hWN hW9 hA l3 g3 g5
  have hX := heap_alloc_new w (.cells #[.int .i64 x.f0, .int .i64 x.f1, .string x.f2, .slice A3 x.f3.length c3, .string x.f4, .slice A5 x.f5.length c5] 26)
  have b1 := below_alloc (Below.refl w.heap.size w) (.cells #[.int .i64 x.f0, .int .i64 x.f1, .string x.f2, .slice A3 x.f3.length c3, .string x.f4, .slice A5 x.f5.length c5] 26)
  obtain ⟨w1, hw1⟩ : ∃ y, w.alloc (.cells #[.int .i64 x.f0, .int .i64 x.f1, .string x.f2, .slice A3 x.f3.length c3, .string x.f4, .slice A5 x.f5.length c5] 26) = y := ⟨_, rfl⟩
  rw [hw1] at hX b1
  have hWx := W_eq x
  have hWl := WK_len x.f5
  rw [AL_eq] at hA
  have HAL := hide (alone x A3 c3 A5 c5 w1 l3 (Kd.C_below g3 b1) g5.2.1 (by omega))
  have HRES := hide ((allR_eq x).trans (congrArg (fun b => fieldsB x && b) (kids_all x)))
  obtain ⟨res, hres⟩ : ∃ r, allR x = r := ⟨_, rfl⟩
  rw [hres] at HRES ⊢
  clear hres
  obtain ⟨fb, hfb⟩ : ∃ b, fieldsB x = b := ⟨_, rfl⟩
  rw [hfb] at HAL HRES
  have HTM := hide (show templB x = (x.f0 == 3 && (x.f1 == 1 && x.f2.toList == [116, 101, 109, 112, 108, 97, 116, 101])) from rfl)
  obtain ⟨tm, htm⟩ : ∃ b, templB x = b := ⟨_, rfl⟩
  rw [htm] at HTM HRES
  have HIH := hide ih
  have HB := hide b1
  have HW1 := hide hw1
  have HXX := hide hX
  have HG5 := hide (Kd.C_below g5 b1)
  have hm5 := g5.2.1
  have HNUM := hide (show WK x.f5 ≤ N ∧ WK x.f5 ≤ 1000000000 ∧ x.f5.length ≤ 1000000000 from ⟨by omega, by omega, by omega⟩)
  have HAK := hide hA.2
  have h0 := cell_of_row _ _ 0 _ _ _ hX
  have h1 := cell_of_row _ _ 1 _ _ _ hX
  have h2 := cell_of_row _ _ 2 _ _ _ hX
  have h3 := cell_of_row _ _ 3 _ _ _ hX
  have h4 := cell_of_row _ _ 4 _ _ _ hX
  have h5 := cell_of_row _ _ 5 _ _ _ hX
  clear hX b1 hw1 hfb htm ih hWN hW9 hWx hWl hA g3 g5 l3
  obtain ⟨x0, x1, x2, x3, x4, x5⟩ := x
  dsimp only at *
  obtain ⟨n3, hn3⟩ : ∃ n : Nat, x3.length = n := ⟨_, rfl⟩
  obtain ⟨n, hn⟩ : ∃ n : Nat, x5.length = n := ⟨_, rfl⟩
  rw [hn3] at HAL h3 HW1 HXX ⊢
  rw [hn] at HAL h5 HW1 HXX hm5 HNUM HRES ⊢
  have HN := hide hn
  clear hn3 hn
  go_enter Try.func64, Try.ntmps64
  go_upto_region 1 with fail
  rw [HW1.out]
  clear HW1
  go_wp2_with fail
  refine HAL.out.mono ?_
  rintro e w2 ⟨rfl, hb2⟩
  dsimp only
  have HB2 := hide (below_step HB.out hb2)
  have HBB := hide hb2
  have i0 := cellW h0 hb2
  have i1 := cellW h1 hb2
  have i2 := cellW h2 hb2
  have i5 := cellW h5 hb2
  clear hb2 h0 h1 h2 h3 h4 h5 HAL
  cases fb with
  | false =>
    have hr : res = false := HRES.out
    subst hr
    go_wp2_with fail
    go_ret
    exact ⟨rfl, HB2.out⟩
  | true =>
    have hr : res = (if tm && ((n : Int) == 0) then false else rFrom tm x0 true 0 x5) := HRES.out
    have HR := hide hr
    clear hr HRES
    go_upto_region 3 with fail
    go_cut [3] from 9 to 21 (fun v wx => wx = w2 ∧ v = .bool tm)
    case first =>
      cases e0 : (x0 == 3) with
      | false =>
        go_wp2_with fail
        go_meet
        exact ⟨rfl, by rw [HTM.out, e0]; rfl⟩
      | true =>
        cases e1 : (x1 == 1) with
        | false =>
          go_wp2_with fail
          go_meet
          exact ⟨rfl, by rw [HTM.out, e0, e1]; rfl⟩
        | true =>
          go_wp2_with fail
          go_meet
          exact ⟨rfl, by rw [HTM.out, e0, e1]; rfl⟩
    case rest =>
      obtain ⟨hwc, rfl⟩ := hcut
      rw [hwc]
      clear hwc HTM i1 i2
      go_upto_region 4 with fail
      go_cut [28] from 22 to 28 (fun v wx => wx = w2 ∧ v = .bool (tm && ((n : Int) == 0)))
      case first =>
        cases tm with
        | false =>
          go_wp2_with fail
          go_meet
          exact ⟨rfl, rfl⟩
        | true =>
          go_wp2_with fail
          go_meet
          exact ⟨rfl, rfl⟩
      case rest =>
        obtain ⟨hwc, rfl⟩ := hcut
        rw [hwc]
        clear hwc
        obtain ⟨bz, hbz⟩ : ∃ b, (tm && ((n : Int) == 0)) = b := ⟨_, rfl⟩
        rw [hbz] at HR ⊢
        clear hbz
        cases bz with
        | true =>
          have hr : res = false := HR.out
          subst hr
          go_wp2_with fail
          go_ret
          exact ⟨rfl, HB2.out⟩
        | false =>
          have HRR := hide (show RRel w2 res tm x0 x5 0 w2 from ⟨by rw [HR.out, List.drop_zero]; rfl, Below.refl _ _⟩)
          clear HR
          go_wp2_with fail
          go_loopw [4, 5] (fun i _ wr => ∃ k : Nat, k ≤ n ∧ i = .int .i64 (k : Int) ∧ Aside0 (RRel w2 res tm x0 x5 k wr)) (fun i _ _ => n - (intOf i).toNat)
          case atStart => exact ⟨0, Nat.zero_le _, rfl, ⟨HRR.out⟩⟩
          case round =>
            clear HRR
            obtain ⟨k, hkn, rfl, hrel⟩ := hrel
            have HREL := hide hrel.out
            have hbr := hrel.out.2
            clear hrel
            have j0 := cellW i0 hbr
            have j5 := cellW i5 hbr
            have hn9 := HNUM.out.2.2
            by_cases hlt : k < n
            · have hkl : k < x5.length := by rw [HN.out]; exact hlt
              have hst := HREL.out.step hkl
              have hb1r := HBB.out.trans (hbr.mono HBB.out.size)
              have hrow : k26.C wr A5 x5.length x5 := Kd.C_below HG5.out hb1r
              obtain ⟨ad, hA5, hT⟩ := TAt_kid hrow k hkl
              have hkw := WK_at x5 k hkl
              have hka := ALK_at 10 x5 k hkl HAK.out
              have hprev : 0 < k → ∃ z, wr.cell? (ad.add ((k - 1) * 6)) = some (.int .i64 z) ∧ wasK x5 k = z := fun hp => by
                obtain ⟨ad', hA', hT'⟩ := TAt_kid hrow (k - 1) (by omega)
                rw [hA5] at hA'
                cases hA'
                obtain ⟨_, _, _, _, hz, -⟩ := hT'
                exact ⟨_, hz, by unfold wasK; rw [if_neg (by omega)]⟩
              obtain ⟨y, hy⟩ : ∃ y, rd_T26 x5 (k : Int) = y := ⟨_, rfl⟩
              rw [hy] at hT hkw hka hst
              clear hy
              subst hA5
              obtain ⟨B3, d3, B5, d5, e0, e1, e2, e3, e4, e5, m3, j3', m5, j5'⟩ := hT
              have hWy := W_eq y
              have HCALL := hide (fun (W' : World) (h : Below wr.heap.size wr W') => HIH.out y B3 d3 B5 d5 W' (by have := HNUM.out.1; omega) (by have := HNUM.out.2.1; omega) hka m3 (Kd.C_below j3' h) (Kd.C_below j5' h))
              obtain ⟨ry, hry⟩ : ∃ r, allR y = r := ⟨_, rfl⟩
              rw [hry] at HCALL hst
              obtain ⟨y0, y1, y2, y3, y4, y5⟩ := y
              dsimp only at *
              obtain ⟨nx, hnx⟩ : ∃ r, rFrom tm x0 (k + 1 == 0) (wasK x5 (k + 1)) (x5.drop (k + 1)) = r := ⟨_, rfl⟩
              rw [hnx] at hst
              have HNX := hide hnx
              obtain ⟨ws, hws⟩ : ∃ z, wasK x5 k = z := ⟨_, rfl⟩
              rw [hws] at hst hprev
              have HST := hide hst
              have HBR := hide hbr
              have hk1 : (k : Int) < n := by omega
              clear hst hry hnx hws m3 j3' m5 j5' hka hkw hWy hrow hb1r hkl
              go_upto_region 9 with fail
              go_upto_region 10 with fail
              have hXb := heap_alloc_new wr (.cells #[.int .i64 y0, .int .i64 y1, .string y2, .slice B3 y3.length d3, .string y4, .slice B5 y5.length d5] 26)
              have hba := below_alloc (Below.refl wr.heap.size wr) (.cells #[.int .i64 y0, .int .i64 y1, .string y2, .slice B3 y3.length d3, .string y4, .slice B5 y5.length d5] 26)
              obtain ⟨wX, hwX⟩ : ∃ z, wr.alloc (.cells #[.int .i64 y0, .int .i64 y1, .string y2, .slice B3 y3.length d3, .string y4, .slice B5 y5.length d5] 26) = z := ⟨_, rfl⟩
              rw [hwX] at hXb hba ⊢
              clear hwX e0 e1 e2 e3 e4 e5
              have HBA := hide hba
              have q0 := cellW j0 hba
              have q5 := cellW j5 hba
              have v0 := cell_of_row _ _ 0 _ _ _ hXb
              have v1 := cell_of_row _ _ 1 _ _ _ hXb
              have v2 := cell_of_row _ _ 2 _ _ _ hXb
              have v3 := cell_of_row _ _ 3 _ _ _ hXb
              have v4 := cell_of_row _ _ 4 _ _ _ hXb
              have v5 := cell_of_row _ _ 5 _ _ _ hXb
              have hprev2 : 0 < k → wX.cell? (ad.add ((k - 1) * 6)) = some (.int .i64 ws) := fun hp => by
                obtain ⟨z, hz, rfl⟩ := hprev hp
                exact cellW hz hba
              clear hprev hXb hba j0 j5
              have HPV := hide hprev2
              clear hprev2
              go_cut [77] from 41 to 77 (fun v wx => wx = wX ∧ v = .bool (badB x0 (k == 0) ws y0))
              case first =>
                by_cases h1 : y0 = 1
                · subst h1
                  go_wp2_with fail
                  go_meet
                  exact ⟨rfl, rfl⟩
                have n1 : (y0 == 1) = false := beq_eq_false_iff_ne.2 h1
                by_cases h2 : y0 = 2
                · subst h2
                  cases hx : (x0 == 1) with
                  | true =>
                    have hx' : (x0 != 1) = false := by unfold bne; rw [hx]; rfl
                    go_wp2_with fail
                    go_meet
                    exact ⟨rfl, by unfold badB; rw [hx]; rfl⟩
                  | false =>
                    have hx' : (x0 != 1) = true := by unfold bne; rw [hx]; rfl
                    go_wp2_with fail
                    go_meet
                    exact ⟨rfl, by unfold badB; rw [hx]; rfl⟩
                have n2 : (y0 == 2) = false := beq_eq_false_iff_ne.2 h2
                by_cases h4 : y0 = 4
                · subst h4
                  cases hx : (x0 == 1) with
                  | true =>
                    go_wp2_with fail
                    go_meet
                    exact ⟨rfl, by unfold badB; rw [hx]; rfl⟩
                  | false =>
                    by_cases hk0 : 0 < k
                    · have kb : (k == 0) = false := by rw [beq_eq_false_iff_ne]; omega
                      have z0 := HPV.out hk0
                      have kc : (0 : Int) < (k : Int) := by omega
                      have kw : IntKind.i64.wrap ((k : Int) - 1) = ((k - 1 : Nat) : Int) := by rw [IntWalk.i64_in _ (by omega)]; omega
                      have kl : ((k - 1 : Nat) : Int) < (n : Int) := by omega
                      go_wp2_with fail
                      go_meet
                      exact ⟨rfl, by unfold badB; rw [hx, kb]; cases (ws == 4) <;> rfl⟩
                    · have kb : (k == 0) = true := by rw [beq_iff_eq]; omega
                      have kc : ¬ (0 : Int) < (k : Int) := by omega
                      go_wp2_with fail
                      go_meet
                      exact ⟨rfl, by unfold badB; rw [hx, kb]; rfl⟩
                have n4 : (y0 == 4) = false := beq_eq_false_iff_ne.2 h4
                go_wp2_with fail
                go_meet
                exact ⟨rfl, by unfold badB; rw [n1, n2, n4]; rfl⟩
              case rest =>
                obtain ⟨hwc, rfl⟩ := hcut
                rw [hwc]
                clear hwc HPV
                obtain ⟨bad, hbad⟩ : ∃ b, badB x0 (k == 0) ws y0 = b := ⟨_, rfl⟩
                rw [hbad] at HST ⊢
                clear hbad
                have hbX := below_step HBR.out HBA.out
                have HBX := hide hbX
                clear hbX
                cases bad with
                | true =>
                  have hr : res = false := HST.out
                  subst hr
                  go_wp2_with fail
                  go_ret
                  exact ⟨rfl, below_step HB2.out HBX.out⟩
                | false =>
                  have hcall := HCALL.out wX HBA.out
                  have HCL := hide hcall
                  clear hcall HCALL
                  cases tm with
                  | false =>
                    cases kz : (y0 == 6) with
                    | false =>
                      by_cases hk0 : k = 0
                      · have kb : (k == 0) = true := by rw [beq_iff_eq]; exact hk0
                        have kb2 : ((k : Int) == 0) = true := by rw [beq_iff_eq]; omega
                        have hr : res = (ry && nx) := by rw [HST.out, kb, kz]; rfl
                        have HRY := hide hr
                        clear hr HST
                        go_wp2_with fail
                        refine HCL.out.mono ?_
                        rintro e wy ⟨rfl, hby⟩
                        dsimp only
                        have HBY := hide (below_step HBX.out hby)
                        clear hby v0 v1 v2 v3 v4 v5 q0 q5
                        cases ry with
                        | false =>
                          have hr : res = false := HRY.out
                          subst hr
                          go_wp2_with fail
                          go_ret
                          exact ⟨rfl, below_step HB2.out HBY.out⟩
                        | true =>
                          have hr : res = nx := HRY.out
                          have kw2 : IntKind.i64.wrap ((k : Int) + 1) = ((k + 1 : Nat) : Int) := by rw [IntWalk.i64_in _ (by omega)]; rfl
                          have HRN := hide (show RRel w2 res false x0 x5 (k + 1) wy from ⟨by rw [hr, ← HNX.out], HBY.out⟩)
                          clear hr
                          go_wp2_with fail
                          go_roundw
                          case rel => exact ⟨k + 1, by omega, by go_num, ⟨HRN.out⟩⟩
                          case measure => simp only [intOf]; omega
                      · have kb : (k == 0) = false := by rw [beq_eq_false_iff_ne]; exact hk0
                        have kb2 : ((k : Int) == 0) = false := by rw [beq_eq_false_iff_ne]; omega
                        have hr : res = (ry && nx) := by rw [HST.out, kb, kz]; rfl
                        have HRY := hide hr
                        clear hr HST
                        go_wp2_with fail
                        refine HCL.out.mono ?_
                        rintro e wy ⟨rfl, hby⟩
                        dsimp only
                        have HBY := hide (below_step HBX.out hby)
                        clear hby v0 v1 v2 v3 v4 v5 q0 q5
                        cases ry with
                        | false =>
                          have hr : res = false := HRY.out
                          subst hr
                          go_wp2_with fail
                          go_ret
                          exact ⟨rfl, below_step HB2.out HBY.out⟩
                        | true =>
                          have hr : res = nx := HRY.out
                          have kw2 : IntKind.i64.wrap ((k : Int) + 1) = ((k + 1 : Nat) : Int) := by rw [IntWalk.i64_in _ (by omega)]; rfl
                          have HRN := hide (show RRel w2 res false x0 x5 (k + 1) wy from ⟨by rw [hr, ← HNX.out], HBY.out⟩)
                          clear hr
                          go_wp2_with fail
                          go_roundw
                          case rel => exact ⟨k + 1, by omega, by go_num, ⟨HRN.out⟩⟩
                          case measure => simp only [intOf]; omega
                    | true =>
                      by_cases hk0 : k = 0
                      · have kb : (k == 0) = true := by rw [beq_iff_eq]; exact hk0
                        have kb2 : ((k : Int) == 0) = true := by rw [beq_iff_eq]; omega
                        have hr : res = false := by rw [HST.out, kb, kz]; cases ry <;> cases nx <;> rfl
                        subst hr
                        go_wp2_with fail
                        go_ret
                        exact ⟨rfl, below_step HB2.out HBX.out⟩
                      · have kb : (k == 0) = false := by rw [beq_eq_false_iff_ne]; exact hk0
                        have kb2 : ((k : Int) == 0) = false := by rw [beq_eq_false_iff_ne]; omega
                        have hr : res = false := by rw [HST.out, kb, kz]; cases ry <;> cases nx <;> rfl
                        subst hr
                        go_wp2_with fail
                        go_ret
                        exact ⟨rfl, below_step HB2.out HBX.out⟩
                  | true =>
                    cases kz : (y0 == 6) with
                    | false =>
                      by_cases hk0 : k = 0
                      · have kb : (k == 0) = true := by rw [beq_iff_eq]; exact hk0
                        have kb2 : ((k : Int) == 0) = true := by rw [beq_iff_eq]; omega
                        have hr : res = false := by rw [HST.out, kb, kz]; cases ry <;> cases nx <;> rfl
                        subst hr
                        go_wp2_with fail
                        go_ret
                        exact ⟨rfl, below_step HB2.out HBX.out⟩
                      · have kb : (k == 0) = false := by rw [beq_eq_false_iff_ne]; exact hk0
                        have kb2 : ((k : Int) == 0) = false := by rw [beq_eq_false_iff_ne]; omega
                        have hr : res = (ry && nx) := by rw [HST.out, kb, kz]; rfl
                        have HRY := hide hr
                        clear hr HST
                        go_wp2_with fail
                        refine HCL.out.mono ?_
                        rintro e wy ⟨rfl, hby⟩
                        dsimp only
                        have HBY := hide (below_step HBX.out hby)
                        clear hby v0 v1 v2 v3 v4 v5 q0 q5
                        cases ry with
                        | false =>
                          have hr : res = false := HRY.out
                          subst hr
                          go_wp2_with fail
                          go_ret
                          exact ⟨rfl, below_step HB2.out HBY.out⟩
                        | true =>
                          have hr : res = nx := HRY.out
                          have kw2 : IntKind.i64.wrap ((k : Int) + 1) = ((k + 1 : Nat) : Int) := by rw [IntWalk.i64_in _ (by omega)]; rfl
                          have HRN := hide (show RRel w2 res true x0 x5 (k + 1) wy from ⟨by rw [hr, ← HNX.out], HBY.out⟩)
                          clear hr
                          go_wp2_with fail
                          go_roundw
                          case rel => exact ⟨k + 1, by omega, by go_num, ⟨HRN.out⟩⟩
                          case measure => simp only [intOf]; omega
                    | true =>
                      by_cases hk0 : k = 0
                      · have kb : (k == 0) = true := by rw [beq_iff_eq]; exact hk0
                        have kb2 : ((k : Int) == 0) = true := by rw [beq_iff_eq]; omega
                        have hr : res = (ry && nx) := by rw [HST.out, kb, kz]; rfl
                        have HRY := hide hr
                        clear hr HST
                        go_wp2_with fail
                        refine HCL.out.mono ?_
                        rintro e wy ⟨rfl, hby⟩
                        dsimp only
                        have HBY := hide (below_step HBX.out hby)
                        clear hby v0 v1 v2 v3 v4 v5 q0 q5
                        cases ry with
                        | false =>
                          have hr : res = false := HRY.out
                          subst hr
                          go_wp2_with fail
                          go_ret
                          exact ⟨rfl, below_step HB2.out HBY.out⟩
                        | true =>
                          have hr : res = nx := HRY.out
                          have kw2 : IntKind.i64.wrap ((k : Int) + 1) = ((k + 1 : Nat) : Int) := by rw [IntWalk.i64_in _ (by omega)]; rfl
                          have HRN := hide (show RRel w2 res true x0 x5 (k + 1) wy from ⟨by rw [hr, ← HNX.out], HBY.out⟩)
                          clear hr
                          go_wp2_with fail
                          go_roundw
                          case rel => exact ⟨k + 1, by omega, by go_num, ⟨HRN.out⟩⟩
                          case measure => simp only [intOf]; omega
                      · have kb : (k == 0) = false := by rw [beq_eq_false_iff_ne]; exact hk0
                        have kb2 : ((k : Int) == 0) = false := by rw [beq_eq_false_iff_ne]; omega
                        have hr : res = false := by rw [HST.out, kb, kz]; cases ry <;> cases nx <;> rfl
                        subst hr
                        go_wp2_with fail
                        go_ret
                        exact ⟨rfl, below_step HB2.out HBX.out⟩
            · have hke : k = n := by omega
              subst hke
              have hk1 : ¬ (k : Int) < k := by omega
              have hr : res = true := by
                rw [HREL.out.1, List.drop_of_length_le (by rw [HN.out]; exact Nat.le_refl _), rFrom]
              subst hr
              have HBR := hide hbr
              clear hbr
              go_wp2_with fail
              go_ret
              exact ⟨rfl, below_step HB2.out HBR.out⟩
theorem rright : ∀ N, RightAt N
  | 0 => fun x _ _ _ _ _ h => by have := W_eq x; omega
  | N + 1 => rright_succ N (rright N)
set_option maxHeartbeats 8000000 in
set_option maxRecDepth 100000 in
theorem rRight (x : S26) (A3 : Option Addr) (c3 : Nat) (A5 : Option Addr) (c5 : Nat) (w : World) (hW : W x ≤ 1000000000) (hA : AL 10 x) (l3 : x.f3.length ≤ c3) (g3 : k33.C w A3 x.f3.length x.f3) (g5 : k26.C w A5 x.f5.length x.f5) :
    Calls Try.prog 42 #[.agg #[.int .i64 x.f0, .int .i64 x.f1, .string x.f2, .slice A3 x.f3.length c3, .string x.f4, .slice A5 x.f5.length c5]] w fun e w' => e = .returned (.bool (rightB x)) ∧ Below w.heap.size w w' := by
  have hX := heap_alloc_new w (.cells #[.int .i64 x.f0, .int .i64 x.f1, .string x.f2, .slice A3 x.f3.length c3, .string x.f4, .slice A5 x.f5.length c5] 26)
  have b1 := below_alloc (Below.refl w.heap.size w) (.cells #[.int .i64 x.f0, .int .i64 x.f1, .string x.f2, .slice A3 x.f3.length c3, .string x.f4, .slice A5 x.f5.length c5] 26)
  obtain ⟨w1, hw1⟩ : ∃ y, w.alloc (.cells #[.int .i64 x.f0, .int .i64 x.f1, .string x.f2, .slice A3 x.f3.length c3, .string x.f4, .slice A5 x.f5.length c5] 26) = y := ⟨_, rfl⟩
  rw [hw1] at hX b1
  have HC := hide (rright (W x) x A3 c3 A5 c5 w1 (Nat.le_refl _) hW hA l3 (Kd.C_below g3 b1) (Kd.C_below g5 b1))
  rw [right_all]
  obtain ⟨r, hr⟩ : ∃ r, allR x = r := ⟨_, rfl⟩
  rw [hr] at HC ⊢
  have h0 := cell_of_row _ _ 0 _ _ _ hX
  have h1 := cell_of_row _ _ 1 _ _ _ hX
  have h2 := cell_of_row _ _ 2 _ _ _ hX
  have h3 := cell_of_row _ _ 3 _ _ _ hX
  have h4 := cell_of_row _ _ 4 _ _ _ hX
  have h5 := cell_of_row _ _ 5 _ _ _ hX
  have HB := hide b1
  have HW1 := hide hw1
  clear hX b1 hw1 hr hA hW g3 g5 l3
  obtain ⟨x0, x1, x2, x3, x4, x5⟩ := x
  dsimp only at *
  go_enter Try.func42, Try.ntmps42
  go_upto_region 1 with fail
  rw [HW1.out]
  cases e0 : (x0 == 1) with
  | false =>
    go_wp2_with fail
    go_ret
    exact ⟨by rw [e0]; rfl, HB.out⟩
  | true =>
    go_wp2_with (go_at_call 64; (with_reducible refine HC.out.mono ?_); rintro e w' ⟨rfl, hb⟩; have HBB := hide hb; clear hb)
    go_ret
    exact ⟨by rw [e0]; rfl, below_step HB.out HBB.out⟩
end Go.Proofs.Ytaponaemgolmoaa.Tr

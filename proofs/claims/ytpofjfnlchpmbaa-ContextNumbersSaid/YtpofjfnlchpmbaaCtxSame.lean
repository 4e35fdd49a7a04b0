/- The walk of arbourlaw20.same: true. -/
import Derived.Test.YtpofjfnlchpmbaaCtxRset
import Derived.Test.YtpofjfnlchpmbaaCtxAdj
namespace Go.Proofs.Ytpofjfnlchpmbaa.Ctx
open Go.RowKit Go.Proofs.Ytpofjfnlchpmbaa.PContextTells Go.Proofs.YtpofjfnlchpmbaaW.PrintWords Go.Proofs.YtpofjfnlchpmbaaW.PrintLast

theorem resetO (base g s : Nat) (v : Value) (xs : List It) (cv : Value) (o : Option (Int × ByteArray)) (tmpl : Int) (hd : Bool) (w : World) (hl : Lst base g s v xs w) (hc : CtxP cv o w) (hn : xs.length ≤ 1000) :
    Calls Try.prog 19 #[.pointer (some ⟨g, 0, none⟩), cv, .int .i64 tmpl, .bool hd] w fun e w' => e = .returned (.int .i64 (res xs o tmpl hd xs.length)) ∧ Below w.heap.size w w' := by
  cases o with
  | none =>
    have hcv : cv = .pointer none := hc
    subst hcv
    exact resetN base g s v xs tmpl hd w hl hn
  | some p =>
    have hc' := hc
    obtain ⟨b, rfl, _, _⟩ := hc
    exact resetS base g s v xs b p.1 p.2 tmpl hd w hl hc' hn
theorem rsetO (A : Option Addr) (c : Nat) (xs : List It) (cv : Value) (o : Option (Int × ByteArray)) (tmpl : Int) (hd : Bool) (w : World) (hl : kIt.C w A xs.length xs) (hc : CtxP cv o w) (hn : xs.length ≤ 1000) :
    Calls Try.prog 23 #[.slice A xs.length c, cv, .int .i64 tmpl, .bool hd] w fun e w' => e = .returned (.int .i64 (res xs o tmpl hd xs.length)) ∧ Below w.heap.size w w' := by
  cases o with
  | none =>
    have hcv : cv = .pointer none := hc
    subst hcv
    exact rsetN A c xs tmpl hd w hl hn
  | some p =>
    have hc' := hc
    obtain ⟨b, rfl, _, _⟩ := hc
    exact rsetS A c xs b p.1 p.2 tmpl hd w hl hc' hn
set_option maxHeartbeats 8000000 in
set_option maxRecDepth 100000 in
theorem same (A : Option Addr) (c : Nat) (l : List (Int × Bool)) (cv : Value) (o : Option (Int × ByteArray)) (tmpl : Int) (hd : Bool) (w : World) (hl : kEl.C w A l.length l) (hc : CtxP cv o w) :
    Calls Try.prog 13 #[.slice A l.length c, cv, .int .i64 tmpl, .bool hd] w fun e w' => e = .returned (.bool true) ∧ Below w.heap.size w w' := by
  have HLI := hide (list A c l w hl)
  have HC := hide hc
  clear hl
  go_enter Try.func13, Try.ntmps13
  go_wp2_with fail
  refine HLI.out.mono ?_
  rintro e w1 ⟨g, s, v, vo, rfl, hl, hr, hb⟩
  obtain ⟨xs, hxs⟩ : ∃ xs, itsN l (min l.length 20) = xs := ⟨_, rfl⟩
  have hn : xs.length ≤ 20 := by rw [← hxs, itsN_len]; omega
  rw [hxs] at hl hr
  clear hxs HLI
  obtain ⟨M, cM, rfl, hcM, hM⟩ := Kd.R_reads hr
  have HL1 := hide hl
  have HB1 := hide hb
  have HM1 := hide hM
  have HC1 := hide (HC.out.below hb)
  clear hl hr hb hM hcM HC
  dsimp only
  by_cases h0 : xs.length = 0
  · have hadj : adj xs o = (0, ⟨#[]⟩) := by unfold adj; rw [if_pos h0]
    have HADJ := hide hadj
    have t1 : ¬ (0 : Int) < (xs.length : Int) := by omega
    have t2 : ((xs.length : Int) == 1) = false := beq_eq_false_iff_ne.2 (by omega)
    have t3 : ¬ 0 < xs.length := by omega
    have HN := hide hn
    clear hadj h0 hc hn
    go_wp2_with fail
    have hadj := adjust w.heap.size g s v xs cv o w1 HL1.out HC1.out (by have := HN.out; omega)
    rw [HADJ.out] at hadj
    refine hadj.mono ?_
    rintro e w5 ⟨rfl, hb⟩
    have HB5 := hide (below_step HB1.out hb)
    have HL5 := hide (HL1.out.below hb)
    have HM5 := hide (Kd.C_below HM1.out hb)
    have HC5 := hide (HC1.out.below hb)
    clear hb hadj HB1 HL1 HM1 HC1
    dsimp only
    go_wp2_with fail
    obtain ⟨R, hR⟩ : ∃ R, res xs o tmpl hd xs.length = R := ⟨_, rfl⟩
    have hres := resetO w.heap.size g s v xs cv o tmpl hd w5 HL5.out HC5.out (by have := HN.out; omega)
    rw [hR] at hres
    refine hres.mono ?_
    rintro e w6 ⟨rfl, hb⟩
    have HB6 := hide (below_step HB5.out hb)
    have HL6 := hide (HL5.out.below hb)
    have HM6 := hide (Kd.C_below HM5.out hb)
    have HC6 := hide (HC5.out.below hb)
    clear hb hres HB5 HL5 HM5 HC5
    dsimp only
    go_wp2_with fail
    have hres := rsetO M cM xs cv o tmpl hd w6 HM6.out HC6.out (by have := HN.out; omega)
    rw [hR] at hres
    refine hres.mono ?_
    rintro e w7 ⟨rfl, hb⟩
    have HB7 := hide (below_step HB6.out hb)
    have HL7 := hide (HL6.out.below hb)
    have HC7 := hide (HC6.out.below hb)
    clear hb hres HB6 HL6 HM6 HC6 hR
    dsimp only
    go_wp2_with fail
    have hfo := foreign w.heap.size g s v xs cv o w7 HL7.out HC7.out (by have := HN.out; omega)
    rw [HADJ.out] at hfo
    refine hfo.mono ?_
    rintro e w8 ⟨rfl, hb⟩
    have HB8 := hide (below_step HB7.out hb)
    clear hb hfo HB7 HL7 HC7
    dsimp only
    go_wp2_with fail
    go_ret
    exact ⟨rfl, HB8.out⟩
  · obtain ⟨ad, x, hMe, hx, _, y1, y2, _⟩ := it_at HM1.out (xs.length - 1) (by omega)
    subst hMe
    have hlast : lastOf xs = (x.ns, x.name) := by unfold lastOf; rw [List.getD_eq_getElem?_getD, hx]; rfl
    obtain ⟨xh, xns, xnm⟩ := x
    dsimp only at y1 y2 hlast
    have t1 : (0 : Int) < (xs.length : Int) := by omega
    have t3 : 0 < xs.length := by omega
    have ew : IntKind.i64.wrap ((xs.length : Int) - 1) = ((xs.length - 1 : Nat) : Int) := by rw [IntWalk.i64_in _ (by omega)]; omega
    have i0 : (0 : Int) ≤ ((xs.length - 1 : Nat) : Int) := by omega
    have i1 : ((xs.length - 1 : Nat) : Int) < xs.length := by omega
    have i2 : xs.length - 1 < xs.length := by omega
    have HADJ0 : Hid (adj xs o = if xs.length = 1 then o.getD (xns, xnm) else (xns, xnm)) := hide (by unfold adj; rw [if_neg h0, hlast])
    clear hx hlast h0
    by_cases h1 : xs.length = 1
    · have t2 : ((xs.length : Int) == 1) = true := by rw [h1]; rfl
      cases o with
      | none =>
        have hcv : cv = .pointer none := hc
        subst hcv
        have HADJ : Hid (adj xs none = (xns, xnm)) := hide (by rw [HADJ0.out, if_pos h1]; rfl)
        have HN := hide hn
        have H1 := hide h1
        clear HADJ0 h1 hn hc
        go_wp2_with fail
        go_quiet (fail)
        have HB2 := hide (pw_below_drewN HB1.out nq)
        have HL2 := hide (HL1.out.below (pw_below_drewN (Below.refl _ _) nq))
        have HM2 := hide (Kd.C_below HM1.out (pw_below_drewN (Below.refl _ _) nq))
        have HC2 := hide (HC1.out.below (pw_below_drewN (Below.refl _ _) nq))
        obtain ⟨w2, hw2⟩ : ∃ w2, w1.drewN nq = w2 := ⟨_, rfl⟩
        rw [hw2] at HB2 HL2 HM2 HC2 ⊢
        clear hw2 y1 y2 HB1 HL1 HM1 HC1
        go_wp2_with fail
        have hadj := adjust w.heap.size g s v xs (.pointer none) none w2 HL2.out HC2.out (by have := HN.out; omega)
        rw [HADJ.out] at hadj
        refine hadj.mono ?_
        rintro e w5 ⟨rfl, hb⟩
        have HB5 := hide (below_step HB2.out hb)
        have HL5 := hide (HL2.out.below hb)
        have HM5 := hide (Kd.C_below HM2.out hb)
        have HC5 := hide (HC2.out.below hb)
        clear hb hadj HB2 HL2 HM2 HC2
        dsimp only
        go_wp2_with fail
        obtain ⟨R, hR⟩ : ∃ R, res xs none tmpl hd xs.length = R := ⟨_, rfl⟩
        have hres := resetO w.heap.size g s v xs (.pointer none) none tmpl hd w5 HL5.out HC5.out (by have := HN.out; omega)
        rw [hR] at hres
        refine hres.mono ?_
        rintro e w6 ⟨rfl, hb⟩
        have HB6 := hide (below_step HB5.out hb)
        have HL6 := hide (HL5.out.below hb)
        have HM6 := hide (Kd.C_below HM5.out hb)
        have HC6 := hide (HC5.out.below hb)
        clear hb hres HB5 HL5 HM5 HC5
        dsimp only
        go_wp2_with fail
        have hres := rsetO (some ad) cM xs (.pointer none) none tmpl hd w6 HM6.out HC6.out (by have := HN.out; omega)
        rw [hR] at hres
        refine hres.mono ?_
        rintro e w7 ⟨rfl, hb⟩
        have HB7 := hide (below_step HB6.out hb)
        have HL7 := hide (HL6.out.below hb)
        have HC7 := hide (HC6.out.below hb)
        clear hb hres HB6 HL6 HM6 HC6 hR
        dsimp only
        go_wp2_with fail
        have hfo := foreign w.heap.size g s v xs (.pointer none) none w7 HL7.out HC7.out (by have := HN.out; omega)
        rw [HADJ.out] at hfo
        refine hfo.mono ?_
        rintro e w8 ⟨rfl, hb⟩
        have HB8 := hide (below_step HB7.out hb)
        clear hb hfo HB7 HL7 HC7
        dsimp only
        go_wp2_with fail
        go_ret
        exact ⟨rfl, HB8.out⟩
      | some q =>
        obtain ⟨b, rfl, _, _⟩ := hc
        obtain ⟨qns, qnm⟩ := q
        have HADJ : Hid (adj xs (some (qns, qnm)) = (qns, qnm)) := hide (by rw [HADJ0.out, if_pos h1]; rfl)
        have HN := hide hn
        have H1 := hide h1
        clear HADJ0 h1 hn
        go_wp2_with fail
        go_quiet (fail)
        have HB2 := hide (pw_below_drewN HB1.out nq)
        have HL2 := hide (HL1.out.below (pw_below_drewN (Below.refl _ _) nq))
        have HM2 := hide (Kd.C_below HM1.out (pw_below_drewN (Below.refl _ _) nq))
        have HC2 := hide (HC1.out.below (pw_below_drewN (Below.refl _ _) nq))
        obtain ⟨w2, hw2⟩ : ∃ w2, w1.drewN nq = w2 := ⟨_, rfl⟩
        rw [hw2] at HB2 HL2 HM2 HC2 ⊢
        clear hw2 y1 y2 HB1 HL1 HM1 HC1
        obtain ⟨b', hb', hq0, hq1⟩ : CtxP (.pointer (some ⟨b, 0, none⟩)) (some (qns, qnm)) w2 := HC2.out
        cases hb'
        dsimp only at hq0 hq1
        go_wp2_with fail
        go_quiet (fail)
        have HB3 := hide (pw_below_drewN HB2.out nq)
        have HL3 := hide (HL2.out.below (pw_below_drewN (Below.refl _ _) nq))
        have HM3 := hide (Kd.C_below HM2.out (pw_below_drewN (Below.refl _ _) nq))
        have HC3 := hide (HC2.out.below (pw_below_drewN (Below.refl _ _) nq))
        obtain ⟨w3, hw3⟩ : ∃ w3, w2.drewN nq = w3 := ⟨_, rfl⟩
        rw [hw3] at HB3 HL3 HM3 HC3 ⊢
        clear hw3 hq0 hq1 HB2 HL2 HM2 HC2
        go_wp2_with fail
        have hadj := adjust w.heap.size g s v xs (.pointer (some ⟨b, 0, none⟩)) (some (qns, qnm)) w3 HL3.out HC3.out (by have := HN.out; omega)
        rw [HADJ.out] at hadj
        refine hadj.mono ?_
        rintro e w5 ⟨rfl, hb⟩
        have HB5 := hide (below_step HB3.out hb)
        have HL5 := hide (HL3.out.below hb)
        have HM5 := hide (Kd.C_below HM3.out hb)
        have HC5 := hide (HC3.out.below hb)
        clear hb hadj HB3 HL3 HM3 HC3
        dsimp only
        go_wp2_with fail
        obtain ⟨R, hR⟩ : ∃ R, res xs (some (qns, qnm)) tmpl hd xs.length = R := ⟨_, rfl⟩
        have hres := resetO w.heap.size g s v xs (.pointer (some ⟨b, 0, none⟩)) (some (qns, qnm)) tmpl hd w5 HL5.out HC5.out (by have := HN.out; omega)
        rw [hR] at hres
        refine hres.mono ?_
        rintro e w6 ⟨rfl, hb⟩
        have HB6 := hide (below_step HB5.out hb)
        have HL6 := hide (HL5.out.below hb)
        have HM6 := hide (Kd.C_below HM5.out hb)
        have HC6 := hide (HC5.out.below hb)
        clear hb hres HB5 HL5 HM5 HC5
        dsimp only
        go_wp2_with fail
        have hres := rsetO (some ad) cM xs (.pointer (some ⟨b, 0, none⟩)) (some (qns, qnm)) tmpl hd w6 HM6.out HC6.out (by have := HN.out; omega)
        rw [hR] at hres
        refine hres.mono ?_
        rintro e w7 ⟨rfl, hb⟩
        have HB7 := hide (below_step HB6.out hb)
        have HL7 := hide (HL6.out.below hb)
        have HC7 := hide (HC6.out.below hb)
        clear hb hres HB6 HL6 HM6 HC6 hR
        dsimp only
        go_wp2_with fail
        have hfo := foreign w.heap.size g s v xs (.pointer (some ⟨b, 0, none⟩)) (some (qns, qnm)) w7 HL7.out HC7.out (by have := HN.out; omega)
        rw [HADJ.out] at hfo
        refine hfo.mono ?_
        rintro e w8 ⟨rfl, hb⟩
        have HB8 := hide (below_step HB7.out hb)
        clear hb hfo HB7 HL7 HC7
        dsimp only
        go_wp2_with fail
        go_ret
        exact ⟨rfl, HB8.out⟩
    · have t2 : ((xs.length : Int) == 1) = false := beq_eq_false_iff_ne.2 (by omega)
      have HADJ : Hid (adj xs o = (xns, xnm)) := hide (by rw [HADJ0.out, if_neg h1])
      have HN := hide hn
      have H1 := hide h1
      clear HADJ0 h1 hn hc
      go_wp2_with fail
      go_quiet (fail)
      have HB2 := hide (pw_below_drewN HB1.out nq)
      have HL2 := hide (HL1.out.below (pw_below_drewN (Below.refl _ _) nq))
      have HM2 := hide (Kd.C_below HM1.out (pw_below_drewN (Below.refl _ _) nq))
      have HC2 := hide (HC1.out.below (pw_below_drewN (Below.refl _ _) nq))
      obtain ⟨w2, hw2⟩ : ∃ w2, w1.drewN nq = w2 := ⟨_, rfl⟩
      rw [hw2] at HB2 HL2 HM2 HC2 ⊢
      clear hw2 y1 y2 HB1 HL1 HM1 HC1
      go_wp2_with fail
      have hadj := adjust w.heap.size g s v xs cv o w2 HL2.out HC2.out (by have := HN.out; omega)
      rw [HADJ.out] at hadj
      refine hadj.mono ?_
      rintro e w5 ⟨rfl, hb⟩
      have HB5 := hide (below_step HB2.out hb)
      have HL5 := hide (HL2.out.below hb)
      have HM5 := hide (Kd.C_below HM2.out hb)
      have HC5 := hide (HC2.out.below hb)
      clear hb hadj HB2 HL2 HM2 HC2
      dsimp only
      go_wp2_with fail
      obtain ⟨R, hR⟩ : ∃ R, res xs o tmpl hd xs.length = R := ⟨_, rfl⟩
      have hres := resetO w.heap.size g s v xs cv o tmpl hd w5 HL5.out HC5.out (by have := HN.out; omega)
      rw [hR] at hres
      refine hres.mono ?_
      rintro e w6 ⟨rfl, hb⟩
      have HB6 := hide (below_step HB5.out hb)
      have HL6 := hide (HL5.out.below hb)
      have HM6 := hide (Kd.C_below HM5.out hb)
      have HC6 := hide (HC5.out.below hb)
      clear hb hres HB5 HL5 HM5 HC5
      dsimp only
      go_wp2_with fail
      have hres := rsetO (some ad) cM xs cv o tmpl hd w6 HM6.out HC6.out (by have := HN.out; omega)
      rw [hR] at hres
      refine hres.mono ?_
      rintro e w7 ⟨rfl, hb⟩
      have HB7 := hide (below_step HB6.out hb)
      have HL7 := hide (HL6.out.below hb)
      have HC7 := hide (HC6.out.below hb)
      clear hb hres HB6 HL6 HM6 HC6 hR
      dsimp only
      go_wp2_with fail
      have hfo := foreign w.heap.size g s v xs cv o w7 HL7.out HC7.out (by have := HN.out; omega)
      rw [HADJ.out] at hfo
      refine hfo.mono ?_
      rintro e w8 ⟨rfl, hb⟩
      have HB8 := hide (below_step HB7.out hb)
      clear hb hfo HB7 HL7 HC7
      dsimp only
      go_wp2_with fail
      go_ret
      exact ⟨rfl, HB8.out⟩
end Go.Proofs.Ytpofjfnlchpmbaa.Ctx

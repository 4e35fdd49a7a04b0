/- The walk of arbourlaw20.reset: the mode, by the document: the same as context.Reset's. -/
import Derived.Test.YtpofjfnlchpmbaaCtxReset
import Derived.BigQuiet
import Derived.Deep.DeepCutAuto
import Derived.Deep.CutBlock
namespace Go.Proofs.Ytpofjfnlchpmbaa.Ctx
open Go.RowKit Go.Proofs.Ytpofjfnlchpmbaa.PContextTells Go.Proofs.YtpofjfnlchpmbaaW.PrintWords Go.Proofs.YtpofjfnlchpmbaaW.PrintLast
set_option maxHeartbeats 8000000 in
set_option maxRecDepth 100000 in
theorem rsetN (A : Option Addr) (c : Nat) (xs : List It) (tmpl : Int) (hd : Bool) (w : World) (hl : kIt.C w A xs.length xs) (hn : xs.length ≤ 1000) :
    Calls Try.prog 23 #[.slice A xs.length c, .pointer none, .int .i64 tmpl, .bool hd] w fun e w' => e = .returned (.int .i64 (res xs none tmpl hd xs.length)) ∧ Below w.heap.size w w' := by
  have HL := hide hl
  
  have ew : IntKind.i64.wrap ((xs.length : Int) - 1) = (xs.length : Int) - 1 := IntWalk.i64_in _ (by omega)
  clear hl 
  go_enter Try.func23, Try.ntmps23
  go_wp2_with fail
  go_loopw [9] (fun i wr => ∃ j : Nat, j ≤ xs.length ∧ i = .int .i64 ((j : Int) - 1) ∧ Aside0 (res xs none tmpl hd xs.length = res xs none tmpl hd j) ∧ Aside0 (Below w.heap.size w wr)) (fun i _ => (intOf i + 1).toNat)
  case atStart => exact ⟨xs.length, Nat.le_refl _, rfl, ⟨rfl⟩, ⟨Below.refl _ _⟩⟩
  case round =>
    clear ew
    obtain ⟨j, hj, rfl, HR, HB⟩ := hrel
    match j, hj, HR with
    | 0, hj, HR =>
      have t : ¬ (0 : Int) ≤ ((0 : Nat) : Int) - 1 := by omega
      have t2 : ((0 : Nat) : Int) - 1 < 0 := by omega
      go_wp2_with fail
      go_ret
      rw [HR.out]
      exact ⟨rfl, HB.out⟩
    | m + 1, hj, HR =>
      rw [show ((m + 1 : Nat) : Int) - 1 = (m : Int) by omega]
      have hm0 : (0 : Int) ≤ (m : Int) := by omega
      have hm1 : (m : Int) < xs.length := by omega
      obtain ⟨ad, x, hA, hx, _, y1, y2, _⟩ := it_at (Kd.C_below HL.out HB.out) m (by omega)
      subst hA
      have hgx : xs.getD m z0 = x := by rw [List.getD_eq_getElem?_getD, hx]; rfl
      have HGX := hide hgx
      have ew2 : IntKind.i64.wrap ((m : Int) - 1) = (m : Int) - 1 := IntWalk.i64_in _ (by omega)
      clear hgx hx
      obtain ⟨xh, xns, xnm⟩ := x
      dsimp only at y1 y2
      rcases Nat.eq_zero_or_pos m with h0 | hpos
      · have hbm : ((m : Int) == 0) = true := by rw [h0]; rfl
        have H0 := hide h0
        have HELT := hide (show elAt xs none m = (xns, xnm) from elAt_none xs m HGX.out)
        clear h0
        go_wp2_with fail
        go_quiet (fail)
        have HBQ := hide (pw_below_drewN HB.out nq)
        obtain ⟨wQ, hQ⟩ : ∃ wQ, wr.drewN nq = wQ := ⟨_, rfl⟩
        rw [hQ] at HBQ ⊢
        clear hQ y1 y2 HB
        have HBC := HBQ
        have h0 := H0.out
        clear h0
        by_cases q1 : xns = 1
        · subst q1
          by_cases h0 : xnm.toList = [116, 100]
          · have b0 : (xnm.toList == [116, 100]) = true := by rw [h0]; decide +kernel
            have b1 : (xnm.toList == [116, 104]) = false := by rw [h0]; decide +kernel
            have b2 : (xnm.toList == [116, 114]) = false := by rw [h0]; decide +kernel
            have b3 : (xnm.toList == [116, 98, 111, 100, 121]) = false := by rw [h0]; decide +kernel
            have b4 : (xnm.toList == [116, 102, 111, 111, 116]) = false := by rw [h0]; decide +kernel
            have b5 : (xnm.toList == [116, 104, 101, 97, 100]) = false := by rw [h0]; decide +kernel
            have b6 : (xnm.toList == [116, 97, 98, 108, 101]) = false := by rw [h0]; decide +kernel
            have b7 : (xnm.toList == [116, 101, 109, 112, 108, 97, 116, 101]) = false := by rw [h0]; decide +kernel
            have b8 : (xnm.toList == [104, 101, 97, 100]) = false := by rw [h0]; decide +kernel
            have b9 : (xnm.toList == [98, 111, 100, 121]) = false := by rw [h0]; decide +kernel
            have b10 : (xnm.toList == [104, 116, 109, 108]) = false := by rw [h0]; decide +kernel
            rcases (Or.inl H0.out : m = 0 ∨ 0 < m) with hm | hm
            · have hm2 : ¬ (0 : Int) < (m : Int) := by omega
              have HEL := hide (show modeOf (elAt xs none m) m tmpl hd = none by rw [HELT.out]; unfold modeOf ofL; simp [h0]; first | (intro _ h; omega) | omega | simp [hm])
              go_wp2_with fail
              go_roundw
              case rel => exact ⟨m, by omega, by go_num, ⟨HR.out.trans (res_none HEL.out)⟩, ⟨HBC.out⟩⟩
              case measure => simp only [intOf]; omega
            · have hm2 : (0 : Int) < (m : Int) := by omega
              have hm3 : ¬ m = 0 := by omega
              have HEL := hide (show modeOf (elAt xs none m) m tmpl hd = some 12 by rw [HELT.out]; unfold modeOf ofL; simp [h0]; first | omega | simp [hm3])
              go_wp2_with fail
              go_ret
              rw [HR.out]
              refine ⟨?_, HBC.out⟩
              rw [res_some HEL.out]
              rfl
          by_cases h1 : xnm.toList = [116, 104]
          · have b0 : (xnm.toList == [116, 100]) = false := by rw [h1]; decide +kernel
            have b1 : (xnm.toList == [116, 104]) = true := by rw [h1]; decide +kernel
            have b2 : (xnm.toList == [116, 114]) = false := by rw [h1]; decide +kernel
            have b3 : (xnm.toList == [116, 98, 111, 100, 121]) = false := by rw [h1]; decide +kernel
            have b4 : (xnm.toList == [116, 102, 111, 111, 116]) = false := by rw [h1]; decide +kernel
            have b5 : (xnm.toList == [116, 104, 101, 97, 100]) = false := by rw [h1]; decide +kernel
            have b6 : (xnm.toList == [116, 97, 98, 108, 101]) = false := by rw [h1]; decide +kernel
            have b7 : (xnm.toList == [116, 101, 109, 112, 108, 97, 116, 101]) = false := by rw [h1]; decide +kernel
            have b8 : (xnm.toList == [104, 101, 97, 100]) = false := by rw [h1]; decide +kernel
            have b9 : (xnm.toList == [98, 111, 100, 121]) = false := by rw [h1]; decide +kernel
            have b10 : (xnm.toList == [104, 116, 109, 108]) = false := by rw [h1]; decide +kernel
            rcases (Or.inl H0.out : m = 0 ∨ 0 < m) with hm | hm
            · have hm2 : ¬ (0 : Int) < (m : Int) := by omega
              have HEL := hide (show modeOf (elAt xs none m) m tmpl hd = none by rw [HELT.out]; unfold modeOf ofL; simp [h1]; first | (intro _ h; omega) | omega | simp [hm])
              go_wp2_with fail
              go_roundw
              case rel => exact ⟨m, by omega, by go_num, ⟨HR.out.trans (res_none HEL.out)⟩, ⟨HBC.out⟩⟩
              case measure => simp only [intOf]; omega
            · have hm2 : (0 : Int) < (m : Int) := by omega
              have hm3 : ¬ m = 0 := by omega
              have HEL := hide (show modeOf (elAt xs none m) m tmpl hd = some 12 by rw [HELT.out]; unfold modeOf ofL; simp [h1]; first | omega | simp [hm3])
              go_wp2_with fail
              go_ret
              rw [HR.out]
              refine ⟨?_, HBC.out⟩
              rw [res_some HEL.out]
              rfl
          by_cases h2 : xnm.toList = [116, 114]
          · have b0 : (xnm.toList == [116, 100]) = false := by rw [h2]; decide +kernel
            have b1 : (xnm.toList == [116, 104]) = false := by rw [h2]; decide +kernel
            have b2 : (xnm.toList == [116, 114]) = true := by rw [h2]; decide +kernel
            have b3 : (xnm.toList == [116, 98, 111, 100, 121]) = false := by rw [h2]; decide +kernel
            have b4 : (xnm.toList == [116, 102, 111, 111, 116]) = false := by rw [h2]; decide +kernel
            have b5 : (xnm.toList == [116, 104, 101, 97, 100]) = false := by rw [h2]; decide +kernel
            have b6 : (xnm.toList == [116, 97, 98, 108, 101]) = false := by rw [h2]; decide +kernel
            have b7 : (xnm.toList == [116, 101, 109, 112, 108, 97, 116, 101]) = false := by rw [h2]; decide +kernel
            have b8 : (xnm.toList == [104, 101, 97, 100]) = false := by rw [h2]; decide +kernel
            have b9 : (xnm.toList == [98, 111, 100, 121]) = false := by rw [h2]; decide +kernel
            have b10 : (xnm.toList == [104, 116, 109, 108]) = false := by rw [h2]; decide +kernel
            have HEL := hide (show modeOf (elAt xs none m) m tmpl hd = some 11 by rw [HELT.out]; unfold modeOf ofL; simp [h2])
            go_wp2_with fail
            go_ret
            rw [HR.out]
            refine ⟨?_, HBC.out⟩
            rw [res_some HEL.out]
            rfl
          by_cases h3 : xnm.toList = [116, 98, 111, 100, 121]
          · have b0 : (xnm.toList == [116, 100]) = false := by rw [h3]; decide +kernel
            have b1 : (xnm.toList == [116, 104]) = false := by rw [h3]; decide +kernel
            have b2 : (xnm.toList == [116, 114]) = false := by rw [h3]; decide +kernel
            have b3 : (xnm.toList == [116, 98, 111, 100, 121]) = true := by rw [h3]; decide +kernel
            have b4 : (xnm.toList == [116, 102, 111, 111, 116]) = false := by rw [h3]; decide +kernel
            have b5 : (xnm.toList == [116, 104, 101, 97, 100]) = false := by rw [h3]; decide +kernel
            have b6 : (xnm.toList == [116, 97, 98, 108, 101]) = false := by rw [h3]; decide +kernel
            have b7 : (xnm.toList == [116, 101, 109, 112, 108, 97, 116, 101]) = false := by rw [h3]; decide +kernel
            have b8 : (xnm.toList == [104, 101, 97, 100]) = false := by rw [h3]; decide +kernel
            have b9 : (xnm.toList == [98, 111, 100, 121]) = false := by rw [h3]; decide +kernel
            have b10 : (xnm.toList == [104, 116, 109, 108]) = false := by rw [h3]; decide +kernel
            have HEL := hide (show modeOf (elAt xs none m) m tmpl hd = some 10 by rw [HELT.out]; unfold modeOf ofL; simp [h3])
            go_wp2_with fail
            go_ret
            rw [HR.out]
            refine ⟨?_, HBC.out⟩
            rw [res_some HEL.out]
            rfl
          by_cases h4 : xnm.toList = [116, 102, 111, 111, 116]
          · have b0 : (xnm.toList == [116, 100]) = false := by rw [h4]; decide +kernel
            have b1 : (xnm.toList == [116, 104]) = false := by rw [h4]; decide +kernel
            have b2 : (xnm.toList == [116, 114]) = false := by rw [h4]; decide +kernel
            have b3 : (xnm.toList == [116, 98, 111, 100, 121]) = false := by rw [h4]; decide +kernel
            have b4 : (xnm.toList == [116, 102, 111, 111, 116]) = true := by rw [h4]; decide +kernel
            have b5 : (xnm.toList == [116, 104, 101, 97, 100]) = false := by rw [h4]; decide +kernel
            have b6 : (xnm.toList == [116, 97, 98, 108, 101]) = false := by rw [h4]; decide +kernel
            have b7 : (xnm.toList == [116, 101, 109, 112, 108, 97, 116, 101]) = false := by rw [h4]; decide +kernel
            have b8 : (xnm.toList == [104, 101, 97, 100]) = false := by rw [h4]; decide +kernel
            have b9 : (xnm.toList == [98, 111, 100, 121]) = false := by rw [h4]; decide +kernel
            have b10 : (xnm.toList == [104, 116, 109, 108]) = false := by rw [h4]; decide +kernel
            have HEL := hide (show modeOf (elAt xs none m) m tmpl hd = some 10 by rw [HELT.out]; unfold modeOf ofL; simp [h4])
            go_wp2_with fail
            go_ret
            rw [HR.out]
            refine ⟨?_, HBC.out⟩
            rw [res_some HEL.out]
            rfl
          by_cases h5 : xnm.toList = [116, 104, 101, 97, 100]
          · have b0 : (xnm.toList == [116, 100]) = false := by rw [h5]; decide +kernel
            have b1 : (xnm.toList == [116, 104]) = false := by rw [h5]; decide +kernel
            have b2 : (xnm.toList == [116, 114]) = false := by rw [h5]; decide +kernel
            have b3 : (xnm.toList == [116, 98, 111, 100, 121]) = false := by rw [h5]; decide +kernel
            have b4 : (xnm.toList == [116, 102, 111, 111, 116]) = false := by rw [h5]; decide +kernel
            have b5 : (xnm.toList == [116, 104, 101, 97, 100]) = true := by rw [h5]; decide +kernel
            have b6 : (xnm.toList == [116, 97, 98, 108, 101]) = false := by rw [h5]; decide +kernel
            have b7 : (xnm.toList == [116, 101, 109, 112, 108, 97, 116, 101]) = false := by rw [h5]; decide +kernel
            have b8 : (xnm.toList == [104, 101, 97, 100]) = false := by rw [h5]; decide +kernel
            have b9 : (xnm.toList == [98, 111, 100, 121]) = false := by rw [h5]; decide +kernel
            have b10 : (xnm.toList == [104, 116, 109, 108]) = false := by rw [h5]; decide +kernel
            have HEL := hide (show modeOf (elAt xs none m) m tmpl hd = some 10 by rw [HELT.out]; unfold modeOf ofL; simp [h5])
            go_wp2_with fail
            go_ret
            rw [HR.out]
            refine ⟨?_, HBC.out⟩
            rw [res_some HEL.out]
            rfl
          by_cases h6 : xnm.toList = [116, 97, 98, 108, 101]
          · have b0 : (xnm.toList == [116, 100]) = false := by rw [h6]; decide +kernel
            have b1 : (xnm.toList == [116, 104]) = false := by rw [h6]; decide +kernel
            have b2 : (xnm.toList == [116, 114]) = false := by rw [h6]; decide +kernel
            have b3 : (xnm.toList == [116, 98, 111, 100, 121]) = false := by rw [h6]; decide +kernel
            have b4 : (xnm.toList == [116, 102, 111, 111, 116]) = false := by rw [h6]; decide +kernel
            have b5 : (xnm.toList == [116, 104, 101, 97, 100]) = false := by rw [h6]; decide +kernel
            have b6 : (xnm.toList == [116, 97, 98, 108, 101]) = true := by rw [h6]; decide +kernel
            have b7 : (xnm.toList == [116, 101, 109, 112, 108, 97, 116, 101]) = false := by rw [h6]; decide +kernel
            have b8 : (xnm.toList == [104, 101, 97, 100]) = false := by rw [h6]; decide +kernel
            have b9 : (xnm.toList == [98, 111, 100, 121]) = false := by rw [h6]; decide +kernel
            have b10 : (xnm.toList == [104, 116, 109, 108]) = false := by rw [h6]; decide +kernel
            have HEL := hide (show modeOf (elAt xs none m) m tmpl hd = some 8 by rw [HELT.out]; unfold modeOf ofL; simp [h6])
            go_wp2_with fail
            go_ret
            rw [HR.out]
            refine ⟨?_, HBC.out⟩
            rw [res_some HEL.out]
            rfl
          by_cases h7 : xnm.toList = [116, 101, 109, 112, 108, 97, 116, 101]
          · have b0 : (xnm.toList == [116, 100]) = false := by rw [h7]; decide +kernel
            have b1 : (xnm.toList == [116, 104]) = false := by rw [h7]; decide +kernel
            have b2 : (xnm.toList == [116, 114]) = false := by rw [h7]; decide +kernel
            have b3 : (xnm.toList == [116, 98, 111, 100, 121]) = false := by rw [h7]; decide +kernel
            have b4 : (xnm.toList == [116, 102, 111, 111, 116]) = false := by rw [h7]; decide +kernel
            have b5 : (xnm.toList == [116, 104, 101, 97, 100]) = false := by rw [h7]; decide +kernel
            have b6 : (xnm.toList == [116, 97, 98, 108, 101]) = false := by rw [h7]; decide +kernel
            have b7 : (xnm.toList == [116, 101, 109, 112, 108, 97, 116, 101]) = true := by rw [h7]; decide +kernel
            have b8 : (xnm.toList == [104, 101, 97, 100]) = false := by rw [h7]; decide +kernel
            have b9 : (xnm.toList == [98, 111, 100, 121]) = false := by rw [h7]; decide +kernel
            have b10 : (xnm.toList == [104, 116, 109, 108]) = false := by rw [h7]; decide +kernel
            have HEL := hide (show modeOf (elAt xs none m) m tmpl hd = some tmpl by rw [HELT.out]; unfold modeOf ofL; simp [h7])
            go_wp2_with fail
            go_ret
            rw [HR.out]
            refine ⟨?_, HBC.out⟩
            rw [res_some HEL.out]
            rfl
          by_cases h8 : xnm.toList = [104, 101, 97, 100]
          · have b0 : (xnm.toList == [116, 100]) = false := by rw [h8]; decide +kernel
            have b1 : (xnm.toList == [116, 104]) = false := by rw [h8]; decide +kernel
            have b2 : (xnm.toList == [116, 114]) = false := by rw [h8]; decide +kernel
            have b3 : (xnm.toList == [116, 98, 111, 100, 121]) = false := by rw [h8]; decide +kernel
            have b4 : (xnm.toList == [116, 102, 111, 111, 116]) = false := by rw [h8]; decide +kernel
            have b5 : (xnm.toList == [116, 104, 101, 97, 100]) = false := by rw [h8]; decide +kernel
            have b6 : (xnm.toList == [116, 97, 98, 108, 101]) = false := by rw [h8]; decide +kernel
            have b7 : (xnm.toList == [116, 101, 109, 112, 108, 97, 116, 101]) = false := by rw [h8]; decide +kernel
            have b8 : (xnm.toList == [104, 101, 97, 100]) = true := by rw [h8]; decide +kernel
            have b9 : (xnm.toList == [98, 111, 100, 121]) = false := by rw [h8]; decide +kernel
            have b10 : (xnm.toList == [104, 116, 109, 108]) = false := by rw [h8]; decide +kernel
            rcases (Or.inl H0.out : m = 0 ∨ 0 < m) with hm | hm
            · have hm2 : ¬ (0 : Int) < (m : Int) := by omega
              have HEL := hide (show modeOf (elAt xs none m) m tmpl hd = none by rw [HELT.out]; unfold modeOf ofL; simp [h8]; first | (intro _ h; omega) | omega | simp [hm])
              go_wp2_with fail
              go_roundw
              case rel => exact ⟨m, by omega, by go_num, ⟨HR.out.trans (res_none HEL.out)⟩, ⟨HBC.out⟩⟩
              case measure => simp only [intOf]; omega
            · have hm2 : (0 : Int) < (m : Int) := by omega
              have hm3 : ¬ m = 0 := by omega
              have HEL := hide (show modeOf (elAt xs none m) m tmpl hd = some 4 by rw [HELT.out]; unfold modeOf ofL; simp [h8]; first | omega | simp [hm3])
              go_wp2_with fail
              go_ret
              rw [HR.out]
              refine ⟨?_, HBC.out⟩
              rw [res_some HEL.out]
              rfl
          by_cases h9 : xnm.toList = [98, 111, 100, 121]
          · have b0 : (xnm.toList == [116, 100]) = false := by rw [h9]; decide +kernel
            have b1 : (xnm.toList == [116, 104]) = false := by rw [h9]; decide +kernel
            have b2 : (xnm.toList == [116, 114]) = false := by rw [h9]; decide +kernel
            have b3 : (xnm.toList == [116, 98, 111, 100, 121]) = false := by rw [h9]; decide +kernel
            have b4 : (xnm.toList == [116, 102, 111, 111, 116]) = false := by rw [h9]; decide +kernel
            have b5 : (xnm.toList == [116, 104, 101, 97, 100]) = false := by rw [h9]; decide +kernel
            have b6 : (xnm.toList == [116, 97, 98, 108, 101]) = false := by rw [h9]; decide +kernel
            have b7 : (xnm.toList == [116, 101, 109, 112, 108, 97, 116, 101]) = false := by rw [h9]; decide +kernel
            have b8 : (xnm.toList == [104, 101, 97, 100]) = false := by rw [h9]; decide +kernel
            have b9 : (xnm.toList == [98, 111, 100, 121]) = true := by rw [h9]; decide +kernel
            have b10 : (xnm.toList == [104, 116, 109, 108]) = false := by rw [h9]; decide +kernel
            have HEL := hide (show modeOf (elAt xs none m) m tmpl hd = some 6 by rw [HELT.out]; unfold modeOf ofL; simp [h9])
            go_wp2_with fail
            go_ret
            rw [HR.out]
            refine ⟨?_, HBC.out⟩
            rw [res_some HEL.out]
            rfl
          by_cases h10 : xnm.toList = [104, 116, 109, 108]
          · have b0 : (xnm.toList == [116, 100]) = false := by rw [h10]; decide +kernel
            have b1 : (xnm.toList == [116, 104]) = false := by rw [h10]; decide +kernel
            have b2 : (xnm.toList == [116, 114]) = false := by rw [h10]; decide +kernel
            have b3 : (xnm.toList == [116, 98, 111, 100, 121]) = false := by rw [h10]; decide +kernel
            have b4 : (xnm.toList == [116, 102, 111, 111, 116]) = false := by rw [h10]; decide +kernel
            have b5 : (xnm.toList == [116, 104, 101, 97, 100]) = false := by rw [h10]; decide +kernel
            have b6 : (xnm.toList == [116, 97, 98, 108, 101]) = false := by rw [h10]; decide +kernel
            have b7 : (xnm.toList == [116, 101, 109, 112, 108, 97, 116, 101]) = false := by rw [h10]; decide +kernel
            have b8 : (xnm.toList == [104, 101, 97, 100]) = false := by rw [h10]; decide +kernel
            have b9 : (xnm.toList == [98, 111, 100, 121]) = false := by rw [h10]; decide +kernel
            have b10 : (xnm.toList == [104, 116, 109, 108]) = true := by rw [h10]; decide +kernel
            cases hd with
            | true =>
              have HEL := hide (show modeOf (elAt xs none m) m tmpl true = some 5 by rw [HELT.out]; unfold modeOf ofL; simp [h10])
              go_wp2_with fail
              go_ret
              rw [HR.out]
              refine ⟨?_, HBC.out⟩
              rw [res_some HEL.out]
              rfl
            | false =>
              have HEL := hide (show modeOf (elAt xs none m) m tmpl false = some 3 by rw [HELT.out]; unfold modeOf ofL; simp [h10])
              go_wp2_with fail
              go_ret
              rw [HR.out]
              refine ⟨?_, HBC.out⟩
              rw [res_some HEL.out]
              rfl
          have b0 : (xnm.toList == [116, 100]) = false := beq_eq_false_iff_ne.2 h0
          have b1 : (xnm.toList == [116, 104]) = false := beq_eq_false_iff_ne.2 h1
          have b2 : (xnm.toList == [116, 114]) = false := beq_eq_false_iff_ne.2 h2
          have b3 : (xnm.toList == [116, 98, 111, 100, 121]) = false := beq_eq_false_iff_ne.2 h3
          have b4 : (xnm.toList == [116, 102, 111, 111, 116]) = false := beq_eq_false_iff_ne.2 h4
          have b5 : (xnm.toList == [116, 104, 101, 97, 100]) = false := beq_eq_false_iff_ne.2 h5
          have b6 : (xnm.toList == [116, 97, 98, 108, 101]) = false := beq_eq_false_iff_ne.2 h6
          have b7 : (xnm.toList == [116, 101, 109, 112, 108, 97, 116, 101]) = false := beq_eq_false_iff_ne.2 h7
          have b8 : (xnm.toList == [104, 101, 97, 100]) = false := beq_eq_false_iff_ne.2 h8
          have b9 : (xnm.toList == [98, 111, 100, 121]) = false := beq_eq_false_iff_ne.2 h9
          have b10 : (xnm.toList == [104, 116, 109, 108]) = false := beq_eq_false_iff_ne.2 h10
          have HEL := hide (show modeOf (elAt xs none m) m tmpl hd = none by rw [HELT.out]; unfold modeOf ofL; simp [h0, h1, h2, h3, h4, h5, h6, h7, h8, h9, h10])
          go_wp2_with fail
          go_roundw
          case rel => exact ⟨m, by omega, by go_num, ⟨HR.out.trans (res_none HEL.out)⟩, ⟨HBC.out⟩⟩
          case measure => simp only [intOf]; omega
        · have HEL := hide (show modeOf (elAt xs none m) m tmpl hd = none by rw [HELT.out]; unfold modeOf; rw [if_pos q1])
          go_wp2_with fail
          go_roundw
          case rel => exact ⟨m, by omega, by go_num, ⟨HR.out.trans (res_none HEL.out)⟩, ⟨HBC.out⟩⟩
          case measure => simp only [intOf]; omega
      · have mn0 : ((m : Int) == 0) = false := beq_eq_false_iff_ne.2 (by omega)
        have HELT := hide (show elAt xs none m = (xns, xnm) from elAt_pos xs _ hpos HGX.out)
        go_wp2_with fail
        go_quiet (fail)
        have HBQ := hide (pw_below_drewN HB.out nq)
        obtain ⟨wQ, hQ⟩ : ∃ wQ, wr.drewN nq = wQ := ⟨_, rfl⟩
        rw [hQ] at HBQ ⊢
        clear hQ y1 y2 HB
        have HBC := HBQ
        by_cases q1 : xns = 1
        · subst q1
          by_cases h0 : xnm.toList = [116, 100]
          · have b0 : (xnm.toList == [116, 100]) = true := by rw [h0]; decide +kernel
            have b1 : (xnm.toList == [116, 104]) = false := by rw [h0]; decide +kernel
            have b2 : (xnm.toList == [116, 114]) = false := by rw [h0]; decide +kernel
            have b3 : (xnm.toList == [116, 98, 111, 100, 121]) = false := by rw [h0]; decide +kernel
            have b4 : (xnm.toList == [116, 102, 111, 111, 116]) = false := by rw [h0]; decide +kernel
            have b5 : (xnm.toList == [116, 104, 101, 97, 100]) = false := by rw [h0]; decide +kernel
            have b6 : (xnm.toList == [116, 97, 98, 108, 101]) = false := by rw [h0]; decide +kernel
            have b7 : (xnm.toList == [116, 101, 109, 112, 108, 97, 116, 101]) = false := by rw [h0]; decide +kernel
            have b8 : (xnm.toList == [104, 101, 97, 100]) = false := by rw [h0]; decide +kernel
            have b9 : (xnm.toList == [98, 111, 100, 121]) = false := by rw [h0]; decide +kernel
            have b10 : (xnm.toList == [104, 116, 109, 108]) = false := by rw [h0]; decide +kernel
            rcases Nat.eq_zero_or_pos m with hm | hm
            · have hm2 : ¬ (0 : Int) < (m : Int) := by omega
              omega
            · have hm2 : (0 : Int) < (m : Int) := by omega
              have hm3 : ¬ m = 0 := by omega
              have HEL := hide (show modeOf (elAt xs none m) m tmpl hd = some 12 by rw [HELT.out]; unfold modeOf ofL; simp [h0]; first | omega | simp [hm3])
              go_wp2_with fail
              go_ret
              rw [HR.out]
              refine ⟨?_, HBC.out⟩
              rw [res_some HEL.out]
              rfl
          by_cases h1 : xnm.toList = [116, 104]
          · have b0 : (xnm.toList == [116, 100]) = false := by rw [h1]; decide +kernel
            have b1 : (xnm.toList == [116, 104]) = true := by rw [h1]; decide +kernel
            have b2 : (xnm.toList == [116, 114]) = false := by rw [h1]; decide +kernel
            have b3 : (xnm.toList == [116, 98, 111, 100, 121]) = false := by rw [h1]; decide +kernel
            have b4 : (xnm.toList == [116, 102, 111, 111, 116]) = false := by rw [h1]; decide +kernel
            have b5 : (xnm.toList == [116, 104, 101, 97, 100]) = false := by rw [h1]; decide +kernel
            have b6 : (xnm.toList == [116, 97, 98, 108, 101]) = false := by rw [h1]; decide +kernel
            have b7 : (xnm.toList == [116, 101, 109, 112, 108, 97, 116, 101]) = false := by rw [h1]; decide +kernel
            have b8 : (xnm.toList == [104, 101, 97, 100]) = false := by rw [h1]; decide +kernel
            have b9 : (xnm.toList == [98, 111, 100, 121]) = false := by rw [h1]; decide +kernel
            have b10 : (xnm.toList == [104, 116, 109, 108]) = false := by rw [h1]; decide +kernel
            rcases Nat.eq_zero_or_pos m with hm | hm
            · have hm2 : ¬ (0 : Int) < (m : Int) := by omega
              omega
            · have hm2 : (0 : Int) < (m : Int) := by omega
              have hm3 : ¬ m = 0 := by omega
              have HEL := hide (show modeOf (elAt xs none m) m tmpl hd = some 12 by rw [HELT.out]; unfold modeOf ofL; simp [h1]; first | omega | simp [hm3])
              go_wp2_with fail
              go_ret
              rw [HR.out]
              refine ⟨?_, HBC.out⟩
              rw [res_some HEL.out]
              rfl
          by_cases h2 : xnm.toList = [116, 114]
          · have b0 : (xnm.toList == [116, 100]) = false := by rw [h2]; decide +kernel
            have b1 : (xnm.toList == [116, 104]) = false := by rw [h2]; decide +kernel
            have b2 : (xnm.toList == [116, 114]) = true := by rw [h2]; decide +kernel
            have b3 : (xnm.toList == [116, 98, 111, 100, 121]) = false := by rw [h2]; decide +kernel
            have b4 : (xnm.toList == [116, 102, 111, 111, 116]) = false := by rw [h2]; decide +kernel
            have b5 : (xnm.toList == [116, 104, 101, 97, 100]) = false := by rw [h2]; decide +kernel
            have b6 : (xnm.toList == [116, 97, 98, 108, 101]) = false := by rw [h2]; decide +kernel
            have b7 : (xnm.toList == [116, 101, 109, 112, 108, 97, 116, 101]) = false := by rw [h2]; decide +kernel
            have b8 : (xnm.toList == [104, 101, 97, 100]) = false := by rw [h2]; decide +kernel
            have b9 : (xnm.toList == [98, 111, 100, 121]) = false := by rw [h2]; decide +kernel
            have b10 : (xnm.toList == [104, 116, 109, 108]) = false := by rw [h2]; decide +kernel
            have HEL := hide (show modeOf (elAt xs none m) m tmpl hd = some 11 by rw [HELT.out]; unfold modeOf ofL; simp [h2])
            go_wp2_with fail
            go_ret
            rw [HR.out]
            refine ⟨?_, HBC.out⟩
            rw [res_some HEL.out]
            rfl
          by_cases h3 : xnm.toList = [116, 98, 111, 100, 121]
          · have b0 : (xnm.toList == [116, 100]) = false := by rw [h3]; decide +kernel
            have b1 : (xnm.toList == [116, 104]) = false := by rw [h3]; decide +kernel
            have b2 : (xnm.toList == [116, 114]) = false := by rw [h3]; decide +kernel
            have b3 : (xnm.toList == [116, 98, 111, 100, 121]) = true := by rw [h3]; decide +kernel
            have b4 : (xnm.toList == [116, 102, 111, 111, 116]) = false := by rw [h3]; decide +kernel
            have b5 : (xnm.toList == [116, 104, 101, 97, 100]) = false := by rw [h3]; decide +kernel
            have b6 : (xnm.toList == [116, 97, 98, 108, 101]) = false := by rw [h3]; decide +kernel
            have b7 : (xnm.toList == [116, 101, 109, 112, 108, 97, 116, 101]) = false := by rw [h3]; decide +kernel
            have b8 : (xnm.toList == [104, 101, 97, 100]) = false := by rw [h3]; decide +kernel
            have b9 : (xnm.toList == [98, 111, 100, 121]) = false := by rw [h3]; decide +kernel
            have b10 : (xnm.toList == [104, 116, 109, 108]) = false := by rw [h3]; decide +kernel
            have HEL := hide (show modeOf (elAt xs none m) m tmpl hd = some 10 by rw [HELT.out]; unfold modeOf ofL; simp [h3])
            go_wp2_with fail
            go_ret
            rw [HR.out]
            refine ⟨?_, HBC.out⟩
            rw [res_some HEL.out]
            rfl
          by_cases h4 : xnm.toList = [116, 102, 111, 111, 116]
          · have b0 : (xnm.toList == [116, 100]) = false := by rw [h4]; decide +kernel
            have b1 : (xnm.toList == [116, 104]) = false := by rw [h4]; decide +kernel
            have b2 : (xnm.toList == [116, 114]) = false := by rw [h4]; decide +kernel
            have b3 : (xnm.toList == [116, 98, 111, 100, 121]) = false := by rw [h4]; decide +kernel
            have b4 : (xnm.toList == [116, 102, 111, 111, 116]) = true := by rw [h4]; decide +kernel
            have b5 : (xnm.toList == [116, 104, 101, 97, 100]) = false := by rw [h4]; decide +kernel
            have b6 : (xnm.toList == [116, 97, 98, 108, 101]) = false := by rw [h4]; decide +kernel
            have b7 : (xnm.toList == [116, 101, 109, 112, 108, 97, 116, 101]) = false := by rw [h4]; decide +kernel
            have b8 : (xnm.toList == [104, 101, 97, 100]) = false := by rw [h4]; decide +kernel
            have b9 : (xnm.toList == [98, 111, 100, 121]) = false := by rw [h4]; decide +kernel
            have b10 : (xnm.toList == [104, 116, 109, 108]) = false := by rw [h4]; decide +kernel
            have HEL := hide (show modeOf (elAt xs none m) m tmpl hd = some 10 by rw [HELT.out]; unfold modeOf ofL; simp [h4])
            go_wp2_with fail
            go_ret
            rw [HR.out]
            refine ⟨?_, HBC.out⟩
            rw [res_some HEL.out]
            rfl
          by_cases h5 : xnm.toList = [116, 104, 101, 97, 100]
          · have b0 : (xnm.toList == [116, 100]) = false := by rw [h5]; decide +kernel
            have b1 : (xnm.toList == [116, 104]) = false := by rw [h5]; decide +kernel
            have b2 : (xnm.toList == [116, 114]) = false := by rw [h5]; decide +kernel
            have b3 : (xnm.toList == [116, 98, 111, 100, 121]) = false := by rw [h5]; decide +kernel
            have b4 : (xnm.toList == [116, 102, 111, 111, 116]) = false := by rw [h5]; decide +kernel
            have b5 : (xnm.toList == [116, 104, 101, 97, 100]) = true := by rw [h5]; decide +kernel
            have b6 : (xnm.toList == [116, 97, 98, 108, 101]) = false := by rw [h5]; decide +kernel
            have b7 : (xnm.toList == [116, 101, 109, 112, 108, 97, 116, 101]) = false := by rw [h5]; decide +kernel
            have b8 : (xnm.toList == [104, 101, 97, 100]) = false := by rw [h5]; decide +kernel
            have b9 : (xnm.toList == [98, 111, 100, 121]) = false := by rw [h5]; decide +kernel
            have b10 : (xnm.toList == [104, 116, 109, 108]) = false := by rw [h5]; decide +kernel
            have HEL := hide (show modeOf (elAt xs none m) m tmpl hd = some 10 by rw [HELT.out]; unfold modeOf ofL; simp [h5])
            go_wp2_with fail
            go_ret
            rw [HR.out]
            refine ⟨?_, HBC.out⟩
            rw [res_some HEL.out]
            rfl
          by_cases h6 : xnm.toList = [116, 97, 98, 108, 101]
          · have b0 : (xnm.toList == [116, 100]) = false := by rw [h6]; decide +kernel
            have b1 : (xnm.toList == [116, 104]) = false := by rw [h6]; decide +kernel
            have b2 : (xnm.toList == [116, 114]) = false := by rw [h6]; decide +kernel
            have b3 : (xnm.toList == [116, 98, 111, 100, 121]) = false := by rw [h6]; decide +kernel
            have b4 : (xnm.toList == [116, 102, 111, 111, 116]) = false := by rw [h6]; decide +kernel
            have b5 : (xnm.toList == [116, 104, 101, 97, 100]) = false := by rw [h6]; decide +kernel
            have b6 : (xnm.toList == [116, 97, 98, 108, 101]) = true := by rw [h6]; decide +kernel
            have b7 : (xnm.toList == [116, 101, 109, 112, 108, 97, 116, 101]) = false := by rw [h6]; decide +kernel
            have b8 : (xnm.toList == [104, 101, 97, 100]) = false := by rw [h6]; decide +kernel
            have b9 : (xnm.toList == [98, 111, 100, 121]) = false := by rw [h6]; decide +kernel
            have b10 : (xnm.toList == [104, 116, 109, 108]) = false := by rw [h6]; decide +kernel
            have HEL := hide (show modeOf (elAt xs none m) m tmpl hd = some 8 by rw [HELT.out]; unfold modeOf ofL; simp [h6])
            go_wp2_with fail
            go_ret
            rw [HR.out]
            refine ⟨?_, HBC.out⟩
            rw [res_some HEL.out]
            rfl
          by_cases h7 : xnm.toList = [116, 101, 109, 112, 108, 97, 116, 101]
          · have b0 : (xnm.toList == [116, 100]) = false := by rw [h7]; decide +kernel
            have b1 : (xnm.toList == [116, 104]) = false := by rw [h7]; decide +kernel
            have b2 : (xnm.toList == [116, 114]) = false := by rw [h7]; decide +kernel
            have b3 : (xnm.toList == [116, 98, 111, 100, 121]) = false := by rw [h7]; decide +kernel
            have b4 : (xnm.toList == [116, 102, 111, 111, 116]) = false := by rw [h7]; decide +kernel
            have b5 : (xnm.toList == [116, 104, 101, 97, 100]) = false := by rw [h7]; decide +kernel
            have b6 : (xnm.toList == [116, 97, 98, 108, 101]) = false := by rw [h7]; decide +kernel
            have b7 : (xnm.toList == [116, 101, 109, 112, 108, 97, 116, 101]) = true := by rw [h7]; decide +kernel
            have b8 : (xnm.toList == [104, 101, 97, 100]) = false := by rw [h7]; decide +kernel
            have b9 : (xnm.toList == [98, 111, 100, 121]) = false := by rw [h7]; decide +kernel
            have b10 : (xnm.toList == [104, 116, 109, 108]) = false := by rw [h7]; decide +kernel
            have HEL := hide (show modeOf (elAt xs none m) m tmpl hd = some tmpl by rw [HELT.out]; unfold modeOf ofL; simp [h7])
            go_wp2_with fail
            go_ret
            rw [HR.out]
            refine ⟨?_, HBC.out⟩
            rw [res_some HEL.out]
            rfl
          by_cases h8 : xnm.toList = [104, 101, 97, 100]
          · have b0 : (xnm.toList == [116, 100]) = false := by rw [h8]; decide +kernel
            have b1 : (xnm.toList == [116, 104]) = false := by rw [h8]; decide +kernel
            have b2 : (xnm.toList == [116, 114]) = false := by rw [h8]; decide +kernel
            have b3 : (xnm.toList == [116, 98, 111, 100, 121]) = false := by rw [h8]; decide +kernel
            have b4 : (xnm.toList == [116, 102, 111, 111, 116]) = false := by rw [h8]; decide +kernel
            have b5 : (xnm.toList == [116, 104, 101, 97, 100]) = false := by rw [h8]; decide +kernel
            have b6 : (xnm.toList == [116, 97, 98, 108, 101]) = false := by rw [h8]; decide +kernel
            have b7 : (xnm.toList == [116, 101, 109, 112, 108, 97, 116, 101]) = false := by rw [h8]; decide +kernel
            have b8 : (xnm.toList == [104, 101, 97, 100]) = true := by rw [h8]; decide +kernel
            have b9 : (xnm.toList == [98, 111, 100, 121]) = false := by rw [h8]; decide +kernel
            have b10 : (xnm.toList == [104, 116, 109, 108]) = false := by rw [h8]; decide +kernel
            rcases Nat.eq_zero_or_pos m with hm | hm
            · have hm2 : ¬ (0 : Int) < (m : Int) := by omega
              omega
            · have hm2 : (0 : Int) < (m : Int) := by omega
              have hm3 : ¬ m = 0 := by omega
              have HEL := hide (show modeOf (elAt xs none m) m tmpl hd = some 4 by rw [HELT.out]; unfold modeOf ofL; simp [h8]; first | omega | simp [hm3])
              go_wp2_with fail
              go_ret
              rw [HR.out]
              refine ⟨?_, HBC.out⟩
              rw [res_some HEL.out]
              rfl
          by_cases h9 : xnm.toList = [98, 111, 100, 121]
          · have b0 : (xnm.toList == [116, 100]) = false := by rw [h9]; decide +kernel
            have b1 : (xnm.toList == [116, 104]) = false := by rw [h9]; decide +kernel
            have b2 : (xnm.toList == [116, 114]) = false := by rw [h9]; decide +kernel
            have b3 : (xnm.toList == [116, 98, 111, 100, 121]) = false := by rw [h9]; decide +kernel
            have b4 : (xnm.toList == [116, 102, 111, 111, 116]) = false := by rw [h9]; decide +kernel
            have b5 : (xnm.toList == [116, 104, 101, 97, 100]) = false := by rw [h9]; decide +kernel
            have b6 : (xnm.toList == [116, 97, 98, 108, 101]) = false := by rw [h9]; decide +kernel
            have b7 : (xnm.toList == [116, 101, 109, 112, 108, 97, 116, 101]) = false := by rw [h9]; decide +kernel
            have b8 : (xnm.toList == [104, 101, 97, 100]) = false := by rw [h9]; decide +kernel
            have b9 : (xnm.toList == [98, 111, 100, 121]) = true := by rw [h9]; decide +kernel
            have b10 : (xnm.toList == [104, 116, 109, 108]) = false := by rw [h9]; decide +kernel
            have HEL := hide (show modeOf (elAt xs none m) m tmpl hd = some 6 by rw [HELT.out]; unfold modeOf ofL; simp [h9])
            go_wp2_with fail
            go_ret
            rw [HR.out]
            refine ⟨?_, HBC.out⟩
            rw [res_some HEL.out]
            rfl
          by_cases h10 : xnm.toList = [104, 116, 109, 108]
          · have b0 : (xnm.toList == [116, 100]) = false := by rw [h10]; decide +kernel
            have b1 : (xnm.toList == [116, 104]) = false := by rw [h10]; decide +kernel
            have b2 : (xnm.toList == [116, 114]) = false := by rw [h10]; decide +kernel
            have b3 : (xnm.toList == [116, 98, 111, 100, 121]) = false := by rw [h10]; decide +kernel
            have b4 : (xnm.toList == [116, 102, 111, 111, 116]) = false := by rw [h10]; decide +kernel
            have b5 : (xnm.toList == [116, 104, 101, 97, 100]) = false := by rw [h10]; decide +kernel
            have b6 : (xnm.toList == [116, 97, 98, 108, 101]) = false := by rw [h10]; decide +kernel
            have b7 : (xnm.toList == [116, 101, 109, 112, 108, 97, 116, 101]) = false := by rw [h10]; decide +kernel
            have b8 : (xnm.toList == [104, 101, 97, 100]) = false := by rw [h10]; decide +kernel
            have b9 : (xnm.toList == [98, 111, 100, 121]) = false := by rw [h10]; decide +kernel
            have b10 : (xnm.toList == [104, 116, 109, 108]) = true := by rw [h10]; decide +kernel
            cases hd with
            | true =>
              have HEL := hide (show modeOf (elAt xs none m) m tmpl true = some 5 by rw [HELT.out]; unfold modeOf ofL; simp [h10])
              go_wp2_with fail
              go_ret
              rw [HR.out]
              refine ⟨?_, HBC.out⟩
              rw [res_some HEL.out]
              rfl
            | false =>
              have HEL := hide (show modeOf (elAt xs none m) m tmpl false = some 3 by rw [HELT.out]; unfold modeOf ofL; simp [h10])
              go_wp2_with fail
              go_ret
              rw [HR.out]
              refine ⟨?_, HBC.out⟩
              rw [res_some HEL.out]
              rfl
          have b0 : (xnm.toList == [116, 100]) = false := beq_eq_false_iff_ne.2 h0
          have b1 : (xnm.toList == [116, 104]) = false := beq_eq_false_iff_ne.2 h1
          have b2 : (xnm.toList == [116, 114]) = false := beq_eq_false_iff_ne.2 h2
          have b3 : (xnm.toList == [116, 98, 111, 100, 121]) = false := beq_eq_false_iff_ne.2 h3
          have b4 : (xnm.toList == [116, 102, 111, 111, 116]) = false := beq_eq_false_iff_ne.2 h4
          have b5 : (xnm.toList == [116, 104, 101, 97, 100]) = false := beq_eq_false_iff_ne.2 h5
          have b6 : (xnm.toList == [116, 97, 98, 108, 101]) = false := beq_eq_false_iff_ne.2 h6
          have b7 : (xnm.toList == [116, 101, 109, 112, 108, 97, 116, 101]) = false := beq_eq_false_iff_ne.2 h7
          have b8 : (xnm.toList == [104, 101, 97, 100]) = false := beq_eq_false_iff_ne.2 h8
          have b9 : (xnm.toList == [98, 111, 100, 121]) = false := beq_eq_false_iff_ne.2 h9
          have b10 : (xnm.toList == [104, 116, 109, 108]) = false := beq_eq_false_iff_ne.2 h10
          have HEL := hide (show modeOf (elAt xs none m) m tmpl hd = none by rw [HELT.out]; unfold modeOf ofL; simp [h0, h1, h2, h3, h4, h5, h6, h7, h8, h9, h10])
          go_wp2_with fail
          go_roundw
          case rel => exact ⟨m, by omega, by go_num, ⟨HR.out.trans (res_none HEL.out)⟩, ⟨HBC.out⟩⟩
          case measure => simp only [intOf]; omega
        · have HEL := hide (show modeOf (elAt xs none m) m tmpl hd = none by rw [HELT.out]; unfold modeOf; rw [if_pos q1])
          go_wp2_with fail
          go_roundw
          case rel => exact ⟨m, by omega, by go_num, ⟨HR.out.trans (res_none HEL.out)⟩, ⟨HBC.out⟩⟩
          case measure => simp only [intOf]; omega

set_option maxHeartbeats 8000000 in
set_option maxRecDepth 100000 in
theorem rsetS (A : Option Addr) (c : Nat) (xs : List It) (b0 : Nat) (cns : Int) (cnm : ByteArray) (tmpl : Int) (hd : Bool) (w : World) (hl : kIt.C w A xs.length xs) (hc : CtxP (.pointer (some ⟨b0, 0, none⟩)) (some (cns, cnm)) w) (hn : xs.length ≤ 1000) :
    Calls Try.prog 23 #[.slice A xs.length c, .pointer (some ⟨b0, 0, none⟩), .int .i64 tmpl, .bool hd] w fun e w' => e = .returned (.int .i64 (res xs (some (cns, cnm)) tmpl hd xs.length)) ∧ Below w.heap.size w w' := by
  have HL := hide hl
  have HC := hide hc
  have ew : IntKind.i64.wrap ((xs.length : Int) - 1) = (xs.length : Int) - 1 := IntWalk.i64_in _ (by omega)
  clear hl hc
  go_enter Try.func23, Try.ntmps23
  go_wp2_with fail
  go_loopw [9] (fun i wr => ∃ j : Nat, j ≤ xs.length ∧ i = .int .i64 ((j : Int) - 1) ∧ Aside0 (res xs (some (cns, cnm)) tmpl hd xs.length = res xs (some (cns, cnm)) tmpl hd j) ∧ Aside0 (Below w.heap.size w wr)) (fun i _ => (intOf i + 1).toNat)
  case atStart => exact ⟨xs.length, Nat.le_refl _, rfl, ⟨rfl⟩, ⟨Below.refl _ _⟩⟩
  case round =>
    clear ew
    obtain ⟨j, hj, rfl, HR, HB⟩ := hrel
    match j, hj, HR with
    | 0, hj, HR =>
      have t : ¬ (0 : Int) ≤ ((0 : Nat) : Int) - 1 := by omega
      have t2 : ((0 : Nat) : Int) - 1 < 0 := by omega
      go_wp2_with fail
      go_ret
      rw [HR.out]
      exact ⟨rfl, HB.out⟩
    | m + 1, hj, HR =>
      rw [show ((m + 1 : Nat) : Int) - 1 = (m : Int) by omega]
      have hm0 : (0 : Int) ≤ (m : Int) := by omega
      have hm1 : (m : Int) < xs.length := by omega
      obtain ⟨ad, x, hA, hx, _, y1, y2, _⟩ := it_at (Kd.C_below HL.out HB.out) m (by omega)
      subst hA
      have hgx : xs.getD m z0 = x := by rw [List.getD_eq_getElem?_getD, hx]; rfl
      have HGX := hide hgx
      have ew2 : IntKind.i64.wrap ((m : Int) - 1) = (m : Int) - 1 := IntWalk.i64_in _ (by omega)
      clear hgx hx
      obtain ⟨xh, xns, xnm⟩ := x
      dsimp only at y1 y2
      rcases Nat.eq_zero_or_pos m with h0 | hpos
      · have hbm : ((m : Int) == 0) = true := by rw [h0]; rfl
        have H0 := hide h0
        have HELT := hide (show elAt xs (some (cns, cnm)) m = (cns, cnm) by rw [h0]; rfl)
        clear h0
        go_wp2_with fail
        go_quiet (fail)
        have HBQ := hide (pw_below_drewN HB.out nq)
        obtain ⟨wQ, hQ⟩ : ∃ wQ, wr.drewN nq = wQ := ⟨_, rfl⟩
        rw [hQ] at HBQ ⊢
        clear hQ y1 y2 HB
        obtain ⟨bq, hbq, hq0, hq1⟩ : CtxP (.pointer (some ⟨b0, 0, none⟩)) (some (cns, cnm)) wQ := HC.out.below HBQ.out
        cases hbq
        dsimp only at hq0 hq1
        go_wp2_with fail
        go_quiet (fail)
        have HBC := hide (pw_below_drewN HBQ.out nq)
        obtain ⟨wR, hR⟩ : ∃ wR, wQ.drewN nq = wR := ⟨_, rfl⟩
        rw [hR] at HBC ⊢
        clear hR hq0 hq1
        by_cases q1 : cns = 1
        · subst q1
          by_cases h0 : cnm.toList = [116, 100]
          · have b0 : (cnm.toList == [116, 100]) = true := by rw [h0]; decide +kernel
            have b1 : (cnm.toList == [116, 104]) = false := by rw [h0]; decide +kernel
            have b2 : (cnm.toList == [116, 114]) = false := by rw [h0]; decide +kernel
            have b3 : (cnm.toList == [116, 98, 111, 100, 121]) = false := by rw [h0]; decide +kernel
            have b4 : (cnm.toList == [116, 102, 111, 111, 116]) = false := by rw [h0]; decide +kernel
            have b5 : (cnm.toList == [116, 104, 101, 97, 100]) = false := by rw [h0]; decide +kernel
            have b6 : (cnm.toList == [116, 97, 98, 108, 101]) = false := by rw [h0]; decide +kernel
            have b7 : (cnm.toList == [116, 101, 109, 112, 108, 97, 116, 101]) = false := by rw [h0]; decide +kernel
            have b8 : (cnm.toList == [104, 101, 97, 100]) = false := by rw [h0]; decide +kernel
            have b9 : (cnm.toList == [98, 111, 100, 121]) = false := by rw [h0]; decide +kernel
            have b10 : (cnm.toList == [104, 116, 109, 108]) = false := by rw [h0]; decide +kernel
            rcases (Or.inl H0.out : m = 0 ∨ 0 < m) with hm | hm
            · have hm2 : ¬ (0 : Int) < (m : Int) := by omega
              have HEL := hide (show modeOf (elAt xs (some ((1 : Int), cnm)) m) m tmpl hd = none by rw [HELT.out]; unfold modeOf ofL; simp [h0]; first | (intro _ h; omega) | omega | simp [hm])
              go_wp2_with fail
              go_roundw
              case rel => exact ⟨m, by omega, by go_num, ⟨HR.out.trans (res_none HEL.out)⟩, ⟨HBC.out⟩⟩
              case measure => simp only [intOf]; omega
            · have hm2 : (0 : Int) < (m : Int) := by omega
              have hm3 : ¬ m = 0 := by omega
              have HEL := hide (show modeOf (elAt xs (some ((1 : Int), cnm)) m) m tmpl hd = some 12 by rw [HELT.out]; unfold modeOf ofL; simp [h0]; first | omega | simp [hm3])
              go_wp2_with fail
              go_ret
              rw [HR.out]
              refine ⟨?_, HBC.out⟩
              rw [res_some HEL.out]
              rfl
          by_cases h1 : cnm.toList = [116, 104]
          · have b0 : (cnm.toList == [116, 100]) = false := by rw [h1]; decide +kernel
            have b1 : (cnm.toList == [116, 104]) = true := by rw [h1]; decide +kernel
            have b2 : (cnm.toList == [116, 114]) = false := by rw [h1]; decide +kernel
            have b3 : (cnm.toList == [116, 98, 111, 100, 121]) = false := by rw [h1]; decide +kernel
            have b4 : (cnm.toList == [116, 102, 111, 111, 116]) = false := by rw [h1]; decide +kernel
            have b5 : (cnm.toList == [116, 104, 101, 97, 100]) = false := by rw [h1]; decide +kernel
            have b6 : (cnm.toList == [116, 97, 98, 108, 101]) = false := by rw [h1]; decide +kernel
            have b7 : (cnm.toList == [116, 101, 109, 112, 108, 97, 116, 101]) = false := by rw [h1]; decide +kernel
            have b8 : (cnm.toList == [104, 101, 97, 100]) = false := by rw [h1]; decide +kernel
            have b9 : (cnm.toList == [98, 111, 100, 121]) = false := by rw [h1]; decide +kernel
            have b10 : (cnm.toList == [104, 116, 109, 108]) = false := by rw [h1]; decide +kernel
            rcases (Or.inl H0.out : m = 0 ∨ 0 < m) with hm | hm
            · have hm2 : ¬ (0 : Int) < (m : Int) := by omega
              have HEL := hide (show modeOf (elAt xs (some ((1 : Int), cnm)) m) m tmpl hd = none by rw [HELT.out]; unfold modeOf ofL; simp [h1]; first | (intro _ h; omega) | omega | simp [hm])
              go_wp2_with fail
              go_roundw
              case rel => exact ⟨m, by omega, by go_num, ⟨HR.out.trans (res_none HEL.out)⟩, ⟨HBC.out⟩⟩
              case measure => simp only [intOf]; omega
            · have hm2 : (0 : Int) < (m : Int) := by omega
              have hm3 : ¬ m = 0 := by omega
              have HEL := hide (show modeOf (elAt xs (some ((1 : Int), cnm)) m) m tmpl hd = some 12 by rw [HELT.out]; unfold modeOf ofL; simp [h1]; first | omega | simp [hm3])
              go_wp2_with fail
              go_ret
              rw [HR.out]
              refine ⟨?_, HBC.out⟩
              rw [res_some HEL.out]
              rfl
          by_cases h2 : cnm.toList = [116, 114]
          · have b0 : (cnm.toList == [116, 100]) = false := by rw [h2]; decide +kernel
            have b1 : (cnm.toList == [116, 104]) = false := by rw [h2]; decide +kernel
            have b2 : (cnm.toList == [116, 114]) = true := by rw [h2]; decide +kernel
            have b3 : (cnm.toList == [116, 98, 111, 100, 121]) = false := by rw [h2]; decide +kernel
            have b4 : (cnm.toList == [116, 102, 111, 111, 116]) = false := by rw [h2]; decide +kernel
            have b5 : (cnm.toList == [116, 104, 101, 97, 100]) = false := by rw [h2]; decide +kernel
            have b6 : (cnm.toList == [116, 97, 98, 108, 101]) = false := by rw [h2]; decide +kernel
            have b7 : (cnm.toList == [116, 101, 109, 112, 108, 97, 116, 101]) = false := by rw [h2]; decide +kernel
            have b8 : (cnm.toList == [104, 101, 97, 100]) = false := by rw [h2]; decide +kernel
            have b9 : (cnm.toList == [98, 111, 100, 121]) = false := by rw [h2]; decide +kernel
            have b10 : (cnm.toList == [104, 116, 109, 108]) = false := by rw [h2]; decide +kernel
            have HEL := hide (show modeOf (elAt xs (some ((1 : Int), cnm)) m) m tmpl hd = some 11 by rw [HELT.out]; unfold modeOf ofL; simp [h2])
            go_wp2_with fail
            go_ret
            rw [HR.out]
            refine ⟨?_, HBC.out⟩
            rw [res_some HEL.out]
            rfl
          by_cases h3 : cnm.toList = [116, 98, 111, 100, 121]
          · have b0 : (cnm.toList == [116, 100]) = false := by rw [h3]; decide +kernel
            have b1 : (cnm.toList == [116, 104]) = false := by rw [h3]; decide +kernel
            have b2 : (cnm.toList == [116, 114]) = false := by rw [h3]; decide +kernel
            have b3 : (cnm.toList == [116, 98, 111, 100, 121]) = true := by rw [h3]; decide +kernel
            have b4 : (cnm.toList == [116, 102, 111, 111, 116]) = false := by rw [h3]; decide +kernel
            have b5 : (cnm.toList == [116, 104, 101, 97, 100]) = false := by rw [h3]; decide +kernel
            have b6 : (cnm.toList == [116, 97, 98, 108, 101]) = false := by rw [h3]; decide +kernel
            have b7 : (cnm.toList == [116, 101, 109, 112, 108, 97, 116, 101]) = false := by rw [h3]; decide +kernel
            have b8 : (cnm.toList == [104, 101, 97, 100]) = false := by rw [h3]; decide +kernel
            have b9 : (cnm.toList == [98, 111, 100, 121]) = false := by rw [h3]; decide +kernel
            have b10 : (cnm.toList == [104, 116, 109, 108]) = false := by rw [h3]; decide +kernel
            have HEL := hide (show modeOf (elAt xs (some ((1 : Int), cnm)) m) m tmpl hd = some 10 by rw [HELT.out]; unfold modeOf ofL; simp [h3])
            go_wp2_with fail
            go_ret
            rw [HR.out]
            refine ⟨?_, HBC.out⟩
            rw [res_some HEL.out]
            rfl
          by_cases h4 : cnm.toList = [116, 102, 111, 111, 116]
          · have b0 : (cnm.toList == [116, 100]) = false := by rw [h4]; decide +kernel
            have b1 : (cnm.toList == [116, 104]) = false := by rw [h4]; decide +kernel
            have b2 : (cnm.toList == [116, 114]) = false := by rw [h4]; decide +kernel
            have b3 : (cnm.toList == [116, 98, 111, 100, 121]) = false := by rw [h4]; decide +kernel
            have b4 : (cnm.toList == [116, 102, 111, 111, 116]) = true := by rw [h4]; decide +kernel
            have b5 : (cnm.toList == [116, 104, 101, 97, 100]) = false := by rw [h4]; decide +kernel
            have b6 : (cnm.toList == [116, 97, 98, 108, 101]) = false := by rw [h4]; decide +kernel
            have b7 : (cnm.toList == [116, 101, 109, 112, 108, 97, 116, 101]) = false := by rw [h4]; decide +kernel
            have b8 : (cnm.toList == [104, 101, 97, 100]) = false := by rw [h4]; decide +kernel
            have b9 : (cnm.toList == [98, 111, 100, 121]) = false := by rw [h4]; decide +kernel
            have b10 : (cnm.toList == [104, 116, 109, 108]) = false := by rw [h4]; decide +kernel
            have HEL := hide (show modeOf (elAt xs (some ((1 : Int), cnm)) m) m tmpl hd = some 10 by rw [HELT.out]; unfold modeOf ofL; simp [h4])
            go_wp2_with fail
            go_ret
            rw [HR.out]
            refine ⟨?_, HBC.out⟩
            rw [res_some HEL.out]
            rfl
          by_cases h5 : cnm.toList = [116, 104, 101, 97, 100]
          · have b0 : (cnm.toList == [116, 100]) = false := by rw [h5]; decide +kernel
            have b1 : (cnm.toList == [116, 104]) = false := by rw [h5]; decide +kernel
            have b2 : (cnm.toList == [116, 114]) = false := by rw [h5]; decide +kernel
            have b3 : (cnm.toList == [116, 98, 111, 100, 121]) = false := by rw [h5]; decide +kernel
            have b4 : (cnm.toList == [116, 102, 111, 111, 116]) = false := by rw [h5]; decide +kernel
            have b5 : (cnm.toList == [116, 104, 101, 97, 100]) = true := by rw [h5]; decide +kernel
            have b6 : (cnm.toList == [116, 97, 98, 108, 101]) = false := by rw [h5]; decide +kernel
            have b7 : (cnm.toList == [116, 101, 109, 112, 108, 97, 116, 101]) = false := by rw [h5]; decide +kernel
            have b8 : (cnm.toList == [104, 101, 97, 100]) = false := by rw [h5]; decide +kernel
            have b9 : (cnm.toList == [98, 111, 100, 121]) = false := by rw [h5]; decide +kernel
            have b10 : (cnm.toList == [104, 116, 109, 108]) = false := by rw [h5]; decide +kernel
            have HEL := hide (show modeOf (elAt xs (some ((1 : Int), cnm)) m) m tmpl hd = some 10 by rw [HELT.out]; unfold modeOf ofL; simp [h5])
            go_wp2_with fail
            go_ret
            rw [HR.out]
            refine ⟨?_, HBC.out⟩
            rw [res_some HEL.out]
            rfl
          by_cases h6 : cnm.toList = [116, 97, 98, 108, 101]
          · have b0 : (cnm.toList == [116, 100]) = false := by rw [h6]; decide +kernel
            have b1 : (cnm.toList == [116, 104]) = false := by rw [h6]; decide +kernel
            have b2 : (cnm.toList == [116, 114]) = false := by rw [h6]; decide +kernel
            have b3 : (cnm.toList == [116, 98, 111, 100, 121]) = false := by rw [h6]; decide +kernel
            have b4 : (cnm.toList == [116, 102, 111, 111, 116]) = false := by rw [h6]; decide +kernel
            have b5 : (cnm.toList == [116, 104, 101, 97, 100]) = false := by rw [h6]; decide +kernel
            have b6 : (cnm.toList == [116, 97, 98, 108, 101]) = true := by rw [h6]; decide +kernel
            have b7 : (cnm.toList == [116, 101, 109, 112, 108, 97, 116, 101]) = false := by rw [h6]; decide +kernel
            have b8 : (cnm.toList == [104, 101, 97, 100]) = false := by rw [h6]; decide +kernel
            have b9 : (cnm.toList == [98, 111, 100, 121]) = false := by rw [h6]; decide +kernel
            have b10 : (cnm.toList == [104, 116, 109, 108]) = false := by rw [h6]; decide +kernel
            have HEL := hide (show modeOf (elAt xs (some ((1 : Int), cnm)) m) m tmpl hd = some 8 by rw [HELT.out]; unfold modeOf ofL; simp [h6])
            go_wp2_with fail
            go_ret
            rw [HR.out]
            refine ⟨?_, HBC.out⟩
            rw [res_some HEL.out]
            rfl
          by_cases h7 : cnm.toList = [116, 101, 109, 112, 108, 97, 116, 101]
          · have b0 : (cnm.toList == [116, 100]) = false := by rw [h7]; decide +kernel
            have b1 : (cnm.toList == [116, 104]) = false := by rw [h7]; decide +kernel
            have b2 : (cnm.toList == [116, 114]) = false := by rw [h7]; decide +kernel
            have b3 : (cnm.toList == [116, 98, 111, 100, 121]) = false := by rw [h7]; decide +kernel
            have b4 : (cnm.toList == [116, 102, 111, 111, 116]) = false := by rw [h7]; decide +kernel
            have b5 : (cnm.toList == [116, 104, 101, 97, 100]) = false := by rw [h7]; decide +kernel
            have b6 : (cnm.toList == [116, 97, 98, 108, 101]) = false := by rw [h7]; decide +kernel
            have b7 : (cnm.toList == [116, 101, 109, 112, 108, 97, 116, 101]) = true := by rw [h7]; decide +kernel
            have b8 : (cnm.toList == [104, 101, 97, 100]) = false := by rw [h7]; decide +kernel
            have b9 : (cnm.toList == [98, 111, 100, 121]) = false := by rw [h7]; decide +kernel
            have b10 : (cnm.toList == [104, 116, 109, 108]) = false := by rw [h7]; decide +kernel
            have HEL := hide (show modeOf (elAt xs (some ((1 : Int), cnm)) m) m tmpl hd = some tmpl by rw [HELT.out]; unfold modeOf ofL; simp [h7])
            go_wp2_with fail
            go_ret
            rw [HR.out]
            refine ⟨?_, HBC.out⟩
            rw [res_some HEL.out]
            rfl
          by_cases h8 : cnm.toList = [104, 101, 97, 100]
          · have b0 : (cnm.toList == [116, 100]) = false := by rw [h8]; decide +kernel
            have b1 : (cnm.toList == [116, 104]) = false := by rw [h8]; decide +kernel
            have b2 : (cnm.toList == [116, 114]) = false := by rw [h8]; decide +kernel
            have b3 : (cnm.toList == [116, 98, 111, 100, 121]) = false := by rw [h8]; decide +kernel
            have b4 : (cnm.toList == [116, 102, 111, 111, 116]) = false := by rw [h8]; decide +kernel
            have b5 : (cnm.toList == [116, 104, 101, 97, 100]) = false := by rw [h8]; decide +kernel
            have b6 : (cnm.toList == [116, 97, 98, 108, 101]) = false := by rw [h8]; decide +kernel
            have b7 : (cnm.toList == [116, 101, 109, 112, 108, 97, 116, 101]) = false := by rw [h8]; decide +kernel
            have b8 : (cnm.toList == [104, 101, 97, 100]) = true := by rw [h8]; decide +kernel
            have b9 : (cnm.toList == [98, 111, 100, 121]) = false := by rw [h8]; decide +kernel
            have b10 : (cnm.toList == [104, 116, 109, 108]) = false := by rw [h8]; decide +kernel
            rcases (Or.inl H0.out : m = 0 ∨ 0 < m) with hm | hm
            · have hm2 : ¬ (0 : Int) < (m : Int) := by omega
              have HEL := hide (show modeOf (elAt xs (some ((1 : Int), cnm)) m) m tmpl hd = none by rw [HELT.out]; unfold modeOf ofL; simp [h8]; first | (intro _ h; omega) | omega | simp [hm])
              go_wp2_with fail
              go_roundw
              case rel => exact ⟨m, by omega, by go_num, ⟨HR.out.trans (res_none HEL.out)⟩, ⟨HBC.out⟩⟩
              case measure => simp only [intOf]; omega
            · have hm2 : (0 : Int) < (m : Int) := by omega
              have hm3 : ¬ m = 0 := by omega
              have HEL := hide (show modeOf (elAt xs (some ((1 : Int), cnm)) m) m tmpl hd = some 4 by rw [HELT.out]; unfold modeOf ofL; simp [h8]; first | omega | simp [hm3])
              go_wp2_with fail
              go_ret
              rw [HR.out]
              refine ⟨?_, HBC.out⟩
              rw [res_some HEL.out]
              rfl
          by_cases h9 : cnm.toList = [98, 111, 100, 121]
          · have b0 : (cnm.toList == [116, 100]) = false := by rw [h9]; decide +kernel
            have b1 : (cnm.toList == [116, 104]) = false := by rw [h9]; decide +kernel
            have b2 : (cnm.toList == [116, 114]) = false := by rw [h9]; decide +kernel
            have b3 : (cnm.toList == [116, 98, 111, 100, 121]) = false := by rw [h9]; decide +kernel
            have b4 : (cnm.toList == [116, 102, 111, 111, 116]) = false := by rw [h9]; decide +kernel
            have b5 : (cnm.toList == [116, 104, 101, 97, 100]) = false := by rw [h9]; decide +kernel
            have b6 : (cnm.toList == [116, 97, 98, 108, 101]) = false := by rw [h9]; decide +kernel
            have b7 : (cnm.toList == [116, 101, 109, 112, 108, 97, 116, 101]) = false := by rw [h9]; decide +kernel
            have b8 : (cnm.toList == [104, 101, 97, 100]) = false := by rw [h9]; decide +kernel
            have b9 : (cnm.toList == [98, 111, 100, 121]) = true := by rw [h9]; decide +kernel
            have b10 : (cnm.toList == [104, 116, 109, 108]) = false := by rw [h9]; decide +kernel
            have HEL := hide (show modeOf (elAt xs (some ((1 : Int), cnm)) m) m tmpl hd = some 6 by rw [HELT.out]; unfold modeOf ofL; simp [h9])
            go_wp2_with fail
            go_ret
            rw [HR.out]
            refine ⟨?_, HBC.out⟩
            rw [res_some HEL.out]
            rfl
          by_cases h10 : cnm.toList = [104, 116, 109, 108]
          · have b0 : (cnm.toList == [116, 100]) = false := by rw [h10]; decide +kernel
            have b1 : (cnm.toList == [116, 104]) = false := by rw [h10]; decide +kernel
            have b2 : (cnm.toList == [116, 114]) = false := by rw [h10]; decide +kernel
            have b3 : (cnm.toList == [116, 98, 111, 100, 121]) = false := by rw [h10]; decide +kernel
            have b4 : (cnm.toList == [116, 102, 111, 111, 116]) = false := by rw [h10]; decide +kernel
            have b5 : (cnm.toList == [116, 104, 101, 97, 100]) = false := by rw [h10]; decide +kernel
            have b6 : (cnm.toList == [116, 97, 98, 108, 101]) = false := by rw [h10]; decide +kernel
            have b7 : (cnm.toList == [116, 101, 109, 112, 108, 97, 116, 101]) = false := by rw [h10]; decide +kernel
            have b8 : (cnm.toList == [104, 101, 97, 100]) = false := by rw [h10]; decide +kernel
            have b9 : (cnm.toList == [98, 111, 100, 121]) = false := by rw [h10]; decide +kernel
            have b10 : (cnm.toList == [104, 116, 109, 108]) = true := by rw [h10]; decide +kernel
            cases hd with
            | true =>
              have HEL := hide (show modeOf (elAt xs (some ((1 : Int), cnm)) m) m tmpl true = some 5 by rw [HELT.out]; unfold modeOf ofL; simp [h10])
              go_wp2_with fail
              go_ret
              rw [HR.out]
              refine ⟨?_, HBC.out⟩
              rw [res_some HEL.out]
              rfl
            | false =>
              have HEL := hide (show modeOf (elAt xs (some ((1 : Int), cnm)) m) m tmpl false = some 3 by rw [HELT.out]; unfold modeOf ofL; simp [h10])
              go_wp2_with fail
              go_ret
              rw [HR.out]
              refine ⟨?_, HBC.out⟩
              rw [res_some HEL.out]
              rfl
          have b0 : (cnm.toList == [116, 100]) = false := beq_eq_false_iff_ne.2 h0
          have b1 : (cnm.toList == [116, 104]) = false := beq_eq_false_iff_ne.2 h1
          have b2 : (cnm.toList == [116, 114]) = false := beq_eq_false_iff_ne.2 h2
          have b3 : (cnm.toList == [116, 98, 111, 100, 121]) = false := beq_eq_false_iff_ne.2 h3
          have b4 : (cnm.toList == [116, 102, 111, 111, 116]) = false := beq_eq_false_iff_ne.2 h4
          have b5 : (cnm.toList == [116, 104, 101, 97, 100]) = false := beq_eq_false_iff_ne.2 h5
          have b6 : (cnm.toList == [116, 97, 98, 108, 101]) = false := beq_eq_false_iff_ne.2 h6
          have b7 : (cnm.toList == [116, 101, 109, 112, 108, 97, 116, 101]) = false := beq_eq_false_iff_ne.2 h7
          have b8 : (cnm.toList == [104, 101, 97, 100]) = false := beq_eq_false_iff_ne.2 h8
          have b9 : (cnm.toList == [98, 111, 100, 121]) = false := beq_eq_false_iff_ne.2 h9
          have b10 : (cnm.toList == [104, 116, 109, 108]) = false := beq_eq_false_iff_ne.2 h10
          have HEL := hide (show modeOf (elAt xs (some ((1 : Int), cnm)) m) m tmpl hd = none by rw [HELT.out]; unfold modeOf ofL; simp [h0, h1, h2, h3, h4, h5, h6, h7, h8, h9, h10])
          go_wp2_with fail
          go_roundw
          case rel => exact ⟨m, by omega, by go_num, ⟨HR.out.trans (res_none HEL.out)⟩, ⟨HBC.out⟩⟩
          case measure => simp only [intOf]; omega
        · have HEL := hide (show modeOf (elAt xs (some (cns, cnm)) m) m tmpl hd = none by rw [HELT.out]; unfold modeOf; rw [if_pos q1])
          go_wp2_with fail
          go_roundw
          case rel => exact ⟨m, by omega, by go_num, ⟨HR.out.trans (res_none HEL.out)⟩, ⟨HBC.out⟩⟩
          case measure => simp only [intOf]; omega
      · have mn0 : ((m : Int) == 0) = false := beq_eq_false_iff_ne.2 (by omega)
        have HELT := hide (show elAt xs (some (cns, cnm)) m = (xns, xnm) from elAt_pos xs _ hpos HGX.out)
        go_wp2_with fail
        go_quiet (fail)
        have HBQ := hide (pw_below_drewN HB.out nq)
        obtain ⟨wQ, hQ⟩ : ∃ wQ, wr.drewN nq = wQ := ⟨_, rfl⟩
        rw [hQ] at HBQ ⊢
        clear hQ y1 y2 HB
        have HBC := HBQ
        by_cases q1 : xns = 1
        · subst q1
          by_cases h0 : xnm.toList = [116, 100]
          · have b0 : (xnm.toList == [116, 100]) = true := by rw [h0]; decide +kernel
            have b1 : (xnm.toList == [116, 104]) = false := by rw [h0]; decide +kernel
            have b2 : (xnm.toList == [116, 114]) = false := by rw [h0]; decide +kernel
            have b3 : (xnm.toList == [116, 98, 111, 100, 121]) = false := by rw [h0]; decide +kernel
            have b4 : (xnm.toList == [116, 102, 111, 111, 116]) = false := by rw [h0]; decide +kernel
            have b5 : (xnm.toList == [116, 104, 101, 97, 100]) = false := by rw [h0]; decide +kernel
            have b6 : (xnm.toList == [116, 97, 98, 108, 101]) = false := by rw [h0]; decide +kernel
            have b7 : (xnm.toList == [116, 101, 109, 112, 108, 97, 116, 101]) = false := by rw [h0]; decide +kernel
            have b8 : (xnm.toList == [104, 101, 97, 100]) = false := by rw [h0]; decide +kernel
            have b9 : (xnm.toList == [98, 111, 100, 121]) = false := by rw [h0]; decide +kernel
            have b10 : (xnm.toList == [104, 116, 109, 108]) = false := by rw [h0]; decide +kernel
            rcases Nat.eq_zero_or_pos m with hm | hm
            · have hm2 : ¬ (0 : Int) < (m : Int) := by omega
              omega
            · have hm2 : (0 : Int) < (m : Int) := by omega
              have hm3 : ¬ m = 0 := by omega
              have HEL := hide (show modeOf (elAt xs (some (cns, cnm)) m) m tmpl hd = some 12 by rw [HELT.out]; unfold modeOf ofL; simp [h0]; first | omega | simp [hm3])
              go_wp2_with fail
              go_ret
              rw [HR.out]
              refine ⟨?_, HBC.out⟩
              rw [res_some HEL.out]
              rfl
          by_cases h1 : xnm.toList = [116, 104]
          · have b0 : (xnm.toList == [116, 100]) = false := by rw [h1]; decide +kernel
            have b1 : (xnm.toList == [116, 104]) = true := by rw [h1]; decide +kernel
            have b2 : (xnm.toList == [116, 114]) = false := by rw [h1]; decide +kernel
            have b3 : (xnm.toList == [116, 98, 111, 100, 121]) = false := by rw [h1]; decide +kernel
            have b4 : (xnm.toList == [116, 102, 111, 111, 116]) = false := by rw [h1]; decide +kernel
            have b5 : (xnm.toList == [116, 104, 101, 97, 100]) = false := by rw [h1]; decide +kernel
            have b6 : (xnm.toList == [116, 97, 98, 108, 101]) = false := by rw [h1]; decide +kernel
            have b7 : (xnm.toList == [116, 101, 109, 112, 108, 97, 116, 101]) = false := by rw [h1]; decide +kernel
            have b8 : (xnm.toList == [104, 101, 97, 100]) = false := by rw [h1]; decide +kernel
            have b9 : (xnm.toList == [98, 111, 100, 121]) = false := by rw [h1]; decide +kernel
            have b10 : (xnm.toList == [104, 116, 109, 108]) = false := by rw [h1]; decide +kernel
            rcases Nat.eq_zero_or_pos m with hm | hm
            · have hm2 : ¬ (0 : Int) < (m : Int) := by omega
              omega
            · have hm2 : (0 : Int) < (m : Int) := by omega
              have hm3 : ¬ m = 0 := by omega
              have HEL := hide (show modeOf (elAt xs (some (cns, cnm)) m) m tmpl hd = some 12 by rw [HELT.out]; unfold modeOf ofL; simp [h1]; first | omega | simp [hm3])
              go_wp2_with fail
              go_ret
              rw [HR.out]
              refine ⟨?_, HBC.out⟩
              rw [res_some HEL.out]
              rfl
          by_cases h2 : xnm.toList = [116, 114]
          · have b0 : (xnm.toList == [116, 100]) = false := by rw [h2]; decide +kernel
            have b1 : (xnm.toList == [116, 104]) = false := by rw [h2]; decide +kernel
            have b2 : (xnm.toList == [116, 114]) = true := by rw [h2]; decide +kernel
            have b3 : (xnm.toList == [116, 98, 111, 100, 121]) = false := by rw [h2]; decide +kernel
            have b4 : (xnm.toList == [116, 102, 111, 111, 116]) = false := by rw [h2]; decide +kernel
            have b5 : (xnm.toList == [116, 104, 101, 97, 100]) = false := by rw [h2]; decide +kernel
            have b6 : (xnm.toList == [116, 97, 98, 108, 101]) = false := by rw [h2]; decide +kernel
            have b7 : (xnm.toList == [116, 101, 109, 112, 108, 97, 116, 101]) = false := by rw [h2]; decide +kernel
            have b8 : (xnm.toList == [104, 101, 97, 100]) = false := by rw [h2]; decide +kernel
            have b9 : (xnm.toList == [98, 111, 100, 121]) = false := by rw [h2]; decide +kernel
            have b10 : (xnm.toList == [104, 116, 109, 108]) = false := by rw [h2]; decide +kernel
            have HEL := hide (show modeOf (elAt xs (some (cns, cnm)) m) m tmpl hd = some 11 by rw [HELT.out]; unfold modeOf ofL; simp [h2])
            go_wp2_with fail
            go_ret
            rw [HR.out]
            refine ⟨?_, HBC.out⟩
            rw [res_some HEL.out]
            rfl
          by_cases h3 : xnm.toList = [116, 98, 111, 100, 121]
          · have b0 : (xnm.toList == [116, 100]) = false := by rw [h3]; decide +kernel
            have b1 : (xnm.toList == [116, 104]) = false := by rw [h3]; decide +kernel
            have b2 : (xnm.toList == [116, 114]) = false := by rw [h3]; decide +kernel
            have b3 : (xnm.toList == [116, 98, 111, 100, 121]) = true := by rw [h3]; decide +kernel
            have b4 : (xnm.toList == [116, 102, 111, 111, 116]) = false := by rw [h3]; decide +kernel
            have b5 : (xnm.toList == [116, 104, 101, 97, 100]) = false := by rw [h3]; decide +kernel
            have b6 : (xnm.toList == [116, 97, 98, 108, 101]) = false := by rw [h3]; decide +kernel
            have b7 : (xnm.toList == [116, 101, 109, 112, 108, 97, 116, 101]) = false := by rw [h3]; decide +kernel
            have b8 : (xnm.toList == [104, 101, 97, 100]) = false := by rw [h3]; decide +kernel
            have b9 : (xnm.toList == [98, 111, 100, 121]) = false := by rw [h3]; decide +kernel
            have b10 : (xnm.toList == [104, 116, 109, 108]) = false := by rw [h3]; decide +kernel
            have HEL := hide (show modeOf (elAt xs (some (cns, cnm)) m) m tmpl hd = some 10 by rw [HELT.out]; unfold modeOf ofL; simp [h3])
            go_wp2_with fail
            go_ret
            rw [HR.out]
            refine ⟨?_, HBC.out⟩
            rw [res_some HEL.out]
            rfl
          by_cases h4 : xnm.toList = [116, 102, 111, 111, 116]
          · have b0 : (xnm.toList == [116, 100]) = false := by rw [h4]; decide +kernel
            have b1 : (xnm.toList == [116, 104]) = false := by rw [h4]; decide +kernel
            have b2 : (xnm.toList == [116, 114]) = false := by rw [h4]; decide +kernel
            have b3 : (xnm.toList == [116, 98, 111, 100, 121]) = false := by rw [h4]; decide +kernel
            have b4 : (xnm.toList == [116, 102, 111, 111, 116]) = true := by rw [h4]; decide +kernel
            have b5 : (xnm.toList == [116, 104, 101, 97, 100]) = false := by rw [h4]; decide +kernel
            have b6 : (xnm.toList == [116, 97, 98, 108, 101]) = false := by rw [h4]; decide +kernel
            have b7 : (xnm.toList == [116, 101, 109, 112, 108, 97, 116, 101]) = false := by rw [h4]; decide +kernel
            have b8 : (xnm.toList == [104, 101, 97, 100]) = false := by rw [h4]; decide +kernel
            have b9 : (xnm.toList == [98, 111, 100, 121]) = false := by rw [h4]; decide +kernel
            have b10 : (xnm.toList == [104, 116, 109, 108]) = false := by rw [h4]; decide +kernel
            have HEL := hide (show modeOf (elAt xs (some (cns, cnm)) m) m tmpl hd = some 10 by rw [HELT.out]; unfold modeOf ofL; simp [h4])
            go_wp2_with fail
            go_ret
            rw [HR.out]
            refine ⟨?_, HBC.out⟩
            rw [res_some HEL.out]
            rfl
          by_cases h5 : xnm.toList = [116, 104, 101, 97, 100]
          · have b0 : (xnm.toList == [116, 100]) = false := by rw [h5]; decide +kernel
            have b1 : (xnm.toList == [116, 104]) = false := by rw [h5]; decide +kernel
            have b2 : (xnm.toList == [116, 114]) = false := by rw [h5]; decide +kernel
            have b3 : (xnm.toList == [116, 98, 111, 100, 121]) = false := by rw [h5]; decide +kernel
            have b4 : (xnm.toList == [116, 102, 111, 111, 116]) = false := by rw [h5]; decide +kernel
            have b5 : (xnm.toList == [116, 104, 101, 97, 100]) = true := by rw [h5]; decide +kernel
            have b6 : (xnm.toList == [116, 97, 98, 108, 101]) = false := by rw [h5]; decide +kernel
            have b7 : (xnm.toList == [116, 101, 109, 112, 108, 97, 116, 101]) = false := by rw [h5]; decide +kernel
            have b8 : (xnm.toList == [104, 101, 97, 100]) = false := by rw [h5]; decide +kernel
            have b9 : (xnm.toList == [98, 111, 100, 121]) = false := by rw [h5]; decide +kernel
            have b10 : (xnm.toList == [104, 116, 109, 108]) = false := by rw [h5]; decide +kernel
            have HEL := hide (show modeOf (elAt xs (some (cns, cnm)) m) m tmpl hd = some 10 by rw [HELT.out]; unfold modeOf ofL; simp [h5])
            go_wp2_with fail
            go_ret
            rw [HR.out]
            refine ⟨?_, HBC.out⟩
            rw [res_some HEL.out]
            rfl
          by_cases h6 : xnm.toList = [116, 97, 98, 108, 101]
          · have b0 : (xnm.toList == [116, 100]) = false := by rw [h6]; decide +kernel
            have b1 : (xnm.toList == [116, 104]) = false := by rw [h6]; decide +kernel
            have b2 : (xnm.toList == [116, 114]) = false := by rw [h6]; decide +kernel
            have b3 : (xnm.toList == [116, 98, 111, 100, 121]) = false := by rw [h6]; decide +kernel
            have b4 : (xnm.toList == [116, 102, 111, 111, 116]) = false := by rw [h6]; decide +kernel
            have b5 : (xnm.toList == [116, 104, 101, 97, 100]) = false := by rw [h6]; decide +kernel
            have b6 : (xnm.toList == [116, 97, 98, 108, 101]) = true := by rw [h6]; decide +kernel
            have b7 : (xnm.toList == [116, 101, 109, 112, 108, 97, 116, 101]) = false := by rw [h6]; decide +kernel
            have b8 : (xnm.toList == [104, 101, 97, 100]) = false := by rw [h6]; decide +kernel
            have b9 : (xnm.toList == [98, 111, 100, 121]) = false := by rw [h6]; decide +kernel
            have b10 : (xnm.toList == [104, 116, 109, 108]) = false := by rw [h6]; decide +kernel
            have HEL := hide (show modeOf (elAt xs (some (cns, cnm)) m) m tmpl hd = some 8 by rw [HELT.out]; unfold modeOf ofL; simp [h6])
            go_wp2_with fail
            go_ret
            rw [HR.out]
            refine ⟨?_, HBC.out⟩
            rw [res_some HEL.out]
            rfl
          by_cases h7 : xnm.toList = [116, 101, 109, 112, 108, 97, 116, 101]
          · have b0 : (xnm.toList == [116, 100]) = false := by rw [h7]; decide +kernel
            have b1 : (xnm.toList == [116, 104]) = false := by rw [h7]; decide +kernel
            have b2 : (xnm.toList == [116, 114]) = false := by rw [h7]; decide +kernel
            have b3 : (xnm.toList == [116, 98, 111, 100, 121]) = false := by rw [h7]; decide +kernel
            have b4 : (xnm.toList == [116, 102, 111, 111, 116]) = false := by rw [h7]; decide +kernel
            have b5 : (xnm.toList == [116, 104, 101, 97, 100]) = false := by rw [h7]; decide +kernel
            have b6 : (xnm.toList == [116, 97, 98, 108, 101]) = false := by rw [h7]; decide +kernel
            have b7 : (xnm.toList == [116, 101, 109, 112, 108, 97, 116, 101]) = true := by rw [h7]; decide +kernel
            have b8 : (xnm.toList == [104, 101, 97, 100]) = false := by rw [h7]; decide +kernel
            have b9 : (xnm.toList == [98, 111, 100, 121]) = false := by rw [h7]; decide +kernel
            have b10 : (xnm.toList == [104, 116, 109, 108]) = false := by rw [h7]; decide +kernel
            have HEL := hide (show modeOf (elAt xs (some (cns, cnm)) m) m tmpl hd = some tmpl by rw [HELT.out]; unfold modeOf ofL; simp [h7])
            go_wp2_with fail
            go_ret
            rw [HR.out]
            refine ⟨?_, HBC.out⟩
            rw [res_some HEL.out]
            rfl
          by_cases h8 : xnm.toList = [104, 101, 97, 100]
          · have b0 : (xnm.toList == [116, 100]) = false := by rw [h8]; decide +kernel
            have b1 : (xnm.toList == [116, 104]) = false := by rw [h8]; decide +kernel
            have b2 : (xnm.toList == [116, 114]) = false := by rw [h8]; decide +kernel
            have b3 : (xnm.toList == [116, 98, 111, 100, 121]) = false := by rw [h8]; decide +kernel
            have b4 : (xnm.toList == [116, 102, 111, 111, 116]) = false := by rw [h8]; decide +kernel
            have b5 : (xnm.toList == [116, 104, 101, 97, 100]) = false := by rw [h8]; decide +kernel
            have b6 : (xnm.toList == [116, 97, 98, 108, 101]) = false := by rw [h8]; decide +kernel
            have b7 : (xnm.toList == [116, 101, 109, 112, 108, 97, 116, 101]) = false := by rw [h8]; decide +kernel
            have b8 : (xnm.toList == [104, 101, 97, 100]) = true := by rw [h8]; decide +kernel
            have b9 : (xnm.toList == [98, 111, 100, 121]) = false := by rw [h8]; decide +kernel
            have b10 : (xnm.toList == [104, 116, 109, 108]) = false := by rw [h8]; decide +kernel
            rcases Nat.eq_zero_or_pos m with hm | hm
            · have hm2 : ¬ (0 : Int) < (m : Int) := by omega
              omega
            · have hm2 : (0 : Int) < (m : Int) := by omega
              have hm3 : ¬ m = 0 := by omega
              have HEL := hide (show modeOf (elAt xs (some (cns, cnm)) m) m tmpl hd = some 4 by rw [HELT.out]; unfold modeOf ofL; simp [h8]; first | omega | simp [hm3])
              go_wp2_with fail
              go_ret
              rw [HR.out]
              refine ⟨?_, HBC.out⟩
              rw [res_some HEL.out]
              rfl
          by_cases h9 : xnm.toList = [98, 111, 100, 121]
          · have b0 : (xnm.toList == [116, 100]) = false := by rw [h9]; decide +kernel
            have b1 : (xnm.toList == [116, 104]) = false := by rw [h9]; decide +kernel
            have b2 : (xnm.toList == [116, 114]) = false := by rw [h9]; decide +kernel
            have b3 : (xnm.toList == [116, 98, 111, 100, 121]) = false := by rw [h9]; decide +kernel
            have b4 : (xnm.toList == [116, 102, 111, 111, 116]) = false := by rw [h9]; decide +kernel
            have b5 : (xnm.toList == [116, 104, 101, 97, 100]) = false := by rw [h9]; decide +kernel
            have b6 : (xnm.toList == [116, 97, 98, 108, 101]) = false := by rw [h9]; decide +kernel
            have b7 : (xnm.toList == [116, 101, 109, 112, 108, 97, 116, 101]) = false := by rw [h9]; decide +kernel
            have b8 : (xnm.toList == [104, 101, 97, 100]) = false := by rw [h9]; decide +kernel
            have b9 : (xnm.toList == [98, 111, 100, 121]) = true := by rw [h9]; decide +kernel
            have b10 : (xnm.toList == [104, 116, 109, 108]) = false := by rw [h9]; decide +kernel
            have HEL := hide (show modeOf (elAt xs (some (cns, cnm)) m) m tmpl hd = some 6 by rw [HELT.out]; unfold modeOf ofL; simp [h9])
            go_wp2_with fail
            go_ret
            rw [HR.out]
            refine ⟨?_, HBC.out⟩
            rw [res_some HEL.out]
            rfl
          by_cases h10 : xnm.toList = [104, 116, 109, 108]
          · have b0 : (xnm.toList == [116, 100]) = false := by rw [h10]; decide +kernel
            have b1 : (xnm.toList == [116, 104]) = false := by rw [h10]; decide +kernel
            have b2 : (xnm.toList == [116, 114]) = false := by rw [h10]; decide +kernel
            have b3 : (xnm.toList == [116, 98, 111, 100, 121]) = false := by rw [h10]; decide +kernel
            have b4 : (xnm.toList == [116, 102, 111, 111, 116]) = false := by rw [h10]; decide +kernel
            have b5 : (xnm.toList == [116, 104, 101, 97, 100]) = false := by rw [h10]; decide +kernel
            have b6 : (xnm.toList == [116, 97, 98, 108, 101]) = false := by rw [h10]; decide +kernel
            have b7 : (xnm.toList == [116, 101, 109, 112, 108, 97, 116, 101]) = false := by rw [h10]; decide +kernel
            have b8 : (xnm.toList == [104, 101, 97, 100]) = false := by rw [h10]; decide +kernel
            have b9 : (xnm.toList == [98, 111, 100, 121]) = false := by rw [h10]; decide +kernel
            have b10 : (xnm.toList == [104, 116, 109, 108]) = true := by rw [h10]; decide +kernel
            cases hd with
            | true =>
              have HEL := hide (show modeOf (elAt xs (some (cns, cnm)) m) m tmpl true = some 5 by rw [HELT.out]; unfold modeOf ofL; simp [h10])
              go_wp2_with fail
              go_ret
              rw [HR.out]
              refine ⟨?_, HBC.out⟩
              rw [res_some HEL.out]
              rfl
            | false =>
              have HEL := hide (show modeOf (elAt xs (some (cns, cnm)) m) m tmpl false = some 3 by rw [HELT.out]; unfold modeOf ofL; simp [h10])
              go_wp2_with fail
              go_ret
              rw [HR.out]
              refine ⟨?_, HBC.out⟩
              rw [res_some HEL.out]
              rfl
          have b0 : (xnm.toList == [116, 100]) = false := beq_eq_false_iff_ne.2 h0
          have b1 : (xnm.toList == [116, 104]) = false := beq_eq_false_iff_ne.2 h1
          have b2 : (xnm.toList == [116, 114]) = false := beq_eq_false_iff_ne.2 h2
          have b3 : (xnm.toList == [116, 98, 111, 100, 121]) = false := beq_eq_false_iff_ne.2 h3
          have b4 : (xnm.toList == [116, 102, 111, 111, 116]) = false := beq_eq_false_iff_ne.2 h4
          have b5 : (xnm.toList == [116, 104, 101, 97, 100]) = false := beq_eq_false_iff_ne.2 h5
          have b6 : (xnm.toList == [116, 97, 98, 108, 101]) = false := beq_eq_false_iff_ne.2 h6
          have b7 : (xnm.toList == [116, 101, 109, 112, 108, 97, 116, 101]) = false := beq_eq_false_iff_ne.2 h7
          have b8 : (xnm.toList == [104, 101, 97, 100]) = false := beq_eq_false_iff_ne.2 h8
          have b9 : (xnm.toList == [98, 111, 100, 121]) = false := beq_eq_false_iff_ne.2 h9
          have b10 : (xnm.toList == [104, 116, 109, 108]) = false := beq_eq_false_iff_ne.2 h10
          have HEL := hide (show modeOf (elAt xs (some (cns, cnm)) m) m tmpl hd = none by rw [HELT.out]; unfold modeOf ofL; simp [h0, h1, h2, h3, h4, h5, h6, h7, h8, h9, h10])
          go_wp2_with fail
          go_roundw
          case rel => exact ⟨m, by omega, by go_num, ⟨HR.out.trans (res_none HEL.out)⟩, ⟨HBC.out⟩⟩
          case measure => simp only [intOf]; omega
        · have HEL := hide (show modeOf (elAt xs (some (cns, cnm)) m) m tmpl hd = none by rw [HELT.out]; unfold modeOf; rw [if_pos q1])
          go_wp2_with fail
          go_roundw
          case rel => exact ⟨m, by omega, by go_num, ⟨HR.out.trans (res_none HEL.out)⟩, ⟨HBC.out⟩⟩
          case measure => simp only [intOf]; omega
end Go.Proofs.Ytpofjfnlchpmbaa.Ctx

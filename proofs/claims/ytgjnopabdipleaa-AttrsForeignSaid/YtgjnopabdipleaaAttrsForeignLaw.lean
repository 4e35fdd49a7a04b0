/- The walk of the law AttrsForeign: true. -/
import Derived.Test.YtgjnopabdipleaaAttrsKnown
import Derived.Test.YtgjnopabdipleaaAttrsShort
namespace Go.Proofs.Ytgjnopabdipleaa.Attrs
open Go.RowKit Go.Proofs.Ytgjnopabdipleaa.PAttrsTells Go.Proofs.YtgjnopabdipleaaW.PrintWords Go.Proofs.YtgjnopabdipleaaW.PrintLast

def VB : S29 := ⟨⟨#[118, 105, 101, 119, 98, 111, 120]⟩, ⟨#[118]⟩⟩
def VB2 : S29 := ⟨⟨#[118, 105, 101, 119, 66, 111, 120]⟩, ⟨#[118]⟩⟩
def XY : S29 := ⟨⟨#[120]⟩, ⟨#[121]⟩⟩
theorem fixIn_or (s : ByteArray) : ∀ L : List (List UInt8 × ByteArray), fixIn s L = s ∨ ∃ x ∈ L, fixIn s L = x.2
  | [] => .inl rfl
  | x :: L => by
    unfold fixIn
    rw [List.foldr_cons]
    by_cases h : s.toList = x.1
    · rw [if_pos h]; exact .inr ⟨x, List.mem_cons_self, rfl⟩
    · rw [if_neg h]
      rcases fixIn_or s L with h1 | ⟨y, hy, h1⟩
      · exact .inl h1
      · exact .inr ⟨y, List.mem_cons_of_mem _ hy, h1⟩
theorem fix_stays : FIX.all (fun x => decide (fixIn x.2 FIX = x.2)) = true := by decide +kernel
theorem fx_fx (s : ByteArray) : fx (fx s) = fx s := by
  rw [fx_eq (fx s), fx_eq s]
  rcases fixIn_or s FIX with h | ⟨x, hx, h⟩
  · rw [h, h]
  · rw [h]
    exact of_decide_eq_true (List.all_eq_true.1 fix_stays x hx)
theorem foreign_foreign (xs : List S29) : foreignL (foreignL xs) = foreignL xs := by
  unfold foreignL
  rw [List.map_map]
  apply List.map_congr_left
  intro x _
  show fixA (fixA x) = fixA x
  unfold fixA
  rw [fx_fx]
theorem fix_vb : fixA VB = VB2 := by
  unfold fixA VB
  dsimp only
  rw [fx_eq, show fixIn ⟨#[118, 105, 101, 119, 98, 111, 120]⟩ FIX = ⟨#[118, 105, 101, 119, 66, 111, 120]⟩ by decide +kernel]
  rfl
theorem fix_xy : fixA XY = XY := by
  unfold fixA XY
  dsimp only
  rw [fx_eq, show fixIn ⟨#[120]⟩ FIX = ⟨#[120]⟩ by decide +kernel]
theorem foreign_get (xs : List S29) (k : Nat) (h : k < xs.length) : (foreignL xs).getD k z29 = fixA (xs.getD k z29) := by
  unfold foreignL
  rw [List.getD_eq_getElem?_getD, List.getElem?_map, List.getElem?_eq_getElem h, List.getD_eq_getElem?_getD, List.getElem?_eq_getElem h]
  rfl
theorem get_vb (ys : List S29) : (ys ++ [VB, XY]).getD ys.length z29 = VB := by simp
theorem get_xy (ys : List S29) : (ys ++ [VB, XY]).getD (ys.length + 1) z29 = XY := by simp [List.getD_eq_getElem?_getD]

set_option maxHeartbeats 1000000 in
set_option maxRecDepth 100000 in
theorem attrsForeign (A : Option Addr) (c : Nat) (xs : List S29) (w : World) (h : Rds w A c xs) :
    Calls Try.prog 4 #[.slice A xs.length c] w fun e w' => e = .returned (.bool true) ∧ Below w.heap.size w w' := by
  have HX := hide h
  clear h
  go_enter Try.func4, Try.ntmps4
  go_wp2_with fail
  refine (short A c xs _ HX.out).mono ?_
  rintro e w1 ⟨ys, hys, v, rfl, hR, hb1⟩
  have hb2 : Below w1.heap.size w1 (w1.alloc (.cells #[.string ⟨#[118, 105, 101, 119, 98, 111, 120]⟩, .string ⟨#[118]⟩, .string ⟨#[120]⟩, .string ⟨#[121]⟩] 29)) := below_alloc (Below.refl _ _) _
  have r2 : Rds (w1.alloc (.cells #[.string ⟨#[118, 105, 101, 119, 98, 111, 120]⟩, .string ⟨#[118]⟩, .string ⟨#[120]⟩, .string ⟨#[121]⟩] 29)) (some ⟨w1.heap.size, 0, none⟩) 2 [VB, XY] := by
    refine rds_blk (heap_alloc_new w1 _) _ 2 (by simp) (by simp) ?_
    intro j p hj
    match j, hj with
    | 0, hj => cases hj; exact ⟨rfl, rfl⟩
    | 1, hj => cases hj; exact ⟨rfl, rfl⟩
  have HR := hide (Kd.R_below hR hb2)
  have HC := hide r2.1
  have HB2 := hide (below_step hb1 hb2)
  have hbase := HB2.out.size
  clear hR hb1 hb2 r2
  dsimp only
  go_wp2_with (at_builtin; refine Kd.R_append_rows k29 (Rr := k29.K (w1.alloc (.cells #[.string ⟨#[118, 105, 101, 119, 98, 111, 120]⟩, .string ⟨#[118]⟩, .string ⟨#[120]⟩, .string ⟨#[121]⟩] 29))) (w0 := w) w.heap.size rfl (.tmp 7) (.tmp 10) 22 29 (.agg #[.string ⟨#[]⟩, .string ⟨#[]⟩]) 32 rfl Try.underlying22 (by kernel_rfl) rfl (by decide) (by decide) _ ys [VB, XY] (some ⟨w1.heap.size, 0, none⟩) 2 2 (fun _ => True) (fun _ => False) rfl rfl HR.out HC.out ?h1 (fun k hk => hk.elim) (fun _ _ => trivial) HB2.out hbase (by omega) ?_; (case h1 => intro x cs hx; rw [k29_open hx]; exact k29_mkM _ _ _ _); intro v1 w3 ho hb hg hown; have HO := hide ho; have HB := hide hb; clear ho hb hg hown)
  obtain ⟨ls, hls⟩ : ∃ ls, ys ++ [VB, XY] = ls := ⟨_, rfl⟩
  have hlen : ls.length = ys.length + 2 := by rw [← hls]; simp
  have hv : ls.getD ys.length z29 = VB := by rw [← hls]; exact get_vb ys
  have hxy : ls.getD (ys.length + 1) z29 = XY := by rw [← hls]; exact get_xy ys
  rw [hls] at HO
  clear hls HR HC HB2 hbase
  obtain ⟨n, hn⟩ : ∃ n, ls.length = n := ⟨_, rfl⟩
  have hn8 : n ≤ 8 := by omega
  have hn2 : 2 ≤ n := by omega
  have hv1 : ls.getD (n - 2) z29 = VB := by rw [← hv]; congr 1; omega
  have hv2 : ls.getD (n - 1) z29 = XY := by rw [← hxy]; congr 1; omega
  clear hlen hv hxy hys
  obtain ⟨A1, c1, rfl, hl1, hC1⟩ := Kd.R_reads HO.out
  have HL := hide (show Rds w3 A1 c1 ls from ⟨hC1, hl1⟩)
  have HN := hide hn
  clear HO hC1 hl1
  rw [hn]
  clear hn
  go_wp2_with fail
  have hf0 := foreign A1 c1 ls w3 HL.out (by rw [HN.out]; omega)
  rw [HN.out] at hf0
  refine hf0.mono ?_
  clear hf0
  rintro e w4 ⟨v, rfl, hR, hb⟩
  obtain ⟨fs, hfs⟩ : ∃ fs, foreignL ls = fs := ⟨_, rfl⟩
  have hff : foreignL fs = fs := by rw [← hfs]; exact foreign_foreign ls
  have hfl : fs.length = n := by rw [← hfs, foreignL, List.length_map]; exact HN.out
  have hfg : ∀ k, k < n → fs.getD k z29 = fixA (ls.getD k z29) := fun k hk => by rw [← hfs]; exact foreign_get ls k (by rw [HN.out]; exact hk)
  rw [hfs] at hR
  clear hfs
  obtain ⟨A2, c2, rfl, hl2, hC2⟩ := Kd.R_reads hR
  have HF := hide (show Rds w4 A2 c2 fs from ⟨hC2, hl2⟩)
  have HL2 := hide (show Rds w4 A1 c1 ls from ⟨Kd.C_below HL.out.1 hb, HL.out.2⟩)
  have HB4 := hide (below_step HB.out hb)
  have HFL := hide hfl
  have HG := hide hfg
  have HFF := hide hff
  clear hR hl2 hC2 HL HB hb hfg hff
  rw [hfl]
  clear hfl
  dsimp only
  go_wp2_with fail
  go_loopw [4] (fun i wr => ∃ k : Nat, k ≤ n ∧ i = .int .i64 k ∧ Aside0 (Below w.heap.size w wr) ∧ Aside0 (Rds wr A1 c1 ls) ∧ Aside0 (Rds wr A2 c2 fs)) (fun i _ => n - (intOf i).toNat)
  case atStart => exact ⟨0, by omega, rfl, ⟨HB4.out⟩, ⟨HL2.out⟩, ⟨HF.out⟩⟩
  case round =>
    clear HB4 HL2 HF
    obtain ⟨k, hk, rfl, HB, HL, HF⟩ := hrel
    by_cases hlt : k < n
    · obtain ⟨ad1, hA1, _, hc1⟩ := at_T29 HL.out.1 (k : Int) (by omega) (by rw [HN.out]; omega)
      obtain ⟨ad2, hA2, _, hc2⟩ := at_T29 HF.out.1 (k : Int) (by omega) (by rw [HFL.out]; omega)
      subst hA1 hA2
      unfold rd_T29 at hc1 hc2
      rw [Int.toNat_natCast] at hc1 hc2
      rw [HG.out k hlt] at hc2
      unfold fixA at hc2
      dsimp only at hc2
      obtain ⟨b, hb⟩ : ∃ b, (ls.getD k z29).f1 = b := ⟨_, rfl⟩
      rw [hb] at hc1 hc2
      clear hb
      have k1 : (k : Int) < n := by omega
      have k2 : (0 : Int) ≤ (k : Int) := by omega
      go_wp2_with fail
      go_quiet (fail)
      go_wp2_with fail
      go_roundw
      case rel => exact ⟨k + 1, by omega, by go_num, ⟨pw_below_drewN HB.out _⟩, ⟨⟨Kd.C_below HL.out.1 (pw_below_drewN (Below.refl _ _) _), HL.out.2⟩⟩, ⟨⟨Kd.C_below HF.out.1 (pw_below_drewN (Below.refl _ _) _), HF.out.2⟩⟩⟩
      case measure => simp only [intOf]; omega
    · have hkn : k = n := by omega
      subst hkn
      obtain ⟨ad2, hA2, hc2, _⟩ := at_T29 HF.out.1 ((k - 2 : Nat) : Int) (by omega) (by rw [HFL.out]; omega)
      obtain ⟨ad3, hA3, hc3, _⟩ := at_T29 HF.out.1 ((k - 1 : Nat) : Int) (by omega) (by rw [HFL.out]; omega)
      subst hA2
      injection hA3 with hA3
      subst hA3
      unfold rd_T29 at hc2 hc3
      rw [Int.toNat_natCast] at hc2 hc3
      rw [HG.out _ (by omega), hv1, fix_vb] at hc2
      rw [HG.out _ (by omega), hv2, fix_xy] at hc3
      unfold VB2 at hc2
      unfold XY at hc3
      dsimp only at hc2 hc3
      have q1 : (2 : Int) ≤ (k : Int) := by omega
      have q2 : (1 : Int) ≤ (k : Int) := by omega
      go_wp2_with fail
      have hf1 := foreign (some ad2) c2 fs wr HF.out (by rw [HFL.out]; omega)
      rw [HFL.out, HFF.out] at hf1
      refine hf1.mono ?_
      clear hf1
      rintro e w5 ⟨v, rfl, hR, hb⟩
      obtain ⟨A3, c3, rfl, hl3, hC3⟩ := Kd.R_reads hR
      have HF5 := hide (show Rds w5 (some ad2) c2 fs from ⟨Kd.C_below HF.out.1 hb, HF.out.2⟩)
      have HG5 := hide (show Rds w5 A3 c3 fs from ⟨hC3, hl3⟩)
      have HB5 := hide (below_step HB.out hb)
      clear hR hl3 hC3 hb HB HF HL hc2 hc3
      have hfl := HFL.out
      rw [hfl]
      clear hfl
      dsimp only
      go_wp2_with fail
      have hs := attrs_Same.calls 20 A3 c3 fs (some ad2) c2 fs true w5 HG5.out.1 HG5.out.2 HF5.out.1 HF5.out.2 (by rw [attrsSame_some _ _ (by rw [HFL.out]; omega) 20 (by rw [HFL.out]; omega), eqAll_refl])
      rw [HFL.out] at hs
      refine hs.mono ?_
      clear hs
      rintro e w6 ⟨rfl, ⟨nd, rfl⟩⟩
      have HB6 := hide (pw_below_drewN HB5.out nd)
      clear HB5 HF5 HG5
      dsimp only
      go_wp2_with fail
      refine (known _).mono ?_
      rintro e w7 ⟨rfl, hb⟩
      have HB7 := hide (below_step HB6.out hb)
      clear HB6 hb
      dsimp only
      go_wp2_with fail
      go_ret
      exact ⟨rfl, HB7.out⟩
end Go.Proofs.Ytgjnopabdipleaa.Attrs

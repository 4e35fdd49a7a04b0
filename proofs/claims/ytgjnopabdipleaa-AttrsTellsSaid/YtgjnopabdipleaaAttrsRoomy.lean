/- The walk of arbourbook.Roomy over attributes. -/
import Derived.Test.YtgjnopabdipleaaAttrsCopy
import Derived.Test.YtgjnopabdipleaaAttrsMoreWalk
namespace Go.Proofs.Ytgjnopabdipleaa.Attrs
open Go.RowKit Go.Proofs.Ytgjnopabdipleaa.PAttrsTells Go.Proofs.YtgjnopabdipleaaW.PrintWords Go.Proofs.YtgjnopabdipleaaW.PrintLast

def fillL (xs : List S29) (m : S29) (k : Nat) : List S29 := xs ++ (List.replicate k m ++ List.replicate (80 - k) z29)
def roomy (xs : List S29) (m : S29) : List S29 := xs ++ List.replicate 80 m
theorem fill_len (xs : List S29) (m : S29) (k : Nat) (h : k ≤ 80) : (fillL xs m k).length = xs.length + 80 := by unfold fillL; simp; omega
theorem fill_set (xs : List S29) (m : S29) (k : Nat) (h : k < 80) : (fillL xs m k).set (xs.length + k) m = fillL xs m (k + 1) := by
  unfold fillL
  rw [List.set_append_right _ _ (by omega), Nat.add_sub_cancel_left, List.set_append_right _ _ (by simp), List.length_replicate, Nat.sub_self]
  obtain ⟨j, hj⟩ : ∃ j, 80 - k = j + 1 := ⟨79 - k, by omega⟩
  rw [hj, List.replicate_succ, List.set_cons_zero, show 80 - (k + 1) = j by omega, List.replicate_succ', List.append_assoc]
  rfl
theorem fill_end (xs : List S29) (m : S29) : fillL xs m 80 = roomy xs m := by unfold fillL roomy; simp

set_option maxHeartbeats 1000000 in
set_option maxRecDepth 100000 in
theorem roomy_is (A : Option Addr) (c : Nat) (xs : List S29) (a b : ByteArray) (w : World) (h : Rds w A c xs) (hl : xs.length ≤ 20) :
    Calls Try.prog 17 #[.slice A xs.length c, .agg #[.string a, .string b]] w (RowPost (roomy xs ⟨a, b⟩) w) := by
  have hb0 : Below w.heap.size w (w.alloc (.cells #[.string a, .string b] 29)) := below_alloc (Below.refl _ _) _
  have hx0 : (w.alloc (.cells #[.string a, .string b] 29)).cell? ⟨w.heap.size, 0, none⟩ = some (.string a) := by rw [cell_of_row _ _ 0 _ 29 (0, 0) (heap_alloc_new _ _)]; rfl
  have hx1 : (w.alloc (.cells #[.string a, .string b] 29)).cell? ⟨w.heap.size, 1, none⟩ = some (.string b) := by rw [cell_of_row _ _ 1 _ 29 (0, 0) (heap_alloc_new _ _)]; rfl
  have HX := hide (show Rds (w.alloc (.cells #[.string a, .string b] 29)) A c xs from ⟨Kd.C_below h.1 hb0, h.2⟩)
  have HB0 := hide hb0
  have H0 := hide hx0
  have H1 := hide hx1
  clear h hb0 hx0 hx1
  have e80 : ((xs.length : Int) + 80).toNat = xs.length + 80 := by omega
  go_enter Try.func17, Try.ntmps17
  go_wp2_with (first
    | ((with_reducible refine gate_dst (N := 10) rfl ?_); refine Kd.R_make k29 (w0 := (w.alloc (.cells #[.string a, .string b] 29))) (w.alloc (.cells #[.string a, .string b] 29)).heap.size 29 rfl (N := 10) rfl 22 (.tmp 9) (.tmp 9) rfl ((xs.length : Int) + 80) rfl rfl Try.underlying22 (.agg #[.string ⟨#[]⟩, .string ⟨#[]⟩]) 32 info29 rfl (by decide) (by decide) z29 (ok := fun _ => True) (okp := fun _ => False) (k29_mkM _ _ _ _) (fun k hk => hk.elim) trivial (by omega) (by rw [e80]; omega) (Below.refl _ _) (Nat.le_refl _) ?_; intro v1 w2 ho hb hg hnew; rw [e80] at ho; clear hg hnew; obtain ⟨g, cap, rfl, hgb, hglt, _⟩ := Kd.R_form ho (by simp); rw [List.length_replicate] at ho ⊢; have HO := hide ho; have HB := hide hb; have HGB := hide hgb; clear ho hb hglt hgb)
    | ((with_reducible refine gate_dst (N := 13) rfl ?_); refine copy2 (w0 := (w.alloc (.cells #[.string a, .string b] 29))) (w.alloc (.cells #[.string a, .string b] 29)).heap.size rfl (.tmp 11) (.tmp 12) 22 22 rfl Try.underlying22 (by kernel_rfl) g (xs.length + 80) cap (List.replicate (xs.length + 80) z29) xs A c rfl rfl (by simp) (by simp) HO.out ⟨Kd.C_below HX.out.1 HB.out, HX.out.2⟩ HB.out HB.out.size ?_; intro w3 ho hb hg; have HO3 := hide ho; have HB3 := hide hb; clear ho hb hg))
  have hf0 : xs ++ (List.replicate (xs.length + 80) z29).drop xs.length = fillL xs ⟨a, b⟩ 0 := by unfold fillL; simp
  have HO4 := hide (hf0 ▸ HO3.out)
  clear hf0 HO3 HO HB HX
  have hgb := HGB.out
  rw [show (w.alloc (.cells #[.string a, .string b] 29)).heap.size = w.heap.size + 1 by simp] at hgb
  obtain ⟨n, hn⟩ : ∃ n, xs.length = n := ⟨_, rfl⟩
  have HN := hide hn
  rw [hn] at hl e80 HO4 ⊢
  clear hn
  go_loopw [6] (fun i wr => ∃ j : Nat, n ≤ j ∧ j ≤ n + 80 ∧ i = .int .i64 j ∧ Aside0 (Kd.R k29 29 wr (w.alloc (.cells #[.string a, .string b] 29)).heap.size (fun _ => True) (.slice (some ⟨g, 0, none⟩) (n + 80) cap) (fillL xs ⟨a, b⟩ (j - n))) ∧ Aside0 (Below (w.alloc (.cells #[.string a, .string b] 29)).heap.size (w.alloc (.cells #[.string a, .string b] 29)) wr)) (fun i _ => n + 80 - (intOf i).toNat)
  case atStart => exact ⟨n, by omega, by omega, rfl, ⟨by rw [Nat.sub_self]; exact HO4.out⟩, ⟨HB3.out⟩⟩
  case round =>
    clear HO4 HB3
    obtain ⟨j, hj1, hj2, rfl, HO, HB⟩ := hrel
    have hx0 : wr.cell? ⟨w.heap.size, 0, none⟩ = some (.string a) := by rw [HB.out.cell (p := ⟨w.heap.size, 0, none⟩) (by simp)]; exact H0.out
    have hx1 : wr.cell? ⟨w.heap.size, 1, none⟩ = some (.string b) := by rw [HB.out.cell (p := ⟨w.heap.size, 1, none⟩) (by simp)]; exact H1.out
    by_cases hlt : j < n + 80
    · have hlen := fill_len xs ⟨a, b⟩ (j - n) (by omega)
      rw [HN.out] at hlen
      have hset := fill_set xs ⟨a, b⟩ (j - n) (by omega)
      rw [HN.out, show n + (j - n) = j by omega, show j - n + 1 = j + 1 - n by omega] at hset
      obtain ⟨bd, hA, hc0, hc1⟩ := at_T29 (Kd.R_reads' HO.out).2.2 (j : Int) (by omega) (by rw [hlen]; omega)
      cases hA
      unfold rd_T29 at hc0 hc1
      rw [Int.toNat_natCast] at hc0 hc1
      have ea : (⟨g, 0, none⟩ : Addr).add (j * 2) = ⟨g, j * 2, none⟩ := by unfold Addr.add; split <;> simp_all
      rw [ea] at hc0 hc1
      clear ea
      obtain ⟨x, hx⟩ : ∃ x, (fillL xs ⟨a, b⟩ (j - n)).getD j z29 = x := ⟨_, rfl⟩
      rw [hx] at hc0 hc1
      clear hx
      obtain ⟨p, q⟩ := x
      dsimp only at hc0 hc1
      have HS := hide hset
      have HLEN := hide hlen
      clear hset hlen
      obtain ⟨g', cap', ev, _, hglt, cells, hcells⟩ := Kd.R_form HO.out (by rw [HLEN.out]; omega)
      injection ev with ev1 ev2 ev3
      injection ev1 with ev1
      injection ev1 with ev1
      subst ev1
      have hfz := blk_frozen hcells (j * 2)
      have hfz1 := blk_frozen hcells (j * 2 + 1)
      clear hcells ev2 ev3
      have k1 : (j : Int) < (n + 80 : Nat) := by omega
      have k2 : (j : Int) < (n : Int) + 80 := by omega
      have k3 : (0 : Int) ≤ (j : Int) := by omega
      have hne : ¬ g = w.heap.size := by omega
      go_wp2_with fail
      go_roundw
      case rel =>
        obtain ⟨hrow, hg⟩ := Kd.R_seg (i := (j : Int)) (j := 0) (seg := [.string a, .string b]) (c := [.string p, .string q]) (x' := ⟨a, b⟩) (okp := fun _ => False) HO.out (by omega) (by omega) rfl (fun i u hu => by
          rw [Int.toNat_natCast]
          match i, hu with
          | 0, hu => exact hc0.trans hu
          | 1, hu => exact hc1.trans hu) (by show 0 + 2 ≤ 2; omega) (k29_mkM _ _ _ _) (fun k hk => hk.elim)
        rw [Int.toNat_natCast] at hrow
        rw [HS.out] at hrow
        have hb5 : Below (w.alloc (.cells #[.string a, .string b] 29)).heap.size (w.alloc (.cells #[.string a, .string b] 29)) ((wr.setCell ⟨g, j * 2, none⟩ (.string a)).setCell ⟨g, j * 2 + 1, none⟩ (.string b)) := (HB.out.setCell HGB.out _).setCell HGB.out _
        exact ⟨j + 1, by omega, by omega, by go_num, ⟨hrow⟩, ⟨hb5⟩⟩
      case measure => simp only [intOf]; omega
    · have hj : j = n + 80 := by omega
      subst hj
      have HO1 := HO.out
      rw [show n + 80 - n = 80 by omega, fill_end] at HO1
      have HO2 := hide (Kd.R_lower HO1 (by simp : w.heap.size ≤ (w.alloc (.cells #[.string a, .string b] 29)).heap.size))
      have HB2 := hide (below_step HB0.out HB.out)
      have k2 : ¬ ((n + 80 : Nat) : Int) < (n : Int) + 80 := by omega
      clear HO1 HO HB
      go_wp2_with fail
      go_ret
      exact ⟨_, rfl, HO2.out, HB2.out⟩
end Go.Proofs.Ytgjnopabdipleaa.Attrs

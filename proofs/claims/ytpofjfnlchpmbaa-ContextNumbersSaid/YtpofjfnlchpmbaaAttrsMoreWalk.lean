/- The walks of attrs.More, Unique, Get, Add. -/
import Derived.Test.YtpofjfnlchpmbaaAttrsFind
namespace Go.Proofs.Ytpofjfnlchpmbaa.Ctx
open Go.RowKit Go.Proofs.Ytpofjfnlchpmbaa.PContextTells Go.Proofs.YtpofjfnlchpmbaaW.PrintWords Go.Proofs.YtpofjfnlchpmbaaW.PrintLast

def addL (xs : List S44) (x : S44) : List S44 := if fnd xs x.f0 < 0 then xs ++ [x] else xs
def moreL (xs ys : List S44) : List S44 := ys.foldl addL xs
theorem addL_len (xs : List S44) (x : S44) : (addL xs x).length ≤ xs.length + 1 := by
  unfold addL
  split
  · simp
  · omega
theorem moreL_len (xs : List S44) : ∀ ys : List S44, (moreL xs ys).length ≤ xs.length + ys.length := by
  intro ys
  unfold moreL
  induction ys generalizing xs with
  | nil => simp
  | cons y ys ih =>
    rw [List.foldl_cons, List.length_cons]
    have := ih (addL xs y)
    have := addL_len xs y
    omega
theorem more_step (xs ys : List S44) (k : Nat) (h : k < ys.length) : moreL xs (ys.take (k + 1)) = addL (moreL xs (ys.take k)) (ys.getD k z44) := by
  unfold moreL
  rw [List.take_succ_eq_append_getElem h, List.foldl_append, List.getD_eq_getElem?_getD, List.getElem?_eq_getElem h]
  rfl
theorem info44 : (Try.prog.info? 44).map (fun i => (i.zero, i.size, i.bytes)) = some (some (.agg #[.string ⟨#[]⟩, .string ⟨#[]⟩]), 2, 32) := by kernel_rfl

set_option maxHeartbeats 1000000 in
set_option maxRecDepth 100000 in
theorem more (A B : Option Addr) (c d : Nat) (xs ys : List S44) (w : World) (h : Rds w A c xs) (hy : Rds w B d ys) (hn : (xs.length + ys.length) * 32 ≤ 140737488351232) :
    Calls Try.prog 39 #[.slice A xs.length c, .slice B ys.length d] w (RowPost (moreL xs ys) w) := by
  have HX := hide h
  have HY := hide hy
  have hlen := hy.1.2.1
  clear h hy
  obtain ⟨n, hyn⟩ : ∃ n, ys.length = n := ⟨_, rfl⟩
  have HN := hide hyn
  rw [hyn] at hlen hn ⊢
  clear hyn
  obtain ⟨m, hxm⟩ : ∃ n, xs.length = n := ⟨_, rfl⟩
  have HM := hide hxm
  rw [hxm] at hn
  clear hxm
  go_enter Try.func39, Try.ntmps39
  go_wp2_with fail
  refine (clone A c xs _ HX.out (by rw [HM.out]; omega)).mono ?_
  rintro e w1 ⟨v, rfl, hR, hb1⟩
  have HR := hide hR
  have HB1 := hide hb1
  clear hR hb1
  dsimp only
  go_wp2_with fail
  go_loopw [5, 12] (fun v i wr => ∃ k : Nat, k ≤ n ∧ i = .int .i64 k ∧ Aside0 (Kd.R k44 44 wr w.heap.size (fun _ => True) v (moreL xs (ys.take k))) ∧ Aside0 (Below w.heap.size w wr)) (fun _ i _ => n - (intOf i).toNat)
  case atStart => exact ⟨0, by omega, rfl, ⟨HR.out⟩, ⟨HB1.out⟩⟩
  case round =>
    clear HR HB1
    obtain ⟨k, hk, rfl, HO, HB⟩ := hrel
    by_cases hlt : k < n
    · have hkl : k < ys.length := by rw [HN.out]; exact hlt
      obtain ⟨bd, hA, hc0, hc1⟩ := at_T44 (Kd.C_below HY.out.1 HB.out) (k : Int) (by omega) (by rw [HN.out]; omega)
      subst hA
      have hstep := more_step xs ys k hkl
      have hml := moreL_len xs (ys.take k)
      rw [List.length_take, HM.out] at hml
      unfold rd_T44 at hc0 hc1
      rw [Int.toNat_natCast] at hc0 hc1
      obtain ⟨x, hx⟩ : ∃ x, ys.getD k z44 = x := ⟨_, rfl⟩
      rw [hx] at hc0 hc1 hstep
      obtain ⟨a, b⟩ := x
      dsimp only at hc0 hc1
      clear hx
      obtain ⟨zs, hzs⟩ : ∃ zs, moreL xs (ys.take k) = zs := ⟨_, rfl⟩
      have HO1 := HO.out
      rw [hzs] at hstep hml HO1
      have HS := hide hstep
      clear hstep hzs HO
      obtain ⟨A1, c1, rfl, hl1, _⟩ := Kd.R_reads HO1
      have k1 : (k : Int) < n := by omega
      have HO := hide HO1
      clear HO1
      go_wp2_with fail
      refine (find A1 c1 zs a _ ⟨Kd.C_below (Kd.R_reads' HO.out).2.2 (below_alloc (Below.refl _ _) _), hl1⟩).mono ?_
      rintro e w2 ⟨rfl, hb2⟩
      have hx0 : w2.cell? ⟨wr.heap.size, 0, none⟩ = some (.string a) := by
        rw [hb2.cell (p := ⟨wr.heap.size, 0, none⟩) (by simp), cell_of_row _ _ 0 _ 44 (0, 0) (heap_alloc_new _ _)]; rfl
      have hx1 : w2.cell? ⟨wr.heap.size, 1, none⟩ = some (.string b) := by
        rw [hb2.cell (p := ⟨wr.heap.size, 1, none⟩) (by simp), cell_of_row _ _ 1 _ 44 (0, 0) (heap_alloc_new _ _)]; rfl
      have hb3 : Below wr.heap.size wr w2 := below_step (below_alloc (Below.refl _ _) _) hb2
      have HO2 := hide (Kd.R_below HO.out hb3)
      have HB2 := hide (below_step HB.out hb3)
      clear hb2 hb3 HO
      obtain ⟨q, hq⟩ : ∃ q, fnd zs a = q := ⟨_, rfl⟩
      have HS2 := HS.out
      unfold addL at HS2
      dsimp only at HS2
      rw [hq] at HS2
      rw [hq]
      clear hq HS
      by_cases hneg : q < 0
      · rw [if_pos hneg] at HS2
        have HS := hide HS2
        clear HS2
        have hbase := HB2.out.size
        dsimp only
        go_wp2_with (at_builtin; refine Kd.R_append k44 (w0 := w) w.heap.size rfl (.tmp 21) (.tmp 23) 22 44 _ 32 rfl Try.underlying22 info44 rfl (by decide) (by decide) _ zs ⟨a, b⟩ [.string a, .string b] (fun _ => True) (fun _ => False) rfl rfl (k44_mkM _ _ _ _) (fun k hk => hk.elim) (fun _ _ => trivial) HO2.out HB2.out hbase (by omega) ?_; intro v1 w3 ho hb hg hown; have HO3 := hide ho; have HB3 := hide hb; clear ho hb hg hown)
        go_roundw
        case rel => exact ⟨k + 1, by omega, by go_num, ⟨by rw [HS.out]; exact HO3.out⟩, ⟨HB3.out⟩⟩
        case measure => simp only [intOf]; omega
      · rw [if_neg hneg] at HS2
        have HS := hide HS2
        clear HS2
        dsimp only
        go_wp2_with fail
        go_roundw
        case rel => exact ⟨k + 1, by omega, by go_num, ⟨by rw [HS.out]; exact HO2.out⟩, ⟨HB2.out⟩⟩
        case measure => simp only [intOf]; omega
    · have hke : ys.take k = ys := List.take_of_length_le (by rw [HN.out]; omega)
      have HO1 := HO.out
      rw [hke] at HO1
      have HO2 := hide HO1
      clear HO1 hke HO
      go_wp2_with fail
      go_ret
      exact ⟨_, rfl, HO2.out, HB.out⟩

theorem unique (A : Option Addr) (c : Nat) (xs : List S44) (w : World) (h : Rds w A c xs) (hn : xs.length * 32 ≤ 140737488351232) :
    Calls Try.prog 32 #[.slice A xs.length c] w (RowPost (moreL [] xs) w) := by
  have H := hide h
  clear h
  go_enter Try.func32, Try.ntmps32
  go_wp2_with fail
  refine (more none A 0 c [] xs _ ⟨⟨rfl, by simp, fun h => absurd h (by simp)⟩, Nat.le_refl _⟩ H.out (by simpa using hn)).mono ?_
  rintro e w1 ⟨v, rfl, hR, hb1⟩
  have HR := hide hR
  have HB := hide hb1
  clear hR hb1
  dsimp only
  go_wp2_with fail
  go_ret
  exact ⟨_, rfl, HR.out, HB.out⟩

end Go.Proofs.Ytpofjfnlchpmbaa.Ctx

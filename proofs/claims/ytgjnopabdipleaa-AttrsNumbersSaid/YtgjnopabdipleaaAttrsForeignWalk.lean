/- The walks of attrs.Add, Foreign. -/
import Derived.Test.YtgjnopabdipleaaAttrsMoreWalk
import Derived.Test.YtgjnopabdipleaaPAttrsTellsx2
import Derived.Test.YtgjnopabdipleaaPAttrsTellsx3
import Derived.Test.YtgjnopabdipleaaPAttrsTellsx4
namespace Go.Proofs.Ytgjnopabdipleaa.Attrs
open Go.RowKit Go.Proofs.Ytgjnopabdipleaa.PAttrsTells Go.Proofs.YtgjnopabdipleaaW.PrintWords Go.Proofs.YtgjnopabdipleaaW.PrintLast

set_option maxHeartbeats 1000000 in
set_option maxRecDepth 100000 in
theorem add (A : Option Addr) (c : Nat) (xs : List S29) (a b : ByteArray) (w : World) (h : Rds w A c xs) (hn : (xs.length + 1) * 32 ≤ 140737488351232) :
    Calls Try.prog 26 #[.slice A xs.length c, .agg #[.string a, .string b]] w (RowPost (addL xs ⟨a, b⟩) w) := by
  have hb0 : Below w.heap.size w (w.alloc (.cells #[.string a, .string b] 29)) := below_alloc (Below.refl _ _) _
  have HX := hide (show Rds (w.alloc (.cells #[.string a, .string b] 29)) A c xs from ⟨Kd.C_below h.1 hb0, h.2⟩)
  clear h
  obtain ⟨zs, hz⟩ : ∃ zs, addL xs ⟨a, b⟩ = zs := ⟨_, rfl⟩
  rw [hz]
  unfold addL at hz
  dsimp only at hz
  obtain ⟨q, hq⟩ : ∃ q, fnd xs a = q := ⟨_, rfl⟩
  rw [hq] at hz
  have HQ := hide hq
  clear hq
  have HB0 := hide hb0
  clear hb0
  obtain ⟨m, hxm⟩ : ∃ n, xs.length = n := ⟨_, rfl⟩
  have HM := hide hxm
  rw [hxm] at hn
  clear hxm
  have HZ := hide hz
  clear hz
  go_enter Try.func26, Try.ntmps26
  go_wp2_with fail
  refine (clone A c xs _ HX.out (by rw [HM.out]; omega)).mono ?_
  rintro e w1 ⟨v, rfl, hR, hb1⟩
  have hx0 : w1.cell? ⟨w.heap.size, 0, none⟩ = some (.string a) := by
    rw [hb1.cell (p := ⟨w.heap.size, 0, none⟩) (by simp), cell_of_row _ _ 0 _ 29 (0, 0) (heap_alloc_new _ _)]; rfl
  have HX1 := hide (show Rds w1 A c xs from ⟨Kd.C_below HX.out.1 hb1, HX.out.2⟩)
  have hb2 : Below w.heap.size w w1 := below_step HB0.out hb1
  have HR := hide (Kd.R_lower hR (by simp : w.heap.size ≤ (w.alloc (.cells #[.string a, .string b] 29)).heap.size))
  have HB1 := hide hb2
  have HBB := hide hb1
  clear hR hb1 hb2 HX HB0
  dsimp only
  go_wp2_with fail
  refine (find A c xs a _ HX1.out).mono ?_
  rw [HQ.out]
  rintro e w2 ⟨rfl, hb2⟩
  clear hx0
  have hx0 : w2.cell? ⟨w.heap.size, 0, none⟩ = some (.string a) := by
    rw [(HBB.out.trans (hb2.mono HBB.out.size)).cell (p := ⟨w.heap.size, 0, none⟩) (by simp), cell_of_row _ _ 0 _ 29 (0, 0) (heap_alloc_new _ _)]; rfl
  have hx1 : w2.cell? ⟨w.heap.size, 1, none⟩ = some (.string b) := by
    rw [(HBB.out.trans (hb2.mono HBB.out.size)).cell (p := ⟨w.heap.size, 1, none⟩) (by simp), cell_of_row _ _ 1 _ 29 (0, 0) (heap_alloc_new _ _)]; rfl
  have HO2 := hide (Kd.R_below HR.out hb2)
  have HB2 := hide (below_step HB1.out hb2)
  clear hb2 HR HB1 HBB
  have HZ1 := HZ.out
  by_cases hneg : q < 0
  · rw [if_pos hneg] at HZ1
    have HS := hide HZ1
    clear HZ1 HZ
    have hbase := HB2.out.size
    dsimp only
    go_wp2_with (at_builtin; refine Kd.R_append k29 (w0 := w) w.heap.size rfl (.tmp 13) (.tmp 15) 22 29 _ 32 rfl Try.underlying22 info29 rfl (by decide) (by decide) _ xs ⟨a, b⟩ [.string a, .string b] (fun _ => True) (fun _ => False) rfl rfl (k29_mkM _ _ _ _) (fun k hk => hk.elim) (fun _ _ => trivial) HO2.out HB2.out hbase (by rw [HM.out]; omega) ?_; intro v1 w3 ho hb hg hown; have HO3 := hide ho; have HB3 := hide hb; clear ho hb hg hown)
    go_ret
    exact ⟨_, rfl, by rw [← HS.out]; exact HO3.out, HB3.out⟩
  · rw [if_neg hneg] at HZ1
    have HS := hide HZ1
    clear HZ1 HZ
    dsimp only
    go_wp2_with fail
    go_ret
    exact ⟨_, rfl, by rw [← HS.out]; exact HO2.out, HB2.out⟩

def fx (s : ByteArray) : ByteArray := (names_Fix.f s).getD s
theorem fx_some (s : ByteArray) : names_Fix.f s = some (fx s) := by
  have : ∃ r, names_Fix.f s = some r := by
    unfold names_Fix.f
    repeat' (split <;> try exact ⟨_, rfl⟩)
  obtain ⟨r, h⟩ := this
  unfold fx
  rw [h]
  rfl
def fixA (x : S29) : S29 := ⟨fx x.f0, x.f1⟩
def foreignL (xs : List S29) : List S29 := xs.map fixA
def half (xs : List S29) (k : Nat) : List S29 := (xs.take k).map fixA ++ xs.drop k
theorem half_get (xs : List S29) (k : Nat) (h : k < xs.length) : (half xs k).getD k z29 = xs.getD k z29 := by
  unfold half
  have hl : ((xs.take k).map fixA).length = k := by simp; omega
  rw [List.getD_eq_getElem?_getD, List.getElem?_append_right (by omega), hl, Nat.sub_self, List.getElem?_drop, Nat.add_zero, List.getD_eq_getElem?_getD]
theorem half_set (xs : List S29) (k : Nat) (h : k < xs.length) : (half xs k).set k (fixA (xs.getD k z29)) = half xs (k + 1) := by
  unfold half
  have hl : ((xs.take k).map fixA).length = k := by simp; omega
  rw [List.set_append_right _ _ (by omega), hl, Nat.sub_self, List.drop_eq_getElem_cons h, List.set_cons_zero, List.take_succ_eq_append_getElem h, List.map_append, List.append_assoc, List.getD_eq_getElem?_getD, List.getElem?_eq_getElem h]
  rfl
theorem half_len (xs : List S29) (k : Nat) : (half xs k).length = xs.length := by unfold half; simp; omega
theorem half_end (xs : List S29) (k : Nat) (h : xs.length ≤ k) : half xs k = foreignL xs := by
  unfold half foreignL
  rw [List.take_of_length_le h, List.drop_of_length_le h, List.append_nil]
theorem half_zero (xs : List S29) : half xs 0 = xs := by unfold half; simp

set_option maxHeartbeats 1000000 in
set_option maxRecDepth 100000 in
theorem foreign (A : Option Addr) (c : Nat) (xs : List S29) (w : World) (h : Rds w A c xs) (hn : xs.length * 32 ≤ 140737488351232) :
    Calls Try.prog 15 #[.slice A xs.length c] w (RowPost (foreignL xs) w) := by
  have HX := hide h
  clear h
  obtain ⟨n, hxm⟩ : ∃ n, xs.length = n := ⟨_, rfl⟩
  have HN := hide hxm
  rw [hxm] at hn
  clear hxm
  go_enter Try.func15, Try.ntmps15
  go_wp2_with fail
  refine (clone A c xs _ HX.out (by rw [HN.out]; omega)).mono ?_
  rintro e w1 ⟨v, rfl, hR, hb1⟩
  have HB1 := hide hb1
  clear hb1
  by_cases h0 : n = 0
  · have hx : xs = [] := List.eq_nil_of_length_eq_zero (by rw [HN.out]; exact h0)
    subst hx
    clear h0
    obtain ⟨A1, c1, rfl, _, _⟩ := Kd.R_reads hR
    have HR := hide hR
    clear hR
    simp only [List.length_nil]
    go_wp2_with fail
    refine wp_loop_rounds 1 ?_
    rw [rounds_succ]
    go_wp2_with fail
    go_ret
    exact ⟨_, rfl, HR.out, HB1.out⟩
  · obtain ⟨g, cap, rfl, hbg, hglt, _⟩ := Kd.R_form hR (by rw [HN.out]; omega)
    have HR := hide hR
    rw [HN.out]
    clear hR h0
    dsimp only
    go_wp2_with fail
    have hnl : n ≤ 9223372036854775807 := by omega
    go_loopw [10] (fun i wr => ∃ k : Nat, k ≤ n ∧ i = .int .i64 k ∧ Aside0 (Kd.R k29 29 wr w.heap.size (fun _ => True) (.slice (some ⟨g, 0, none⟩) n cap) (half xs k)) ∧ Aside0 (Below w.heap.size w wr)) (fun i _ => n - (intOf i).toNat)
    case atStart => exact ⟨0, by omega, rfl, ⟨by rw [half_zero]; have := HR.out; rw [HN.out] at this; exact this⟩, ⟨HB1.out⟩⟩
    case round =>
      clear HR HB1
      obtain ⟨k, hk, rfl, HO, HB⟩ := hrel
      by_cases hlt : k < n
      · have hkl : k < xs.length := by rw [HN.out]; exact hlt
        obtain ⟨bd, hA, hc0, hc1⟩ := at_T29 (Kd.R_reads' HO.out).2.2 (k : Int) (by omega) (by rw [half_len, HN.out]; omega)
        cases hA
        have hset := half_set xs k hkl
        unfold rd_T29 at hc0 hc1
        rw [Int.toNat_natCast, half_get xs k hkl] at hc0 hc1
        have ea : (⟨g, 0, none⟩ : Addr).add (k * 2) = ⟨g, k * 2, none⟩ := by unfold Addr.add; split <;> simp_all
        rw [ea] at hc0 hc1
        clear ea
        obtain ⟨x, hx⟩ : ∃ x, xs.getD k z29 = x := ⟨_, rfl⟩
        rw [hx] at hc0 hc1 hset
        obtain ⟨a, b⟩ := x
        unfold fixA at hset
        dsimp only at hc0 hc1 hset
        obtain ⟨t, ht⟩ : ∃ t, fx a = t := ⟨_, rfl⟩
        have hfx := fx_some a
        rw [ht] at hset hfx
        have HF := hide hfx
        have HS := hide hset
        clear hset hx ht hfx
        have k1 : (k : Int) < n := by omega
        have hgl : g < wr.heap.size := World.block_lt_of_cell? wr _ hc0
        obtain ⟨g', cap', ev, _, _, cells, hcells⟩ := Kd.R_form HO.out (by rw [half_len, HN.out]; omega)
        injection ev with ev1 ev2 ev3
        injection ev1 with ev1
        injection ev1 with ev1
        subst ev1
        have hfz := blk_frozen hcells (k * 2)
        clear hcells ev2 ev3
        go_wp2_with (go_at_call 24; (with_reducible refine (names_Fix.calls a t _ HF.out).mono ?_); rintro e w2 ⟨rfl, ⟨nd, rfl⟩⟩; dsimp only)
        go_roundw
        case rel =>
          have hb4 : Below wr.heap.size wr ((wr.alloc (.cells #[.string a, .string b] 29)).drewN nd) := pw_below_drewN (below_alloc (Below.refl _ _) _) _
          have hO4 := Kd.R_below HO.out hb4
          obtain ⟨hrow, hg⟩ := Kd.R_seg (i := (k : Int)) (j := 0) (seg := [.string t]) (c := [.string a, .string b]) (x' := ⟨t, b⟩) (okp := fun _ => False) hO4 (by omega) (by omega) rfl (fun j u hu => by
            rw [Int.toNat_natCast]
            show ((wr.alloc (.cells #[.string a, .string b] 29)).drewN nd).cell? ⟨g, k * 2 + j, none⟩ = some u
            rw [hb4.cell (p := ⟨g, k * 2 + j, none⟩) hgl]
            match j, hu with
            | 0, hu => rw [Nat.add_zero, hc0]; exact hu
            | 1, hu => rw [hc1]; exact hu) (by show 0 + 1 ≤ 2; omega) (k29_mkM _ _ _ _) (fun k hk => hk.elim)
          exact ⟨k + 1, by omega, by go_num, ⟨by rw [← HS.out]; exact hrow⟩, ⟨(below_step HB.out hb4).setCell hbg _⟩⟩
        case measure => simp only [intOf]; omega
      · have hke : half xs k = foreignL xs := half_end xs k (by rw [HN.out]; omega)
        have HO1 := HO.out
        rw [hke] at HO1
        have HO2 := hide HO1
        clear HO1 hke HO
        go_wp2_with fail
        go_ret
        exact ⟨_, rfl, HO2.out, HB.out⟩
end Go.Proofs.Ytgjnopabdipleaa.Attrs

/- The walk of arbourlaw16.bytes: an operation as the document writes it. -/
import Derived.Test.YtbljbgjecnmeeaaDoorOpBytesR
import Derived.Deep.RegionLaw
namespace Go.Proofs.YtbljbgjecnmeeaaDoor.OpP
open Go.RowKit Go.Proofs.YtbljbgjecnmeeaaDoor.POpTells Go.Proofs.YtbljbgjecnmeeaaDoorW.PrintWords Go.Proofs.YtbljbgjecnmeeaaDoorW.PrintLast
set_option linter.unusedVariables false
set_option linter.unusedSimpArgs false
theorem Row.lit {w W : World} (hb : Below w.heap.size w W) (xs : List Int) (hl : xs.length ≤ 9223372036854775807) : Row w (.slice (some ⟨W.heap.size, 0, none⟩) xs.length xs.length) xs (W.alloc (.cells (xs.map (Value.int .u8)).toArray 5)) := by
  have h := World.ownsRow_lit (base := w.heap.size) (e := 5) (size := 1) W (xs.map (Value.int .u8)).toArray xs.length hb.size hl (by simp)
  refine ⟨_, _, rfl, Kd.R_of_own (h1 := fun _ => rfl) (ok := fun _ => True) ?_ (fun _ _ => trivial), below_step hb (below_alloc (Below.refl _ _) _)⟩
  simpa [encs] using h
theorem Row.alloc {w : World} {v : Value} {l : List Int} {wr : World} (h : Row w v l wr) (o : Obj) : Row w v l (wr.alloc o) := h.below (below_alloc (Below.refl _ _) o)
theorem o0123 {W : World} {g : Nat} {a0 a1 a2 a3 a4 a5 a6 a7 a8 : Value} (h : W.heap[g]? = some (.cells #[a0, a1, a2, a3, a4, a5, a6, a7, a8] 24 (0, 0))) : W.cell? ⟨g, 0, none⟩ = some a0 ∧ W.cell? ⟨g, 1, none⟩ = some a1 ∧ W.cell? ⟨g, 2, none⟩ = some a2 ∧ W.cell? ⟨g, 3, none⟩ = some a3 := ⟨cell_of_row _ _ 0 _ _ _ h, cell_of_row _ _ 1 _ _ _ h, cell_of_row _ _ 2 _ _ _ h, cell_of_row _ _ 3 _ _ _ h⟩
section
variable {ops : Array Oper} {o : Oper} {a : Act} {Q : Exit → Act → World → Prop} {Kc : Act → World → Prop}
/-- append(b, ys...), rows of bytes, in a drawn region. -/
theorem appB_step {w W : World} (s x : Operand) (hw : Region.wanted o (yielded ops a.tmps) = true) (ho : o.op = .call { callee := .builtin .append, args := #[s, x], argTypes := #[36, 36] }) {v : Value} {l ys : List Int} {A : Option Addr} {m c : Nat} (hs : a.eval s = v) (hx : a.eval x = .slice A m c) (hR : Row w v l W) (hC : kB.C W A m ys) (hl : l.length + m ≤ 100000000000000)
    (h : ∀ v1 w1, Row w v1 (l ++ ys) w1 → Bes W w1 → Kc (a.put o.dst v1) w1) : if Region.wanted o (yielded ops a.tmps) = true then Oper.wp Tryd.prog o a W Kc Q else Kc (a.put o.dst undef) W := by
  obtain ⟨A0, c0, rfl, hr, hb⟩ := hR
  refine Kd.R_append_rows_step kB (Rr := kB.K W) (w0 := w) w.heap.size hw s x 36 5 (.int .u8 0) 1 ho Tryd.underlying36 info5B rfl (by decide) (by decide) _ l ys A m c (fun _ => True) (fun _ => False) hs hx hr hC (fun _ _ h => h) (fun _ h => h.elim) (fun _ _ => trivial) hb hb.size (by omega) ?_
  intro v1 w1 hr1 hb1 hg _
  obtain ⟨A1, c1, rfl⟩ := Kd.R_slice hr1
  exact h _ w1 ⟨A1, c1, rfl, hr1, hb1⟩ (kept_bes hr (Kept.of_grown hg (Kept.refl W _) (fun k e => .inl e.symm)))
end
set_option maxHeartbeats 20000000 in
set_option maxRecDepth 100000 in
theorem bytes (o : S24) (A7 : Option Addr) (c7 : Nat) (w : World) (hC : k32.C w A7 o.f7.length o.f7) (hlen : (encO o).length ≤ 1000000000) :
    Calls Tryd.prog 16 #[.agg #[.int .i64 o.f0, .int .i64 o.f1, .int .i64 o.f2, .int .i64 o.f3, .int .i64 o.f4, .int .i64 o.f5, .string o.f6, .slice A7 o.f7.length c7, .string o.f8]] w (WrP w w (encO o)) := by
  obtain ⟨LL, hLL⟩ : ∃ L, encO o = L := ⟨_, rfl⟩
  rw [hLL] at hlen ⊢
  obtain ⟨o0, o1, o2, o3, o4, o5, o6, o7, o8⟩ := o
  dsimp only at hC ⊢
  have hsz : 1 + 4 + 4 + 4 + 1 + 1 + (3 + o6.size) + 2 + (o7.flatMap encA).length + (3 + o8.size) ≤ 1000000000 := by
    rw [← hLL] at hlen
    unfold encO encH at hlen
    simp only [List.length_append, be_length, txt_length] at hlen
    omega
  have HSZ := hide hsz
  have HLL := hide hLL
  have ho7 := hC.2.1
  unfold maxLen at ho7
  have HO7 := hide ho7
  have HC7 := hide hC
  have hX := heap_alloc_new w (.cells #[.int .i64 o0, .int .i64 o1, .int .i64 o2, .int .i64 o3, .int .i64 o4, .int .i64 o5, .string o6, .slice A7 o7.length c7, .string o8] 24)
  have b1 := below_alloc (Below.refl w.heap.size w) (.cells #[.int .i64 o0, .int .i64 o1, .int .i64 o2, .int .i64 o3, .int .i64 o4, .int .i64 o5, .string o6, .slice A7 o7.length c7, .string o8] 24)
  obtain ⟨w1, hw1⟩ : ∃ w1, w.alloc (.cells #[.int .i64 o0, .int .i64 o1, .int .i64 o2, .int .i64 o3, .int .i64 o4, .int .i64 o5, .string o6, .slice A7 o7.length c7, .string o8] 24) = w1 := ⟨_, rfl⟩
  rw [hw1] at hX b1
  have HO1 := hide hX
  have HB1 := hide b1
  have HW1 := hide hw1
  obtain ⟨g, hg⟩ : ∃ g, w.heap.size = g := ⟨_, rfl⟩
  rw [hg] at hX HO1
  have HG := hide hg
  have HLIT := hide (fun W (hb : Below w.heap.size w W) => (Row.lit hb [o0 % 256] (by simp) : Row w (.slice (some ⟨W.heap.size, 0, none⟩) 1 1) [o0 % 256] (W.alloc (.cells #[.int .u8 (o0 % 256)] 5))))
  have HP1 := hide (fun v W (h : Row w v [o0 % 256] W) => (show Calls Tryd.prog 35 #[v, .int .i64 o1] W (WrP w W ([o0 % 256] ++ be o1 4)) from h.four o1 (by simp)))
  have HP2 := hide (fun v W (h : Row w v ([o0 % 256] ++ be o1 4) W) => (show Calls Tryd.prog 35 #[v, .int .i64 o2] W (WrP w W ([o0 % 256] ++ be o1 4 ++ be o2 4)) from h.four o2 (by simp [be_length])))
  have HP3 := hide (fun v W (h : Row w v ([o0 % 256] ++ be o1 4 ++ be o2 4) W) => (show Calls Tryd.prog 35 #[v, .int .i64 o3] W (WrP w W ([o0 % 256] ++ be o1 4 ++ be o2 4 ++ be o3 4)) from h.four o3 (by simp [be_length])))
  have cY0 : w1.cell? ⟨g, 0, none⟩ = some (.int .i64 o0) := cell_of_row _ _ 0 _ _ _ hX
  have cY1 : w1.cell? ⟨g, 1, none⟩ = some (.int .i64 o1) := cell_of_row _ _ 1 _ _ _ hX
  have cY2 : w1.cell? ⟨g, 2, none⟩ = some (.int .i64 o2) := cell_of_row _ _ 2 _ _ _ hX
  have cY3 : w1.cell? ⟨g, 3, none⟩ = some (.int .i64 o3) := cell_of_row _ _ 3 _ _ _ hX
  have cY4 : w1.cell? ⟨g, 4, none⟩ = some (.int .i64 o4) := cell_of_row _ _ 4 _ _ _ hX
  have cY5 : w1.cell? ⟨g, 5, none⟩ = some (.int .i64 o5) := cell_of_row _ _ 5 _ _ _ hX
  have cY6 : w1.cell? ⟨g, 6, none⟩ = some (.string o6) := cell_of_row _ _ 6 _ _ _ hX
  have cY7 : w1.cell? ⟨g, 7, none⟩ = some (.slice A7 o7.length c7) := cell_of_row _ _ 7 _ _ _ hX
  have cY8 : w1.cell? ⟨g, 8, none⟩ = some (.string o8) := cell_of_row _ _ 8 _ _ _ hX
  clear hLL hlen hsz ho7 hC hX b1 hw1 hg
  go_enter Tryd.func16, Tryd.ntmps16
  go_upto_region 1 with fail
  rw [HW1.out, HG.out]
  go_cut [3] from 5 to 17 (fun v wx => Row w v ([o0 % 256] ++ be o1 4 ++ be o2 4 ++ be o3 4) wx ∧ wx.heap[g]? = some (.cells #[.int .i64 o0, .int .i64 o1, .int .i64 o2, .int .i64 o3, .int .i64 o4, .int .i64 o5, .string o6, .slice A7 o7.length c7, .string o8] 24 (0, 0)))
  case first =>
    go_region_held3 (fun W => W.cell? ⟨g, 0, none⟩ = some (.int .i64 o0) ∧ W.cell? ⟨g, 1, none⟩ = some (.int .i64 o1) ∧ W.cell? ⟨g, 2, none⟩ = some (.int .i64 o2) ∧ W.cell? ⟨g, 3, none⟩ = some (.int .i64 o3))
      (first | exact o0123 HO1.out | exact o0123 (bes_alloc _ _ g _ 24 HO1.out (by decide)) | exact o0123 hq1 | exact o0123 hq2 | exact o0123 hq3)
      (first | (go_at_call 35; (with_reducible refine (HP1.out _ _ ?_).mono ?_); (repeat (first | exact HLIT.out _ (by repeat (first | exact Below.refl _ _ | exact HB1.out | apply Below.drew | apply pw_below_drewN)) | apply Row.drew | apply Row.drewN)); rintro e wn1 ⟨v11, rfl, hr1, hs1⟩; have hq1 := hs1 g _ 24 (bes_alloc _ _ g _ 24 HO1.out (by decide)) (by decide)) | (go_at_call 35; (with_reducible refine (HP2.out _ _ ?_).mono ?_); (repeat (first | exact hr1 | apply Row.drew | apply Row.drewN)); rintro e wn2 ⟨v12, rfl, hr2, hs2⟩; have hq2 := hs2 g _ 24 hq1 (by decide)) | (go_at_call 35; (with_reducible refine (HP3.out _ _ ?_).mono ?_); (repeat (first | exact hr2 | apply Row.drew | apply Row.drewN)); rintro e wn3 ⟨v13, rfl, hr3, hs3⟩; have hq3 := hs3 g _ 24 hq2 (by decide)))
    all_goals (go_wp2_with fail; go_meet; exact ⟨hr3, hq3⟩)
  case rest =>
    obtain ⟨hr, hx⟩ := hcut
    have HR := hide hr
    have HX := hide hx
    clear HP1 HP2 HP3 HLIT HO1 HW1 cY0 cY1 cY2 cY3 cY4 cY5 cY6 cY7 cY8
    obtain ⟨L3, hL3⟩ : ∃ L, [o0 % 256] ++ be o1 4 ++ be o2 4 ++ be o3 4 = L := ⟨_, rfl⟩
    have hl3 : L3.length = 13 := by rw [← hL3]; simp [be_length]
    rw [hL3] at HR
    have HL3 := hide hL3
    obtain ⟨b3, hb3⟩ : ∃ v, u3 = v := ⟨_, rfl⟩
    rw [hb3] at HR ⊢
    have HP1 := hide (fun v W (h : Row w v (L3 ++ [o4 % 256, o5 % 256]) W) => h.rtext o6 (by have := HSZ.out; rw [List.length_append, hl3]; simp; omega))
    have HLL3 := hide hl3
    have cY0 : wc.cell? ⟨g, 0, none⟩ = some (.int .i64 o0) := cell_of_row _ _ 0 _ _ _ hx
    have cY1 : wc.cell? ⟨g, 1, none⟩ = some (.int .i64 o1) := cell_of_row _ _ 1 _ _ _ hx
    have cY2 : wc.cell? ⟨g, 2, none⟩ = some (.int .i64 o2) := cell_of_row _ _ 2 _ _ _ hx
    have cY3 : wc.cell? ⟨g, 3, none⟩ = some (.int .i64 o3) := cell_of_row _ _ 3 _ _ _ hx
    have cY4 : wc.cell? ⟨g, 4, none⟩ = some (.int .i64 o4) := cell_of_row _ _ 4 _ _ _ hx
    have cY5 : wc.cell? ⟨g, 5, none⟩ = some (.int .i64 o5) := cell_of_row _ _ 5 _ _ _ hx
    have cY6 : wc.cell? ⟨g, 6, none⟩ = some (.string o6) := cell_of_row _ _ 6 _ _ _ hx
    have cY7 : wc.cell? ⟨g, 7, none⟩ = some (.slice A7 o7.length c7) := cell_of_row _ _ 7 _ _ _ hx
    have cY8 : wc.cell? ⟨g, 8, none⟩ = some (.string o8) := cell_of_row _ _ 8 _ _ _ hx
    clear hr hx hL3 hl3 hb3
    go_upto_region 2 with fail
    go_cut [3] from 18 to 29 (fun v wx => Row w v (L3 ++ [o4 % 256, o5 % 256] ++ OpP.txt o6) wx ∧ wx.heap[g]? = some (.cells #[.int .i64 o0, .int .i64 o1, .int .i64 o2, .int .i64 o3, .int .i64 o4, .int .i64 o5, .string o6, .slice A7 o7.length c7, .string o8] 24 (0, 0)))
    case first =>
      go_region_held3 (fun W => W.cell? ⟨g, 4, none⟩ = some (.int .i64 o4) ∧ W.cell? ⟨g, 5, none⟩ = some (.int .i64 o5) ∧ W.cell? ⟨g, 6, none⟩ = some (.string o6))
        (first | exact o456 HX.out | exact o456 (bes_alloc _ _ g _ 24 HX.out (by decide)) | exact o456 hq0 | exact o456 hq1)
        (first | (refine appB_step (w := w) (.tmp 18) (.tmp 25) (by rfl) (by rfl) (l := L3) (ys := [o4 % 256, o5 % 256]) (by rfl) (by rfl) ?_ ?_ (by have := HLL3.out; omega) ?_; (repeat (first | exact HR.out | apply Row.drew | apply Row.drewN | apply Row.alloc)); (repeat (first | exact litB_C [o4 % 256, o5 % 256] (by simp) (heap_alloc_new _ _) | apply Kd.C_drew | apply Kd.C_drewN)); intro v0 wn0 hr0 hs0; have hq0 := hs0 g _ 24 (bes_alloc _ _ g _ 24 HX.out (by decide)) (by decide)) | (go_at_call 36; (with_reducible refine (HP1.out _ _ ?_).mono ?_); (repeat (first | exact hr0 | apply Row.drew | apply Row.drewN)); rintro e wn1 ⟨v11, rfl, hr1, hs1⟩; have hq1 := hs1 g _ 24 hq0 (by decide)))
      all_goals (go_wp2_with fail; go_meet; exact ⟨hr1, hq1⟩)
    case rest =>
      obtain ⟨hr, hx⟩ := hcut
      have HR2 := hide hr
      have HX2 := hide hx
      clear HP1 HR HX cY0 cY1 cY2 cY3 cY4 cY5 cY6 cY7 cY8
      obtain ⟨L4, hL4⟩ : ∃ L, L3 ++ [o4 % 256, o5 % 256] ++ OpP.txt o6 = L := ⟨_, rfl⟩
      have hl4 : L4.length = 13 + 2 + (3 + o6.size) := by rw [← hL4, List.length_append, List.length_append, HLL3.out, txt_length]; rfl
      rw [hL4] at HR2
      have HL4 := hide hL4
      have HLL4 := hide hl4
      have cY0 : wc.cell? ⟨g, 0, none⟩ = some (.int .i64 o0) := cell_of_row _ _ 0 _ _ _ hx
      have cY1 : wc.cell? ⟨g, 1, none⟩ = some (.int .i64 o1) := cell_of_row _ _ 1 _ _ _ hx
      have cY2 : wc.cell? ⟨g, 2, none⟩ = some (.int .i64 o2) := cell_of_row _ _ 2 _ _ _ hx
      have cY3 : wc.cell? ⟨g, 3, none⟩ = some (.int .i64 o3) := cell_of_row _ _ 3 _ _ _ hx
      have cY4 : wc.cell? ⟨g, 4, none⟩ = some (.int .i64 o4) := cell_of_row _ _ 4 _ _ _ hx
      have cY5 : wc.cell? ⟨g, 5, none⟩ = some (.int .i64 o5) := cell_of_row _ _ 5 _ _ _ hx
      have cY6 : wc.cell? ⟨g, 6, none⟩ = some (.string o6) := cell_of_row _ _ 6 _ _ _ hx
      have cY7 : wc.cell? ⟨g, 7, none⟩ = some (.slice A7 o7.length c7) := cell_of_row _ _ 7 _ _ _ hx
      have cY8 : wc.cell? ⟨g, 8, none⟩ = some (.string o8) := cell_of_row _ _ 8 _ _ _ hx
      have hCL := fun W => litB_C [(o7.length : Int) / 256 % 256, (o7.length : Int) % 256] (by simp) (heap_alloc_new W (.cells #[.int .u8 ((o7.length : Int) / 256 % 256), .int .u8 ((o7.length : Int) % 256)] 5))
      rw [two_eq, be_length] at hCL
      have HCL := hide hCL
      have HRA := hide (HR2.out.alloc (.cells #[.int .u8 ((o7.length : Int) / 256 % 256), .int .u8 ((o7.length : Int) % 256)] 5))
      have HXA := hide (bes_alloc _ (.cells #[.int .u8 ((o7.length : Int) / 256 % 256), .int .u8 ((o7.length : Int) % 256)] 5) g _ 24 HX2.out (by decide))
      have ho7 := HO7.out
      clear hr hx hL4 hl4 hCL
      go_wp2_with (at_builtin; refine appB (w := w) (.tmp 30) (.tmp 40) rfl rfl (l := L4) (ys := be (o7.length : Int) 2) rfl rfl HRA.out (HCL.out _) (by have := HLL4.out; have := HSZ.out; omega) ?_; intro v1 w5 hr1 hs1; have HR5 := hide hr1; have HX5 := hide (hs1 g _ 24 HXA.out (by decide)); clear hr1 hs1)
      clear cY0 cY1 cY2 cY3 cY4 cY5 cY6 cY7 cY8 HR2 HX2 HRA HXA HCL
      obtain ⟨L5, hL5⟩ : ∃ L, L4 ++ be (o7.length : Int) 2 = L := ⟨_, rfl⟩
      have hl5 : L5.length = 13 + 2 + (3 + o6.size) + 2 := by rw [← hL5, List.length_append, HLL4.out, be_length]
      rw [hL5] at HR5
      have HL5 := hide hL5
      have HLL5 := hide hl5
      clear hL5 hl5 HLL4
      go_loopw [3, 4] (fun b i wr => ∃ (bv : Value) (j : Nat), bv = b ∧ i = .int .i64 (j : Int) ∧ j ≤ o7.length ∧ Aside0 (Row w bv (L5 ++ (o7.take j).flatMap encA) wr) ∧ Aside0 (wr.heap[g]? = some (.cells #[.int .i64 o0, .int .i64 o1, .int .i64 o2, .int .i64 o3, .int .i64 o4, .int .i64 o5, .string o6, .slice A7 o7.length c7, .string o8] 24 (0, 0)))) (fun _ i _ => o7.length - (intOf i).toNat)
      case atStart => exact ⟨_, 0, rfl, rfl, Nat.zero_le _, ⟨by rw [List.take_zero, List.flatMap_nil, List.append_nil]; exact HR5.out⟩, ⟨HX5.out⟩⟩
      case round =>
        clear HR5 HX5
        obtain ⟨bv, j, rfl, rfl, hj, HRj, HOj⟩ := hrel
        have c7r := cell_of_row _ _ 7 _ _ _ HOj.out
        have c8r := cell_of_row _ _ 8 _ _ _ HOj.out
        by_cases hjl : j < o7.length
        · obtain ⟨ax, hA7, e0, e1⟩ := at_T32 HC7.out (j : Int) (by omega) (by omega)
          rw [Int.toNat_natCast] at e0 e1
          have hxx : rd_T32 o7 (j : Int) = o7[j] := by
            unfold rd_T32
            rw [Int.toNat_natCast, List.getD_eq_getElem?_getD, List.getElem?_eq_getElem hjl]
            rfl
          have hsA := encA_take o7 j hjl
          have hlA := encA_len o7 (j + 1) (by omega)
          rw [hsA, List.length_append] at hlA
          rw [hxx] at e0 e1
          obtain ⟨⟨x0, x1⟩, hx'⟩ : ∃ x, o7[j] = x := ⟨_, rfl⟩
          rw [hx'] at hsA hlA e0 e1
          dsimp only at e0 e1
          obtain ⟨LB, hLB⟩ : ∃ L, L5 ++ (o7.take j).flatMap encA = L := ⟨_, rfl⟩
          have hlb : LB.length + (3 + x0.size) + (3 + x1.size) ≤ 1000000000 := by
            have h1 := HSZ.out
            have h2 := HLL5.out
            have hex : (encA ⟨x0, x1⟩).length = (3 + x0.size) + (3 + x1.size) := by unfold encA; rw [List.length_append, txt_length, txt_length]
            rw [hex] at hlA
            rw [← hLB, List.length_append]
            omega
          have HLB := hide hlb
          have hsA2 : L5 ++ (o7.take (j + 1)).flatMap encA = LB ++ OpP.txt x0 ++ OpP.txt x1 := by
            rw [hsA, ← List.append_assoc, hLB]
            show LB ++ (OpP.txt x0 ++ OpP.txt x1) = _
            rw [List.append_assoc]
          have HSA := hide hsA2
          have HRJ := hide HRj.out
          rw [hLB] at HRJ
          have HOJ := hide HOj.out
          have HE0 := hide e0
          have HE1 := hide e1
          have f0 := cellW e0 HRJ.out.all
          have f1 := cellW e1 HRJ.out.all
          have j1 : (j : Int) < (o7.length : Int) := by omega
          have j2 : (0 : Int) ≤ (j : Int) := by omega
          have HP1 := hide (fun W (h : Row w bv LB W) => h.rtext x0 (by have := HLB.out; omega))
          have HP2 := hide (fun v W (h : Row w v (LB ++ OpP.txt x0) W) => h.rtext x1 (by have := HLB.out; rw [List.length_append, txt_length]; omega))
          subst hA7
          have hI : ∀ W, Below wr.heap.size wr W → W.cell? ⟨g, 7, none⟩ = some (.slice (some ax) o7.length c7) ∧ W.cell? (ax.add (j * 2)) = some (.string x0) ∧ W.cell? ⟨(ax.add (j * 2)).block, (ax.add (j * 2)).off + 1, none⟩ = some (.string x1) := fun W hb => ⟨cellW c7r hb, cellW f0 hb, cellW f1 hb⟩
          have hJ : ∀ W b l, Row w b l W → W.heap[g]? = some (.cells #[.int .i64 o0, .int .i64 o1, .int .i64 o2, .int .i64 o3, .int .i64 o4, .int .i64 o5, .string o6, .slice (some ax) o7.length c7, .string o8] 24 (0, 0)) → W.cell? ⟨g, 7, none⟩ = some (.slice (some ax) o7.length c7) ∧ W.cell? (ax.add (j * 2)) = some (.string x0) ∧ W.cell? ⟨(ax.add (j * 2)).block, (ax.add (j * 2)).off + 1, none⟩ = some (.string x1) := fun W b l hr hx => ⟨cell_of_row _ _ 7 _ _ _ hx, cellW HE0.out hr.all, cellW HE1.out hr.all⟩
          have HI := hide hI
          have HJ := hide hJ
          clear hxx hsA hlA hx' hlb hsA2 HRj HOj hLB e0 e1 hI hJ c8r
          go_upto_region 7 with fail
          go_region_held3 (fun W => W.cell? ⟨g, 7, none⟩ = some (.slice (some ax) o7.length c7) ∧ W.cell? (ax.add (j * 2)) = some (.string x0) ∧ W.cell? ⟨(ax.add (j * 2)).block, (ax.add (j * 2)).off + 1, none⟩ = some (.string x1))
            (first | exact HJ.out _ _ _ hr2 hq2 | exact HJ.out _ _ _ hr2.drew hq2 | exact HJ.out _ _ _ hr1 hq1 | exact HJ.out _ _ _ hr1.drew hq1 | exact HI.out _ (Below.refl _ _) | exact HI.out _ (Below.drew (Below.refl _ _)))
            (first | (go_at_call 36; (with_reducible refine (HP1.out _ ?_).mono ?_); (repeat (first | exact HRJ.out | apply Row.drew | apply Row.drewN)); rintro e wn1 ⟨v21, rfl, hr1, hs1⟩; have hq1 := hs1 g _ 24 HOJ.out (by decide)) | (go_at_call 36; (with_reducible refine (HP2.out _ _ ?_).mono ?_); (repeat (first | exact hr1 | apply Row.drew | apply Row.drewN)); rintro e wn2 ⟨v22, rfl, hr2, hs2⟩; have hq2 := hs2 g _ 24 hq1 (by decide)))
          have HRN := hide hr2
          have HXN := hide hq2
          clear hr1 hr2 hs1 hs2 hq1 hq2 HP1 HP2 HI HJ c7r f0 f1
          go_wp2_with fail
          go_roundw
          case rel => exact ⟨_, j + 1, rfl, by go_num, by omega, ⟨by rw [HSA.out]; exact HRN.out⟩, ⟨HXN.out⟩⟩
          case measure => simp only [intOf]; omega
        · have hjn : j = o7.length := by omega
          have HRE := hide HRj.out
          rw [hjn, List.take_length] at HRE
          have j1 : ¬ (j : Int) < (o7.length : Int) := by omega
          have hlE : (L5 ++ o7.flatMap encA).length + o8.size + 4 ≤ 100000000000 := by
            have h1 := HSZ.out
            have h2 := HLL5.out
            rw [List.length_append]
            omega
          have HLE := hide hlE
          have hfin : (L5 ++ o7.flatMap encA) ++ OpP.txt o8 = LL := by
            rw [← HLL.out, ← HL5.out, ← HL4.out, ← HL3.out]
            unfold encO encH
            dsimp only
            rw [one_eq, show [o4 % 256, o5 % 256] = be o4 1 ++ be o5 1 from by rw [← one_eq, ← one_eq]; rfl]
            simp only [List.append_assoc]
          have HFIN := hide hfin
          have HOJ := hide HOj.out
          have HBW := hide HRE.out.all
          clear hjn HRj HOj hlE hfin hjl hj
          go_wp2_with fail
          refine (HRE.out.rtext o8 HLE.out).mono ?_
          rintro e w12 ⟨v31, rfl, hr12, -⟩
          dsimp only
          rw [HFIN.out] at hr12
          have HR12 := hide hr12
          clear hr12
          go_wp2_with fail
          go_ret
          exact ⟨_, rfl, HR12.out, bes_below (Bes.refl w) HR12.out.all⟩
end Go.Proofs.YtbljbgjecnmeeaaDoor.OpP

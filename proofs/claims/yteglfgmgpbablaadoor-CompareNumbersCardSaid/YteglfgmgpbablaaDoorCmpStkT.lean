/- The contracts of a stack (stack.Stack) of Pt: New, Push, Pop. -/
import Derived.Test.YteglfgmgpbablaaDoorCmpBase
namespace Go.Proofs.YteglfgmgpbablaaDoor.Cmp
open Go.RowKit Go.Proofs.YteglfgmgpbablaaDoorW.PrintWords Go.Proofs.YteglfgmgpbablaaDoorW.PrintLast
theorem atPtC {w : World} {A : Option Addr} {xs : List (Option Addr)} (h : kPtr.C w A xs.length xs) (i : Nat) (x : Option Addr) (hx : xs[i]? = some x) : ∃ ad, A = some ad ∧ w.cell? (ad.add i) = some (.pointer x) := by
  have hi : i < xs.length := (List.getElem?_eq_some_iff.1 hx).1
  obtain ⟨ad, rfl, hc⟩ := h.2.2 (by omega)
  obtain ⟨cs, hl, hK, hcell⟩ := hc i _ hx
  have e : cs = [(.pointer x)] := hK
  subst e
  have h0 := hcell 0 _ rfl
  rw [show i * kPtr.sz + 0 = i from by show i * 1 + 0 = i; omega] at h0
  exact ⟨ad, rfl, h0⟩
theorem infoPt : (Tryd.prog.info? 54).map (fun i => (i.zero, i.size, i.bytes)) = some (some (.pointer none), 1, 8) := by kernel_rfl
/-- The stack: its struct in the block s, its row v; all from base on. -/
structure StkPt (base s : Nat) (v : Value) (xs : List (Option Addr)) (w : World) : Prop where
  stk : w.heap[s]? = some (.cells #[v] 89 (0, 0))
  row : kPtr.R 54 w base (fun _ => True) v xs
  bs : base ≤ s
theorem StkPt.below {base s : Nat} {v : Value} {xs : List (Option Addr)} {w w' : World} (h : StkPt base s v xs w) (hb : Below w.heap.size w w') : StkPt base s v xs w' :=
  ⟨(hb.block _ (blk_lt h.stk)).trans h.stk, Kd.R_below h.row hb, h.bs⟩
theorem StkPt.step {base s : Nat} {v : Value} {xs : List (Option Addr)} {w w' : World} (h : StkPt base s v xs w) {B : Nat} (hp : ∃ v1, Push_ w w' s v v1) (hB : B ≤ base) : Below B w w' := by
  obtain ⟨v1, hp⟩ := hp
  exact hp.below (Nat.le_trans hB h.bs) (fun k hk => Nat.le_trans hB (Kd.R_base h.row k hk)) (Nat.le_trans (Nat.le_trans hB h.bs) (Nat.le_of_lt (blk_lt h.stk)))
/-- Another block is written. -/
theorem StkPt.far {base s : Nat} {v : Value} {xs : List (Option Addr)} {w w' : World} (h : StkPt base s v xs w) (hs : w'.heap[s]? = w.heap[s]?) (hv : ∀ k, v.ownBlock = some k → w'.heap[k]? = w.heap[k]?) : StkPt base s v xs w' :=
  ⟨hs.trans h.stk, Kd.R_mono (Kd.R_step (Kd.R_tight rfl h.row) (fun k hk _ => hv k hk.symm)) (fun _ _ => trivial), h.bs⟩
set_option maxHeartbeats 4000000 in
set_option maxRecDepth 100000 in
theorem newPt (base : Nat) (w : World) (hb : base ≤ w.heap.size) : Calls Tryd.prog 39 #[] w fun e w' => e = .returned (.pointer (some ⟨w.heap.size, 0, none⟩)) ∧ StkPt base w.heap.size (.slice none 0 0) [] w' ∧ Below w.heap.size w w' := by
  go_enter Tryd.func39, Tryd.ntmps39
  go_wp2_with fail
  go_ret
  exact ⟨rfl, ⟨heap_alloc_new w _, Kd.R_nil _ _ _ _ _, hb⟩, below_alloc (Below.refl _ _) _⟩
set_option maxHeartbeats 4000000 in
set_option maxRecDepth 100000 in
theorem pushPt (base s : Nat) (v : Value) (xs : List (Option Addr)) (x : Option Addr) (w : World) (hl : StkPt base s v xs w) (hb : base ≤ w.heap.size) (hn : xs.length ≤ 1000000000) :
    Calls Tryd.prog 40 #[.pointer (some ⟨s, 0, none⟩), (.pointer x)] w fun e w' => e = .returned (.tuple #[]) ∧ ∃ v1, StkPt base s v1 (xs ++ [x]) w' ∧ Push_ w w' s v v1 := by
  obtain ⟨hs, hr, hbs⟩ := hl
  have hcv : w.cell? ⟨s, 0, none⟩ = some v := cell_of_row w s 0 _ _ _ hs
  have hsv := Kd.R_ne hr hs (by decide)
  have HR := hide hr
  have HS := hide hs
  have HSV := hide hsv
  clear hr hs hsv
  go_enter Tryd.func40, Tryd.ntmps40
  go_wp2_with (at_builtin; refine Kd.R_append kPtr (w0 := w) base rfl (.tmp 8) (.tmp 10) 87 54 (.pointer none) 8 rfl Tryd.underlying87 infoPt rfl (by decide) (by decide) v xs x [(.pointer x)] (fun _ => True) (fun _ => False) rfl rfl rfl (fun k hk => hk.elim) (fun _ _ => trivial) HR.out (Below.refl _ _) hb (by omega) ?_; intro v1 wA ho hb2 hg hown; obtain ⟨Av1, cv1, rfl⟩ := Kd.R_slice ho; have HO := hide ho; have HG := hide hg; have HW := hide hown; have hA := (hg.block s (blk_lt HS.out) HSV.out).trans HS.out; have HA := hide hA; have a2 := blk_frozen hA 0; have a3 := cell_of_row _ _ 0 _ _ _ hA; clear ho hb2 hg hown hA)
  go_end0
  have hO := HO.out
  have hW := HW.out
  simp only [List.length_append, List.length_cons, List.length_nil, Nat.zero_add] at hO hW
  refine ⟨rfl, .slice Av1 (xs.length + 1) cv1, ⟨blk_set HA.out 0 _, Kd.R_set hO HA.out (by decide) 0 _, hbs⟩, ⟨by simpa [World.setCell] using HG.out.size, fun k hk h1 h2 => (Below.heap_setCell _ _ _ _ h1).trans (HG.out.block k hk h2)⟩, HG.out.os, HG.out.tape, HG.out.output, hW⟩
theorem isPt (s i : Nat) (v : Value) (A : Option Addr) (n c : Nat) (w : World) (hv : v = .slice A n c) (hs : w.cell? ⟨s, 0, none⟩ = some v) (hi : i < n) (_hn : n ≤ 9223372036854775807) : Calls Tryd.prog 63 #[.pointer (some ⟨s, 0, none⟩), .int .i64 i] w fun e w' => e = .returned (.bool true) ∧ w' = w := by
  subst hv
  have j0 : (0 : Int) ≤ i := by omega
  have j1 : (i : Int) < n := by omega
  go_enter Tryd.func63, Tryd.ntmps63
  go_wp2_with fail
  go_ret
  exact ⟨rfl, rfl⟩
theorem isNonePt (s : Nat) (w : World) : Calls Tryd.prog 63 #[.pointer (some ⟨s, 0, none⟩), .int .i64 (-1)] w fun e w' => e = .returned (.bool false) ∧ w' = w := by
  go_enter Tryd.func63, Tryd.ntmps63
  go_wp2_with fail
  go_ret
  exact ⟨rfl, rfl⟩
set_option maxHeartbeats 4000000 in
set_option maxRecDepth 100000 in
theorem atPt (base s : Nat) (v : Value) (xs : List (Option Addr)) (w : World) (hl : StkPt base s v xs w) (i : Nat) (x : Option Addr) (hx : xs[i]? = some x) : Calls Tryd.prog 56 #[.pointer (some ⟨s, 0, none⟩), .int .i64 i] w fun e w' => e = .returned (.tuple #[(.pointer x), .bool true]) ∧ w' = w := by
  have hi : i < xs.length := (List.getElem?_eq_some_iff.1 hx).1
  have hs : w.cell? ⟨s, 0, none⟩ = some v := cell_of_row w s 0 _ _ _ hl.stk
  obtain ⟨A, c, rfl, hlc, hC⟩ := Kd.R_reads hl.row
  obtain ⟨ad, rfl, h0⟩ := atPtC hC i x hx
  have hmx := hC.2.1
  have his := isPt s i _ _ _ _ w rfl hs hi hmx
  have j0 : (0 : Int) ≤ i := by omega
  have j1 : (i : Int) < xs.length := by omega
  have HIS := hide his
  clear hC hl his hx hlc
  go_enter Tryd.func56, Tryd.ntmps56
  go_wp2_with fail
  refine HIS.out.mono ?_
  rintro e w' ⟨rfl, rfl⟩
  dsimp only
  go_wp2_with fail
  go_ret2
  exact ⟨rfl, rfl⟩
set_option maxHeartbeats 4000000 in
set_option maxRecDepth 100000 in
theorem atNonePt (s : Nat) (w : World) : Calls Tryd.prog 56 #[.pointer (some ⟨s, 0, none⟩), .int .i64 (-1)] w fun e w' => e = .returned (.tuple #[.pointer none, .bool false]) ∧ w' = w := by
  go_enter Tryd.func56, Tryd.ntmps56
  go_wp2_with fail
  refine (isNonePt s w).mono ?_
  rintro e w' ⟨rfl, rfl⟩
  dsimp only
  go_wp2_with fail
  go_ret2
  exact ⟨rfl, rfl⟩
set_option maxHeartbeats 4000000 in
set_option maxRecDepth 100000 in
theorem delPt (base g c m : Nat) (xs : List (Option Addr)) (hm : xs.length = m + 1) (hmb : m ≤ 1000000000) (w : World) (hr : kPtr.R 54 w base (fun _ => True) (.slice (some ⟨g, 0, none⟩) (m + 1) c) xs) (hb : base ≤ w.heap.size) :
    Calls Tryd.prog 57 #[.slice (some ⟨g, 0, none⟩) (m + 1) c, .int .i64 m, .int .i64 ((m : Int) + 1)] w fun e w' => e = .returned (.slice (some ⟨g, 0, none⟩) m c) ∧ kPtr.R 54 w' base (fun _ => True) (.slice (some ⟨g, 0, none⟩) m c) (xs.take m) ∧ w.grownBy w' (some g) := by
  have hcm := (Kd.R_reads' hr).2.1
  have hlt := Kd.R_lt hr g rfl
  have hbg := Kd.R_base hr g rfl
  have hce : ¬ c = m := by omega
  have hz : ∀ W, (zeroValue 54).run Tryd.prog W = .ok (.pointer none) W := fun W => by
    have h := infoPt
    obtain ⟨i0, hi, hzz⟩ := Option.map_eq_some_iff.1 h
    simp only [Prod.mk.injEq] at hzz
    simp [zeroValue, typeInfo, hi, hzz.1]
  have HR := hide (Kd.R_drewN hr 1)
  have HR1 := hide hr
  have HZ := hide hz
  have HLT := hide hlt
  have HBG := hide hbg
  clear hr hz
  go_enter Tryd.func57, Tryd.ntmps57
  obtain ⟨i1, hi1, hs1⟩ : ∃ i, Tryd.prog.info? 54 = some i ∧ i.size = 1 := by
    obtain ⟨i0, hi, hzz⟩ := Option.map_eq_some_iff.1 infoPt
    simp only [Prod.mk.injEq] at hzz
    exact ⟨i0, hi, hzz.2.1⟩
  have q1 := cut_to (P := Tryd.prog) 87 54 .i64 Tryd.underlying87 hi1 (some ⟨g, 0, none⟩) (m + 1) c (m : Int) (by omega) (by omega) hcm
  rw [Int.toNat_natCast] at q1
  have q2 := cut_from (P := Tryd.prog) 87 54 .i64 Tryd.underlying87 hi1 1 hs1 (some ⟨g, 0, none⟩) (m + 1) c ((m : Int) + 1) (by omega) (by omega)
  rw [show ((m : Int) + 1).toNat = m + 1 from by omega, Nat.sub_self] at q2
  obtain ⟨AA, hAA⟩ : ∃ AA, (if c = m + 1 then some ⟨g, 0, none⟩ else (some (⟨g, 0, none⟩ : Addr)).map (·.add ((m + 1) * 1))) = AA := ⟨_, rfl⟩
  rw [hAA] at q2
  have HAA := hide hAA
  clear hAA
  have q3 := cut_mid' (P := Tryd.prog) 87 54 .i64 .i64 Tryd.underlying87 hi1 1 hs1 (some ⟨g, 0, none⟩) m c (m : Int) ((m : Int) + 1) (by omega) (by omega) (by omega)
  rw [show ((m : Int) + 1).toNat = m + 1 from by omega, Int.toNat_natCast, if_neg hce, show m + 1 - m = 1 from by omega, Option.map_some, add0] at q3
  go_wp2_with fail
  go_region_law (first | (refine Kd.R_delete_step kPtr (w0 := w) base rfl (.tmp 22) (.tmp 25) 87 54 rfl Tryd.underlying87 (by rw [hi1, Option.map_some, hs1]; rfl) (g := g) (n := m + 1) (c := c) (k := m) (xs := xs) (ok := fun _ => True) rfl rfl HAA.out.symm (by omega) HR.out (by omega) (pw_below_drewN (Below.refl _ _) 1) hb ?_; intro w1 ho hb2 hg; have HO := hide ho; have HG := hide hg; clear ho hb2 hg))
  all_goals (
    have hO := HO.out
    rw [Nat.add_sub_cancel] at hO
    obtain ⟨hc1, hc2, hc3, hc4⟩ := R_clear kPtr hO (by omega) [.pointer none] rfl
    have hrun := fun ty => run_clear1 (P := Tryd.prog) w1 87 54 ty (.pointer none) [.pointer none] Tryd.underlying87 HZ.out (by kernel_rfl) (by simp [Value.oneCell']) g (m * 1) (c - m) hc3 hc4
    have HRUN := hide hrun
    have HC1 := hide hc1
    have HC2 := hide hc2
    clear hc1 hc2 hc3 hc4 hrun hO
    have hR0 := HRUN.out 0
    rw [Nat.mul_one] at hR0 q3
    go_wp2_with fail
    go_ret
    refine ⟨rfl, ?_, ?_⟩
    · have h := HC1.out
      rw [List.eraseIdx_eq_take_drop_succ, List.drop_eq_nil_of_le (by omega), List.append_nil] at h
      rw [show m * (kPtr : Kd (Option Addr)).sz = m from Nat.mul_one m] at h
      exact h
    · have h := HC2.out
      rw [show m * (kPtr : Kd (Option Addr)).sz = m from Nat.mul_one m] at h
      exact World.grownBy.trans (World.grownBy.trans (show w.grownBy (w.drewN 1) (some g) from ⟨rfl, rfl, rfl, Nat.le_refl _, fun _ _ _ => rfl⟩) HG.out) h)
set_option maxHeartbeats 4000000 in
set_option maxRecDepth 100000 in
theorem cutPt (base s : Nat) (v : Value) (xs : List (Option Addr)) (m : Nat) (x : Option Addr) (w : World) (hl : StkPt base s v xs w) (hm : xs.length = m + 1) (hx : xs[m]? = some x) (hmb : m ≤ 1000000000) :
    Calls Tryd.prog 51 #[.pointer (some ⟨s, 0, none⟩), .int .i64 m] w fun e w' => e = .returned (.tuple #[(.pointer x), .bool true]) ∧ ∃ v1, StkPt base s v1 (xs.take m) w' ∧ Push_ w w' s v v1 := by
  have hlw := hl
  obtain ⟨hs, hr, hbs⟩ := hl
  obtain ⟨g, c, rfl, hbg, hgl, cg, hcg⟩ := Kd.R_form hr (by omega)
  rw [hm] at hr hs hlw ⊢
  have hsg : s ≠ g := fun e => Kd.R_ne hr hs (by decide) (by rw [e]; rfl)
  have HAT := hide (atPt base s _ xs w hlw m x hx)
  have sc : w.cell? ⟨s, 0, none⟩ = _ := cell_of_row _ _ 0 _ _ _ hs
  have HR := hide hr
  have HS := hide hs
  have HML := hide hm
  have HBS := hide (Nat.le_trans hbs (Nat.le_of_lt (blk_lt hs)))
  clear hlw hx hcg hm hr hs
  go_enter Tryd.func51, Tryd.ntmps51
  go_wp2_with fail
  refine HAT.out.mono ?_
  rintro e w' ⟨rfl, rfl⟩
  dsimp only
  go_wp2_with fail
  refine (delPt base g c m xs HML.out hmb _ HR.out HBS.out).mono ?_
  rintro e w3 ⟨rfl, hr3, hg3⟩
  dsimp only
  have hs3 := (hg3.block s (blk_lt HS.out) (fun e => hsg (Option.some.inj e))).trans HS.out
  have HS3 := hide hs3
  have HR3 := hide hr3
  have HG3 := hide hg3
  have sc3 := cell_of_row _ _ 0 _ _ _ hs3
  have sf3 := blk_frozen hs3 0
  clear hs3 hr3 hg3
  go_wp2_with fail
  go_ret2
  exact ⟨rfl, .slice (some ⟨g, 0, none⟩) m c, ⟨blk_set HS3.out 0 _, Kd.R_set HR3.out HS3.out (by decide) 0 _, hbs⟩, Push_.mk' (v := .slice (some ⟨g, 0, none⟩) (m + 1) c) (v1 := .slice (some ⟨g, 0, none⟩) m c) (Below.refl _ _) HG3.out rfl _⟩
set_option maxHeartbeats 4000000 in
set_option maxRecDepth 100000 in
theorem cutNonePt (s : Nat) (w : World) : Calls Tryd.prog 51 #[.pointer (some ⟨s, 0, none⟩), .int .i64 (-1)] w fun e w' => e = .returned (.tuple #[.pointer none, .bool false]) ∧ w' = w := by
  go_enter Tryd.func51, Tryd.ntmps51
  go_wp2_with fail
  refine (atNonePt s w).mono ?_
  rintro e w' ⟨rfl, rfl⟩
  dsimp only
  go_wp2_with fail
  go_ret2
  exact ⟨rfl, rfl⟩
set_option maxHeartbeats 4000000 in
set_option maxRecDepth 100000 in
theorem popPt (base s : Nat) (v : Value) (xs : List (Option Addr)) (x : Option Addr) (w : World) (hl : StkPt base s v (xs ++ [x]) w) (hmb : xs.length ≤ 1000000000) :
    Calls Tryd.prog 41 #[.pointer (some ⟨s, 0, none⟩)] w fun e w' => e = .returned (.tuple #[(.pointer x), .bool true]) ∧ ∃ v1, StkPt base s v1 xs w' ∧ Push_ w w' s v v1 := by
  have hs : w.cell? ⟨s, 0, none⟩ = some v := cell_of_row w s 0 _ _ _ hl.stk
  have h := cutPt base s v (xs ++ [x]) xs.length x w hl (by simp) (by simp) hmb
  rw [List.take_left'] at h
  · obtain ⟨A, c, rfl, _, _⟩ := Kd.R_reads hl.row
    have el : (xs ++ [x]).length = xs.length + 1 := by simp
    rw [el] at h hs ⊢
    have HC := hide h
    clear h hl el
    generalize xs.length = n at *
    have e1 : (n : Int) + 1 - 1 = n := by omega
    go_enter Tryd.func41, Tryd.ntmps41
    go_wp2_with fail
    refine HC.out.mono ?_
    rintro e w' ⟨rfl, hp⟩
    have HP := hide hp
    clear hp
    dsimp only
    go_wp2_with fail
    go_ret2
    exact ⟨rfl, HP.out⟩
  · rfl
set_option maxHeartbeats 4000000 in
set_option maxRecDepth 100000 in
theorem popNonePt (base s : Nat) (v : Value) (w : World) (hl : StkPt base s v [] w) : Calls Tryd.prog 41 #[.pointer (some ⟨s, 0, none⟩)] w fun e w' => e = .returned (.tuple #[.pointer none, .bool false]) ∧ w' = w := by
  have hs : w.cell? ⟨s, 0, none⟩ = some v := cell_of_row w s 0 _ _ _ hl.stk
  obtain ⟨A, c, rfl, _, _⟩ := Kd.R_reads hl.row
  clear hl
  go_enter Tryd.func41, Tryd.ntmps41
  go_wp2_with fail
  refine (cutNonePt s w).mono ?_
  rintro e w' ⟨rfl, rfl⟩
  dsimp only
  go_wp2_with fail
  go_ret2
  exact ⟨rfl, rfl⟩
end Go.Proofs.YteglfgmgpbablaaDoor.Cmp

/- What tree's functions and the reference's answer to small trees; plain laws of the reference's Count, Depth, Text, Show. -/
import Derived.Test.YtaponaemgolmoaaTrRRight
import Derived.Test.YtaponaemgolmoaaTrShow
import Derived.Test.YtaponaemgolmoaaTrRShow
import Derived.Test.YtaponaemgolmoaaTrDepth
import Derived.Test.YtaponaemgolmoaaPTreeTellsx9
import Derived.Test.YtaponaemgolmoaaTrEqW
import Derived.Test.YtaponaemgolmoaaTrSame
import Derived.Test.YtaponaemgolmoaaTrGrow
namespace Go.Proofs.Ytaponaemgolmoaa.Tr
open Go.RowKit Go.Proofs.Ytaponaemgolmoaa.PTreeTells Go.Proofs.YtaponaemgolmoaaW.PrintWords Go.Proofs.YtaponaemgolmoaaW.PrintLast
set_option linter.unusedVariables false
set_option linter.unusedSimpArgs false
mutual
/-- How many nodes. -/
def cntT : S26 → Nat
  | ⟨_, _, _, _, _, k⟩ => 1 + cntK k
def cntK : List S26 → Nat
  | [] => 0
  | x :: l => cntT x + cntK l
end
theorem cntT_eq (x : S26) : cntT x = 1 + cntK x.f5 := by
  obtain ⟨a, b, c, d, e, k⟩ := x
  rw [cntT]
mutual
theorem pre_cnt : ∀ (x : S26) (d : Nat), (pre x d).length = cntT x
  | ⟨a, b, c, d', e, k⟩, d => by rw [pre, List.length_cons, preL_cnt k (d + 1), cntT]; omega
theorem preL_cnt : ∀ (l : List S26) (d : Nat), (preL l d).length = cntK l
  | [], d => by rw [preL, cntK]; rfl
  | x :: l, d => by rw [preL, List.length_append, pre_cnt x d, preL_cnt l d, cntK]
end
mutual
theorem cnt_W : ∀ x : S26, cntT x ≤ W x
  | ⟨a, b, c, d', e, k⟩ => by rw [cntT, W]; have := cntK_W k; omega
theorem cntK_W : ∀ l : List S26, cntK l ≤ WK l
  | [] => by rw [cntK, WK]; omega
  | x :: l => by rw [cntK, WK]; have := cnt_W x; have := cntK_W l; omega
end
theorem ref_count : ∀ k, (∀ t : S26, W t + 1 ≤ k → W t ≤ 1000000000 → arbourref14_Count.f k t.f0 t.f1 t.f2 t.f3 t.f4 t.f5 = some (cntT t : Int)) ∧ (∀ (acc i : Nat) (y0 y1 : Int) (y2 : ByteArray) (y3 : List S33) (y4 : ByteArray) (l : List S26), i ≤ l.length → WK (l.drop i) + 1 ≤ k → acc + WK (l.drop i) ≤ 1000000001 → l.length ≤ 1000000000 → arbourref14_Count.l0 k (acc : Int) (i : Int) y0 y1 y2 y3 y4 l = some ((acc + cntK (l.drop i) : Nat) : Int))
  | 0 => ⟨fun t h => by omega, fun _ _ _ _ _ _ _ _ _ h => by omega⟩
  | k + 1 => by
    obtain ⟨ihF, ihL⟩ := ref_count k
    refine ⟨fun t h hB => ?_, fun acc i y0 y1 y2 y3 y4 l hi h hB hl => ?_⟩
    · rw [arbourref14_Count.f]
      have hW := W_eq t
      have h5 := WK_len t.f5
      have := ihL 1 0 t.f0 t.f1 t.f2 t.f3 t.f4 t.f5 (Nat.zero_le _) (by rw [List.drop_zero]; omega) (by rw [List.drop_zero]; omega) (by omega)
      rw [List.drop_zero, ← cntT_eq] at this
      exact this
    · rw [arbourref14_Count.l0]
      by_cases hlt : i < l.length
      · have hd := rd26 l i hlt
        rw [hd, WK] at h hB
        have hc := cnt_W (rd_T26 l (i : Int))
        rw [if_pos (by omega), if_pos (by omega), ihF _ (by omega) (by omega), Option.bind_some, wrap_nat i (by omega), show wrap64 ((acc : Int) + (cntT (rd_T26 l (i : Int)) : Int)) = ((acc + cntT (rd_T26 l (i : Int)) : Nat) : Int) from by rw [IntWalk.wrap64_in _ (by omega)]; omega, ihL _ (i + 1) _ _ _ _ _ _ (by omega) (by omega) (by omega) hl, hd, cntK]
        congr 2
        omega
      · rw [if_neg (by omega), List.drop_of_length_le (by omega), cntK]
        rfl
mutual
/-- How deep a tree is. -/
def depT : S26 → Nat
  | ⟨_, _, _, _, _, k⟩ => 1 + depK k
def depK : List S26 → Nat
  | [] => 0
  | x :: l => max (depT x) (depK l)
end
theorem depT_eq (x : S26) : depT x = 1 + depK x.f5 := by
  obtain ⟨a, b, c, d, e, k⟩ := x
  rw [depT]
mutual
theorem dep_W : ∀ x : S26, depT x ≤ W x
  | ⟨a, b, c, d', e, k⟩ => by rw [depT, W]; have := depK_W k; omega
theorem depK_W : ∀ l : List S26, depK l ≤ WK l
  | [] => by rw [depK, WK]; omega
  | x :: l => by rw [depK, WK]; have := dep_W x; have := depK_W l; omega
end
def fmax (l : List (S26 × Nat)) (m : Int) : Int := l.foldl (fun m p => if m < (p.2 : Int) then (p.2 : Int) else m) m
mutual
theorem fmax_pre : ∀ (x : S26) (d m : Nat), 1 ≤ d → fmax (pre x d) (m : Int) = ((max m (d - 1 + depT x) : Nat) : Int)
  | ⟨a, b, c, d', e, k⟩, d, m, h => by
    rw [pre, depT]
    show fmax (preL k (d + 1)) (if (m : Int) < (d : Int) then (d : Int) else (m : Int)) = _
    rw [show (if (m : Int) < (d : Int) then (d : Int) else (m : Int)) = ((max m d : Nat) : Int) from by split <;> omega, fmax_preL k d (max m d) (by omega)]
    congr 1
    omega
theorem fmax_preL : ∀ (l : List S26) (d m : Nat), d ≤ m → fmax (preL l (d + 1)) (m : Int) = ((max m (d + depK l) : Nat) : Int)
  | [], d, m, h => by rw [preL, depK]; show (m : Int) = _; congr 1; omega
  | x :: l, d, m, h => by
    rw [preL, depK]
    unfold fmax
    rw [List.foldl_append]
    have h1 := fmax_pre x (d + 1) m (by omega)
    unfold fmax at h1
    rw [h1]
    have h2 := fmax_preL l d (max m (d + 1 - 1 + depT x)) (by omega)
    unfold fmax at h2
    rw [h2]
    congr 1
    omega
end
theorem deepest_dep (t : S26) : deepest (pre t 1) = (depT t : Int) := by
  have := fmax_pre t 1 0 (Nat.le_refl _)
  unfold fmax at this
  unfold deepest
  rw [show ((0 : Nat) : Int) = 0 from rfl] at this
  rw [this]
  congr 1
  omega
theorem ref_depth : ∀ k, (∀ t : S26, W t + 1 ≤ k → W t ≤ 1000000000 → arbourref14_Depth.f k t.f0 t.f1 t.f2 t.f3 t.f4 t.f5 = some (depT t : Int)) ∧ (∀ (acc i : Nat) (y0 y1 : Int) (y2 : ByteArray) (y3 : List S33) (y4 : ByteArray) (l : List S26), i ≤ l.length → WK (l.drop i) + 1 ≤ k → acc ≤ 1000000000 → WK (l.drop i) ≤ 1000000000 → l.length ≤ 1000000000 → arbourref14_Depth.l0 k (acc : Int) (i : Int) y0 y1 y2 y3 y4 l = some ((1 + max acc (depK (l.drop i)) : Nat) : Int))
  | 0 => ⟨fun t h => by omega, fun _ _ _ _ _ _ _ _ _ h => by omega⟩
  | k + 1 => by
    obtain ⟨ihF, ihL⟩ := ref_depth k
    refine ⟨fun t h hB => ?_, fun acc i y0 y1 y2 y3 y4 l hi h hB hB2 hl => ?_⟩
    · rw [arbourref14_Depth.f]
      have hW := W_eq t
      have h5 := WK_len t.f5
      have := ihL 0 0 t.f0 t.f1 t.f2 t.f3 t.f4 t.f5 (Nat.zero_le _) (by rw [List.drop_zero]; omega) (by omega) (by rw [List.drop_zero]; omega) (by omega)
      rw [List.drop_zero, Nat.zero_max, ← depT_eq] at this
      exact this
    · rw [arbourref14_Depth.l0]
      by_cases hlt : i < l.length
      · have hd := rd26 l i hlt
        rw [hd, WK] at h hB2
        have hc := dep_W (rd_T26 l (i : Int))
        rw [if_pos (by omega), if_pos (by omega), ihF _ (by omega) (by omega), Option.bind_some, wrap_nat i (by omega), hd, depK]
        by_cases hm : acc < depT (rd_T26 l (i : Int))
        · rw [if_pos (by omega), ihL _ (i + 1) _ _ _ _ _ _ (by omega) (by omega) (by omega) (by omega) hl]
          congr 2
          omega
        · rw [if_neg (by omega), ihL _ (i + 1) _ _ _ _ _ _ (by omega) (by omega) (by omega) (by omega) hl]
          congr 2
          omega
      · rw [if_neg (by omega), List.drop_of_length_le (by omega), depK, Nat.max_zero, show wrap64 ((acc : Int) + 1) = ((1 + acc : Nat) : Int) from by rw [IntWalk.wrap64_in _ (by omega)]; omega]
mutual
/-- All texts of a tree. -/
def txtT : S26 → List UInt8
  | ⟨a, _, _, _, e, k⟩ => (if a = 4 then e.data.toList else []) ++ txtK k
def txtK : List S26 → List UInt8
  | [] => []
  | x :: l => txtT x ++ txtK l
end
theorem txtT_eq (x : S26) : txtT x = (if x.f0 = 4 then x.f4.data.toList else []) ++ txtK x.f5 := by
  obtain ⟨a, b, c, d, e, k⟩ := x
  rw [txtT]
mutual
theorem pre_txt : ∀ (x : S26) (d : Nat), (pre x d).flatMap textF = txtT x
  | ⟨a, b, c, d', e, k⟩, d => by rw [pre, List.flatMap_cons, preL_txt k (d + 1), txtT]; rfl
theorem preL_txt : ∀ (l : List S26) (d : Nat), (preL l d).flatMap textF = txtK l
  | [], d => by rw [preL, txtK]; rfl
  | x :: l, d => by rw [preL, List.flatMap_append, pre_txt x d, preL_txt l d, txtK]
end
theorem ref_text : ∀ k, (∀ t : S26, 2 * W t + 2 ≤ k → W t ≤ 1000000000 → (txtT t).length ≤ 1000000000000 → ∃ r : ByteArray, arbourref14_Text.f k t.f0 t.f1 t.f2 t.f3 t.f4 t.f5 = some r ∧ bts r = txtT t) ∧ (∀ (acc : ByteArray) (i : Nat) (y0 y1 : Int) (y2 : ByteArray) (y3 : List S33) (y4 : ByteArray) (l : List S26), i ≤ l.length → 2 * WK (l.drop i) + 2 ≤ k → acc.size + (txtK (l.drop i)).length ≤ 1000000000000 → WK (l.drop i) ≤ 1000000000 → l.length ≤ 1000000000 → ∃ r : ByteArray, arbourref14_Text.l0 k acc (i : Int) y0 y1 y2 y3 y4 l = some r ∧ bts r = bts acc ++ txtK (l.drop i))
  | 0 => ⟨fun t h => by omega, fun _ _ _ _ _ _ _ _ _ h => by omega⟩
  | 1 => ⟨fun t h => by omega, fun _ _ _ _ _ _ _ _ _ h => by omega⟩
  | k + 2 => by
    obtain ⟨ihF, ihL⟩ := ref_text (k + 1)
    obtain ⟨_, ihL2⟩ := ref_text k
    refine ⟨fun t h hB hT => ?_, fun acc i y0 y1 y2 y3 y4 l hi h hT hB hl => ?_⟩
    · rw [arbourref14_Text.f]
      have hW := W_eq t
      have h5 := WK_len t.f5
      have ht := txtT_eq t
      rw [ht, List.length_append] at hT
      by_cases h4 : t.f0 = 4
      · rw [if_pos h4] at hT ht
        rw [if_pos h4, arbourref14_Text.j0]
        obtain ⟨r, hr, hb⟩ := ihL2 t.f4 0 t.f0 t.f1 t.f2 t.f3 t.f4 t.f5 (Nat.zero_le _) (by rw [List.drop_zero]; omega) (by rw [List.drop_zero, ← bts_size]; exact hT) (by rw [List.drop_zero]; omega) (by omega)
        rw [List.drop_zero] at hb
        exact ⟨r, hr, by rw [hb, ht]; rfl⟩
      · rw [if_neg h4] at hT ht
        rw [if_neg h4, arbourref14_Text.j0]
        obtain ⟨r, hr, hb⟩ := ihL2 ⟨#[]⟩ 0 t.f0 t.f1 t.f2 t.f3 t.f4 t.f5 (Nat.zero_le _) (by rw [List.drop_zero]; omega) (by rw [List.drop_zero]; exact hT) (by rw [List.drop_zero]; omega) (by omega)
        rw [List.drop_zero] at hb
        exact ⟨r, hr, by rw [hb, ht]; rfl⟩
    · rw [arbourref14_Text.l0]
      by_cases hlt : i < l.length
      · have hd := rd26 l i hlt
        rw [hd, WK] at h hB
        rw [hd, txtK, List.length_append] at hT
        obtain ⟨r, hr, hb⟩ := ihF (rd_T26 l (i : Int)) (by omega) (by omega) (by omega)
        have hrs : r.size = (txtT (rd_T26 l (i : Int))).length := by rw [← bts_size, hb]
        rw [if_pos (by omega), if_pos (by omega), hr, Option.bind_some, wrap_nat i (by omega), if_pos (by omega)]
        obtain ⟨q, hq, hqb⟩ := ihL (acc ++ r) (i + 1) y0 y1 y2 y3 y4 l (by omega) (by omega) (by rw [ByteArray.size_append]; omega) (by omega) hl
        exact ⟨q, hq, by rw [hqb, bts_app, hb, hd, txtK, List.append_assoc]⟩
      · rw [if_neg (by omega), List.drop_of_length_le (by omega), txtK]
        exact ⟨acc, rfl, by rw [List.append_nil]⟩
theorem rep_snoc (l : List UInt8) : ∀ n, Lib.repeatL l n ++ l = Lib.repeatL l (n + 1)
  | 0 => by simp [Lib.repeatL]
  | n + 1 => by
    rw [Lib.repeatL, List.append_assoc, rep_snoc l n]
    rfl
mutual
theorem pre_show : ∀ (x : S26) (d : Nat), (preL x.f5 (d + 2)).flatMap showF = showR x (Lib.repeatL [32, 32] d)
  | ⟨a, b, c, d', e, k⟩, d => by rw [showR]; exact preL_show k d
theorem preL_show : ∀ (l : List S26) (d : Nat), (preL l (d + 2)).flatMap showF = showRK l (Lib.repeatL [32, 32] d)
  | [], d => by rw [preL, showRK]; rfl
  | x :: l, d => by
    have hs : showF (x, d + 2) = Lib.repeatL [32, 32] d ++ lineL x ++ [10] := by
      unfold showF
      rw [if_pos (by show 1 < d + 2; omega)]
      rfl
    rw [preL, pre_eq, List.cons_append, List.flatMap_cons, List.flatMap_append, pre_show x (d + 1), preL_show l d, showRK, rep_snoc, hs]
    simp only [List.append_assoc]
end
theorem show_R (t : S26) : (pre t 1).flatMap showF = showR t [] := by
  rw [pre_eq, List.flatMap_cons, show showF (t, 1) = [] from rfl, List.nil_append]
  exact pre_show t 0
/-- A small tree. -/
structure Sm (t : S26) : Prop where
  w : W t ≤ 100000
  al : AL 10 t
  txt : (txtT t).length ≤ 1000000000000
  shw : (showR t []).length ≤ 1000000000000
mutual
theorem AL_mono {n m : Nat} (h : n ≤ m) : ∀ x : S26, AL n x → AL m x
  | ⟨a, b, c, d, e, k⟩, hx => by
    rw [AL] at hx ⊢
    exact ⟨Nat.le_trans hx.1 h, ALK_mono h k hx.2⟩
theorem ALK_mono {n m : Nat} (h : n ≤ m) : ∀ l : List S26, ALK n l → ALK m l
  | [], _ => by rw [ALK]; trivial
  | x :: l, hx => by
    rw [ALK] at hx ⊢
    exact ⟨AL_mono h x hx.1, ALK_mono h l hx.2⟩
end
mutual
theorem pre_mem (n : Nat) : ∀ (x : S26) (d : Nat), AL n x → ∀ p ∈ pre x d, p.1.f3.length ≤ n ∧ p.1.f5.length ≤ W x
  | ⟨a, b, c, d', e, k⟩, d, hx, p, hp => by
    rw [AL] at hx
    rw [pre] at hp
    rw [W]
    rcases List.mem_cons.1 hp with rfl | hp
    · have := WK_len k
      exact ⟨hx.1, by show k.length ≤ _; omega⟩
    · have := preL_mem n k (d + 1) hx.2 p hp
      exact ⟨this.1, by omega⟩
theorem preL_mem (n : Nat) : ∀ (l : List S26) (d : Nat), ALK n l → ∀ p ∈ preL l d, p.1.f3.length ≤ n ∧ p.1.f5.length ≤ WK l
  | [], d, _, p, hp => by rw [preL] at hp; cases hp
  | x :: l, d, hx, p, hp => by
    rw [ALK] at hx
    rw [preL] at hp
    rw [WK]
    rcases List.mem_append.1 hp with hp | hp
    · have := pre_mem n x d hx.1 p hp
      exact ⟨this.1, by omega⟩
    · have := preL_mem n l d hx.2 p hp
      exact ⟨this.1, by omega⟩
end
theorem sameA_refl : ∀ l : List S33, sameA l l = true
  | [] => rfl
  | x :: l => by rw [sameA, sameA_refl l]; simp
theorem lab_refl (a : S26) : labL a a = true := by
  unfold labL
  rw [sameA_refl]
  simp
mutual
theorem eq_refl : ∀ a : S26, eqT a a = true
  | ⟨a, b, c, d, e, k⟩ => by rw [eqT_eq, lab_refl, Bool.true_and]; exact eqK_refl k 0
theorem eqK_refl : ∀ (l : List S26) (i : Int), eqK l l i = true
  | [], i => by unfold eqK; rw [difK]; rfl
  | x :: l, i => by rw [eqK_cons, eq_refl x, eqK_refl l (i + 1)]; rfl
end
abbrev RetV (w : World) (v : Value) (e : Ending) (w' : World) : Prop := e = .returned v ∧ Below w.heap.size w w'
theorem c_right (t : S26) (v : Value) (w : World) (h : TV w v t) (s : Sm t) : Calls Try.prog 21 #[v] w (RetV w (.bool (rightB t))) := by
  obtain ⟨A3, c3, A5, c5, rfl, l3, g3, l5, g5⟩ := h
  have hc := cnt_W t
  have hw := s.w
  refine right t A3 c3 A5 c5 w l3 g3 l5 g5 (by rw [pre_cnt]; omega) (fun p hp => ?_)
  have := pre_mem 10 t 1 s.al p hp
  exact ⟨by omega, by omega⟩
theorem r_right (t : S26) (v : Value) (w : World) (h : TV w v t) (s : Sm t) : Calls Try.prog 42 #[v] w (RetV w (.bool (rightB t))) := by
  obtain ⟨A3, c3, A5, c5, rfl, l3, g3, l5, g5⟩ := h
  have hw := s.w
  exact rRight t A3 c3 A5 c5 w (by omega) s.al l3 g3 g5
theorem c_same (a b : S26) (va vb : Value) (w : World) (ha : TV w va a) (hb : TV w vb b) (s : Sm a) : Calls Try.prog 12 #[va, vb] w (RetV w (.bool (eqT a b))) := by
  obtain ⟨A3, c3, A5, c5, rfl, l3, g3, l5, g5⟩ := ha
  obtain ⟨B3, d3, B5, d5, rfl, m3, j3, m5, j5⟩ := hb
  have hw := s.w
  exact tsame 10 a b A3 c3 A5 c5 B3 d3 B5 d5 w l3 g3 l5 g5 m3 j3 m5 j5 (by omega) s.al (by omega)
theorem r_same (a b : S26) (va vb : Value) (w : World) (ha : TV w va a) (hb : TV w vb b) (s : Sm a) : Calls Try.prog 43 #[va, vb] w (RetV w (.bool (eqT a b))) :=
  eq_at (W a) a b va vb w (Nat.le_refl _) ha hb (AL_mono (by omega) a s.al)
theorem c_count (t : S26) (v : Value) (w : World) (h : TV w v t) (s : Sm t) : Calls Try.prog 11 #[v] w (RetV w (.int .i64 (cntT t : Int))) := by
  obtain ⟨A3, c3, A5, c5, rfl, l3, g3, l5, g5⟩ := h
  have hc := cnt_W t
  have hw := s.w
  have := count t A3 c3 A5 c5 w l3 g3 l5 g5 (by rw [pre_cnt]; omega)
  rw [pre_cnt] at this
  exact this
theorem r_count (t : S26) (v : Value) (w : World) (h : TV w v t) (s : Sm t) : Calls Try.prog 44 #[v] w (RetV w (.int .i64 (cntT t : Int))) := by
  obtain ⟨A3, c3, A5, c5, rfl, l3, g3, l5, g5⟩ := h
  have hw := s.w
  exact arbourref14_Count.calls (W t + 1) _ _ _ A3 c3 _ _ A5 c5 _ _ w g3 l3 g5 l5 ((ref_count _).1 t (Nat.le_refl _) (by omega))
theorem c_depth (t : S26) (v : Value) (w : World) (h : TV w v t) (s : Sm t) : Calls Try.prog 19 #[v] w (RetV w (.int .i64 (depT t : Int))) := by
  obtain ⟨A3, c3, A5, c5, rfl, l3, g3, l5, g5⟩ := h
  have hc := cnt_W t
  have hw := s.w
  have := depth t A3 c3 A5 c5 w l3 g3 l5 g5 (by rw [pre_cnt]; omega)
  rw [deepest_dep] at this
  exact this
theorem r_depth (t : S26) (v : Value) (w : World) (h : TV w v t) (s : Sm t) : Calls Try.prog 45 #[v] w (RetV w (.int .i64 (depT t : Int))) := by
  obtain ⟨A3, c3, A5, c5, rfl, l3, g3, l5, g5⟩ := h
  have hw := s.w
  exact arbourref14_Depth.calls (W t + 1) _ _ _ A3 c3 _ _ A5 c5 _ _ w g3 l3 g5 l5 ((ref_depth _).1 t (Nat.le_refl _) (by omega))
theorem c_text (t : S26) (v : Value) (w : World) (h : TV w v t) (s : Sm t) : Calls Try.prog 20 #[v] w (RetV w (.string ⟨(txtT t).toArray⟩)) := by
  obtain ⟨A3, c3, A5, c5, rfl, l3, g3, l5, g5⟩ := h
  have hc := cnt_W t
  have hw := s.w
  have := ttext t A3 c3 A5 c5 w l3 g3 l5 g5 (by rw [pre_cnt]; omega) (by rw [pre_txt]; exact s.txt)
  rw [pre_txt] at this
  exact this
theorem r_text (t : S26) (v : Value) (w : World) (h : TV w v t) (s : Sm t) : Calls Try.prog 46 #[v] w (RetV w (.string ⟨(txtT t).toArray⟩)) := by
  obtain ⟨A3, c3, A5, c5, rfl, l3, g3, l5, g5⟩ := h
  have hw := s.w
  obtain ⟨r, hr, hb⟩ := (ref_text (2 * W t + 2)).1 t (Nat.le_refl _) (by omega) s.txt
  have := arbourref14_Text.calls (2 * W t + 2) _ _ _ A3 c3 _ _ A5 c5 _ _ w g3 l3 g5 l5 hr
  rw [of_bts hb] at this
  exact this
theorem c_show (t : S26) (v : Value) (w : World) (h : TV w v t) (s : Sm t) : Calls Try.prog 10 #[v] w (RetV w (.string ⟨(showR t []).toArray⟩)) := by
  obtain ⟨A3, c3, A5, c5, rfl, l3, g3, l5, g5⟩ := h
  have hc := cnt_W t
  have hw := s.w
  have := tshow t A3 c3 A5 c5 w l3 g3 l5 g5 (by rw [pre_cnt]; omega) (by rw [show_R]; exact s.shw)
  rw [show_R] at this
  exact this
theorem r_show (t : S26) (v : Value) (w : World) (h : TV w v t) (s : Sm t) : Calls Try.prog 15 #[v] w (RetV w (.string ⟨(showR t []).toArray⟩)) := by
  obtain ⟨A3, c3, A5, c5, rfl, l3, g3, l5, g5⟩ := h
  have hw := s.w
  exact rShow t A3 c3 A5 c5 w g5 (by omega) s.shw
theorem txt_len : (∀ t : S26, AllN NdOk t → (txtT t).length ≤ 9 * W t) ∧ (∀ l : List S26, AllNK NdOk l → (txtK l).length ≤ 9 * WK l) := by
  have key : ∀ n, (∀ t : S26, W t ≤ n → AllN NdOk t → (txtT t).length ≤ 9 * W t) ∧ (∀ l : List S26, WK l ≤ n → AllNK NdOk l → (txtK l).length ≤ 9 * WK l) := by
    intro n
    induction n with
    | zero =>
      refine ⟨fun t h => by have := W_eq t; omega, fun l h hl => ?_⟩
      cases l with
      | nil => rw [txtK]; exact Nat.zero_le _
      | cons x l => rw [WK] at h; omega
    | succ n ih =>
      refine ⟨fun t h ht => ?_, fun l h hl => ?_⟩
      · have hw := W_eq t
        rw [AllN_eq] at ht
        have h1 := ih.2 t.f5 (by omega) ht.2
        have h2 : t.f4.size ≤ 9 := ht.1.2.1
        rw [txtT_eq, List.length_append]
        split
        · rw [show t.f4.data.toList.length = t.f4.size from by rw [Array.length_toList]; rfl]
          omega
        · rw [List.length_nil]; omega
      · cases l with
        | nil => rw [txtK]; exact Nat.zero_le _
        | cons x l =>
          rw [WK] at h ⊢
          rw [AllNK] at hl
          have h1 := ih.1 x (by omega) hl.1
          have h2 := ih.2 l (by omega) hl.2
          rw [txtK, List.length_append]
          omega
  exact ⟨fun t h => (key _).1 t (Nat.le_refl _) h, fun l h => (key _).2 l (Nat.le_refl _) h⟩
theorem seg_bound : ∀ l : List S33, (∀ a ∈ l, AttrOk a) → (l.flatMap segA).length ≤ 54 * l.length
  | [], _ => by simp
  | x :: l, h => by
    have h1 := h x List.mem_cons_self
    have h2 := seg_bound l (fun a ha => h a (List.mem_cons_of_mem _ ha))
    have h3 : (segA x).length = 1 + x.f0.size + 2 + x.f1.size + 1 := by unfold segA; simp only [List.length_append, bts_size]; rfl
    have := h1.1
    have := h1.2
    rw [List.flatMap_cons, List.length_append, List.length_cons]
    omega
theorem line_bound (x : S26) (h : NdOk x) : (lineL x).length ≤ 400 := by
  obtain ⟨h2, h4, h3, ha⟩ := h
  have hs := seg_bound x.f3 ha
  unfold lineL elemH
  simp only [apply_ite List.length, List.length_append, bts_size, List.length_cons, List.length_nil]
  split
  · omega
  · split
    · split <;> omega
    · split
      · omega
      · split
        · omega
        · split <;> omega
theorem lineL_bare (x : S26) : lineL x = lineL (bare x) := rfl
theorem shw_len : ∀ n, (∀ t : S26, W t ≤ n → AllN NdOk t → ∀ i : List UInt8, (showR t i).length ≤ W t * (i.length + 2 * W t + 401)) ∧ (∀ l : List S26, WK l ≤ n → AllNK NdOk l → ∀ i : List UInt8, (showRK l i).length ≤ WK l * (i.length + 2 * WK l + 401)) := by
  intro n
  induction n with
  | zero =>
    refine ⟨fun t h => by have := W_eq t; omega, fun l h hl i => ?_⟩
    cases l with
    | nil => rw [showRK]; exact Nat.zero_le _
    | cons x l => rw [WK] at h; omega
  | succ n ih =>
    refine ⟨fun t h ht i => ?_, fun l h hl i => ?_⟩
    · have hw := W_eq t
      rw [AllN_eq] at ht
      have h1 := ih.2 t.f5 (by omega) ht.2 i
      rw [showR_eq]
      exact Nat.le_trans h1 (Nat.mul_le_mul (by omega) (by omega))
    · cases l with
      | nil => rw [showRK]; exact Nat.zero_le _
      | cons x l =>
        rw [WK] at h ⊢
        rw [AllNK] at hl
        have h1 := ih.1 x (by omega) hl.1 (i ++ [32, 32])
        have h2 := ih.2 l (by omega) hl.2 i
        have hb := hl.1
        rw [AllN_eq] at hb
        have h3 := line_bound (bare x) hb.1
        rw [← lineL_bare] at h3
        rw [showRK]
        simp only [List.length_append, List.length_cons, List.length_nil] at h1 ⊢
        have e1 : W x * (i.length + (0 + 1 + 1) + 2 * W x + 401) ≤ W x * (i.length + 2 * (1 + W x + WK l) + 401) := Nat.mul_le_mul (Nat.le_refl _) (by omega)
        have e2 : WK l * (i.length + 2 * WK l + 401) ≤ WK l * (i.length + 2 * (1 + W x + WK l) + 401) := Nat.mul_le_mul (Nat.le_refl _) (by omega)
        have e3 : (1 + W x + WK l) * (i.length + 2 * (1 + W x + WK l) + 401) = (i.length + 2 * (1 + W x + WK l) + 401) + W x * (i.length + 2 * (1 + W x + WK l) + 401) + WK l * (i.length + 2 * (1 + W x + WK l) + 401) := by
          rw [Nat.add_mul, Nat.add_mul, Nat.one_mul]
        rw [e3]
        omega
/-- What is made of few small nodes is small. -/
theorem sm_of (t : S26) (h : W t ≤ 100000) (hn : AllN NdOk t) : Sm t := by
  refine ⟨h, AL_mono (n := 6) (by omega) t (AllN_AL 6 t (AllN_imp (fun x hx => hx.2.2.1) t hn)), ?_, ?_⟩
  · have := txt_len.1 t hn
    omega
  · have h1 := (shw_len (W t)).1 t (Nat.le_refl _) hn []
    have h2 : W t * (([] : List UInt8).length + 2 * W t + 401) ≤ 100000 * 300000 := Nat.mul_le_mul h (by simp only [List.length_nil]; omega)
    omega
theorem grow_sm (right : Bool) (l : List S30) : Sm (growL right l) := by
  have := grow_grown right l
  exact sm_of _ (by omega) this.2
end Go.Proofs.Ytaponaemgolmoaa.Tr

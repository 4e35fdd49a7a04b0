/- The arena's New, link, cut and text. -/
import Derived.Test.YtjebpaapkmbahaaArAdd
namespace Go.Proofs.Ytjebpaapkmbahaa.Ar
open Go.RowKit Go.Proofs.Ytjebpaapkmbahaa.PArenaPlays Go.Proofs.YtjebpaapkmbahaaW.PrintWords Go.Proofs.YtjebpaapkmbahaaW.PrintLast
set_option linter.unusedVariables false
set_option linter.unusedSimpArgs false
def docT : S35 := ⟨1, 0, ⟨#[]⟩, [], ⟨#[]⟩, []⟩
theorem new_ (w : World) : Calls Try.prog 11 #[] w fun e w' => ∃ g, e = .returned (.pointer (some ⟨g, 0, none⟩)) ∧ AS w' w.heap.size g [newN docT] false ∧ Below w.heap.size w w' := by
  have b1 := below_alloc (Below.refl w.heap.size w) (.cells #[.slice none 0 0, .bool false] 69)
  have h1 := heap_alloc_new w (.cells #[.slice none 0 0, .bool false] 69)
  have HS := hide (show AS (w.alloc (.cells #[.slice none 0 0, .bool false] 69)) w.heap.size w.heap.size [] false from ⟨_, h1, Nat.le_refl _, Kd.R_nil _ _ _ _ _⟩)
  have HA : Hid (Calls Try.prog 39 #[.pointer (some ⟨w.heap.size, 0, none⟩), .agg #[.int .i64 1, .int .i64 0, .string ⟨#[]⟩, .slice none 0 0, .string ⟨#[]⟩, .slice none 0 0]] (w.alloc (.cells #[.slice none 0 0, .bool false] 69)) fun e w' => e = .returned (.int .i64 ((0 : Nat) : Int)) ∧ AS w' w.heap.size w.heap.size [newN docT] false ∧ Fr w.heap.size TA (w.alloc (.cells #[.slice none 0 0, .bool false] 69)) w') := hide (add HS.out b1.size docT rfl (v3 := .slice none 0 0) (ok := fun _ => True) (Kd.R_nil _ _ _ _ _) (by simp))
  have HB := hide b1
  clear b1 h1
  go_enter Try.func11, Try.ntmps11
  go_wp2_with (go_at_call 39; (with_reducible refine HA.out.mono ?_); rintro e w' ⟨rfl, hA, hF⟩; have HA2 := hide hA; have HF2 := hide hF; clear hA hF)
  go_ret
  exact ⟨_, rfl, HA2.out, HB.out.trans HF2.out.below⟩
theorem AO.frS {w w0 : World} {N g gl cap : Nat} {l : List S72} {q : Bool} (h : AO w N g gl cap l q) (hf : Fr N TA w0 w) (j : Nat) (u : Value) : Fr N TA w0 (w.setCell ⟨gl, j, none⟩ u) := by
  obtain ⟨hN, cs, hc⟩ := h.blk
  exact hf.set hc (.inr rfl) hN j u
/-- A node's neighbour that is asked for. -/
def bef (l : List S72) (up : Nat) (ref : Int) : Int := if ref = -1 then (nd l up).f3 else (nd l ref.toNat).f4
def link1 (l : List S72) (up n : Nat) (ref : Int) : List S72 := if ref = -1 then l.set up (s3 (nd l up) n) else l.set ref.toNat (s4 (nd l ref.toNat) n)
def link2 (l : List S72) (up n : Nat) (b : Int) : List S72 := if b = -1 then l.set up (s2 (nd l up) n) else l.set b.toNat (s5 (nd l b.toNat) n)
def set1 (l : List S72) (n : Nat) (v : Int) : List S72 := l.set n (s1 (nd l n) v)
def set4 (l : List S72) (n : Nat) (v : Int) : List S72 := l.set n (s4 (nd l n) v)
def set5 (l : List S72) (n : Nat) (v : Int) : List S72 := l.set n (s5 (nd l n) v)
/-- A node is put under a parent, ahead of another one. -/
def linkL (l : List S72) (up n : Nat) (ref : Int) : List S72 := set5 (set4 (set1 (link2 (link1 l up n ref) up n (bef l up ref)) n up) n (bef l up ref)) n ref
theorem link1_len (l : List S72) (up n : Nat) (ref : Int) : (link1 l up n ref).length = l.length := by unfold link1; split <;> simp
theorem link2_len (l : List S72) (up n : Nat) (ref : Int) : (link2 l up n ref).length = l.length := by unfold link2; split <;> simp
theorem linkL_len (l : List S72) (up n : Nat) (ref : Int) : (linkL l up n ref).length = l.length := by
  unfold linkL set5 set4 set1
  simp [link1_len, link2_len]
/-- A number of a node, or none. -/
def Ref (l : List S72) (r : Int) : Prop := r = -1 ∨ ∃ k : Nat, r = k ∧ k < l.length
set_option maxHeartbeats 4000000 in
set_option maxRecDepth 100000 in
theorem link {w : World} {N g gl cap : Nat} {l : List S72} {q : Bool} (h : AO w N g gl cap l q) (up n : Nat) (ref : Int) (hup : up < l.length) (hn : n < l.length) (hr : Ref l ref) (hb : Ref l (bef l up ref)) :
    Calls Try.prog 41 #[.pointer (some ⟨g, 0, none⟩), .int .i64 (up : Int), .int .i64 (n : Int), .int .i64 ref] w fun e w' => e = .returned (.tuple #[]) ∧ AO w' N g gl cap (linkL l up n ref) q ∧ Fr N TA w w' := by
  obtain ⟨b, hb0⟩ : ∃ b, bef l up ref = b := ⟨_, rfl⟩
  rw [hb0] at hb
  unfold linkL
  rw [hb0]
  obtain ⟨l1, e1⟩ : ∃ x, link1 l up n ref = x := ⟨_, rfl⟩
  have n1 : l1.length = l.length := by rw [← e1, link1_len]
  rw [e1]
  obtain ⟨l2, e2⟩ : ∃ x, link2 l1 up n b = x := ⟨_, rfl⟩
  have n2 : l2.length = l.length := by rw [← e2, link2_len, n1]
  rw [e2]
  obtain ⟨l3, e3⟩ : ∃ x, set1 l2 n (up : Int) = x := ⟨_, rfl⟩
  have n3 : l3.length = l.length := by rw [← e3, set1, List.length_set, n2]
  rw [e3]
  obtain ⟨l4, e4⟩ : ∃ x, set4 l3 n b = x := ⟨_, rfl⟩
  have n4 : l4.length = l.length := by rw [← e4, set4, List.length_set, n3]
  rw [e4]
  obtain ⟨l5, e5⟩ : ∃ x, set5 l4 n ref = x := ⟨_, rfl⟩
  rw [e5]
  have hup1 : (up : Int) < (l.length : Int) := by omega
  have hn1 : (n : Int) < (l.length : Int) := by omega
  have HO := hide h
  have HF := hide (Fr.refl N TA w)
  have E3 := hide e3
  have E4 := hide e4
  have E5 := hide e5
  have M1 := hide n1
  have M2 := hide n2
  have M3 := hide n3
  have M4 := hide n4
  clear h e3 e4 e5 n1 n2 n3 n4
  rcases hr with rfl | ⟨r, rfl, hr⟩
  · rcases hb with rfl | ⟨p, rfl, hp⟩
    · unfold bef at hb0
      unfold link1 at e1
      unfold link2 at e2
      rw [if_pos rfl] at hb0 e1
      rw [if_pos rfl] at e2
      have E1 := hide e1
      have E2 := hide e2
      clear e1 e2
      have c0 := HO.out.c0
      obtain ⟨_, _, hNd, _, _⟩ := HO.out.elem up (by omega)
      have xup3 := hNd.c8
      have fup3 := HO.out.fz (up * 12 + 8)
      clear hNd
      rw [hb0] at xup3
      clear hb0
      go_enter Try.func41, Try.ntmps41
      go_upto_region 5 with fail
      clear c0 xup3 fup3
      have hA := HO.out.s3 up (by omega) (n : Int)
      have hF := HO.out.frS HF.out (up * 12 + 8) (.int .i64 (n : Int))
      obtain ⟨w1, hw⟩ : ∃ wz, w.setCell ⟨gl, up * 12 + 8, none⟩ (.int .i64 (n : Int)) = wz := ⟨_, rfl⟩
      rw [hw] at hA hF ⊢
      replace hA : AO w1 N g gl cap l1 q := by rw [← E1.out]; exact hA
      clear hw HO HF
      have HO := hide hA
      have HF := hide hF
      clear hA hF
      have m1 := M1.out
      have c0 := HO.out.c0
      obtain ⟨_, _, hNd, _, _⟩ := HO.out.elem up (by omega)
      have xup2 := hNd.c7
      have fup2 := HO.out.fz (up * 12 + 7)
      clear hNd
      rw [m1] at c0
      go_upto_region 8 with fail
      clear c0 xup2 fup2
      have hA := HO.out.s2 up (by omega) (n : Int)
      have hF := HO.out.frS HF.out (up * 12 + 7) (.int .i64 (n : Int))
      obtain ⟨w2, hw⟩ : ∃ wz, w1.setCell ⟨gl, up * 12 + 7, none⟩ (.int .i64 (n : Int)) = wz := ⟨_, rfl⟩
      rw [hw] at hA hF ⊢
      replace hA : AO w2 N g gl cap l2 q := by rw [← E2.out]; exact hA
      clear hw HO HF
      have HO := hide hA
      have HF := hide hF
      clear hA hF
      have m2 := M2.out
      have c0 := HO.out.c0
      obtain ⟨_, _, hNd, _, _⟩ := HO.out.elem n (by omega)
      have xn1 := hNd.c6
      have fn1 := HO.out.fz (n * 12 + 6)
      have xn4 := hNd.c9
      have fn4 := HO.out.fz (n * 12 + 9)
      have xn5 := hNd.c10
      have fn5 := HO.out.fz (n * 12 + 10)
      clear hNd
      rw [m2] at c0
      go_upto_region 9 with fail
      go_wp2_with fail
      go_end0
      clear c0 xn1 fn1 xn4 fn4 xn5 fn5
      have a3 : AO (w2.setCell ⟨gl, n * 12 + 6, none⟩ (.int .i64 (up : Int))) N g gl cap l3 q := by rw [← E3.out]; exact HO.out.s1 n (by omega) (up : Int)
      have a4 : AO ((w2.setCell ⟨gl, n * 12 + 6, none⟩ (.int .i64 (up : Int))).setCell ⟨gl, n * 12 + 9, none⟩ (.int .i64 (-1))) N g gl cap l4 q := by rw [← E4.out]; exact a3.s4 n (by have := M3.out; omega) (-1)
      have a5 : AO (((w2.setCell ⟨gl, n * 12 + 6, none⟩ (.int .i64 (up : Int))).setCell ⟨gl, n * 12 + 9, none⟩ (.int .i64 (-1))).setCell ⟨gl, n * 12 + 10, none⟩ (.int .i64 (-1))) N g gl cap l5 q := by rw [← E5.out]; exact a4.s5 n (by have := M4.out; omega) (-1)
      exact ⟨rfl, a5, a4.frS (a3.frS (HO.out.frS HF.out _ _) _ _) _ _⟩
    · unfold bef at hb0
      unfold link1 at e1
      unfold link2 at e2
      rw [if_pos rfl] at hb0 e1
      rw [if_neg (by omega), Int.toNat_natCast] at e2
      have hp1 : (p : Int) < (l.length : Int) := by omega
      have hpm : ((p : Int) == -1) = false := by rw [beq_eq_false_iff_ne]; omega
      have hpm2 : ((p : Int) != -1) = true := by rw [bne_iff_ne]; omega
      have E1 := hide e1
      have E2 := hide e2
      clear e1 e2
      have c0 := HO.out.c0
      obtain ⟨_, _, hNd, _, _⟩ := HO.out.elem up (by omega)
      have xup3 := hNd.c8
      have fup3 := HO.out.fz (up * 12 + 8)
      clear hNd
      rw [hb0] at xup3
      clear hb0
      go_enter Try.func41, Try.ntmps41
      go_upto_region 5 with fail
      clear c0 xup3 fup3
      have hA := HO.out.s3 up (by omega) (n : Int)
      have hF := HO.out.frS HF.out (up * 12 + 8) (.int .i64 (n : Int))
      obtain ⟨w1, hw⟩ : ∃ wz, w.setCell ⟨gl, up * 12 + 8, none⟩ (.int .i64 (n : Int)) = wz := ⟨_, rfl⟩
      rw [hw] at hA hF ⊢
      replace hA : AO w1 N g gl cap l1 q := by rw [← E1.out]; exact hA
      clear hw HO HF
      have HO := hide hA
      have HF := hide hF
      clear hA hF
      have m1 := M1.out
      have c0 := HO.out.c0
      obtain ⟨_, _, hNd, _, _⟩ := HO.out.elem p (by omega)
      have xp5 := hNd.c10
      have fp5 := HO.out.fz (p * 12 + 10)
      clear hNd
      rw [m1] at c0
      go_upto_region 8 with fail
      clear c0 xp5 fp5
      have hA := HO.out.s5 p (by omega) (n : Int)
      have hF := HO.out.frS HF.out (p * 12 + 10) (.int .i64 (n : Int))
      obtain ⟨w2, hw⟩ : ∃ wz, w1.setCell ⟨gl, p * 12 + 10, none⟩ (.int .i64 (n : Int)) = wz := ⟨_, rfl⟩
      rw [hw] at hA hF ⊢
      replace hA : AO w2 N g gl cap l2 q := by rw [← E2.out]; exact hA
      clear hw HO HF
      have HO := hide hA
      have HF := hide hF
      clear hA hF
      have m2 := M2.out
      have c0 := HO.out.c0
      obtain ⟨_, _, hNd, _, _⟩ := HO.out.elem n (by omega)
      have xn1 := hNd.c6
      have fn1 := HO.out.fz (n * 12 + 6)
      have xn4 := hNd.c9
      have fn4 := HO.out.fz (n * 12 + 9)
      have xn5 := hNd.c10
      have fn5 := HO.out.fz (n * 12 + 10)
      clear hNd
      rw [m2] at c0
      go_upto_region 9 with fail
      go_wp2_with fail
      go_end0
      clear c0 xn1 fn1 xn4 fn4 xn5 fn5
      have a3 : AO (w2.setCell ⟨gl, n * 12 + 6, none⟩ (.int .i64 (up : Int))) N g gl cap l3 q := by rw [← E3.out]; exact HO.out.s1 n (by omega) (up : Int)
      have a4 : AO ((w2.setCell ⟨gl, n * 12 + 6, none⟩ (.int .i64 (up : Int))).setCell ⟨gl, n * 12 + 9, none⟩ (.int .i64 (p : Int))) N g gl cap l4 q := by rw [← E4.out]; exact a3.s4 n (by have := M3.out; omega) (p : Int)
      have a5 : AO (((w2.setCell ⟨gl, n * 12 + 6, none⟩ (.int .i64 (up : Int))).setCell ⟨gl, n * 12 + 9, none⟩ (.int .i64 (p : Int))).setCell ⟨gl, n * 12 + 10, none⟩ (.int .i64 (-1))) N g gl cap l5 q := by rw [← E5.out]; exact a4.s5 n (by have := M4.out; omega) (-1)
      exact ⟨rfl, a5, a4.frS (a3.frS (HO.out.frS HF.out _ _) _ _) _ _⟩
  · have hr1 : (r : Int) < (l.length : Int) := by omega
    have hrm : ((r : Int) == -1) = false := by rw [beq_eq_false_iff_ne]; omega
    have hrm2 : ((r : Int) != -1) = true := by rw [bne_iff_ne]; omega
    rcases hb with rfl | ⟨p, rfl, hp⟩
    · unfold bef at hb0
      unfold link1 at e1
      unfold link2 at e2
      rw [if_neg (by omega), Int.toNat_natCast] at hb0 e1
      rw [if_pos rfl] at e2
      have E1 := hide e1
      have E2 := hide e2
      clear e1 e2
      have c0 := HO.out.c0
      obtain ⟨_, _, hNd, _, _⟩ := HO.out.elem up (by omega)
      have xup3 := hNd.c8
      have fup3 := HO.out.fz (up * 12 + 8)
      clear hNd
      obtain ⟨_, _, hNd, _, _⟩ := HO.out.elem r (by omega)
      have xr4 := hNd.c9
      have fr4 := HO.out.fz (r * 12 + 9)
      clear hNd
      rw [hb0] at xr4
      clear hb0
      go_enter Try.func41, Try.ntmps41
      go_upto_region 5 with fail
      clear c0 xup3 fup3 xr4 fr4
      have hA := HO.out.s4 r (by omega) (n : Int)
      have hF := HO.out.frS HF.out (r * 12 + 9) (.int .i64 (n : Int))
      obtain ⟨w1, hw⟩ : ∃ wz, w.setCell ⟨gl, r * 12 + 9, none⟩ (.int .i64 (n : Int)) = wz := ⟨_, rfl⟩
      rw [hw] at hA hF ⊢
      replace hA : AO w1 N g gl cap l1 q := by rw [← E1.out]; exact hA
      clear hw HO HF
      have HO := hide hA
      have HF := hide hF
      clear hA hF
      have m1 := M1.out
      have c0 := HO.out.c0
      obtain ⟨_, _, hNd, _, _⟩ := HO.out.elem up (by omega)
      have xup2 := hNd.c7
      have fup2 := HO.out.fz (up * 12 + 7)
      clear hNd
      rw [m1] at c0
      go_upto_region 8 with fail
      clear c0 xup2 fup2
      have hA := HO.out.s2 up (by omega) (n : Int)
      have hF := HO.out.frS HF.out (up * 12 + 7) (.int .i64 (n : Int))
      obtain ⟨w2, hw⟩ : ∃ wz, w1.setCell ⟨gl, up * 12 + 7, none⟩ (.int .i64 (n : Int)) = wz := ⟨_, rfl⟩
      rw [hw] at hA hF ⊢
      replace hA : AO w2 N g gl cap l2 q := by rw [← E2.out]; exact hA
      clear hw HO HF
      have HO := hide hA
      have HF := hide hF
      clear hA hF
      have m2 := M2.out
      have c0 := HO.out.c0
      obtain ⟨_, _, hNd, _, _⟩ := HO.out.elem n (by omega)
      have xn1 := hNd.c6
      have fn1 := HO.out.fz (n * 12 + 6)
      have xn4 := hNd.c9
      have fn4 := HO.out.fz (n * 12 + 9)
      have xn5 := hNd.c10
      have fn5 := HO.out.fz (n * 12 + 10)
      clear hNd
      rw [m2] at c0
      go_upto_region 9 with fail
      go_wp2_with fail
      go_end0
      clear c0 xn1 fn1 xn4 fn4 xn5 fn5
      have a3 : AO (w2.setCell ⟨gl, n * 12 + 6, none⟩ (.int .i64 (up : Int))) N g gl cap l3 q := by rw [← E3.out]; exact HO.out.s1 n (by omega) (up : Int)
      have a4 : AO ((w2.setCell ⟨gl, n * 12 + 6, none⟩ (.int .i64 (up : Int))).setCell ⟨gl, n * 12 + 9, none⟩ (.int .i64 (-1))) N g gl cap l4 q := by rw [← E4.out]; exact a3.s4 n (by have := M3.out; omega) (-1)
      have a5 : AO (((w2.setCell ⟨gl, n * 12 + 6, none⟩ (.int .i64 (up : Int))).setCell ⟨gl, n * 12 + 9, none⟩ (.int .i64 (-1))).setCell ⟨gl, n * 12 + 10, none⟩ (.int .i64 (r : Int))) N g gl cap l5 q := by rw [← E5.out]; exact a4.s5 n (by have := M4.out; omega) (r : Int)
      exact ⟨rfl, a5, a4.frS (a3.frS (HO.out.frS HF.out _ _) _ _) _ _⟩
    · unfold bef at hb0
      unfold link1 at e1
      unfold link2 at e2
      rw [if_neg (by omega), Int.toNat_natCast] at hb0 e1
      rw [if_neg (by omega), Int.toNat_natCast] at e2
      have hp1 : (p : Int) < (l.length : Int) := by omega
      have hpm : ((p : Int) == -1) = false := by rw [beq_eq_false_iff_ne]; omega
      have hpm2 : ((p : Int) != -1) = true := by rw [bne_iff_ne]; omega
      have E1 := hide e1
      have E2 := hide e2
      clear e1 e2
      have c0 := HO.out.c0
      obtain ⟨_, _, hNd, _, _⟩ := HO.out.elem up (by omega)
      have xup3 := hNd.c8
      have fup3 := HO.out.fz (up * 12 + 8)
      clear hNd
      obtain ⟨_, _, hNd, _, _⟩ := HO.out.elem r (by omega)
      have xr4 := hNd.c9
      have fr4 := HO.out.fz (r * 12 + 9)
      clear hNd
      rw [hb0] at xr4
      clear hb0
      go_enter Try.func41, Try.ntmps41
      go_upto_region 5 with fail
      clear c0 xup3 fup3 xr4 fr4
      have hA := HO.out.s4 r (by omega) (n : Int)
      have hF := HO.out.frS HF.out (r * 12 + 9) (.int .i64 (n : Int))
      obtain ⟨w1, hw⟩ : ∃ wz, w.setCell ⟨gl, r * 12 + 9, none⟩ (.int .i64 (n : Int)) = wz := ⟨_, rfl⟩
      rw [hw] at hA hF ⊢
      replace hA : AO w1 N g gl cap l1 q := by rw [← E1.out]; exact hA
      clear hw HO HF
      have HO := hide hA
      have HF := hide hF
      clear hA hF
      have m1 := M1.out
      have c0 := HO.out.c0
      obtain ⟨_, _, hNd, _, _⟩ := HO.out.elem p (by omega)
      have xp5 := hNd.c10
      have fp5 := HO.out.fz (p * 12 + 10)
      clear hNd
      rw [m1] at c0
      go_upto_region 8 with fail
      clear c0 xp5 fp5
      have hA := HO.out.s5 p (by omega) (n : Int)
      have hF := HO.out.frS HF.out (p * 12 + 10) (.int .i64 (n : Int))
      obtain ⟨w2, hw⟩ : ∃ wz, w1.setCell ⟨gl, p * 12 + 10, none⟩ (.int .i64 (n : Int)) = wz := ⟨_, rfl⟩
      rw [hw] at hA hF ⊢
      replace hA : AO w2 N g gl cap l2 q := by rw [← E2.out]; exact hA
      clear hw HO HF
      have HO := hide hA
      have HF := hide hF
      clear hA hF
      have m2 := M2.out
      have c0 := HO.out.c0
      obtain ⟨_, _, hNd, _, _⟩ := HO.out.elem n (by omega)
      have xn1 := hNd.c6
      have fn1 := HO.out.fz (n * 12 + 6)
      have xn4 := hNd.c9
      have fn4 := HO.out.fz (n * 12 + 9)
      have xn5 := hNd.c10
      have fn5 := HO.out.fz (n * 12 + 10)
      clear hNd
      rw [m2] at c0
      go_upto_region 9 with fail
      go_wp2_with fail
      go_end0
      clear c0 xn1 fn1 xn4 fn4 xn5 fn5
      have a3 : AO (w2.setCell ⟨gl, n * 12 + 6, none⟩ (.int .i64 (up : Int))) N g gl cap l3 q := by rw [← E3.out]; exact HO.out.s1 n (by omega) (up : Int)
      have a4 : AO ((w2.setCell ⟨gl, n * 12 + 6, none⟩ (.int .i64 (up : Int))).setCell ⟨gl, n * 12 + 9, none⟩ (.int .i64 (p : Int))) N g gl cap l4 q := by rw [← E4.out]; exact a3.s4 n (by have := M3.out; omega) (p : Int)
      have a5 : AO (((w2.setCell ⟨gl, n * 12 + 6, none⟩ (.int .i64 (up : Int))).setCell ⟨gl, n * 12 + 9, none⟩ (.int .i64 (p : Int))).setCell ⟨gl, n * 12 + 10, none⟩ (.int .i64 (r : Int))) N g gl cap l5 q := by rw [← E5.out]; exact a4.s5 n (by have := M4.out; omega) (r : Int)
      exact ⟨rfl, a5, a4.frS (a3.frS (HO.out.frS HF.out _ _) _ _) _ _⟩
def cut1 (l : List S72) (u : Nat) (b h : Int) : List S72 := if b = -1 then l.set u (s2 (nd l u) h) else l.set b.toNat (s5 (nd l b.toNat) h)
def cut2 (l : List S72) (u : Nat) (b h : Int) : List S72 := if h = -1 then l.set u (s3 (nd l u) b) else l.set h.toNat (s4 (nd l h.toNat) b)
/-- A node is taken from its parent. -/
def cutL (l : List S72) (n : Nat) : List S72 := if (nd l n).f1 = -1 then l else set5 (set4 (set1 (cut2 (cut1 l (nd l n).f1.toNat (nd l n).f4 (nd l n).f5) (nd l n).f1.toNat (nd l n).f4 (nd l n).f5) n (-1)) n (-1)) n (-1)
theorem cut1_len (l : List S72) (u : Nat) (b h : Int) : (cut1 l u b h).length = l.length := by unfold cut1; split <;> simp
theorem cut2_len (l : List S72) (u : Nat) (b h : Int) : (cut2 l u b h).length = l.length := by unfold cut2; split <;> simp
theorem cutL_len (l : List S72) (n : Nat) : (cutL l n).length = l.length := by
  unfold cutL set5 set4 set1
  split <;> simp [cut1_len, cut2_len]
theorem cut_no {w : World} {N g gl cap : Nat} {l : List S72} {q : Bool} (h : AO w N g gl cap l q) (n : Nat) (hn : n < l.length) (hu : (nd l n).f1 = -1) :
    Calls Try.prog 62 #[.pointer (some ⟨g, 0, none⟩), .int .i64 (n : Int)] w fun e w' => e = .returned (.tuple #[]) ∧ w = w' := by
  obtain ⟨v3, v5, hNd, _, _⟩ := h.elem n hn
  have c0 := h.c0
  have x6 := hNd.c6
  rw [hu] at x6
  have hn1 : (n : Int) < (l.length : Int) := by omega
  clear h hNd hu hn
  go_enter Try.func62, Try.ntmps62
  go_wp2
  exact bodyPost_ret (results_none rfl _ _ _) rfl ⟨rfl, rfl⟩
set_option maxHeartbeats 8000000 in
set_option maxRecDepth 100000 in
theorem cut {w : World} {N g gl cap : Nat} {l : List S72} {q : Bool} (h : AO w N g gl cap l q) (hNw : N ≤ w.heap.size) (n u : Nat) (hn : n < l.length) (hu : (nd l n).f1 = (u : Int)) (hul : u < l.length) (hun : u ≠ n) (hb : Ref l (nd l n).f4) (hbn : (nd l n).f4 ≠ (n : Int)) (hh : Ref l (nd l n).f5) :
    Calls Try.prog 62 #[.pointer (some ⟨g, 0, none⟩), .int .i64 (n : Int)] w fun e w' => e = .returned (.tuple #[]) ∧ AO w' N g gl cap (cutL l n) q ∧ Fr N TA w w' := by
  unfold cutL
  rw [if_neg (by omega), hu, Int.toNat_natCast]
  obtain ⟨b, hb0⟩ : ∃ b, (nd l n).f4 = b := ⟨_, rfl⟩
  obtain ⟨c, hc0⟩ : ∃ c, (nd l n).f5 = c := ⟨_, rfl⟩
  rw [hb0] at hb hbn
  rw [hc0] at hh
  rw [hb0, hc0]
  obtain ⟨l1, e1⟩ : ∃ x, cut1 l u b c = x := ⟨_, rfl⟩
  have n1 : l1.length = l.length := by rw [← e1, cut1_len]
  have s1' : nd l1 n = nd l n := by
    rw [← e1]
    unfold cut1
    rcases hb with rfl | ⟨p, rfl, hp⟩
    · rw [if_pos rfl, nd_set _ hul, if_neg (fun e => hun e.symm)]
    · rw [if_neg (by omega), Int.toNat_natCast, nd_set _ hp, if_neg (fun e => hbn (by rw [e]))]
  have m4 : (nd l1 n).f4 = b := by rw [s1', hb0]
  have m5 : (nd l1 n).f5 = c := by rw [s1', hc0]
  have m1 : (nd l1 n).f1 = (u : Int) := by rw [s1', hu]
  rw [e1]
  obtain ⟨l2, e2⟩ : ∃ x, cut2 l1 u b c = x := ⟨_, rfl⟩
  have n2 : l2.length = l.length := by rw [← e2, cut2_len, n1]
  rw [e2]
  obtain ⟨l3, e3⟩ : ∃ x, set1 l2 n (-1) = x := ⟨_, rfl⟩
  have n3 : l3.length = l.length := by rw [← e3, set1, List.length_set, n2]
  rw [e3]
  obtain ⟨l4, e4⟩ : ∃ x, set4 l3 n (-1) = x := ⟨_, rfl⟩
  have n4 : l4.length = l.length := by rw [← e4, set4, List.length_set, n3]
  rw [e4]
  obtain ⟨l5, e5⟩ : ∃ x, set5 l4 n (-1) = x := ⟨_, rfl⟩
  rw [e5]
  have hu1 : (u : Int) < (l.length : Int) := by omega
  have hn1 : (n : Int) < (l.length : Int) := by omega
  have hum : ((u : Int) == -1) = false := by rw [beq_eq_false_iff_ne]; omega
  have hum2 : ((u : Int) != -1) = true := by rw [bne_iff_ne]; omega
  have HO := hide h
  have HF := hide (Fr.refl N TA w)
  have E3 := hide e3
  have E4 := hide e4
  have E5 := hide e5
  have M1 := hide n1
  have M2 := hide n2
  have M3 := hide n3
  have M4 := hide n4
  have HNw := hide hNw
  have S1 := hide m1
  have S4 := hide m4
  have S5 := hide m5
  clear h e3 e4 e5 n1 n2 n3 n4 m1 m4 m5 s1' hbn hNw
  rcases hh with rfl | ⟨r, rfl, hr⟩
  · rcases hb with rfl | ⟨p, rfl, hp⟩
    · unfold cut1 at e1
      unfold cut2 at e2
      rw [if_pos rfl] at e1
      rw [if_pos rfl] at e2
      have E1 := hide e1
      have E2 := hide e2
      clear e1 e2
      have c0 := HO.out.c0
      obtain ⟨_, _, hNd, _, _⟩ := HO.out.elem n (by omega)
      have xn1 := hNd.c6
      have fn1 := HO.out.fz (n * 12 + 6)
      have xn4 := hNd.c9
      have fn4 := HO.out.fz (n * 12 + 9)
      have xn5 := hNd.c10
      have fn5 := HO.out.fz (n * 12 + 10)
      clear hNd
      obtain ⟨_, _, hNd, _, _⟩ := HO.out.elem u (by omega)
      have xu2 := hNd.c7
      have fu2 := HO.out.fz (u * 12 + 7)
      clear hNd
      rw [hu] at xn1
      rw [hb0] at xn4
      rw [hc0] at xn5
      clear hb0 hc0 hu
      go_enter Try.func62, Try.ntmps62
      go_upto_region 4 with fail
      go_region
      go_upto_region 5 with fail
      clear c0 xn1 fn1 xn4 fn4 xn5 fn5 xu2 fu2
      have hA := (HO.out.s2 u (by omega) (-1)).below (below_drew (Below.refl _ _))
      have hF := (HO.out.frS HF.out (u * 12 + 7) (.int .i64 (-1))).then_ (below_drew (Below.refl _ _)) HNw.out
      obtain ⟨w1, hw⟩ : ∃ wz, (w.setCell ⟨gl, u * 12 + 7, none⟩ (.int .i64 (-1))).drew = wz := ⟨_, rfl⟩
      rw [hw] at hA hF ⊢
      replace hA : AO w1 N g gl cap l1 q := by rw [← E1.out]; exact hA
      clear hw HO HF
      have HO := hide hA
      have HF := hide hF
      clear hA hF
      have m1 := M1.out
      have c0 := HO.out.c0
      obtain ⟨_, _, hNd, _, _⟩ := HO.out.elem n (by omega)
      have xn1 := hNd.c6
      have fn1 := HO.out.fz (n * 12 + 6)
      have xn4 := hNd.c9
      have fn4 := HO.out.fz (n * 12 + 9)
      have xn5 := hNd.c10
      have fn5 := HO.out.fz (n * 12 + 10)
      clear hNd
      obtain ⟨_, _, hNd, _, _⟩ := HO.out.elem u (by omega)
      have xu3 := hNd.c8
      have fu3 := HO.out.fz (u * 12 + 8)
      clear hNd
      rw [m1] at c0
      rw [S1.out] at xn1
      rw [S4.out] at xn4
      rw [S5.out] at xn5
      go_upto_region 7 with fail
      go_region
      go_upto_region 8 with fail
      clear c0 xn1 fn1 xn4 fn4 xn5 fn5 xu3 fu3
      have hA := (HO.out.s3 u (by omega) (-1)).below (below_drew (Below.refl _ _))
      have hF := (HO.out.frS HF.out (u * 12 + 8) (.int .i64 (-1))).then_ (below_drew (Below.refl _ _)) HNw.out
      obtain ⟨w2, hw⟩ : ∃ wz, (w1.setCell ⟨gl, u * 12 + 8, none⟩ (.int .i64 (-1))).drew = wz := ⟨_, rfl⟩
      rw [hw] at hA hF ⊢
      replace hA : AO w2 N g gl cap l2 q := by rw [← E2.out]; exact hA
      clear hw HO HF
      have HO := hide hA
      have HF := hide hF
      clear hA hF
      have m2 := M2.out
      have c0 := HO.out.c0
      obtain ⟨_, _, hNd, _, _⟩ := HO.out.elem n (by omega)
      have xn1 := hNd.c6
      have fn1 := HO.out.fz (n * 12 + 6)
      have xn4 := hNd.c9
      have fn4 := HO.out.fz (n * 12 + 9)
      have xn5 := hNd.c10
      have fn5 := HO.out.fz (n * 12 + 10)
      clear hNd
      rw [m2] at c0
      go_wp2_with fail
      go_end0
      clear c0 xn1 fn1 xn4 fn4 xn5 fn5
      have a3 : AO (w2.setCell ⟨gl, n * 12 + 6, none⟩ (.int .i64 (-1))) N g gl cap l3 q := by rw [← E3.out]; exact HO.out.s1 n (by omega) (-1)
      have a4 : AO ((w2.setCell ⟨gl, n * 12 + 6, none⟩ (.int .i64 (-1))).setCell ⟨gl, n * 12 + 9, none⟩ (.int .i64 (-1))) N g gl cap l4 q := by rw [← E4.out]; exact a3.s4 n (by have := M3.out; omega) (-1)
      have a5 : AO (((w2.setCell ⟨gl, n * 12 + 6, none⟩ (.int .i64 (-1))).setCell ⟨gl, n * 12 + 9, none⟩ (.int .i64 (-1))).setCell ⟨gl, n * 12 + 10, none⟩ (.int .i64 (-1))) N g gl cap l5 q := by rw [← E5.out]; exact a4.s5 n (by have := M4.out; omega) (-1)
      exact ⟨rfl, a5, a4.frS (a3.frS (HO.out.frS HF.out _ _) _ _) _ _⟩
    · unfold cut1 at e1
      unfold cut2 at e2
      rw [if_neg (by omega), Int.toNat_natCast] at e1
      have hp1 : (p : Int) < (l.length : Int) := by omega
      have hpm : ((p : Int) == -1) = false := by rw [beq_eq_false_iff_ne]; omega
      have hpm2 : ((p : Int) != -1) = true := by rw [bne_iff_ne]; omega
      rw [if_pos rfl] at e2
      have E1 := hide e1
      have E2 := hide e2
      clear e1 e2
      have c0 := HO.out.c0
      obtain ⟨_, _, hNd, _, _⟩ := HO.out.elem n (by omega)
      have xn1 := hNd.c6
      have fn1 := HO.out.fz (n * 12 + 6)
      have xn4 := hNd.c9
      have fn4 := HO.out.fz (n * 12 + 9)
      have xn5 := hNd.c10
      have fn5 := HO.out.fz (n * 12 + 10)
      clear hNd
      obtain ⟨_, _, hNd, _, _⟩ := HO.out.elem p (by omega)
      have xp5 := hNd.c10
      have fp5 := HO.out.fz (p * 12 + 10)
      clear hNd
      rw [hu] at xn1
      rw [hb0] at xn4
      rw [hc0] at xn5
      clear hb0 hc0 hu
      go_enter Try.func62, Try.ntmps62
      go_upto_region 3 with fail
      go_region
      go_upto_region 5 with fail
      clear c0 xn1 fn1 xn4 fn4 xn5 fn5 xp5 fp5
      have hA := (HO.out.s5 p (by omega) (-1)).below (below_drew (Below.refl _ _))
      have hF := (HO.out.frS HF.out (p * 12 + 10) (.int .i64 (-1))).then_ (below_drew (Below.refl _ _)) HNw.out
      obtain ⟨w1, hw⟩ : ∃ wz, (w.setCell ⟨gl, p * 12 + 10, none⟩ (.int .i64 (-1))).drew = wz := ⟨_, rfl⟩
      rw [hw] at hA hF ⊢
      replace hA : AO w1 N g gl cap l1 q := by rw [← E1.out]; exact hA
      clear hw HO HF
      have HO := hide hA
      have HF := hide hF
      clear hA hF
      have m1 := M1.out
      have c0 := HO.out.c0
      obtain ⟨_, _, hNd, _, _⟩ := HO.out.elem n (by omega)
      have xn1 := hNd.c6
      have fn1 := HO.out.fz (n * 12 + 6)
      have xn4 := hNd.c9
      have fn4 := HO.out.fz (n * 12 + 9)
      have xn5 := hNd.c10
      have fn5 := HO.out.fz (n * 12 + 10)
      clear hNd
      obtain ⟨_, _, hNd, _, _⟩ := HO.out.elem u (by omega)
      have xu3 := hNd.c8
      have fu3 := HO.out.fz (u * 12 + 8)
      clear hNd
      rw [m1] at c0
      rw [S1.out] at xn1
      rw [S4.out] at xn4
      rw [S5.out] at xn5
      go_upto_region 7 with fail
      go_region
      go_upto_region 8 with fail
      clear c0 xn1 fn1 xn4 fn4 xn5 fn5 xu3 fu3
      have hA := (HO.out.s3 u (by omega) (p : Int)).below (below_drew (Below.refl _ _))
      have hF := (HO.out.frS HF.out (u * 12 + 8) (.int .i64 (p : Int))).then_ (below_drew (Below.refl _ _)) HNw.out
      obtain ⟨w2, hw⟩ : ∃ wz, (w1.setCell ⟨gl, u * 12 + 8, none⟩ (.int .i64 (p : Int))).drew = wz := ⟨_, rfl⟩
      rw [hw] at hA hF ⊢
      replace hA : AO w2 N g gl cap l2 q := by rw [← E2.out]; exact hA
      clear hw HO HF
      have HO := hide hA
      have HF := hide hF
      clear hA hF
      have m2 := M2.out
      have c0 := HO.out.c0
      obtain ⟨_, _, hNd, _, _⟩ := HO.out.elem n (by omega)
      have xn1 := hNd.c6
      have fn1 := HO.out.fz (n * 12 + 6)
      have xn4 := hNd.c9
      have fn4 := HO.out.fz (n * 12 + 9)
      have xn5 := hNd.c10
      have fn5 := HO.out.fz (n * 12 + 10)
      clear hNd
      rw [m2] at c0
      go_wp2_with fail
      go_end0
      clear c0 xn1 fn1 xn4 fn4 xn5 fn5
      have a3 : AO (w2.setCell ⟨gl, n * 12 + 6, none⟩ (.int .i64 (-1))) N g gl cap l3 q := by rw [← E3.out]; exact HO.out.s1 n (by omega) (-1)
      have a4 : AO ((w2.setCell ⟨gl, n * 12 + 6, none⟩ (.int .i64 (-1))).setCell ⟨gl, n * 12 + 9, none⟩ (.int .i64 (-1))) N g gl cap l4 q := by rw [← E4.out]; exact a3.s4 n (by have := M3.out; omega) (-1)
      have a5 : AO (((w2.setCell ⟨gl, n * 12 + 6, none⟩ (.int .i64 (-1))).setCell ⟨gl, n * 12 + 9, none⟩ (.int .i64 (-1))).setCell ⟨gl, n * 12 + 10, none⟩ (.int .i64 (-1))) N g gl cap l5 q := by rw [← E5.out]; exact a4.s5 n (by have := M4.out; omega) (-1)
      exact ⟨rfl, a5, a4.frS (a3.frS (HO.out.frS HF.out _ _) _ _) _ _⟩
  · have hr1 : (r : Int) < (l.length : Int) := by omega
    have hrm : ((r : Int) == -1) = false := by rw [beq_eq_false_iff_ne]; omega
    have hrm2 : ((r : Int) != -1) = true := by rw [bne_iff_ne]; omega
    rcases hb with rfl | ⟨p, rfl, hp⟩
    · unfold cut1 at e1
      unfold cut2 at e2
      rw [if_pos rfl] at e1
      rw [if_neg (by omega), Int.toNat_natCast] at e2
      have E1 := hide e1
      have E2 := hide e2
      clear e1 e2
      have c0 := HO.out.c0
      obtain ⟨_, _, hNd, _, _⟩ := HO.out.elem n (by omega)
      have xn1 := hNd.c6
      have fn1 := HO.out.fz (n * 12 + 6)
      have xn4 := hNd.c9
      have fn4 := HO.out.fz (n * 12 + 9)
      have xn5 := hNd.c10
      have fn5 := HO.out.fz (n * 12 + 10)
      clear hNd
      obtain ⟨_, _, hNd, _, _⟩ := HO.out.elem u (by omega)
      have xu2 := hNd.c7
      have fu2 := HO.out.fz (u * 12 + 7)
      clear hNd
      rw [hu] at xn1
      rw [hb0] at xn4
      rw [hc0] at xn5
      clear hb0 hc0 hu
      go_enter Try.func62, Try.ntmps62
      go_upto_region 4 with fail
      go_region
      go_upto_region 5 with fail
      clear c0 xn1 fn1 xn4 fn4 xn5 fn5 xu2 fu2
      have hA := (HO.out.s2 u (by omega) (r : Int)).below (below_drew (Below.refl _ _))
      have hF := (HO.out.frS HF.out (u * 12 + 7) (.int .i64 (r : Int))).then_ (below_drew (Below.refl _ _)) HNw.out
      obtain ⟨w1, hw⟩ : ∃ wz, (w.setCell ⟨gl, u * 12 + 7, none⟩ (.int .i64 (r : Int))).drew = wz := ⟨_, rfl⟩
      rw [hw] at hA hF ⊢
      replace hA : AO w1 N g gl cap l1 q := by rw [← E1.out]; exact hA
      clear hw HO HF
      have HO := hide hA
      have HF := hide hF
      clear hA hF
      have m1 := M1.out
      have c0 := HO.out.c0
      obtain ⟨_, _, hNd, _, _⟩ := HO.out.elem n (by omega)
      have xn1 := hNd.c6
      have fn1 := HO.out.fz (n * 12 + 6)
      have xn4 := hNd.c9
      have fn4 := HO.out.fz (n * 12 + 9)
      have xn5 := hNd.c10
      have fn5 := HO.out.fz (n * 12 + 10)
      clear hNd
      obtain ⟨_, _, hNd, _, _⟩ := HO.out.elem r (by omega)
      have xr4 := hNd.c9
      have fr4 := HO.out.fz (r * 12 + 9)
      clear hNd
      rw [m1] at c0
      rw [S1.out] at xn1
      rw [S4.out] at xn4
      rw [S5.out] at xn5
      go_upto_region 6 with fail
      go_region
      go_upto_region 8 with fail
      clear c0 xn1 fn1 xn4 fn4 xn5 fn5 xr4 fr4
      have hA := (HO.out.s4 r (by omega) (-1)).below (below_drew (Below.refl _ _))
      have hF := (HO.out.frS HF.out (r * 12 + 9) (.int .i64 (-1))).then_ (below_drew (Below.refl _ _)) HNw.out
      obtain ⟨w2, hw⟩ : ∃ wz, (w1.setCell ⟨gl, r * 12 + 9, none⟩ (.int .i64 (-1))).drew = wz := ⟨_, rfl⟩
      rw [hw] at hA hF ⊢
      replace hA : AO w2 N g gl cap l2 q := by rw [← E2.out]; exact hA
      clear hw HO HF
      have HO := hide hA
      have HF := hide hF
      clear hA hF
      have m2 := M2.out
      have c0 := HO.out.c0
      obtain ⟨_, _, hNd, _, _⟩ := HO.out.elem n (by omega)
      have xn1 := hNd.c6
      have fn1 := HO.out.fz (n * 12 + 6)
      have xn4 := hNd.c9
      have fn4 := HO.out.fz (n * 12 + 9)
      have xn5 := hNd.c10
      have fn5 := HO.out.fz (n * 12 + 10)
      clear hNd
      rw [m2] at c0
      go_wp2_with fail
      go_end0
      clear c0 xn1 fn1 xn4 fn4 xn5 fn5
      have a3 : AO (w2.setCell ⟨gl, n * 12 + 6, none⟩ (.int .i64 (-1))) N g gl cap l3 q := by rw [← E3.out]; exact HO.out.s1 n (by omega) (-1)
      have a4 : AO ((w2.setCell ⟨gl, n * 12 + 6, none⟩ (.int .i64 (-1))).setCell ⟨gl, n * 12 + 9, none⟩ (.int .i64 (-1))) N g gl cap l4 q := by rw [← E4.out]; exact a3.s4 n (by have := M3.out; omega) (-1)
      have a5 : AO (((w2.setCell ⟨gl, n * 12 + 6, none⟩ (.int .i64 (-1))).setCell ⟨gl, n * 12 + 9, none⟩ (.int .i64 (-1))).setCell ⟨gl, n * 12 + 10, none⟩ (.int .i64 (-1))) N g gl cap l5 q := by rw [← E5.out]; exact a4.s5 n (by have := M4.out; omega) (-1)
      exact ⟨rfl, a5, a4.frS (a3.frS (HO.out.frS HF.out _ _) _ _) _ _⟩
    · unfold cut1 at e1
      unfold cut2 at e2
      rw [if_neg (by omega), Int.toNat_natCast] at e1
      have hp1 : (p : Int) < (l.length : Int) := by omega
      have hpm : ((p : Int) == -1) = false := by rw [beq_eq_false_iff_ne]; omega
      have hpm2 : ((p : Int) != -1) = true := by rw [bne_iff_ne]; omega
      rw [if_neg (by omega), Int.toNat_natCast] at e2
      have E1 := hide e1
      have E2 := hide e2
      clear e1 e2
      have c0 := HO.out.c0
      obtain ⟨_, _, hNd, _, _⟩ := HO.out.elem n (by omega)
      have xn1 := hNd.c6
      have fn1 := HO.out.fz (n * 12 + 6)
      have xn4 := hNd.c9
      have fn4 := HO.out.fz (n * 12 + 9)
      have xn5 := hNd.c10
      have fn5 := HO.out.fz (n * 12 + 10)
      clear hNd
      obtain ⟨_, _, hNd, _, _⟩ := HO.out.elem p (by omega)
      have xp5 := hNd.c10
      have fp5 := HO.out.fz (p * 12 + 10)
      clear hNd
      rw [hu] at xn1
      rw [hb0] at xn4
      rw [hc0] at xn5
      clear hb0 hc0 hu
      go_enter Try.func62, Try.ntmps62
      go_upto_region 3 with fail
      go_region
      go_upto_region 5 with fail
      clear c0 xn1 fn1 xn4 fn4 xn5 fn5 xp5 fp5
      have hA := (HO.out.s5 p (by omega) (r : Int)).below (below_drew (Below.refl _ _))
      have hF := (HO.out.frS HF.out (p * 12 + 10) (.int .i64 (r : Int))).then_ (below_drew (Below.refl _ _)) HNw.out
      obtain ⟨w1, hw⟩ : ∃ wz, (w.setCell ⟨gl, p * 12 + 10, none⟩ (.int .i64 (r : Int))).drew = wz := ⟨_, rfl⟩
      rw [hw] at hA hF ⊢
      replace hA : AO w1 N g gl cap l1 q := by rw [← E1.out]; exact hA
      clear hw HO HF
      have HO := hide hA
      have HF := hide hF
      clear hA hF
      have m1 := M1.out
      have c0 := HO.out.c0
      obtain ⟨_, _, hNd, _, _⟩ := HO.out.elem n (by omega)
      have xn1 := hNd.c6
      have fn1 := HO.out.fz (n * 12 + 6)
      have xn4 := hNd.c9
      have fn4 := HO.out.fz (n * 12 + 9)
      have xn5 := hNd.c10
      have fn5 := HO.out.fz (n * 12 + 10)
      clear hNd
      obtain ⟨_, _, hNd, _, _⟩ := HO.out.elem r (by omega)
      have xr4 := hNd.c9
      have fr4 := HO.out.fz (r * 12 + 9)
      clear hNd
      rw [m1] at c0
      rw [S1.out] at xn1
      rw [S4.out] at xn4
      rw [S5.out] at xn5
      go_upto_region 6 with fail
      go_region
      go_upto_region 8 with fail
      clear c0 xn1 fn1 xn4 fn4 xn5 fn5 xr4 fr4
      have hA := (HO.out.s4 r (by omega) (p : Int)).below (below_drew (Below.refl _ _))
      have hF := (HO.out.frS HF.out (r * 12 + 9) (.int .i64 (p : Int))).then_ (below_drew (Below.refl _ _)) HNw.out
      obtain ⟨w2, hw⟩ : ∃ wz, (w1.setCell ⟨gl, r * 12 + 9, none⟩ (.int .i64 (p : Int))).drew = wz := ⟨_, rfl⟩
      rw [hw] at hA hF ⊢
      replace hA : AO w2 N g gl cap l2 q := by rw [← E2.out]; exact hA
      clear hw HO HF
      have HO := hide hA
      have HF := hide hF
      clear hA hF
      have m2 := M2.out
      have c0 := HO.out.c0
      obtain ⟨_, _, hNd, _, _⟩ := HO.out.elem n (by omega)
      have xn1 := hNd.c6
      have fn1 := HO.out.fz (n * 12 + 6)
      have xn4 := hNd.c9
      have fn4 := HO.out.fz (n * 12 + 9)
      have xn5 := hNd.c10
      have fn5 := HO.out.fz (n * 12 + 10)
      clear hNd
      rw [m2] at c0
      go_wp2_with fail
      go_end0
      clear c0 xn1 fn1 xn4 fn4 xn5 fn5
      have a3 : AO (w2.setCell ⟨gl, n * 12 + 6, none⟩ (.int .i64 (-1))) N g gl cap l3 q := by rw [← E3.out]; exact HO.out.s1 n (by omega) (-1)
      have a4 : AO ((w2.setCell ⟨gl, n * 12 + 6, none⟩ (.int .i64 (-1))).setCell ⟨gl, n * 12 + 9, none⟩ (.int .i64 (-1))) N g gl cap l4 q := by rw [← E4.out]; exact a3.s4 n (by have := M3.out; omega) (-1)
      have a5 : AO (((w2.setCell ⟨gl, n * 12 + 6, none⟩ (.int .i64 (-1))).setCell ⟨gl, n * 12 + 9, none⟩ (.int .i64 (-1))).setCell ⟨gl, n * 12 + 10, none⟩ (.int .i64 (-1))) N g gl cap l5 q := by rw [← E5.out]; exact a4.s5 n (by have := M4.out; omega) (-1)
      exact ⟨rfl, a5, a4.frS (a3.frS (HO.out.frS HF.out _ _) _ _) _ _⟩
theorem text_none {w : World} {N g gl cap : Nat} {l : List S72} {q : Bool} (h : AO w N g gl cap l q) (s : ByteArray) :
    Calls Try.prog 47 #[.pointer (some ⟨g, 0, none⟩), .int .i64 (-1), .string s] w fun e w' => e = .returned (.bool false) ∧ w = w' := by
  clear h
  go_enter Try.func47, Try.ntmps47
  go_wp2
  go_ret
  exact ⟨rfl, rfl⟩
theorem text_no {w : World} {N g gl cap : Nat} {l : List S72} {q : Bool} (h : AO w N g gl cap l q) (n : Nat) (hn : n < l.length) (hk : (nd l n).f0.f0 ≠ 4) (s : ByteArray) :
    Calls Try.prog 47 #[.pointer (some ⟨g, 0, none⟩), .int .i64 (n : Int), .string s] w fun e w' => e = .returned (.bool false) ∧ w = w' := by
  obtain ⟨k, hk0⟩ : ∃ k, (nd l n).f0.f0 = k := ⟨_, rfl⟩
  have HK := hide (kind h n hn hk0)
  rw [hk0] at hk
  have e1 : ((n : Int) == -1) = false := by rw [beq_eq_false_iff_ne]; omega
  have e2 : (k == 4) = false := by rw [beq_eq_false_iff_ne]; exact hk
  have e3 : (k != 4) = true := by rw [bne_iff_ne]; exact hk
  clear h hk0 hk hn
  go_enter Try.func47, Try.ntmps47
  go_wp2_with (go_at_call 46; (with_reducible refine HK.out.mono ?_); rintro e w' ⟨rfl, rfl⟩)
  go_ret
  exact ⟨rfl, rfl⟩
/-- Text behind a text. -/
def textL (l : List S72) (n : Nat) (s : ByteArray) : List S72 := l.set n (sT (nd l n) ((nd l n).f0.f4 ++ s))
theorem text_yes {w : World} {N g gl cap : Nat} {l : List S72} {q : Bool} (h : AO w N g gl cap l q) (n : Nat) (hn : n < l.length) (hk : (nd l n).f0.f0 = 4) (s : ByteArray) (hs : (nd l n).f0.f4.size + s.size ≤ 1000000000) :
    Calls Try.prog 47 #[.pointer (some ⟨g, 0, none⟩), .int .i64 (n : Int), .string s] w fun e w' => e = .returned (.bool true) ∧ AO w' N g gl cap (textL l n s) q ∧ Fr N TA w w' := by
  have HK := hide (kind h n hn hk)
  have e1 : ((n : Int) == -1) = false := by rw [beq_eq_false_iff_ne]; omega
  have hn1 : (n : Int) < (l.length : Int) := by omega
  have HO := hide h
  have c0 := h.c0
  obtain ⟨_, _, hNd, _, _⟩ := h.elem n hn
  have x4 := hNd.c4
  have f4 := h.fz (n * 12 + 4)
  have HN := hide hn
  obtain ⟨t, ht⟩ : ∃ t, (nd l n).f0.f4 = t := ⟨_, rfl⟩
  rw [ht] at x4 hs
  have HT := hide ht
  have hs2 : ¬ 9223372036854775807 < t.size + s.size := by omega
  clear h hNd hk hs ht hn
  go_enter Try.func47, Try.ntmps47
  go_wp2_with (go_at_call 46; (with_reducible refine HK.out.mono ?_); rintro e w' ⟨rfl, rfl⟩)
  go_ret
  refine ⟨rfl, ?_, HO.out.frS (Fr.refl _ _ _) _ _⟩
  unfold textL
  rw [HT.out]
  exact HO.out.sT n HN.out _
end Go.Proofs.Ytjebpaapkmbahaa.Ar

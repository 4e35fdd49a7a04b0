/- Plain laws on deep trees. The walk of arbourlaw24.CompareDeep: it is true. -/
import Derived.Test.YteglfgmgpbablaaDoorCmpAt
import Derived.Test.YteglfgmgpbablaaDoorCmpKnownW
namespace Go.Proofs.YteglfgmgpbablaaDoor.Cmp
open Go.RowKit Go.Proofs.YteglfgmgpbablaaDoor.PCompareTells Go.Proofs.YteglfgmgpbablaaDoorW.PrintWords Go.Proofs.YteglfgmgpbablaaDoorW.PrintLast
def leafL (s : ByteArray) : S26 := ⟨4, 0, ⟨#[]⟩, [], s, []⟩
def deepL : Nat → S26 → S26
  | 0, x => x
  | n + 1, x => ⟨3, 1, ⟨#[98]⟩, [], ⟨#[]⟩, [deepL n x]⟩
theorem leaf_dif (s r : ByteArray) : dif (leafL s) (leafL r) = if s.toList == r.toList then none else some [] := by
  rw [dif_eq]
  have e : labL (leafL s) (leafL r) = (s.toList == r.toList) := by simp [labL, leafL, sameA]
  rw [e]
  cases s.toList == r.toList with
  | true => simp only [if_true]; rfl
  | false => rfl
theorem deep_dif (x y : S26) : ∀ n, dif (deepL n x) (deepL n y) = (dif x y).map (fun p => List.replicate n (0 : Int) ++ p)
  | 0 => by cases h : dif x y <;> simp [deepL, h]
  | n + 1 => by
    rw [dif_eq]
    have e : labL (deepL (n + 1) x) (deepL (n + 1) y) = true := by simp [labL, deepL, sameA]
    rw [e, if_pos rfl]
    show difK [deepL n x] [deepL n y] 0 = _
    rw [difK, deep_dif x y n]
    cases h : dif x y with
    | none => simp only [Option.map_none]; rfl
    | some p => simp only [Option.map_some]; rfl
theorem deep_W (x : S26) : ∀ n, W (deepL n x) = 2 * n + W x
  | 0 => by rw [deepL]; omega
  | n + 1 => by
    rw [deepL, W_eq]
    dsimp only
    rw [WK, WK, deep_W x n]
    omega
theorem deep_AL (x : S26) (hx : AL 6 x) : ∀ n, AL 6 (deepL n x)
  | 0 => hx
  | n + 1 => by
    rw [deepL, AL_eq]
    refine ⟨Nat.zero_le _, ?_⟩
    show ALK 6 [deepL n x]
    rw [ALK_one]
    exact deep_AL x hx n
theorem AL_up (m n : Nat) (h : m ≤ n) : ∀ (k : Nat) (x : S26), W x ≤ k → AL m x → AL n x
  | 0, x, hk, _ => by have := W_eq x; omega
  | k + 1, x, hk, ha => by
    rw [AL_eq] at ha ⊢
    refine ⟨Nat.le_trans ha.1 h, ?_⟩
    have hw := W_eq x
    have key : ∀ l : List S26, WK l ≤ k → ALK m l → ALK n l := by
      intro l
      induction l with
      | nil => intro _ _; rw [ALK]; trivial
      | cons y l ih =>
        intro hl hal
        rw [ALK] at hal ⊢
        rw [WK] at hl
        exact ⟨AL_up m n h k y (by omega) hal.1, ih (by omega) hal.2⟩
    exact key _ (by omega) ha.2
theorem deep_at (x : S26) : ∀ n, atL (List.replicate n 0) (deepL n x) = some x
  | 0 => rfl
  | n + 1 => by
    rw [List.replicate_succ, atL, deepL]
    rw [if_pos ⟨Int.le_refl 0, by show (0 : Int) < (1 : Nat); omega⟩]
    exact deep_at x n
theorem segs_zero : ∀ n, (segs (List.replicate n 0)).length = 2 * n
  | 0 => rfl
  | n + 1 => by
    have h := segs_zero n
    have e : seg 0 = [47, 48] := by decide +kernel
    unfold segs at h ⊢
    rw [List.replicate_succ, List.flatMap_cons, e, List.length_append, h]
    simp only [List.length_cons, List.length_nil]
    omega
theorem head_size (s : ByteArray) : ∃ r, arbourkeep_Head.f s 5 = some r ∧ r.size ≤ 5 := by
  unfold arbourkeep_Head.f
  by_cases h1 : (5 : Int) < (s.size : Int)
  · rw [if_pos h1, if_pos (by omega), if_pos (by omega)]
    refine ⟨_, rfl, ?_⟩
    rw [ByteArray.size_extract]
    have : ((5 : Int)).toNat = 5 := rfl
    omega
  · rw [if_neg h1]
    exact ⟨_, rfl, by omega⟩
end Go.Proofs.YteglfgmgpbablaaDoor.Cmp
namespace Go.Proofs.YteglfgmgpbablaaDoor.Cmp
open Go.RowKit Go.Proofs.YteglfgmgpbablaaDoor.PCompareTells Go.Proofs.YteglfgmgpbablaaDoorW.PrintWords Go.Proofs.YteglfgmgpbablaaDoorW.PrintLast
theorem more (n : Nat) (w : World) : Calls Tryd.prog 18 #[.int .i64 n] w fun e w' => e = .returned (.int .i64 (if n = 0 then 1 else 0)) ∧ w' = w := by
  by_cases h : n = 0
  · subst h
    have hz : ((0 : Nat) : Int) = 0 := rfl
    rw [hz, if_pos rfl]
    go_enter Tryd.func18, Tryd.ntmps18
    go_wp2_with fail
    go_ret
    exact ⟨rfl, rfl⟩
  · rw [if_neg h]
    have hz : ((n : Int) == 0) = false := by rw [beq_eq_false_iff_ne]; omega
    clear h
    go_enter Tryd.func18, Tryd.ntmps18
    go_wp2_with fail
    go_ret
    exact ⟨rfl, rfl⟩
/-- A tree in the block X; what it leads to lies from B on. -/
def InBlk (w : World) (B X : Nat) (t : S26) : Prop := ∃ (A3 : Option Addr) (c3 : Nat) (A5 : Option Addr) (c5 : Nat), w.heap[X]? = some (.cells #[.int .i64 t.f0, .int .i64 t.f1, .string t.f2, .slice A3 t.f3.length c3, .string t.f4, .slice A5 t.f5.length c5] 26 (0, 0)) ∧ TF w (fun k => B ≤ k) (.agg #[.int .i64 t.f0, .int .i64 t.f1, .string t.f2, .slice A3 t.f3.length c3, .string t.f4, .slice A5 t.f5.length c5]) t
theorem InBlk.below {w w' : World} {B X : Nat} {t : S26} (h : InBlk w B X t) (hb : Below w.heap.size w w') : InBlk w' B X t := by
  obtain ⟨A3, c3, A5, c5, h1, h2⟩ := h
  exact ⟨A3, c3, A5, c5, (hb.block _ (blk_lt h1)).trans h1, h2.below hb⟩
theorem InBlk.far {w w' : World} {B X Y : Nat} {t : S26} (h : InBlk w B X t) (hX : X ≠ Y) (hB : Y < B) (hf : ∀ k, k ≠ Y → w'.heap[k]? = w.heap[k]?) : InBlk w' B X t := by
  obtain ⟨A3, c3, A5, c5, h1, h2⟩ := h
  exact ⟨A3, c3, A5, c5, (hf X hX).trans h1, h2.step (fun k hk _ => hf k (by omega))⟩
/-- One wrapper more: the tree is laid in a new block, its block is written anew. -/
theorem InBlk.wrap {w : World} {B X : Nat} {t : S26} {A3 A5 : Option Addr} {c3 c5 : Nat} (h1 : w.heap[X]? = some (.cells #[.int .i64 t.f0, .int .i64 t.f1, .string t.f2, .slice A3 t.f3.length c3, .string t.f4, .slice A5 t.f5.length c5] 26 (0, 0))) (h2 : TF w (fun k => B ≤ k) (.agg #[.int .i64 t.f0, .int .i64 t.f1, .string t.f2, .slice A3 t.f3.length c3, .string t.f4, .slice A5 t.f5.length c5]) t) (hB : X < B) (hw : B ≤ w.heap.size) :
    InBlk (((((((w.alloc (.cells #[.int .i64 t.f0, .int .i64 t.f1, .string t.f2, .slice A3 t.f3.length c3, .string t.f4, .slice A5 t.f5.length c5] 26)).setCell ⟨X, 0, none⟩ (.int .i64 3)).setCell ⟨X, 1, none⟩ (.int .i64 1)).setCell ⟨X, 2, none⟩ (.string ⟨#[98]⟩)).setCell ⟨X, 3, none⟩ (.slice none 0 0)).setCell ⟨X, 4, none⟩ (.string ⟨#[]⟩)).setCell ⟨X, 5, none⟩ (.slice (some ⟨w.heap.size, 0, none⟩) 1 1)) B X ⟨3, 1, ⟨#[98]⟩, [], ⟨#[]⟩, [t]⟩ := by
  have ba := below_alloc (Below.refl w.heap.size w) (.cells #[.int .i64 t.f0, .int .i64 t.f1, .string t.f2, .slice A3 t.f3.length c3, .string t.f4, .slice A5 t.f5.length c5] 26)
  have hn := heap_alloc_new w (.cells #[.int .i64 t.f0, .int .i64 t.f1, .string t.f2, .slice A3 t.f3.length c3, .string t.f4, .slice A5 t.f5.length c5] 26)
  have hX := (ba.block _ (blk_lt h1)).trans h1
  have hf := blk_set (blk_set (blk_set (blk_set (blk_set (blk_set hX 0 (.int .i64 3)) 1 (.int .i64 1)) 2 (.string ⟨#[98]⟩)) 3 (.slice none 0 0)) 4 (.string ⟨#[]⟩)) 5 (.slice (some ⟨w.heap.size, 0, none⟩) 1 1)
  refine ⟨none, 0, some ⟨w.heap.size, 0, none⟩, 1, hf, ?_⟩
  have hTk := (h2.below ba).step (fun k hk _ => set6_far (w := w.alloc (.cells #[.int .i64 t.f0, .int .i64 t.f1, .string t.f2, .slice A3 t.f3.length c3, .string t.f4, .slice A5 t.f5.length c5] 26)) (g := X) (a0 := 0) (a1 := 1) (a2 := 2) (a3 := 3) (a4 := 4) (a5 := 5) (v0 := .int .i64 3) (v1 := .int .i64 1) (v2 := .string ⟨#[98]⟩) (v3 := .slice none 0 0) (v4 := .string ⟨#[]⟩) (v5 := .slice (some ⟨w.heap.size, 0, none⟩) 1 1) k (by omega))
  refine TF.mk (⟨3, 1, ⟨#[98]⟩, [], ⟨#[]⟩, [t]⟩ : S26) (Nat.le_refl _) (Kd.F_nil _ _ _) (Nat.le_refl _) (fun V hV => ?_)
  have hlit := (hV w.heap.size hw (by simp [World.setCell])).trans ((set6_far (g := X) (a0 := 0) (a1 := 1) (a2 := 2) (a3 := 3) (a4 := 4) (a5 := 5) (v0 := .int .i64 3) (v1 := .int .i64 1) (v2 := .string ⟨#[98]⟩) (v3 := .slice none 0 0) (v4 := .string ⟨#[]⟩) (v5 := .slice (some ⟨w.heap.size, 0, none⟩) 1 1) w.heap.size (by omega)).trans hn)
  obtain ⟨B3, d3, B5, d5, e, l3, g3, l5, g5⟩ := hTk V hV
  injection e with e
  injection e with e
  simp only [List.cons.injEq, Value.slice.injEq] at e
  obtain ⟨-, -, -, ⟨rfl, -, rfl⟩, -, ⟨rfl, -, rfl⟩, -⟩ := e
  exact raw_C (raw_lit rfl rfl rfl rfl rfl rfl hlit) (KL.cons (k26_mk V t l3 g3 l5 g5) .nil)
theorem cat_eq (c a b : ByteArray) : ((c ++ a).toList == (c ++ b).toList) = (a.toList == b.toList) := by
  rw [ByteArray.toList_eq, ByteArray.toList_eq, ByteArray.toList_eq, ByteArray.toList_eq, ByteArray.data_append, ByteArray.data_append, Array.toList_append, Array.toList_append, Bool.eq_iff_iff, beq_iff_eq, beq_iff_eq, List.append_cancel_left_eq]
def DeepRel (w0 : World) (X Y B : Nat) (x y : S26) (k : Nat) (wr : World) : Prop := InBlk wr B X (deepL k x) ∧ InBlk wr B Y (deepL k y) ∧ Below w0.heap.size w0 wr ∧ B ≤ wr.heap.size
theorem leaf_blk {w : World} {X B : Nat} {s : ByteArray} (h : w.heap[X]? = some (.cells #[.int .i64 4, .int .i64 0, .string ⟨#[]⟩, .slice none 0 0, .string s, .slice none 0 0] 26 (0, 0))) : InBlk w B X (leafL s) :=
  ⟨none, 0, none, 0, h, TF.mk (leafL s) (Nat.le_refl _) (Kd.F_nil _ _ _) (Nat.le_refl _) (Kd.F_nil _ _ _)⟩
set_option maxHeartbeats 20000000 in
set_option maxRecDepth 100000 in
theorem deep (n : Int) (s r : ByteArray) (w : World) : Calls Tryd.prog 5 #[.int .i64 n, .string s, .string r] w fun e w' => e = .returned (.bool true) ∧ Below w.heap.size w w' := by
  obtain ⟨u, hu, -, hfu⟩ := within_u n 2000 (by omega)
  obtain ⟨sh, hsh, hss⟩ := head_size s
  obtain ⟨rh, hrh, hrs⟩ := head_size r
  have HFU := hide hfu
  have HSH := hide hsh
  have HRH := hide hrh
  have HU := hide hu
  have h2000 : ((2000 : Nat) : Int) = 2000 := rfl
  rw [h2000] at HFU
  clear hfu hsh hrh h2000
  have e1 : (1 : Nat) + sh.size ≤ 100 := by omega
  have e2 : (1 : Nat) + rh.size ≤ 100 := by omega
  go_enter Tryd.func5, Tryd.ntmps5
  go_wp2_with fail
  refine (arbourbook_Within.calls _ _ _ _ _ HFU.out).mono ?_
  rintro e w' ⟨rfl, ⟨n1, rfl⟩⟩
  dsimp only
  go_wp2_with fail
  refine (arbourkeep_Head.calls _ _ _ _ HSH.out).mono ?_
  rintro e w' ⟨rfl, ⟨n2, rfl⟩⟩
  dsimp only
  have hb1 := pw_below_drewN (pw_below_drewN (Below.refl w.heap.size w) n1) n2
  obtain ⟨w1, hw1⟩ : ∃ w1, (w.drewN n1).drewN n2 = w1 := ⟨_, rfl⟩
  rw [hw1] at hb1
  have HB1 := hide hb1
  rw [hw1]
  clear hw1 hb1
  go_upto_region 3 with fail
  obtain ⟨ta, hta⟩ : ∃ ta, (⟨#[119]⟩ : ByteArray) ++ sh = ta := ⟨_, rfl⟩
  rw [hta]
  have HTA := hide hta
  have q1 := heap_alloc_new w1 (.cells #[.int .i64 4, .int .i64 0, .string ⟨#[]⟩, .slice none 0 0, .string ta, .slice none 0 0] 26)
  have b1 := below_alloc (Below.refl w1.heap.size w1) (.cells #[.int .i64 4, .int .i64 0, .string ⟨#[]⟩, .slice none 0 0, .string ta, .slice none 0 0] 26)
  have HLA := hide (leaf_blk (B := w1.heap.size + 2) q1)
  have HB2 := hide (below_step HB1.out b1)
  have HWX := hide HB1.out.size
  have hs2 : (w1.alloc (.cells #[.int .i64 4, .int .i64 0, .string ⟨#[]⟩, .slice none 0 0, .string ta, .slice none 0 0] 26)).heap.size = w1.heap.size + 1 := by simp
  obtain ⟨w2, hw2⟩ : ∃ w2, w1.alloc (.cells #[.int .i64 4, .int .i64 0, .string ⟨#[]⟩, .slice none 0 0, .string ta, .slice none 0 0] 26) = w2 := ⟨_, rfl⟩
  rw [hw2] at HLA HB2 hs2 ⊢
  clear q1 b1 hw2 hta
  generalize w1.heap.size = X at hs2 HLA HWX ⊢
  have HS2 := hide hs2
  clear hs2
  go_wp2_with fail
  refine (arbourkeep_Head.calls _ _ _ _ HRH.out).mono ?_
  rintro e w' ⟨rfl, ⟨n3, rfl⟩⟩
  dsimp only
  have b3 := pw_below_drewN (Below.refl w2.heap.size w2) n3
  have HLA3 := hide (HLA.out.below b3)
  have HB3 := hide (below_step HB2.out b3)
  have hs3 : (w2.drewN n3).heap.size = X + 1 := HS2.out
  obtain ⟨w3, hw3⟩ : ∃ w3, w2.drewN n3 = w3 := ⟨_, rfl⟩
  rw [hw3] at HLA3 HB3 hs3 ⊢
  clear hw3 b3 HLA HB2 HS2
  have HS3 := hide hs3
  clear hs3
  go_upto_region 4 with fail
  rw [HS3.out]
  obtain ⟨tb, htb⟩ : ∃ tb, (⟨#[119]⟩ : ByteArray) ++ rh = tb := ⟨_, rfl⟩
  rw [htb]
  have HTB := hide htb
  have q4 := heap_alloc_new w3 (.cells #[.int .i64 4, .int .i64 0, .string ⟨#[]⟩, .slice none 0 0, .string tb, .slice none 0 0] 26)
  have b4 := below_alloc (Below.refl w3.heap.size w3) (.cells #[.int .i64 4, .int .i64 0, .string ⟨#[]⟩, .slice none 0 0, .string tb, .slice none 0 0] 26)
  rw [HS3.out] at q4
  have hs4 : (w3.alloc (.cells #[.int .i64 4, .int .i64 0, .string ⟨#[]⟩, .slice none 0 0, .string tb, .slice none 0 0] 26)).heap.size = X + 2 := by simp [HS3.out]
  have HR := hide (show DeepRel w X (X + 1) (X + 2) (leafL ta) (leafL tb) 0 (w3.alloc (.cells #[.int .i64 4, .int .i64 0, .string ⟨#[]⟩, .slice none 0 0, .string tb, .slice none 0 0] 26)) from ⟨HLA3.out.below b4, leaf_blk q4, below_step HB3.out b4, by omega⟩)
  obtain ⟨w4, hw4⟩ : ∃ w4, w3.alloc (.cells #[.int .i64 4, .int .i64 0, .string ⟨#[]⟩, .slice none 0 0, .string tb, .slice none 0 0] 26) = w4 := ⟨_, rfl⟩
  rw [hw4] at HR ⊢
  clear hw4 q4 b4 hs4 htb HLA3 HB3 HS3 HB1
  go_wp2_with fail
  go_loopw [9] (fun i wr => ∃ k : Nat, k ≤ u ∧ i = .int .i64 (k : Int) ∧ Aside0 (DeepRel w X (X + 1) (X + 2) (leafL ta) (leafL tb) k wr)) (fun i _ => u - (intOf i).toNat)
  case atStart => exact ⟨0, Nat.zero_le _, rfl, ⟨HR.out⟩⟩
  case round =>
    clear HR
    obtain ⟨k, hk, rfl, hrel⟩ := hrel
    obtain ⟨hIA, hIB, hB, hX⟩ := hrel.out
    clear hrel
    have hu2 := HU.out
    by_cases hlt : k < u
    · obtain ⟨A3, c3, A5, c5, hXa, hTa⟩ := hIA
      have HIB := hide hIB
      have HB := hide hB
      have HX := hide hX
      obtain ⟨⟨a0, a1, a2, a3, a4, a5⟩, ha⟩ : ∃ a, deepL k (leafL ta) = a := ⟨_, rfl⟩
      rw [ha] at hXa hTa
      have HA := hide ha
      dsimp only at hXa hTa
      have HXA := hide hXa
      have HTA1 := hide hTa
      have k1 : (k : Int) < (u : Int) := by omega
      have ba := below_alloc (Below.refl wr.heap.size wr) (.cells #[.int .i64 a0, .int .i64 a1, .string a2, .slice A3 a3.length c3, .string a4, .slice A5 a5.length c5] 26)
      have hXa' := (ba.block _ (blk_lt hXa)).trans hXa
      have a0_ := cell_of_row _ _ 0 _ _ _ hXa
      have a1_ := cell_of_row _ _ 1 _ _ _ hXa
      have a2_ := cell_of_row _ _ 2 _ _ _ hXa
      have a3_ := cell_of_row _ _ 3 _ _ _ hXa
      have a4_ := cell_of_row _ _ 4 _ _ _ hXa
      have a5_ := cell_of_row _ _ 5 _ _ _ hXa
      have f0 := blk_frozen hXa' 0
      have f1 := blk_frozen hXa' 1
      have f2 := blk_frozen hXa' 2
      have f3 := blk_frozen hXa' 3
      have f4 := blk_frozen hXa' 4
      have f5 := blk_frozen hXa' 5
      have g0_ := cell_of_row _ _ 0 _ _ _ hXa'
      have g1_ := cell_of_row _ _ 1 _ _ _ hXa'
      have g2_ := cell_of_row _ _ 2 _ _ _ hXa'
      have g3_ := cell_of_row _ _ 3 _ _ _ hXa'
      have g4_ := cell_of_row _ _ 4 _ _ _ hXa'
      have g5_ := cell_of_row _ _ 5 _ _ _ hXa'
      clear hIB hB hX ha hXa hTa ba hXa' hlt hk
      go_upto_region 8 with fail
      have hle := HB.out.size
      have hX9 := HX.out
      have hwX : w.heap.size ≤ X := HWX.out
      have baA := below_alloc (Below.refl wr.heap.size wr) (.cells #[.int .i64 a0, .int .i64 a1, .string a2, .slice A3 a3.length c3, .string a4, .slice A5 a5.length c5] 26)
      have hIA2 := InBlk.wrap (t := ⟨a0, a1, a2, a3, a4, a5⟩) HXA.out HTA1.out (show X < X + 2 by omega) HX.out
      have hIB2 := (HIB.out.below baA).far (w' := (((((((wr.alloc (.cells #[.int .i64 a0, .int .i64 a1, .string a2, .slice A3 a3.length c3, .string a4, .slice A5 a5.length c5] 26)).setCell ⟨X, 0, none⟩ (.int .i64 3)).setCell ⟨X, 1, none⟩ (.int .i64 1)).setCell ⟨X, 2, none⟩ (.string ⟨#[98]⟩)).setCell ⟨X, 3, none⟩ (.slice none 0 0)).setCell ⟨X, 4, none⟩ (.string ⟨#[]⟩)).setCell ⟨X, 5, none⟩ (.slice (some ⟨wr.heap.size, 0, none⟩) 1 1))) (Y := X) (by omega) (by omega) (fun k hk => set6_far (g := X) (a0 := 0) (a1 := 1) (a2 := 2) (a3 := 3) (a4 := 4) (a5 := 5) (v0 := (.int .i64 3)) (v1 := (.int .i64 1)) (v2 := (.string ⟨#[98]⟩)) (v3 := (.slice none 0 0)) (v4 := (.string ⟨#[]⟩)) (v5 := (.slice (some ⟨wr.heap.size, 0, none⟩) 1 1)) k hk)
      have hB2 := (((((((below_step HB.out baA).setCell (p := ⟨X, 0, none⟩) hwX (.int .i64 3)).setCell (p := ⟨X, 1, none⟩) hwX (.int .i64 1)).setCell (p := ⟨X, 2, none⟩) hwX (.string ⟨#[98]⟩)).setCell (p := ⟨X, 3, none⟩) hwX (.slice none 0 0)).setCell (p := ⟨X, 4, none⟩) hwX (.string ⟨#[]⟩)).setCell (p := ⟨X, 5, none⟩) hwX (.slice (some ⟨wr.heap.size, 0, none⟩) 1 1))
      have hX2 : X + 2 ≤ (((((((wr.alloc (.cells #[.int .i64 a0, .int .i64 a1, .string a2, .slice A3 a3.length c3, .string a4, .slice A5 a5.length c5] 26)).setCell ⟨X, 0, none⟩ (.int .i64 3)).setCell ⟨X, 1, none⟩ (.int .i64 1)).setCell ⟨X, 2, none⟩ (.string ⟨#[98]⟩)).setCell ⟨X, 3, none⟩ (.slice none 0 0)).setCell ⟨X, 4, none⟩ (.string ⟨#[]⟩)).setCell ⟨X, 5, none⟩ (.slice (some ⟨wr.heap.size, 0, none⟩) 1 1)).heap.size := by simp [World.setCell]; omega
      obtain ⟨wz, hwz⟩ : ∃ wz, (((((((wr.alloc (.cells #[.int .i64 a0, .int .i64 a1, .string a2, .slice A3 a3.length c3, .string a4, .slice A5 a5.length c5] 26)).setCell ⟨X, 0, none⟩ (.int .i64 3)).setCell ⟨X, 1, none⟩ (.int .i64 1)).setCell ⟨X, 2, none⟩ (.string ⟨#[98]⟩)).setCell ⟨X, 3, none⟩ (.slice none 0 0)).setCell ⟨X, 4, none⟩ (.string ⟨#[]⟩)).setCell ⟨X, 5, none⟩ (.slice (some ⟨wr.heap.size, 0, none⟩) 1 1)) = wz := ⟨_, rfl⟩
      rw [hwz] at hIA2 hIB2 hB2 hX2 ⊢
      clear hwz baA a0_ a1_ a2_ a3_ a4_ a5_ f0 f1 f2 f3 f4 f5 g0_ g1_ g2_ g3_ g4_ g5_ HIB HXA HTA1 hX9 HB HX
      have HIA2 := hide hIA2
      obtain ⟨B3, d3, B5, d5, hXb, hTb⟩ := hIB2
      obtain ⟨⟨b0, b1, b2, b3, b4, b5⟩, hb⟩ : ∃ b, deepL k (leafL tb) = b := ⟨_, rfl⟩
      rw [hb] at hXb hTb
      have HBE := hide hb
      dsimp only at hXb hTb
      have HXB := hide hXb
      have HTB1 := hide hTb
      have HB2 := hide hB2
      have HX2 := hide hX2
      have bb := below_alloc (Below.refl wz.heap.size wz) (.cells #[.int .i64 b0, .int .i64 b1, .string b2, .slice B3 b3.length d3, .string b4, .slice B5 b5.length d5] 26)
      have hXb' := (bb.block _ (blk_lt hXb)).trans hXb
      have b0_ := cell_of_row _ _ 0 _ _ _ hXb
      have b1_ := cell_of_row _ _ 1 _ _ _ hXb
      have b2_ := cell_of_row _ _ 2 _ _ _ hXb
      have b3_ := cell_of_row _ _ 3 _ _ _ hXb
      have b4_ := cell_of_row _ _ 4 _ _ _ hXb
      have b5_ := cell_of_row _ _ 5 _ _ _ hXb
      have f0 := blk_frozen hXb' 0
      have f1 := blk_frozen hXb' 1
      have f2 := blk_frozen hXb' 2
      have f3 := blk_frozen hXb' 3
      have f4 := blk_frozen hXb' 4
      have f5 := blk_frozen hXb' 5
      have g0_ := cell_of_row _ _ 0 _ _ _ hXb'
      have g1_ := cell_of_row _ _ 1 _ _ _ hXb'
      have g2_ := cell_of_row _ _ 2 _ _ _ hXb'
      have g3_ := cell_of_row _ _ 3 _ _ _ hXb'
      have g4_ := cell_of_row _ _ 4 _ _ _ hXb'
      have g5_ := cell_of_row _ _ 5 _ _ _ hXb'
      clear hIA2 hXb hTb hB2 hX2 hb bb hXb'
      go_upto_region 6 with fail
      have hX9 := HX2.out
      have baB := below_alloc (Below.refl wz.heap.size wz) (.cells #[.int .i64 b0, .int .i64 b1, .string b2, .slice B3 b3.length d3, .string b4, .slice B5 b5.length d5] 26)
      have hIB3 := InBlk.wrap (t := ⟨b0, b1, b2, b3, b4, b5⟩) HXB.out HTB1.out (show X + 1 < X + 2 by omega) HX2.out
      have hIA3 := (HIA2.out.below baB).far (w' := (((((((wz.alloc (.cells #[.int .i64 b0, .int .i64 b1, .string b2, .slice B3 b3.length d3, .string b4, .slice B5 b5.length d5] 26)).setCell ⟨X + 1, 0, none⟩ (.int .i64 3)).setCell ⟨X + 1, 1, none⟩ (.int .i64 1)).setCell ⟨X + 1, 2, none⟩ (.string ⟨#[98]⟩)).setCell ⟨X + 1, 3, none⟩ (.slice none 0 0)).setCell ⟨X + 1, 4, none⟩ (.string ⟨#[]⟩)).setCell ⟨X + 1, 5, none⟩ (.slice (some ⟨wz.heap.size, 0, none⟩) 1 1))) (Y := X + 1) (by omega) (by omega) (fun k hk => set6_far (g := X + 1) (a0 := 0) (a1 := 1) (a2 := 2) (a3 := 3) (a4 := 4) (a5 := 5) (v0 := (.int .i64 3)) (v1 := (.int .i64 1)) (v2 := (.string ⟨#[98]⟩)) (v3 := (.slice none 0 0)) (v4 := (.string ⟨#[]⟩)) (v5 := (.slice (some ⟨wz.heap.size, 0, none⟩) 1 1)) k hk)
      have hB3 := (((((((below_step HB2.out baB).setCell (p := ⟨X + 1, 0, none⟩) (Nat.le_succ_of_le hwX) (.int .i64 3)).setCell (p := ⟨X + 1, 1, none⟩) (Nat.le_succ_of_le hwX) (.int .i64 1)).setCell (p := ⟨X + 1, 2, none⟩) (Nat.le_succ_of_le hwX) (.string ⟨#[98]⟩)).setCell (p := ⟨X + 1, 3, none⟩) (Nat.le_succ_of_le hwX) (.slice none 0 0)).setCell (p := ⟨X + 1, 4, none⟩) (Nat.le_succ_of_le hwX) (.string ⟨#[]⟩)).setCell (p := ⟨X + 1, 5, none⟩) (Nat.le_succ_of_le hwX) (.slice (some ⟨wz.heap.size, 0, none⟩) 1 1))
      have hX3 : X + 2 ≤ (((((((wz.alloc (.cells #[.int .i64 b0, .int .i64 b1, .string b2, .slice B3 b3.length d3, .string b4, .slice B5 b5.length d5] 26)).setCell ⟨X + 1, 0, none⟩ (.int .i64 3)).setCell ⟨X + 1, 1, none⟩ (.int .i64 1)).setCell ⟨X + 1, 2, none⟩ (.string ⟨#[98]⟩)).setCell ⟨X + 1, 3, none⟩ (.slice none 0 0)).setCell ⟨X + 1, 4, none⟩ (.string ⟨#[]⟩)).setCell ⟨X + 1, 5, none⟩ (.slice (some ⟨wz.heap.size, 0, none⟩) 1 1)).heap.size := by simp [World.setCell]; omega
      obtain ⟨wy, hwy⟩ : ∃ wy, (((((((wz.alloc (.cells #[.int .i64 b0, .int .i64 b1, .string b2, .slice B3 b3.length d3, .string b4, .slice B5 b5.length d5] 26)).setCell ⟨X + 1, 0, none⟩ (.int .i64 3)).setCell ⟨X + 1, 1, none⟩ (.int .i64 1)).setCell ⟨X + 1, 2, none⟩ (.string ⟨#[98]⟩)).setCell ⟨X + 1, 3, none⟩ (.slice none 0 0)).setCell ⟨X + 1, 4, none⟩ (.string ⟨#[]⟩)).setCell ⟨X + 1, 5, none⟩ (.slice (some ⟨wz.heap.size, 0, none⟩) 1 1)) = wy := ⟨_, rfl⟩
      rw [hwy] at hIA3 hIB3 hB3 hX3 ⊢
      clear hwy baB b0_ b1_ b2_ b3_ b4_ b5_ f0 f1 f2 f3 f4 f5 g0_ g1_ g2_ g3_ g4_ g5_ HIA2 HXB HTB1 hX9 HB2 HX2
      have HR3 := hide (show DeepRel w X (X + 1) (X + 2) (leafL ta) (leafL tb) (k + 1) wy from ⟨by rw [deepL, HA.out]; exact hIA3, by rw [deepL, HBE.out]; exact hIB3, hB3, hX3⟩)
      clear hIA3 hIB3 hB3 hX3
      go_wp2_with fail
      go_roundw
      case rel => exact ⟨k + 1, by omega, by go_num, ⟨HR3.out⟩⟩
      case measure => simp [intOf]; omega
    · have hku : k = u := by omega
      subst hku
      have hnk : ¬ (k : Int) < (k : Int) := by omega
      obtain ⟨A3, c3, A5, c5, hXa, hTa⟩ := hIA
      obtain ⟨B3, d3, B5, d5, hXb, hTb⟩ := hIB
      have hdif := deep_dif (leafL ta) (leafL tb) k
      rw [leaf_dif, ← HTA.out, ← HTB.out, cat_eq] at hdif
      have hwa := deep_W (leafL ta) k
      have hwb := deep_W (leafL tb) k
      have haa := deep_AL (leafL ta) (by simp [leafL, AL, ALK]) k
      have hab := deep_AL (leafL tb) (by simp [leafL, AL, ALK]) k
      have hat := deep_at (leafL ta) k
      have hl1 : ∀ t, W (leafL t) = 1 := fun t => by simp [leafL, W, WK]
      rw [hl1] at hwa hwb
      rw [HTA.out, HTB.out] at hdif
      obtain ⟨⟨a0, a1, a2, a3, a4, a5⟩, ha⟩ : ∃ a, deepL k (leafL ta) = a := ⟨_, rfl⟩
      obtain ⟨⟨b0, b1, b2, b3, b4, b5⟩, hb⟩ : ∃ b, deepL k (leafL tb) = b := ⟨_, rfl⟩
      rw [ha] at hXa hTa hdif hwa haa hat
      rw [hb] at hXb hTb hdif hwb hab
      dsimp only at hXa hTa hXb hTb
      have HTT := hide hTa
      have HAT := hide hat
      have HWA := hide hwa
      have HAA := hide haa
      have HXA := hide hXa
      have HB := hide hB
      have HD := hide (diffTV 6 ⟨a0, a1, a2, a3, a4, a5⟩ ⟨b0, b1, b2, b3, b4, b5⟩ _ _ wr hTa.now hTb.now (by omega) haa hab (by omega))
      have hku2 : k ≤ 2000 := hu2
      have a0_ := cell_of_row _ _ 0 _ _ _ hXa
      have b0_ := cell_of_row _ _ 0 _ _ _ hXb
      have a1_ := cell_of_row _ _ 1 _ _ _ hXa
      have b1_ := cell_of_row _ _ 1 _ _ _ hXb
      have a2_ := cell_of_row _ _ 2 _ _ _ hXa
      have b2_ := cell_of_row _ _ 2 _ _ _ hXb
      have a3_ := cell_of_row _ _ 3 _ _ _ hXa
      have b3_ := cell_of_row _ _ 3 _ _ _ hXb
      have a4_ := cell_of_row _ _ 4 _ _ _ hXa
      have b4_ := cell_of_row _ _ 4 _ _ _ hXb
      have a5_ := cell_of_row _ _ 5 _ _ _ hXa
      have b5_ := cell_of_row _ _ 5 _ _ _ hXb
      cases hq : (sh.toList == rh.toList) with
      | true =>
        rw [hq] at hdif
        simp only [if_true, Option.map_none] at hdif
        rw [hdif] at HD
        have HQ := hide hq
        clear hdif hwa hwb haa hab hat ha hb hXa hTa hXb hTb hB hX hlt hk hl1 hq
        go_wp2_with fail
        refine HD.out.mono ?_
        rintro e w5 ⟨v1, rfl, hR1, hB5⟩
        obtain ⟨Q1, q1, rfl, -, -⟩ := sliceR (l := []) hR1
        dsimp only [resD]
        have HB5 := hide (below_step HB.out hB5)
        clear hR1 hB5 HD a0_ a1_ a2_ a3_ a4_ a5_ b0_ b1_ b2_ b3_ b4_ b5_
        rw [List.length_nil]
        go_wp2_with fail
        refine (arbourkeep_Head.calls _ _ _ _ HSH.out).mono ?_
        rintro e w' ⟨rfl, ⟨n5, rfl⟩⟩
        dsimp only
        go_wp2_with fail
        refine (arbourkeep_Head.calls _ _ _ _ HRH.out).mono ?_
        rintro e w' ⟨rfl, ⟨n6, rfl⟩⟩
        dsimp only
        have hb6 := pw_below_drewN (pw_below_drewN HB5.out n5) n6
        generalize ((w5.drewN n5).drewN n6) = w6 at hb6 ⊢
        have HB6 := hide hb6
        clear hb6
        have hq := HQ.out
        go_wp2_with fail
        refine (known w6).mono ?_
        rintro e w7 ⟨rfl, hB7⟩
        dsimp only
        have HB7 := hide (below_step HB6.out hB7)
        clear hB7
        go_wp2_with fail
        go_ret
        exact ⟨rfl, HB7.out⟩
      | false =>
        rw [hq] at hdif
        rw [if_neg (by decide), Option.map_some, List.append_nil] at hdif
        rw [hdif] at HD
        have HQ := hide hq
        clear hdif hwa hwb haa hab hat ha hb hXa hTa hXb hTb hB hX hlt hk hl1 hq
        go_wp2_with fail
        refine HD.out.mono ?_
        rintro e w5 ⟨v1, rfl, hR1, hB5⟩
        obtain ⟨Q1, q1, rfl, hq1, hCQ⟩ := sliceR (l := List.replicate k 0) (by rw [List.map_replicate]; exact hR1)
        dsimp only [resD]
        rw [List.length_replicate, List.map_replicate] at hCQ
        rw [List.length_replicate] at hq1 ⊢
        have HB5 := hide (below_step HB.out hB5)
        have HB5' := hide hB5
        have HCQ := hide hCQ
        have m0_ := cellW a0_ hB5
        have m1_ := cellW a1_ hB5
        have m2_ := cellW a2_ hB5
        have m3_ := cellW a3_ hB5
        have m4_ := cellW a4_ hB5
        have m5_ := cellW a5_ hB5
        clear hR1 hB5 HD a0_ a1_ a2_ a3_ a4_ a5_ b0_ b1_ b2_ b3_ b4_ b5_ hCQ
        go_wp2_with fail
        refine (arbourkeep_Head.calls _ _ _ _ HSH.out).mono ?_
        rintro e w' ⟨rfl, ⟨n5, rfl⟩⟩
        dsimp only
        go_wp2_with fail
        refine (arbourkeep_Head.calls _ _ _ _ HRH.out).mono ?_
        rintro e w' ⟨rfl, ⟨n6, rfl⟩⟩
        dsimp only
        have hb56 := pw_below_drewN (pw_below_drewN (Below.refl w5.heap.size w5) n5) n6
        generalize ((w5.drewN n5).drewN n6) = w6 at hb56 ⊢
        have HB6 := hide (below_step HB5.out hb56)
        have HB6' := hide (below_step HB5'.out hb56)
        have HC6 := hide (Kd.C_below HCQ.out hb56)
        have p0_ := cellW m0_ hb56
        have p1_ := cellW m1_ hb56
        have p2_ := cellW m2_ hb56
        have p3_ := cellW m3_ hb56
        have p4_ := cellW m4_ hb56
        have p5_ := cellW m5_ hb56
        clear hb56 m0_ m1_ m2_ m3_ m4_ m5_
        have hq := HQ.out
        go_wp2_with fail
        have hcall := at_ ⟨a0, a1, a2, a3, a4, a5⟩ _ Q1 q1 (List.replicate k 0) w6 (fun q => X + 2 ≤ q) (HTT.out.below HB6'.out) (by rw [List.length_replicate]; exact HC6.out) (by have := HWA.out; omega) (AL_up 6 100000000 (by omega) _ _ (Nat.le_refl _) HAA.out)
        rw [List.length_replicate, HAT.out] at hcall
        refine hcall.mono ?_
        rintro e w7 ⟨v2, rfl, hT7, hB7⟩
        obtain ⟨E3, e3, E5, e5, rfl, -⟩ := hT7.open_
        dsimp only [Option.isSome_some, Option.getD_some, leafL]
        rw [List.length_nil, List.length_nil]
        have HB7 := hide (below_step HB6.out hB7)
        have HC7 := hide (Kd.C_below HC6.out hB7)
        clear hT7 hB7 hcall p0_ p1_ p2_ p3_ p4_ p5_
        go_upto_region 13 with fail
        have b8 := below_alloc (Below.refl w7.heap.size w7) (.cells #[.int .i64 4, .int .i64 0, .string ⟨#[]⟩, .slice E3 0 e3, .string ta, .slice E5 0 e5] 26)
        have c8 := cell_of_row _ _ 0 _ _ _ (heap_alloc_new w7 (.cells #[.int .i64 4, .int .i64 0, .string ⟨#[]⟩, .slice E3 0 e3, .string ta, .slice E5 0 e5] 26))
        have HB8 := hide (below_step HB7.out b8)
        have HC8 := hide (Kd.C_below HC7.out b8)
        obtain ⟨w8, hw8⟩ : ∃ w8, w7.alloc (.cells #[.int .i64 4, .int .i64 0, .string ⟨#[]⟩, .slice E3 0 e3, .string ta, .slice E5 0 e5] 26) = w8 := ⟨_, rfl⟩
        rw [hw8] at c8 HB8 HC8 ⊢
        clear hw8 b8
        generalize w7.heap.size = Z at c8 ⊢
        have HTX := hide (show ∃ tx : ByteArray, tx.size = 2 * k + (if k = 0 then 1 else 0) ∧ Calls Tryd.prog 17 #[.slice Q1 k q1] w8 fun e w' => e = .returned (.string tx) ∧ Below w8.heap.size w8 w' from by
          have h := text Q1 q1 (List.replicate k 0) w8 (by rw [List.map_replicate, List.length_replicate]; exact HC8.out) (fun x hx => by have := List.eq_of_mem_replicate hx; omega) (by rw [List.length_replicate]; omega)
          rw [List.length_replicate] at h
          refine ⟨_, ?_, h⟩
          by_cases h0 : k = 0
          · subst h0
            rfl
          · rw [if_neg h0, if_neg h0]
            show (segs (List.replicate k 0)).toArray.size = 2 * k + 0
            rw [List.size_toArray, segs_zero]
            omega)
        obtain ⟨tx, htx, hct⟩ := HTX.out
        obtain ⟨m, hm⟩ : ∃ m : Nat, (if k = 0 then 1 else 0) = m := ⟨_, rfl⟩
        have hmo := more k
        have hm2 : (if k = 0 then (1 : Int) else 0) = (m : Int) := by rw [← hm]; split <;> rfl
        have hm3 : m ≤ 1 := by rw [← hm]; split <;> omega
        rw [hm] at htx
        have HMO := hide (fun W : World => by have h := more k W; rw [hm2] at h; exact h)
        have HCT := hide hct
        clear HTX hct hmo hm hm2 hq
        have e1_ : ((k : Int) == (k : Int)) = true := by rw [beq_iff_eq]
        have e3_ : ((tx.size : Int) == 2 * (k : Int) + (m : Int)) = true := by rw [beq_iff_eq]; omega
        have HTXS := hide htx
        clear htx
        go_wp2_with fail
        refine HCT.out.mono ?_
        rintro e w9 ⟨rfl, hB9⟩
        dsimp only
        have HB9 := hide (below_step HB8.out hB9)
        clear hB9 c8
        go_wp2_with fail
        refine (HMO.out w9).mono ?_
        rintro e w' ⟨rfl, rfl⟩
        dsimp only
        go_wp2_with fail
        refine (known w').mono ?_
        rintro e w10 ⟨rfl, hB10⟩
        dsimp only
        have HB10 := hide (below_step HB9.out hB10)
        clear hB10
        go_wp2_with fail
        go_ret
        exact ⟨rfl, HB10.out⟩
end Go.Proofs.YteglfgmgpbablaaDoor.Cmp

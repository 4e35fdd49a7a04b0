/- Plain values of the small callees of this seat: a text's head, a number brought into bounds, few attributes; the operation that 'made' makes. -/
import Derived.Test.YtbljbgjecnmeeaaDoorPOpTellsx2
namespace Go.Proofs.YtbljbgjecnmeeaaDoor.OpP
open Go.RowKit Go.Proofs.YtbljbgjecnmeeaaDoor.POpTells Go.Proofs.YtbljbgjecnmeeaaDoorW.PrintWords Go.Proofs.YtbljbgjecnmeeaaDoorW.PrintLast
theorem hide {p : Prop} (h : p) : Hid p := h
theorem cellW {W W' : World} {p : Addr} {v : Value} (h : W.cell? p = some v) (hb : Below W.heap.size W W') : W'.cell? p = some v := (hb.cell (World.block_lt_of_cell? _ _ h)).trans h
theorem within0 (a : Int) (m : Nat) (h2 : m ≤ 4000000000) : ∃ t : Int, 0 ≤ t ∧ t ≤ m ∧ arbourbook_Within.f a 0 m = some t := by
  have e1 : wrap64 (wrap64 ((m : Int) - 0) + 1) = m + 1 := by rw [IntWalk.wrap64_in _ (by rw [IntWalk.wrap64_in _ (by omega)]; omega), IntWalk.wrap64_in _ (by omega)]; omega
  have t1 := Int.tmod_lt_of_pos a (show (0 : Int) < (m : Int) + 1 by omega)
  have t2 := Int.lt_tmod_of_pos a (show (0 : Int) < (m : Int) + 1 by omega)
  unfold arbourbook_Within.f
  rw [e1, if_neg (by omega)]
  by_cases h : Int.tmod a ((m : Int) + 1) < 0
  · rw [if_pos h]
    refine ⟨_, ?_, ?_, rfl⟩ <;> (rw [IntWalk.wrap64_in (Int.tmod a ((m : Int) + 1) + m) (by omega), IntWalk.wrap64_in (Int.tmod a ((m : Int) + 1) + m - 0) (by omega), IntWalk.wrap64_in (Int.tmod a ((m : Int) + 1) + m - 0 + 1) (by omega), IntWalk.wrap64_in _ (by omega)]; omega)
  · rw [if_neg h]
    refine ⟨_, ?_, ?_, rfl⟩ <;> (rw [IntWalk.wrap64_in _ (by omega)]; omega)
/-- A number brought into 0 .. n. -/
def withL (a : Int) (n : Nat) : Nat := ((arbourbook_Within.f a 0 n).getD 0).toNat
theorem with_some (a : Int) (n : Nat) (h : n ≤ 4000000000) : arbourbook_Within.f a 0 (n : Int) = some (withL a n : Int) ∧ withL a n ≤ n := by
  obtain ⟨t, h0, h1, ht⟩ := within0 a n h
  unfold withL
  rw [ht]
  refine ⟨?_, ?_⟩
  · simp only [Option.getD_some]; congr 1; omega
  · simp only [Option.getD_some]; omega
theorem with31 (a : Int) : arbourbook_Within.f a 0 2147483647 = some (withL a 2147483647 : Int) := (with_some a 2147483647 (by omega)).1
theorem with1000 (a : Int) : arbourbook_Within.f a 0 1000 = some (withL a 1000 : Int) := (with_some a 1000 (by omega)).1
theorem with1 (a : Int) : arbourbook_Within.f a 0 1 = some (withL a 1 : Int) := (with_some a 1 (by omega)).1
theorem with2 (a : Int) : arbourbook_Within.f a 0 2 = some (withL a 2 : Int) := (with_some a 2 (by omega)).1
/-- No more of a text than n bytes. -/
def capL (s : ByteArray) (n : Nat) : ByteArray := if n < s.size then s.extract 0 n else s
theorem capL_size (s : ByteArray) (n : Nat) : (capL s n).size ≤ n := by
  unfold capL
  split
  · rw [ByteArray.size_extract]; omega
  · omega
theorem head_some (s : ByteArray) (n : Nat) : arbourkeep_Head.f s (n : Int) = some (capL s n) := by
  unfold arbourkeep_Head.f capL
  by_cases h1 : n < s.size
  · rw [if_pos (by omega), if_pos (by omega), if_pos (by omega), if_pos h1]; rfl
  · rw [if_neg (by omega), if_neg h1]
/-- Few attributes. -/
def shortL (l : List S32) : List S32 := (l.take 6).map fun x => ⟨capL x.f0 20, capL x.f1 30⟩
theorem shortL_length (l : List S32) : (shortL l).length ≤ 6 := by
  unfold shortL
  rw [List.length_map, List.length_take]
  omega
theorem short_loop (ys : List S32) : ∀ (d k i : Nat), 6 - i = d → i ≤ 6 → i ≤ ys.length → 2 * d + 3 < k → arbourkeep_Short.l0 k ys ((ys.take i).map fun x => ⟨capL x.f0 20, capL x.f1 30⟩) (i : Int) = some (shortL ys) := by
  intro d
  induction d with
  | zero =>
    intro k i hd hi hl hk
    obtain ⟨m, rfl⟩ : ∃ m, k = m + 1 + 1 := ⟨k - 2, by omega⟩
    obtain rfl : i = 6 := by omega
    unfold arbourkeep_Short.l0
    have e6 : decide (((6 : Nat) : Int) < 6) = false := decide_eq_false (by omega)
    rw [e6]
    split <;> (unfold arbourkeep_Short.j1; rw [if_neg (by decide)]; rfl)
  | succ d ih =>
    intro k i hd hi hl' hk
    obtain ⟨m, rfl⟩ : ∃ m, k = m + 1 + 1 := ⟨k - 2, by omega⟩
    unfold arbourkeep_Short.l0
    have e6 : decide ((i : Int) < 6) = true := decide_eq_true (by omega)
    rw [e6]
    by_cases hl : (i : Int) < (ys.length : Int)
    · rw [if_pos hl]
      unfold arbourkeep_Short.j1
      have ew : wrap64 ((i : Int) + 1) = ((i + 1 : Nat) : Int) := by unfold wrap64; omega
      rw [if_pos rfl, if_pos (by omega), if_pos hl, show (20 : Int) = ((20 : Nat) : Int) from rfl, show (30 : Int) = ((30 : Nat) : Int) from rfl, head_some, Option.bind_some, head_some, Option.bind_some, if_pos (by rw [List.length_map, List.length_take]; omega), ew]
      have hx : rd_T32 ys (i : Int) = ys[i]'(by omega) := by
        unfold rd_T32
        rw [Int.toNat_natCast, List.getD_eq_getElem?_getD, List.getElem?_eq_getElem (by omega)]
        rfl
      have := ih m (i + 1) (by omega) (by omega) (by omega) (by omega)
      rw [List.take_succ_eq_append_getElem (by omega), List.map_append] at this
      rw [hx]
      exact this
    · rw [if_neg hl]
      unfold arbourkeep_Short.j1
      rw [if_neg (by decide)]
      have hi' : i = ys.length := by omega
      unfold shortL
      rw [List.take_of_length_le (by omega), List.take_of_length_le (by omega)]
theorem short_some (l : List S32) : arbourkeep_Short.f 40 l = some (shortL l) := by
  have h := short_loop l 6 40 0 rfl (by omega) (by omega) (by omega)
  rw [show ((0 : Nat) : Int) = 0 from rfl] at h
  exact h
/-- What 'made' makes of a Raw. -/
def madeN (o : S24) (k : Nat) : S24 :=
  let n := (withL o.f1 2147483647 : Int); let p := (withL o.f2 2147483647 : Int); let q := (withL o.f3 2147483647 : Int)
  match k with
  | 0 => ⟨1, n, 0, 0, 2 + (withL o.f4 1 : Int), (withL o.f5 2 : Int), capL o.f6 20, shortL o.f7, capL o.f8 30⟩
  | 1 => ⟨2, n, p, 0, 0, 0, ⟨#[]⟩, [], ⟨#[]⟩⟩
  | 2 => ⟨3, n, 0, q, 0, 0, ⟨#[]⟩, [], ⟨#[]⟩⟩
  | 3 => ⟨4, n, p, q, 0, 0, ⟨#[]⟩, [], ⟨#[]⟩⟩
  | 4 => ⟨5, 0, p, 0, 0, 0, ⟨#[]⟩, [], capL o.f8 30⟩
  | 5 => ⟨6, 0, p, q, 0, 0, ⟨#[]⟩, [], capL o.f8 30⟩
  | 6 => ⟨7, n, 0, 0, 0, 0, ⟨#[]⟩, [], ⟨#[]⟩⟩
  | 7 => ⟨8, 0, p, q, 0, 0, ⟨#[]⟩, [], ⟨#[]⟩⟩
  | 8 => ⟨9, n, 0, q, 0, 0, ⟨#[]⟩, [], ⟨#[]⟩⟩
  | 9 => ⟨10, n, 0, 0, 0, 0, ⟨#[]⟩, shortL o.f7, ⟨#[]⟩⟩
  | _ => ⟨11, 0, 0, 0, 0, 0, ⟨#[]⟩, [], ⟨#[]⟩⟩
def madeL (o : S24) (tame : Bool) (kind : Int) : S24 :=
  if tame then madeN o (withL kind 1000 % 11) else ⟨o.f0, o.f1, o.f2, o.f3, o.f4, o.f5, capL o.f6 20, shortL o.f7, capL o.f8 30⟩
/-- An operation as a value: v its attributes. -/
@[reducible] def opV (o : S24) (v : Value) : Value := .agg #[.int .i64 o.f0, .int .i64 o.f1, .int .i64 o.f2, .int .i64 o.f3, .int .i64 o.f4, .int .i64 o.f5, .string o.f6, v, .string o.f8]
theorem res_op {w : World} {X : Nat} {a b c d e f g h i : Value} (hb : w.heap[X]? = some (.cells #[a, b, c, d, e, f, g, h, i] 24 (0, 0))) (t : Tmp) {fn : Func} (tmps : Array Value) (hr : fn.results = #[.cell t 24]) (ht : tmps.getD t undef = .pointer (some ⟨X, 0, none⟩)) : (results fn tmps).run Tryd.prog w = .ok (.agg #[a, b, c, d, e, f, g, h, i]) w := by
  have z0 : w.cell? ⟨X, 0, none⟩ = some a := cell_of_row w X 0 _ _ _ hb
  have z1 : w.cell? ⟨X, 1, none⟩ = some b := cell_of_row w X 1 _ _ _ hb
  have z2 : w.cell? ⟨X, 2, none⟩ = some c := cell_of_row w X 2 _ _ _ hb
  have z3 : w.cell? ⟨X, 3, none⟩ = some d := cell_of_row w X 3 _ _ _ hb
  have z4 : w.cell? ⟨X, 4, none⟩ = some e := cell_of_row w X 4 _ _ _ hb
  have z5 : w.cell? ⟨X, 5, none⟩ = some f := cell_of_row w X 5 _ _ _ hb
  have z6 : w.cell? ⟨X, 6, none⟩ = some g := cell_of_row w X 6 _ _ _ hb
  have z7 : w.cell? ⟨X, 7, none⟩ = some h := cell_of_row w X 7 _ _ _ hb
  have z8 : w.cell? ⟨X, 8, none⟩ = some i := cell_of_row w X 8 _ _ _ hb
  rw [Array.getD_eq_getD_getElem?] at ht
  simp [results, hr, ht, go_sem, z0, z1, z2, z3, z4, z5, z6, z7, z8]
theorem res_op2 {w : World} {X : Nat} {a b c d e f g h i : Value} (hb : w.heap[X]? = some (.cells #[a, b, c, d, e, f, g, h, i] 24 (0, 0))) (t u : Tmp) {fn : Func} (tmps : Array Value) (hr : fn.results = #[.cell t 24, .tmp u]) (ht : tmps.getD t undef = .pointer (some ⟨X, 0, none⟩)) {r : Value} (hu : tmps.getD u undef = r) : (results fn tmps).run Tryd.prog w = .ok (.tuple #[.agg #[a, b, c, d, e, f, g, h, i], r]) w := by
  have z0 : w.cell? ⟨X, 0, none⟩ = some a := cell_of_row w X 0 _ _ _ hb
  have z1 : w.cell? ⟨X, 1, none⟩ = some b := cell_of_row w X 1 _ _ _ hb
  have z2 : w.cell? ⟨X, 2, none⟩ = some c := cell_of_row w X 2 _ _ _ hb
  have z3 : w.cell? ⟨X, 3, none⟩ = some d := cell_of_row w X 3 _ _ _ hb
  have z4 : w.cell? ⟨X, 4, none⟩ = some e := cell_of_row w X 4 _ _ _ hb
  have z5 : w.cell? ⟨X, 5, none⟩ = some f := cell_of_row w X 5 _ _ _ hb
  have z6 : w.cell? ⟨X, 6, none⟩ = some g := cell_of_row w X 6 _ _ _ hb
  have z7 : w.cell? ⟨X, 7, none⟩ = some h := cell_of_row w X 7 _ _ _ hb
  have z8 : w.cell? ⟨X, 8, none⟩ = some i := cell_of_row w X 8 _ _ _ hb
  rw [Array.getD_eq_getD_getElem?] at ht hu
  simp [results, hr, ht, hu, go_sem, z0, z1, z2, z3, z4, z5, z6, z7, z8]
/-- Nine stores. -/
abbrev set9 (w : World) (g : Nat) (v0 v1 v2 v3 v4 v5 v6 v7 v8 : Value) : World := (((((((((w.setCell ⟨g, 0, none⟩ v0).setCell ⟨g, 1, none⟩ v1).setCell ⟨g, 2, none⟩ v2).setCell ⟨g, 3, none⟩ v3).setCell ⟨g, 4, none⟩ v4).setCell ⟨g, 5, none⟩ v5).setCell ⟨g, 6, none⟩ v6).setCell ⟨g, 7, none⟩ v7).setCell ⟨g, 8, none⟩ v8)
theorem set9_blk {w : World} {g : Nat} {a0 a1 a2 a3 a4 a5 a6 a7 a8 : Value} (h : w.heap[g]? = some (.cells #[a0, a1, a2, a3, a4, a5, a6, a7, a8] 24 (0, 0))) (v0 v1 v2 v3 v4 v5 v6 v7 v8 : Value) : (set9 w g v0 v1 v2 v3 v4 v5 v6 v7 v8).heap[g]? = some (.cells #[v0, v1, v2, v3, v4, v5, v6, v7, v8] 24 (0, 0)) := by
  have h0 : ((w.setCell ⟨g, 0, none⟩ v0)).heap[g]? = some (.cells #[v0, a1, a2, a3, a4, a5, a6, a7, a8] 24 (0, 0)) := blk_set h 0 v0
  have h1 : (((w.setCell ⟨g, 0, none⟩ v0).setCell ⟨g, 1, none⟩ v1)).heap[g]? = some (.cells #[v0, v1, a2, a3, a4, a5, a6, a7, a8] 24 (0, 0)) := blk_set h0 1 v1
  have h2 : ((((w.setCell ⟨g, 0, none⟩ v0).setCell ⟨g, 1, none⟩ v1).setCell ⟨g, 2, none⟩ v2)).heap[g]? = some (.cells #[v0, v1, v2, a3, a4, a5, a6, a7, a8] 24 (0, 0)) := blk_set h1 2 v2
  have h3 : (((((w.setCell ⟨g, 0, none⟩ v0).setCell ⟨g, 1, none⟩ v1).setCell ⟨g, 2, none⟩ v2).setCell ⟨g, 3, none⟩ v3)).heap[g]? = some (.cells #[v0, v1, v2, v3, a4, a5, a6, a7, a8] 24 (0, 0)) := blk_set h2 3 v3
  have h4 : ((((((w.setCell ⟨g, 0, none⟩ v0).setCell ⟨g, 1, none⟩ v1).setCell ⟨g, 2, none⟩ v2).setCell ⟨g, 3, none⟩ v3).setCell ⟨g, 4, none⟩ v4)).heap[g]? = some (.cells #[v0, v1, v2, v3, v4, a5, a6, a7, a8] 24 (0, 0)) := blk_set h3 4 v4
  have h5 : (((((((w.setCell ⟨g, 0, none⟩ v0).setCell ⟨g, 1, none⟩ v1).setCell ⟨g, 2, none⟩ v2).setCell ⟨g, 3, none⟩ v3).setCell ⟨g, 4, none⟩ v4).setCell ⟨g, 5, none⟩ v5)).heap[g]? = some (.cells #[v0, v1, v2, v3, v4, v5, a6, a7, a8] 24 (0, 0)) := blk_set h4 5 v5
  have h6 : ((((((((w.setCell ⟨g, 0, none⟩ v0).setCell ⟨g, 1, none⟩ v1).setCell ⟨g, 2, none⟩ v2).setCell ⟨g, 3, none⟩ v3).setCell ⟨g, 4, none⟩ v4).setCell ⟨g, 5, none⟩ v5).setCell ⟨g, 6, none⟩ v6)).heap[g]? = some (.cells #[v0, v1, v2, v3, v4, v5, v6, a7, a8] 24 (0, 0)) := blk_set h5 6 v6
  have h7 : (((((((((w.setCell ⟨g, 0, none⟩ v0).setCell ⟨g, 1, none⟩ v1).setCell ⟨g, 2, none⟩ v2).setCell ⟨g, 3, none⟩ v3).setCell ⟨g, 4, none⟩ v4).setCell ⟨g, 5, none⟩ v5).setCell ⟨g, 6, none⟩ v6).setCell ⟨g, 7, none⟩ v7)).heap[g]? = some (.cells #[v0, v1, v2, v3, v4, v5, v6, v7, a8] 24 (0, 0)) := blk_set h6 7 v7
  have h8 : ((((((((((w.setCell ⟨g, 0, none⟩ v0).setCell ⟨g, 1, none⟩ v1).setCell ⟨g, 2, none⟩ v2).setCell ⟨g, 3, none⟩ v3).setCell ⟨g, 4, none⟩ v4).setCell ⟨g, 5, none⟩ v5).setCell ⟨g, 6, none⟩ v6).setCell ⟨g, 7, none⟩ v7).setCell ⟨g, 8, none⟩ v8)).heap[g]? = some (.cells #[v0, v1, v2, v3, v4, v5, v6, v7, v8] 24 (0, 0)) := blk_set h7 8 v8
  exact h8
theorem set9_R {w : World} {g : Nat} {a0 a1 a2 a3 a4 a5 a6 a7 a8 : Value} (h : w.heap[g]? = some (.cells #[a0, a1, a2, a3, a4, a5, a6, a7, a8] 24 (0, 0))) (v0 v1 v2 v3 v4 v5 v6 v7 v8 : Value) {b : Nat} {ok : Nat → Prop} {v : Value} {l : List S32} (hr : k32.R 32 w b ok v l) : k32.R 32 (set9 w g v0 v1 v2 v3 v4 v5 v6 v7 v8) b ok v l := by
  have h0 : ((w.setCell ⟨g, 0, none⟩ v0)).heap[g]? = some (.cells #[v0, a1, a2, a3, a4, a5, a6, a7, a8] 24 (0, 0)) := blk_set h 0 v0
  have r0 : k32.R 32 (w.setCell ⟨g, 0, none⟩ v0) b ok v l := Kd.R_set hr h (by decide) 0 v0
  have h1 : (((w.setCell ⟨g, 0, none⟩ v0).setCell ⟨g, 1, none⟩ v1)).heap[g]? = some (.cells #[v0, v1, a2, a3, a4, a5, a6, a7, a8] 24 (0, 0)) := blk_set h0 1 v1
  have r1 : k32.R 32 ((w.setCell ⟨g, 0, none⟩ v0).setCell ⟨g, 1, none⟩ v1) b ok v l := Kd.R_set r0 h0 (by decide) 1 v1
  have h2 : ((((w.setCell ⟨g, 0, none⟩ v0).setCell ⟨g, 1, none⟩ v1).setCell ⟨g, 2, none⟩ v2)).heap[g]? = some (.cells #[v0, v1, v2, a3, a4, a5, a6, a7, a8] 24 (0, 0)) := blk_set h1 2 v2
  have r2 : k32.R 32 (((w.setCell ⟨g, 0, none⟩ v0).setCell ⟨g, 1, none⟩ v1).setCell ⟨g, 2, none⟩ v2) b ok v l := Kd.R_set r1 h1 (by decide) 2 v2
  have h3 : (((((w.setCell ⟨g, 0, none⟩ v0).setCell ⟨g, 1, none⟩ v1).setCell ⟨g, 2, none⟩ v2).setCell ⟨g, 3, none⟩ v3)).heap[g]? = some (.cells #[v0, v1, v2, v3, a4, a5, a6, a7, a8] 24 (0, 0)) := blk_set h2 3 v3
  have r3 : k32.R 32 ((((w.setCell ⟨g, 0, none⟩ v0).setCell ⟨g, 1, none⟩ v1).setCell ⟨g, 2, none⟩ v2).setCell ⟨g, 3, none⟩ v3) b ok v l := Kd.R_set r2 h2 (by decide) 3 v3
  have h4 : ((((((w.setCell ⟨g, 0, none⟩ v0).setCell ⟨g, 1, none⟩ v1).setCell ⟨g, 2, none⟩ v2).setCell ⟨g, 3, none⟩ v3).setCell ⟨g, 4, none⟩ v4)).heap[g]? = some (.cells #[v0, v1, v2, v3, v4, a5, a6, a7, a8] 24 (0, 0)) := blk_set h3 4 v4
  have r4 : k32.R 32 (((((w.setCell ⟨g, 0, none⟩ v0).setCell ⟨g, 1, none⟩ v1).setCell ⟨g, 2, none⟩ v2).setCell ⟨g, 3, none⟩ v3).setCell ⟨g, 4, none⟩ v4) b ok v l := Kd.R_set r3 h3 (by decide) 4 v4
  have h5 : (((((((w.setCell ⟨g, 0, none⟩ v0).setCell ⟨g, 1, none⟩ v1).setCell ⟨g, 2, none⟩ v2).setCell ⟨g, 3, none⟩ v3).setCell ⟨g, 4, none⟩ v4).setCell ⟨g, 5, none⟩ v5)).heap[g]? = some (.cells #[v0, v1, v2, v3, v4, v5, a6, a7, a8] 24 (0, 0)) := blk_set h4 5 v5
  have r5 : k32.R 32 ((((((w.setCell ⟨g, 0, none⟩ v0).setCell ⟨g, 1, none⟩ v1).setCell ⟨g, 2, none⟩ v2).setCell ⟨g, 3, none⟩ v3).setCell ⟨g, 4, none⟩ v4).setCell ⟨g, 5, none⟩ v5) b ok v l := Kd.R_set r4 h4 (by decide) 5 v5
  have h6 : ((((((((w.setCell ⟨g, 0, none⟩ v0).setCell ⟨g, 1, none⟩ v1).setCell ⟨g, 2, none⟩ v2).setCell ⟨g, 3, none⟩ v3).setCell ⟨g, 4, none⟩ v4).setCell ⟨g, 5, none⟩ v5).setCell ⟨g, 6, none⟩ v6)).heap[g]? = some (.cells #[v0, v1, v2, v3, v4, v5, v6, a7, a8] 24 (0, 0)) := blk_set h5 6 v6
  have r6 : k32.R 32 (((((((w.setCell ⟨g, 0, none⟩ v0).setCell ⟨g, 1, none⟩ v1).setCell ⟨g, 2, none⟩ v2).setCell ⟨g, 3, none⟩ v3).setCell ⟨g, 4, none⟩ v4).setCell ⟨g, 5, none⟩ v5).setCell ⟨g, 6, none⟩ v6) b ok v l := Kd.R_set r5 h5 (by decide) 6 v6
  have h7 : (((((((((w.setCell ⟨g, 0, none⟩ v0).setCell ⟨g, 1, none⟩ v1).setCell ⟨g, 2, none⟩ v2).setCell ⟨g, 3, none⟩ v3).setCell ⟨g, 4, none⟩ v4).setCell ⟨g, 5, none⟩ v5).setCell ⟨g, 6, none⟩ v6).setCell ⟨g, 7, none⟩ v7)).heap[g]? = some (.cells #[v0, v1, v2, v3, v4, v5, v6, v7, a8] 24 (0, 0)) := blk_set h6 7 v7
  have r7 : k32.R 32 ((((((((w.setCell ⟨g, 0, none⟩ v0).setCell ⟨g, 1, none⟩ v1).setCell ⟨g, 2, none⟩ v2).setCell ⟨g, 3, none⟩ v3).setCell ⟨g, 4, none⟩ v4).setCell ⟨g, 5, none⟩ v5).setCell ⟨g, 6, none⟩ v6).setCell ⟨g, 7, none⟩ v7) b ok v l := Kd.R_set r6 h6 (by decide) 7 v7
  have h8 : ((((((((((w.setCell ⟨g, 0, none⟩ v0).setCell ⟨g, 1, none⟩ v1).setCell ⟨g, 2, none⟩ v2).setCell ⟨g, 3, none⟩ v3).setCell ⟨g, 4, none⟩ v4).setCell ⟨g, 5, none⟩ v5).setCell ⟨g, 6, none⟩ v6).setCell ⟨g, 7, none⟩ v7).setCell ⟨g, 8, none⟩ v8)).heap[g]? = some (.cells #[v0, v1, v2, v3, v4, v5, v6, v7, v8] 24 (0, 0)) := blk_set h7 8 v8
  have r8 : k32.R 32 (((((((((w.setCell ⟨g, 0, none⟩ v0).setCell ⟨g, 1, none⟩ v1).setCell ⟨g, 2, none⟩ v2).setCell ⟨g, 3, none⟩ v3).setCell ⟨g, 4, none⟩ v4).setCell ⟨g, 5, none⟩ v5).setCell ⟨g, 6, none⟩ v6).setCell ⟨g, 7, none⟩ v7).setCell ⟨g, 8, none⟩ v8) b ok v l := Kd.R_set r7 h7 (by decide) 8 v8
  exact r8
theorem set9_below {B : Nat} {w0 w : World} {g : Nat} (hb : Below B w0 w) (hg : B ≤ g) (v0 v1 v2 v3 v4 v5 v6 v7 v8 : Value) : Below B w0 (set9 w g v0 v1 v2 v3 v4 v5 v6 v7 v8) := (((((((((hb.setCell (p := ⟨g, 0, none⟩) hg v0).setCell (p := ⟨g, 1, none⟩) hg v1).setCell (p := ⟨g, 2, none⟩) hg v2).setCell (p := ⟨g, 3, none⟩) hg v3).setCell (p := ⟨g, 4, none⟩) hg v4).setCell (p := ⟨g, 5, none⟩) hg v5).setCell (p := ⟨g, 6, none⟩) hg v6).setCell (p := ⟨g, 7, none⟩) hg v7).setCell (p := ⟨g, 8, none⟩) hg v8)
end Go.Proofs.YtbljbgjecnmeeaaDoor.OpP

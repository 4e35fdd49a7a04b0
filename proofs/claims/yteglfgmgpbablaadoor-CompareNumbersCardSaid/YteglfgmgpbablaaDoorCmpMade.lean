/- The values of small callees; the walk of arbourlaw24.made. -/
import Derived.Test.YteglfgmgpbablaaDoorCmpFoot
import Derived.Test.YteglfgmgpbablaaDoorPCompareTellsx2
import Derived.Deep.DeepCutAuto
import Derived.Deep.CutBlock
namespace Go.Proofs.YteglfgmgpbablaaDoor.Cmp
open Go.RowKit Go.Proofs.YteglfgmgpbablaaDoor.PCompareTells Go.Proofs.YteglfgmgpbablaaDoorW.PrintWords Go.Proofs.YteglfgmgpbablaaDoorW.PrintLast
theorem within0 (a : Int) (m : Nat) (h2 : m ≤ 2000000) : ∃ t : Int, 0 ≤ t ∧ t ≤ m ∧ arbourbook_Within.f a 0 m = some t := by
  have e1 : wrap64 (wrap64 ((m : Int) - 0) + 1) = m + 1 := by rw [IntWalk.wrap64_in _ (by rw [IntWalk.wrap64_in _ (by omega)]; omega), IntWalk.wrap64_in _ (by omega)]; omega
  have t1 := Int.tmod_lt_of_pos a (show (0 : Int) < (m : Int) + 1 by omega)
  have t2 := Int.lt_tmod_of_pos a (show (0 : Int) < (m : Int) + 1 by omega)
  unfold arbourbook_Within.f
  rw [e1, if_neg (by omega)]
  by_cases h : Int.tmod a ((m : Int) + 1) < 0
  · rw [if_pos h]
    refine ⟨_, ?_, ?_, rfl⟩ <;> (rw [IntWalk.wrap64_in (Int.tmod a ((m : Int) + 1) + m) (by omega), IntWalk.wrap64_in (Int.tmod a ((m : Int) + 1) + m - 0) (by omega), IntWalk.wrap64_in (Int.tmod a ((m : Int) + 1) + m - 0 + 1) (by omega), IntWalk.wrap64_in _ (by omega)]; omega)
  · rw [if_neg h]
    refine ⟨_, ?_, ?_, rfl⟩ <;> (rw [IntWalk.wrap64_in _ (by omega)]; omega)
/-- What a number is named. -/
def nm (n : Int) : ByteArray := (arbourkeep_Names.f n).getD ByteArray.empty
theorem names_some (n : Int) : arbourkeep_Names.f n = some (nm n) := by
  have h : (arbourkeep_Names.f n).isSome = true := by
    obtain ⟨t, h0, h1, ht⟩ := within0 n 1048576 (by omega)
    have h2 := Int.tmod_lt_of_pos t (show (0 : Int) < 48 by omega)
    have h3 := Int.tmod_nonneg 48 h0
    unfold arbourkeep_Names.f
    rw [show ((1048576 : Nat) : Int) = 1048576 from rfl] at ht
    rw [Option.bind_some, ht, Option.bind_some]
    rw [if_neg (by simp), if_pos (by simpa using h3), if_pos (by simpa using h2)]
    rfl
  unfold nm
  cases e : arbourkeep_Names.f n with
  | none => rw [e] at h; cases h
  | some r => rfl
def headL (a : ByteArray) : ByteArray := (arbourkeep_Head.f a 9).getD ByteArray.empty
theorem head_any (s : ByteArray) (n : Int) (h : 0 ≤ n) : ∃ r, arbourkeep_Head.f s n = some r := by
  unfold arbourkeep_Head.f
  by_cases h1 : n < (s.size : Int)
  · rw [if_pos h1, if_pos h, if_pos (by omega)]; exact ⟨_, rfl⟩
  · rw [if_neg h1]; exact ⟨_, rfl⟩
theorem head_some (s : ByteArray) : arbourkeep_Head.f s 9 = some (headL s) := by
  obtain ⟨r, h⟩ := head_any s 9 (by omega)
  unfold headL
  rw [h]
  rfl
theorem short_loop (ys : List S47) : ∀ (d k i : Nat) (acc : List S47), 6 - i = d → i ≤ 6 → acc.length = i → 2 * d + 3 < k → ∃ r, arbourkeep_Short.l0 k ys acc (i : Int) = some r ∧ r.length ≤ 6 := by
  intro d
  induction d with
  | zero =>
    intro k i acc hd hi ha hk
    obtain ⟨m, rfl⟩ : ∃ m, k = m + 1 + 1 := ⟨k - 2, by omega⟩
    unfold arbourkeep_Short.l0
    refine ⟨acc, ?_, by omega⟩
    have e6 : decide ((i : Int) < 6) = false := decide_eq_false (by omega)
    rw [e6]
    split <;> (unfold arbourkeep_Short.j1; rw [if_neg (by decide)])
  | succ d ih =>
    intro k i acc hd hi ha hk
    obtain ⟨m, rfl⟩ : ∃ m, k = m + 1 + 1 := ⟨k - 2, by omega⟩
    unfold arbourkeep_Short.l0
    have e6 : decide ((i : Int) < 6) = true := decide_eq_true (by omega)
    rw [e6]
    by_cases hl : (i : Int) < (ys.length : Int)
    · rw [if_pos hl]
      unfold arbourkeep_Short.j1
      rw [if_pos rfl, if_pos (by omega), if_pos hl]
      obtain ⟨r0, h0⟩ := head_any (rd_T47 ys i).f0 20 (by omega)
      obtain ⟨r1, h1⟩ := head_any (rd_T47 ys i).f1 30 (by omega)
      have ew : wrap64 ((i : Int) + 1) = ((i + 1 : Nat) : Int) := by unfold wrap64; omega
      rw [h0, Option.bind_some, h1, Option.bind_some, if_pos (by omega), ew]
      exact ih m (i + 1) _ (by omega) (by omega) (by simp; omega) (by omega)
    · rw [if_neg hl]
      unfold arbourkeep_Short.j1
      rw [if_neg (by decide)]
      exact ⟨acc, rfl, by omega⟩
theorem has_loop (l : List S47) (a : ByteArray) (hn : l.length ≤ 20) : ∀ (d i k : Nat), l.length - i = d → i ≤ l.length → d < k → ∃ r, arbourref7_Has.l0 k l a (i : Int) = some r
  | 0, i, k, hd, hi, hk => by
    obtain ⟨k, rfl⟩ : ∃ m, k = m + 1 := ⟨k - 1, by omega⟩
    rw [arbourref7_Has.l0, if_neg (by omega)]
    exact ⟨_, rfl⟩
  | d + 1, i, k, hd, hi, hk => by
    obtain ⟨k, rfl⟩ : ∃ m, k = m + 1 := ⟨k - 1, by omega⟩
    rw [arbourref7_Has.l0, if_pos (by omega), if_pos (by omega)]
    split
    · exact ⟨_, rfl⟩
    · rw [show wrap64 ((i : Int) + 1) = ((i + 1 : Nat) : Int) from by rw [IntWalk.wrap64_in _ (by omega)]; rfl]
      exact has_loop l a hn d (i + 1) k (by omega) (by omega) (by omega)
theorem add_any (l : List S47) (a b : ByteArray) (hn : l.length ≤ 10) (k : Nat) (hk : 10 < k) : ∃ r, arbourref7_Add.f k l a b = some r ∧ r.length ≤ l.length + 1 := by
  obtain ⟨r, hr⟩ := has_loop l a (by omega) l.length 0 k (by omega) (by omega) (by omega)
  unfold arbourref7_Add.f arbourref7_Has.f
  rw [show ((0 : Nat) : Int) = 0 from rfl] at hr
  rw [Option.bind_some, if_pos (by simp; omega), Option.bind_some, hr, Option.bind_some]
  split
  · rw [if_pos (by simp; omega)]
    exact ⟨_, rfl, by simp⟩
  · exact ⟨_, rfl, by simp⟩
theorem more_loop (l : List S47) (hn : l.length ≤ 6) : ∀ (d i k : Nat) (acc : List S47), l.length - i = d → i ≤ l.length → acc.length ≤ i → d + 12 < k → ∃ r, arbourref7_More.l0 k l acc (i : Int) = some r ∧ r.length ≤ 6
  | 0, i, k, acc, hd, hi, ha, hk => by
    obtain ⟨k, rfl⟩ : ∃ m, k = m + 1 := ⟨k - 1, by omega⟩
    rw [arbourref7_More.l0, if_neg (by omega)]
    exact ⟨_, rfl, by omega⟩
  | d + 1, i, k, acc, hd, hi, ha, hk => by
    obtain ⟨k, rfl⟩ : ∃ m, k = m + 1 := ⟨k - 1, by omega⟩
    obtain ⟨r, hr, hl⟩ := add_any acc (rd_T47 l (i : Int)).f0 (rd_T47 l (i : Int)).f1 (by omega) k (by omega)
    rw [arbourref7_More.l0, if_pos (by omega), if_pos (by omega), hr, Option.bind_some, show wrap64 ((i : Int) + 1) = ((i + 1 : Nat) : Int) from by rw [IntWalk.wrap64_in _ (by omega)]; rfl]
    exact more_loop l hn d (i + 1) k r (by omega) (by omega) (by omega) (by omega)
def attrL (l : List S47) : List S47 := (arbourlaw24_attrs.f 40 l).getD []
theorem attr_some (l : List S47) : arbourlaw24_attrs.f 40 l = some (attrL l) ∧ (attrL l).length ≤ 6 := by
  obtain ⟨r, hr, hl⟩ := short_loop l 6 40 0 [] rfl (by omega) rfl (by omega)
  obtain ⟨u, hu, hul⟩ := more_loop r hl r.length 0 40 [] (by omega) (by omega) (by simp) (by omega)
  have h : arbourlaw24_attrs.f 40 l = some u := by
    unfold arbourlaw24_attrs.f arbourkeep_Short.f
    rw [show ((0 : Nat) : Int) = 0 from rfl] at hr hu
    rw [hr, Option.bind_some]
    unfold arbourref7_Unique.f arbourref7_More.f
    rw [Option.bind_some, if_pos (by decide), List.nil_append, hu]
    rfl
  unfold attrL
  rw [h]
  exact ⟨rfl, hul⟩
def kindL (n : Int) : Int := (arbourbook_Within.f n 0 1000).getD 0
/-- What 'made' makes. -/
def madeL (x : S45) (top : Bool) : S26 :=
  if kindL x.f0 % 5 = 0 then ⟨5, 0, ⟨#[]⟩, [], headL x.f4, []⟩
  else if (kindL x.f0 % 5 = 1 ∨ kindL x.f0 % 5 = 2) ∧ (headL x.f4).toList ≠ [] ∧ top = false then ⟨4, 0, ⟨#[]⟩, [], headL x.f4, []⟩
  else ⟨3, if x.f3 then 2 else 1, nm x.f1, attrL x.f5, ⟨#[]⟩, if x.f3 = false ∧ (nm x.f1).toList = [116, 101, 109, 112, 108, 97, 116, 101] then [⟨6, 0, ⟨#[]⟩, [], ⟨#[]⟩, []⟩] else []⟩
/-- Behind 'x := api.Tree{..}'. -/
def Rel9 (w : World) (xc : Array Value) (nv : ByteArray) (al : List S47) (p6 : Value) (wx : World) : Prop := ∃ (X : Nat) (AS : Option Addr) (cS : Nat), p6 = .pointer (some ⟨X, 0, none⟩) ∧ wx.heap[X]? = some (.cells #[.int .i64 3, .int .i64 1, .string nv, .slice AS al.length cS, .string ⟨#[]⟩, .slice none 0 0] 26 (0, 0)) ∧ Kd.R k47 47 wx w.heap.size (fun _ => True) (.slice AS al.length cS) al ∧ wx.heap[w.heap.size]? = some (.cells xc 45 (0, 0)) ∧ wx.heap[w.heap.size + 1]? = some (.cells #[.int .i64 0, .int .i64 0, .string ⟨#[]⟩, .slice none 0 0, .string ⟨#[]⟩, .slice none 0 0] 26 (0, 0)) ∧ w.heap.size + 1 < X ∧ Below w.heap.size w wx
theorem rel9B {w w4 wl : World} {xc : Array Value} {nv : ByteArray} {al : List S47} {AS : Option Addr} {cS : Nat} {b : Nat} (hb : w.heap.size ≤ b) (hR : Kd.R k47 47 wl b (fun _ => True) (.slice AS al.length cS) al) (bl : Below w4.heap.size w4 wl) (hx : w4.heap[w.heap.size]? = some (.cells xc 45 (0, 0))) (hz : w4.heap[w.heap.size + 1]? = some (.cells #[.int .i64 0, .int .i64 0, .string ⟨#[]⟩, .slice none 0 0, .string ⟨#[]⟩, .slice none 0 0] 26 (0, 0))) (h4 : Below w.heap.size w w4) :
    Rel9 w xc nv al (.pointer (some ⟨wl.heap.size, 0, none⟩)) (wl.alloc (.cells #[.int .i64 3, .int .i64 1, .string nv, .slice AS al.length cS, .string ⟨#[]⟩, .slice none 0 0] 26)) := by
  have ba := below_alloc (Below.refl wl.heap.size wl) (.cells #[.int .i64 3, .int .i64 1, .string nv, .slice AS al.length cS, .string ⟨#[]⟩, .slice none 0 0] 26)
  have bb := below_step bl ba
  exact ⟨wl.heap.size, AS, cS, rfl, heap_alloc_new wl _, Kd.R_lower (Kd.R_below hR ba) hb, (bb.block _ (blk_lt hx)).trans hx, (bb.block _ (blk_lt hz)).trans hz, Nat.lt_of_lt_of_le (blk_lt hz) bl.size, below_step h4 bb⟩
theorem rel9A {w w4 wl : World} {xc : Array Value} {nv : ByteArray} {al : List S47} {AS : Option Addr} {cS : Nat} {b X : Nat} (hb : w.heap.size ≤ b) (hR : Kd.R k47 47 wl b (fun _ => True) (.slice AS al.length cS) al) (bl : Below w4.heap.size w4 wl) (hX : wl.heap[X]? = some (.cells #[.int .i64 0, .int .i64 0, .string ⟨#[]⟩, .slice none 0 0, .string ⟨#[]⟩, .slice none 0 0] 26 (0, 0))) (hXb : w4.heap.size ≤ X) (hx : w4.heap[w.heap.size]? = some (.cells xc 45 (0, 0))) (hz : w4.heap[w.heap.size + 1]? = some (.cells #[.int .i64 0, .int .i64 0, .string ⟨#[]⟩, .slice none 0 0, .string ⟨#[]⟩, .slice none 0 0] 26 (0, 0))) (h4 : Below w.heap.size w w4) :
    Rel9 w xc nv al (.pointer (some ⟨X, 0, none⟩)) ((((((wl.setCell ⟨X, 0, none⟩ (.int .i64 3)).setCell ⟨X, 1, none⟩ (.int .i64 1)).setCell ⟨X, 2, none⟩ (.string nv)).setCell ⟨X, 3, none⟩ (.slice AS al.length cS)).setCell ⟨X, 4, none⟩ (.string ⟨#[]⟩)).setCell ⟨X, 5, none⟩ (.slice none 0 0)) := by
  have h0 := blk_set hX 0 (.int .i64 3)
  have h1 := blk_set h0 1 (.int .i64 1)
  have h2 := blk_set h1 2 (.string nv)
  have h3 := blk_set h2 3 (.slice AS al.length cS)
  have h5 := blk_set h3 4 (.string ⟨#[]⟩)
  have h6 := blk_set h5 5 (.slice none 0 0)
  have r6 := Kd.R_set (Kd.R_set (Kd.R_set (Kd.R_set (Kd.R_set (Kd.R_set hR hX (by decide) 0 (.int .i64 3)) h0 (by decide) 1 (.int .i64 1)) h1 (by decide) 2 (.string nv)) h2 (by decide) 3 (.slice AS al.length cS)) h3 (by decide) 4 (.string ⟨#[]⟩)) h5 (by decide) 5 (.slice none 0 0)
  have bb : Below w4.heap.size w4 ((((((wl.setCell ⟨X, 0, none⟩ (.int .i64 3)).setCell ⟨X, 1, none⟩ (.int .i64 1)).setCell ⟨X, 2, none⟩ (.string nv)).setCell ⟨X, 3, none⟩ (.slice AS al.length cS)).setCell ⟨X, 4, none⟩ (.string ⟨#[]⟩)).setCell ⟨X, 5, none⟩ (.slice none 0 0)) := ((((((bl.setCell (p := ⟨X, 0, none⟩) hXb _).setCell (p := ⟨X, 1, none⟩) hXb _).setCell (p := ⟨X, 2, none⟩) hXb _).setCell (p := ⟨X, 3, none⟩) hXb _).setCell (p := ⟨X, 4, none⟩) hXb _).setCell (p := ⟨X, 5, none⟩) hXb _)
  exact ⟨X, AS, cS, rfl, h6, Kd.R_lower r6 hb, (bb.block _ (blk_lt hx)).trans hx, (bb.block _ (blk_lt hz)).trans hz, Nat.lt_of_lt_of_le (blk_lt hz) hXb, below_step h4 bb⟩
set_option maxHeartbeats 20000000 in
set_option maxRecDepth 100000 in
theorem made (x : S45) (top : Bool) (A : Option Addr) (c : Nat) (w : World) (hx : k47.C w A x.f5.length x.f5) (hl : x.f5.length ≤ c) :
    Calls Tryd.prog 22 #[.agg #[.int .i64 x.f0, .int .i64 x.f1, .int .i64 x.f2, .bool x.f3, .string x.f4, .slice A x.f5.length c], .bool top] w fun e w' => ∃ v, e = .returned v ∧ TF w' (fun k => w.heap.size ≤ k) v (madeL x top) ∧ Below w.heap.size w w' := by
  obtain ⟨t, ht0, ht1, ht⟩ := within0 x.f0 1000 (by omega)
  rw [show ((1000 : Nat) : Int) = 1000 from rfl] at ht
  have hk : kindL x.f0 = t := by unfold kindL; rw [ht]; rfl
  have hmade : madeL x top = madeL x top := rfl
  conv at hmade => rhs; unfold madeL
  rw [hk] at hmade
  have hb1 := below_alloc (Below.refl w.heap.size w) (.cells #[.int .i64 x.f0, .int .i64 x.f1, .int .i64 x.f2, .bool x.f3, .string x.f4, .slice A x.f5.length c] 45)
  have hn1 := heap_alloc_new w (.cells #[.int .i64 x.f0, .int .i64 x.f1, .int .i64 x.f2, .bool x.f3, .string x.f4, .slice A x.f5.length c] 45)
  have hs1 : (w.alloc (.cells #[.int .i64 x.f0, .int .i64 x.f1, .int .i64 x.f2, .bool x.f3, .string x.f4, .slice A x.f5.length c] 45)).heap.size = w.heap.size + 1 := by simp
  obtain ⟨w1, hw1⟩ : ∃ w1, w.alloc (.cells #[.int .i64 x.f0, .int .i64 x.f1, .int .i64 x.f2, .bool x.f3, .string x.f4, .slice A x.f5.length c] 45) = w1 := ⟨_, rfl⟩
  rw [hw1] at hb1 hn1 hs1
  have hb2 := below_alloc (Below.refl w1.heap.size w1) (.cells #[.int .i64 0, .int .i64 0, .string ⟨#[]⟩, .slice none 0 0, .string ⟨#[]⟩, .slice none 0 0] 26)
  have hn2 := heap_alloc_new w1 (.cells #[.int .i64 0, .int .i64 0, .string ⟨#[]⟩, .slice none 0 0, .string ⟨#[]⟩, .slice none 0 0] 26)
  obtain ⟨w2, hw2⟩ : ∃ w2, w1.alloc (.cells #[.int .i64 0, .int .i64 0, .string ⟨#[]⟩, .slice none 0 0, .string ⟨#[]⟩, .slice none 0 0] 26) = w2 := ⟨_, rfl⟩
  rw [hw2] at hb2 hn2
  rw [hs1] at hn2
  have HX := hide ((hb2.block _ (blk_lt hn1)).trans hn1)
  have HZ := hide hn2
  have HB := hide (below_step hb1 hb2)
  have HB1 := hide hb1
  have HS := hide hs1
  have HA := hide (show k47.C w2 A x.f5.length x.f5 from Kd.C_below hx (below_step hb1 hb2))
  have HL := hide hl
  have HT := hide ht
  have HM := hide hmade
  have HW1 := hide hw1
  have HW2 := hide hw2
  have HH := hide (fun W => arbourkeep_Head.calls x.f4 9 (headL x.f4) W (head_some x.f4))
  have HN := hide (fun W => arbourkeep_Names.calls x.f1 (nm x.f1) W (names_some x.f1))
  have HAT := hide (fun W hC => arbourlaw24_attrs.calls 40 A c x.f5 (attrL x.f5) W hC hl (attr_some x.f5).1)
  clear hb1 hn1 hs1 hb2 hn2 hx hl ht hk hmade hw1 hw2
  obtain ⟨x0, x1, x2, x3, x4, x5⟩ := x
  dsimp only at *
  obtain ⟨tx, hh⟩ : ∃ tx, headL x4 = tx := ⟨_, rfl⟩
  rw [hh] at HH HM
  clear hh
  have q4 : w2.cell? ⟨w.heap.size, 4, none⟩ = some (.string x4) := cell_of_row _ _ 4 _ _ _ HX.out
  have q0 : w2.cell? ⟨w.heap.size, 0, none⟩ = some (.int .i64 x0) := cell_of_row _ _ 0 _ _ _ HX.out
  go_enter Tryd.func22, Tryd.ntmps22
  go_wp2_with fail
  rw [HW1.out, HW2.out]
  refine (HH.out w2).mono ?_
  rintro e w3 ⟨rfl, ⟨⟨na, rfl⟩⟩⟩
  dsimp only
  go_wp2_with fail
  refine (arbourbook_Within.calls x0 0 1000 t _ HT.out).mono ?_
  rintro e w4 ⟨rfl, hd⟩
  dsimp only
  have hb4 := (below_drew (Below.refl w2.heap.size w2)) |> fun _ => below_step (pw_below_drewN (Below.refl w2.heap.size w2) na) hd.below
  have HX4 := hide ((hb4.block _ (blk_lt HX.out)).trans HX.out)
  have HZ4 := hide ((hb4.block _ (blk_lt HZ.out)).trans HZ.out)
  have HB4 := hide (below_step HB.out hb4)
  have HA4 := hide (Kd.C_below HA.out hb4)
  clear hd hb4 HX HZ HB HA HH HW1 HW2 q4 q0
  go_upto_block 0 with fail
  have hz1 : w.heap.size ≤ w.heap.size + 1 := by omega
  go_cut [] from 14 to 28 (fun wx => wx = w4 ∧ ¬ t % 5 = 0 ∧ ¬ ((t % 5 = 1 ∨ t % 5 = 2) ∧ tx.toList ≠ [] ∧ top = false))
  case first =>
    have y0 := cell_of_row _ _ 0 _ _ _ HZ4.out
    have f0 := blk_frozen HZ4.out 0
    have y1 := cell_of_row _ _ 1 _ _ _ HZ4.out
    have f1 := blk_frozen HZ4.out 1
    have y2 := cell_of_row _ _ 2 _ _ _ HZ4.out
    have f2 := blk_frozen HZ4.out 2
    have y3 := cell_of_row _ _ 3 _ _ _ HZ4.out
    have f3 := blk_frozen HZ4.out 3
    have y4 := cell_of_row _ _ 4 _ _ _ HZ4.out
    have f4 := blk_frozen HZ4.out 4
    have y5 := cell_of_row _ _ 5 _ _ _ HZ4.out
    have f5 := blk_frozen HZ4.out 5
    cases e0 : (t % 5 == 0) with
    | true =>
      go_wp2_with fail
      have hfin := (blk_set (blk_set (blk_set (blk_set (blk_set (blk_set HZ4.out 0 (.int .i64 5)) 1 (.int .i64 0)) 2 (.string ⟨#[]⟩)) 3 (.slice none 0 0)) 4 (.string tx)) 5 (.slice none 0 0))
      have hbF := ((((((HB4.out.setCell (p := ⟨w.heap.size + 1, 0, none⟩) hz1 (.int .i64 5)).setCell (p := ⟨w.heap.size + 1, 1, none⟩) hz1 (.int .i64 0)).setCell (p := ⟨w.heap.size + 1, 2, none⟩) hz1 (.string ⟨#[]⟩)).setCell (p := ⟨w.heap.size + 1, 3, none⟩) hz1 (.slice none 0 0)).setCell (p := ⟨w.heap.size + 1, 4, none⟩) hz1 (.string tx)).setCell (p := ⟨w.heap.size + 1, 5, none⟩) hz1 (.slice none 0 0))
      exact ⟨rfl, _, res_tree hfin 4 _ rfl rfl, _, rfl, by rw [HM.out, if_pos (by simpa using e0)]; exact (fun _ _ => ⟨none, 0, none, 0, rfl, Nat.le_refl _, Kd.C_nil _ _, Nat.le_refl _, Kd.C_nil _ _⟩), hbF⟩
    | false =>
      have n0 : ¬ t % 5 = 0 := by simpa using e0
      have N0 := hide n0
      clear n0
      cases e1 : (t % 5 == 1) with
      | true =>
        have E1 := hide (show t % 5 = 1 from by simpa using e1)
        cases eh : (tx.toList == ([] : List UInt8)) with
        | true =>
          have EH := hide (show tx.toList = [] from by simpa using eh)
          go_wp2_with fail
          go_meet
          exact ⟨rfl, N0.out, fun hc => hc.2.1 EH.out⟩
        | false =>
          have EH := hide (show tx.toList ≠ [] from by simpa using eh)
          cases top with
          | true =>
            go_wp2_with fail
            go_meet
            exact ⟨rfl, N0.out, fun hc => by cases hc.2.2⟩
          | false =>
            go_wp2_with fail
            have hfin := (blk_set (blk_set (blk_set (blk_set (blk_set (blk_set HZ4.out 0 (.int .i64 4)) 1 (.int .i64 0)) 2 (.string ⟨#[]⟩)) 3 (.slice none 0 0)) 4 (.string tx)) 5 (.slice none 0 0))
            have hbF := ((((((HB4.out.setCell (p := ⟨w.heap.size + 1, 0, none⟩) hz1 (.int .i64 4)).setCell (p := ⟨w.heap.size + 1, 1, none⟩) hz1 (.int .i64 0)).setCell (p := ⟨w.heap.size + 1, 2, none⟩) hz1 (.string ⟨#[]⟩)).setCell (p := ⟨w.heap.size + 1, 3, none⟩) hz1 (.slice none 0 0)).setCell (p := ⟨w.heap.size + 1, 4, none⟩) hz1 (.string tx)).setCell (p := ⟨w.heap.size + 1, 5, none⟩) hz1 (.slice none 0 0))
            exact ⟨rfl, _, res_tree hfin 4 _ rfl rfl, _, rfl, by rw [HM.out, if_neg N0.out, if_pos ⟨.inl E1.out, EH.out, by first | rfl | trivial⟩]; exact (fun _ _ => ⟨none, 0, none, 0, rfl, Nat.le_refl _, Kd.C_nil _ _, Nat.le_refl _, Kd.C_nil _ _⟩), hbF⟩
      | false =>
        have E1 := hide (show ¬ t % 5 = 1 from by simpa using e1)
        cases e2 : (t % 5 == 2) with
        | true =>
          have E2 := hide (show t % 5 = 2 from by simpa using e2)
          cases eh : (tx.toList == ([] : List UInt8)) with
          | true =>
            have EH := hide (show tx.toList = [] from by simpa using eh)
            go_wp2_with fail
            go_meet
            exact ⟨rfl, N0.out, fun hc => hc.2.1 EH.out⟩
          | false =>
            have EH := hide (show tx.toList ≠ [] from by simpa using eh)
            cases top with
            | true =>
              go_wp2_with fail
              go_meet
              exact ⟨rfl, N0.out, fun hc => by cases hc.2.2⟩
            | false =>
              go_wp2_with fail
              have hfin := (blk_set (blk_set (blk_set (blk_set (blk_set (blk_set HZ4.out 0 (.int .i64 4)) 1 (.int .i64 0)) 2 (.string ⟨#[]⟩)) 3 (.slice none 0 0)) 4 (.string tx)) 5 (.slice none 0 0))
              have hbF := ((((((HB4.out.setCell (p := ⟨w.heap.size + 1, 0, none⟩) hz1 (.int .i64 4)).setCell (p := ⟨w.heap.size + 1, 1, none⟩) hz1 (.int .i64 0)).setCell (p := ⟨w.heap.size + 1, 2, none⟩) hz1 (.string ⟨#[]⟩)).setCell (p := ⟨w.heap.size + 1, 3, none⟩) hz1 (.slice none 0 0)).setCell (p := ⟨w.heap.size + 1, 4, none⟩) hz1 (.string tx)).setCell (p := ⟨w.heap.size + 1, 5, none⟩) hz1 (.slice none 0 0))
              exact ⟨rfl, _, res_tree hfin 4 _ rfl rfl, _, rfl, by rw [HM.out, if_neg N0.out, if_pos ⟨.inr E2.out, EH.out, by first | rfl | trivial⟩]; exact (fun _ _ => ⟨none, 0, none, 0, rfl, Nat.le_refl _, Kd.C_nil _ _, Nat.le_refl _, Kd.C_nil _ _⟩), hbF⟩
        | false =>
          have E2 := hide (show ¬ t % 5 = 2 from by simpa using e2)
          go_wp2_with fail
          go_meet
          exact ⟨rfl, N0.out, fun hc => hc.1.elim E1.out E2.out⟩
  case rest =>
    obtain ⟨hwc, n0, n1⟩ := hcut
    rw [hwc]
    clear hwc
    have HM2 := hide (HM.out.trans ((if_neg n0).trans (if_neg n1)))
    clear n0 n1 HM
    go_upto_region 9 with fail
    have q1 : w4.cell? ⟨w.heap.size, 1, none⟩ = some (.int .i64 x1) := cell_of_row _ _ 1 _ _ _ HX4.out
    have q5 : w4.cell? ⟨w.heap.size, 5, none⟩ = some (.slice A x5.length c) := cell_of_row _ _ 5 _ _ _ HX4.out
    have q1a := cellW q1 (below_alloc (Below.refl w4.heap.size w4) (.cells #[.int .i64 0, .int .i64 0, .string ⟨#[]⟩, .slice none 0 0, .string ⟨#[]⟩, .slice none 0 0] 26))
    have q5a := cellW q5 (below_alloc (Below.refl w4.heap.size w4) (.cells #[.int .i64 0, .int .i64 0, .string ⟨#[]⟩, .slice none 0 0, .string ⟨#[]⟩, .slice none 0 0] 26))
    obtain ⟨nv, hnv⟩ : ∃ nv, nm x1 = nv := ⟨_, rfl⟩
    obtain ⟨al, hal⟩ : ∃ al, attrL x5 = al := ⟨_, rfl⟩
    rw [hnv] at HN HM2
    rw [hal] at HAT HM2
    clear hnv hal
    go_cut [6] from 29 to 35 (fun p6 wx => Rel9 w #[.int .i64 x0, .int .i64 x1, .int .i64 x2, .bool x3, .string x4, .slice A x5.length c] nv al p6 wx)
    case first =>
      first
      | go_region_with (first | (go_at_call 34; (with_reducible refine (HN.out (w4.drew)).mono ?_); rintro e wn ⟨rfl, bX⟩; have BN := hide (below_step (show Below w4.heap.size w4 (w4.drew) from (Below.refl w4.heap.size w4).drew) bX); have u1N := cellW q1 BN.out; have u5N := cellW q5 BN.out; have u1aN := cellW q1 (below_alloc BN.out (.cells #[.int .i64 0, .int .i64 0, .string ⟨#[]⟩, .slice none 0 0, .string ⟨#[]⟩, .slice none 0 0] 26)); have u5aN := cellW q5 (below_alloc BN.out (.cells #[.int .i64 0, .int .i64 0, .string ⟨#[]⟩, .slice none 0 0, .string ⟨#[]⟩, .slice none 0 0] 26)); clear bX) | (go_at_call 34; (with_reducible refine (HN.out ((w4.alloc (.cells #[.int .i64 0, .int .i64 0, .string ⟨#[]⟩, .slice none 0 0, .string ⟨#[]⟩, .slice none 0 0] 26)).drew)).mono ?_); rintro e wn ⟨rfl, bX⟩; have BN := hide (below_step (show Below w4.heap.size w4 ((w4.alloc (.cells #[.int .i64 0, .int .i64 0, .string ⟨#[]⟩, .slice none 0 0, .string ⟨#[]⟩, .slice none 0 0] 26)).drew) from (below_alloc (Below.refl w4.heap.size w4) (.cells #[.int .i64 0, .int .i64 0, .string ⟨#[]⟩, .slice none 0 0, .string ⟨#[]⟩, .slice none 0 0] 26)).drew) bX); have u1N := cellW q1 BN.out; have u5N := cellW q5 BN.out; have u1aN := cellW q1 (below_alloc BN.out (.cells #[.int .i64 0, .int .i64 0, .string ⟨#[]⟩, .slice none 0 0, .string ⟨#[]⟩, .slice none 0 0] 26)); have u5aN := cellW q5 (below_alloc BN.out (.cells #[.int .i64 0, .int .i64 0, .string ⟨#[]⟩, .slice none 0 0, .string ⟨#[]⟩, .slice none 0 0] 26)); have HZN := hide ((bX.block w4.heap.size (by simp)).trans (heap_alloc_new w4 (.cells #[.int .i64 0, .int .i64 0, .string ⟨#[]⟩, .slice none 0 0, .string ⟨#[]⟩, .slice none 0 0] 26))); have zc0 := cell_of_row _ _ 0 _ _ _ HZN.out; have zf0 := blk_frozen HZN.out 0; have zc1 := cell_of_row _ _ 1 _ _ _ HZN.out; have zf1 := blk_frozen HZN.out 1; have zc2 := cell_of_row _ _ 2 _ _ _ HZN.out; have zf2 := blk_frozen HZN.out 2; have zc3 := cell_of_row _ _ 3 _ _ _ HZN.out; have zf3 := blk_frozen HZN.out 3; have zc4 := cell_of_row _ _ 4 _ _ _ HZN.out; have zf4 := blk_frozen HZN.out 4; have zc5 := cell_of_row _ _ 5 _ _ _ HZN.out; have zf5 := blk_frozen HZN.out 5; clear bX) | (go_at_call 34; (with_reducible refine (HN.out (wt)).mono ?_); rintro e wn ⟨rfl, bX⟩; have BN := hide (below_step (show Below w4.heap.size w4 (wt) from BT.out) bX); have u1N := cellW q1 BN.out; have u5N := cellW q5 BN.out; have u1aN := cellW q1 (below_alloc BN.out (.cells #[.int .i64 0, .int .i64 0, .string ⟨#[]⟩, .slice none 0 0, .string ⟨#[]⟩, .slice none 0 0] 26)); have u5aN := cellW q5 (below_alloc BN.out (.cells #[.int .i64 0, .int .i64 0, .string ⟨#[]⟩, .slice none 0 0, .string ⟨#[]⟩, .slice none 0 0] 26)); have HRN := hide (Kd.R_below HRT.out bX); (first | (have h9 := HZT.out; have HZN := hide ((bX.block _ (blk_lt h9)).trans h9); have zc0 := cell_of_row _ _ 0 _ _ _ HZN.out; have zf0 := blk_frozen HZN.out 0; have zc1 := cell_of_row _ _ 1 _ _ _ HZN.out; have zf1 := blk_frozen HZN.out 1; have zc2 := cell_of_row _ _ 2 _ _ _ HZN.out; have zf2 := blk_frozen HZN.out 2; have zc3 := cell_of_row _ _ 3 _ _ _ HZN.out; have zf3 := blk_frozen HZN.out 3; have zc4 := cell_of_row _ _ 4 _ _ _ HZN.out; have zf4 := blk_frozen HZN.out 4; have zc5 := cell_of_row _ _ 5 _ _ _ HZN.out; have zf5 := blk_frozen HZN.out 5; clear h9) | skip); clear bX) | (go_at_call 34; (with_reducible refine (HN.out (wt.alloc (.cells #[.int .i64 0, .int .i64 0, .string ⟨#[]⟩, .slice none 0 0, .string ⟨#[]⟩, .slice none 0 0] 26))).mono ?_); rintro e wn ⟨rfl, bX⟩; have BN := hide (below_step (show Below w4.heap.size w4 (wt.alloc (.cells #[.int .i64 0, .int .i64 0, .string ⟨#[]⟩, .slice none 0 0, .string ⟨#[]⟩, .slice none 0 0] 26)) from below_alloc BT.out (.cells #[.int .i64 0, .int .i64 0, .string ⟨#[]⟩, .slice none 0 0, .string ⟨#[]⟩, .slice none 0 0] 26)) bX); have u1N := cellW q1 BN.out; have u5N := cellW q5 BN.out; have u1aN := cellW q1 (below_alloc BN.out (.cells #[.int .i64 0, .int .i64 0, .string ⟨#[]⟩, .slice none 0 0, .string ⟨#[]⟩, .slice none 0 0] 26)); have u5aN := cellW q5 (below_alloc BN.out (.cells #[.int .i64 0, .int .i64 0, .string ⟨#[]⟩, .slice none 0 0, .string ⟨#[]⟩, .slice none 0 0] 26)); have HRN := hide (Kd.R_below (Kd.R_alloc HRT.out (.cells #[.int .i64 0, .int .i64 0, .string ⟨#[]⟩, .slice none 0 0, .string ⟨#[]⟩, .slice none 0 0] 26)) bX); have HZN := hide ((bX.block wt.heap.size (by simp)).trans (heap_alloc_new wt (.cells #[.int .i64 0, .int .i64 0, .string ⟨#[]⟩, .slice none 0 0, .string ⟨#[]⟩, .slice none 0 0] 26))); have zc0 := cell_of_row _ _ 0 _ _ _ HZN.out; have zf0 := blk_frozen HZN.out 0; have zc1 := cell_of_row _ _ 1 _ _ _ HZN.out; have zf1 := blk_frozen HZN.out 1; have zc2 := cell_of_row _ _ 2 _ _ _ HZN.out; have zf2 := blk_frozen HZN.out 2; have zc3 := cell_of_row _ _ 3 _ _ _ HZN.out; have zf3 := blk_frozen HZN.out 3; have zc4 := cell_of_row _ _ 4 _ _ _ HZN.out; have zf4 := blk_frozen HZN.out 4; have zc5 := cell_of_row _ _ 5 _ _ _ HZN.out; have zf5 := blk_frozen HZN.out 5; clear bX) | (go_at_call 35; (with_reducible refine (HAT.out (w4.drew) (Kd.C_drew HA4.out)).mono ?_); rintro e wt ⟨vT, rfl, hRT, bX⟩; have BT := hide (below_step (show Below w4.heap.size w4 (w4.drew) from (Below.refl w4.heap.size w4).drew) bX); obtain ⟨AS, cS, rfl, _, _⟩ := Kd.R_reads hRT; have HRT := hide hRT; have u1T := cellW q1 BT.out; have u5T := cellW q5 BT.out; have u1aT := cellW q1 (below_alloc BT.out (.cells #[.int .i64 0, .int .i64 0, .string ⟨#[]⟩, .slice none 0 0, .string ⟨#[]⟩, .slice none 0 0] 26)); have u5aT := cellW q5 (below_alloc BT.out (.cells #[.int .i64 0, .int .i64 0, .string ⟨#[]⟩, .slice none 0 0, .string ⟨#[]⟩, .slice none 0 0] 26)); clear bX hRT) | (go_at_call 35; (with_reducible refine (HAT.out ((w4.alloc (.cells #[.int .i64 0, .int .i64 0, .string ⟨#[]⟩, .slice none 0 0, .string ⟨#[]⟩, .slice none 0 0] 26)).drew) (Kd.C_drew (Kd.C_alloc HA4.out (.cells #[.int .i64 0, .int .i64 0, .string ⟨#[]⟩, .slice none 0 0, .string ⟨#[]⟩, .slice none 0 0] 26)))).mono ?_); rintro e wt ⟨vT, rfl, hRT, bX⟩; have BT := hide (below_step (show Below w4.heap.size w4 ((w4.alloc (.cells #[.int .i64 0, .int .i64 0, .string ⟨#[]⟩, .slice none 0 0, .string ⟨#[]⟩, .slice none 0 0] 26)).drew) from (below_alloc (Below.refl w4.heap.size w4) (.cells #[.int .i64 0, .int .i64 0, .string ⟨#[]⟩, .slice none 0 0, .string ⟨#[]⟩, .slice none 0 0] 26)).drew) bX); obtain ⟨AS, cS, rfl, _, _⟩ := Kd.R_reads hRT; have HRT := hide hRT; have u1T := cellW q1 BT.out; have u5T := cellW q5 BT.out; have u1aT := cellW q1 (below_alloc BT.out (.cells #[.int .i64 0, .int .i64 0, .string ⟨#[]⟩, .slice none 0 0, .string ⟨#[]⟩, .slice none 0 0] 26)); have u5aT := cellW q5 (below_alloc BT.out (.cells #[.int .i64 0, .int .i64 0, .string ⟨#[]⟩, .slice none 0 0, .string ⟨#[]⟩, .slice none 0 0] 26)); have HZT := hide ((bX.block w4.heap.size (by simp)).trans (heap_alloc_new w4 (.cells #[.int .i64 0, .int .i64 0, .string ⟨#[]⟩, .slice none 0 0, .string ⟨#[]⟩, .slice none 0 0] 26))); have zc0 := cell_of_row _ _ 0 _ _ _ HZT.out; have zf0 := blk_frozen HZT.out 0; have zc1 := cell_of_row _ _ 1 _ _ _ HZT.out; have zf1 := blk_frozen HZT.out 1; have zc2 := cell_of_row _ _ 2 _ _ _ HZT.out; have zf2 := blk_frozen HZT.out 2; have zc3 := cell_of_row _ _ 3 _ _ _ HZT.out; have zf3 := blk_frozen HZT.out 3; have zc4 := cell_of_row _ _ 4 _ _ _ HZT.out; have zf4 := blk_frozen HZT.out 4; have zc5 := cell_of_row _ _ 5 _ _ _ HZT.out; have zf5 := blk_frozen HZT.out 5; clear bX hRT) | (go_at_call 35; (with_reducible refine (HAT.out (wn) (Kd.C_below HA4.out BN.out)).mono ?_); rintro e wt ⟨vT, rfl, hRT, bX⟩; have BT := hide (below_step (show Below w4.heap.size w4 (wn) from BN.out) bX); obtain ⟨AS, cS, rfl, _, _⟩ := Kd.R_reads hRT; have HRT := hide hRT; have u1T := cellW q1 BT.out; have u5T := cellW q5 BT.out; have u1aT := cellW q1 (below_alloc BT.out (.cells #[.int .i64 0, .int .i64 0, .string ⟨#[]⟩, .slice none 0 0, .string ⟨#[]⟩, .slice none 0 0] 26)); have u5aT := cellW q5 (below_alloc BT.out (.cells #[.int .i64 0, .int .i64 0, .string ⟨#[]⟩, .slice none 0 0, .string ⟨#[]⟩, .slice none 0 0] 26)); (first | (have h9 := HZN.out; have HZT := hide ((bX.block _ (blk_lt h9)).trans h9); have zc0 := cell_of_row _ _ 0 _ _ _ HZT.out; have zf0 := blk_frozen HZT.out 0; have zc1 := cell_of_row _ _ 1 _ _ _ HZT.out; have zf1 := blk_frozen HZT.out 1; have zc2 := cell_of_row _ _ 2 _ _ _ HZT.out; have zf2 := blk_frozen HZT.out 2; have zc3 := cell_of_row _ _ 3 _ _ _ HZT.out; have zf3 := blk_frozen HZT.out 3; have zc4 := cell_of_row _ _ 4 _ _ _ HZT.out; have zf4 := blk_frozen HZT.out 4; have zc5 := cell_of_row _ _ 5 _ _ _ HZT.out; have zf5 := blk_frozen HZT.out 5; clear h9) | skip); clear bX hRT) | (go_at_call 35; (with_reducible refine (HAT.out (wn.alloc (.cells #[.int .i64 0, .int .i64 0, .string ⟨#[]⟩, .slice none 0 0, .string ⟨#[]⟩, .slice none 0 0] 26)) (Kd.C_alloc (Kd.C_below HA4.out BN.out) (.cells #[.int .i64 0, .int .i64 0, .string ⟨#[]⟩, .slice none 0 0, .string ⟨#[]⟩, .slice none 0 0] 26))).mono ?_); rintro e wt ⟨vT, rfl, hRT, bX⟩; have BT := hide (below_step (show Below w4.heap.size w4 (wn.alloc (.cells #[.int .i64 0, .int .i64 0, .string ⟨#[]⟩, .slice none 0 0, .string ⟨#[]⟩, .slice none 0 0] 26)) from below_alloc BN.out (.cells #[.int .i64 0, .int .i64 0, .string ⟨#[]⟩, .slice none 0 0, .string ⟨#[]⟩, .slice none 0 0] 26)) bX); obtain ⟨AS, cS, rfl, _, _⟩ := Kd.R_reads hRT; have HRT := hide hRT; have u1T := cellW q1 BT.out; have u5T := cellW q5 BT.out; have u1aT := cellW q1 (below_alloc BT.out (.cells #[.int .i64 0, .int .i64 0, .string ⟨#[]⟩, .slice none 0 0, .string ⟨#[]⟩, .slice none 0 0] 26)); have u5aT := cellW q5 (below_alloc BT.out (.cells #[.int .i64 0, .int .i64 0, .string ⟨#[]⟩, .slice none 0 0, .string ⟨#[]⟩, .slice none 0 0] 26)); have HZT := hide ((bX.block wn.heap.size (by simp)).trans (heap_alloc_new wn (.cells #[.int .i64 0, .int .i64 0, .string ⟨#[]⟩, .slice none 0 0, .string ⟨#[]⟩, .slice none 0 0] 26))); have zc0 := cell_of_row _ _ 0 _ _ _ HZT.out; have zf0 := blk_frozen HZT.out 0; have zc1 := cell_of_row _ _ 1 _ _ _ HZT.out; have zf1 := blk_frozen HZT.out 1; have zc2 := cell_of_row _ _ 2 _ _ _ HZT.out; have zf2 := blk_frozen HZT.out 2; have zc3 := cell_of_row _ _ 3 _ _ _ HZT.out; have zf3 := blk_frozen HZT.out 3; have zc4 := cell_of_row _ _ 4 _ _ _ HZT.out; have zf4 := blk_frozen HZT.out 4; have zc5 := cell_of_row _ _ 5 _ _ _ HZT.out; have zf5 := blk_frozen HZT.out 5; clear bX hRT))
      | fail
      all_goals (
        go_wp2_with fail
        go_meet
        first | (have h1 := HRN.out; have h2 := HZN.out; exact rel9A (by first | exact HB4.out.size | exact Nat.le_trans HB4.out.size (by first | exact BN.out.size | exact (below_alloc BN.out _).size | exact (below_alloc (Below.refl w4.heap.size w4) _).size | simp)) h1 BN.out h2 (by first | exact Nat.le_refl _ | exact BN.out.size | exact BT.out.size) HX4.out HZ4.out HB4.out) | (have h1 := HRN.out; exact rel9B (by first | exact HB4.out.size | exact Nat.le_trans HB4.out.size (by first | exact BN.out.size | exact (below_alloc BN.out _).size | exact (below_alloc (Below.refl w4.heap.size w4) _).size | simp)) h1 BN.out HX4.out HZ4.out HB4.out) | (have h2 := HZT.out; exact rel9A (by first | exact HB4.out.size | exact Nat.le_trans HB4.out.size (by first | exact BN.out.size | exact (below_alloc BN.out _).size | exact (below_alloc (Below.refl w4.heap.size w4) _).size | simp)) HRT.out BT.out h2 (by first | exact Nat.le_refl _ | exact BN.out.size | exact BT.out.size) HX4.out HZ4.out HB4.out) | exact rel9B (by first | exact HB4.out.size | exact Nat.le_trans HB4.out.size (by first | exact BN.out.size | exact (below_alloc BN.out _).size | exact (below_alloc (Below.refl w4.heap.size w4) _).size | simp)) HRT.out BT.out HX4.out HZ4.out HB4.out)
    case rest =>
      --LAST
      clear q1 q5 q1a q5a HX4 HZ4 HB4 HA4 HN HAT HT
      obtain ⟨X, AS, cS, rfl, gX, hR, gx, gz, hXlt, hb⟩ := hcut
      have GX := hide gX
      have HR := hide hR
      have GZ := hide gz
      have HB := hide hb
      have n41 : w.heap.size + 1 ≠ X := by omega
      have n40 : w.heap.size ≠ X := by omega
      have x3c := cell_of_row _ _ 3 _ _ _ gx
      have X1c := cell_of_row _ _ 1 _ _ _ gX
      have X1f := blk_frozen gX 1
      have X2c := cell_of_row _ _ 2 _ _ _ gX
      have hXw : w.heap.size ≤ X := by omega
      cases x3 with
      | true =>
        have gX2 := blk_set gX 1 (.int .i64 2)
        have gZ2 := (Below.heap_setCell wc ⟨X, 1, none⟩ (.int .i64 2) _ n41).trans gz
        have gx2 := (Below.heap_setCell wc ⟨X, 1, none⟩ (.int .i64 2) _ n40).trans gx
        have x3d := cell_of_row _ _ 3 _ _ _ gx2
        have d0 := cell_of_row _ _ 0 _ _ _ gX2
        have d1 := cell_of_row _ _ 1 _ _ _ gX2
        have d2 := cell_of_row _ _ 2 _ _ _ gX2
        have d3 := cell_of_row _ _ 3 _ _ _ gX2
        have d4 := cell_of_row _ _ 4 _ _ _ gX2
        have d5 := cell_of_row _ _ 5 _ _ _ gX2
        have e0 := cell_of_row _ _ 0 _ _ _ gZ2
        have e1 := cell_of_row _ _ 1 _ _ _ gZ2
        have e2 := cell_of_row _ _ 2 _ _ _ gZ2
        have e3 := cell_of_row _ _ 3 _ _ _ gZ2
        have e4 := cell_of_row _ _ 4 _ _ _ gZ2
        have e5 := cell_of_row _ _ 5 _ _ _ gZ2
        have g0 := blk_frozen gZ2 0
        have g1 := blk_frozen gZ2 1
        have g2 := blk_frozen gZ2 2
        have g3 := blk_frozen gZ2 3
        have g4 := blk_frozen gZ2 4
        have g5 := blk_frozen gZ2 5
        have GZ2 := hide gZ2
        have HB2 := hide (hb.setCell (p := ⟨X, 1, none⟩) hXw (.int .i64 2))
        have HR2 := hide (Kd.R_set hR gX (by decide) 1 (.int .i64 2))
        clear gX hR gx gz hb gX2 gZ2 gx2
        go_wp2_with fail
        have hfin := (blk_set (blk_set (blk_set (blk_set (blk_set (blk_set GZ2.out 0 (.int .i64 3)) 1 (.int .i64 2)) 2 (.string nv)) 3 (.slice AS al.length cS)) 4 (.string ⟨#[]⟩)) 5 (.slice none 0 0))
        have hbF := ((((((HB2.out.setCell (p := ⟨w.heap.size + 1, 0, none⟩) hz1 (.int .i64 3)).setCell (p := ⟨w.heap.size + 1, 1, none⟩) hz1 (.int .i64 2)).setCell (p := ⟨w.heap.size + 1, 2, none⟩) hz1 (.string nv)).setCell (p := ⟨w.heap.size + 1, 3, none⟩) hz1 (.slice AS al.length cS)).setCell (p := ⟨w.heap.size + 1, 4, none⟩) hz1 (.string ⟨#[]⟩)).setCell (p := ⟨w.heap.size + 1, 5, none⟩) hz1 (.slice none 0 0))
        have hRX := (Kd.R_set (Kd.R_set (Kd.R_set (Kd.R_set (Kd.R_set (Kd.R_set HR2.out GZ2.out (by decide) 0 (.int .i64 3)) (blk_set GZ2.out 0 (.int .i64 3)) (by decide) 1 (.int .i64 2)) (blk_set (blk_set GZ2.out 0 (.int .i64 3)) 1 (.int .i64 2)) (by decide) 2 (.string nv)) (blk_set (blk_set (blk_set GZ2.out 0 (.int .i64 3)) 1 (.int .i64 2)) 2 (.string nv)) (by decide) 3 (.slice AS al.length cS)) (blk_set (blk_set (blk_set (blk_set GZ2.out 0 (.int .i64 3)) 1 (.int .i64 2)) 2 (.string nv)) 3 (.slice AS al.length cS)) (by decide) 4 (.string ⟨#[]⟩)) (blk_set (blk_set (blk_set (blk_set (blk_set GZ2.out 0 (.int .i64 3)) 1 (.int .i64 2)) 2 (.string nv)) 3 (.slice AS al.length cS)) 4 (.string ⟨#[]⟩)) (by decide) 5 (.slice none 0 0))
        have hrF := Kd.R_reads' hRX
        have hFX := Kd.R_F (Kd.R_mono (Kd.R_bound hRX) (fun k hk => hk.2.1))
        exact ⟨rfl, _, res_tree hfin 4 _ rfl rfl, _, rfl, by rw [HM2.out]; exact TF.mk (⟨3, 2, nv, al, ⟨#[]⟩, []⟩ : S26) hrF.2.1 hFX (Nat.le_refl _) (Kd.F_nil _ _ _), hbF⟩
      | false =>
        cases en : (nv.toList == ([116, 101, 109, 112, 108, 97, 116, 101] : List UInt8)) with
        | false =>
          have hne : nv.toList ≠ [116, 101, 109, 112, 108, 97, 116, 101] := by simpa using en
          have HM3 := hide (HM2.out.trans (show _ = (⟨3, 1, nv, al, ⟨#[]⟩, []⟩ : S26) from by simp [hne]))
          clear hne
          have d0 := cell_of_row _ _ 0 _ _ _ gX
          have d1 := cell_of_row _ _ 1 _ _ _ gX
          have d2 := cell_of_row _ _ 2 _ _ _ gX
          have d3 := cell_of_row _ _ 3 _ _ _ gX
          have d4 := cell_of_row _ _ 4 _ _ _ gX
          have d5 := cell_of_row _ _ 5 _ _ _ gX
          have e0 := cell_of_row _ _ 0 _ _ _ gz
          have e1 := cell_of_row _ _ 1 _ _ _ gz
          have e2 := cell_of_row _ _ 2 _ _ _ gz
          have e3 := cell_of_row _ _ 3 _ _ _ gz
          have e4 := cell_of_row _ _ 4 _ _ _ gz
          have e5 := cell_of_row _ _ 5 _ _ _ gz
          have g0 := blk_frozen gz 0
          have g1 := blk_frozen gz 1
          have g2 := blk_frozen gz 2
          have g3 := blk_frozen gz 3
          have g4 := blk_frozen gz 4
          have g5 := blk_frozen gz 5
          clear gX hR gx gz hb X1f
          go_wp2_with fail
          have hfin := (blk_set (blk_set (blk_set (blk_set (blk_set (blk_set GZ.out 0 (.int .i64 3)) 1 (.int .i64 1)) 2 (.string nv)) 3 (.slice AS al.length cS)) 4 (.string ⟨#[]⟩)) 5 (.slice none 0 0))
          have hbF := ((((((HB.out.setCell (p := ⟨w.heap.size + 1, 0, none⟩) hz1 (.int .i64 3)).setCell (p := ⟨w.heap.size + 1, 1, none⟩) hz1 (.int .i64 1)).setCell (p := ⟨w.heap.size + 1, 2, none⟩) hz1 (.string nv)).setCell (p := ⟨w.heap.size + 1, 3, none⟩) hz1 (.slice AS al.length cS)).setCell (p := ⟨w.heap.size + 1, 4, none⟩) hz1 (.string ⟨#[]⟩)).setCell (p := ⟨w.heap.size + 1, 5, none⟩) hz1 (.slice none 0 0))
          have hRX := (Kd.R_set (Kd.R_set (Kd.R_set (Kd.R_set (Kd.R_set (Kd.R_set HR.out GZ.out (by decide) 0 (.int .i64 3)) (blk_set GZ.out 0 (.int .i64 3)) (by decide) 1 (.int .i64 1)) (blk_set (blk_set GZ.out 0 (.int .i64 3)) 1 (.int .i64 1)) (by decide) 2 (.string nv)) (blk_set (blk_set (blk_set GZ.out 0 (.int .i64 3)) 1 (.int .i64 1)) 2 (.string nv)) (by decide) 3 (.slice AS al.length cS)) (blk_set (blk_set (blk_set (blk_set GZ.out 0 (.int .i64 3)) 1 (.int .i64 1)) 2 (.string nv)) 3 (.slice AS al.length cS)) (by decide) 4 (.string ⟨#[]⟩)) (blk_set (blk_set (blk_set (blk_set (blk_set GZ.out 0 (.int .i64 3)) 1 (.int .i64 1)) 2 (.string nv)) 3 (.slice AS al.length cS)) 4 (.string ⟨#[]⟩)) (by decide) 5 (.slice none 0 0))
          have hrF := Kd.R_reads' hRX
          have hFX := Kd.R_F (Kd.R_mono (Kd.R_bound hRX) (fun k hk => hk.2.1))
          exact ⟨rfl, _, res_tree hfin 4 _ rfl rfl, _, rfl, by rw [HM3.out]; exact TF.mk (⟨3, 1, nv, al, ⟨#[]⟩, []⟩ : S26) hrF.2.1 hFX (Nat.le_refl _) (Kd.F_nil _ _ _), hbF⟩
        | true =>
          have hne : nv.toList = [116, 101, 109, 112, 108, 97, 116, 101] := by simpa using en
          have HM3 := hide (HM2.out.trans (show _ = (⟨3, 1, nv, al, ⟨#[]⟩, [⟨6, 0, ⟨#[]⟩, [], ⟨#[]⟩, []⟩]⟩ : S26) from by simp [hne]))
          clear hne
          have ba := below_alloc (Below.refl wc.heap.size wc) (.cells #[.int .i64 6, .int .i64 0, .string ⟨#[]⟩, .slice none 0 0, .string ⟨#[]⟩, .slice none 0 0] 26)
          have X5c := cellW (cell_of_row _ _ 5 _ _ _ gX) ba
          have X5f := blk_frozen ((ba.block _ (blk_lt gX)).trans gX) 5
          have hXs : X < wc.heap.size := blk_lt gX
          go_upto_region 14 with fail
          have S1 := blk_set gX 5 (.slice (some ⟨wc.heap.size, 0, none⟩) 1 1)
          have S2 := (Below.heap_setCell wc ⟨X, 5, none⟩ (.slice (some ⟨wc.heap.size, 0, none⟩) 1 1) _ n41).trans gz
          have al6 := below_alloc (Below.refl _ (wc.setCell ⟨X, 5, none⟩ (.slice (some ⟨wc.heap.size, 0, none⟩) 1 1))) (.cells #[.int .i64 6, .int .i64 0, .string ⟨#[]⟩, .slice none 0 0, .string ⟨#[]⟩, .slice none 0 0] 26)
          have gX6 := (al6.block _ (blk_lt S1)).trans S1
          have gZ6 := (al6.block _ (blk_lt S2)).trans S2
          have lit6 := heap_alloc_new (wc.setCell ⟨X, 5, none⟩ (.slice (some ⟨wc.heap.size, 0, none⟩) 1 1)) (.cells #[.int .i64 6, .int .i64 0, .string ⟨#[]⟩, .slice none 0 0, .string ⟨#[]⟩, .slice none 0 0] 26)
          rw [show (wc.setCell ⟨X, 5, none⟩ (.slice (some ⟨wc.heap.size, 0, none⟩) 1 1)).heap.size = wc.heap.size from by simp [World.setCell]] at lit6
          have hb6 := below_step (hb.setCell (p := ⟨X, 5, none⟩) hXw (.slice (some ⟨wc.heap.size, 0, none⟩) 1 1)) al6
          have hr6 := Kd.R_alloc (Kd.R_set hR gX (by decide) 5 (.slice (some ⟨wc.heap.size, 0, none⟩) 1 1)) (.cells #[.int .i64 6, .int .i64 0, .string ⟨#[]⟩, .slice none 0 0, .string ⟨#[]⟩, .slice none 0 0] 26)
          obtain ⟨w6, hw6⟩ : ∃ w6, (wc.setCell ⟨X, 5, none⟩ (.slice (some ⟨wc.heap.size, 0, none⟩) 1 1)).alloc (.cells #[.int .i64 6, .int .i64 0, .string ⟨#[]⟩, .slice none 0 0, .string ⟨#[]⟩, .slice none 0 0] 26) = w6 := ⟨_, rfl⟩
          rw [hw6] at gX6 gZ6 lit6 hb6 hr6 ⊢
          clear hw6 ba X5c X5f S1 S2 al6 X1c X1f X2c x3c
          have nL : wc.heap.size ≠ w.heap.size + 1 := by omega
          have d0 := cell_of_row _ _ 0 _ _ _ gX6
          have d1 := cell_of_row _ _ 1 _ _ _ gX6
          have d2 := cell_of_row _ _ 2 _ _ _ gX6
          have d3 := cell_of_row _ _ 3 _ _ _ gX6
          have d4 := cell_of_row _ _ 4 _ _ _ gX6
          have d5 := cell_of_row _ _ 5 _ _ _ gX6
          have e0 := cell_of_row _ _ 0 _ _ _ gZ6
          have e1 := cell_of_row _ _ 1 _ _ _ gZ6
          have e2 := cell_of_row _ _ 2 _ _ _ gZ6
          have e3 := cell_of_row _ _ 3 _ _ _ gZ6
          have e4 := cell_of_row _ _ 4 _ _ _ gZ6
          have e5 := cell_of_row _ _ 5 _ _ _ gZ6
          have g0 := blk_frozen gZ6 0
          have g1 := blk_frozen gZ6 1
          have g2 := blk_frozen gZ6 2
          have g3 := blk_frozen gZ6 3
          have g4 := blk_frozen gZ6 4
          have g5 := blk_frozen gZ6 5
          have GZ6 := hide gZ6
          have LT6 := hide lit6
          have HB6 := hide hb6
          have HR6 := hide hr6
          clear gX hR gx gz hb gX6 gZ6 lit6 hb6 hr6
          go_wp2_with fail
          have hfin := (blk_set (blk_set (blk_set (blk_set (blk_set (blk_set GZ6.out 0 (.int .i64 3)) 1 (.int .i64 1)) 2 (.string nv)) 3 (.slice AS al.length cS)) 4 (.string ⟨#[]⟩)) 5 (.slice (some ⟨wc.heap.size, 0, none⟩) 1 1))
          have hbF := ((((((HB6.out.setCell (p := ⟨w.heap.size + 1, 0, none⟩) hz1 (.int .i64 3)).setCell (p := ⟨w.heap.size + 1, 1, none⟩) hz1 (.int .i64 1)).setCell (p := ⟨w.heap.size + 1, 2, none⟩) hz1 (.string nv)).setCell (p := ⟨w.heap.size + 1, 3, none⟩) hz1 (.slice AS al.length cS)).setCell (p := ⟨w.heap.size + 1, 4, none⟩) hz1 (.string ⟨#[]⟩)).setCell (p := ⟨w.heap.size + 1, 5, none⟩) hz1 (.slice (some ⟨wc.heap.size, 0, none⟩) 1 1))
          have hRX := (Kd.R_set (Kd.R_set (Kd.R_set (Kd.R_set (Kd.R_set (Kd.R_set HR6.out GZ6.out (by decide) 0 (.int .i64 3)) (blk_set GZ6.out 0 (.int .i64 3)) (by decide) 1 (.int .i64 1)) (blk_set (blk_set GZ6.out 0 (.int .i64 3)) 1 (.int .i64 1)) (by decide) 2 (.string nv)) (blk_set (blk_set (blk_set GZ6.out 0 (.int .i64 3)) 1 (.int .i64 1)) 2 (.string nv)) (by decide) 3 (.slice AS al.length cS)) (blk_set (blk_set (blk_set (blk_set GZ6.out 0 (.int .i64 3)) 1 (.int .i64 1)) 2 (.string nv)) 3 (.slice AS al.length cS)) (by decide) 4 (.string ⟨#[]⟩)) (blk_set (blk_set (blk_set (blk_set (blk_set GZ6.out 0 (.int .i64 3)) 1 (.int .i64 1)) 2 (.string nv)) 3 (.slice AS al.length cS)) 4 (.string ⟨#[]⟩)) (by decide) 5 (.slice (some ⟨wc.heap.size, 0, none⟩) 1 1))
          have hrF := Kd.R_reads' hRX
          have hFX := Kd.R_F (Kd.R_mono (Kd.R_bound hRX) (fun k hk => hk.2.1))
          have hlF := ((Below.heap_setCell _ ⟨w.heap.size + 1, 5, none⟩ (.slice (some ⟨wc.heap.size, 0, none⟩) 1 1) _ nL).trans ((Below.heap_setCell _ ⟨w.heap.size + 1, 4, none⟩ (.string ⟨#[]⟩) _ nL).trans ((Below.heap_setCell _ ⟨w.heap.size + 1, 3, none⟩ (.slice AS al.length cS) _ nL).trans ((Below.heap_setCell _ ⟨w.heap.size + 1, 2, none⟩ (.string nv) _ nL).trans ((Below.heap_setCell _ ⟨w.heap.size + 1, 1, none⟩ (.int .i64 1) _ nL).trans ((Below.heap_setCell _ ⟨w.heap.size + 1, 0, none⟩ (.int .i64 3) _ nL).trans LT6.out))))))
          have hkF : Kd.F k26 _ (fun k => w.heap.size ≤ k) (some ⟨wc.heap.size, 0, none⟩) 1 [(⟨6, 0, ⟨#[]⟩, [], ⟨#[]⟩, []⟩ : S26)] := fun W hW => raw_C (raw_lit rfl rfl rfl rfl rfl rfl ((hW _ HB.out.size (blk_lt hlF)).trans hlF)) (KL.cons (k26_mk _ (⟨6, 0, ⟨#[]⟩, [], ⟨#[]⟩, []⟩ : S26) (Nat.le_refl _) (Kd.C_nil _ _) (Nat.le_refl _) (Kd.C_nil _ _)) .nil)
          exact ⟨rfl, _, res_tree hfin 4 _ rfl rfl, _, rfl, by rw [HM3.out]; exact TF.mk (⟨3, 1, nv, al, ⟨#[]⟩, [⟨6, 0, ⟨#[]⟩, [], ⟨#[]⟩, []⟩]⟩ : S26) hrF.2.1 hFX (Nat.le_refl _) hkF, hbF⟩
end Go.Proofs.YteglfgmgpbablaaDoor.Cmp

/- The walks of tree.Count and tree.Depth. The walk of tree.Depth. -/
import Derived.Test.YtaponaemgolmoaaTrWalk
import Derived.Test.YtaponaemgolmoaaWMore
namespace Go.Proofs.Ytaponaemgolmoaa.Tr
open Go.RowKit Go.Proofs.Ytaponaemgolmoaa.PTreeTells Go.Proofs.YtaponaemgolmoaaW.PrintWords Go.Proofs.YtaponaemgolmoaaW.PrintLast
set_option linter.unusedVariables false
set_option linter.unusedSimpArgs false
theorem enterF {f : Nat} {fn : Func} (hf : Try.prog.funcs[f]? = some fn) (hn : (fn.name == "runtime.NumGoroutine") = false) (hb : fn.body.isNone = false) (args : Array Value) (W : World) : (callFunc f args).run Try.prog W = .ok (.enter f args) W := by
  have h1 : ¬ fn.name = "runtime.NumGoroutine" := by simpa using hn
  have h2 : ¬ fn.body = none := by intro h; rw [h] at hb; cases hb
  simp [callFunc, go_sem, hf, h1, h2]
theorem enter31 (args : Array Value) (W : World) : (callFunc 31 args).run Try.prog W = .ok (.enter 31 args) W := enterF Try.func31 (by kernel_rfl) (by kernel_rfl) args W
theorem enter47 (args : Array Value) (W : World) : (callFunc 47 args).run Try.prog W = .ok (.enter 47 args) W := enterF Try.func47 (by kernel_rfl) (by kernel_rfl) args W
/-- A number in a block of one's own. -/
def NumIn (b : Nat) (f : List (S26 × Nat) → Int) (done : List (S26 × Nat)) (W : World) : Prop := W.heap[b]? = some (.cells #[.int .i64 (f done)] 3 (0, 0))
theorem NumIn.stab {b : Nat} {f : List (S26 × Nat) → Int} {done : List (S26 × Nat)} {W W' : World} (h : NumIn b f done W) (ho : Own5 b W W') : NumIn b f done W' := (ho.2 b (blk_lt h) (.inl rfl)).trans h
def cnt (l : List (S26 × Nat)) : Int := (l.length : Int)
def deepest (l : List (S26 × Nat)) : Int := l.foldl (fun m p => if m < (p.2 : Int) then (p.2 : Int) else m) 0
theorem deepest_snoc (l : List (S26 × Nat)) (p : S26 × Nat) : deepest (l ++ [p]) = if deepest l < (p.2 : Int) then (p.2 : Int) else deepest l := by unfold deepest; rw [List.foldl_append]; rfl
set_option maxHeartbeats 2000000 in
set_option maxRecDepth 100000 in
theorem see31 (b : Nat) (w0 : World) (t : S26) (hb : w0.heap.size ≤ b) (hN : (pre t 1).length ≤ 1000000000) : SeeOk 31 #[.pointer (some ⟨b, 0, none⟩)] b (NumIn b cnt) (fun _ => true) w0 t := by
  intro done x d ad W hrest hP hT hd hsz
  have hlen : done.length + 1 ≤ 1000000000 := by
    obtain ⟨rest, hr⟩ := hrest
    have := congrArg List.length hr
    rw [List.length_append, List.length_cons] at this
    omega
  have b1 := below_alloc (Below.refl W.heap.size W) (.cells #[.pointer (some ad), .int .i64 (d : Int)] 57)
  have hX := (b1.block b (blk_lt hP)).trans hP
  obtain ⟨w1, hw1⟩ : ∃ y, W.alloc (.cells #[.pointer (some ad), .int .i64 (d : Int)] 57) = y := ⟨_, rfl⟩
  rw [hw1] at b1 hX
  have HW1 := hide hw1
  have c0 : w1.cell? ⟨b, 0, none⟩ = some (.int .i64 (done.length : Int)) := cell_of_row _ _ 0 _ _ _ hX
  have f0 := blk_frozen hX 0
  have HX := hide hX
  have HB1 := hide b1
  obtain ⟨m, hm⟩ : ∃ m, done.length = m := ⟨_, rfl⟩
  rw [hm] at c0 hlen
  have HM := hide hm
  clear hrest hP hT hw1 b1 hX hm
  show Calls Try.prog 31 #[.agg #[.pointer (some ad), .int .i64 (d : Int)], .pointer (some ⟨b, 0, none⟩)] W _
  go_enter Try.func31, Try.ntmps31
  go_upto_region 1 with fail
  rw [HW1.out]
  go_wp2_with fail
  go_ret
  refine ⟨rfl, ?_, (HB1.out.mono hsz).setCell (p := ⟨b, 0, none⟩) hb _, (Beside.of_below HB1.out).set 0 _⟩
  have e : cnt (done ++ [(x, d)]) = (m : Int) + 1 := by unfold cnt; rw [List.length_append, HM.out]; simp
  unfold NumIn
  rw [e]
  exact blk_set HX.out 0 _
set_option maxHeartbeats 2000000 in
set_option maxRecDepth 100000 in
theorem count (t : S26) (A3 : Option Addr) (c3 : Nat) (A5 : Option Addr) (c5 : Nat) (w : World) (l3 : t.f3.length ≤ c3) (g3 : k33.C w A3 t.f3.length t.f3) (l5 : t.f5.length ≤ c5) (g5 : k26.C w A5 t.f5.length t.f5) (hN : (pre t 1).length ≤ 1000000000) :
    Calls Try.prog 11 #[.agg #[.int .i64 t.f0, .int .i64 t.f1, .string t.f2, .slice A3 t.f3.length c3, .string t.f4, .slice A5 t.f5.length c5]] w fun e w' => e = .returned (.int .i64 ((pre t 1).length : Int)) ∧ Below w.heap.size w w' := by
  have hgn := heap_alloc_new w (.cells #[.int .i64 t.f0, .int .i64 t.f1, .string t.f2, .slice A3 t.f3.length c3, .string t.f4, .slice A5 t.f5.length c5] 26)
  have b1 := below_alloc (Below.refl w.heap.size w) (.cells #[.int .i64 t.f0, .int .i64 t.f1, .string t.f2, .slice A3 t.f3.length c3, .string t.f4, .slice A5 t.f5.length c5] 26)
  have ht := TAt_blk hgn l3 (Kd.C_below g3 b1) l5 (Kd.C_below g5 b1)
  obtain ⟨w1, hw1⟩ : ∃ y, w.alloc (.cells #[.int .i64 t.f0, .int .i64 t.f1, .string t.f2, .slice A3 t.f3.length c3, .string t.f4, .slice A5 t.f5.length c5] 26) = y := ⟨_, rfl⟩
  rw [hw1] at hgn b1 ht
  have hgn2 := heap_alloc_new w1 (.cells #[.int .i64 0] 3)
  have b2 := below_alloc (Below.refl w1.heap.size w1) (.cells #[.int .i64 0] 3)
  have hs2 : (w1.alloc (.cells #[.int .i64 0] 3)).heap.size = w1.heap.size + 1 := by simp
  obtain ⟨w2, hw2⟩ : ∃ y, w1.alloc (.cells #[.int .i64 0] 3) = y := ⟨_, rfl⟩
  rw [hw2] at hgn2 b2 hs2
  have hP0 : NumIn w1.heap.size cnt [] w2 := hgn2
  have hS : SeeOk 31 #[.pointer (some ⟨w1.heap.size, 0, none⟩)] w1.heap.size (NumIn w1.heap.size cnt) (fun _ => true) w1 t := see31 w1.heap.size w1 t (Nat.le_refl _) hN
  have hbs : w1.heap.size < w2.heap.size := by omega
  have HWALK := hide (walkC 31 #[.pointer (some ⟨w1.heap.size, 0, none⟩)] w1.heap.size (NumIn w1.heap.size cnt) (fun _ => true) w1 w2 ⟨w.heap.size, 0, none⟩ t ht hN b2 hbs hP0 enter31 (fun _ _ _ h ho => h.stab ho) hS)
  have HW1 := hide hw1
  have HW2 := hide hw2
  have HB := hide (below_step b1 b2)
  have HSZ := hide (show w.heap.size ≤ w1.heap.size from b1.size)
  have hs1 : w1.heap.size = w.heap.size + 1 := by rw [← hw1]; simp
  obtain ⟨L, hL⟩ : ∃ L, pre t 1 = L := ⟨_, rfl⟩
  rw [hL, hs1] at HWALK
  rw [hL]
  obtain ⟨a0, a1, a2, a3, a4, a5⟩ := t
  dsimp only at HW1 ⊢
  clear hs1 hP0 hS hbs hgn b1 ht hw1 hgn2 b2 hs2 hw2 g3 g5 l3 l5 hN hL
  go_enter Try.func11, Try.ntmps11
  go_upto_region 2 with fail
  rw [HW1.out, HW2.out]
  go_wp2_with fail
  refine HWALK.out.mono ?_
  rintro e w3 ⟨hb3, rfl, hP⟩
  have hall : L.all (fun _ => true) = true := by simp
  have hX := hP hall
  unfold NumIn at hX
  have c0 : w3.cell? ⟨w.heap.size + 1, 0, none⟩ = some (.int .i64 (L.length : Int)) := cell_of_row _ _ 0 _ _ _ hX
  have HB3 := hide (HB.out.trans (hb3.mono HSZ.out))
  rw [hall]
  clear hb3 hP hX hall HWALK
  go_wp2_with fail
  go_ret
  exact ⟨rfl, HB3.out⟩
end Go.Proofs.Ytaponaemgolmoaa.Tr
namespace Go.Proofs.Ytaponaemgolmoaa.Tr
open Go.RowKit Go.Proofs.Ytaponaemgolmoaa.PTreeTells Go.Proofs.YtaponaemgolmoaaW.PrintWords Go.Proofs.YtaponaemgolmoaaW.PrintLast Go.Proofs.YtaponaemgolmoaaW.PrintMore
set_option linter.unusedVariables false
attribute [local go_sem] max2_int
set_option linter.unusedSimpArgs false
theorem deepest_nn (l : List (S26 × Nat)) : 0 ≤ deepest l := by
  have h : ∀ (l : List (S26 × Nat)) (m : Int), 0 ≤ m → 0 ≤ l.foldl (fun m p => if m < (p.2 : Int) then (p.2 : Int) else m) m := by
    intro l
    induction l with
    | nil => intro m h; exact h
    | cons p l ih => intro m h; exact ih _ (by dsimp only; split <;> omega)
  exact h l 0 (Int.le_refl _)
set_option maxHeartbeats 2000000 in
set_option maxRecDepth 100000 in
theorem see47 (b : Nat) (w0 : World) (t : S26) (hb : w0.heap.size ≤ b) (hN : (pre t 1).length ≤ 1000000000) : SeeOk 47 #[.pointer (some ⟨b, 0, none⟩)] b (NumIn b deepest) (fun _ => true) w0 t := by
  intro done x d ad W hrest hP hT hd hsz
  have hlen : done.length + 1 ≤ 1000000000 := by
    obtain ⟨rest, hr⟩ := hrest
    have := congrArg List.length hr
    rw [List.length_append, List.length_cons] at this
    omega
  have b1 := below_alloc (Below.refl W.heap.size W) (.cells #[.pointer (some ad), .int .i64 (d : Int)] 57)
  have hX := (b1.block b (blk_lt hP)).trans hP
  obtain ⟨w1, hw1⟩ : ∃ y, W.alloc (.cells #[.pointer (some ad), .int .i64 (d : Int)] 57) = y := ⟨_, rfl⟩
  rw [hw1] at b1 hX
  have HW1 := hide hw1
  have c0 : w1.cell? ⟨b, 0, none⟩ = some (.int .i64 (deepest done)) := cell_of_row _ _ 0 _ _ _ hX
  have f0 := blk_frozen hX 0
  have HX := hide hX
  have HB1 := hide b1
  have hm0 := deepest_nn done
  obtain ⟨m, hm⟩ : ∃ m, deepest done = m := ⟨_, rfl⟩
  rw [hm] at c0 hm0
  have HM := hide hm
  have d1 : w1.cell? ⟨W.heap.size, 1, none⟩ = some (.int .i64 (d : Int)) := by rw [← hw1]; exact cell_of_row _ _ 1 _ _ _ (heap_alloc_new W _)
  clear hrest hP hT hw1 b1 hX hm
  show Calls Try.prog 47 #[.agg #[.pointer (some ad), .int .i64 (d : Int)], .pointer (some ⟨b, 0, none⟩)] W _
  by_cases hmd : m < (d : Int)
  all_goals
    go_enter Try.func47, Try.ntmps47
    go_upto_region 1 with fail
    rw [HW1.out]
    go_wp2_with fail
    go_ret
    refine ⟨rfl, ?_, (HB1.out.mono hsz).setCell (p := ⟨b, 0, none⟩) hb _, (Beside.of_below HB1.out).set 0 _⟩
    have e : deepest (done ++ [(x, d)]) = if m < (d : Int) then (d : Int) else m := by rw [deepest_snoc, HM.out]
    unfold NumIn
    rw [e]
    first
    | rw [if_pos hmd]; exact blk_set HX.out 0 _
    | rw [if_neg (by omega)]; exact blk_set HX.out 0 _
set_option maxHeartbeats 2000000 in
set_option maxRecDepth 100000 in
theorem depth (t : S26) (A3 : Option Addr) (c3 : Nat) (A5 : Option Addr) (c5 : Nat) (w : World) (l3 : t.f3.length ≤ c3) (g3 : k33.C w A3 t.f3.length t.f3) (l5 : t.f5.length ≤ c5) (g5 : k26.C w A5 t.f5.length t.f5) (hN : (pre t 1).length ≤ 1000000000) :
    Calls Try.prog 19 #[.agg #[.int .i64 t.f0, .int .i64 t.f1, .string t.f2, .slice A3 t.f3.length c3, .string t.f4, .slice A5 t.f5.length c5]] w fun e w' => e = .returned (.int .i64 (deepest (pre t 1))) ∧ Below w.heap.size w w' := by
  have hgn := heap_alloc_new w (.cells #[.int .i64 t.f0, .int .i64 t.f1, .string t.f2, .slice A3 t.f3.length c3, .string t.f4, .slice A5 t.f5.length c5] 26)
  have b1 := below_alloc (Below.refl w.heap.size w) (.cells #[.int .i64 t.f0, .int .i64 t.f1, .string t.f2, .slice A3 t.f3.length c3, .string t.f4, .slice A5 t.f5.length c5] 26)
  have ht := TAt_blk hgn l3 (Kd.C_below g3 b1) l5 (Kd.C_below g5 b1)
  obtain ⟨w1, hw1⟩ : ∃ y, w.alloc (.cells #[.int .i64 t.f0, .int .i64 t.f1, .string t.f2, .slice A3 t.f3.length c3, .string t.f4, .slice A5 t.f5.length c5] 26) = y := ⟨_, rfl⟩
  rw [hw1] at hgn b1 ht
  have hgn2 := heap_alloc_new w1 (.cells #[.int .i64 0] 3)
  have b2 := below_alloc (Below.refl w1.heap.size w1) (.cells #[.int .i64 0] 3)
  have hs2 : (w1.alloc (.cells #[.int .i64 0] 3)).heap.size = w1.heap.size + 1 := by simp
  obtain ⟨w2, hw2⟩ : ∃ y, w1.alloc (.cells #[.int .i64 0] 3) = y := ⟨_, rfl⟩
  rw [hw2] at hgn2 b2 hs2
  have hP0 : NumIn w1.heap.size deepest [] w2 := hgn2
  have hS : SeeOk 47 #[.pointer (some ⟨w1.heap.size, 0, none⟩)] w1.heap.size (NumIn w1.heap.size deepest) (fun _ => true) w1 t := see47 w1.heap.size w1 t (Nat.le_refl _) hN
  have hbs : w1.heap.size < w2.heap.size := by omega
  have HWALK := hide (walkC 47 #[.pointer (some ⟨w1.heap.size, 0, none⟩)] w1.heap.size (NumIn w1.heap.size deepest) (fun _ => true) w1 w2 ⟨w.heap.size, 0, none⟩ t ht hN b2 hbs hP0 enter47 (fun _ _ _ h ho => h.stab ho) hS)
  have HW1 := hide hw1
  have HW2 := hide hw2
  have HB := hide (below_step b1 b2)
  have HSZ := hide (show w.heap.size ≤ w1.heap.size from b1.size)
  have hs1 : w1.heap.size = w.heap.size + 1 := by rw [← hw1]; simp
  obtain ⟨L, hL⟩ : ∃ L, pre t 1 = L := ⟨_, rfl⟩
  rw [hL, hs1] at HWALK
  rw [hL]
  obtain ⟨a0, a1, a2, a3, a4, a5⟩ := t
  dsimp only at HW1 ⊢
  clear hs1 hP0 hS hbs hgn b1 ht hw1 hgn2 b2 hs2 hw2 g3 g5 l3 l5 hN hL
  go_enter Try.func19, Try.ntmps19
  go_upto_region 2 with fail
  rw [HW1.out, HW2.out]
  go_wp2_with fail
  refine HWALK.out.mono ?_
  rintro e w3 ⟨hb3, rfl, hP⟩
  have hall : L.all (fun _ => true) = true := by simp
  have hX := hP hall
  unfold NumIn at hX
  have c0 : w3.cell? ⟨w.heap.size + 1, 0, none⟩ = some (.int .i64 (deepest L)) := cell_of_row _ _ 0 _ _ _ hX
  have HB3 := hide (HB.out.trans (hb3.mono HSZ.out))
  rw [hall]
  clear hb3 hP hX hall HWALK
  go_wp2_with fail
  go_ret
  exact ⟨rfl, HB3.out⟩
end Go.Proofs.Ytaponaemgolmoaa.Tr

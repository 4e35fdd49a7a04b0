/- The walk of arbourlaw24.under: the steps down a way. The walk of arbourlaw24.under: a step down a way. -/
import Derived.Test.YteglfgmgpbablaaDoorCmpUnder
namespace Go.Proofs.YteglfgmgpbablaaDoor.Cmp
open Go.RowKit Go.Proofs.YteglfgmgpbablaaDoor.PCompareTells Go.Proofs.YteglfgmgpbablaaDoorW.PrintWords Go.Proofs.YteglfgmgpbablaaDoorW.PrintLast
/-- What 'under' is asked of: a way that leads to a node. -/
def UnderAt (x : S26) (n : Nat) : Prop := ∀ (way : List Nat) (t : S26) (vt vx : Value) (w : World) (ok : Nat → Prop) (Aw : Option Addr) (cw : Nat), way.length = n → ValidW way t → TF w ok vt t → TF w ok vx x → W t ≤ 100000000 → way.length ≤ cw → kI.C w Aw (way.map Int.ofNat).length (way.map Int.ofNat) →
    Calls Tryd.prog 21 #[vt, .slice Aw way.length cw, vx] w fun e w' => ∃ v vw, e = .returned (.tuple #[v, vw]) ∧ TF w' (fun k => ok k ∨ w.heap.size ≤ k) v (underL x way t).1 ∧ WF w' (fun k => ok k ∨ w.heap.size ≤ k) vw (underL x way t).2 ∧ Below w.heap.size w w'
theorem under_zero (x : S26) : UnderAt x 0 := by
  intro way t vt vx w ok Aw cw hl _ ht hx hW _ _
  have h0 : way = [] := List.eq_nil_of_length_eq_zero hl
  subst h0
  exact under0 t x vt vx w ok Aw cw ht hx (by have := W_eq t; have := WK_len t.f5; omega)
theorem W_kid (t : S26) (k : Nat) (h : k < t.f5.length) : W (t.f5.getD k z26) < W t := by
  have h1 := WK_at t.f5 k h
  have h2 := W_eq t
  have e : rd_T26 t.f5 (k : Int) = t.f5.getD k z26 := by unfold rd_T26; rfl
  rw [e] at h1
  omega
/-- The three boxes that 'under' makes first. -/
theorem boxes3 (t x : S26) (A3 : Option Addr) (c3 : Nat) (A5 : Option Addr) (c5 : Nat) (B3 : Option Addr) (d3 : Nat) (B5 : Option Addr) (d5 : Nat) (w : World) :
    ∃ w1 w2 w3, w.alloc (.cells #[.int .i64 t.f0, .int .i64 t.f1, .string t.f2, .slice A3 t.f3.length c3, .string t.f4, .slice A5 t.f5.length c5] 26) = w1 ∧ w1.alloc (.cells #[.int .i64 x.f0, .int .i64 x.f1, .string x.f2, .slice B3 x.f3.length d3, .string x.f4, .slice B5 x.f5.length d5] 26) = w2 ∧ w2.alloc (.cells #[.int .i64 0, .int .i64 0, .string ⟨#[]⟩, .slice none 0 0, .string ⟨#[]⟩, .slice none 0 0] 26) = w3 ∧ w1.heap.size = w.heap.size + 1 ∧ w2.heap.size = w.heap.size + 2 ∧ w3.heap.size = w.heap.size + 3 ∧ Below w.heap.size w w2 ∧ Below w2.heap.size w2 w3 ∧ Below w.heap.size w w3 ∧ w3.heap[w.heap.size]? = some (.cells #[.int .i64 t.f0, .int .i64 t.f1, .string t.f2, .slice A3 t.f3.length c3, .string t.f4, .slice A5 t.f5.length c5] 26 (0, 0)) ∧ w3.heap[w1.heap.size]? = some (.cells #[.int .i64 x.f0, .int .i64 x.f1, .string x.f2, .slice B3 x.f3.length d3, .string x.f4, .slice B5 x.f5.length d5] 26 (0, 0)) ∧ w3.heap[w2.heap.size]? = some (.cells #[.int .i64 0, .int .i64 0, .string ⟨#[]⟩, .slice none 0 0, .string ⟨#[]⟩, .slice none 0 0] 26 (0, 0)) := by
  have hb1 := below_alloc (Below.refl w.heap.size w) (.cells #[.int .i64 t.f0, .int .i64 t.f1, .string t.f2, .slice A3 t.f3.length c3, .string t.f4, .slice A5 t.f5.length c5] 26)
  have hs1 : (w.alloc (.cells #[.int .i64 t.f0, .int .i64 t.f1, .string t.f2, .slice A3 t.f3.length c3, .string t.f4, .slice A5 t.f5.length c5] 26)).heap.size = w.heap.size + 1 := by simp
  have hn1 := heap_alloc_new w (.cells #[.int .i64 t.f0, .int .i64 t.f1, .string t.f2, .slice A3 t.f3.length c3, .string t.f4, .slice A5 t.f5.length c5] 26)
  obtain ⟨w1, hw1⟩ : ∃ w1, w.alloc (.cells #[.int .i64 t.f0, .int .i64 t.f1, .string t.f2, .slice A3 t.f3.length c3, .string t.f4, .slice A5 t.f5.length c5] 26) = w1 := ⟨_, rfl⟩
  rw [hw1] at hb1 hs1 hn1
  have hb2 := below_alloc (Below.refl w1.heap.size w1) (.cells #[.int .i64 x.f0, .int .i64 x.f1, .string x.f2, .slice B3 x.f3.length d3, .string x.f4, .slice B5 x.f5.length d5] 26)
  have hn2 := heap_alloc_new w1 (.cells #[.int .i64 x.f0, .int .i64 x.f1, .string x.f2, .slice B3 x.f3.length d3, .string x.f4, .slice B5 x.f5.length d5] 26)
  have hs2 : (w1.alloc (.cells #[.int .i64 x.f0, .int .i64 x.f1, .string x.f2, .slice B3 x.f3.length d3, .string x.f4, .slice B5 x.f5.length d5] 26)).heap.size = w.heap.size + 2 := by simp [hs1]
  obtain ⟨w2, hw2⟩ : ∃ w2, w1.alloc (.cells #[.int .i64 x.f0, .int .i64 x.f1, .string x.f2, .slice B3 x.f3.length d3, .string x.f4, .slice B5 x.f5.length d5] 26) = w2 := ⟨_, rfl⟩
  rw [hw2] at hb2 hn2 hs2
  have hb3 := below_alloc (Below.refl w2.heap.size w2) (.cells #[.int .i64 0, .int .i64 0, .string ⟨#[]⟩, .slice none 0 0, .string ⟨#[]⟩, .slice none 0 0] 26)
  have hn3 := heap_alloc_new w2 (.cells #[.int .i64 0, .int .i64 0, .string ⟨#[]⟩, .slice none 0 0, .string ⟨#[]⟩, .slice none 0 0] 26)
  have hs3 : (w2.alloc (.cells #[.int .i64 0, .int .i64 0, .string ⟨#[]⟩, .slice none 0 0, .string ⟨#[]⟩, .slice none 0 0] 26)).heap.size = w.heap.size + 3 := by simp [hs2]
  obtain ⟨w3, hw3⟩ : ∃ w3, w2.alloc (.cells #[.int .i64 0, .int .i64 0, .string ⟨#[]⟩, .slice none 0 0, .string ⟨#[]⟩, .slice none 0 0] 26) = w3 := ⟨_, rfl⟩
  rw [hw3] at hb3 hn3 hs3
  have b02 := below_step hb1 hb2
  exact ⟨w1, w2, w3, hw1, hw2, hw3, hs1, hs2, hs3, b02, hb3, below_step b02 hb3, (hb3.block _ (by omega)).trans ((hb2.block _ (by omega)).trans hn1), (hb3.block _ (by omega)).trans hn2, hn3⟩
end Go.Proofs.YteglfgmgpbablaaDoor.Cmp
namespace Go.Proofs.YteglfgmgpbablaaDoor.Cmp
open Go.RowKit Go.Proofs.YteglfgmgpbablaaDoor.PCompareTells Go.Proofs.YteglfgmgpbablaaDoorW.PrintWords Go.Proofs.YteglfgmgpbablaaDoorW.PrintLast
theorem way_len' : ∀ (way : List Nat) (t : S26), ValidW way t → way.length ≤ W t
  | [], t, _ => by simp
  | k :: r, t, h => by
    have h1 := way_len' r _ h.2
    have h2 := W_kid t k h.1
    rw [List.length_cons]
    omega
/-- Behind the call: the kid as it is then, in a block of its own, and the rest of the way. -/
def Rel11 (wA : World) (okk : Nat → Prop) (y : S26) (yw : List Nat) (v11 v12 : Value) (wx : World) : Prop := ∃ (X : Nat) (A3 : Option Addr) (c3 : Nat) (A5 : Option Addr) (c5 : Nat), v11 = .pointer (some ⟨X, 0, none⟩) ∧ wx.heap[X]? = some (.cells #[.int .i64 y.f0, .int .i64 y.f1, .string y.f2, .slice A3 y.f3.length c3, .string y.f4, .slice A5 y.f5.length c5] 26 (0, 0)) ∧ TF wx okk (.agg #[.int .i64 y.f0, .int .i64 y.f1, .string y.f2, .slice A3 y.f3.length c3, .string y.f4, .slice A5 y.f5.length c5]) y ∧ WF wx okk v12 yw ∧ wA.heap.size ≤ X ∧ Below wA.heap.size wA wx
theorem okB1 {ok : Nat → Prop} {a b c : Nat} (hlt : a ≤ b) (hc : c = b + 1) : ∀ k, (ok k ∧ k < a) ∨ c ≤ k → k ≠ b := fun k hk => by
  rcases hk with hk | hk
  · have := hk.2
    omega
  · omega
theorem okB2 {ok : Nat → Prop} {a b c : Nat} (hc : c = b + 1) : ∀ k, (ok k ∧ k < a) ∨ c ≤ k → (ok k ∧ k < a) ∨ b ≤ k := fun k hk => hk.imp id (fun h => by omega)
theorem under_len (x : S26) : ∀ (way : List Nat) (t : S26), (underL x way t).2.length ≤ way.length + 1
  | [], t => by
    rw [underL]
    split
    · simp
    · dsimp only
      split <;> simp
  | k :: r, t => by
    rw [underL]
    have := under_len x r (t.f5.getD k z26)
    simp only [List.length_cons]
    omega
abbrev rawT (t : S26) (A3 : Option Addr) (c3 : Nat) (A5 : Option Addr) (c5 : Nat) : Raw := ⟨⟨.int .i64 t.f0, rfl⟩, ⟨.int .i64 t.f1, rfl⟩, ⟨.string t.f2, rfl⟩, ⟨.slice A3 t.f3.length c3, rfl⟩, ⟨.string t.f4, rfl⟩, ⟨.slice A5 t.f5.length c5, rfl⟩⟩
theorem KL_set {w : World} {ok : Nat → Prop} {xs : List S26} {rs : List Raw} {y : S26} {A3 A5 : Option Addr} {c3 c5 : Nat} (h : Foot (fun W => KL W xs rs) w ok) (k : Nat) (hy : TF w ok (.agg #[.int .i64 y.f0, .int .i64 y.f1, .string y.f2, .slice A3 y.f3.length c3, .string y.f4, .slice A5 y.f5.length c5]) y) : Foot (fun W => KL W (xs.set k y) (rs.set k (rawT y A3 c3 A5 c5))) w ok := fun W hW => by
  obtain ⟨B3, d3, B5, d5, e, l3, g3, l5, g5⟩ := hy W hW
  injection e with e
  injection e with e
  simp only [List.cons.injEq, Value.slice.injEq] at e
  obtain ⟨_, _, _, ⟨rfl, _, rfl⟩, _, ⟨rfl, _, rfl⟩, _⟩ := e
  exact (h W hW).set k y _ (k26_mk W y l3 g3 l5 g5)
theorem lit1R (W : World) (base k : Nat) (hb : base ≤ W.heap.size) : kI.R 3 (W.alloc (.cells #[.int .i64 (k : Int)] 3)) base (fun _ => True) (.slice (some ⟨W.heap.size, 0, none⟩) 1 1) [(k : Int)] :=
  ⟨fun _ _ => trivial, [.int .i64 (k : Int)], by have := World.ownsRow_lit (base := base) (e := 3) (size := 1) W #[.int .i64 (k : Int)] 1 hb (by decide) rfl; exact this, Reps.one (show kI.M _ _ _ (k : Int) [.int .i64 (k : Int)] from rfl) (Reps.none _ _)⟩
/-- Behind the stores into the kids' row. -/
def Rel12 (w w3 : World) (X3 X6 g cv k : Nat) (okk : Nat → Prop) (t y : S26) (A3 : Option Addr) (c3 : Nat) (A5 : Option Addr) (c5 : Nat) (rs : List Raw) (v12 : Value) (yw : List Nat) (wx : World) : Prop := ∃ (N3 : Option Addr) (n3 : Nat) (N5 : Option Addr) (n5 : Nat), wx.heap[X3]? = some (.cells #[.int .i64 t.f0, .int .i64 t.f1, .string t.f2, .slice A3 t.f3.length c3, .string t.f4, .slice A5 t.f5.length c5] 26 (0, 0)) ∧ wx.heap[X6]? = some (.cells #[.int .i64 0, .int .i64 0, .string ⟨#[]⟩, .slice none 0 0, .string ⟨#[]⟩, .slice none 0 0] 26 (0, 0)) ∧ kRaw.R 26 wx w3.heap.size (fun k => w3.heap.size ≤ k) (.slice (some ⟨g, 0, none⟩) t.f5.length cv) (rs.set k (rawT y N3 n3 N5 n5)) ∧ TF wx okk (.agg #[.int .i64 y.f0, .int .i64 y.f1, .string y.f2, .slice N3 y.f3.length n3, .string y.f4, .slice N5 y.f5.length n5]) y ∧ WF wx okk v12 yw ∧ Below w.heap.size w wx
theorem WF_of_R {w : World} {base : Nat} {ok okF : Nat → Prop} {v : Value} {k : Nat} {yw : List Nat} (h : kI.R 3 w base ok v ([(k : Int)] ++ yw.map Int.ofNat)) (hok : ∀ k, ok k → okF k) : WF w okF v (k :: yw) := fun W hW => by
  obtain ⟨A, c, rfl, hc, hC⟩ := Kd.R_reads (Kd.R_step h (fun k hk hlt => hW k (hok k hk) hlt))
  have e : [(k : Int)] ++ yw.map Int.ofNat = (k :: yw).map Int.ofNat := rfl
  rw [e] at hc hC ⊢
  rw [List.length_map] at hc ⊢
  exact ⟨A, c, rfl, hc, hC⟩
theorem set6_far {w : World} {g : Nat} {a0 a1 a2 a3 a4 a5 : Nat} {v0 v1 v2 v3 v4 v5 : Value} (k : Nat) (hk : k ≠ g) : ((((((w.setCell ⟨g, a0, none⟩ v0).setCell ⟨g, a1, none⟩ v1).setCell ⟨g, a2, none⟩ v2).setCell ⟨g, a3, none⟩ v3).setCell ⟨g, a4, none⟩ v4).setCell ⟨g, a5, none⟩ v5).heap[k]? = w.heap[k]? :=
  (Below.heap_setCell _ _ _ _ hk).trans ((Below.heap_setCell _ _ _ _ hk).trans ((Below.heap_setCell _ _ _ _ hk).trans ((Below.heap_setCell _ _ _ _ hk).trans ((Below.heap_setCell _ _ _ _ hk).trans (Below.heap_setCell _ _ _ _ hk)))))
theorem below_of_drew {B : Nat} {w w' : World} (h : Below B w.drew w') : Below B w w' := ⟨h.os, h.tape, h.output, h.size, h.block⟩
theorem rel11A {wA wl : World} {okk : Nat → Prop} {y : S26} {yw : List Nat} {A3 A5 : Option Addr} {c3 c5 : Nat} {v : Value} (hb : Below wA.heap.size wA wl) (ht : TF wl okk (.agg #[.int .i64 y.f0, .int .i64 y.f1, .string y.f2, .slice A3 y.f3.length c3, .string y.f4, .slice A5 y.f5.length c5]) y) (hw : WF wl okk v yw) :
    Rel11 wA okk y yw (.pointer (some ⟨wl.heap.size, 0, none⟩)) v (wl.alloc (.cells #[.int .i64 y.f0, .int .i64 y.f1, .string y.f2, .slice A3 y.f3.length c3, .string y.f4, .slice A5 y.f5.length c5] 26)) :=
  have ba := below_alloc (Below.refl wl.heap.size wl) (.cells #[.int .i64 y.f0, .int .i64 y.f1, .string y.f2, .slice A3 y.f3.length c3, .string y.f4, .slice A5 y.f5.length c5] 26)
  ⟨wl.heap.size, A3, c3, A5, c5, rfl, heap_alloc_new wl _, ht.below ba, hw.below ba, hb.size, below_step hb ba⟩
theorem rel11B {wA wl : World} {okk okk' : Nat → Prop} {y : S26} {yw : List Nat} {A3 A5 : Option Addr} {c3 c5 : Nat} {v : Value} (hb : Below (wA.heap.size + 1) (wA.alloc (.cells #[.int .i64 0, .int .i64 0, .string ⟨#[]⟩, .slice none 0 0, .string ⟨#[]⟩, .slice none 0 0] 26)) wl) (ht : TF wl okk (.agg #[.int .i64 y.f0, .int .i64 y.f1, .string y.f2, .slice A3 y.f3.length c3, .string y.f4, .slice A5 y.f5.length c5]) y) (hw : WF wl okk v yw) (hX : ∀ k, okk k → k ≠ wA.heap.size) (hm : ∀ k, okk k → okk' k) :
    Rel11 wA okk' y yw (.pointer (some ⟨wA.heap.size, 0, none⟩)) v ((((((wl.setCell ⟨wA.heap.size, 0, none⟩ (.int .i64 y.f0)).setCell ⟨wA.heap.size, 1, none⟩ (.int .i64 y.f1)).setCell ⟨wA.heap.size, 2, none⟩ (.string y.f2)).setCell ⟨wA.heap.size, 3, none⟩ (.slice A3 y.f3.length c3)).setCell ⟨wA.heap.size, 4, none⟩ (.string y.f4)).setCell ⟨wA.heap.size, 5, none⟩ (.slice A5 y.f5.length c5)) := by
  have hZ := (hb.block wA.heap.size (by omega)).trans (heap_alloc_new wA (.cells #[.int .i64 0, .int .i64 0, .string ⟨#[]⟩, .slice none 0 0, .string ⟨#[]⟩, .slice none 0 0] 26))
  have h6 := blk_set (blk_set (blk_set (blk_set (blk_set (blk_set hZ 0 (.int .i64 y.f0)) 1 (.int .i64 y.f1)) 2 (.string y.f2)) 3 (.slice A3 y.f3.length c3)) 4 (.string y.f4)) 5 (.slice A5 y.f5.length c5)
  have hfar : ∀ k, okk k → k < wl.heap.size → ((((((wl.setCell ⟨wA.heap.size, 0, none⟩ (.int .i64 y.f0)).setCell ⟨wA.heap.size, 1, none⟩ (.int .i64 y.f1)).setCell ⟨wA.heap.size, 2, none⟩ (.string y.f2)).setCell ⟨wA.heap.size, 3, none⟩ (.slice A3 y.f3.length c3)).setCell ⟨wA.heap.size, 4, none⟩ (.string y.f4)).setCell ⟨wA.heap.size, 5, none⟩ (.slice A5 y.f5.length c5)).heap[k]? = wl.heap[k]? := fun k hk _ =>
    (Below.heap_setCell _ _ _ _ (hX k hk)).trans ((Below.heap_setCell _ _ _ _ (hX k hk)).trans ((Below.heap_setCell _ _ _ _ (hX k hk)).trans ((Below.heap_setCell _ _ _ _ (hX k hk)).trans ((Below.heap_setCell _ _ _ _ (hX k hk)).trans (Below.heap_setCell _ _ _ _ (hX k hk))))))
  have ba := below_step (below_alloc (Below.refl wA.heap.size wA) (.cells #[.int .i64 0, .int .i64 0, .string ⟨#[]⟩, .slice none 0 0, .string ⟨#[]⟩, .slice none 0 0] 26)) (by have := hb; simpa using this)
  exact ⟨wA.heap.size, A3, c3, A5, c5, rfl, h6, (ht.step hfar).mono hm, (hw.step hfar).mono hm, Nat.le_refl _, (((((ba.setCell (p := ⟨wA.heap.size, 0, none⟩) (Nat.le_refl _) _).setCell (p := ⟨wA.heap.size, 1, none⟩) (Nat.le_refl _) _).setCell (p := ⟨wA.heap.size, 2, none⟩) (Nat.le_refl _) _).setCell (p := ⟨wA.heap.size, 3, none⟩) (Nat.le_refl _) _).setCell (p := ⟨wA.heap.size, 4, none⟩) (Nat.le_refl _) _).setCell (p := ⟨wA.heap.size, 5, none⟩) (Nat.le_refl _) _⟩
/-- A kid's cells. -/
theorem kid_TF {w : World} {ok : Nat → Prop} {xs : List S26} {rs : List Raw} (h : Foot (fun W => KL W xs rs) w ok) (k : Nat) (hk : k < xs.length) : ∃ (A3 : Option Addr) (c3 : Nat) (A5 : Option Addr) (c5 : Nat), rs[k]? = some ⟨⟨.int .i64 (xs.getD k z26).f0, rfl⟩, ⟨.int .i64 (xs.getD k z26).f1, rfl⟩, ⟨.string (xs.getD k z26).f2, rfl⟩, ⟨.slice A3 (xs.getD k z26).f3.length c3, rfl⟩, ⟨.string (xs.getD k z26).f4, rfl⟩, ⟨.slice A5 (xs.getD k z26).f5.length c5, rfl⟩⟩ ∧ TF w ok (.agg #[.int .i64 (xs.getD k z26).f0, .int .i64 (xs.getD k z26).f1, .string (xs.getD k z26).f2, .slice A3 (xs.getD k z26).f3.length c3, .string (xs.getD k z26).f4, .slice A5 (xs.getD k z26).f5.length c5]) (xs.getD k z26) := by
  have hx : xs[k]? = some (xs.getD k z26) := by simp [List.getD, List.getElem?_eq_getElem hk]
  obtain ⟨r, hr, hK⟩ := (Foot.now h).at k _ hx
  obtain ⟨A3, c3, A5, c5, e, _⟩ := k26_open hK
  obtain ⟨⟨r0, p0⟩, ⟨r1, p1⟩, ⟨r2, p2⟩, ⟨r3, p3⟩, ⟨r4, p4⟩, ⟨r5, p5⟩⟩ := r
  unfold cl at e
  simp only [List.cons.injEq] at e
  obtain ⟨rfl, rfl, rfl, rfl, rfl, rfl, _⟩ := e
  refine ⟨A3, c3, A5, c5, hr, fun W hW => ?_⟩
  obtain ⟨r', hr', hK'⟩ := (h W hW).at k _ hx
  rw [hr] at hr'
  cases hr'
  obtain ⟨B3, d3, B5, d5, e', l3, g3, l5, g5⟩ := k26_open hK'
  unfold cl at e'
  simp only [List.cons.injEq, Value.slice.injEq] at e'
  obtain ⟨_, _, _, ⟨rfl, _, rfl⟩, _, ⟨rfl, _, rfl⟩, _⟩ := e'
  exact ⟨_, _, _, _, rfl, l3, g3, l5, g5⟩
theorem raw_cells {w : World} {g n : Nat} {rs : List Raw} (h : kRaw.C w (some ⟨g, 0, none⟩) n rs) (k : Nat) (r : Raw) (hr : rs[k]? = some r) : w.cell? ⟨g, k * 6, none⟩ = some r.x0.v ∧ w.cell? ⟨g, k * 6 + 1, none⟩ = some r.x1.v ∧ w.cell? ⟨g, k * 6 + 2, none⟩ = some r.x2.v ∧ w.cell? ⟨g, k * 6 + 3, none⟩ = some r.x3.v ∧ w.cell? ⟨g, k * 6 + 4, none⟩ = some r.x4.v ∧ w.cell? ⟨g, k * 6 + 5, none⟩ = some r.x5.v := by
  have hk : k < rs.length := (List.getElem?_eq_some_iff.1 hr).1
  obtain ⟨ad, hA, hc⟩ := h.2.2 (by have := h.1; omega)
  cases hA
  obtain ⟨c, _, hK, hcell⟩ := hc k r hr
  obtain rfl := kRaw_K hK
  have key : ∀ i u, (cl r)[i]? = some u → w.cell? ⟨g, k * 6 + i, none⟩ = some u := fun i u hu => by
    have h1 : w.cell? ((⟨g, 0, none⟩ : Addr).add (k * 6 + i)) = some u := hcell i u hu
    rwa [add0] at h1
  exact ⟨key 0 _ rfl, key 1 _ rfl, key 2 _ rfl, key 3 _ rfl, key 4 _ rfl, key 5 _ rfl⟩
/-- A tree as a value, its row of kids in a block of its own, which nothing else of it leads to. -/
def OwnT (ok : Nat → Prop) (N : Nat) (w : World) (v : Value) (t : S26) : Prop := ∃ (A3 : Option Addr) (c3 g c5 : Nat) (rs : List Raw), v = .agg #[.int .i64 t.f0, .int .i64 t.f1, .string t.f2, .slice A3 t.f3.length c3, .string t.f4, .slice (some ⟨g, 0, none⟩) t.f5.length c5] ∧ N ≤ g ∧ t.f3.length ≤ c3 ∧ Kd.F k47 w (fun k => (ok k ∨ N ≤ k) ∧ k ≠ g) A3 t.f3.length t.f3 ∧ kRaw.R 26 w N (fun k => N ≤ k) (.slice (some ⟨g, 0, none⟩) t.f5.length c5) rs ∧ rs.length = t.f5.length ∧ Foot (fun W => KL W t.f5 rs) w (fun k => (ok k ∨ N ≤ k) ∧ k ≠ g)
/-- 'under' down a way: the tree's row is its own. -/
def UnderOwn (x : S26) (n : Nat) : Prop := ∀ (way : List Nat) (t : S26) (vt vx : Value) (w : World) (ok : Nat → Prop) (Aw : Option Addr) (cw : Nat), way.length = n → ValidW way t → TF w ok vt t → TF w ok vx x → W t ≤ 100000000 → way.length ≤ cw → kI.C w Aw (way.map Int.ofNat).length (way.map Int.ofNat) →
    Calls Tryd.prog 21 #[vt, .slice Aw way.length cw, vx] w fun e w' => ∃ v vw, e = .returned (.tuple #[v, vw]) ∧ (TF w' (fun k => ok k ∨ w.heap.size ≤ k) v (underL x way t).1 ∧ OwnT ok w.heap.size w' v (underL x way t).1) ∧ WF w' (fun k => ok k ∨ w.heap.size ≤ k) vw (underL x way t).2 ∧ Below w.heap.size w w'
set_option maxHeartbeats 20000000 in
set_option maxRecDepth 100000 in
theorem under_own (x : S26) (n : Nat) (ih : UnderAt x n) : UnderOwn x (n + 1) := by
  intro way t vt vx w ok Aw cw hl hv ht hx hW hcw hAw
  obtain ⟨k, r, rfl⟩ : ∃ k r, way = k :: r := by
    cases way with
    | nil => simp at hl
    | cons k r => exact ⟨k, r, rfl⟩
  have hkl := hv.1
  have HVR := hide hv.2
  have HLR_ := hide (show r.length = n by simpa using hl)
  obtain ⟨A3, c3, A5, c5, rfl, l3, g3, l5, g5⟩ := ht.open_
  have HTX := hide hx.bound
  obtain ⟨B3, d3, B5, d5, rfl, m3, j3, m5, j5⟩ := hx.open_
  obtain ⟨rs, hrs, hKL⟩ := C_raw (Kd.F_now g5)
  obtain ⟨K3, e3, K5, e5, hrk, hKT⟩ := kid_TF (KL_foot g5 hrs hKL) k hkl
  have HKT := hide hKT.bound
  have HRK := hide hrk
  have HKF := hide (KL_foot g5 hrs hKL)
  have HF3 := hide g3
  obtain ⟨w1, w2, w3, hw1, hw2, hw3, hs1, hs2, hs3, b02, hb3, b03, HT_, HX_, HZ_⟩ := boxes3 t x A3 c3 A5 c5 B3 d3 B5 d5 w
  have HT := hide HT_
  have HX := hide HX_
  have HZ := hide HZ_
  have HB := hide b03
  have HS := hide hs3
  have HZ1 := hide hs1
  have HZ2 := hide hs2
  have HW1 := hide hw1
  have HW2 := hide hw2
  have HW3 := hide hw3
  have HRS := hide (Kd.C_below hrs b03)
  have HLR := hide hKL.len
  have HL := hide (And.intro l3 l5)
  have hkW := W_kid t k hkl
  have HWK := hide (show W (t.f5.getD k z26) ≤ 100000000 by omega)
  have hn5 : t.f5.length ≤ 100000000 := by have := W_eq t; have := WK_len t.f5; omega
  have hwl : r.length ≤ 100000000 := by have h1 := way_len' r _ hv.2; omega
  have HWL := hide hwl
  obtain ⟨aw, hA, hcell⟩ := hAw.2.2 (by simp)
  subst hA
  obtain ⟨_, _, hk0, hcell0⟩ := hcell 0 (Int.ofNat k) (by simp)
  have hcw1 : 1 ≤ cw := by have : (k :: r).length = r.length + 1 := rfl; omega
  obtain ⟨i3, hi3, hs3_⟩ : ∃ i, Tryd.prog.info? 3 = some i ∧ i.size = 1 := by
    obtain ⟨i0, hi, hzz⟩ := Option.map_eq_some_iff.1 info3
    simp only [Prod.mk.injEq] at hzz
    exact ⟨i0, hi, hzz.2.1⟩
  have hcut := cut_from (P := Tryd.prog) 31 3 .i64 Tryd.underlying31 hi3 1 hs3_ (some aw) (r.length + 1) cw (1 : Int) (by omega) (by omega)
  clear hs3_ hi3
  have hcr : kI.C w (if cw = 1 then some aw else (some aw).map (·.add 1)) (r.map Int.ofNat).length (r.map Int.ofNat) := by
    have h := Kd.C_drop (m := 1) (c := cw) hAw (by simp) (by simpa using hcw)
    exact h
  obtain ⟨Ar, hAr⟩ : ∃ Ar, (if cw = 1 then some aw else (some aw).map (·.add 1)) = Ar := ⟨_, rfl⟩
  rw [hAr] at hcr
  have hcut' : ∀ W : World, (Instr.slice 31 (.slice (some aw) (r.length + 1) cw) (some (.int .i64 1)) none none).run Tryd.prog W = .ok (.slice Ar r.length (cw - 1)) W := by
    rw [← hAr]
    exact hcut
  clear hcut hAr
  have HCR := hide hcr
  have HCW := hide (show r.length ≤ cw - 1 by have : (k :: r).length = r.length + 1 := rfl; omega)
  clear hs1 hs2 hs3 b02 hb3 b03 HT_ HX_ HZ_ hw1 hw2 hw3 g3 g5 hrs hKL l3 l5 m3 m5 j3 j5 hW hcell hv hl hAw hcw hkW hKT hrk ht hx hcr
  have a0 : w3.cell? ⟨w.heap.size, 0, none⟩ = some (.int .i64 t.f0) := cell_of_row _ _ 0 _ _ _ HT.out
  have a1 : w3.cell? ⟨w.heap.size, 1, none⟩ = some (.int .i64 t.f1) := cell_of_row _ _ 1 _ _ _ HT.out
  have a2 : w3.cell? ⟨w.heap.size, 2, none⟩ = some (.string t.f2) := cell_of_row _ _ 2 _ _ _ HT.out
  have a3 : w3.cell? ⟨w.heap.size, 3, none⟩ = some (.slice A3 t.f3.length c3) := cell_of_row _ _ 3 _ _ _ HT.out
  have a4 : w3.cell? ⟨w.heap.size, 4, none⟩ = some (.string t.f4) := cell_of_row _ _ 4 _ _ _ HT.out
  have a5 : w3.cell? ⟨w.heap.size, 5, none⟩ = some (.slice A5 t.f5.length c5) := cell_of_row _ _ 5 _ _ _ HT.out
  have a5' : (w3.alloc (.cells #[] 26)).cell? ⟨w.heap.size, 5, none⟩ = some (.slice A5 t.f5.length c5) := cellW a5 (below_alloc (Below.refl _ _) _)
  have eaw : aw.add 0 = aw := by unfold Addr.add; split <;> simp_all
  have k0 : w3.cell? aw = some (.int .i64 (k : Int)) := by
    rw [← eaw]
    exact cellW (hcell0 0 _ (by rw [show _ = [Value.int .i64 (Int.ofNat k)] from hk0]; rfl)) HB.out
  clear hcell0 hk0 eaw
  have hlz : ((r.length : Int) + 1 == 0) = false := by rw [beq_eq_false_iff_ne]; omega
  have hlz2 : (0 : Int) < (r.length : Int) + 1 := by omega
  have hw1 := HW1.out
  have hw2 := HW2.out
  have hw3 := HW3.out
  obtain ⟨t0, t1, t2, t3, t4, t5⟩ := t
  obtain ⟨x0, x1, x2, x3, x4, x5⟩ := x
  dsimp only at *
  obtain ⟨⟨⟨y0, y1, y2, y3, y4, y5⟩, yw⟩, hy⟩ : ∃ y, underL ⟨x0, x1, x2, x3, x4, x5⟩ r (t5.getD k z26) = y := ⟨_, rfl⟩
  have hu : underL ⟨x0, x1, x2, x3, x4, x5⟩ (k :: r) ⟨t0, t1, t2, t3, t4, t5⟩ = (⟨t0, t1, t2, t3, t4, t5.set k ⟨y0, y1, y2, y3, y4, y5⟩⟩, k :: yw) := by rw [underL, hy]
  rw [hu]
  have HY := hide hy
  clear hy hu
  obtain ⟨⟨q0, q1, q2, q3, q4, q5⟩, hq⟩ : ∃ q, t5.getD k z26 = q := ⟨_, rfl⟩
  rw [hq] at HVR HKT HRK HWK HY
  dsimp only at HRK HKT
  clear hq
  go_enter Tryd.func21, Tryd.ntmps21
  go_upto_region 10 with fail
  clear k0 hlz hlz2
  go_wp2_with (at_builtin; refine Kd.R_append_rows kRaw (Rr := kRaw.K w3) (w0 := w3) w3.heap.size rfl (.tmp 58) (.tmp 60) 24 26 (.agg #[.int .i64 0, .int .i64 0, .string ⟨#[]⟩, .slice none 0 0, .string ⟨#[]⟩, .slice none 0 0]) 96 rfl Tryd.underlying24 info26 rfl (by decide) (by decide) _ [] rs A5 t5.length c5 (fun _ => True) (fun _ => False) rfl rfl (lit0R w3 _ (Nat.le_refl _)) (by rw [HLR.out]; exact Kd.C_alloc HRS.out _) (fun _ _ h => kRaw_KM h) (fun k hk => hk.elim) (fun _ _ => trivial) (below_alloc (Below.refl _ _) _) (by simp) (by simp; omega) ?_; intro v1 wA ho hb hg hown; rw [List.nil_append] at ho; have HO1 := hide ho; have HBA := hide hb; clear ho hb hg hown)
  obtain ⟨g, cv, rfl, hgb, hglt, gc, hgc⟩ := Kd.R_form HO1.out (by rw [← HLR.out]; omega)
  rw [← HLR.out]
  obtain ⟨z0, z1, z2, z3, z4, z5⟩ := raw_cells (Kd.R_reads' HO1.out).2.2 k _ HRK.out
  dsimp only at z0 z1 z2 z3 z4 z5
  have HGB := hide hgb
  have HGL := hide hglt
  have bA3 := HBA.out
  have ba := below_alloc (Below.refl wA.heap.size wA) (.cells #[.int .i64 0, .int .i64 0, .string ⟨#[]⟩, .slice none 0 0, .string ⟨#[]⟩, .slice none 0 0] 26)
  have z0' := cellW z0 ba
  have z1' := cellW z1 ba
  have z2' := cellW z2 ba
  have z3' := cellW z3 ba
  have z4' := cellW z4 ba
  have z5' := cellW z5 ba
  have hXa := (bA3.block _ (blk_lt HX.out)).trans HX.out
  have u0 := cell_of_row _ _ 0 _ _ _ hXa
  have u1 := cell_of_row _ _ 1 _ _ _ hXa
  have u2 := cell_of_row _ _ 2 _ _ _ hXa
  have u3 := cell_of_row _ _ 3 _ _ _ hXa
  have u4 := cell_of_row _ _ 4 _ _ _ hXa
  have u5 := cell_of_row _ _ 5 _ _ _ hXa
  have u0' := cellW u0 ba
  have u1' := cellW u1 ba
  have u2' := cellW u2 ba
  have u3' := cellW u3 ba
  have u4' := cellW u4 ba
  have u5' := cellW u5 ba
  have b0A : Below w.heap.size w wA := below_step HB.out (by have := bA3; exact this)
  have HB0 := hide b0A
  have HC := hide (fun (W' : World) (hW' : Below w.heap.size w W') => ih r ⟨q0, q1, q2, q3, q4, q5⟩ _ _ W' (fun k => ok k ∧ k < w.heap.size) _ (cw - 1) HLR_.out HVR.out (HKT.out.below hW') (HTX.out.below hW') HWK.out HCW.out (Kd.C_below HCR.out hW'))
  clear bA3 ba hXa b0A hgb hglt a0 a1 a2 a3 a4 a5 a5' hw1 hw2 hw3
  go_cut [11, 12] from 62 to 72 (fun v11 v12 wx => Rel11 wA (fun k => (ok k ∧ k < w.heap.size) ∨ wA.heap.size ≤ k) ⟨y0, y1, y2, y3, y4, y5⟩ yw v11 v12 wx)
  case first =>
    have HBB1 := hide (below_step HB0.out (below_alloc (Below.refl wA.heap.size wA) (.cells #[.int .i64 0, .int .i64 0, .string ⟨#[]⟩, .slice none 0 0, .string ⟨#[]⟩, .slice none 0 0] 26))).drew
    have HZN := hide (heap_alloc_new wA (.cells #[.int .i64 0, .int .i64 0, .string ⟨#[]⟩, .slice none 0 0, .string ⟨#[]⟩, .slice none 0 0] 26))
    go_region_with (first | (go_at_call 21; (with_reducible refine (HC.out ((wA.alloc (.cells #[.int .i64 0, .int .i64 0, .string ⟨#[]⟩, .slice none 0 0, .string ⟨#[]⟩, .slice none 0 0] 26)).drew) HBB1.out).mono ?_); rintro e wn ⟨v, vw, rfl, hT, hWw, hB⟩; rw [HY.out] at hT hWw; dsimp only at hT hWw; obtain ⟨N3, n3, N5, n5, rfl, _, _, _, _⟩ := hT.open_; have hZ := (hB.block wA.heap.size (by simp)).trans HZN.out; have p0 := cell_of_row _ _ 0 _ _ _ hZ; have o0 := blk_frozen hZ 0; have p1 := cell_of_row _ _ 1 _ _ _ hZ; have o1 := blk_frozen hZ 1; have p2 := cell_of_row _ _ 2 _ _ _ hZ; have o2 := blk_frozen hZ 2; have p3 := cell_of_row _ _ 3 _ _ _ hZ; have o3 := blk_frozen hZ 3; have p4 := cell_of_row _ _ 4 _ _ _ hZ; have o4 := blk_frozen hZ 4; have p5 := cell_of_row _ _ 5 _ _ _ hZ; have o5 := blk_frozen hZ 5; have HTB := hide hT; have HWB := hide hWw; have HBB := hide hB; clear hT hWw hB hZ) | (go_at_call 21; (with_reducible refine (HC.out (wA.drew) HB0.out.drew).mono ?_); rintro e wn ⟨v, vw, rfl, hT, hWw, hB⟩; rw [HY.out] at hT hWw; dsimp only at hT hWw; obtain ⟨N3, n3, N5, n5, rfl, _, _, _, _⟩ := hT.open_; have HTA := hide hT; have HWA := hide hWw; have HBA2 := hide hB; clear hT hWw hB))
    all_goals (
      go_wp2_with fail
      go_meet
      first
      | (have h := HTA.out
         have hb := HBA2.out
         exact rel11A (y := ⟨y0, y1, y2, y3, y4, y5⟩) (below_step ((Below.refl wA.heap.size wA).drew) hb) (h.mono (fun k hk => hk.imp id (fun h => by simpa using h))) (HWA.out.mono (fun k hk => hk.imp id (fun h => by simpa using h))))
      | (have h := HTB.out
         have hb := HBB.out
         exact rel11B (y := ⟨y0, y1, y2, y3, y4, y5⟩) (by simpa using below_of_drew hb) h HWB.out (okB1 HB0.out.size (by simp)) (okB2 (by simp))))
  case rest =>
    clear z0 z1 z2 z3 z4 z5 z0' z1' z2' z3' z4' z5' u0 u1 u2 u3 u4 u5 u0' u1' u2' u3' u4' u5'
    have hyl := under_len ⟨x0, x1, x2, x3, x4, x5⟩ r ⟨q0, q1, q2, q3, q4, q5⟩
    rw [HY.out] at hyl
    have HYL := hide (show yw.length ≤ 100000001 by have := HWL.out; dsimp only at hyl; omega)
    clear hyl hcut'
    obtain ⟨X, N3, n3, N5, n5, rfl, hX, hT, hWr, hXge, hb⟩ := hcut
    dsimp only at hX hT
    have HTY := hide hT
    have HWY := hide hWr
    have HBC := hide hb
    have HXg := hide hXge
    have HXX := hide hX
    have p0 := cell_of_row _ _ 0 _ _ _ hX
    have p1 := cell_of_row _ _ 1 _ _ _ hX
    have p2 := cell_of_row _ _ 2 _ _ _ hX
    have p3 := cell_of_row _ _ 3 _ _ _ hX
    have p4 := cell_of_row _ _ 4 _ _ _ hX
    have p5 := cell_of_row _ _ 5 _ _ _ hX
    have hgC := (hb.block _ HGL.out).trans hgc
    have zc := raw_cells (Kd.R_reads' (Kd.R_below HO1.out hb)).2.2 k _ HRK.out
    obtain ⟨z0, z1, z2, z3, z4, z5⟩ := zc
    dsimp only at z0 z1 z2 z3 z4 z5
    have o0 := blk_frozen hgC (k * 6)
    have o1 := blk_frozen hgC (k * 6 + 1)
    have o2 := blk_frozen hgC (k * 6 + 2)
    have o3 := blk_frozen hgC (k * 6 + 3)
    have o4 := blk_frozen hgC (k * 6 + 4)
    have o5 := blk_frozen hgC (k * 6 + 5)
    have hXT := (hb.block _ (blk_lt ((HBA.out.block _ (blk_lt HT.out)).trans HT.out))).trans ((HBA.out.block _ (blk_lt HT.out)).trans HT.out)
    have HXT := hide hXT
    have n53 : ∀ q, w.heap.size ≠ g ∨ q := fun q => .inl (by have := HGB.out; have := HS.out; omega)
    have ngX3 : w.heap.size ≠ g := by have := HGB.out; have := HS.out; omega
    have hBW : Below w.heap.size w wc := below_step HB0.out hb
    have HBW := hide hBW
    clear hb hX hT hWr hgC hXT n53 hXge hBW
    go_upto_region 12 with fail
    go_cut [] from 73 to 76 (fun wx => Rel12 w w3 w.heap.size w2.heap.size g cv k (fun k => (ok k ∧ k < w.heap.size) ∨ wA.heap.size ≤ k) ⟨t0, t1, t2, t3, t4, t5⟩ ⟨y0, y1, y2, y3, y4, y5⟩ A3 c3 A5 c5 rs u12 yw wx)
    case first =>
      go_wp2_with fail
      go_meet
      have hR := Kd.R_below HO1.out HBC.out
      have hkr : k < rs.length := by rw [← HLR.out]; exact hkl
      have h := (Kd.R_seg (d := kRaw) hR (k : Int) (by omega) (by omega) (c := [.int .i64 q0, .int .i64 q1, .string q2, .slice K3 q3.length e3, .string q4, .slice K5 q5.length e5]) (seg := [.int .i64 y0, .int .i64 y1, .string y2, .slice N3 y3.length n3, .string y4, .slice N5 y5.length n5]) (j := 0) rfl (fun j u hu => by
        show wc.cell? ⟨g, k * 6 + j, none⟩ = some u
        match j, hu with
        | 0, hu => cases hu; exact z0
        | 1, hu => cases hu; exact z1
        | 2, hu => cases hu; exact z2
        | 3, hu => cases hu; exact z3
        | 4, hu => cases hu; exact z4
        | 5, hu => cases hu; exact z5) (Nat.le_refl 6) (x' := rawT ⟨y0, y1, y2, y3, y4, y5⟩ N3 n3 N5 n5) (okp := fun _ => False) (kRaw_M _ _ _ _) (fun k hk => hk.elim)).1
      have hg3 : ∀ k, (ok k ∧ k < w.heap.size) ∨ wA.heap.size ≤ k → k ≠ g := fun k hk => by
        have h1 := HGB.out
        have h2 := HS.out
        have h3 := HGL.out
        rcases hk with hk | hk
        · have := hk.2
          omega
        · omega
      have hX6 := (HBC.out.block _ (blk_lt ((HBA.out.block _ (blk_lt HZ.out)).trans HZ.out))).trans ((HBA.out.block _ (blk_lt HZ.out)).trans HZ.out)
      have n6 : w2.heap.size ≠ g := by have := HGB.out; have := HS.out; have := HZ2.out; omega
      have hle : w.heap.size ≤ g := by have := HGB.out; have := HS.out; omega
      rw [← HLR.out] at h
      exact ⟨N3, n3, N5, n5, (set6_far _ ngX3).trans HXT.out, (set6_far _ n6).trans hX6, Kd.R_mono (Kd.R_bound h) (fun k hk => hk.2.1), HTY.out.step (fun k hk _ => set6_far k (hg3 k hk)), HWY.out.step (fun k hk _ => set6_far k (hg3 k hk)), (((((HBW.out.setCell (p := ⟨g, k * 6, none⟩) hle _).setCell (p := ⟨g, k * 6 + 1, none⟩) hle _).setCell (p := ⟨g, k * 6 + 2, none⟩) hle _).setCell (p := ⟨g, k * 6 + 3, none⟩) hle _).setCell (p := ⟨g, k * 6 + 4, none⟩) hle _).setCell (p := ⟨g, k * 6 + 5, none⟩) hle _⟩
    case rest =>
      clear z0 z1 z2 z3 z4 z5 o0 o1 o2 o3 o4 o5 p0 p1 p2 p3 p4 p5
      obtain ⟨M3, m3, M5, m5, hT3, hT6, hR, hTy, hWy, hbw⟩ := hcut
      dsimp only at hT3 hR hTy
      have c5_ := cell_of_row _ _ 5 _ _ _ hT3
      have d5_ := blk_frozen hT3 5
      go_upto_region 14 with fail
      have n63 : w2.heap.size ≠ w.heap.size := by have := HZ2.out; omega
      have h3g : ∀ k, w3.heap.size ≤ k → k ≠ w.heap.size := fun k hk => by have := HS.out; omega
      have hAs := HB0.out.size
      have hgk : ∀ k, (ok k ∧ k < w.heap.size) ∨ wA.heap.size ≤ k → k ≠ w.heap.size := fun k hk => by
        have h3 := HB0.out.size
        have h4 := HGL.out
        have h5 := HGB.out
        have h6 := HS.out
        rcases hk with hk | hk
        · have := hk.2
          omega
        · omega
      have fT3 := blk_set hT3 5 (.slice (some ⟨g, 0, none⟩) t5.length cv)
      have fT6 := (Below.heap_setCell wc ⟨w.heap.size, 5, none⟩ (.slice (some ⟨g, 0, none⟩) t5.length cv) _ n63).trans hT6
      have fR := Kd.R_far (p := ⟨w.heap.size, 5, none⟩) hR h3g (.slice (some ⟨g, 0, none⟩) t5.length cv)
      have fTy := hTy.step (w1 := wc.setCell ⟨w.heap.size, 5, none⟩ (.slice (some ⟨g, 0, none⟩) t5.length cv)) (fun k hk _ => Below.heap_setCell _ _ _ _ (hgk k hk))
      have fWy := hWy.step (w1 := wc.setCell ⟨w.heap.size, 5, none⟩ (.slice (some ⟨g, 0, none⟩) t5.length cv)) (fun k hk _ => Below.heap_setCell _ _ _ _ (hgk k hk))
      have fbw := hbw.setCell (p := ⟨w.heap.size, 5, none⟩) (Nat.le_refl _) (.slice (some ⟨g, 0, none⟩) t5.length cv)
      obtain ⟨wd, hwd⟩ : ∃ wd, wc.setCell ⟨w.heap.size, 5, none⟩ (.slice (some ⟨g, 0, none⟩) t5.length cv) = wd := ⟨_, rfl⟩
      rw [hwd] at fT3 fT6 fR fTy fWy fbw ⊢
      clear hwd hT3 hT6 hR hTy hWy hbw c5_ d5_
      obtain ⟨Aq, cq, rfl, hcq, hCq⟩ := fWy.now
      rw [List.length_map] at hCq
      have HCQ := hide hCq
      have HT3 := hide fT3
      have HT6 := hide fT6
      have HR6 := hide fR
      have HTY6 := hide fTy
      have HBW6 := hide fbw
      have a0 := cell_of_row _ _ 0 _ _ _ fT3
      have a1 := cell_of_row _ _ 1 _ _ _ fT3
      have a2 := cell_of_row _ _ 2 _ _ _ fT3
      have a3 := cell_of_row _ _ 3 _ _ _ fT3
      have a4 := cell_of_row _ _ 4 _ _ _ fT3
      have a5 := cell_of_row _ _ 5 _ _ _ fT3
      have bd := below_alloc (Below.refl wd.heap.size wd) (.cells #[.int .i64 (k : Int)] 3)
      have a0' := cellW a0 bd
      have a1' := cellW a1 bd
      have a2' := cellW a2 bd
      have a3' := cellW a3 bd
      have a4' := cellW a4 bd
      have a5' := cellW a5 bd
      clear fT3 fT6 fR fTy fWy fbw hCq hcq bd n63 h3g hAs hgk
      first
      | go_region_law (first | (refine Kd.R_append_rows_step kI (Rr := kI.K wd) (w0 := wd) wd.heap.size rfl (.tmp 81) (.tmp 82) 31 3 (.int .i64 0) 8 rfl Tryd.underlying31 info3 rfl (by decide) (by decide) (.slice (some ⟨wd.heap.size, 0, none⟩) 1 1) [(k : Int)] (yw.map Int.ofNat) Aq yw.length cq (fun _ => True) (fun _ => False) rfl rfl (by first | exact Kd.R_drew (lit1R wd wd.heap.size k (Nat.le_refl _)) | exact lit1R wd wd.heap.size k (Nat.le_refl _)) (by first | exact Kd.C_drew (Kd.C_alloc HCQ.out _) | exact Kd.C_alloc HCQ.out _) (fun _ _ h => h) (fun k hk => hk.elim) (fun _ _ => trivial) (by first | exact (below_alloc (Below.refl _ _) _).drew | exact below_alloc (Below.refl _ _) _) (by simp) (by have := HYL.out; simp; omega) ?_; intro v1 wB ho hb hg hown; have HO14 := hide ho; have HB14 := hide hb; have g0 := cellW a0 hb; have g1 := cellW a1 hb; have g2 := cellW a2 hb; have g3 := cellW a3 hb; have g4 := cellW a4 hb; have g5 := cellW a5 hb; have hZB := (hb.block _ (blk_lt HT6.out)).trans HT6.out; have h0_ := cell_of_row _ _ 0 _ _ _ hZB; have j0 := blk_frozen hZB 0; have h1_ := cell_of_row _ _ 1 _ _ _ hZB; have j1 := blk_frozen hZB 1; have h2_ := cell_of_row _ _ 2 _ _ _ hZB; have j2 := blk_frozen hZB 2; have h3_ := cell_of_row _ _ 3 _ _ _ hZB; have j3 := blk_frozen hZB 3; have h4_ := cell_of_row _ _ 4 _ _ _ hZB; have j4 := blk_frozen hZB 4; have h5_ := cell_of_row _ _ 5 _ _ _ hZB; have j5 := blk_frozen hZB 5; have HZB := hide hZB; clear ho hb hg hown hZB))
      | fail
      all_goals (
        go_wp2_with fail
        have hfin := (blk_set (blk_set (blk_set (blk_set (blk_set (blk_set HZB.out 0 (.int .i64 t0)) 1 (.int .i64 t1)) 2 (.string t2)) 3 (.slice A3 t3.length c3)) 4 (.string t4)) 5 (.slice (some ⟨g, 0, none⟩) t5.length cv))
        have h26 : w.heap.size ≤ w2.heap.size := by have := HZ2.out; omega
        have hbB := below_step HBW6.out HB14.out
        have hbF := ((((((hbB.setCell (p := ⟨w2.heap.size, 0, none⟩) h26 (.int .i64 t0)).setCell (p := ⟨w2.heap.size, 1, none⟩) h26 (.int .i64 t1)).setCell (p := ⟨w2.heap.size, 2, none⟩) h26 (.string t2)).setCell (p := ⟨w2.heap.size, 3, none⟩) h26 (.slice A3 t3.length c3)).setCell (p := ⟨w2.heap.size, 4, none⟩) h26 (.string t4)).setCell (p := ⟨w2.heap.size, 5, none⟩) h26 (.slice (some ⟨g, 0, none⟩) t5.length cv))
        have hne : ∀ k, w3.heap.size ≤ k → k ≠ w2.heap.size := fun k hk => by have := HZ2.out; have := HS.out; omega
        have hlt : w2.heap.size < wd.heap.size := blk_lt HT6.out
        have hAs := HB0.out.size
        have hgk : ∀ k, (ok k ∧ k < w.heap.size) ∨ wA.heap.size ≤ k → k ≠ w2.heap.size := fun k hk => by
          have h3 := HGL.out
          have h5 := HGB.out
          have h6 := HS.out
          have h7 := HZ2.out
          rcases hk with hk | hk
          · have := hk.2
            omega
          · omega
        have hRF := Kd.R_step (Kd.R_bound (Kd.R_below HR6.out HB14.out)) (fun k hk _ => set6_far (a0 := 0) (a1 := 1) (a2 := 2) (a3 := 3) (a4 := 4) (a5 := 5) (v0 := (.int .i64 t0)) (v1 := (.int .i64 t1)) (v2 := (.string t2)) (v3 := (.slice A3 t3.length c3)) (v4 := (.string t4)) (v5 := (.slice (some ⟨g, 0, none⟩) t5.length cv)) k (hne k hk.1))
        have hTyF := ((HTY6.out.below HB14.out).step (fun k hk _ => set6_far (a0 := 0) (a1 := 1) (a2 := 2) (a3 := 3) (a4 := 4) (a5 := 5) (v0 := (.int .i64 t0)) (v1 := (.int .i64 t1)) (v2 := (.string t2)) (v3 := (.slice A3 t3.length c3)) (v4 := (.string t4)) (v5 := (.slice (some ⟨g, 0, none⟩) t5.length cv)) k (hgk k hk))).mono (ok' := fun k => ok k ∨ w.heap.size ≤ k) (fun k hk => hk.imp (fun h => h.1) (fun h => Nat.le_trans hAs h))
        have hWF := Kd.R_step (Kd.R_bound HO14.out) (fun k hk _ => set6_far (g := w2.heap.size) (a0 := 0) (a1 := 1) (a2 := 2) (a3 := 3) (a4 := 4) (a5 := 5) (v0 := (.int .i64 t0)) (v1 := (.int .i64 t1)) (v2 := (.string t2)) (v3 := (.slice A3 t3.length c3)) (v4 := (.string t4)) (v5 := (.slice (some ⟨g, 0, none⟩) t5.length cv)) k (by have h9 : wd.heap.size ≤ k := hk.2.1; omega))
        have hcv := (Kd.R_reads' hRF).2.1
        have hTT := TF.mk (A3 := A3) (c3 := c3) (A5 := some ⟨g, 0, none⟩) (c5 := cv) (⟨t0, t1, t2, t3, t4, t5.set k ⟨y0, y1, y2, y3, y4, y5⟩⟩ : S26) HL.out.1 (foot_on HF3.out hbF w.heap.size) (by rw [List.length_set]; exact hcv) (F_raw (Kd.F_mono (Kd.R_F hRF) (fun k hk => .inr (by have := hk.2.1; have := HS.out; omega))) (KL_set (foot_on HKF.out hbF w.heap.size) k hTyF))
        dsimp only at hTT
        rw [List.length_set] at hTT
        have hgw : w.heap.size ≤ g := by have h5 := HGB.out; have h6 := HS.out; omega
        have hgA : g < wA.heap.size := HGL.out
        have hTyO := ((HTY6.out.below HB14.out).step (fun k hk _ => set6_far (a0 := 0) (a1 := 1) (a2 := 2) (a3 := 3) (a4 := 4) (a5 := 5) (v0 := (.int .i64 t0)) (v1 := (.int .i64 t1)) (v2 := (.string t2)) (v3 := (.slice A3 t3.length c3)) (v4 := (.string t4)) (v5 := (.slice (some ⟨g, 0, none⟩) t5.length cv)) k (hgk k hk))).mono (ok' := fun k => (ok k ∨ w.heap.size ≤ k) ∧ k ≠ g) (fun k hk => ⟨hk.imp (fun h => h.1) (fun h => Nat.le_trans hAs h), by rcases hk with hk | hk; (have := hk.2; omega); omega⟩)
        have hoo : OwnT ok w.heap.size _ (.agg #[.int .i64 t0, .int .i64 t1, .string t2, .slice A3 t3.length c3, .string t4, .slice (some ⟨g, 0, none⟩) (t5.set k ⟨y0, y1, y2, y3, y4, y5⟩).length cv]) (⟨t0, t1, t2, t3, t4, t5.set k ⟨y0, y1, y2, y3, y4, y5⟩⟩ : S26) :=
          ⟨A3, c3, g, cv, _, rfl, hgw, HL.out.1, Foot.mono (Foot.step (Foot.bound HF3.out) (fun k _ hk => hbF.block k hk)) (fun k hk => ⟨.inl hk.1, by have := hk.2; omega⟩), by
              have h := Kd.R_mono hRF (ok' := fun k => w.heap.size ≤ k) (fun k hk => by have h1 : w3.heap.size ≤ k := hk.1; have h2 := HS.out; omega)
              rw [List.length_set]
              exact Kd.R_lower h (by have h2 := HS.out; omega), by
              rw [List.length_set, List.length_set, HLR.out], KL_set (Foot.mono (Foot.step (Foot.bound HKF.out) (fun k _ hk => hbF.block k hk)) (fun k hk => ⟨.inl hk.1, by have := hk.2; omega⟩)) k hTyO⟩
        rw [List.length_set] at hoo
        exact ⟨rfl, _, res_tree2 hfin 6 7 _ rfl rfl rfl, _, _, rfl, ⟨hTT, hoo⟩, WF_of_R hWF (fun k hk => .inr (Nat.le_trans HBW6.out.size hk.2.1)), hbF⟩)
theorem under_succ (x : S26) (n : Nat) (ih : UnderAt x n) : UnderAt x (n + 1) := fun way t vt vx w ok Aw cw a b c d e f g => (under_own x n ih way t vt vx w ok Aw cw a b c d e f g).mono fun _ _ ⟨v, vw, h1, h2, h3, h4⟩ => ⟨v, vw, h1, h2.1, h3, h4⟩
theorem under_at (x : S26) : ∀ n, UnderAt x n
  | 0 => under_zero x
  | n + 1 => under_succ x n (under_at x n)
end Go.Proofs.YteglfgmgpbablaaDoor.Cmp

/- The walk of the law AttrsTells: true. Printed by mk_tells.py (of this session). -/
import Derived.Test.YtgjnopabdipleaaAttrsSame
import Derived.Test.YtgjnopabdipleaaAttrsIntact
namespace Go.Proofs.Ytgjnopabdipleaa.Attrs
open Go.RowKit Go.Proofs.Ytgjnopabdipleaa.PAttrsTells Go.Proofs.YtgjnopabdipleaaW.PrintWords Go.Proofs.YtgjnopabdipleaaW.PrintLast

def MA : ByteArray := ⟨#[109, 97, 114, 107]⟩
theorem c17 (A : Option Addr) (c : Nat) (xs : List S29) (w : World) (h : Rds w A c xs) (hl : xs.length ≤ 20) :
    Calls Try.prog 17 #[.slice A xs.length c, .agg #[.string ⟨#[109, 97, 114, 107]⟩, .string ⟨#[]⟩]] w (Out (roomy xs ⟨MA, ⟨#[]⟩⟩) w) :=
  (roomy_is A c xs MA ⟨#[]⟩ w h hl).mono (fun _ _ => out_of)
theorem c18 (A B : Option Addr) (c d : Nat) (xs : List S29) (w : World) (h : Rds w A c (roomy xs ⟨MA, ⟨#[]⟩⟩)) (hy : Rds w B d xs) (hl : xs.length ≤ 20) :
    Calls Try.prog 18 #[.slice A (roomy xs ⟨MA, ⟨#[]⟩⟩).length c, .slice B xs.length d, .agg #[.string ⟨#[109, 97, 114, 107]⟩, .string ⟨#[]⟩]] w (Tells true w) :=
  (api_Attr_18.calls 2000 A c _ B d xs MA ⟨#[]⟩ true w h.1 h.2 hy.1 hy.2 (intact_true xs MA ⟨#[]⟩ (by omega) 2000 (by omega))).mono (fun _ _ h => h)
theorem cellsS {W W' : World} {p q : Addr} {u v : Value} (h1 : W.cell? p = some u) (h2 : W.cell? q = some v) (hb : Below W.heap.size W W') : W'.cell? p = some u ∧ W'.cell? q = some v :=
  ⟨(hb.cell (World.block_lt_of_cell? _ _ h1)).trans h1, (hb.cell (World.block_lt_of_cell? _ _ h2)).trans h2⟩
theorem stepT {W W' w0 : World} {g g' : Nat} {a b a' b' : ByteArray} {A B : Option Addr} {c d : Nat} {xs ys : List S29} {n : Nat} (h1 : W.cell? ⟨g, 0, none⟩ = some (.string a)) (h2 : W.cell? ⟨g, 1, none⟩ = some (.string b)) (k1 : W.cell? ⟨g', 0, none⟩ = some (.string a')) (k2 : W.cell? ⟨g', 1, none⟩ = some (.string b')) (h3 : Rds W A c xs) (h4 : Rds W B d ys) (h5 : Below n w0 W) (hn : n ≤ W.heap.size) (hb : Below W.heap.size W W') :
    W'.cell? ⟨g, 0, none⟩ = some (.string a) ∧ W'.cell? ⟨g, 1, none⟩ = some (.string b) ∧ W'.cell? ⟨g', 0, none⟩ = some (.string a') ∧ W'.cell? ⟨g', 1, none⟩ = some (.string b') ∧ Rds W' A c xs ∧ Rds W' B d ys ∧ Below n w0 W' ∧ n ≤ W'.heap.size :=
  ⟨(cellsS h1 h2 hb).1, (cellsS h1 h2 hb).2, (cellsS k1 k2 hb).1, (cellsS k1 k2 hb).2, rds_b h3 hb, rds_b h4 hb, h5.trans (hb.mono hn), Nat.le_trans hn hb.size⟩
theorem rds_tk {w : World} {A : Option Addr} {c : Nat} {xs : List S29} (h : Rds w A c xs) (m : Nat) (hm : m ≤ xs.length) : Rds w A c (xs.take m) := ⟨Kd.C_take h.1 hm, by rw [List.length_take]; have := h.2; omega⟩
theorem stepU {W W' w0 : World} {g g' : Nat} {a b a' b' : ByteArray} {A B C D : Option Addr} {c d p q : Nat} {xs ys X Y : List S29} {n : Nat} (h1 : W.cell? ⟨g, 0, none⟩ = some (.string a)) (h2 : W.cell? ⟨g, 1, none⟩ = some (.string b)) (k1 : W.cell? ⟨g', 0, none⟩ = some (.string a')) (k2 : W.cell? ⟨g', 1, none⟩ = some (.string b')) (h3 : Rds W A c xs) (h4 : Rds W B d ys) (h6 : Rds W C p xs) (h7 : Rds W D q ys) (h8 : Rds W C p X) (h9 : Rds W D q Y) (h5 : Below n w0 W) (hn : n ≤ W.heap.size) (hb : Below W.heap.size W W') :
    W'.cell? ⟨g, 0, none⟩ = some (.string a) ∧ W'.cell? ⟨g, 1, none⟩ = some (.string b) ∧ W'.cell? ⟨g', 0, none⟩ = some (.string a') ∧ W'.cell? ⟨g', 1, none⟩ = some (.string b') ∧ Rds W' A c xs ∧ Rds W' B d ys ∧ Rds W' C p xs ∧ Rds W' D q ys ∧ Rds W' C p X ∧ Rds W' D q Y ∧ Below n w0 W' ∧ n ≤ W'.heap.size :=
  ⟨(cellsS h1 h2 hb).1, (cellsS h1 h2 hb).2, (cellsS k1 k2 hb).1, (cellsS k1 k2 hb).2, rds_b h3 hb, rds_b h4 hb, rds_b h6 hb, rds_b h7 hb, rds_b h8 hb, rds_b h9 hb, h5.trans (hb.mono hn), Nat.le_trans hn hb.size⟩
theorem boxes (w : World) (a b p q : ByteArray) :
    ((w.alloc (.cells #[.string a, .string b] 29)).alloc (.cells #[.string p, .string q] 29)).cell? ⟨w.heap.size, 0, none⟩ = some (.string a) ∧ ((w.alloc (.cells #[.string a, .string b] 29)).alloc (.cells #[.string p, .string q] 29)).cell? ⟨w.heap.size, 1, none⟩ = some (.string b) ∧
    ((w.alloc (.cells #[.string a, .string b] 29)).alloc (.cells #[.string p, .string q] 29)).cell? ⟨w.heap.size + 1, 0, none⟩ = some (.string p) ∧ ((w.alloc (.cells #[.string a, .string b] 29)).alloc (.cells #[.string p, .string q] 29)).cell? ⟨w.heap.size + 1, 1, none⟩ = some (.string q) := by
  have e : ((w.alloc (.cells #[.string a, .string b] 29)).alloc (.cells #[.string p, .string q] 29)).heap[w.heap.size + 1]? = some (.cells #[.string p, .string q] 29 (0, 0)) := by
    have := heap_alloc_new (w.alloc (.cells #[.string a, .string b] 29)) (.cells #[.string p, .string q] 29)
    simpa using this
  have hb : Below (w.alloc (.cells #[.string a, .string b] 29)).heap.size (w.alloc (.cells #[.string a, .string b] 29)) ((w.alloc (.cells #[.string a, .string b] 29)).alloc (.cells #[.string p, .string q] 29)) := below_alloc (Below.refl _ _) _
  refine ⟨?_, ?_, ?_, ?_⟩
  · rw [hb.cell (p := ⟨w.heap.size, 0, none⟩) (by simp), cell_of_row _ _ 0 _ 29 (0, 0) (heap_alloc_new _ _)]; rfl
  · rw [hb.cell (p := ⟨w.heap.size, 1, none⟩) (by simp), cell_of_row _ _ 1 _ 29 (0, 0) (heap_alloc_new _ _)]; rfl
  · rw [cell_of_row _ _ 0 _ 29 (0, 0) e]; rfl
  · rw [cell_of_row _ _ 1 _ 29 (0, 0) e]; rfl

set_option maxHeartbeats 4000000 in
set_option maxRecDepth 100000 in
theorem tells_ss (A : Option Addr) (c : Nat) (xs : List S29) (B : Option Addr) (d : Nat) (ys : List S29) (a b : ByteArray) (w : World) (h : Rds w A c xs) (hy : Rds w B d ys) (hx : xs.length ≤ 20) (hyl : ys.length ≤ 20) :
    Calls Try.prog 6 #[.slice A xs.length c, .slice B ys.length d, .agg #[.string a, .string b]] w (Tells true w) := by
  obtain ⟨uxs, huxs⟩ : ∃ u, xs = u := ⟨_, rfl⟩
  have rxs : Rds w A c uxs := by rw [← huxs]; exact h
  have lxs : uxs.length = xs.length := by rw [← huxs]
  have dxs : decide (20 < xs.length) = false := decide_eq_false (by omega)
  have exs : decide ((20 : Int) < (xs.length : Int)) = false := decide_eq_false (by omega)
  obtain ⟨uys, huys⟩ : ∃ u, ys = u := ⟨_, rfl⟩
  have rys : Rds w B d uys := by rw [← huys]; exact hy
  have lys : uys.length = ys.length := by rw [← huys]
  have dys : decide (20 < ys.length) = false := decide_eq_false (by omega)
  have eys : decide ((20 : Int) < (ys.length : Int)) = false := decide_eq_false (by omega)
  obtain ⟨i0, hi0, _, hsz0, _⟩ := info_parts info29
  obtain ⟨X, hX⟩ : ∃ X, roomy uxs ⟨MA, ⟨#[]⟩⟩ = X := ⟨_, rfl⟩
  obtain ⟨Y, hY⟩ : ∃ Y, roomy uys ⟨MA, ⟨#[]⟩⟩ = Y := ⟨_, rfl⟩
  have lX : X.length = xs.length + 80 := by rw [← hX, roomy_len, lxs]
  have lY : Y.length = ys.length + 80 := by rw [← hY, roomy_len, lys]
  have tX : X.take xs.length = uxs := by rw [← hX, ← lxs, roomy_take]
  have tY : Y.take ys.length = uys := by rw [← hY, ← lys, roomy_take]
  have C17x : ∀ W, Rds W A c uxs → Calls Try.prog 17 #[.slice A (xs.length) c, .agg #[.string ⟨#[109, 97, 114, 107]⟩, .string ⟨#[]⟩]] W (Out X W) := by
    intro W hW
    have z := c17 A c uxs W hW (by omega)
    rw [lxs, hX] at z
    exact z
  have C17y : ∀ W, Rds W B d uys → Calls Try.prog 17 #[.slice B (ys.length) d, .agg #[.string ⟨#[109, 97, 114, 107]⟩, .string ⟨#[]⟩]] W (Out Y W) := by
    intro W hW
    have z := c17 B d uys W hW (by omega)
    rw [lys, hY] at z
    exact z
  have C16 : ∀ W A1 c1 A2 c2, Rds W A1 c1 uxs → Rds W A2 c2 uys → Calls Try.prog 16 #[.slice A1 (xs.length) c1, .slice A2 (ys.length) c2, .agg #[.string a, .string b]] W (Tells true W) := by
    intro W A1 c1 A2 c2 h1 h2
    have z := same A1 c1 uxs A2 c2 uys a b W h1 h2 (by omega) (by omega)
    rw [lxs, lys] at z
    exact z
  have C18x : ∀ W A1 c1, Rds W A1 c1 X → Rds W A c uxs → Calls Try.prog 18 #[.slice A1 X.length c1, .slice A (xs.length) c, .agg #[.string ⟨#[109, 97, 114, 107]⟩, .string ⟨#[]⟩]] W (Tells true W) := by
    intro W A1 c1 h1 h2
    have z := c18 A1 A c1 c uxs W (by rw [hX]; exact h1) h2 (by omega)
    rw [lxs, hX] at z
    exact z
  have C18y : ∀ W A1 c1, Rds W A1 c1 Y → Rds W B d uys → Calls Try.prog 18 #[.slice A1 Y.length c1, .slice B (ys.length) d, .agg #[.string ⟨#[109, 97, 114, 107]⟩, .string ⟨#[]⟩]] W (Tells true W) := by
    intro W A1 c1 h1 h2
    have z := c18 A1 B c1 d uys W (by rw [hY]; exact h1) h2 (by omega)
    rw [lys, hY] at z
    exact z
  obtain ⟨bx0, bx1, bx2, bx3⟩ := boxes w a b ⟨#[109, 97, 114, 107]⟩ ⟨#[]⟩
  have hb0 : Below w.heap.size w ((w.alloc (.cells #[.string a, .string b] 29)).alloc (.cells #[.string ⟨#[109, 97, 114, 107]⟩, .string ⟨#[]⟩] 29)) := below_alloc (below_alloc (Below.refl _ _) _) _
  have S0 := hide (stepT bx0 bx1 bx2 bx3 (rds_b rxs hb0) (rds_b rys hb0) hb0 hb0.size (Below.refl _ _))
  have LX := hide lX
  have LY := hide lY
  have TX := hide tX
  have TY := hide tY
  clear h hy bx0 bx1 bx2 bx3 hb0 hX hY lX lY tX tY huxs huys rxs rys lxs lys
  go_enter Try.func6, Try.ntmps6
  go_wp2_with fail
  obtain ⟨w2, hw2⟩ : ∃ w2, (w.alloc (.cells #[.string a, .string b] 29)).alloc (.cells #[.string ⟨#[109, 97, 114, 107]⟩, .string ⟨#[]⟩] 29) = w2 := ⟨_, rfl⟩
  rw [hw2] at S0 ⊢
  clear hw2
  have hI := stepT S0.out.1 S0.out.2.1 S0.out.2.2.1 S0.out.2.2.2.1 S0.out.2.2.2.2.1 S0.out.2.2.2.2.2.1 S0.out.2.2.2.2.2.2.1 S0.out.2.2.2.2.2.2.2 ((Below.refl _ w2).drew)
  go_region_held3 (fun w' => w'.cell? ⟨w.heap.size, 0, none⟩ = some (.string a) ∧ w'.cell? ⟨w.heap.size, 1, none⟩ = some (.string b) ∧ w'.cell? ⟨w.heap.size + 1, 0, none⟩ = some (.string ⟨#[109, 97, 114, 107]⟩) ∧ w'.cell? ⟨w.heap.size + 1, 1, none⟩ = some (.string ⟨#[]⟩) ∧ Rds w' A c uxs ∧ Rds w' B d uys ∧ Below w.heap.size w w' ∧ w.heap.size ≤ w'.heap.size)
    (first | exact hI | ((try go_split_ands); exact stepT (by assumption) (by assumption) (by assumption) (by assumption) (by assumption) (by assumption) (by assumption) (by assumption) bY) | ((try go_split_ands); exact stepT (by assumption) (by assumption) (by assumption) (by assumption) (by assumption) (by assumption) (by assumption) (by assumption) bX) | go_keep)
    (first | (go_at_call 17; (try go_split_ands); (with_reducible refine (C17x _ (by assumption)).mono ?_); rintro e wnx ⟨AX, cX, rfl, rX, bX⟩) | (go_at_call 17; (try go_split_ands); (with_reducible refine (C17y _ (by assumption)).mono ?_); rintro e wny ⟨AY, cY, rfl, rY, bY⟩; have rXb := rds_b rX bY))
  (try go_split_ands)
  have cutX := cut_to (P := Try.prog) 22 29 .i64 Try.underlying22 hi0 AX X.length cX (xs.length : Int) (by omega) (by rw [LX.out]; omega) rXb.2
  rw [Int.toNat_natCast] at cutX
  have cutY := cut_to (P := Try.prog) 22 29 .i64 Try.underlying22 hi0 AY Y.length cY (ys.length : Int) (by omega) (by rw [LY.out]; omega) rY.2
  rw [Int.toNat_natCast] at cutY
  have pX : (xs.length : Int) ≤ (X.length : Int) := by rw [LX.out]; omega
  have pY : (ys.length : Int) ≤ (Y.length : Int) := by rw [LY.out]; omega
  have rAX : Rds wny AX cX uxs := by rw [← TX.out]; exact rds_tk rXb _ (by rw [LX.out]; omega)
  have rAY : Rds wny AY cY uys := by rw [← TY.out]; exact rds_tk rY _ (by rw [LY.out]; omega)
  clear S0 C17x C17y
  have hI := stepU (g := w.heap.size) (g' := w.heap.size + 1) (A := A) (c := c) (B := B) (d := d) (xs := uxs) (ys := uys) (by assumption) (by assumption) (by assumption) (by assumption) (by assumption) (by assumption) rAX rAY rXb rY (show Below w.heap.size w wny from by assumption) (by assumption) ((Below.refl _ wny).drew)
  go_wp2_with fail
  go_region_held3 (fun w' => w'.cell? ⟨w.heap.size, 0, none⟩ = some (.string a) ∧ w'.cell? ⟨w.heap.size, 1, none⟩ = some (.string b) ∧ w'.cell? ⟨w.heap.size + 1, 0, none⟩ = some (.string ⟨#[109, 97, 114, 107]⟩) ∧ w'.cell? ⟨w.heap.size + 1, 1, none⟩ = some (.string ⟨#[]⟩) ∧ Rds w' A c uxs ∧ Rds w' B d uys ∧ Rds w' AX cX uxs ∧ Rds w' AY cY uys ∧ Rds w' AX cX X ∧ Rds w' AY cY Y ∧ Below w.heap.size w w' ∧ w.heap.size ≤ w'.heap.size)
    (first | exact hI | ((try go_split_ands); exact stepU (by assumption) (by assumption) (by assumption) (by assumption) (by assumption) (by assumption) (by assumption) (by assumption) (by assumption) (by assumption) (by assumption) (by assumption) b12) | ((try go_split_ands); exact stepU (by assumption) (by assumption) (by assumption) (by assumption) (by assumption) (by assumption) (by assumption) (by assumption) (by assumption) (by assumption) (by assumption) (by assumption) b18y) | ((try go_split_ands); exact stepU (by assumption) (by assumption) (by assumption) (by assumption) (by assumption) (by assumption) (by assumption) (by assumption) (by assumption) (by assumption) (by assumption) (by assumption) b18x) | ((try go_split_ands); exact stepU (by assumption) (by assumption) (by assumption) (by assumption) (by assumption) (by assumption) (by assumption) (by assumption) (by assumption) (by assumption) (by assumption) (by assumption) b16) | go_keep)
    (first | (go_at_call 16; (try go_split_ands); (with_reducible refine (C16 _ _ _ _ _ (by assumption) (by assumption)).mono ?_); rintro e wn16 ⟨rfl, b16⟩) | (go_at_call 18; (try go_split_ands); (with_reducible refine (C18x _ _ _ (by assumption) (by assumption)).mono ?_); rintro e wn18x ⟨rfl, b18x⟩) | (go_at_call 18; (try go_split_ands); (with_reducible refine (C18y _ _ _ (by assumption) (by assumption)).mono ?_); rintro e wn18y ⟨rfl, b18y⟩) | (go_at_call 12; refine (known _).mono ?_; rintro e wn12 ⟨rfl, b12⟩))
  all_goals (go_wp2_with fail; go_ret; (try go_split_ands); exact ⟨rfl, by assumption⟩)

set_option maxHeartbeats 4000000 in
set_option maxRecDepth 100000 in
theorem tells_sl (A : Option Addr) (c : Nat) (xs : List S29) (B : Option Addr) (d : Nat) (ys : List S29) (a b : ByteArray) (w : World) (h : Rds w A c xs) (hy : Rds w B d ys) (hx : xs.length ≤ 20) (hyl : 20 < ys.length) :
    Calls Try.prog 6 #[.slice A xs.length c, .slice B ys.length d, .agg #[.string a, .string b]] w (Tells true w) := by
  obtain ⟨uxs, huxs⟩ : ∃ u, xs = u := ⟨_, rfl⟩
  have rxs : Rds w A c uxs := by rw [← huxs]; exact h
  have lxs : uxs.length = xs.length := by rw [← huxs]
  have dxs : decide (20 < xs.length) = false := decide_eq_false (by omega)
  have exs : decide ((20 : Int) < (xs.length : Int)) = false := decide_eq_false (by omega)
  obtain ⟨uys, huys⟩ : ∃ u, ys.take 20 = u := ⟨_, rfl⟩
  have rys : Rds w B d uys := by rw [← huys]; exact ⟨Kd.C_take hy.1 (by omega), by rw [List.length_take]; have := hy.2; omega⟩
  have lys : uys.length = 20 := by rw [← huys]; rw [List.length_take]; omega
  have dys : decide (20 < ys.length) = true := decide_eq_true (by omega)
  have eys : decide ((20 : Int) < (ys.length : Int)) = true := decide_eq_true (by omega)
  obtain ⟨i0, hi0, _, hsz0, _⟩ := info_parts info29
  have cuty := cut_to (P := Try.prog) 22 29 .i64 Try.underlying22 hi0 B ys.length d (20 : Int) (by omega) (by omega) hy.2
  rw [show (20 : Int).toNat = 20 from rfl] at cuty
  obtain ⟨X, hX⟩ : ∃ X, roomy uxs ⟨MA, ⟨#[]⟩⟩ = X := ⟨_, rfl⟩
  obtain ⟨Y, hY⟩ : ∃ Y, roomy uys ⟨MA, ⟨#[]⟩⟩ = Y := ⟨_, rfl⟩
  have lX : X.length = xs.length + 80 := by rw [← hX, roomy_len, lxs]
  have lY : Y.length = 20 + 80 := by rw [← hY, roomy_len, lys]
  have tX : X.take xs.length = uxs := by rw [← hX, ← lxs, roomy_take]
  have tY : Y.take 20 = uys := by rw [← hY, ← lys, roomy_take]
  have C17x : ∀ W, Rds W A c uxs → Calls Try.prog 17 #[.slice A (xs.length) c, .agg #[.string ⟨#[109, 97, 114, 107]⟩, .string ⟨#[]⟩]] W (Out X W) := by
    intro W hW
    have z := c17 A c uxs W hW (by omega)
    rw [lxs, hX] at z
    exact z
  have C17y : ∀ W, Rds W B d uys → Calls Try.prog 17 #[.slice B (20) d, .agg #[.string ⟨#[109, 97, 114, 107]⟩, .string ⟨#[]⟩]] W (Out Y W) := by
    intro W hW
    have z := c17 B d uys W hW (by omega)
    rw [lys, hY] at z
    exact z
  have C16 : ∀ W A1 c1 A2 c2, Rds W A1 c1 uxs → Rds W A2 c2 uys → Calls Try.prog 16 #[.slice A1 (xs.length) c1, .slice A2 (20) c2, .agg #[.string a, .string b]] W (Tells true W) := by
    intro W A1 c1 A2 c2 h1 h2
    have z := same A1 c1 uxs A2 c2 uys a b W h1 h2 (by omega) (by omega)
    rw [lxs, lys] at z
    exact z
  have C18x : ∀ W A1 c1, Rds W A1 c1 X → Rds W A c uxs → Calls Try.prog 18 #[.slice A1 X.length c1, .slice A (xs.length) c, .agg #[.string ⟨#[109, 97, 114, 107]⟩, .string ⟨#[]⟩]] W (Tells true W) := by
    intro W A1 c1 h1 h2
    have z := c18 A1 A c1 c uxs W (by rw [hX]; exact h1) h2 (by omega)
    rw [lxs, hX] at z
    exact z
  have C18y : ∀ W A1 c1, Rds W A1 c1 Y → Rds W B d uys → Calls Try.prog 18 #[.slice A1 Y.length c1, .slice B (20) d, .agg #[.string ⟨#[109, 97, 114, 107]⟩, .string ⟨#[]⟩]] W (Tells true W) := by
    intro W A1 c1 h1 h2
    have z := c18 A1 B c1 d uys W (by rw [hY]; exact h1) h2 (by omega)
    rw [lys, hY] at z
    exact z
  obtain ⟨bx0, bx1, bx2, bx3⟩ := boxes w a b ⟨#[109, 97, 114, 107]⟩ ⟨#[]⟩
  have hb0 : Below w.heap.size w ((w.alloc (.cells #[.string a, .string b] 29)).alloc (.cells #[.string ⟨#[109, 97, 114, 107]⟩, .string ⟨#[]⟩] 29)) := below_alloc (below_alloc (Below.refl _ _) _) _
  have S0 := hide (stepT bx0 bx1 bx2 bx3 (rds_b rxs hb0) (rds_b rys hb0) hb0 hb0.size (Below.refl _ _))
  have LX := hide lX
  have LY := hide lY
  have TX := hide tX
  have TY := hide tY
  clear h hy bx0 bx1 bx2 bx3 hb0 hX hY lX lY tX tY huxs huys rxs rys lxs lys
  go_enter Try.func6, Try.ntmps6
  go_wp2_with fail
  obtain ⟨w2, hw2⟩ : ∃ w2, (w.alloc (.cells #[.string a, .string b] 29)).alloc (.cells #[.string ⟨#[109, 97, 114, 107]⟩, .string ⟨#[]⟩] 29) = w2 := ⟨_, rfl⟩
  rw [hw2] at S0 ⊢
  clear hw2
  have hI := stepT S0.out.1 S0.out.2.1 S0.out.2.2.1 S0.out.2.2.2.1 S0.out.2.2.2.2.1 S0.out.2.2.2.2.2.1 S0.out.2.2.2.2.2.2.1 S0.out.2.2.2.2.2.2.2 ((Below.refl _ w2).drew)
  go_region_held3 (fun w' => w'.cell? ⟨w.heap.size, 0, none⟩ = some (.string a) ∧ w'.cell? ⟨w.heap.size, 1, none⟩ = some (.string b) ∧ w'.cell? ⟨w.heap.size + 1, 0, none⟩ = some (.string ⟨#[109, 97, 114, 107]⟩) ∧ w'.cell? ⟨w.heap.size + 1, 1, none⟩ = some (.string ⟨#[]⟩) ∧ Rds w' A c uxs ∧ Rds w' B d uys ∧ Below w.heap.size w w' ∧ w.heap.size ≤ w'.heap.size)
    (first | exact hI | ((try go_split_ands); exact stepT (by assumption) (by assumption) (by assumption) (by assumption) (by assumption) (by assumption) (by assumption) (by assumption) bY) | ((try go_split_ands); exact stepT (by assumption) (by assumption) (by assumption) (by assumption) (by assumption) (by assumption) (by assumption) (by assumption) bX) | go_keep)
    (first | (go_at_call 17; (try go_split_ands); (with_reducible refine (C17x _ (by assumption)).mono ?_); rintro e wnx ⟨AX, cX, rfl, rX, bX⟩) | (go_at_call 17; (try go_split_ands); (with_reducible refine (C17y _ (by assumption)).mono ?_); rintro e wny ⟨AY, cY, rfl, rY, bY⟩; have rXb := rds_b rX bY))
  (try go_split_ands)
  have cutX := cut_to (P := Try.prog) 22 29 .i64 Try.underlying22 hi0 AX X.length cX (xs.length : Int) (by omega) (by rw [LX.out]; omega) rXb.2
  rw [Int.toNat_natCast] at cutX
  have cutY := cut_to (P := Try.prog) 22 29 .i64 Try.underlying22 hi0 AY Y.length cY (20 : Int) (by omega) (by rw [LY.out]; omega) rY.2
  rw [show (20 : Int).toNat = 20 from rfl] at cutY
  have pX : (xs.length : Int) ≤ (X.length : Int) := by rw [LX.out]; omega
  have pY : (20 : Int) ≤ (Y.length : Int) := by rw [LY.out]; omega
  have rAX : Rds wny AX cX uxs := by rw [← TX.out]; exact rds_tk rXb _ (by rw [LX.out]; omega)
  have rAY : Rds wny AY cY uys := by rw [← TY.out]; exact rds_tk rY _ (by rw [LY.out]; omega)
  clear S0 C17x C17y
  have hI := stepU (g := w.heap.size) (g' := w.heap.size + 1) (A := A) (c := c) (B := B) (d := d) (xs := uxs) (ys := uys) (by assumption) (by assumption) (by assumption) (by assumption) (by assumption) (by assumption) rAX rAY rXb rY (show Below w.heap.size w wny from by assumption) (by assumption) ((Below.refl _ wny).drew)
  go_wp2_with fail
  go_region_held3 (fun w' => w'.cell? ⟨w.heap.size, 0, none⟩ = some (.string a) ∧ w'.cell? ⟨w.heap.size, 1, none⟩ = some (.string b) ∧ w'.cell? ⟨w.heap.size + 1, 0, none⟩ = some (.string ⟨#[109, 97, 114, 107]⟩) ∧ w'.cell? ⟨w.heap.size + 1, 1, none⟩ = some (.string ⟨#[]⟩) ∧ Rds w' A c uxs ∧ Rds w' B d uys ∧ Rds w' AX cX uxs ∧ Rds w' AY cY uys ∧ Rds w' AX cX X ∧ Rds w' AY cY Y ∧ Below w.heap.size w w' ∧ w.heap.size ≤ w'.heap.size)
    (first | exact hI | ((try go_split_ands); exact stepU (by assumption) (by assumption) (by assumption) (by assumption) (by assumption) (by assumption) (by assumption) (by assumption) (by assumption) (by assumption) (by assumption) (by assumption) b12) | ((try go_split_ands); exact stepU (by assumption) (by assumption) (by assumption) (by assumption) (by assumption) (by assumption) (by assumption) (by assumption) (by assumption) (by assumption) (by assumption) (by assumption) b18y) | ((try go_split_ands); exact stepU (by assumption) (by assumption) (by assumption) (by assumption) (by assumption) (by assumption) (by assumption) (by assumption) (by assumption) (by assumption) (by assumption) (by assumption) b18x) | ((try go_split_ands); exact stepU (by assumption) (by assumption) (by assumption) (by assumption) (by assumption) (by assumption) (by assumption) (by assumption) (by assumption) (by assumption) (by assumption) (by assumption) b16) | go_keep)
    (first | (go_at_call 16; (try go_split_ands); (with_reducible refine (C16 _ _ _ _ _ (by assumption) (by assumption)).mono ?_); rintro e wn16 ⟨rfl, b16⟩) | (go_at_call 18; (try go_split_ands); (with_reducible refine (C18x _ _ _ (by assumption) (by assumption)).mono ?_); rintro e wn18x ⟨rfl, b18x⟩) | (go_at_call 18; (try go_split_ands); (with_reducible refine (C18y _ _ _ (by assumption) (by assumption)).mono ?_); rintro e wn18y ⟨rfl, b18y⟩) | (go_at_call 12; refine (known _).mono ?_; rintro e wn12 ⟨rfl, b12⟩))
  all_goals (go_wp2_with fail; go_ret; (try go_split_ands); exact ⟨rfl, by assumption⟩)

set_option maxHeartbeats 4000000 in
set_option maxRecDepth 100000 in
theorem tells_ls (A : Option Addr) (c : Nat) (xs : List S29) (B : Option Addr) (d : Nat) (ys : List S29) (a b : ByteArray) (w : World) (h : Rds w A c xs) (hy : Rds w B d ys) (hx : 20 < xs.length) (hyl : ys.length ≤ 20) :
    Calls Try.prog 6 #[.slice A xs.length c, .slice B ys.length d, .agg #[.string a, .string b]] w (Tells true w) := by
  obtain ⟨uxs, huxs⟩ : ∃ u, xs.take 20 = u := ⟨_, rfl⟩
  have rxs : Rds w A c uxs := by rw [← huxs]; exact ⟨Kd.C_take h.1 (by omega), by rw [List.length_take]; have := h.2; omega⟩
  have lxs : uxs.length = 20 := by rw [← huxs]; rw [List.length_take]; omega
  have dxs : decide (20 < xs.length) = true := decide_eq_true (by omega)
  have exs : decide ((20 : Int) < (xs.length : Int)) = true := decide_eq_true (by omega)
  obtain ⟨uys, huys⟩ : ∃ u, ys = u := ⟨_, rfl⟩
  have rys : Rds w B d uys := by rw [← huys]; exact hy
  have lys : uys.length = ys.length := by rw [← huys]
  have dys : decide (20 < ys.length) = false := decide_eq_false (by omega)
  have eys : decide ((20 : Int) < (ys.length : Int)) = false := decide_eq_false (by omega)
  obtain ⟨i0, hi0, _, hsz0, _⟩ := info_parts info29
  have cutx := cut_to (P := Try.prog) 22 29 .i64 Try.underlying22 hi0 A xs.length c (20 : Int) (by omega) (by omega) h.2
  rw [show (20 : Int).toNat = 20 from rfl] at cutx
  obtain ⟨X, hX⟩ : ∃ X, roomy uxs ⟨MA, ⟨#[]⟩⟩ = X := ⟨_, rfl⟩
  obtain ⟨Y, hY⟩ : ∃ Y, roomy uys ⟨MA, ⟨#[]⟩⟩ = Y := ⟨_, rfl⟩
  have lX : X.length = 20 + 80 := by rw [← hX, roomy_len, lxs]
  have lY : Y.length = ys.length + 80 := by rw [← hY, roomy_len, lys]
  have tX : X.take 20 = uxs := by rw [← hX, ← lxs, roomy_take]
  have tY : Y.take ys.length = uys := by rw [← hY, ← lys, roomy_take]
  have C17x : ∀ W, Rds W A c uxs → Calls Try.prog 17 #[.slice A (20) c, .agg #[.string ⟨#[109, 97, 114, 107]⟩, .string ⟨#[]⟩]] W (Out X W) := by
    intro W hW
    have z := c17 A c uxs W hW (by omega)
    rw [lxs, hX] at z
    exact z
  have C17y : ∀ W, Rds W B d uys → Calls Try.prog 17 #[.slice B (ys.length) d, .agg #[.string ⟨#[109, 97, 114, 107]⟩, .string ⟨#[]⟩]] W (Out Y W) := by
    intro W hW
    have z := c17 B d uys W hW (by omega)
    rw [lys, hY] at z
    exact z
  have C16 : ∀ W A1 c1 A2 c2, Rds W A1 c1 uxs → Rds W A2 c2 uys → Calls Try.prog 16 #[.slice A1 (20) c1, .slice A2 (ys.length) c2, .agg #[.string a, .string b]] W (Tells true W) := by
    intro W A1 c1 A2 c2 h1 h2
    have z := same A1 c1 uxs A2 c2 uys a b W h1 h2 (by omega) (by omega)
    rw [lxs, lys] at z
    exact z
  have C18x : ∀ W A1 c1, Rds W A1 c1 X → Rds W A c uxs → Calls Try.prog 18 #[.slice A1 X.length c1, .slice A (20) c, .agg #[.string ⟨#[109, 97, 114, 107]⟩, .string ⟨#[]⟩]] W (Tells true W) := by
    intro W A1 c1 h1 h2
    have z := c18 A1 A c1 c uxs W (by rw [hX]; exact h1) h2 (by omega)
    rw [lxs, hX] at z
    exact z
  have C18y : ∀ W A1 c1, Rds W A1 c1 Y → Rds W B d uys → Calls Try.prog 18 #[.slice A1 Y.length c1, .slice B (ys.length) d, .agg #[.string ⟨#[109, 97, 114, 107]⟩, .string ⟨#[]⟩]] W (Tells true W) := by
    intro W A1 c1 h1 h2
    have z := c18 A1 B c1 d uys W (by rw [hY]; exact h1) h2 (by omega)
    rw [lys, hY] at z
    exact z
  obtain ⟨bx0, bx1, bx2, bx3⟩ := boxes w a b ⟨#[109, 97, 114, 107]⟩ ⟨#[]⟩
  have hb0 : Below w.heap.size w ((w.alloc (.cells #[.string a, .string b] 29)).alloc (.cells #[.string ⟨#[109, 97, 114, 107]⟩, .string ⟨#[]⟩] 29)) := below_alloc (below_alloc (Below.refl _ _) _) _
  have S0 := hide (stepT bx0 bx1 bx2 bx3 (rds_b rxs hb0) (rds_b rys hb0) hb0 hb0.size (Below.refl _ _))
  have LX := hide lX
  have LY := hide lY
  have TX := hide tX
  have TY := hide tY
  clear h hy bx0 bx1 bx2 bx3 hb0 hX hY lX lY tX tY huxs huys rxs rys lxs lys
  go_enter Try.func6, Try.ntmps6
  go_wp2_with fail
  obtain ⟨w2, hw2⟩ : ∃ w2, (w.alloc (.cells #[.string a, .string b] 29)).alloc (.cells #[.string ⟨#[109, 97, 114, 107]⟩, .string ⟨#[]⟩] 29) = w2 := ⟨_, rfl⟩
  rw [hw2] at S0 ⊢
  clear hw2
  have hI := stepT S0.out.1 S0.out.2.1 S0.out.2.2.1 S0.out.2.2.2.1 S0.out.2.2.2.2.1 S0.out.2.2.2.2.2.1 S0.out.2.2.2.2.2.2.1 S0.out.2.2.2.2.2.2.2 ((Below.refl _ w2).drew)
  go_region_held3 (fun w' => w'.cell? ⟨w.heap.size, 0, none⟩ = some (.string a) ∧ w'.cell? ⟨w.heap.size, 1, none⟩ = some (.string b) ∧ w'.cell? ⟨w.heap.size + 1, 0, none⟩ = some (.string ⟨#[109, 97, 114, 107]⟩) ∧ w'.cell? ⟨w.heap.size + 1, 1, none⟩ = some (.string ⟨#[]⟩) ∧ Rds w' A c uxs ∧ Rds w' B d uys ∧ Below w.heap.size w w' ∧ w.heap.size ≤ w'.heap.size)
    (first | exact hI | ((try go_split_ands); exact stepT (by assumption) (by assumption) (by assumption) (by assumption) (by assumption) (by assumption) (by assumption) (by assumption) bY) | ((try go_split_ands); exact stepT (by assumption) (by assumption) (by assumption) (by assumption) (by assumption) (by assumption) (by assumption) (by assumption) bX) | go_keep)
    (first | (go_at_call 17; (try go_split_ands); (with_reducible refine (C17x _ (by assumption)).mono ?_); rintro e wnx ⟨AX, cX, rfl, rX, bX⟩) | (go_at_call 17; (try go_split_ands); (with_reducible refine (C17y _ (by assumption)).mono ?_); rintro e wny ⟨AY, cY, rfl, rY, bY⟩; have rXb := rds_b rX bY))
  (try go_split_ands)
  have cutX := cut_to (P := Try.prog) 22 29 .i64 Try.underlying22 hi0 AX X.length cX (20 : Int) (by omega) (by rw [LX.out]; omega) rXb.2
  rw [show (20 : Int).toNat = 20 from rfl] at cutX
  have cutY := cut_to (P := Try.prog) 22 29 .i64 Try.underlying22 hi0 AY Y.length cY (ys.length : Int) (by omega) (by rw [LY.out]; omega) rY.2
  rw [Int.toNat_natCast] at cutY
  have pX : (20 : Int) ≤ (X.length : Int) := by rw [LX.out]; omega
  have pY : (ys.length : Int) ≤ (Y.length : Int) := by rw [LY.out]; omega
  have rAX : Rds wny AX cX uxs := by rw [← TX.out]; exact rds_tk rXb _ (by rw [LX.out]; omega)
  have rAY : Rds wny AY cY uys := by rw [← TY.out]; exact rds_tk rY _ (by rw [LY.out]; omega)
  clear S0 C17x C17y
  have hI := stepU (g := w.heap.size) (g' := w.heap.size + 1) (A := A) (c := c) (B := B) (d := d) (xs := uxs) (ys := uys) (by assumption) (by assumption) (by assumption) (by assumption) (by assumption) (by assumption) rAX rAY rXb rY (show Below w.heap.size w wny from by assumption) (by assumption) ((Below.refl _ wny).drew)
  go_wp2_with fail
  go_region_held3 (fun w' => w'.cell? ⟨w.heap.size, 0, none⟩ = some (.string a) ∧ w'.cell? ⟨w.heap.size, 1, none⟩ = some (.string b) ∧ w'.cell? ⟨w.heap.size + 1, 0, none⟩ = some (.string ⟨#[109, 97, 114, 107]⟩) ∧ w'.cell? ⟨w.heap.size + 1, 1, none⟩ = some (.string ⟨#[]⟩) ∧ Rds w' A c uxs ∧ Rds w' B d uys ∧ Rds w' AX cX uxs ∧ Rds w' AY cY uys ∧ Rds w' AX cX X ∧ Rds w' AY cY Y ∧ Below w.heap.size w w' ∧ w.heap.size ≤ w'.heap.size)
    (first | exact hI | ((try go_split_ands); exact stepU (by assumption) (by assumption) (by assumption) (by assumption) (by assumption) (by assumption) (by assumption) (by assumption) (by assumption) (by assumption) (by assumption) (by assumption) b12) | ((try go_split_ands); exact stepU (by assumption) (by assumption) (by assumption) (by assumption) (by assumption) (by assumption) (by assumption) (by assumption) (by assumption) (by assumption) (by assumption) (by assumption) b18y) | ((try go_split_ands); exact stepU (by assumption) (by assumption) (by assumption) (by assumption) (by assumption) (by assumption) (by assumption) (by assumption) (by assumption) (by assumption) (by assumption) (by assumption) b18x) | ((try go_split_ands); exact stepU (by assumption) (by assumption) (by assumption) (by assumption) (by assumption) (by assumption) (by assumption) (by assumption) (by assumption) (by assumption) (by assumption) (by assumption) b16) | go_keep)
    (first | (go_at_call 16; (try go_split_ands); (with_reducible refine (C16 _ _ _ _ _ (by assumption) (by assumption)).mono ?_); rintro e wn16 ⟨rfl, b16⟩) | (go_at_call 18; (try go_split_ands); (with_reducible refine (C18x _ _ _ (by assumption) (by assumption)).mono ?_); rintro e wn18x ⟨rfl, b18x⟩) | (go_at_call 18; (try go_split_ands); (with_reducible refine (C18y _ _ _ (by assumption) (by assumption)).mono ?_); rintro e wn18y ⟨rfl, b18y⟩) | (go_at_call 12; refine (known _).mono ?_; rintro e wn12 ⟨rfl, b12⟩))
  all_goals (go_wp2_with fail; go_ret; (try go_split_ands); exact ⟨rfl, by assumption⟩)

set_option maxHeartbeats 4000000 in
set_option maxRecDepth 100000 in
theorem tells_ll (A : Option Addr) (c : Nat) (xs : List S29) (B : Option Addr) (d : Nat) (ys : List S29) (a b : ByteArray) (w : World) (h : Rds w A c xs) (hy : Rds w B d ys) (hx : 20 < xs.length) (hyl : 20 < ys.length) :
    Calls Try.prog 6 #[.slice A xs.length c, .slice B ys.length d, .agg #[.string a, .string b]] w (Tells true w) := by
  obtain ⟨uxs, huxs⟩ : ∃ u, xs.take 20 = u := ⟨_, rfl⟩
  have rxs : Rds w A c uxs := by rw [← huxs]; exact ⟨Kd.C_take h.1 (by omega), by rw [List.length_take]; have := h.2; omega⟩
  have lxs : uxs.length = 20 := by rw [← huxs]; rw [List.length_take]; omega
  have dxs : decide (20 < xs.length) = true := decide_eq_true (by omega)
  have exs : decide ((20 : Int) < (xs.length : Int)) = true := decide_eq_true (by omega)
  obtain ⟨uys, huys⟩ : ∃ u, ys.take 20 = u := ⟨_, rfl⟩
  have rys : Rds w B d uys := by rw [← huys]; exact ⟨Kd.C_take hy.1 (by omega), by rw [List.length_take]; have := hy.2; omega⟩
  have lys : uys.length = 20 := by rw [← huys]; rw [List.length_take]; omega
  have dys : decide (20 < ys.length) = true := decide_eq_true (by omega)
  have eys : decide ((20 : Int) < (ys.length : Int)) = true := decide_eq_true (by omega)
  obtain ⟨i0, hi0, _, hsz0, _⟩ := info_parts info29
  have cutx := cut_to (P := Try.prog) 22 29 .i64 Try.underlying22 hi0 A xs.length c (20 : Int) (by omega) (by omega) h.2
  rw [show (20 : Int).toNat = 20 from rfl] at cutx
  have cuty := cut_to (P := Try.prog) 22 29 .i64 Try.underlying22 hi0 B ys.length d (20 : Int) (by omega) (by omega) hy.2
  rw [show (20 : Int).toNat = 20 from rfl] at cuty
  obtain ⟨X, hX⟩ : ∃ X, roomy uxs ⟨MA, ⟨#[]⟩⟩ = X := ⟨_, rfl⟩
  obtain ⟨Y, hY⟩ : ∃ Y, roomy uys ⟨MA, ⟨#[]⟩⟩ = Y := ⟨_, rfl⟩
  have lX : X.length = 20 + 80 := by rw [← hX, roomy_len, lxs]
  have lY : Y.length = 20 + 80 := by rw [← hY, roomy_len, lys]
  have tX : X.take 20 = uxs := by rw [← hX, ← lxs, roomy_take]
  have tY : Y.take 20 = uys := by rw [← hY, ← lys, roomy_take]
  have C17x : ∀ W, Rds W A c uxs → Calls Try.prog 17 #[.slice A (20) c, .agg #[.string ⟨#[109, 97, 114, 107]⟩, .string ⟨#[]⟩]] W (Out X W) := by
    intro W hW
    have z := c17 A c uxs W hW (by omega)
    rw [lxs, hX] at z
    exact z
  have C17y : ∀ W, Rds W B d uys → Calls Try.prog 17 #[.slice B (20) d, .agg #[.string ⟨#[109, 97, 114, 107]⟩, .string ⟨#[]⟩]] W (Out Y W) := by
    intro W hW
    have z := c17 B d uys W hW (by omega)
    rw [lys, hY] at z
    exact z
  have C16 : ∀ W A1 c1 A2 c2, Rds W A1 c1 uxs → Rds W A2 c2 uys → Calls Try.prog 16 #[.slice A1 (20) c1, .slice A2 (20) c2, .agg #[.string a, .string b]] W (Tells true W) := by
    intro W A1 c1 A2 c2 h1 h2
    have z := same A1 c1 uxs A2 c2 uys a b W h1 h2 (by omega) (by omega)
    rw [lxs, lys] at z
    exact z
  have C18x : ∀ W A1 c1, Rds W A1 c1 X → Rds W A c uxs → Calls Try.prog 18 #[.slice A1 X.length c1, .slice A (20) c, .agg #[.string ⟨#[109, 97, 114, 107]⟩, .string ⟨#[]⟩]] W (Tells true W) := by
    intro W A1 c1 h1 h2
    have z := c18 A1 A c1 c uxs W (by rw [hX]; exact h1) h2 (by omega)
    rw [lxs, hX] at z
    exact z
  have C18y : ∀ W A1 c1, Rds W A1 c1 Y → Rds W B d uys → Calls Try.prog 18 #[.slice A1 Y.length c1, .slice B (20) d, .agg #[.string ⟨#[109, 97, 114, 107]⟩, .string ⟨#[]⟩]] W (Tells true W) := by
    intro W A1 c1 h1 h2
    have z := c18 A1 B c1 d uys W (by rw [hY]; exact h1) h2 (by omega)
    rw [lys, hY] at z
    exact z
  obtain ⟨bx0, bx1, bx2, bx3⟩ := boxes w a b ⟨#[109, 97, 114, 107]⟩ ⟨#[]⟩
  have hb0 : Below w.heap.size w ((w.alloc (.cells #[.string a, .string b] 29)).alloc (.cells #[.string ⟨#[109, 97, 114, 107]⟩, .string ⟨#[]⟩] 29)) := below_alloc (below_alloc (Below.refl _ _) _) _
  have S0 := hide (stepT bx0 bx1 bx2 bx3 (rds_b rxs hb0) (rds_b rys hb0) hb0 hb0.size (Below.refl _ _))
  have LX := hide lX
  have LY := hide lY
  have TX := hide tX
  have TY := hide tY
  clear h hy bx0 bx1 bx2 bx3 hb0 hX hY lX lY tX tY huxs huys rxs rys lxs lys
  go_enter Try.func6, Try.ntmps6
  go_wp2_with fail
  obtain ⟨w2, hw2⟩ : ∃ w2, (w.alloc (.cells #[.string a, .string b] 29)).alloc (.cells #[.string ⟨#[109, 97, 114, 107]⟩, .string ⟨#[]⟩] 29) = w2 := ⟨_, rfl⟩
  rw [hw2] at S0 ⊢
  clear hw2
  have hI := stepT S0.out.1 S0.out.2.1 S0.out.2.2.1 S0.out.2.2.2.1 S0.out.2.2.2.2.1 S0.out.2.2.2.2.2.1 S0.out.2.2.2.2.2.2.1 S0.out.2.2.2.2.2.2.2 ((Below.refl _ w2).drew)
  go_region_held3 (fun w' => w'.cell? ⟨w.heap.size, 0, none⟩ = some (.string a) ∧ w'.cell? ⟨w.heap.size, 1, none⟩ = some (.string b) ∧ w'.cell? ⟨w.heap.size + 1, 0, none⟩ = some (.string ⟨#[109, 97, 114, 107]⟩) ∧ w'.cell? ⟨w.heap.size + 1, 1, none⟩ = some (.string ⟨#[]⟩) ∧ Rds w' A c uxs ∧ Rds w' B d uys ∧ Below w.heap.size w w' ∧ w.heap.size ≤ w'.heap.size)
    (first | exact hI | ((try go_split_ands); exact stepT (by assumption) (by assumption) (by assumption) (by assumption) (by assumption) (by assumption) (by assumption) (by assumption) bY) | ((try go_split_ands); exact stepT (by assumption) (by assumption) (by assumption) (by assumption) (by assumption) (by assumption) (by assumption) (by assumption) bX) | go_keep)
    (first | (go_at_call 17; (try go_split_ands); (with_reducible refine (C17x _ (by assumption)).mono ?_); rintro e wnx ⟨AX, cX, rfl, rX, bX⟩) | (go_at_call 17; (try go_split_ands); (with_reducible refine (C17y _ (by assumption)).mono ?_); rintro e wny ⟨AY, cY, rfl, rY, bY⟩; have rXb := rds_b rX bY))
  (try go_split_ands)
  have cutX := cut_to (P := Try.prog) 22 29 .i64 Try.underlying22 hi0 AX X.length cX (20 : Int) (by omega) (by rw [LX.out]; omega) rXb.2
  rw [show (20 : Int).toNat = 20 from rfl] at cutX
  have cutY := cut_to (P := Try.prog) 22 29 .i64 Try.underlying22 hi0 AY Y.length cY (20 : Int) (by omega) (by rw [LY.out]; omega) rY.2
  rw [show (20 : Int).toNat = 20 from rfl] at cutY
  have pX : (20 : Int) ≤ (X.length : Int) := by rw [LX.out]; omega
  have pY : (20 : Int) ≤ (Y.length : Int) := by rw [LY.out]; omega
  have rAX : Rds wny AX cX uxs := by rw [← TX.out]; exact rds_tk rXb _ (by rw [LX.out]; omega)
  have rAY : Rds wny AY cY uys := by rw [← TY.out]; exact rds_tk rY _ (by rw [LY.out]; omega)
  clear S0 C17x C17y
  have hI := stepU (g := w.heap.size) (g' := w.heap.size + 1) (A := A) (c := c) (B := B) (d := d) (xs := uxs) (ys := uys) (by assumption) (by assumption) (by assumption) (by assumption) (by assumption) (by assumption) rAX rAY rXb rY (show Below w.heap.size w wny from by assumption) (by assumption) ((Below.refl _ wny).drew)
  go_wp2_with fail
  go_region_held3 (fun w' => w'.cell? ⟨w.heap.size, 0, none⟩ = some (.string a) ∧ w'.cell? ⟨w.heap.size, 1, none⟩ = some (.string b) ∧ w'.cell? ⟨w.heap.size + 1, 0, none⟩ = some (.string ⟨#[109, 97, 114, 107]⟩) ∧ w'.cell? ⟨w.heap.size + 1, 1, none⟩ = some (.string ⟨#[]⟩) ∧ Rds w' A c uxs ∧ Rds w' B d uys ∧ Rds w' AX cX uxs ∧ Rds w' AY cY uys ∧ Rds w' AX cX X ∧ Rds w' AY cY Y ∧ Below w.heap.size w w' ∧ w.heap.size ≤ w'.heap.size)
    (first | exact hI | ((try go_split_ands); exact stepU (by assumption) (by assumption) (by assumption) (by assumption) (by assumption) (by assumption) (by assumption) (by assumption) (by assumption) (by assumption) (by assumption) (by assumption) b12) | ((try go_split_ands); exact stepU (by assumption) (by assumption) (by assumption) (by assumption) (by assumption) (by assumption) (by assumption) (by assumption) (by assumption) (by assumption) (by assumption) (by assumption) b18y) | ((try go_split_ands); exact stepU (by assumption) (by assumption) (by assumption) (by assumption) (by assumption) (by assumption) (by assumption) (by assumption) (by assumption) (by assumption) (by assumption) (by assumption) b18x) | ((try go_split_ands); exact stepU (by assumption) (by assumption) (by assumption) (by assumption) (by assumption) (by assumption) (by assumption) (by assumption) (by assumption) (by assumption) (by assumption) (by assumption) b16) | go_keep)
    (first | (go_at_call 16; (try go_split_ands); (with_reducible refine (C16 _ _ _ _ _ (by assumption) (by assumption)).mono ?_); rintro e wn16 ⟨rfl, b16⟩) | (go_at_call 18; (try go_split_ands); (with_reducible refine (C18x _ _ _ (by assumption) (by assumption)).mono ?_); rintro e wn18x ⟨rfl, b18x⟩) | (go_at_call 18; (try go_split_ands); (with_reducible refine (C18y _ _ _ (by assumption) (by assumption)).mono ?_); rintro e wn18y ⟨rfl, b18y⟩) | (go_at_call 12; refine (known _).mono ?_; rintro e wn12 ⟨rfl, b12⟩))
  all_goals (go_wp2_with fail; go_ret; (try go_split_ands); exact ⟨rfl, by assumption⟩)

theorem attrsTells (A : Option Addr) (c : Nat) (xs : List S29) (B : Option Addr) (d : Nat) (ys : List S29) (a b : ByteArray) (w : World) (h : Rds w A c xs) (hy : Rds w B d ys) :
    Calls Try.prog 6 #[.slice A xs.length c, .slice B ys.length d, .agg #[.string a, .string b]] w fun e w' => e = .returned (.bool true) ∧ Below w.heap.size w w' := by
  by_cases hx : xs.length ≤ 20 <;> by_cases hl : ys.length ≤ 20
  · exact tells_ss A c xs B d ys a b w h hy hx hl
  · exact tells_sl A c xs B d ys a b w h hy hx (by omega)
  · exact tells_ls A c xs B d ys a b w h hy (by omega) hl
  · exact tells_ll A c xs B d ys a b w h hy (by omega) (by omega)
end Go.Proofs.Ytgjnopabdipleaa.Attrs

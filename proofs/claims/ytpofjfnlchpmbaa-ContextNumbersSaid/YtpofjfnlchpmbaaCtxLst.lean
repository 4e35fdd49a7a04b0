/- The walks of a stack and of the open elements: New, Push, Len, At, Top. -/
import Derived.Test.YtpofjfnlchpmbaaPContextTellsx0
import Derived.Deep.RegionLaw
import Derived.BigRegion
import Derived.WideShapes
namespace Go.Proofs.Ytpofjfnlchpmbaa.Ctx
open Go.RowKit Go.Proofs.Ytpofjfnlchpmbaa.PContextTells Go.Proofs.YtpofjfnlchpmbaaW.PrintWords Go.Proofs.YtpofjfnlchpmbaaW.PrintLast
theorem hide {p : Prop} (h : p) : Hid p := h

/-- An open element without attributes. -/
structure It where
  h : Int
  ns : Int
  name : ByteArray
def nilv : Unit → Value := fun _ => .slice none 0 0
def kIt : Kd It := Kd.iso (Kd.pair (Kd.int .i64) (Kd.pair (Kd.int .i64) (Kd.pair Kd.string (Kd.scalar nilv (fun _ => rfl))))) (fun x => (x.h, x.ns, x.name, ()))
theorem kIt_M (w : World) (base : Nat) (ok : Nat → Prop) (x : It) : kIt.M w base ok x [.int .i64 x.h, .int .i64 x.ns, .string x.name, .slice none 0 0] :=
  ⟨[.int .i64 x.h], [.int .i64 x.ns, .string x.name, .slice none 0 0], rfl, rfl, [.int .i64 x.ns], [.string x.name, .slice none 0 0], rfl, rfl, [.string x.name], [.slice none 0 0], rfl, rfl, rfl⟩
theorem kIt_K {w : World} {x : It} {cs : List Value} (h : kIt.K w x cs) : cs = [.int .i64 x.h, .int .i64 x.ns, .string x.name, .slice none 0 0] := by
  obtain ⟨c0, c1, rfl, h0, c2, c3, rfl, h1, c4, c5, rfl, h2, h3⟩ := h
  have e0 : c0 = [.int .i64 x.h] := h0
  have e1 : c2 = [.int .i64 x.ns] := h1
  have e2 : c4 = [.string x.name] := h2
  have e3 : c5 = [.slice none 0 0] := h3
  subst e0; subst e1; subst e2; subst e3
  rfl
theorem it_at {w : World} {A : Option Addr} {xs : List It} (h : kIt.C w A xs.length xs) (i : Nat) (hi : i < xs.length) : ∃ ad x, A = some ad ∧ xs[i]? = some x ∧ w.cell? (ad.add (i * 4)) = some (.int .i64 x.h) ∧ w.cell? ⟨(ad.add (i * 4)).block, (ad.add (i * 4)).off + 1, none⟩ = some (.int .i64 x.ns) ∧ w.cell? ⟨(ad.add (i * 4)).block, (ad.add (i * 4)).off + 2, none⟩ = some (.string x.name) ∧ w.cell? ⟨(ad.add (i * 4)).block, (ad.add (i * 4)).off + 3, none⟩ = some (.slice none 0 0) := by
  obtain ⟨ad, rfl, hc⟩ := h.2.2 (by omega)
  obtain ⟨cs, hl, hK, hcell⟩ := hc i _ (List.getElem?_eq_getElem hi)
  obtain rfl := kIt_K hK
  exact ⟨ad, xs[i], rfl, List.getElem?_eq_getElem hi, hcell 0 _ rfl, by rw [← add_field _ _ 1 (by omega)]; exact hcell 1 _ rfl, by rw [← add_field _ _ 2 (by omega)]; exact hcell 2 _ rfl, by rw [← add_field _ _ 3 (by omega)]; exact hcell 3 _ rfl⟩
theorem info52 : (Try.prog.info? 52).map (fun i => (i.zero, i.size, i.bytes)) = some (some (.agg #[.int .i64 0, .int .i64 0, .string ⟨#[]⟩, .slice none 0 0]), 4, 56) := by kernel_rfl

/-- What a Push leaves: all but the stack's own block s and its old row is as it was. -/
structure Push_ (w w' : World) (s : Nat) (v v1 : Value) : Prop where
  keep : KeepBut w w' s v.ownBlock
  os : w'.os = w.os
  tape : w'.tape = w.tape
  output : w'.output = w.output
  own : v1.ownBlock = v.ownBlock ∨ ∃ b, v1.ownBlock = some b ∧ w.heap.size ≤ b
theorem Push_.below {w w' : World} {s : Nat} {v v1 : Value} (h : Push_ w w' s v v1) {B : Nat} (hs : B ≤ s) (hv : ∀ k, v.ownBlock = some k → B ≤ k) (hB : B ≤ w.heap.size) : Below B w w' :=
  ⟨h.os, h.tape, h.output, h.keep.1, fun k hk => h.keep.2 k (by omega) (by omega) (fun e => by have := hv k e.symm; omega)⟩
set_option maxHeartbeats 4000000 in
set_option maxRecDepth 100000 in
theorem spush (base s : Nat) (v : Value) (xs : List It) (x : It) (w : World) (hs : w.heap[s]? = some (.cells #[v] 69 (0, 0))) (hr : kIt.R 52 w base (fun _ => True) v xs) (hb : base ≤ w.heap.size) (hn : xs.length ≤ 1000) :
    Calls Try.prog 36 #[.pointer (some ⟨s, 0, none⟩), .agg #[.int .i64 x.h, .int .i64 x.ns, .string x.name, .slice none 0 0]] w fun e w' => e = .returned (.tuple #[]) ∧ ∃ v1, w'.heap[s]? = some (.cells #[v1] 69 (0, 0)) ∧ kIt.R 52 w' base (fun _ => True) v1 (xs ++ [x]) ∧ Push_ w w' s v v1 := by
  obtain ⟨h, ns, nm⟩ := x
  have hc := cell_of_row w s 0 _ _ _ hs
  have hcv : w.cell? ⟨s, 0, none⟩ = some v := hc
  clear hc
  have hsz := blk_lt hs
  have hsv := Kd.R_ne hr hs (by decide)
  go_enter Try.func36, Try.ntmps36
  go_wp2_with fail
  obtain ⟨wX, hX⟩ : ∃ wX, w.alloc (.cells #[.int .i64 h, .int .i64 ns, .string nm, .slice none 0 0] 52) = wX := ⟨_, rfl⟩
  have hbel : Below w.heap.size w wX := by rw [← hX]; exact below_alloc (Below.refl _ _) _
  have hnew : wX.heap[w.heap.size]? = some (.cells #[.int .i64 h, .int .i64 ns, .string nm, .slice none 0 0] 52 (0, 0)) := by rw [← hX]; exact heap_alloc_new w _
  rw [hX]
  clear hX
  have y0 : wX.cell? ⟨w.heap.size, 0, none⟩ = some (.int .i64 h) := cell_of_row _ _ 0 _ _ _ hnew
  have y1 : wX.cell? ⟨w.heap.size, 1, none⟩ = some (.int .i64 ns) := cell_of_row _ _ 1 _ _ _ hnew
  have y2 : wX.cell? ⟨w.heap.size, 2, none⟩ = some (.string nm) := cell_of_row _ _ 2 _ _ _ hnew
  have y3 : wX.cell? ⟨w.heap.size, 3, none⟩ = some (.slice none 0 0) := cell_of_row _ _ 3 _ _ _ hnew
  have ys : wX.cell? ⟨s, 0, none⟩ = some v := (hbel.cell hsz).trans hcv
  have HR := hide (Kd.R_drew (Kd.R_below hr hbel))
  have HSX := hide ((hbel.block s hsz).trans hs)
  have HM := hide (kIt_M wX.drew base (fun _ => False) ⟨h, ns, nm⟩)
  have HB := hide hbel
  have HSV := hide hsv
  have hbX : base ≤ wX.drew.heap.size := Nat.le_trans hb hbel.size
  clear hnew hbel hr hs hsv hcv
  have ys2 : (wX.alloc (.cells #[.int .i64 h, .int .i64 ns, .string nm, .slice none 0 0] 52)).cell? ⟨s, 0, none⟩ = some v := ((below_alloc (Below.refl wX.heap.size wX) _).cell (World.block_lt_of_cell? _ _ ys)).trans ys
  go_region_law
    (first | (refine Kd.R_append_step kIt (w0 := wX.drew) base rfl (.tmp 8) (.tmp 10) 47 52 (.agg #[.int .i64 0, .int .i64 0, .string ⟨#[]⟩, .slice none 0 0]) 56 rfl Try.underlying47 info52 rfl (by decide) (by decide) v xs ⟨h, ns, nm⟩ [.int .i64 h, .int .i64 ns, .string nm, .slice none 0 0] (fun _ => True) (fun _ => False) rfl rfl HM.out (fun k hk => hk.elim) (fun _ _ => trivial) HR.out (Below.refl _ _) hbX (by omega) ?_; intro v1 wA ho hb2 hg hown; obtain ⟨Av1, cv1, rfl⟩ := Kd.R_slice ho; have HO := hide ho; have HG := hide hg; have HW := hide hown; have hA := (hg.block s (blk_lt HSX.out) HSV.out).trans HSX.out; have HA := hide hA; have a1 : wA.cell? ⟨s, 0, none⟩ = some v := cell_of_row wA s 0 _ _ _ hA; have a2 := blk_frozen hA 0; clear ho hb2 hg hown hA))
  all_goals (
    go_end0
    have hO := HO.out
    simp only [List.length_append, List.length_cons, List.length_nil, Nat.zero_add] at hO
    refine ⟨rfl, .slice Av1 (xs.length + 1) cv1, ?_, Kd.R_set hO HA.out (by decide) 0 _, ?_, ?_, ?_, ?_, ?_⟩
    · exact blk_set HA.out 0 _
    · refine ⟨Nat.le_trans HB.out.size (by simpa [World.setCell] using HG.out.size), fun k hk h1 h2 => ?_⟩
      rw [Below.heap_setCell _ _ _ _ h1]
      exact (HG.out.block k (Nat.lt_of_lt_of_le hk HB.out.size) h2).trans (HB.out.block k hk)
    · exact HG.out.os.trans HB.out.os
    · exact HG.out.tape.trans HB.out.tape
    · exact HG.out.output.trans HB.out.output
    · have := HW.out
      simp only [List.length_append, List.length_cons, List.length_nil, Nat.zero_add] at this
      rcases this with h1 | ⟨b, h1, h2⟩
      · exact .inl h1
      · exact .inr ⟨b, h1, Nat.le_trans HB.out.size h2⟩)

/-- The open elements: the list's struct in the block g, its stack's in the block s, the stack's row v. -/
structure Lst (base g s : Nat) (v : Value) (xs : List It) (w : World) : Prop where
  ptr : w.heap[g]? = some (.cells #[.pointer (some ⟨s, 0, none⟩)] 65 (0, 0))
  stk : w.heap[s]? = some (.cells #[v] 69 (0, 0))
  row : kIt.R 52 w base (fun _ => True) v xs
  bg : base ≤ g
  bs : base ≤ s
theorem Lst.below {base g s : Nat} {v : Value} {xs : List It} {w w' : World} (h : Lst base g s v xs w) (hb : Below w.heap.size w w') : Lst base g s v xs w' :=
  ⟨(hb.block g (blk_lt h.ptr)).trans h.ptr, (hb.block s (blk_lt h.stk)).trans h.stk, Kd.R_below h.row hb, h.bg, h.bs⟩
theorem Lst.ne {base g s : Nat} {v : Value} {xs : List It} {w : World} (h : Lst base g s v xs w) : g ≠ s := by
  intro e
  have h1 := h.ptr
  have h2 := h.stk
  rw [e, h2] at h1
  have := (Obj.cells.inj (Option.some.inj h1)).2.1
  cases this
def itV (x : It) : Value := .agg #[.int .i64 x.h, .int .i64 x.ns, .string x.name, .slice none 0 0]
theorem lnew (base : Nat) (w : World) (hb : base ≤ w.heap.size) : Calls Try.prog 27 #[] w fun e w' => ∃ g s, e = .returned (.pointer (some ⟨g, 0, none⟩)) ∧ Lst base g s (.slice none 0 0) [] w' ∧ Below w.heap.size w w' := by
  have hs : Calls Try.prog 35 #[] w fun e w' => e = .returned (.pointer (some ⟨w.heap.size, 0, none⟩)) ∧ w' = w.alloc (.cells #[.slice none 0 0] 69) := by
    go_enter Try.func35, Try.ntmps35
    go_wp2_with fail
    go_ret
    exact ⟨rfl, rfl⟩
  go_enter Try.func27, Try.ntmps27
  go_wp2_with fail
  refine hs.mono ?_
  rintro e w1 ⟨rfl, rfl⟩
  dsimp only
  go_wp2_with fail
  go_ret
  have e1 : (w.alloc (.cells #[.slice none 0 0] 69)).heap.size = w.heap.size + 1 := by simp
  have h1 := heap_alloc_new (w.alloc (.cells #[.slice none 0 0] 69)) (.cells #[.pointer (some ⟨w.heap.size, 0, none⟩)] 65)
  rw [e1] at h1
  refine ⟨w.heap.size + 1, w.heap.size, rfl, ⟨h1, (Below.heap_alloc _ _ _ (by simp)).trans (heap_alloc_new w _), Kd.R_nil _ _ _ _ _, by omega, hb⟩, below_alloc (below_alloc (Below.refl _ _) _) _⟩
set_option maxHeartbeats 4000000 in
set_option maxRecDepth 100000 in
theorem lpush (base g s : Nat) (v : Value) (xs : List It) (x : It) (w : World) (hl : Lst base g s v xs w) (hb : base ≤ w.heap.size) (hn : xs.length ≤ 1000) :
    Calls Try.prog 28 #[.pointer (some ⟨g, 0, none⟩), itV x] w fun e w' => e = .returned (.tuple #[]) ∧ ∃ v1, Lst base g s v1 (xs ++ [x]) w' ∧ Push_ w w' s v v1 := by
  obtain ⟨h, ns, nm⟩ := x
  unfold itV
  dsimp only
  have hg : w.cell? ⟨g, 0, none⟩ = some (.pointer (some ⟨s, 0, none⟩)) := cell_of_row w g 0 _ _ _ hl.ptr
  have HL := hide hl
  have HNE := hide hl.ne
  have HB := hide hb
  have HGS := hide (Kd.R_ne hl.row hl.ptr (by decide))
  clear hl hb
  go_enter Try.func28, Try.ntmps28
  go_wp2_with fail
  obtain ⟨wX, hX⟩ : ∃ wX, w.alloc (.cells #[.int .i64 h, .int .i64 ns, .string nm, .slice none 0 0] 52) = wX := ⟨_, rfl⟩
  have hbel : Below w.heap.size w wX := by rw [← hX]; exact below_alloc (Below.refl _ _) _
  have hnew : wX.heap[w.heap.size]? = some (.cells #[.int .i64 h, .int .i64 ns, .string nm, .slice none 0 0] 52 (0, 0)) := by rw [← hX]; exact heap_alloc_new w _
  rw [hX]
  clear hX
  have y0 : wX.cell? ⟨w.heap.size, 0, none⟩ = some (.int .i64 h) := cell_of_row _ _ 0 _ _ _ hnew
  have y1 : wX.cell? ⟨w.heap.size, 1, none⟩ = some (.int .i64 ns) := cell_of_row _ _ 1 _ _ _ hnew
  have y2 : wX.cell? ⟨w.heap.size, 2, none⟩ = some (.string nm) := cell_of_row _ _ 2 _ _ _ hnew
  have y3 : wX.cell? ⟨w.heap.size, 3, none⟩ = some (.slice none 0 0) := cell_of_row _ _ 3 _ _ _ hnew
  have yg : wX.cell? ⟨g, 0, none⟩ = some (.pointer (some ⟨s, 0, none⟩)) := (hbel.cell (World.block_lt_of_cell? _ _ hg)).trans hg
  have hlX : Lst base g s v xs wX.drew := HL.out.below (hbel.drew)
  have HSP := hide (spush base s v xs ⟨h, ns, nm⟩ wX.drew hlX.stk hlX.row (Nat.le_trans HB.out hbel.size) hn)
  have HLX := hide hlX
  have HBX := hide (show Below w.heap.size w wX.drew from hbel.drew)
  clear hnew hbel hlX
  go_region_with (go_at_call 36; refine HSP.out.mono ?_; rintro e wA ⟨rfl, v1, hA1, hA2, hA3⟩; have HA1 := hide hA1; have HA2 := hide hA2; have HA3 := hide hA3; clear hA1 hA2 hA3)
  all_goals (
    go_end0
    have hgk : wA.heap[g]? = some (.cells #[.pointer (some ⟨s, 0, none⟩)] 65 (0, 0)) := (HA3.out.keep.2 g (blk_lt HLX.out.ptr) HNE.out HGS.out).trans HLX.out.ptr
    refine ⟨rfl, v1, ⟨hgk, HA1.out, HA2.out, HL.out.bg, HL.out.bs⟩, ⟨⟨Nat.le_trans HBX.out.size HA3.out.keep.1, fun k hk h1 h2 => (HA3.out.keep.2 k (Nat.lt_of_lt_of_le hk HBX.out.size) h1 h2).trans (HBX.out.block k hk)⟩, HA3.out.os.trans HBX.out.os, HA3.out.tape.trans HBX.out.tape, HA3.out.output.trans HBX.out.output, ?_⟩⟩
    rcases HA3.out.own with h1 | ⟨b, h1, h2⟩
    · exact .inl h1
    · exact .inr ⟨b, h1, Nat.le_trans HBX.out.size h2⟩)
theorem llen (base g s : Nat) (v : Value) (xs : List It) (w : World) (hl : Lst base g s v xs w) : Calls Try.prog 25 #[.pointer (some ⟨g, 0, none⟩)] w fun e w' => e = .returned (.int .i64 xs.length) ∧ Below w.heap.size w w' := by
  have hg : w.cell? ⟨g, 0, none⟩ = some (.pointer (some ⟨s, 0, none⟩)) := cell_of_row w g 0 _ _ _ hl.ptr
  have hs : w.cell? ⟨s, 0, none⟩ = some v := cell_of_row w s 0 _ _ _ hl.stk
  obtain ⟨A, c, rfl⟩ := Kd.R_slice hl.row
  have h1 : Calls Try.prog 33 #[.pointer (some ⟨s, 0, none⟩)] w fun e w' => e = .returned (.int .i64 xs.length) ∧ w' = w := by
    go_enter Try.func33, Try.ntmps33
    go_wp2_with fail
    go_ret
    exact ⟨rfl, rfl⟩
  go_enter Try.func25, Try.ntmps25
  go_wp2_with fail
  refine h1.mono ?_
  rintro e w1 ⟨rfl, rfl⟩
  dsimp only
  go_wp2_with fail
  go_ret
  exact ⟨rfl, Below.refl _ _⟩
theorem res_item {w : World} {X : Nat} {a b c d : Value} (hb : w.heap[X]? = some (.cells #[a, b, c, d] 52 (0, 0))) (t u : Tmp) {fn : Func} (tmps : Array Value) (h : fn.results = #[.cell t 52, .tmp u]) (ht : tmps.getD t undef = .pointer (some ⟨X, 0, none⟩)) {r : Value} (hu : tmps.getD u undef = r) : (results fn tmps).run Try.prog w = .ok (.tuple #[.agg #[a, b, c, d], r]) w := by
  have z0 : w.cell? ⟨X, 0, none⟩ = some a := cell_of_row w X 0 _ _ _ hb
  have z1 : w.cell? ⟨X, 1, none⟩ = some b := cell_of_row w X 1 _ _ _ hb
  have z2 : w.cell? ⟨X, 2, none⟩ = some c := cell_of_row w X 2 _ _ _ hb
  have z3 : w.cell? ⟨X, 3, none⟩ = some d := cell_of_row w X 3 _ _ _ hb
  rw [Array.getD_eq_getD_getElem?] at ht hu
  simp [results, h, ht, hu, go_sem, z0, z1, z2, z3]
set_option maxHeartbeats 4000000 in
set_option maxRecDepth 100000 in
theorem sat (base g s : Nat) (v : Value) (xs : List It) (w : World) (hl : Lst base g s v xs w) (i : Nat) (x : It) (hx : xs[i]? = some x) : Calls Try.prog 37 #[.pointer (some ⟨s, 0, none⟩), .int .i64 i] w fun e w' => e = .returned (.tuple #[itV x, .bool true]) ∧ Below w.heap.size w w' := by
  have hi : i < xs.length := (List.getElem?_eq_some_iff.1 hx).1
  have hs : w.cell? ⟨s, 0, none⟩ = some v := cell_of_row w s 0 _ _ _ hl.stk
  obtain ⟨A, c, rfl, hlc, hC⟩ := Kd.R_reads hl.row
  obtain ⟨ad, x', rfl, hx', h0, h1, h2, h3⟩ := it_at hC i hi
  rw [hx] at hx'
  cases hx'
  obtain ⟨h, ns, nm⟩ := x
  dsimp only at h0 h1 h2 h3
  unfold itV
  dsimp only
  have j0 : (0 : Int) ≤ i := by omega
  have j1 : (i : Int) < xs.length := by omega
  have his : ∀ W : World, W.cell? ⟨s, 0, none⟩ = some (.slice (some ad) xs.length c) → Calls Try.prog 40 #[.pointer (some ⟨s, 0, none⟩), .int .i64 i] W fun e w' => e = .returned (.bool true) ∧ w' = W := by
    intro W hW
    go_enter Try.func40, Try.ntmps40
    go_wp2_with fail
    go_ret
    exact ⟨rfl, rfl⟩
  have HC := hide hC
  have HL := hide hl
  have HIS := hide his
  clear hC hl his hx
  go_enter Try.func37, Try.ntmps37
  go_wp2_with fail
  obtain ⟨wX, hX⟩ : ∃ wX, w.alloc (.cells #[.int .i64 0, .int .i64 0, .string ⟨#[]⟩, .slice none 0 0] 52) = wX := ⟨_, rfl⟩
  have hbel : Below w.heap.size w wX := by rw [← hX]; exact below_alloc (Below.refl _ _) _
  have hnew : wX.heap[w.heap.size]? = some (.cells #[.int .i64 0, .int .i64 0, .string ⟨#[]⟩, .slice none 0 0] 52 (0, 0)) := by rw [← hX]; exact heap_alloc_new w _
  rw [hX]
  clear hX
  have xs_ := (hbel.cell (World.block_lt_of_cell? _ _ hs)).trans hs
  have x0 := (hbel.cell (World.block_lt_of_cell? _ _ h0)).trans h0
  have x1 := (hbel.cell (World.block_lt_of_cell? _ _ h1)).trans h1
  have x2 := (hbel.cell (World.block_lt_of_cell? _ _ h2)).trans h2
  have x3 := (hbel.cell (World.block_lt_of_cell? _ _ h3)).trans h3
  clear h0 h1 h2 h3 hs
  refine (HIS.out wX xs_).mono ?_
  rintro e w1 ⟨rfl, rfl⟩
  dsimp only
  have z0 := cell_of_row w1 _ 0 _ _ _ hnew
  have z1 := cell_of_row w1 _ 1 _ _ _ hnew
  have z2 := cell_of_row w1 _ 2 _ _ _ hnew
  have z3 := cell_of_row w1 _ 3 _ _ _ hnew
  have f0 := blk_frozen hnew 0
  have f1 := blk_frozen hnew 1
  have f2 := blk_frozen hnew 2
  have f3 := blk_frozen hnew 3
  go_wp2_with fail
  have hfin := blk_set (blk_set (blk_set (blk_set hnew 0 (.int .i64 h)) 1 (.int .i64 ns)) 2 (.string nm)) 3 (.slice none 0 0)
  refine ⟨rfl, _, res_item hfin 4 5 _ rfl rfl rfl, rfl, ?_⟩
  exact (((hbel.setCell (Nat.le_refl _) _).setCell (Nat.le_refl _) _).setCell (Nat.le_refl _) _).setCell (Nat.le_refl _) _
set_option maxHeartbeats 4000000 in
set_option maxRecDepth 100000 in
theorem lat (base g s : Nat) (v : Value) (xs : List It) (w : World) (hl : Lst base g s v xs w) (i : Nat) (x : It) (hx : xs[i]? = some x) : Calls Try.prog 29 #[.pointer (some ⟨g, 0, none⟩), .int .i64 i] w fun e w' => e = .returned (.tuple #[itV x, .bool true]) ∧ Below w.heap.size w w' := by
  have hg : w.cell? ⟨g, 0, none⟩ = some (.pointer (some ⟨s, 0, none⟩)) := cell_of_row w g 0 _ _ _ hl.ptr
  have HL := hide hl
  have HX := hide hx
  clear hl hx
  obtain ⟨h, ns, nm⟩ := x
  unfold itV
  dsimp only
  have hg2 := ((below_alloc (Below.refl w.heap.size w) (.cells #[.int .i64 0, .int .i64 0, .string ⟨#[]⟩, .slice none 0 0] 52)).cell (World.block_lt_of_cell? _ _ hg)).trans hg
  go_enter Try.func29, Try.ntmps29
  go_wp2_with fail
  obtain ⟨wX, hX⟩ : ∃ wX, w.alloc (.cells #[.int .i64 0, .int .i64 0, .string ⟨#[]⟩, .slice none 0 0] 52) = wX := ⟨_, rfl⟩
  have hbel : Below w.heap.size w wX := by rw [← hX]; exact below_alloc (Below.refl _ _) _
  have hnew : wX.heap[w.heap.size]? = some (.cells #[.int .i64 0, .int .i64 0, .string ⟨#[]⟩, .slice none 0 0] 52 (0, 0)) := by rw [← hX]; exact heap_alloc_new w _
  rw [hX] at hg2 ⊢
  clear hX
  have hsz : w.heap.size < wX.heap.size := blk_lt hnew
  refine (sat base g s v xs wX (HL.out.below hbel) i ⟨h, ns, nm⟩ HX.out).mono ?_
  rintro e w1 ⟨rfl, hb1⟩
  unfold itV
  dsimp only
  have hnew1 := (hb1.block _ hsz).trans hnew
  have HB1 := hide (below_step hbel hb1)
  clear hnew hbel hb1
  have z0 := cell_of_row w1 _ 0 _ _ _ hnew1
  have z1 := cell_of_row w1 _ 1 _ _ _ hnew1
  have z2 := cell_of_row w1 _ 2 _ _ _ hnew1
  have z3 := cell_of_row w1 _ 3 _ _ _ hnew1
  have f0 := blk_frozen hnew1 0
  have f1 := blk_frozen hnew1 1
  have f2 := blk_frozen hnew1 2
  have f3 := blk_frozen hnew1 3
  go_wp2_with fail
  have hfin := blk_set (blk_set (blk_set (blk_set hnew1 0 (.int .i64 h)) 1 (.int .i64 ns)) 2 (.string nm)) 3 (.slice none 0 0)
  refine ⟨rfl, _, res_item hfin 4 5 _ rfl rfl rfl, rfl, ?_⟩
  exact (((HB1.out.setCell (Nat.le_refl _) _).setCell (Nat.le_refl _) _).setCell (Nat.le_refl _) _).setCell (Nat.le_refl _) _
set_option maxHeartbeats 4000000 in
set_option maxRecDepth 100000 in
theorem stop (base g s : Nat) (v : Value) (xs : List It) (w : World) (hl : Lst base g s v xs w) (x : It) (hx : xs[xs.length - 1]? = some x) (hn : xs.length ≤ 1000) : Calls Try.prog 34 #[.pointer (some ⟨s, 0, none⟩)] w fun e w' => e = .returned (.tuple #[itV x, .bool true]) ∧ Below w.heap.size w w' := by
  have hs : w.cell? ⟨s, 0, none⟩ = some v := cell_of_row w s 0 _ _ _ hl.stk
  have hi := (List.getElem?_eq_some_iff.1 hx).1
  obtain ⟨A, c, rfl⟩ := Kd.R_slice hl.row
  have HL := hide hl
  have HX := hide hx
  have ew : IntKind.i64.wrap ((xs.length : Int) - 1) = ((xs.length - 1 : Nat) : Int) := by rw [IntWalk.i64_in _ (by omega)]; omega
  clear hl hx
  obtain ⟨h, ns, nm⟩ := x
  unfold itV
  dsimp only
  go_enter Try.func34, Try.ntmps34
  have hbel : Below w.heap.size w (w.alloc (.cells #[.int .i64 0, .int .i64 0, .string ⟨#[]⟩, .slice none 0 0] 52)) := below_alloc (Below.refl _ _) _
  have hs2 := (hbel.cell (World.block_lt_of_cell? _ _ hs)).trans hs
  have hnew : (w.alloc (.cells #[.int .i64 0, .int .i64 0, .string ⟨#[]⟩, .slice none 0 0] 52)).heap[w.heap.size]? = some (.cells #[.int .i64 0, .int .i64 0, .string ⟨#[]⟩, .slice none 0 0] 52 (0, 0)) := heap_alloc_new w _
  have HBEL := hide hbel
  have HNEW := hide hnew
  clear hbel hnew
  go_wp2_with fail
  obtain ⟨wX, hX⟩ : ∃ wX, w.alloc (.cells #[.int .i64 0, .int .i64 0, .string ⟨#[]⟩, .slice none 0 0] 52) = wX := ⟨_, rfl⟩
  rw [hX] at HBEL HNEW hs2 ⊢
  clear hX
  have hsz : w.heap.size < wX.heap.size := blk_lt HNEW.out
  refine (sat base g s _ xs wX (HL.out.below HBEL.out) (xs.length - 1) ⟨h, ns, nm⟩ HX.out).mono ?_
  rintro e w1 ⟨rfl, hb1⟩
  unfold itV
  dsimp only
  have hnew1 := (hb1.block _ hsz).trans HNEW.out
  have HB1 := hide (below_step HBEL.out hb1)
  clear HNEW HBEL hb1
  have z0 := cell_of_row w1 _ 0 _ _ _ hnew1
  have z1 := cell_of_row w1 _ 1 _ _ _ hnew1
  have z2 := cell_of_row w1 _ 2 _ _ _ hnew1
  have z3 := cell_of_row w1 _ 3 _ _ _ hnew1
  have f0 := blk_frozen hnew1 0
  have f1 := blk_frozen hnew1 1
  have f2 := blk_frozen hnew1 2
  have f3 := blk_frozen hnew1 3
  go_wp2_with fail
  have hfin := blk_set (blk_set (blk_set (blk_set hnew1 0 (.int .i64 h)) 1 (.int .i64 ns)) 2 (.string nm)) 3 (.slice none 0 0)
  refine ⟨rfl, _, res_item hfin 2 3 _ rfl rfl rfl, rfl, ?_⟩
  exact (((HB1.out.setCell (Nat.le_refl _) _).setCell (Nat.le_refl _) _).setCell (Nat.le_refl _) _).setCell (Nat.le_refl _) _
set_option maxHeartbeats 4000000 in
set_option maxRecDepth 100000 in
theorem ltop (base g s : Nat) (v : Value) (xs : List It) (w : World) (hl : Lst base g s v xs w) (x : It) (hx : xs[xs.length - 1]? = some x) (hn : xs.length ≤ 1000) : Calls Try.prog 26 #[.pointer (some ⟨g, 0, none⟩)] w fun e w' => e = .returned (.tuple #[itV x, .bool true]) ∧ Below w.heap.size w w' := by
  have hg : w.cell? ⟨g, 0, none⟩ = some (.pointer (some ⟨s, 0, none⟩)) := cell_of_row w g 0 _ _ _ hl.ptr
  have HL := hide hl
  have HX := hide hx
  clear hl hx
  obtain ⟨h, ns, nm⟩ := x
  unfold itV
  dsimp only
  have hg2 := ((below_alloc (Below.refl w.heap.size w) (.cells #[.int .i64 0, .int .i64 0, .string ⟨#[]⟩, .slice none 0 0] 52)).cell (World.block_lt_of_cell? _ _ hg)).trans hg
  go_enter Try.func26, Try.ntmps26
  go_wp2_with fail
  obtain ⟨wX, hX⟩ : ∃ wX, w.alloc (.cells #[.int .i64 0, .int .i64 0, .string ⟨#[]⟩, .slice none 0 0] 52) = wX := ⟨_, rfl⟩
  have hbel : Below w.heap.size w wX := by rw [← hX]; exact below_alloc (Below.refl _ _) _
  have hnew : wX.heap[w.heap.size]? = some (.cells #[.int .i64 0, .int .i64 0, .string ⟨#[]⟩, .slice none 0 0] 52 (0, 0)) := by rw [← hX]; exact heap_alloc_new w _
  rw [hX] at hg2 ⊢
  clear hX
  have hsz : w.heap.size < wX.heap.size := blk_lt hnew
  refine (stop base g s v xs wX (HL.out.below hbel) ⟨h, ns, nm⟩ HX.out hn).mono ?_
  rintro e w1 ⟨rfl, hb1⟩
  unfold itV
  dsimp only
  have hnew1 := (hb1.block _ hsz).trans hnew
  have HB1 := hide (below_step hbel hb1)
  clear hnew hbel hb1
  have z0 := cell_of_row w1 _ 0 _ _ _ hnew1
  have z1 := cell_of_row w1 _ 1 _ _ _ hnew1
  have z2 := cell_of_row w1 _ 2 _ _ _ hnew1
  have z3 := cell_of_row w1 _ 3 _ _ _ hnew1
  have f0 := blk_frozen hnew1 0
  have f1 := blk_frozen hnew1 1
  have f2 := blk_frozen hnew1 2
  have f3 := blk_frozen hnew1 3
  go_wp2_with fail
  have hfin := blk_set (blk_set (blk_set (blk_set hnew1 0 (.int .i64 h)) 1 (.int .i64 ns)) 2 (.string nm)) 3 (.slice none 0 0)
  refine ⟨rfl, _, res_item hfin 2 3 _ rfl rfl rfl, rfl, ?_⟩
  exact (((HB1.out.setCell (Nat.le_refl _) _).setCell (Nat.le_refl _) _).setCell (Nat.le_refl _) _).setCell (Nat.le_refl _) _
end Go.Proofs.Ytpofjfnlchpmbaa.Ctx

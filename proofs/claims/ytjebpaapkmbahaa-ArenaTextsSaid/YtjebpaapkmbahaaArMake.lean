/- The arena's Make. -/
import Derived.Test.YtjebpaapkmbahaaArMore
namespace Go.Proofs.Ytjebpaapkmbahaa.Ar
open Go.RowKit Go.Proofs.Ytjebpaapkmbahaa.PArenaPlays Go.Proofs.YtjebpaapkmbahaaW.PrintWords Go.Proofs.YtjebpaapkmbahaaW.PrintLast
set_option linter.unusedVariables false
set_option linter.unusedSimpArgs false
def tplB : List UInt8 := [116, 101, 109, 112, 108, 97, 116, 101]
def elT (ns : Int) (name : ByteArray) (a : List S62) : S35 := ⟨3, ns, name, moreL [] a, ⟨#[]⟩, []⟩
def cntT : S35 := ⟨6, 0, ⟨#[]⟩, [], ⟨#[]⟩, []⟩
/-- A template and its Content. -/
def tplL (l : List S72) (t : S35) : List S72 := linkL (((l ++ [newN t]) ++ [newN cntT]).set l.length (s6 (newN t) ((l.length + 1 : Nat) : Int))) l.length (l.length + 1) (-1)
def plainT (kind : Int) (name text : ByteArray) : S35 := if kind = 2 then ⟨2, 0, name, [], ⟨#[]⟩, []⟩ else ⟨kind, 0, ⟨#[]⟩, [], text, []⟩
def makeL (l : List S72) (kind ns : Int) (name : ByteArray) (a : List S62) (text : ByteArray) : Int × Int × List S72 :=
  if kind = 3 then
    (if (ns = 1 ∨ ns = 2) ∧ name.toList ≠ [] then
      (if ns = 1 ∧ name.toList = tplB then ((l.length : Int), 0, tplL l (elT ns name a)) else ((l.length : Int), 0, l ++ [newN (elT ns name a)]))
    else (0, 12, l))
  else if kind = 2 ∨ kind = 4 ∨ kind = 5 then ((l.length : Int), 0, l ++ [newN (plainT kind name text)])
  else (0, 23, l)
def PostM (N g : Nat) (q : Bool) (w : World) (n r : Int) (l : List S72) (e : Ending) (w' : World) : Prop := e = .returned (.tuple #[.int .i64 n, .int .i64 r]) ∧ AS w' N g l q ∧ Fr N TA w w'
theorem make_kind {w : World} {N g gl cap : Nat} {l : List S72} {q : Bool} (h : AO w N g gl cap l q) (hNw : N ≤ w.heap.size) (kind ns : Int) (name text : ByteArray) (hk : ¬ (kind = 2 ∨ kind = 3 ∨ kind = 4 ∨ kind = 5)) (v : Value) :
    Calls Try.prog 12 #[.pointer (some ⟨g, 0, none⟩), .int .i64 kind, .int .i64 ns, .string name, v, .string text] w (PostM N g q w 0 23 l) := by
  have HO := hide h
  have e2 : (kind == 2) = false := by rw [beq_eq_false_iff_ne]; omega
  have e3 : (kind == 3) = false := by rw [beq_eq_false_iff_ne]; omega
  have e4 : (kind == 4) = false := by rw [beq_eq_false_iff_ne]; omega
  have e5 : (kind == 5) = false := by rw [beq_eq_false_iff_ne]; omega
  have HNw := hide hNw
  clear h hk hNw
  go_enter Try.func12, Try.ntmps12
  go_wp2
  go_ret2
  have hb := below_alloc (Below.refl w.heap.size w) (.cells #[.int .i64 kind, .int .i64 0, .string ⟨#[]⟩, .slice none 0 0, .string ⟨#[]⟩, .slice none 0 0] 35)
  exact ⟨rfl, (HO.out.below hb).as, Fr.of_below hb HNw.out⟩
theorem make_form {w : World} {N g gl cap : Nat} {l : List S72} {q : Bool} (h : AO w N g gl cap l q) (hNw : N ≤ w.heap.size) (ns : Int) (name text : ByteArray) (hk : ¬ ((ns = 1 ∨ ns = 2) ∧ name.toList ≠ [])) (v : Value) :
    Calls Try.prog 12 #[.pointer (some ⟨g, 0, none⟩), .int .i64 3, .int .i64 ns, .string name, v, .string text] w (PostM N g q w 0 12 l) := by
  have HO := hide h
  have HNw := hide hNw
  have hb := below_alloc (Below.refl w.heap.size w) (.cells #[.int .i64 3, .int .i64 0, .string ⟨#[]⟩, .slice none 0 0, .string ⟨#[]⟩, .slice none 0 0] 35)
  have HB := hide hb
  clear h hNw hb
  by_cases h1 : ns = 1 ∨ ns = 2
  · have hn : name.toList = [] := by
      cases hx : name.toList with
      | nil => rfl
      | cons _ _ => exact absurd ⟨h1, by rw [hx]; simp⟩ hk
    have hn1 : name.toList.isEmpty = true := by rw [hn]; rfl
    clear hk
    rcases h1 with rfl | rfl
    · go_enter Try.func12, Try.ntmps12
      go_wp2
      go_ret2
      exact ⟨rfl, (HO.out.below HB.out).as, Fr.of_below HB.out HNw.out⟩
    · go_enter Try.func12, Try.ntmps12
      go_wp2
      go_ret2
      exact ⟨rfl, (HO.out.below HB.out).as, Fr.of_below HB.out HNw.out⟩
  · have e1 : (ns == 1) = false := by rw [beq_eq_false_iff_ne]; omega
    have e2 : (ns == 2) = false := by rw [beq_eq_false_iff_ne]; omega
    have e3 : (ns != 1) = true := by rw [bne_iff_ne]; omega
    have e4 : (ns != 2) = true := by rw [bne_iff_ne]; omega
    clear hk h1
    go_enter Try.func12, Try.ntmps12
    go_wp2
    go_ret2
    exact ⟨rfl, (HO.out.below HB.out).as, Fr.of_below HB.out HNw.out⟩
theorem make_doc {w : World} {N g gl cap : Nat} {l : List S72} {q : Bool} (h : AO w N g gl cap l q) (hNw : N ≤ w.heap.size) (ns : Int) (name text : ByteArray) (hl : l.length ≤ 100000000) (v : Value) :
    Calls Try.prog 12 #[.pointer (some ⟨g, 0, none⟩), .int .i64 2, .int .i64 ns, .string name, v, .string text] w (PostM N g q w (l.length : Int) 0 (l ++ [newN (⟨2, 0, name, [], ⟨#[]⟩, []⟩ : S35)])) := by
  have hb := below_alloc (Below.refl w.heap.size w) (.cells #[.int .i64 2, .int .i64 0, .string ⟨#[]⟩, .slice none 0 0, .string ⟨#[]⟩, .slice none 0 0] 35)
  have hn := heap_alloc_new w (.cells #[.int .i64 2, .int .i64 0, .string ⟨#[]⟩, .slice none 0 0, .string ⟨#[]⟩, .slice none 0 0] 35)
  obtain ⟨w1, hw⟩ : ∃ w1, w.alloc (.cells #[.int .i64 2, .int .i64 0, .string ⟨#[]⟩, .slice none 0 0, .string ⟨#[]⟩, .slice none 0 0] 35) = w1 := ⟨_, rfl⟩
  have HW := hide hw
  rw [hw] at hb hn
  have hs : Below w.heap.size w (w1.setCell ⟨w.heap.size, 2, none⟩ (.string name)) := hb.setCell (p := ⟨w.heap.size, 2, none⟩) (Nat.le_refl _) _
  have hx := blk_set hn 2 (.string name)
  replace hx : (w1.setCell ⟨w.heap.size, 2, none⟩ (.string name)).heap[w.heap.size]? = some (.cells #[.int .i64 2, .int .i64 0, .string name, .slice none 0 0, .string ⟨#[]⟩, .slice none 0 0] 35 (0, 0)) := hx
  have H7 : Hid (Calls Try.prog 39 #[.pointer (some ⟨g, 0, none⟩), .agg #[.int .i64 2, .int .i64 0, .string name, .slice none 0 0, .string ⟨#[]⟩, .slice none 0 0]] (w1.setCell ⟨w.heap.size, 2, none⟩ (.string name)) fun e w' => e = .returned (.int .i64 (l.length : Int)) ∧ AS w' N g (l ++ [newN (⟨2, 0, name, [], ⟨#[]⟩, []⟩ : S35)]) q ∧ Fr N TA (w1.setCell ⟨w.heap.size, 2, none⟩ (.string name)) w') := hide (add (h.below hs).as (Nat.le_trans hNw hs.size) (⟨2, 0, name, [], ⟨#[]⟩, []⟩ : S35) rfl (v3 := .slice none 0 0) (ok := fun _ => True) (Kd.R_nil _ _ _ _ _) hl)
  have HF := hide (Fr.of_below (T := TA) hs hNw)
  have HN := hide hn
  have HX := hide hx
  clear h hNw hl hb hs hn hx hw
  go_enter Try.func12, Try.ntmps12
  go_upto_region 2 with fail
  rw [HW.out]
  have f := blk_frozen HN.out 2
  have x : w1.cell? ⟨w.heap.size, 2, none⟩ = some (.string ⟨#[]⟩) := cell_of_row _ _ 2 _ _ _ HN.out
  have x0 := cell_of_row _ _ 0 _ _ _ HX.out
  have x1 := cell_of_row _ _ 1 _ _ _ HX.out
  have x2 := cell_of_row _ _ 2 _ _ _ HX.out
  have x3 := cell_of_row _ _ 3 _ _ _ HX.out
  have x4 := cell_of_row _ _ 4 _ _ _ HX.out
  have x5 := cell_of_row _ _ 5 _ _ _ HX.out
  go_wp2_with (go_at_call 39; (with_reducible refine H7.out.mono ?_); rintro e w' ⟨rfl, hA, hF⟩; have HA3 := hide hA; have HF3 := hide hF; clear hA hF)
  go_ret2
  exact ⟨rfl, HA3.out, HF.out.trans HF3.out⟩
theorem make_text4 {w : World} {N g gl cap : Nat} {l : List S72} {q : Bool} (h : AO w N g gl cap l q) (hNw : N ≤ w.heap.size) (ns : Int) (name text : ByteArray) (hl : l.length ≤ 100000000) (v : Value) :
    Calls Try.prog 12 #[.pointer (some ⟨g, 0, none⟩), .int .i64 4, .int .i64 ns, .string name, v, .string text] w (PostM N g q w (l.length : Int) 0 (l ++ [newN (⟨4, 0, ⟨#[]⟩, [], text, []⟩ : S35)])) := by
  have hb := below_alloc (Below.refl w.heap.size w) (.cells #[.int .i64 4, .int .i64 0, .string ⟨#[]⟩, .slice none 0 0, .string ⟨#[]⟩, .slice none 0 0] 35)
  have hn := heap_alloc_new w (.cells #[.int .i64 4, .int .i64 0, .string ⟨#[]⟩, .slice none 0 0, .string ⟨#[]⟩, .slice none 0 0] 35)
  obtain ⟨w1, hw⟩ : ∃ w1, w.alloc (.cells #[.int .i64 4, .int .i64 0, .string ⟨#[]⟩, .slice none 0 0, .string ⟨#[]⟩, .slice none 0 0] 35) = w1 := ⟨_, rfl⟩
  have HW := hide hw
  rw [hw] at hb hn
  have hs : Below w.heap.size w (w1.setCell ⟨w.heap.size, 4, none⟩ (.string text)) := hb.setCell (p := ⟨w.heap.size, 4, none⟩) (Nat.le_refl _) _
  have hx := blk_set hn 4 (.string text)
  replace hx : (w1.setCell ⟨w.heap.size, 4, none⟩ (.string text)).heap[w.heap.size]? = some (.cells #[.int .i64 4, .int .i64 0, .string ⟨#[]⟩, .slice none 0 0, .string text, .slice none 0 0] 35 (0, 0)) := hx
  have H7 : Hid (Calls Try.prog 39 #[.pointer (some ⟨g, 0, none⟩), .agg #[.int .i64 4, .int .i64 0, .string ⟨#[]⟩, .slice none 0 0, .string text, .slice none 0 0]] (w1.setCell ⟨w.heap.size, 4, none⟩ (.string text)) fun e w' => e = .returned (.int .i64 (l.length : Int)) ∧ AS w' N g (l ++ [newN (⟨4, 0, ⟨#[]⟩, [], text, []⟩ : S35)]) q ∧ Fr N TA (w1.setCell ⟨w.heap.size, 4, none⟩ (.string text)) w') := hide (add (h.below hs).as (Nat.le_trans hNw hs.size) (⟨4, 0, ⟨#[]⟩, [], text, []⟩ : S35) rfl (v3 := .slice none 0 0) (ok := fun _ => True) (Kd.R_nil _ _ _ _ _) hl)
  have HF := hide (Fr.of_below (T := TA) hs hNw)
  have HN := hide hn
  have HX := hide hx
  clear h hNw hl hb hs hn hx hw
  go_enter Try.func12, Try.ntmps12
  go_upto_region 2 with fail
  rw [HW.out]
  have f := blk_frozen HN.out 4
  have x : w1.cell? ⟨w.heap.size, 4, none⟩ = some (.string ⟨#[]⟩) := cell_of_row _ _ 4 _ _ _ HN.out
  have x0 := cell_of_row _ _ 0 _ _ _ HX.out
  have x1 := cell_of_row _ _ 1 _ _ _ HX.out
  have x2 := cell_of_row _ _ 2 _ _ _ HX.out
  have x3 := cell_of_row _ _ 3 _ _ _ HX.out
  have x4 := cell_of_row _ _ 4 _ _ _ HX.out
  have x5 := cell_of_row _ _ 5 _ _ _ HX.out
  go_wp2_with (go_at_call 39; (with_reducible refine H7.out.mono ?_); rintro e w' ⟨rfl, hA, hF⟩; have HA3 := hide hA; have HF3 := hide hF; clear hA hF)
  go_ret2
  exact ⟨rfl, HA3.out, HF.out.trans HF3.out⟩
theorem make_text5 {w : World} {N g gl cap : Nat} {l : List S72} {q : Bool} (h : AO w N g gl cap l q) (hNw : N ≤ w.heap.size) (ns : Int) (name text : ByteArray) (hl : l.length ≤ 100000000) (v : Value) :
    Calls Try.prog 12 #[.pointer (some ⟨g, 0, none⟩), .int .i64 5, .int .i64 ns, .string name, v, .string text] w (PostM N g q w (l.length : Int) 0 (l ++ [newN (⟨5, 0, ⟨#[]⟩, [], text, []⟩ : S35)])) := by
  have hb := below_alloc (Below.refl w.heap.size w) (.cells #[.int .i64 5, .int .i64 0, .string ⟨#[]⟩, .slice none 0 0, .string ⟨#[]⟩, .slice none 0 0] 35)
  have hn := heap_alloc_new w (.cells #[.int .i64 5, .int .i64 0, .string ⟨#[]⟩, .slice none 0 0, .string ⟨#[]⟩, .slice none 0 0] 35)
  obtain ⟨w1, hw⟩ : ∃ w1, w.alloc (.cells #[.int .i64 5, .int .i64 0, .string ⟨#[]⟩, .slice none 0 0, .string ⟨#[]⟩, .slice none 0 0] 35) = w1 := ⟨_, rfl⟩
  have HW := hide hw
  rw [hw] at hb hn
  have hs : Below w.heap.size w (w1.setCell ⟨w.heap.size, 4, none⟩ (.string text)) := hb.setCell (p := ⟨w.heap.size, 4, none⟩) (Nat.le_refl _) _
  have hx := blk_set hn 4 (.string text)
  replace hx : (w1.setCell ⟨w.heap.size, 4, none⟩ (.string text)).heap[w.heap.size]? = some (.cells #[.int .i64 5, .int .i64 0, .string ⟨#[]⟩, .slice none 0 0, .string text, .slice none 0 0] 35 (0, 0)) := hx
  have H7 : Hid (Calls Try.prog 39 #[.pointer (some ⟨g, 0, none⟩), .agg #[.int .i64 5, .int .i64 0, .string ⟨#[]⟩, .slice none 0 0, .string text, .slice none 0 0]] (w1.setCell ⟨w.heap.size, 4, none⟩ (.string text)) fun e w' => e = .returned (.int .i64 (l.length : Int)) ∧ AS w' N g (l ++ [newN (⟨5, 0, ⟨#[]⟩, [], text, []⟩ : S35)]) q ∧ Fr N TA (w1.setCell ⟨w.heap.size, 4, none⟩ (.string text)) w') := hide (add (h.below hs).as (Nat.le_trans hNw hs.size) (⟨5, 0, ⟨#[]⟩, [], text, []⟩ : S35) rfl (v3 := .slice none 0 0) (ok := fun _ => True) (Kd.R_nil _ _ _ _ _) hl)
  have HF := hide (Fr.of_below (T := TA) hs hNw)
  have HN := hide hn
  have HX := hide hx
  clear h hNw hl hb hs hn hx hw
  go_enter Try.func12, Try.ntmps12
  go_upto_region 2 with fail
  rw [HW.out]
  have f := blk_frozen HN.out 4
  have x : w1.cell? ⟨w.heap.size, 4, none⟩ = some (.string ⟨#[]⟩) := cell_of_row _ _ 4 _ _ _ HN.out
  have x0 := cell_of_row _ _ 0 _ _ _ HX.out
  have x1 := cell_of_row _ _ 1 _ _ _ HX.out
  have x2 := cell_of_row _ _ 2 _ _ _ HX.out
  have x3 := cell_of_row _ _ 3 _ _ _ HX.out
  have x4 := cell_of_row _ _ 4 _ _ _ HX.out
  have x5 := cell_of_row _ _ 5 _ _ _ HX.out
  go_wp2_with (go_at_call 39; (with_reducible refine H7.out.mono ?_); rintro e w' ⟨rfl, hA, hF⟩; have HA3 := hide hA; have HF3 := hide hF; clear hA hF)
  go_ret2
  exact ⟨rfl, HA3.out, HF.out.trans HF3.out⟩
set_option maxHeartbeats 4000000 in
set_option maxRecDepth 100000 in
theorem make_svg {w : World} {N g gl cap : Nat} {l : List S72} {q : Bool} (h : AO w N g gl cap l q) (hNw : N ≤ w.heap.size) (name text : ByteArray) (hn : ¬ name.toList = []) (B : Option Addr) (d : Nat) (a : List S62) (ha : Rds w B d a) (hal : a.length ≤ 100000) (hl : l.length ≤ 100000000 - 1) :
    Calls Try.prog 12 #[.pointer (some ⟨g, 0, none⟩), .int .i64 3, .int .i64 2, .string name, .slice B a.length d, .string text] w (PostM N g q w (l.length : Int) 0 (l ++ [newN (elT 2 name a)])) := by
  have hb := below_alloc (Below.refl w.heap.size w) (.cells #[.int .i64 3, .int .i64 0, .string ⟨#[]⟩, .slice none 0 0, .string ⟨#[]⟩, .slice none 0 0] 35)
  have hN := heap_alloc_new w (.cells #[.int .i64 3, .int .i64 0, .string ⟨#[]⟩, .slice none 0 0, .string ⟨#[]⟩, .slice none 0 0] 35)
  obtain ⟨w1, hw⟩ : ∃ w1, w.alloc (.cells #[.int .i64 3, .int .i64 0, .string ⟨#[]⟩, .slice none 0 0, .string ⟨#[]⟩, .slice none 0 0] 35) = w1 := ⟨_, rfl⟩
  have HW := hide hw
  rw [hw] at hb hN
  have hn1 : name.toList.isEmpty = false := by cases h : name.toList with | nil => exact absurd h hn | cons _ _ => rfl
  have H6 := hide (unique B d a w1 ⟨Kd.C_below ha.1 hb, ha.2⟩ (by omega))
  have HO := hide h
  have HNw := hide hNw
  have HL := hide (show l.length ≤ 100000000 by omega)
  have HL1 := hide hl
  have HB := hide hb
  have HN := hide hN
  clear h hNw hl hb hN hw ha hal hn
  obtain ⟨an, han⟩ : ∃ n, a.length = n := ⟨_, rfl⟩
  rw [han] at H6 ⊢
  clear han
  go_enter Try.func12, Try.ntmps12
  go_upto_region 2 with fail
  rw [HW.out]
  go_wp2_with (first | (go_at_call 40; (with_reducible refine H6.out.mono ?_); rintro e wU ⟨vA, rfl, hR, hB⟩; obtain ⟨Av, cv, rfl⟩ := Kd.R_slice hR; have hxU := (hB.block w.heap.size (blk_lt HN.out)).trans HN.out; have f1 := blk_frozen hxU 1; have f2 := blk_frozen hxU 2; have f3 := blk_frozen hxU 3; have q1 : wU.cell? ⟨w.heap.size, 1, none⟩ = some (.int .i64 0) := cell_of_row _ _ 1 _ _ _ hxU; have q2 : wU.cell? ⟨w.heap.size, 2, none⟩ = some (.string ⟨#[]⟩) := cell_of_row _ _ 2 _ _ _ hxU; have q3 : wU.cell? ⟨w.heap.size, 3, none⟩ = some (.slice none 0 0) := cell_of_row _ _ 3 _ _ _ hxU; have hx : (((wU.setCell ⟨w.heap.size, 1, none⟩ (.int .i64 2)).setCell ⟨w.heap.size, 2, none⟩ (.string name)).setCell ⟨w.heap.size, 3, none⟩ (.slice Av (moreL [] a).length cv)).heap[w.heap.size]? = some (.cells #[.int .i64 3, .int .i64 2, .string name, .slice Av (moreL [] a).length cv, .string ⟨#[]⟩, .slice none 0 0] 35 (0, 0)) := blk_set (blk_set (blk_set hxU 1 (.int .i64 2)) 2 (.string name)) 3 (.slice Av (moreL [] a).length cv); have hs : Below w.heap.size w (((wU.setCell ⟨w.heap.size, 1, none⟩ (.int .i64 2)).setCell ⟨w.heap.size, 2, none⟩ (.string name)).setCell ⟨w.heap.size, 3, none⟩ (.slice Av (moreL [] a).length cv)) := (((below_step HB.out hB).setCell (p := ⟨w.heap.size, 1, none⟩) (Nat.le_refl _) _).setCell (p := ⟨w.heap.size, 2, none⟩) (Nat.le_refl _) _).setCell (p := ⟨w.heap.size, 3, none⟩) (Nat.le_refl _) _; have hRx := Kd.R_lower (Kd.R_set (Kd.R_set (Kd.R_set hR hxU (by decide) 1 (.int .i64 2)) (blk_set hxU 1 (.int .i64 2)) (by decide) 2 (.string name)) (blk_set (blk_set hxU 1 (.int .i64 2)) 2 (.string name)) (by decide) 3 (.slice Av (moreL [] a).length cv)) (Nat.le_trans HNw.out HB.out.size); have H7 : Hid (Calls Try.prog 39 #[.pointer (some ⟨g, 0, none⟩), .agg #[.int .i64 3, .int .i64 2, .string name, .slice Av (moreL [] a).length cv, .string ⟨#[]⟩, .slice none 0 0]] (((wU.setCell ⟨w.heap.size, 1, none⟩ (.int .i64 2)).setCell ⟨w.heap.size, 2, none⟩ (.string name)).setCell ⟨w.heap.size, 3, none⟩ (.slice Av (moreL [] a).length cv)) fun e w' => e = .returned (.int .i64 (l.length : Int)) ∧ AS w' N g (l ++ [newN (elT 2 name a)]) q ∧ Fr N TA (((wU.setCell ⟨w.heap.size, 1, none⟩ (.int .i64 2)).setCell ⟨w.heap.size, 2, none⟩ (.string name)).setCell ⟨w.heap.size, 3, none⟩ (.slice Av (moreL [] a).length cv)) w') := hide (add (HO.out.below hs).as (Nat.le_trans HNw.out hs.size) (elT 2 name a) rfl hRx HL.out); have HF := hide (Fr.of_below (T := TA) hs HNw.out); have HX := hide hx; have x0 := cell_of_row _ _ 0 _ _ _ hx; have x1 := cell_of_row _ _ 1 _ _ _ hx; have x2 := cell_of_row _ _ 2 _ _ _ hx; have x3 := cell_of_row _ _ 3 _ _ _ hx; have x4 := cell_of_row _ _ 4 _ _ _ hx; have x5 := cell_of_row _ _ 5 _ _ _ hx; clear hR hB hxU hx hs hRx) | (go_at_call 39; (with_reducible refine H7.out.mono ?_); rintro e w' ⟨rfl, hA, hF⟩; have HA3 := hide hA; have HF3 := hide hF; clear hA hF))
  go_ret2
  exact ⟨rfl, HA3.out, HF.out.trans HF3.out⟩
set_option maxHeartbeats 4000000 in
set_option maxRecDepth 100000 in
theorem make_el {w : World} {N g gl cap : Nat} {l : List S72} {q : Bool} (h : AO w N g gl cap l q) (hNw : N ≤ w.heap.size) (name text : ByteArray) (hn : ¬ name.toList = []) (ht : ¬ name.toList = tplB) (B : Option Addr) (d : Nat) (a : List S62) (ha : Rds w B d a) (hal : a.length ≤ 100000) (hl : l.length ≤ 100000000 - 1) :
    Calls Try.prog 12 #[.pointer (some ⟨g, 0, none⟩), .int .i64 3, .int .i64 1, .string name, .slice B a.length d, .string text] w (PostM N g q w (l.length : Int) 0 (l ++ [newN (elT 1 name a)])) := by
  have hb := below_alloc (Below.refl w.heap.size w) (.cells #[.int .i64 3, .int .i64 0, .string ⟨#[]⟩, .slice none 0 0, .string ⟨#[]⟩, .slice none 0 0] 35)
  have hN := heap_alloc_new w (.cells #[.int .i64 3, .int .i64 0, .string ⟨#[]⟩, .slice none 0 0, .string ⟨#[]⟩, .slice none 0 0] 35)
  obtain ⟨w1, hw⟩ : ∃ w1, w.alloc (.cells #[.int .i64 3, .int .i64 0, .string ⟨#[]⟩, .slice none 0 0, .string ⟨#[]⟩, .slice none 0 0] 35) = w1 := ⟨_, rfl⟩
  have HW := hide hw
  rw [hw] at hb hN
  have hn1 : name.toList.isEmpty = false := by cases h : name.toList with | nil => exact absurd h hn | cons _ _ => rfl
  have H6 := hide (unique B d a w1 ⟨Kd.C_below ha.1 hb, ha.2⟩ (by omega))
  have HO := hide h
  have HNw := hide hNw
  have HL := hide (show l.length ≤ 100000000 by omega)
  have HL1 := hide hl
  have HB := hide hb
  have HN := hide hN
  clear h hNw hl hb hN hw ha hal hn
  obtain ⟨an, han⟩ : ∃ n, a.length = n := ⟨_, rfl⟩
  rw [han] at H6 ⊢
  clear han
  go_enter Try.func12, Try.ntmps12
  go_upto_region 2 with fail
  rw [HW.out]
  have ht2 : (name.toList == [116, 101, 109, 112, 108, 97, 116, 101]) = false := beq_eq_false_iff_ne.2 ht
  clear ht
  go_wp2_with (first | (go_at_call 40; (with_reducible refine H6.out.mono ?_); rintro e wU ⟨vA, rfl, hR, hB⟩; obtain ⟨Av, cv, rfl⟩ := Kd.R_slice hR; have hxU := (hB.block w.heap.size (blk_lt HN.out)).trans HN.out; have f1 := blk_frozen hxU 1; have f2 := blk_frozen hxU 2; have f3 := blk_frozen hxU 3; have q1 : wU.cell? ⟨w.heap.size, 1, none⟩ = some (.int .i64 0) := cell_of_row _ _ 1 _ _ _ hxU; have q2 : wU.cell? ⟨w.heap.size, 2, none⟩ = some (.string ⟨#[]⟩) := cell_of_row _ _ 2 _ _ _ hxU; have q3 : wU.cell? ⟨w.heap.size, 3, none⟩ = some (.slice none 0 0) := cell_of_row _ _ 3 _ _ _ hxU; have hx : (((wU.setCell ⟨w.heap.size, 1, none⟩ (.int .i64 1)).setCell ⟨w.heap.size, 2, none⟩ (.string name)).setCell ⟨w.heap.size, 3, none⟩ (.slice Av (moreL [] a).length cv)).heap[w.heap.size]? = some (.cells #[.int .i64 3, .int .i64 1, .string name, .slice Av (moreL [] a).length cv, .string ⟨#[]⟩, .slice none 0 0] 35 (0, 0)) := blk_set (blk_set (blk_set hxU 1 (.int .i64 1)) 2 (.string name)) 3 (.slice Av (moreL [] a).length cv); have hs : Below w.heap.size w (((wU.setCell ⟨w.heap.size, 1, none⟩ (.int .i64 1)).setCell ⟨w.heap.size, 2, none⟩ (.string name)).setCell ⟨w.heap.size, 3, none⟩ (.slice Av (moreL [] a).length cv)) := (((below_step HB.out hB).setCell (p := ⟨w.heap.size, 1, none⟩) (Nat.le_refl _) _).setCell (p := ⟨w.heap.size, 2, none⟩) (Nat.le_refl _) _).setCell (p := ⟨w.heap.size, 3, none⟩) (Nat.le_refl _) _; have hRx := Kd.R_lower (Kd.R_set (Kd.R_set (Kd.R_set hR hxU (by decide) 1 (.int .i64 1)) (blk_set hxU 1 (.int .i64 1)) (by decide) 2 (.string name)) (blk_set (blk_set hxU 1 (.int .i64 1)) 2 (.string name)) (by decide) 3 (.slice Av (moreL [] a).length cv)) (Nat.le_trans HNw.out HB.out.size); have H7 : Hid (Calls Try.prog 39 #[.pointer (some ⟨g, 0, none⟩), .agg #[.int .i64 3, .int .i64 1, .string name, .slice Av (moreL [] a).length cv, .string ⟨#[]⟩, .slice none 0 0]] (((wU.setCell ⟨w.heap.size, 1, none⟩ (.int .i64 1)).setCell ⟨w.heap.size, 2, none⟩ (.string name)).setCell ⟨w.heap.size, 3, none⟩ (.slice Av (moreL [] a).length cv)) fun e w' => e = .returned (.int .i64 (l.length : Int)) ∧ AS w' N g (l ++ [newN (elT 1 name a)]) q ∧ Fr N TA (((wU.setCell ⟨w.heap.size, 1, none⟩ (.int .i64 1)).setCell ⟨w.heap.size, 2, none⟩ (.string name)).setCell ⟨w.heap.size, 3, none⟩ (.slice Av (moreL [] a).length cv)) w') := hide (add (HO.out.below hs).as (Nat.le_trans HNw.out hs.size) (elT 1 name a) rfl hRx HL.out); have HF := hide (Fr.of_below (T := TA) hs HNw.out); have HX := hide hx; have x0 := cell_of_row _ _ 0 _ _ _ hx; have x1 := cell_of_row _ _ 1 _ _ _ hx; have x2 := cell_of_row _ _ 2 _ _ _ hx; have x3 := cell_of_row _ _ 3 _ _ _ hx; have x4 := cell_of_row _ _ 4 _ _ _ hx; have x5 := cell_of_row _ _ 5 _ _ _ hx; clear hR hB hxU hx hs hRx) | (go_at_call 39; (with_reducible refine H7.out.mono ?_); rintro e w' ⟨rfl, hA, hF⟩; have HA3 := hide hA; have HF3 := hide hF; clear hA hF))
  go_ret2
  exact ⟨rfl, HA3.out, HF.out.trans HF3.out⟩
theorem nd_app (l : List S72) (x y : S72) : nd ((l ++ [x]) ++ [y]) l.length = x := by
  simp [nd, List.getD_eq_getElem?_getD]
theorem tpl_ok (l : List S72) (x y : S72) (hx : x.f3 = -1) (v : Int) : LinkOk (((l ++ [x]) ++ [y]).set l.length (s6 x v)) l.length (l.length + 1) (-1) := by
  have hl : (((l ++ [x]) ++ [y]).set l.length (s6 x v)).length = l.length + 2 := by simp
  refine ⟨by omega, by omega, .inl rfl, .inl ?_⟩
  unfold bef
  rw [if_pos rfl, nd_set _ (by simp), if_pos rfl]
  exact hx
set_option maxHeartbeats 4000000 in
set_option maxRecDepth 100000 in
theorem make_tpl {w : World} {N g gl cap : Nat} {l : List S72} {q : Bool} (h : AO w N g gl cap l q) (hNw : N ≤ w.heap.size) (name text : ByteArray) (hn : ¬ name.toList = []) (ht : name.toList = tplB) (B : Option Addr) (d : Nat) (a : List S62) (ha : Rds w B d a) (hal : a.length ≤ 100000) (hl : l.length ≤ 100000000 - 1) :
    Calls Try.prog 12 #[.pointer (some ⟨g, 0, none⟩), .int .i64 3, .int .i64 1, .string name, .slice B a.length d, .string text] w (PostM N g q w (l.length : Int) 0 (tplL l (elT 1 name a))) := by
  have hb := below_alloc (Below.refl w.heap.size w) (.cells #[.int .i64 3, .int .i64 0, .string ⟨#[]⟩, .slice none 0 0, .string ⟨#[]⟩, .slice none 0 0] 35)
  have hN := heap_alloc_new w (.cells #[.int .i64 3, .int .i64 0, .string ⟨#[]⟩, .slice none 0 0, .string ⟨#[]⟩, .slice none 0 0] 35)
  obtain ⟨w1, hw⟩ : ∃ w1, w.alloc (.cells #[.int .i64 3, .int .i64 0, .string ⟨#[]⟩, .slice none 0 0, .string ⟨#[]⟩, .slice none 0 0] 35) = w1 := ⟨_, rfl⟩
  have HW := hide hw
  rw [hw] at hb hN
  have hn1 : name.toList.isEmpty = false := by cases h : name.toList with | nil => exact absurd h hn | cons _ _ => rfl
  obtain ⟨m, hm⟩ : ∃ m, l.length + 1 = m := ⟨_, rfl⟩
  have HM := hide hm
  have e : tplL l (elT 1 name a) = linkL (((l ++ [newN (elT 1 name a)]) ++ [newN cntT]).set l.length (s6 (newN (elT 1 name a)) (m : Int))) l.length m (-1) := by unfold tplL; rw [hm]
  rw [e]
  clear e hm
  have H6 := hide (unique B d a w1 ⟨Kd.C_below ha.1 hb, ha.2⟩ (by omega))
  have HO := hide h
  have HNw := hide hNw
  have HL := hide (show l.length ≤ 100000000 by omega)
  have HL1 := hide hl
  have HB := hide hb
  have HN := hide hN
  clear h hNw hl hb hN hw ha hal hn
  obtain ⟨an, han⟩ : ∃ n, a.length = n := ⟨_, rfl⟩
  rw [han] at H6 ⊢
  clear han
  go_enter Try.func12, Try.ntmps12
  go_upto_region 2 with fail
  rw [HW.out]
  have ht2 : (name.toList == [116, 101, 109, 112, 108, 97, 116, 101]) = true := beq_iff_eq.2 ht
  have hll : (l.length : Int) < ((l.length + 2 : Nat) : Int) := by omega
  clear ht
  go_wp2_with (first | (go_at_call 40; (with_reducible refine H6.out.mono ?_); rintro e wU ⟨vA, rfl, hR, hB⟩; obtain ⟨Av, cv, rfl⟩ := Kd.R_slice hR; have hxU := (hB.block w.heap.size (blk_lt HN.out)).trans HN.out; have f1 := blk_frozen hxU 1; have f2 := blk_frozen hxU 2; have f3 := blk_frozen hxU 3; have q1 : wU.cell? ⟨w.heap.size, 1, none⟩ = some (.int .i64 0) := cell_of_row _ _ 1 _ _ _ hxU; have q2 : wU.cell? ⟨w.heap.size, 2, none⟩ = some (.string ⟨#[]⟩) := cell_of_row _ _ 2 _ _ _ hxU; have q3 : wU.cell? ⟨w.heap.size, 3, none⟩ = some (.slice none 0 0) := cell_of_row _ _ 3 _ _ _ hxU; have hx : (((wU.setCell ⟨w.heap.size, 1, none⟩ (.int .i64 1)).setCell ⟨w.heap.size, 2, none⟩ (.string name)).setCell ⟨w.heap.size, 3, none⟩ (.slice Av (moreL [] a).length cv)).heap[w.heap.size]? = some (.cells #[.int .i64 3, .int .i64 1, .string name, .slice Av (moreL [] a).length cv, .string ⟨#[]⟩, .slice none 0 0] 35 (0, 0)) := blk_set (blk_set (blk_set hxU 1 (.int .i64 1)) 2 (.string name)) 3 (.slice Av (moreL [] a).length cv); have hs : Below w.heap.size w (((wU.setCell ⟨w.heap.size, 1, none⟩ (.int .i64 1)).setCell ⟨w.heap.size, 2, none⟩ (.string name)).setCell ⟨w.heap.size, 3, none⟩ (.slice Av (moreL [] a).length cv)) := (((below_step HB.out hB).setCell (p := ⟨w.heap.size, 1, none⟩) (Nat.le_refl _) _).setCell (p := ⟨w.heap.size, 2, none⟩) (Nat.le_refl _) _).setCell (p := ⟨w.heap.size, 3, none⟩) (Nat.le_refl _) _; have hRx := Kd.R_lower (Kd.R_set (Kd.R_set (Kd.R_set hR hxU (by decide) 1 (.int .i64 1)) (blk_set hxU 1 (.int .i64 1)) (by decide) 2 (.string name)) (blk_set (blk_set hxU 1 (.int .i64 1)) 2 (.string name)) (by decide) 3 (.slice Av (moreL [] a).length cv)) (Nat.le_trans HNw.out HB.out.size); have H7 : Hid (Calls Try.prog 39 #[.pointer (some ⟨g, 0, none⟩), .agg #[.int .i64 3, .int .i64 1, .string name, .slice Av (moreL [] a).length cv, .string ⟨#[]⟩, .slice none 0 0]] (((wU.setCell ⟨w.heap.size, 1, none⟩ (.int .i64 1)).setCell ⟨w.heap.size, 2, none⟩ (.string name)).setCell ⟨w.heap.size, 3, none⟩ (.slice Av (moreL [] a).length cv)) fun e w' => e = .returned (.int .i64 (l.length : Int)) ∧ AS w' N g (l ++ [newN (elT 1 name a)]) q ∧ Fr N TA (((wU.setCell ⟨w.heap.size, 1, none⟩ (.int .i64 1)).setCell ⟨w.heap.size, 2, none⟩ (.string name)).setCell ⟨w.heap.size, 3, none⟩ (.slice Av (moreL [] a).length cv)) w') := hide (add (HO.out.below hs).as (Nat.le_trans HNw.out hs.size) (elT 1 name a) rfl hRx HL.out); have HF := hide (Fr.of_below (T := TA) hs HNw.out); have HX := hide hx; have x0 := cell_of_row _ _ 0 _ _ _ hx; have x1 := cell_of_row _ _ 1 _ _ _ hx; have x2 := cell_of_row _ _ 2 _ _ _ hx; have x3 := cell_of_row _ _ 3 _ _ _ hx; have x4 := cell_of_row _ _ 4 _ _ _ hx; have x5 := cell_of_row _ _ 5 _ _ _ hx; clear hR hB hxU hx hs hRx) | (go_at_call 39; (with_reducible refine H7.out.mono ?_); rintro e w2 ⟨rfl, hA, hF⟩; have HF3 := hide (HF.out.trans hF); have H8 : Hid (Calls Try.prog 39 #[.pointer (some ⟨g, 0, none⟩), .agg #[.int .i64 6, .int .i64 0, .string ⟨#[]⟩, .slice none 0 0, .string ⟨#[]⟩, .slice none 0 0]] w2 fun e w' => e = .returned (.int .i64 (m : Int)) ∧ AS w' N g ((l ++ [newN (elT 1 name a)]) ++ [newN cntT]) q ∧ Fr N TA w2 w') := hide (by have hx := add hA (Nat.le_trans HNw.out HF3.out.size) cntT rfl (v3 := .slice none 0 0) (ok := fun _ => True) (Kd.R_nil _ _ _ _ _) (by have := HL1.out; simp; omega); rw [List.length_append, show [newN (elT 1 name a)].length = 1 from rfl, HM.out] at hx; exact hx); clear hA hF) | (go_at_call 39; (with_reducible refine H8.out.mono ?_); rintro e w3 ⟨rfl, hA, hF⟩; have HF4 := hide (HF3.out.trans hF); obtain ⟨gl2, cap2, h3⟩ := hA.open_ (by simp); have y0 := h3.c0; rw [show ((l ++ [newN (elT 1 name a)]) ++ [newN cntT]).length = l.length + 2 from by simp] at y0; obtain ⟨_, _, hNd, _, _⟩ := h3.elem l.length (by simp); have y11 := hNd.c11; have z11 := h3.fz (l.length * 12 + 11); have hs6 := h3.s6 l.length (by simp) (m : Int); rw [nd_app] at hs6; have HF5 := hide (h3.frS HF4.out (l.length * 12 + 11) (.int .i64 (m : Int))); have hlk := tpl_ok l (newN (elT 1 name a)) (newN cntT) rfl (m : Int); rw [HM.out] at hlk; have H9 := hide (link hs6 l.length m (-1) hlk.1 hlk.2.1 hlk.2.2.1 hlk.2.2.2); clear hA hF h3 hNd hs6 hlk) | (go_at_call 41; (with_reducible refine H9.out.mono ?_); rintro e w' ⟨rfl, hA, hF⟩; have HA9 := hide hA; have HF9 := hide (HF5.out.trans hF); clear hA hF))
  go_ret2
  exact ⟨rfl, HA9.out.as, HF9.out⟩
theorem make {w : World} {N g gl cap : Nat} {l : List S72} {q : Bool} (h : AO w N g gl cap l q) (hNw : N ≤ w.heap.size) (kind ns : Int) (name text : ByteArray) (B : Option Addr) (d : Nat) (a : List S62) (ha : Rds w B d a) (hal : a.length ≤ 100000) (hl : l.length ≤ 100000000 - 1) :
    Calls Try.prog 12 #[.pointer (some ⟨g, 0, none⟩), .int .i64 kind, .int .i64 ns, .string name, .slice B a.length d, .string text] w (PostM N g q w (makeL l kind ns name a text).1 (makeL l kind ns name a text).2.1 (makeL l kind ns name a text).2.2) := by
  unfold makeL
  by_cases h3 : kind = 3
  · subst h3
    rw [if_pos rfl]
    by_cases h4 : (ns = 1 ∨ ns = 2) ∧ name.toList ≠ []
    · rw [if_pos h4]
      by_cases h5 : ns = 1 ∧ name.toList = tplB
      · rw [if_pos h5]
        obtain ⟨rfl, h6⟩ := h5
        exact make_tpl h hNw name text h4.2 h6 B d a ha hal hl
      · rw [if_neg h5]
        rcases h4.1 with rfl | rfl
        · exact make_el h hNw name text h4.2 (fun e => h5 ⟨rfl, e⟩) B d a ha hal hl
        · exact make_svg h hNw name text h4.2 B d a ha hal hl
    · rw [if_neg h4]
      exact make_form h hNw ns name text h4 _
  · rw [if_neg h3]
    by_cases h4 : kind = 2 ∨ kind = 4 ∨ kind = 5
    · rw [if_pos h4]
      rcases h4 with rfl | rfl | rfl
      · exact make_doc h hNw ns name text (by omega) _
      · exact make_text4 h hNw ns name text (by omega) _
      · exact make_text5 h hNw ns name text (by omega) _
    · rw [if_neg h4]
      exact make_kind h hNw kind ns name text (by omega) _

end Go.Proofs.Ytjebpaapkmbahaa.Ar

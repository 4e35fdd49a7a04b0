/- The walk of arbourlaw7.same: true for lists of twenty attributes or less. -/
import Derived.Test.YtgjnopabdipleaaAttrsKnown
import Derived.Test.YtgjnopabdipleaaAttrsForeignWalk
import Derived.Test.YtgjnopabdipleaaAttrsAlike
namespace Go.Proofs.Ytgjnopabdipleaa.Attrs
open Go.RowKit Go.Proofs.Ytgjnopabdipleaa.PAttrsTells Go.Proofs.YtgjnopabdipleaaW.PrintWords Go.Proofs.YtgjnopabdipleaaW.PrintLast

theorem rds_b {w w1 : World} {A : Option Addr} {c : Nat} {xs : List S29} (h : Rds w A c xs) (hb : Below w.heap.size w w1) : Rds w1 A c xs := ⟨Kd.C_below h.1 hb, h.2⟩
def Out (zs : List S29) (w : World) (e : Ending) (w' : World) : Prop := ∃ (A : Option Addr) (c : Nat), e = .returned (.slice A zs.length c) ∧ Rds w' A c zs ∧ Below w.heap.size w w'
theorem out_of {zs : List S29} {w w' : World} {e : Ending} (h : RowPost zs w e w') : Out zs w e w' := by
  obtain ⟨v, rfl, hR, hb⟩ := h
  obtain ⟨A, c, rfl, hl, hC⟩ := Kd.R_reads hR
  exact ⟨A, c, rfl, ⟨hC, hl⟩, hb⟩
def Tells (b : Bool) (w : World) (e : Ending) (w' : World) : Prop := e = .returned (.bool b) ∧ Below w.heap.size w w'
theorem keepTrue (A B : Option Addr) (c d : Nat) (zs : List S29) (w : World) (h1 : Rds w A c zs) (h2 : Rds w B d zs) (hl : zs.length ≤ 1000) : Calls Try.prog 23 #[.slice A zs.length c, .slice B zs.length d] w (Tells true w) := by
  refine (arbourkeep_Attrs.calls 2000 A c zs B d zs true w h1.1 h1.2 h2.1 h2.2 (by rw [keepAttrs_some _ _ (by omega) 2000 (by omega), eqAll_refl])).mono ?_
  rintro e w3 ⟨rfl, ⟨nd, rfl⟩⟩
  exact ⟨rfl, pw_below_drewN (Below.refl _ _) nd⟩
theorem stepS {W W' w0 : World} {g : Nat} {a b : ByteArray} {A B : Option Addr} {c d : Nat} {xs ys : List S29} {n : Nat} (h1 : W.cell? ⟨g, 0, none⟩ = some (.string a)) (h2 : W.cell? ⟨g, 1, none⟩ = some (.string b)) (h3 : Rds W A c xs) (h4 : Rds W B d ys) (h5 : Below n w0 W) (hn : n ≤ W.heap.size) (hb : Below W.heap.size W W') :
    W'.cell? ⟨g, 0, none⟩ = some (.string a) ∧ W'.cell? ⟨g, 1, none⟩ = some (.string b) ∧ Rds W' A c xs ∧ Rds W' B d ys ∧ Below n w0 W' ∧ n ≤ W'.heap.size := by
  have hg := World.block_lt_of_cell? _ _ h1
  refine ⟨(hb.cell (p := ⟨g, 0, none⟩) hg).trans h1, (hb.cell (p := ⟨g, 1, none⟩) hg).trans h2, rds_b h3 hb, rds_b h4 hb, ?_, Nat.le_trans hn hb.size⟩
  exact h5.trans (hb.mono hn)

set_option maxHeartbeats 4000000 in
set_option maxRecDepth 100000 in
theorem same (A : Option Addr) (c : Nat) (xs : List S29) (B : Option Addr) (d : Nat) (ys : List S29) (a b : ByteArray) (w : World) (h : Rds w A c xs) (hy : Rds w B d ys) (hx : xs.length ≤ 20) (hyl : ys.length ≤ 20) :
    Calls Try.prog 16 #[.slice A xs.length c, .slice B ys.length d, .agg #[.string a, .string b]] w (Tells true w) := by
  have C10 : ∀ W, Rds W A c xs → Calls Try.prog 10 #[.slice A xs.length c, .string a] W fun e w' => e = .returned (.tuple #[.string (getV xs a), .bool (decide (0 ≤ fnd xs a))]) ∧ Below W.heap.size W w' := fun W hW => get A c xs a W hW
  have C25 : ∀ W, Rds W A c xs → Calls Try.prog 25 #[.slice A xs.length c, .string a] W fun e w' => e = .returned (.int .i64 (fnd xs a)) ∧ Below W.heap.size W w' := by
    intro W hW
    refine (arbourref7_Has.calls 2000 A c xs a _ W hW.1 hW.2 (has_some _ _ (by omega) 2000 (by omega))).mono ?_
    rintro e w3 ⟨rfl, ⟨nd, rfl⟩⟩
    exact ⟨rfl, pw_below_drewN (Below.refl _ _) nd⟩
  have C26 : ∀ W, Rds W A c xs → Calls Try.prog 26 #[.slice A xs.length c, .agg #[.string a, .string b]] W (Out (addL xs ⟨a, b⟩) W) := fun W hW => (add A c xs a b W hW (by omega)).mono (fun _ _ => out_of)
  have C27 : ∀ W, Rds W A c xs → Calls Try.prog 27 #[.slice A xs.length c, .agg #[.string a, .string b]] W (Out (addL xs ⟨a, b⟩) W) := by
    intro W hW
    exact (arbourref7_Add.calls 2000 A c xs a b _ W hW.1 hW.2 (add_some _ _ _ (by omega) 2000 (by omega))).mono (fun _ _ h => out_of h)
  have C11 : ∀ W, Rds W A c xs → Calls Try.prog 11 #[.slice A xs.length c] W (Out (moreL [] xs) W) := fun W hW => (unique A c xs W hW (by omega)).mono (fun _ _ => out_of)
  have C28 : ∀ W, Rds W A c xs → Calls Try.prog 28 #[.slice A xs.length c] W (Out (moreL [] xs) W) := by
    intro W hW
    exact (arbourref7_Unique.calls 2000 A c xs _ W hW.1 hW.2 (unique_some _ (by omega) 2000 (by omega))).mono (fun _ _ h => out_of h)
  have C8 : ∀ W, Rds W A c xs → Rds W B d ys → Calls Try.prog 8 #[.slice A xs.length c, .slice B ys.length d] W (Out (moreL xs ys) W) := fun W hW hV => (more A B c d xs ys W hW hV (by omega)).mono (fun _ _ => out_of)
  have C29 : ∀ W, Rds W A c xs → Rds W B d ys → Calls Try.prog 29 #[.slice A xs.length c, .slice B ys.length d] W (Out (moreL xs ys) W) := by
    intro W hW hV
    exact (arbourref7_More.calls 2000 A c xs B d ys _ W hW.1 hW.2 hV.1 hV.2 (more_some _ _ (by omega) 2000 (by omega))).mono (fun _ _ h => out_of h)
  have C9 : ∀ W, Rds W A c xs → Rds W B d ys → Calls Try.prog 9 #[.slice A xs.length c, .slice B ys.length d] W (Tells (eqAll xs ys) W) := by
    intro W hW hV
    refine (attrs_Same.calls 2000 A c xs B d ys _ W hW.1 hW.2 hV.1 hV.2 (attrsSame_some _ _ (by omega) 2000 (by omega))).mono ?_
    rintro e w3 ⟨rfl, ⟨nd, rfl⟩⟩
    exact ⟨rfl, pw_below_drewN (Below.refl _ _) nd⟩
  have C30 : ∀ W, Rds W A c xs → Rds W B d ys → Calls Try.prog 30 #[.slice A xs.length c, .slice B ys.length d] W (Tells (eqAll xs ys) W) := by
    intro W hW hV
    refine (arbourref7_Same.calls 2000 A c xs B d ys _ W hW.1 hW.2 hV.1 hV.2 (arbourref7_Same_some _ _ (by omega) 2000 (by omega))).mono ?_
    rintro e w3 ⟨rfl, ⟨nd, rfl⟩⟩
    exact ⟨rfl, pw_below_drewN (Below.refl _ _) nd⟩
  have C14 : ∀ W, Rds W A c xs → Rds W B d ys → Calls Try.prog 14 #[.slice A xs.length c, .slice B ys.length d] W (Tells (alikeL xs ys) W) := fun W hW hV => alike A B c d xs ys W hW hV (by omega) (by omega)
  have C31 : ∀ W, Rds W A c xs → Rds W B d ys → Calls Try.prog 31 #[.slice A xs.length c, .slice B ys.length d] W (Tells (alikeL xs ys) W) := by
    intro W hW hV
    exact (arbourref7_Alike.calls 500001 A c xs B d ys _ W hW.1 hW.2 hV.1 hV.2 (alike_some _ _ (by omega) (by omega) 500001 (by omega))).mono (fun _ _ h => h)
  have C15 : ∀ W, Rds W A c xs → Calls Try.prog 15 #[.slice A xs.length c] W (Out (foreignL xs) W) := fun W hW => (foreign A c xs W hW (by omega)).mono (fun _ _ => out_of)
  have C32 : ∀ W, Rds W A c xs → Calls Try.prog 32 #[.slice A xs.length c] W (Out (foreignL xs) W) := by
    intro W hW
    exact (arbourref7_Foreign.calls 2000 A c xs _ W hW.1 hW.2 (foreign_some _ (by omega) 2000 (by omega))).mono (fun _ _ h => out_of h)
  have la := addL_len xs ⟨a, b⟩
  have lu := moreL_len [] xs
  have lm := moreL_len xs ys
  have lf : (foreignL xs).length = xs.length := by unfold foreignL; rw [List.length_map]
  rw [List.length_nil, Nat.zero_add] at lu
  obtain ⟨za, hza⟩ : ∃ z, addL xs ⟨a, b⟩ = z := ⟨_, rfl⟩
  obtain ⟨zu, hzu⟩ : ∃ z, moreL [] xs = z := ⟨_, rfl⟩
  obtain ⟨zm, hzm⟩ : ∃ z, moreL xs ys = z := ⟨_, rfl⟩
  obtain ⟨zf, hzf⟩ : ∃ z, foreignL xs = z := ⟨_, rfl⟩
  obtain ⟨re, hre⟩ : ∃ z, eqAll xs ys = z := ⟨_, rfl⟩
  obtain ⟨rk, hrk⟩ : ∃ z, alikeL xs ys = z := ⟨_, rfl⟩
  rw [hza] at la C26 C27
  rw [hzu] at lu C11 C28
  rw [hzm] at lm C8 C29
  rw [hzf] at lf C15 C32
  rw [hre] at C9 C30
  rw [hrk] at C14 C31
  have la' : za.length ≤ 1000 := by omega
  have lu' : zu.length ≤ 1000 := by omega
  have lm' : zm.length ≤ 1000 := by omega
  have lf' : zf.length ≤ 1000 := by omega
  clear hza hzu hzm hzf hre hrk la lu lm lf
  have hf := fnd_lt xs a
  obtain ⟨t, ht⟩ : ∃ t, getV xs a = t := ⟨_, rfl⟩
  have hg := ht
  rw [ht] at C10
  unfold getV at hg
  obtain ⟨q, hq⟩ : ∃ q, fnd xs a = q := ⟨_, rfl⟩
  rw [hq] at C10 C25 hf hg
  clear hq ht
  have hb0 : Below w.heap.size w (w.alloc (.cells #[.string a, .string b] 29)) := below_alloc (Below.refl _ _) _
  have hx0 : (w.alloc (.cells #[.string a, .string b] 29)).cell? ⟨w.heap.size, 0, none⟩ = some (.string a) := by rw [cell_of_row _ _ 0 _ 29 (0, 0) (heap_alloc_new _ _)]; rfl
  have hx1 : (w.alloc (.cells #[.string a, .string b] 29)).cell? ⟨w.heap.size, 1, none⟩ = some (.string b) := by rw [cell_of_row _ _ 1 _ 29 (0, 0) (heap_alloc_new _ _)]; rfl
  have S1 := hide (stepS hx0 hx1 (rds_b h hb0) (rds_b hy hb0) hb0 hb0.size (Below.refl _ _))
  clear hx0 hx1 hb0
  clear h hy
  go_enter Try.func16, Try.ntmps16
  go_wp2_with fail
  refine (C10 _ S1.out.2.2.1).mono ?_
  rintro e w2 ⟨rfl, hb⟩
  have S2 := hide (stepS S1.out.1 S1.out.2.1 S1.out.2.2.1 S1.out.2.2.2.1 S1.out.2.2.2.2.1 S1.out.2.2.2.2.2 hb)
  clear hb S1
  have hx0 := S2.out.1
  dsimp only
  go_wp2_with fail
  refine (C25 _ S2.out.2.2.1).mono ?_
  rintro e w3 ⟨rfl, hb⟩
  have S3 := hide (stepS S2.out.1 S2.out.2.1 S2.out.2.2.1 S2.out.2.2.2.1 S2.out.2.2.2.2.1 S2.out.2.2.2.2.2 hb)
  clear hb S2 hx0 C10 C25
  dsimp only
  by_cases h0 : 0 ≤ q
  · rw [if_neg (by omega)] at hg
    rw [decide_eq_true h0]
    have hql : q < (xs.length : Int) := by omega
    obtain ⟨ad1, hA1, _, hc1⟩ := at_T29 S3.out.2.2.1.1 q h0 hql
    subst hA1
    unfold rd_T29 at hc1
    rw [hg] at hc1
    have h00 := eq_true h0
    have hd0 : decide (0 ≤ q) = true := decide_eq_true h0
    clear hg hf h0
    go_wp2_with fail
    clear hc1
    have hI := stepS S3.out.1 S3.out.2.1 S3.out.2.2.1 S3.out.2.2.2.1 S3.out.2.2.2.2.1 S3.out.2.2.2.2.2 ((Below.refl _ w3).drew)
    go_region_held3 (fun w' => w'.cell? ⟨w.heap.size, 0, none⟩ = some (.string a) ∧ w'.cell? ⟨w.heap.size, 1, none⟩ = some (.string b) ∧ Rds w' (some ad1) c xs ∧ Rds w' B d ys ∧ Below w.heap.size w w' ∧ w.heap.size ≤ w'.heap.size)
      (first | exact hI | ((try go_split_ands); exact stepS (by assumption) (by assumption) (by assumption) (by assumption) (by assumption) (by assumption) b32) | ((try go_split_ands); exact stepS (by assumption) (by assumption) (by assumption) (by assumption) (by assumption) (by assumption) b15) | ((try go_split_ands); exact stepS (by assumption) (by assumption) (by assumption) (by assumption) (by assumption) (by assumption) b31) | ((try go_split_ands); exact stepS (by assumption) (by assumption) (by assumption) (by assumption) (by assumption) (by assumption) b14) | ((try go_split_ands); exact stepS (by assumption) (by assumption) (by assumption) (by assumption) (by assumption) (by assumption) b30) | ((try go_split_ands); exact stepS (by assumption) (by assumption) (by assumption) (by assumption) (by assumption) (by assumption) b9) | ((try go_split_ands); exact stepS (by assumption) (by assumption) (by assumption) (by assumption) (by assumption) (by assumption) b29) | ((try go_split_ands); exact stepS (by assumption) (by assumption) (by assumption) (by assumption) (by assumption) (by assumption) b8) | ((try go_split_ands); exact stepS (by assumption) (by assumption) (by assumption) (by assumption) (by assumption) (by assumption) b28) | ((try go_split_ands); exact stepS (by assumption) (by assumption) (by assumption) (by assumption) (by assumption) (by assumption) b11) | ((try go_split_ands); exact stepS (by assumption) (by assumption) (by assumption) (by assumption) (by assumption) (by assumption) b23) | ((try go_split_ands); exact stepS (by assumption) (by assumption) (by assumption) (by assumption) (by assumption) (by assumption) b27) | ((try go_split_ands); exact stepS (by assumption) (by assumption) (by assumption) (by assumption) (by assumption) (by assumption) b26) | go_keep)
      (first | (go_at_call 26; (try go_split_ands); refine (C26 _ (by assumption)).mono ?_; rintro e wn26 ⟨A26, c26, rfl, r26, b26⟩) | (go_at_call 27; (try go_split_ands); refine (C27 _ (by assumption)).mono ?_; rintro e wn27 ⟨A27, c27, rfl, r27, b27⟩; have r26b := rds_b r26 b27) | (go_at_call 11; (try go_split_ands); refine (C11 _ (by assumption)).mono ?_; rintro e wn11 ⟨A11, c11, rfl, r11, b11⟩) | (go_at_call 28; (try go_split_ands); refine (C28 _ (by assumption)).mono ?_; rintro e wn28 ⟨A28, c28, rfl, r28, b28⟩; have r11b := rds_b r11 b28) | (go_at_call 8; (try go_split_ands); refine (C8 _ (by assumption) (by assumption)).mono ?_; rintro e wn8 ⟨A8, c8, rfl, r8, b8⟩) | (go_at_call 29; (try go_split_ands); refine (C29 _ (by assumption) (by assumption)).mono ?_; rintro e wn29 ⟨A29, c29, rfl, r29, b29⟩; have r8b := rds_b r8 b29) | (go_at_call 15; (try go_split_ands); refine (C15 _ (by assumption)).mono ?_; rintro e wn15 ⟨A15, c15, rfl, r15, b15⟩) | (go_at_call 32; (try go_split_ands); refine (C32 _ (by assumption)).mono ?_; rintro e wn32 ⟨A32, c32, rfl, r32, b32⟩; have r15b := rds_b r15 b32) | (go_at_call 9; (try go_split_ands); refine (C9 _ (by assumption) (by assumption)).mono ?_; rintro e wn9 ⟨rfl, b9⟩) | (go_at_call 30; (try go_split_ands); refine (C30 _ (by assumption) (by assumption)).mono ?_; rintro e wn30 ⟨rfl, b30⟩) | (go_at_call 14; (try go_split_ands); refine (C14 _ (by assumption) (by assumption)).mono ?_; rintro e wn14 ⟨rfl, b14⟩) | (go_at_call 31; (try go_split_ands); refine (C31 _ (by assumption) (by assumption)).mono ?_; rintro e wn31 ⟨rfl, b31⟩) | (go_at_call 23; refine (keepTrue _ _ _ _ _ _ (by assumption) (by assumption) (by assumption)).mono ?_; rintro e wn23 ⟨rfl, b23⟩))
    all_goals (go_wp2_with fail; go_ret; (try go_split_ands); exact ⟨rfl, by assumption⟩)
  · rw [if_pos (by omega)] at hg
    rw [decide_eq_false h0]
    have h00 := eq_false h0
    have hd0 : decide (0 ≤ q) = false := decide_eq_false h0
    clear hf h0
    go_wp2_with fail
    have hI := stepS S3.out.1 S3.out.2.1 S3.out.2.2.1 S3.out.2.2.2.1 S3.out.2.2.2.2.1 S3.out.2.2.2.2.2 ((Below.refl _ w3).drew)
    go_region_held3 (fun w' => w'.cell? ⟨w.heap.size, 0, none⟩ = some (.string a) ∧ w'.cell? ⟨w.heap.size, 1, none⟩ = some (.string b) ∧ Rds w' A c xs ∧ Rds w' B d ys ∧ Below w.heap.size w w' ∧ w.heap.size ≤ w'.heap.size)
      (first | exact hI | ((try go_split_ands); exact stepS (by assumption) (by assumption) (by assumption) (by assumption) (by assumption) (by assumption) b32) | ((try go_split_ands); exact stepS (by assumption) (by assumption) (by assumption) (by assumption) (by assumption) (by assumption) b15) | ((try go_split_ands); exact stepS (by assumption) (by assumption) (by assumption) (by assumption) (by assumption) (by assumption) b31) | ((try go_split_ands); exact stepS (by assumption) (by assumption) (by assumption) (by assumption) (by assumption) (by assumption) b14) | ((try go_split_ands); exact stepS (by assumption) (by assumption) (by assumption) (by assumption) (by assumption) (by assumption) b30) | ((try go_split_ands); exact stepS (by assumption) (by assumption) (by assumption) (by assumption) (by assumption) (by assumption) b9) | ((try go_split_ands); exact stepS (by assumption) (by assumption) (by assumption) (by assumption) (by assumption) (by assumption) b29) | ((try go_split_ands); exact stepS (by assumption) (by assumption) (by assumption) (by assumption) (by assumption) (by assumption) b8) | ((try go_split_ands); exact stepS (by assumption) (by assumption) (by assumption) (by assumption) (by assumption) (by assumption) b28) | ((try go_split_ands); exact stepS (by assumption) (by assumption) (by assumption) (by assumption) (by assumption) (by assumption) b11) | ((try go_split_ands); exact stepS (by assumption) (by assumption) (by assumption) (by assumption) (by assumption) (by assumption) b23) | ((try go_split_ands); exact stepS (by assumption) (by assumption) (by assumption) (by assumption) (by assumption) (by assumption) b27) | ((try go_split_ands); exact stepS (by assumption) (by assumption) (by assumption) (by assumption) (by assumption) (by assumption) b26) | go_keep)
      (first | (go_at_call 26; (try go_split_ands); refine (C26 _ (by assumption)).mono ?_; rintro e wn26 ⟨A26, c26, rfl, r26, b26⟩) | (go_at_call 27; (try go_split_ands); refine (C27 _ (by assumption)).mono ?_; rintro e wn27 ⟨A27, c27, rfl, r27, b27⟩; have r26b := rds_b r26 b27) | (go_at_call 11; (try go_split_ands); refine (C11 _ (by assumption)).mono ?_; rintro e wn11 ⟨A11, c11, rfl, r11, b11⟩) | (go_at_call 28; (try go_split_ands); refine (C28 _ (by assumption)).mono ?_; rintro e wn28 ⟨A28, c28, rfl, r28, b28⟩; have r11b := rds_b r11 b28) | (go_at_call 8; (try go_split_ands); refine (C8 _ (by assumption) (by assumption)).mono ?_; rintro e wn8 ⟨A8, c8, rfl, r8, b8⟩) | (go_at_call 29; (try go_split_ands); refine (C29 _ (by assumption) (by assumption)).mono ?_; rintro e wn29 ⟨A29, c29, rfl, r29, b29⟩; have r8b := rds_b r8 b29) | (go_at_call 15; (try go_split_ands); refine (C15 _ (by assumption)).mono ?_; rintro e wn15 ⟨A15, c15, rfl, r15, b15⟩) | (go_at_call 32; (try go_split_ands); refine (C32 _ (by assumption)).mono ?_; rintro e wn32 ⟨A32, c32, rfl, r32, b32⟩; have r15b := rds_b r15 b32) | (go_at_call 9; (try go_split_ands); refine (C9 _ (by assumption) (by assumption)).mono ?_; rintro e wn9 ⟨rfl, b9⟩) | (go_at_call 30; (try go_split_ands); refine (C30 _ (by assumption) (by assumption)).mono ?_; rintro e wn30 ⟨rfl, b30⟩) | (go_at_call 14; (try go_split_ands); refine (C14 _ (by assumption) (by assumption)).mono ?_; rintro e wn14 ⟨rfl, b14⟩) | (go_at_call 31; (try go_split_ands); refine (C31 _ (by assumption) (by assumption)).mono ?_; rintro e wn31 ⟨rfl, b31⟩) | (go_at_call 23; refine (keepTrue _ _ _ _ _ _ (by assumption) (by assumption) (by assumption)).mono ?_; rintro e wn23 ⟨rfl, b23⟩))
    all_goals (go_wp2_with fail; go_ret; (try go_split_ands); exact ⟨rfl, by assumption⟩)
end Go.Proofs.Ytgjnopabdipleaa.Attrs

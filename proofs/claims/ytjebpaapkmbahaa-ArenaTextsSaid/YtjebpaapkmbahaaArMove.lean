/- The arena's Move and Node. -/
import Derived.Test.YtjebpaapkmbahaaArMake
namespace Go.Proofs.Ytjebpaapkmbahaa.Ar
open Go.RowKit Go.Proofs.Ytjebpaapkmbahaa.PArenaPlays Go.Proofs.YtjebpaapkmbahaaW.PrintWords Go.Proofs.YtjebpaapkmbahaaW.PrintLast
set_option linter.unusedVariables false
set_option linter.unusedSimpArgs false
/-- One kid is moved. -/
def move1 (dst : Nat) (l : List S72) (n : Nat) : List S72 := if kd l n = 6 then l else linkL (cutL l n) dst n (-1)
def moveF (dst : Nat) (l : List S72) (ks : List Nat) : List S72 := ks.foldl (move1 dst) l
def moveL (l : List S72) (p n : Int) : Int × List S72 :=
  if inR l p ∧ inR l n then
    (if holdK (kd l p.toNat) && holdK (kd l n.toNat) then
      (if (ups l n.toNat).contains p.toNat then (26, l) else (0, moveF n.toNat l (kidsL l p.toNat)))
    else (23, l))
  else (22, l)
/-- Each step of a move may be done. -/
def MoveOk (dst : Nat) (l : List S72) (ks : List Nat) : Prop := ∀ (a : List Nat) (n : Nat) (b : List Nat), ks = a ++ n :: b → n < (moveF dst l a).length ∧ (kd (moveF dst l a) n ≠ 6 → CutOk (moveF dst l a) n ∧ LinkOk (cutL (moveF dst l a) n) dst n (-1))
theorem move1_len (dst : Nat) (l : List S72) (n : Nat) : (move1 dst l n).length = l.length := by
  unfold move1
  split
  · rfl
  · rw [linkL_len, cutL_len]
theorem moveF_len (dst : Nat) (ks : List Nat) : ∀ l : List S72, (moveF dst l ks).length = l.length := by
  induction ks with
  | nil => intro l; rfl
  | cons n ks ih => intro l; show (moveF dst (move1 dst l n) ks).length = l.length; rw [ih, move1_len]
theorem moveF_snoc (dst : Nat) (l : List S72) (a : List Nat) (n : Nat) : moveF dst l (a ++ [n]) = move1 dst (moveF dst l a) n := by
  unfold moveF
  rw [List.foldl_append, List.foldl_cons, List.foldl_nil]
theorem cut_op {w : World} {N g gl cap : Nat} {l : List S72} {q : Bool} (h : AO w N g gl cap l q) (hNw : N ≤ w.heap.size) (n : Nat) (hc : CutOk l n) :
    Calls Try.prog 62 #[.pointer (some ⟨g, 0, none⟩), .int .i64 (n : Int)] w fun e w' => e = .returned (.tuple #[]) ∧ AO w' N g gl cap (cutL l n) q ∧ Fr N TA w w' := by
  rcases hc.2 with h3 | ⟨u, h3, h4, h5, h6, h7, h8⟩
  · have e : cutL l n = l := by unfold cutL; rw [if_pos h3]
    rw [e]
    exact (cut_no h n hc.1 h3).mono fun e w' ⟨h1, h2⟩ => by subst h2; exact ⟨h1, h, Fr.refl _ _ _⟩
  · exact cut h hNw n u hc.1 h3 h4 h5 h6 h7 h8
theorem kept_kids {N base : Nat} {w w' : World} {v : Value} {xs : List Int} (h : kI.R 3 w base (fun _ => True) v xs) (hf : Fr N TA w w') : kI.R 3 w' base (fun _ => True) v xs :=
  hf.R h (fun t ht => by
    have hE : ∀ q, q ∈ 3 :: kI.E → q ∈ [3] := by decide
    have e : t = 3 := by simpa using hE t ht
    subst e
    rintro (h | h) <;> exact absurd h (by decide))
theorem move_none {w : World} {N g gl cap : Nat} {l : List S72} {q : Bool} (h : AO w N g gl cap l q) (hNw : N ≤ w.heap.size) (p n : Int) (hpn : ¬ (inR l p ∧ inR l n)) :
    Calls Try.prog 32 #[.pointer (some ⟨g, 0, none⟩), .int .i64 p, .int .i64 n] w (Post N g q w 22 l) := by
  have HO := hide h
  by_cases hp : inR l p
  · obtain ⟨k, rfl, hk⟩ := toN hp
    have hn : ¬ inR l n := fun hn => hpn ⟨hp, hn⟩
    have H1 := hide (is_yes h k hk)
    have H2 := hide (is_no h n hn)
    clear h hp hn hk hpn
    go_enter Try.func32, Try.ntmps32
    go_wp2_with (first | (go_at_call 42; (with_reducible refine H1.out.mono ?_); rintro e w' ⟨rfl, rfl⟩) | (go_at_call 42; (with_reducible refine H2.out.mono ?_); rintro e w' ⟨rfl, rfl⟩))
    go_ret
    exact Post.same HO.out 22
  · have H1 := hide (is_no h p hp)
    clear h hp hpn
    go_enter Try.func32, Try.ntmps32
    go_wp2_with (first | (go_at_call 42; (with_reducible refine H1.out.mono ?_); rintro e w' ⟨rfl, rfl⟩))
    go_ret
    exact Post.same HO.out 22
theorem move_kind {w : World} {N g gl cap : Nat} {l : List S72} {q : Bool} (h : AO w N g gl cap l q) (hNw : N ≤ w.heap.size) (p n : Nat) (hp : p < l.length) (hn : n < l.length) (hk : (holdK (kd l p) && holdK (kd l n)) = false) :
    Calls Try.prog 32 #[.pointer (some ⟨g, 0, none⟩), .int .i64 (p : Int), .int .i64 (n : Int)] w (Post N g q w 23 l) := by
  have HO := hide h
  have H1 := hide (is_yes h p hp)
  have H2 := hide (is_yes h n hn)
  obtain ⟨b, hb⟩ : ∃ b, holdK (kd l p) = b := ⟨_, rfl⟩
  obtain ⟨c, hc⟩ : ∃ c, holdK (kd l n) = c := ⟨_, rfl⟩
  have H3 := hide (holds h p hp rfl hb)
  have H4 := hide (holds h n hn rfl hc)
  rw [hb, hc] at hk
  clear h hp hn hb hc
  cases b with
  | false =>
    go_enter Try.func32, Try.ntmps32
    go_wp2_with (first | (go_at_call 42; (with_reducible refine H1.out.mono ?_); rintro e w' ⟨rfl, rfl⟩) | (go_at_call 42; (with_reducible refine H2.out.mono ?_); rintro e w' ⟨rfl, rfl⟩) | (go_at_call 43; (with_reducible refine H3.out.mono ?_); rintro e w' ⟨rfl, rfl⟩) | (go_at_call 43; (with_reducible refine H4.out.mono ?_); rintro e w' ⟨rfl, rfl⟩))
    go_ret
    exact Post.same HO.out 23
  | true =>
    cases c with
    | false =>
      go_enter Try.func32, Try.ntmps32
      go_wp2_with (first | (go_at_call 42; (with_reducible refine H1.out.mono ?_); rintro e w' ⟨rfl, rfl⟩) | (go_at_call 42; (with_reducible refine H2.out.mono ?_); rintro e w' ⟨rfl, rfl⟩) | (go_at_call 43; (with_reducible refine H3.out.mono ?_); rintro e w' ⟨rfl, rfl⟩) | (go_at_call 43; (with_reducible refine H4.out.mono ?_); rintro e w' ⟨rfl, rfl⟩))
      go_ret
      exact Post.same HO.out 23
    | true => exact absurd hk (by decide)
theorem move_loop {w : World} {N g gl cap : Nat} {l : List S72} {q : Bool} (h : AO w N g gl cap l q) (hNw : N ≤ w.heap.size) (p n : Nat) (hp : p < l.length) (hn : n < l.length) (hk : (holdK (kd l p) && holdK (kd l n)) = true) (hu : Up l (n : Int) (ups l n)) (hpb : (ups l n).contains p = true) :
    Calls Try.prog 32 #[.pointer (some ⟨g, 0, none⟩), .int .i64 (p : Int), .int .i64 (n : Int)] w (Post N g q w 26 l) := by
  have HO := hide h
  have H1 := hide (is_yes h p hp)
  have H2 := hide (is_yes h n hn)
  have H3 := hide (holds h p hp rfl (Bool.and_eq_true_iff.1 hk).1)
  have H4 := hide (holds h n hn rfl (Bool.and_eq_true_iff.1 hk).2)
  have H5 := hide (below h (n : Int) p hu hpb)
  clear h hp hn hk hu hpb
  go_enter Try.func32, Try.ntmps32
  go_wp2_with (first | (go_at_call 42; (with_reducible refine H1.out.mono ?_); rintro e w' ⟨rfl, rfl⟩) | (go_at_call 42; (with_reducible refine H2.out.mono ?_); rintro e w' ⟨rfl, rfl⟩) | (go_at_call 43; (with_reducible refine H3.out.mono ?_); rintro e w' ⟨rfl, rfl⟩) | (go_at_call 43; (with_reducible refine H4.out.mono ?_); rintro e w' ⟨rfl, rfl⟩) | (go_at_call 71; (with_reducible refine H5.out.mono ?_); rintro e w' ⟨rfl, rfl⟩))
  go_ret
  exact Post.same HO.out 26
set_option maxHeartbeats 8000000 in
set_option maxRecDepth 100000 in
theorem move_yes {w : World} {N g gl cap : Nat} {l : List S72} {q : Bool} (h : AO w N g gl cap l q) (hNw : N ≤ w.heap.size) (p n : Nat) (hp : p < l.length) (hn : n < l.length) (hk : (holdK (kd l p) && holdK (kd l n)) = true) (hu : Up l (n : Int) (ups l n)) (hpb : (ups l n).contains p = false) (ks : List Nat) (hks : Kc l (nd l p).f2 ks) (hkl : ks.length ≤ 1000000) (hok : MoveOk n l ks) :
    Calls Try.prog 32 #[.pointer (some ⟨g, 0, none⟩), .int .i64 (p : Int), .int .i64 (n : Int)] w (Post N g q w 0 (moveF n l ks)) := by
  have HO := hide h
  have HNw := hide hNw
  have H1 := hide (is_yes h p hp)
  have H2 := hide (is_yes h n hn)
  have H3 := hide (holds h p hp rfl (Bool.and_eq_true_iff.1 hk).1)
  have H4 := hide (holds h n hn rfl (Bool.and_eq_true_iff.1 hk).2)
  have H5 := hide (below h (n : Int) p hu hpb)
  have H6 := hide (kids h p hp hks hkl)
  have HOK := hide hok
  obtain ⟨m, hm⟩ : ∃ m, ks.length = m := ⟨_, rfl⟩
  have HM := hide hm
  have hm9 : m ≤ 1000000 := by rw [← hm]; exact hkl
  clear h hp hn hk hu hpb hks hkl hok hNw hm
  go_enter Try.func32, Try.ntmps32
  go_wp2_with (first | (go_at_call 42; (with_reducible refine H1.out.mono ?_); rintro e w' ⟨rfl, rfl⟩) | (go_at_call 42; (with_reducible refine H2.out.mono ?_); rintro e w' ⟨rfl, rfl⟩) | (go_at_call 43; (with_reducible refine H3.out.mono ?_); rintro e w' ⟨rfl, rfl⟩) | (go_at_call 43; (with_reducible refine H4.out.mono ?_); rintro e w' ⟨rfl, rfl⟩) | (go_at_call 71; (with_reducible refine H5.out.mono ?_); rintro e w' ⟨rfl, rfl⟩) | (go_at_call 21; (with_reducible refine H6.out.mono ?_); rintro e w1 ⟨v, rfl, hR, hB⟩; obtain ⟨Ak, ck, rfl⟩ := Kd.R_slice hR; rw [List.length_map, HM.out] at hR ⊢; have HR := hide hR; have HO1 := hide (HO.out.below hB); have HF1 := hide (Fr.of_below (T := TA) hB HNw.out); clear hR hB))
  go_loopw [40] (fun i wr => ∃ k : Nat, k ≤ m ∧ i = .int .i64 (k : Int) ∧ Aside0 (AO wr N g gl cap (moveF n l (ks.take k)) q) ∧ Aside0 (Fr N TA w wr) ∧ Aside0 (kI.R 3 wr w.heap.size (fun _ => True) (.slice Ak m ck) (ks.map Int.ofNat))) (fun i _ => m - (intOf i).toNat)
  case atStart => exact ⟨0, Nat.zero_le _, rfl, ⟨HO1.out⟩, ⟨HF1.out⟩, ⟨HR.out⟩⟩
  case round =>
    clear HO1 HF1 HR
    obtain ⟨k, hkm, rfl, hA, hF, hR⟩ := hrel
    have HA := hide hA.out
    have HF := hide hF.out
    have HR := hide hR.out
    clear hA hF hR
    by_cases hlt : k < m
    · have hkk : k < ks.length := by rw [HM.out]; exact hlt
      obtain ⟨x, hx⟩ : ∃ x, ks[k] = x := ⟨_, rfl⟩
      have hsp : ks = ks.take k ++ x :: ks.drop (k + 1) := by rw [← hx]; simp
      have hok := HOK.out (ks.take k) x (ks.drop (k + 1)) hsp
      have hts : ks.take (k + 1) = ks.take k ++ [x] := by rw [List.take_succ_eq_append_getElem hkk, hx]
      have hst : moveF n l (ks.take (k + 1)) = move1 n (moveF n l (ks.take k)) x := by rw [hts, moveF_snoc]
      have HST := hide hst
      obtain ⟨l1, hl1⟩ : ∃ l1, moveF n l (ks.take k) = l1 := ⟨_, rfl⟩
      rw [hl1] at HA hok HST
      obtain ⟨ad, hA, hc⟩ := (Kd.R_reads' HR.out).2.2.2.2 (by rw [List.length_map]; omega)
      subst hA
      obtain ⟨c, hcl, hcK, hcc⟩ := hc k (x : Int) (by rw [List.getElem?_map, List.getElem?_eq_getElem hkk, hx]; rfl)
      have hcK' : c = [.int .i64 (x : Int)] := hcK
      subst hcK'
      have y0 : wr.cell? (ad.add k) = some (.int .i64 (x : Int)) := by
        have := hcc 0 _ rfl
        rwa [show k * kI.sz + 0 = k from by show k * 1 + 0 = k; omega] at this
      have k1 : (k : Int) < (m : Int) := by omega
      obtain ⟨kk, hk0⟩ : ∃ kk, kd l1 x = kk := ⟨_, rfl⟩
      have H7 := hide (kind HA.out x hok.1 hk0)
      by_cases h6 : kk = 6
      · have hst2 : move1 n l1 x = l1 := by unfold move1; rw [hk0, if_pos h6]
        have HS2 := hide hst2
        subst h6
        clear hkk hx hsp hok hts hst hl1 hc hcl hcK hcc hk0 hst2
        go_wp2_with (first | (go_at_call 46; (with_reducible refine H7.out.mono ?_); rintro e w' ⟨rfl, rfl⟩))
        go_roundw
        case rel => exact ⟨k + 1, by omega, by go_num, ⟨by rw [HST.out, HS2.out]; exact HA.out⟩, ⟨HF.out⟩, ⟨HR.out⟩⟩
        case measure => simp [intOf]; omega
      · have hst2 : move1 n l1 x = linkL (cutL l1 x) n x (-1) := by unfold move1; rw [hk0, if_neg h6]
        have HS2 := hide hst2
        have e1 : (kk == 6) = false := by rw [beq_eq_false_iff_ne]; exact h6
        have e2 : (kk != 6) = true := by rw [bne_iff_ne]; exact h6
        have hok2 := hok.2 (by rw [hk0]; exact h6)
        have H8 := hide (cut_op HA.out (Nat.le_trans HNw.out HF.out.size) x hok2.1)
        have HLK := hide hok2.2
        clear hkk hx hsp hok hts hst hl1 hc hcl hcK hcc hk0 hst2 h6 hok2
        go_wp2_with (first | (go_at_call 46; (with_reducible refine H7.out.mono ?_); rintro e w' ⟨rfl, rfl⟩) | (go_at_call 62; (with_reducible refine H8.out.mono ?_); rintro e w2 ⟨rfl, hA, hF⟩; have H9 := hide (link hA n x (-1) HLK.out.1 HLK.out.2.1 HLK.out.2.2.1 HLK.out.2.2.2); have HF2 := hide (HF.out.trans hF); have HR2 := hide (kept_kids HR.out hF); clear hA hF) | (go_at_call 41; (with_reducible refine H9.out.mono ?_); rintro e w3 ⟨rfl, hA, hF⟩; have HA3 := hide hA; have HF3 := hide (HF2.out.trans hF); have HR3 := hide (kept_kids HR2.out hF); clear hA hF))
        go_roundw
        case rel => exact ⟨k + 1, by omega, by go_num, ⟨by rw [HST.out, HS2.out]; exact HA3.out⟩, ⟨HF3.out⟩, ⟨HR3.out⟩⟩
        case measure => simp [intOf]; omega
    · have hke : ks.take k = ks := List.take_of_length_le (by rw [HM.out]; omega)
      have HK := hide hke
      clear hke
      go_wp2_with fail
      go_ret
      have hA := HA.out
      rw [HK.out] at hA
      exact ⟨rfl, hA.as, HF.out⟩
theorem move {w : World} {N g gl cap : Nat} {l : List S72} {q : Bool} (h : AO w N g gl cap l q) (hNw : N ≤ w.heap.size) (p n : Int) (hu : ∀ k : Nat, k < l.length → Up l (k : Int) (ups l k)) (hks : ∀ k : Nat, k < l.length → Kc l (nd l k).f2 (kidsL l k)) (hkl : ∀ k : Nat, k < l.length → (kidsL l k).length ≤ 1000000) (hok : ∀ a b : Nat, a < l.length → b < l.length → (ups l b).contains a = false → MoveOk b l (kidsL l a)) :
    Calls Try.prog 32 #[.pointer (some ⟨g, 0, none⟩), .int .i64 p, .int .i64 n] w (Post N g q w (moveL l p n).1 (moveL l p n).2) := by
  unfold moveL
  by_cases h1 : inR l p ∧ inR l n
  · rw [if_pos h1]
    obtain ⟨a, rfl, ha⟩ := toN h1.1
    obtain ⟨b, rfl, hb⟩ := toN h1.2
    simp only [Int.toNat_natCast]
    cases h2 : (holdK (kd l a) && holdK (kd l b)) with
    | false => exact move_kind h hNw a b ha hb h2
    | true =>
      rw [if_pos rfl]
      cases h3 : (ups l b).contains a with
      | true => exact move_loop h hNw a b ha hb h2 (hu b hb) h3
      | false => exact move_yes h hNw a b ha hb h2 (hu b hb) h3 _ (hks a ha) (hkl a ha) (hok a b ha hb h3)
  · rw [if_neg h1]
    exact move_none h hNw p n h1
theorem res_tree2 {w : World} {X : Nat} {a b c d e f : Value} (hb : w.heap[X]? = some (.cells #[a, b, c, d, e, f] 35 (0, 0))) (t u : Tmp) {fn : Func} (tmps : Array Value) (h : fn.results = #[.cell t 35, .tmp u]) (ht : tmps.getD t undef = .pointer (some ⟨X, 0, none⟩)) {r : Value} (hu : tmps.getD u undef = r) : (results fn tmps).run Try.prog w = .ok (.tuple #[.agg #[a, b, c, d, e, f], r]) w := by
  have z0 : w.cell? ⟨X, 0, none⟩ = some a := cell_of_row w X 0 _ _ _ hb
  have z1 : w.cell? ⟨X, 1, none⟩ = some b := cell_of_row w X 1 _ _ _ hb
  have z2 : w.cell? ⟨X, 2, none⟩ = some c := cell_of_row w X 2 _ _ _ hb
  have z3 : w.cell? ⟨X, 3, none⟩ = some d := cell_of_row w X 3 _ _ _ hb
  have z4 : w.cell? ⟨X, 4, none⟩ = some e := cell_of_row w X 4 _ _ _ hb
  have z5 : w.cell? ⟨X, 5, none⟩ = some f := cell_of_row w X 5 _ _ _ hb
  rw [Array.getD_eq_getD_getElem?] at ht hu
  simp [results, h, ht, hu, go_sem, z0, z1, z2, z3, z4, z5]
theorem node_no {w : World} {N g gl cap : Nat} {l : List S72} {q : Bool} (h : AO w N g gl cap l q) (n : Int) (hn : ¬ inR l n) :
    Calls Try.prog 23 #[.pointer (some ⟨g, 0, none⟩), .int .i64 n] w fun e w' => e = .returned (.tuple #[.agg #[.int .i64 0, .int .i64 0, .string ⟨#[]⟩, .slice none 0 0, .string ⟨#[]⟩, .slice none 0 0], .bool false]) ∧ Below w.heap.size w w' := by
  have hb := below_alloc (Below.refl w.heap.size w) (.cells #[.int .i64 0, .int .i64 0, .string ⟨#[]⟩, .slice none 0 0, .string ⟨#[]⟩, .slice none 0 0] 35)
  have H1 := hide (is_no (h.below hb) n hn)
  have hx := heap_alloc_new w (.cells #[.int .i64 0, .int .i64 0, .string ⟨#[]⟩, .slice none 0 0, .string ⟨#[]⟩, .slice none 0 0] 35)
  have f0 := blk_frozen hx 0
  have f1 := blk_frozen hx 1
  have f2 := blk_frozen hx 2
  have f3 := blk_frozen hx 3
  have f4 := blk_frozen hx 4
  have f5 := blk_frozen hx 5
  have HX := hide hx
  have HB := hide hb
  clear h hn hb hx
  go_enter Try.func23, Try.ntmps23
  go_wp2_with (first | (go_at_call 42; (with_reducible refine H1.out.mono ?_); rintro e w' ⟨rfl, rfl⟩))
  exact ⟨rfl, _, res_tree2 HX.out 4 5 _ rfl rfl rfl, rfl, HB.out⟩
theorem set6_far {w : World} {g : Nat} {a0 a1 a2 a3 a4 a5 : Nat} {v0 v1 v2 v3 v4 v5 : Value} (k : Nat) (hk : k ≠ g) : ((((((w.setCell ⟨g, a0, none⟩ v0).setCell ⟨g, a1, none⟩ v1).setCell ⟨g, a2, none⟩ v2).setCell ⟨g, a3, none⟩ v3).setCell ⟨g, a4, none⟩ v4).setCell ⟨g, a5, none⟩ v5).heap[k]? = w.heap[k]? :=
  (Below.heap_setCell _ _ _ _ hk).trans ((Below.heap_setCell _ _ _ _ hk).trans ((Below.heap_setCell _ _ _ _ hk).trans ((Below.heap_setCell _ _ _ _ hk).trans ((Below.heap_setCell _ _ _ _ hk).trans (Below.heap_setCell _ _ _ _ hk)))))
/-- What 'Node' tells of a node. -/
def NodeV (w : World) (N : Nat) (x : S72) (e : Ending) (w' : World) : Prop := ∃ (A3 : Option Addr) (c3 : Nat) (A5 : Option Addr) (c5 : Nat), e = .returned (.tuple #[.agg #[.int .i64 x.f0.f0, .int .i64 x.f0.f1, .string x.f0.f2, .slice A3 x.f0.f3.length c3, .string x.f0.f4, .slice A5 0 c5], .bool true]) ∧ k62.R 62 w' w.heap.size (fun _ => True) (.slice A3 x.f0.f3.length c3) x.f0.f3 ∧ k35.R 35 w' N (fun _ => True) (.slice A5 0 c5) [] ∧ Below w.heap.size w w'
set_option maxHeartbeats 4000000 in
set_option maxRecDepth 100000 in
theorem node {w : World} {N g gl cap : Nat} {l : List S72} {q : Bool} (h : AO w N g gl cap l q) (n : Nat) (hn : n < l.length) (h5 : (nd l n).f0.f5 = []) (h3 : (nd l n).f0.f3.length ≤ 1000000) :
    Calls Try.prog 23 #[.pointer (some ⟨g, 0, none⟩), .int .i64 (n : Int)] w (NodeV w N (nd l n)) := by
  obtain ⟨v3, v5, hNd, g3, g5⟩ := h.elem n hn
  obtain ⟨A3, c3, rfl, hl3, hC3⟩ := Kd.R_reads g3
  rw [h5] at g5
  obtain ⟨A5, c5, rfl⟩ := Kd.R_slice g5
  have b1 := below_alloc (Below.refl w.heap.size w) (.cells #[.int .i64 0, .int .i64 0, .string ⟨#[]⟩, .slice none 0 0, .string ⟨#[]⟩, .slice none 0 0] 35)
  have hX1 := heap_alloc_new w (.cells #[.int .i64 0, .int .i64 0, .string ⟨#[]⟩, .slice none 0 0, .string ⟨#[]⟩, .slice none 0 0] 35)
  have hs1 : (w.alloc (.cells #[.int .i64 0, .int .i64 0, .string ⟨#[]⟩, .slice none 0 0, .string ⟨#[]⟩, .slice none 0 0] 35)).heap.size = w.heap.size + 1 := by simp
  obtain ⟨w1, hw1⟩ : ∃ w1, w.alloc (.cells #[.int .i64 0, .int .i64 0, .string ⟨#[]⟩, .slice none 0 0, .string ⟨#[]⟩, .slice none 0 0] 35) = w1 := ⟨_, rfl⟩
  have HW1 := hide hw1
  rw [hw1] at b1 hX1 hs1
  have h1 := h.below b1
  have H1 := hide (is_yes h1 n hn)
  have c0 := h1.c0
  have x0 := cellW hNd.c0 b1
  have x1 := cellW hNd.c1 b1
  have x2 := cellW hNd.c2 b1
  have x3 := cellW hNd.c3 b1
  have x4 := cellW hNd.c4 b1
  have x5 := cellW hNd.c5 b1
  have hn1 : (n : Int) < (l.length : Int) := by omega
  obtain ⟨⟨⟨t0, t1, t2, t3, t4, t5⟩, u1, u2, u3, u4, u5, u6⟩, hx⟩ : ∃ x, nd l n = x := ⟨_, rfl⟩
  rw [hx] at h3 h5 hl3 hC3 x0 x1 x2 x3 x4 ⊢
  dsimp only at h3 h5 hl3 hC3 x0 x1 x2 x3 x4
  replace x5 : w1.cell? ⟨gl, n * 12 + 5, none⟩ = some (.slice A5 0 c5) := x5
  subst h5
  have b2 := below_alloc (Below.refl w1.heap.size w1) (.cells #[.int .i64 t0, .int .i64 t1, .string t2, .slice A3 t3.length c3, .string t4, .slice A5 0 c5] 35)
  have hY2 := heap_alloc_new w1 (.cells #[.int .i64 t0, .int .i64 t1, .string t2, .slice A3 t3.length c3, .string t4, .slice A5 0 c5] 35)
  obtain ⟨w2, hw2⟩ : ∃ w2, w1.alloc (.cells #[.int .i64 t0, .int .i64 t1, .string t2, .slice A3 t3.length c3, .string t4, .slice A5 0 c5] 35) = w2 := ⟨_, rfl⟩
  have HW2 := hide hw2
  rw [hw2] at b2 hY2
  have hX2 := (b2.block _ (blk_lt hX1)).trans hX1
  have b02 := below_step b1 b2
  have H2 := hide (clone A3 c3 t3 w2 ⟨Kd.C_below hC3 b02, hl3⟩ (by omega))
  have HB := hide b02
  have HX := hide hX2
  have HY := hide hY2
  have HG5 := hide g5
  have HS1 := hide hs1
  clear h h1 hNd g3 hl3 hC3 g5 b1 hX1 hs1 hw1 b2 hY2 hw2 hX2 b02 h3 hx hn
  obtain ⟨an, han⟩ : ∃ n, t3.length = n := ⟨_, rfl⟩
  unfold NodeV
  dsimp only
  rw [han] at H2 HW2 HY x3 ⊢
  have HAN := hide han
  clear han
  go_enter Try.func23, Try.ntmps23
  have hw1 := HW1.out
  go_upto_region 4 with (first | (go_at_call 42; (with_reducible refine H1.out.mono ?_); rintro e w' ⟨rfl, rfl⟩))
  clear hw1
  rw [HW2.out]
  obtain ⟨Y, hYe⟩ : ∃ Y, w1.heap.size = Y := ⟨_, rfl⟩
  have hYX : w.heap.size < Y := by have := HS1.out; omega
  have HYX := hide hYX
  rw [hYe] at HY ⊢
  have y3 : w2.cell? ⟨Y, 3, none⟩ = some (.slice A3 an c3) := cell_of_row _ _ 3 _ _ _ HY.out
  clear hYe hYX x0 x1 x2 x3 x4 x5 c0 hn1 H1 HW1
  go_wp2_with (go_at_call 51; (with_reducible refine H2.out.mono ?_); rintro e w3 ⟨v, rfl, hR, hB⟩; obtain ⟨Av, cv, rfl⟩ := Kd.R_slice hR; rw [HAN.out] at hR ⊢; have hY3 := (hB.block Y (blk_lt HY.out)).trans HY.out; have hX3 := (hB.block w.heap.size (blk_lt HX.out)).trans HX.out; have f3 := blk_frozen hY3 3; have q3 : w3.cell? ⟨Y, 3, none⟩ = some (.slice A3 an c3) := cell_of_row _ _ 3 _ _ _ hY3; have hY4 : (w3.setCell ⟨Y, 3, none⟩ (.slice Av an cv)).heap[Y]? = some (.cells #[.int .i64 t0, .int .i64 t1, .string t2, .slice Av an cv, .string t4, .slice A5 0 c5] 35 (0, 0)) := blk_set hY3 3 (.slice Av an cv); have hX4 := (Below.heap_setCell w3 ⟨Y, 3, none⟩ (.slice Av an cv) w.heap.size (by have := HYX.out; show w.heap.size ≠ Y; omega)).trans hX3; have z0 := cell_of_row _ _ 0 _ _ _ hY4; have z1 := cell_of_row _ _ 1 _ _ _ hY4; have z2 := cell_of_row _ _ 2 _ _ _ hY4; have z3 := cell_of_row _ _ 3 _ _ _ hY4; have z4 := cell_of_row _ _ 4 _ _ _ hY4; have z5 := cell_of_row _ _ 5 _ _ _ hY4; have p0 := cell_of_row _ _ 0 _ _ _ hX4; have p1 := cell_of_row _ _ 1 _ _ _ hX4; have p2 := cell_of_row _ _ 2 _ _ _ hX4; have p3 := cell_of_row _ _ 3 _ _ _ hX4; have p4 := cell_of_row _ _ 4 _ _ _ hX4; have p5 := cell_of_row _ _ 5 _ _ _ hX4; have g0 := blk_frozen hX4 0; have g1 := blk_frozen hX4 1; have g2 := blk_frozen hX4 2; have g3 := blk_frozen hX4 3; have g4 := blk_frozen hX4 4; have g5 := blk_frozen hX4 5; have HX4 := hide hX4; have HR4 := hide (Kd.R_set hR hY3 (by decide) 3 (.slice Av an cv)); have HB4 := hide ((below_step HB.out hB).setCell (p := ⟨Y, 3, none⟩) (by have := HYX.out; show w.heap.size ≤ Y; omega) (.slice Av an cv)); clear hR hB hY3 hX3 hY4 hX4)
  have hfin := (blk_set (blk_set (blk_set (blk_set (blk_set (blk_set HX4.out 0 (.int .i64 t0)) 1 (.int .i64 t1)) 2 (.string t2)) 3 (.slice Av an cv)) 4 (.string t4)) 5 (.slice A5 0 c5))
  have hb := ((((((HB4.out.setCell (p := ⟨w.heap.size, 0, none⟩) (Nat.le_refl _) (.int .i64 t0)).setCell (p := ⟨w.heap.size, 1, none⟩) (Nat.le_refl _) (.int .i64 t1)).setCell (p := ⟨w.heap.size, 2, none⟩) (Nat.le_refl _) (.string t2)).setCell (p := ⟨w.heap.size, 3, none⟩) (Nat.le_refl _) (.slice Av an cv)).setCell (p := ⟨w.heap.size, 4, none⟩) (Nat.le_refl _) (.string t4)).setCell (p := ⟨w.heap.size, 5, none⟩) (Nat.le_refl _) (.slice A5 0 c5))
  have hR := Kd.R_step (Kd.R_types HR4.out HX4.out (by decide)) (fun k hk _ => set6_far (g := w.heap.size) (a0 := 0) (a1 := 1) (a2 := 2) (a3 := 3) (a4 := 4) (a5 := 5) (v0 := .int .i64 t0) (v1 := .int .i64 t1) (v2 := .string t2) (v3 := .slice Av an cv) (v4 := .string t4) (v5 := .slice A5 0 c5) k hk.2)
  have hR2 := Kd.R_mono (Kd.R_lower hR HB.out.size) (ok' := fun _ => True) (fun _ _ => trivial)
  have hG := Kd.R_mono (Kd.R_below HG5.out hb) (ok' := fun _ => True) (fun _ _ => trivial)
  exact ⟨rfl, _, res_tree2 hfin 4 5 _ rfl rfl rfl, Av, cv, A5, c5, rfl, hR2, hG, hb⟩
end Go.Proofs.Ytjebpaapkmbahaa.Ar

/- The walks of attrs.More, Unique, Get, Add. -/
import Derived.Test.YtgjnopabdipleaaAttrsFind
namespace Go.Proofs.Ytgjnopabdipleaa.Attrs
open Go.RowKit Go.Proofs.Ytgjnopabdipleaa.PAttrsTells Go.Proofs.YtgjnopabdipleaaW.PrintWords Go.Proofs.YtgjnopabdipleaaW.PrintLast

def addL (xs : List S29) (x : S29) : List S29 := if fnd xs x.f0 < 0 then xs ++ [x] else xs
def moreL (xs ys : List S29) : List S29 := ys.foldl addL xs
theorem addL_len (xs : List S29) (x : S29) : (addL xs x).length ≤ xs.length + 1 := by
  unfold addL
  split
  · simp
  · omega
theorem moreL_len (xs : List S29) : ∀ ys : List S29, (moreL xs ys).length ≤ xs.length + ys.length := by
  intro ys
  unfold moreL
  induction ys generalizing xs with
  | nil => simp
  | cons y ys ih =>
    rw [List.foldl_cons, List.length_cons]
    have := ih (addL xs y)
    have := addL_len xs y
    omega
theorem more_step (xs ys : List S29) (k : Nat) (h : k < ys.length) : moreL xs (ys.take (k + 1)) = addL (moreL xs (ys.take k)) (ys.getD k z29) := by
  unfold moreL
  rw [List.take_succ_eq_append_getElem h, List.foldl_append, List.getD_eq_getElem?_getD, List.getElem?_eq_getElem h]
  rfl
theorem info29 : (Try.prog.info? 29).map (fun i => (i.zero, i.size, i.bytes)) = some (some (.agg #[.string ⟨#[]⟩, .string ⟨#[]⟩]), 2, 32) := by kernel_rfl

set_option maxHeartbeats 1000000 in
set_option maxRecDepth 100000 in
theorem more (A B : Option Addr) (c d : Nat) (xs ys : List S29) (w : World) (h : Rds w A c xs) (hy : Rds w B d ys) (hn : (xs.length + ys.length) * 32 ≤ 140737488351232) :
    Calls Try.prog 8 #[.slice A xs.length c, .slice B ys.length d] w (RowPost (moreL xs ys) w) := by
  have HX := hide h
  have HY := hide hy
  have hlen := hy.1.2.1
  clear h hy
  obtain ⟨n, hyn⟩ : ∃ n, ys.length = n := ⟨_, rfl⟩
  have HN := hide hyn
  rw [hyn] at hlen hn ⊢
  clear hyn
  obtain ⟨m, hxm⟩ : ∃ n, xs.length = n := ⟨_, rfl⟩
  have HM := hide hxm
  rw [hxm] at hn
  clear hxm
  go_enter Try.func8, Try.ntmps8
  go_wp2_with fail
  refine (clone A c xs _ HX.out (by rw [HM.out]; omega)).mono ?_
  rintro e w1 ⟨v, rfl, hR, hb1⟩
  have HR := hide hR
  have HB1 := hide hb1
  clear hR hb1
  dsimp only
  go_wp2_with fail
  go_loopw [5, 12] (fun v i wr => ∃ k : Nat, k ≤ n ∧ i = .int .i64 k ∧ Aside0 (Kd.R k29 29 wr w.heap.size (fun _ => True) v (moreL xs (ys.take k))) ∧ Aside0 (Below w.heap.size w wr)) (fun _ i _ => n - (intOf i).toNat)
  case atStart => exact ⟨0, by omega, rfl, ⟨HR.out⟩, ⟨HB1.out⟩⟩
  case round =>
    clear HR HB1
    obtain ⟨k, hk, rfl, HO, HB⟩ := hrel
    by_cases hlt : k < n
    · have hkl : k < ys.length := by rw [HN.out]; exact hlt
      obtain ⟨bd, hA, hc0, hc1⟩ := at_T29 (Kd.C_below HY.out.1 HB.out) (k : Int) (by omega) (by rw [HN.out]; omega)
      subst hA
      have hstep := more_step xs ys k hkl
      have hml := moreL_len xs (ys.take k)
      rw [List.length_take, HM.out] at hml
      unfold rd_T29 at hc0 hc1
      rw [Int.toNat_natCast] at hc0 hc1
      obtain ⟨x, hx⟩ : ∃ x, ys.getD k z29 = x := ⟨_, rfl⟩
      rw [hx] at hc0 hc1 hstep
      obtain ⟨a, b⟩ := x
      dsimp only at hc0 hc1
      clear hx
      obtain ⟨zs, hzs⟩ : ∃ zs, moreL xs (ys.take k) = zs := ⟨_, rfl⟩
      have HO1 := HO.out
      rw [hzs] at hstep hml HO1
      have HS := hide hstep
      clear hstep hzs HO
      obtain ⟨A1, c1, rfl, hl1, _⟩ := Kd.R_reads HO1
      have k1 : (k : Int) < n := by omega
      have HO := hide HO1
      clear HO1
      go_wp2_with fail
      refine (find A1 c1 zs a _ ⟨Kd.C_below (Kd.R_reads' HO.out).2.2 (below_alloc (Below.refl _ _) _), hl1⟩).mono ?_
      rintro e w2 ⟨rfl, hb2⟩
      have hx0 : w2.cell? ⟨wr.heap.size, 0, none⟩ = some (.string a) := by
        rw [hb2.cell (p := ⟨wr.heap.size, 0, none⟩) (by simp), cell_of_row _ _ 0 _ 29 (0, 0) (heap_alloc_new _ _)]; rfl
      have hx1 : w2.cell? ⟨wr.heap.size, 1, none⟩ = some (.string b) := by
        rw [hb2.cell (p := ⟨wr.heap.size, 1, none⟩) (by simp), cell_of_row _ _ 1 _ 29 (0, 0) (heap_alloc_new _ _)]; rfl
      have hb3 : Below wr.heap.size wr w2 := below_step (below_alloc (Below.refl _ _) _) hb2
      have HO2 := hide (Kd.R_below HO.out hb3)
      have HB2 := hide (below_step HB.out hb3)
      clear hb2 hb3 HO
      obtain ⟨q, hq⟩ : ∃ q, fnd zs a = q := ⟨_, rfl⟩
      have HS2 := HS.out
      unfold addL at HS2
      dsimp only at HS2
      rw [hq] at HS2
      rw [hq]
      clear hq HS
      by_cases hneg : q < 0
      · rw [if_pos hneg] at HS2
        have HS := hide HS2
        clear HS2
        have hbase := HB2.out.size
        dsimp only
        go_wp2_with (at_builtin; refine Kd.R_append k29 (w0 := w) w.heap.size rfl (.tmp 21) (.tmp 23) 22 29 _ 32 rfl Try.underlying22 info29 rfl (by decide) (by decide) _ zs ⟨a, b⟩ [.string a, .string b] (fun _ => True) (fun _ => False) rfl rfl (k29_mkM _ _ _ _) (fun k hk => hk.elim) (fun _ _ => trivial) HO2.out HB2.out hbase (by omega) ?_; intro v1 w3 ho hb hg hown; have HO3 := hide ho; have HB3 := hide hb; clear ho hb hg hown)
        go_roundw
        case rel => exact ⟨k + 1, by omega, by go_num, ⟨by rw [HS.out]; exact HO3.out⟩, ⟨HB3.out⟩⟩
        case measure => simp only [intOf]; omega
      · rw [if_neg hneg] at HS2
        have HS := hide HS2
        clear HS2
        dsimp only
        go_wp2_with fail
        go_roundw
        case rel => exact ⟨k + 1, by omega, by go_num, ⟨by rw [HS.out]; exact HO2.out⟩, ⟨HB2.out⟩⟩
        case measure => simp only [intOf]; omega
    · have hke : ys.take k = ys := List.take_of_length_le (by rw [HN.out]; omega)
      have HO1 := HO.out
      rw [hke] at HO1
      have HO2 := hide HO1
      clear HO1 hke HO
      go_wp2_with fail
      go_ret
      exact ⟨_, rfl, HO2.out, HB.out⟩

theorem unique (A : Option Addr) (c : Nat) (xs : List S29) (w : World) (h : Rds w A c xs) (hn : xs.length * 32 ≤ 140737488351232) :
    Calls Try.prog 11 #[.slice A xs.length c] w (RowPost (moreL [] xs) w) := by
  have H := hide h
  clear h
  go_enter Try.func11, Try.ntmps11
  go_wp2_with fail
  refine (more none A 0 c [] xs _ ⟨⟨rfl, by simp, fun h => absurd h (by simp)⟩, Nat.le_refl _⟩ H.out (by simpa using hn)).mono ?_
  rintro e w1 ⟨v, rfl, hR, hb1⟩
  have HR := hide hR
  have HB := hide hb1
  clear hR hb1
  dsimp only
  go_wp2_with fail
  go_ret
  exact ⟨_, rfl, HR.out, HB.out⟩

def getV (xs : List S29) (nm : ByteArray) : ByteArray := if fnd xs nm < 0 then ⟨#[]⟩ else (xs.getD (fnd xs nm).toNat z29).f1
theorem fndFrom_lt (nm : ByteArray) : ∀ (xs : List S29) (i : Nat), fndFrom nm xs i = -1 ∨ ((i : Int) ≤ fndFrom nm xs i ∧ fndFrom nm xs i < i + xs.length)
  | [], i => .inl rfl
  | x :: xs, i => by
    unfold fndFrom
    split
    · right; simp only [List.length_cons]; omega
    · rcases fndFrom_lt nm xs (i + 1) with h | h
      · exact .inl h
      · right; simp only [List.length_cons]; omega
theorem fnd_lt (xs : List S29) (nm : ByteArray) : fnd xs nm = -1 ∨ (0 ≤ fnd xs nm ∧ fnd xs nm < xs.length) := by
  have := fndFrom_lt nm xs 0
  unfold fnd
  omega

set_option maxHeartbeats 1000000 in
set_option maxRecDepth 100000 in
theorem get (A : Option Addr) (c : Nat) (xs : List S29) (nm : ByteArray) (w : World) (h : Rds w A c xs) :
    Calls Try.prog 10 #[.slice A xs.length c, .string nm] w fun e w' => e = .returned (.tuple #[.string (getV xs nm), .bool (decide (0 ≤ fnd xs nm))]) ∧ Below w.heap.size w w' := by
  have H := hide h
  have hlen := h.1.2.1
  clear h
  have hf := fnd_lt xs nm
  obtain ⟨t, ht⟩ : ∃ t, getV xs nm = t := ⟨_, rfl⟩
  have hg := ht
  rw [ht]
  unfold getV at hg
  obtain ⟨q, hq⟩ : ∃ q, fnd xs nm = q := ⟨_, rfl⟩
  rw [hq] at hg hf ⊢
  have HQ := hide hq
  clear hq ht
  obtain ⟨n, hn⟩ : ∃ n, xs.length = n := ⟨_, rfl⟩
  have HN := hide hn
  rw [hn] at hf hlen
  clear hn
  by_cases hneg : q < 0
  · rw [if_pos hneg] at hg
    subst hg
    have hd : decide (0 ≤ q) = false := decide_eq_false (by omega)
    rw [hd]
    clear hd hf
    go_enter Try.func10, Try.ntmps10
    go_wp2_with (go_at_call 21; (refine (find A c xs nm _ H.out).mono ?_); rw [HQ.out]; rintro e w2 ⟨rfl, hb2⟩; have HB := hide hb2; clear hb2; dsimp only)
    go_ret2
    exact ⟨rfl, HB.out⟩
  · rw [if_neg hneg] at hg
    have hd : decide (0 ≤ q) = true := decide_eq_true (by omega)
    rw [hd]
    clear hd
    have hq0 : 0 ≤ q := by omega
    have hq1 : q < n := by omega
    obtain ⟨j, rfl⟩ := Int.eq_ofNat_of_zero_le hq0
    rw [Int.toNat_natCast] at hg
    obtain ⟨bd, hA, _, _⟩ := at_T29 H.out.1 (j : Int) hq0 (by rw [HN.out]; exact hq1)
    subst hA
    have HG := hide hg
    clear hg hf
    go_enter Try.func10, Try.ntmps10
    go_wp2_with fail
    rw [show xs.length = n from HN.out]
    have hfi := find (some bd) c xs nm w H.out
    rw [HN.out, HQ.out] at hfi
    refine hfi.mono ?_
    rintro e w2 ⟨rfl, hb2⟩
    obtain ⟨_, e2, _, hc1⟩ := at_T29 (Kd.C_below H.out.1 hb2) (j : Int) hq0 (by rw [HN.out]; exact hq1)
    cases e2
    unfold rd_T29 at hc1
    rw [Int.toNat_natCast, HG.out] at hc1
    have HB := hide hb2
    clear hb2 hfi
    dsimp only
    go_wp2_with fail
    go_ret2
    exact ⟨rfl, HB.out⟩
end Go.Proofs.Ytgjnopabdipleaa.Attrs

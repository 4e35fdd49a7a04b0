/- The walk of the law AttrsNumbers: true. -/
import Derived.Test.YtgjnopabdipleaaAttrsSame
import Derived.Test.YtgjnopabdipleaaAttrsCopy
import Derived.Deep.RegionLaw
import Derived.BigRegion
namespace Go.Proofs.Ytgjnopabdipleaa.Attrs
open Go.RowKit Go.Proofs.Ytgjnopabdipleaa.PAttrsTells Go.Proofs.YtgjnopabdipleaaW.PrintWords Go.Proofs.YtgjnopabdipleaaW.PrintLast

def ONE : List S29 := [⟨⟨#[97]⟩, ⟨#[49]⟩⟩, ⟨⟨#[97]⟩, ⟨#[50]⟩⟩, ⟨⟨#[98]⟩, ⟨#[49]⟩⟩, ⟨⟨#[118, 105, 101, 119, 98, 111, 120]⟩, ⟨#[120]⟩⟩, ⟨⟨#[]⟩, ⟨#[]⟩⟩]
abbrev kl : Kd (List S29) := Kd.slice 29 k29
def Few (ls : List (List S29)) : Prop := ∀ l ∈ ls, l.length ≤ 3
theorem few_add {ls ms : List (List S29)} (h : Few ls) (hm : Few ms) : Few (ls ++ ms) := by
  intro l hl
  rcases List.mem_append.1 hl with h1 | h1
  · exact h l h1
  · exact hm l h1
theorem info22 : (Try.prog.info? 22).map (fun i => (i.zero, i.size, i.bytes)) = some (some (.slice none 0 0), 1, 24) := by kernel_rfl

theorem lit_own (W : World) (base : Nat) (hb : base ≤ W.heap.size) (xs : List S29) (hl : xs.length ≤ 100) : Kd.R k29 29 (W.alloc (.cells (flat xs).toArray 29)) base (fun k => k = W.heap.size) (.slice (some ⟨W.heap.size, 0, none⟩) xs.length xs.length) xs := by
  refine ⟨fun k hk => ?_, flat xs, ?_, reps_flat _ _ _ xs⟩
  · have : W.heap.size = k := by simpa [Value.ownBlock] using hk
    exact this.symm
  · have := World.ownsRow_lit (base := base) (e := 29) (size := 2) W (flat xs).toArray xs.length hb (by unfold maxLen; omega) (by simp [flat_len])
    simp only at this
    exact this
theorem own_old {w : World} {base : Nat} {v : Value} {ls : List (List S29)} (h : Kd.R kl 22 w base (fun _ => True) v ls) {k : Nat} (hk : w.heap.size ≤ k) : some k ≠ v.ownBlock := by
  intro e
  obtain ⟨inner, ho⟩ := Kd.R_own h
  have := own_lt ho k e.symm
  omega
theorem two_rows {W : World} {base g : Nat} {okp : Nat → Prop} {l1 l2 : List S29} {u1 u2 : Value} {t : TypeId} (h : W.heap[g]? = some (.cells #[u1, u2] t (0, 0))) (h1 : kl.M W base okp l1 [u1]) (h2 : kl.M W base okp l2 [u2]) : ReadsRow (kl.M W base okp) 1 W (some ⟨g, 0, none⟩) 2 [l1, l2] := by
  refine ⟨rfl, by omega, fun _ => ⟨_, rfl, fun j p hj => ?_⟩⟩
  have ea : ∀ m, (⟨g, 0, none⟩ : Addr).add m = ⟨g, m, none⟩ := by intro m; unfold Addr.add; split <;> simp_all
  match j, hj with
  | 0, hj =>
    cases hj
    refine ⟨[u1], rfl, h1, fun i u hu => ?_⟩
    match i, hu with
    | 0, hu => rw [ea, cell_of_row W g _ _ t (0, 0) h]; exact hu
  | 1, hj =>
    cases hj
    refine ⟨[u2], rfl, h2, fun i u hu => ?_⟩
    match i, hu with
    | 0, hu => rw [ea, cell_of_row W g _ _ t (0, 0) h]; exact hu
/-- Two literals of attributes, one behind the other, and a row of the two. -/
theorem two_lits (W : World) (base : Nat) (hb : base ≤ W.heap.size) (xs ys : List S29) (hx : xs.length ≤ 100) (hy : ys.length ≤ 100) (W' : World) (hb' : Below ((W.alloc (.cells (flat xs).toArray 29)).alloc (.cells (flat ys).toArray 29)).heap.size ((W.alloc (.cells (flat xs).toArray 29)).alloc (.cells (flat ys).toArray 29)) W') :
    kl.M W' base (fun k => k = W.heap.size ∨ k = W.heap.size + 1) xs [.slice (some ⟨W.heap.size, 0, none⟩) xs.length xs.length] ∧ kl.M W' base (fun k => k = W.heap.size ∨ k = W.heap.size + 1) ys [.slice (some ⟨W.heap.size + 1, 0, none⟩) ys.length ys.length] := by
  have e1 : (W.alloc (.cells (flat xs).toArray 29)).heap.size = W.heap.size + 1 := by simp
  have h1 := Kd.R_below (lit_own W base hb xs hx) (below_alloc (Below.refl _ _) (.cells (flat ys).toArray 29))
  have h2 := lit_own (W.alloc (.cells (flat xs).toArray 29)) base (by rw [e1]; omega) ys hy
  rw [e1] at h2
  exact ⟨⟨_, rfl, Kd.R_below (Kd.R_mono h1 (fun k hk => .inl hk)) hb'⟩, ⟨_, rfl, Kd.R_below (Kd.R_mono h2 (fun k hk => .inr hk)) hb'⟩⟩
theorem cellsN {W W' : World} {p q : Addr} {u v : Value} (h1 : W.cell? p = some u) (h2 : W.cell? q = some v) (hb : Below W.heap.size W W') : W'.cell? p = some u ∧ W'.cell? q = some v :=
  ⟨(hb.cell (World.block_lt_of_cell? _ _ h1)).trans h1, (hb.cell (World.block_lt_of_cell? _ _ h2)).trans h2⟩
theorem kl_get {w : World} {A : Option Addr} {ls : List (List S29)} (h : Kd.C kl w A ls.length ls) (hf : Few ls) (i : Nat) (hi : i < ls.length) : ∃ ad l B d, A = some ad ∧ l.length ≤ 3 ∧ w.cell? (ad.add i) = some (.slice B l.length d) ∧ Rds w B d l := by
  obtain ⟨ad, e, hc⟩ := h.2.2 (by omega)
  obtain ⟨c, _, ⟨B, d, rfl, hl, hC⟩, hcell⟩ := hc i _ (List.getElem?_eq_getElem hi)
  have h0 := hcell 0 _ rfl
  rw [show i * kl.sz + 0 = i from by show i * 1 + 0 = i; omega] at h0
  exact ⟨ad, ls[i], B, d, e, hf _ (List.getElem_mem _), h0, hC, hl⟩
set_option maxHeartbeats 40000000 in
set_option maxRecDepth 100000 in
theorem attrsNumbers (w : World) : Calls Try.prog 5 #[] w fun e w' => e = .returned (.bool true) ∧ Below w.heap.size w w' := by
  have hb0 : Below w.heap.size w (w.alloc (.cells #[.string ⟨#[97]⟩, .string ⟨#[49]⟩, .string ⟨#[97]⟩, .string ⟨#[50]⟩, .string ⟨#[98]⟩, .string ⟨#[49]⟩, .string ⟨#[118, 105, 101, 119, 98, 111, 120]⟩, .string ⟨#[120]⟩, .string ⟨#[]⟩, .string ⟨#[]⟩] 29)) := below_alloc (Below.refl _ _) _
  have r0 : Rds (w.alloc (.cells #[.string ⟨#[97]⟩, .string ⟨#[49]⟩, .string ⟨#[97]⟩, .string ⟨#[50]⟩, .string ⟨#[98]⟩, .string ⟨#[49]⟩, .string ⟨#[118, 105, 101, 119, 98, 111, 120]⟩, .string ⟨#[120]⟩, .string ⟨#[]⟩, .string ⟨#[]⟩] 29)) (some ⟨w.heap.size, 0, none⟩) 5 ONE := by
    refine rds_blk (heap_alloc_new w _) _ 5 (by decide) (by decide) ?_
    intro j p hj
    match j, hj with
    | 0, hj => cases hj; exact ⟨rfl, rfl⟩
    | 1, hj => cases hj; exact ⟨rfl, rfl⟩
    | 2, hj => cases hj; exact ⟨rfl, rfl⟩
    | 3, hj => cases hj; exact ⟨rfl, rfl⟩
    | 4, hj => cases hj; exact ⟨rfl, rfl⟩
  have hone : ONE.length = 5 := rfl
  obtain ⟨O, hO⟩ : ∃ O, ONE = O := ⟨_, rfl⟩
  rw [hO] at r0 hone
  clear hO
  have HB0 := hide hb0
  have R0 := hide r0
  have HN := hide hone
  clear hb0 r0 hone
  go_enter Try.func5, Try.ntmps5
  go_wp2_with fail
  obtain ⟨w1, hw1⟩ : ∃ w1, w.alloc (.cells #[.string ⟨#[97]⟩, .string ⟨#[49]⟩, .string ⟨#[97]⟩, .string ⟨#[50]⟩, .string ⟨#[98]⟩, .string ⟨#[49]⟩, .string ⟨#[118, 105, 101, 119, 98, 111, 120]⟩, .string ⟨#[120]⟩, .string ⟨#[]⟩, .string ⟨#[]⟩] 29) = w1 := ⟨_, rfl⟩
  rw [hw1] at HB0 R0 ⊢
  clear hw1
  go_loopw [2, 3, 4] (fun v i _ wr => ∃ (k : Nat) (ls : List (List S29)), k ≤ 5 ∧ i = .int .i64 k ∧ ls.length = 11 * k ∧ Aside0 (Few ls) ∧ Aside0 (Kd.R kl 22 wr w1.heap.size (fun _ => True) v ls) ∧ Aside0 (Below w1.heap.size w1 wr)) (fun _ i _ _ => 5 - (intOf i).toNat)
  case atStart => exact ⟨0, [], by omega, rfl, rfl, ⟨fun l hl => by cases hl⟩, ⟨Kd.R_nil _ _ _ _ _⟩, ⟨Below.refl _ _⟩⟩
  case round =>
    obtain ⟨k, ls, hk, rfl, hll, HF, HO, HB⟩ := hrel
    by_cases hlt : k < 5
    · have hR := rds_b R0.out HB.out
      obtain ⟨bd, hA, hc0, hc1⟩ := at_T29 hR.1 (k : Int) (by omega) (by rw [HN.out]; omega)
      cases hA
      unfold rd_T29 at hc0 hc1
      rw [Int.toNat_natCast] at hc0 hc1
      have ea : (⟨w.heap.size, 0, none⟩ : Addr).add (k * 2) = ⟨w.heap.size, k * 2, none⟩ := by unfold Addr.add; split <;> simp_all
      rw [ea] at hc0 hc1
      clear ea
      obtain ⟨x, hx⟩ : ∃ x, O.getD k z29 = x := ⟨_, rfl⟩
      rw [hx] at hc0 hc1
      clear hx hR
      obtain ⟨a, b⟩ := x
      dsimp only at hc0 hc1
      have k1 : (k : Int) < 5 := by omega
      have k2 : (0 : Int) ≤ (k : Int) := by omega
      have hM : kl.M (wr.alloc (.cells #[.string a, .string b] 29)) w1.heap.size (fun k => k = wr.heap.size) [⟨a, b⟩] [.slice (some ⟨wr.heap.size, 0, none⟩) 1 1] := ⟨_, rfl, lit_own wr w1.heap.size HB.out.size [⟨a, b⟩] (by simp)⟩
      have HM := hide hM
      have HSZ := hide (show (wr.alloc (.cells #[.string a, .string b] 29)).heap.size = wr.heap.size + 1 from by simp)
      have HO1 := hide (Kd.R_below HO.out (below_alloc (Below.refl wr.heap.size wr) (.cells #[.string a, .string b] 29)))
      have HB1 := hide (below_step HB.out (below_alloc (Below.refl wr.heap.size wr) (.cells #[.string a, .string b] 29)))
      have HNE := hide (fun k (hk : k = wr.heap.size) => own_old HO.out (k := k) (by omega))
      clear hM
      go_wp2_with (at_builtin; refine Kd.R_append kl (w0 := w1) w1.heap.size rfl (.tmp 19) (.tmp 25) 34 22 (.slice none 0 0) 24 rfl Try.underlying34 info22 rfl (by decide) (by decide) _ ls [⟨a, b⟩] [.slice (some ⟨wr.heap.size, 0, none⟩) 1 1] (fun _ => True) (fun k => k = wr.heap.size) rfl (by rw [HSZ.out]; rfl) HM.out (fun k hk => ⟨trivial, HNE.out k hk⟩) (fun _ _ => trivial) HO1.out HB1.out HB1.out.size (by omega) ?_; intro v1 w3 ho hb hg hown; have HO3 := hide ho; have HB3 := hide hb; clear ho hb hg hown)
      have hFew1 : Few (ls ++ [[⟨a, b⟩]]) := few_add HF.out (fun l hl => by rw [List.mem_singleton.1 hl]; simp)
      have hlen1 : (ls ++ [[(⟨a, b⟩ : S29)]]).length = 11 * k + 1 := by simp; omega
      obtain ⟨L, hL⟩ : ∃ L, ls ++ [[(⟨a, b⟩ : S29)]] = L := ⟨_, rfl⟩
      rw [hL] at hFew1 hlen1 HO3
      have HF1 := hide hFew1
      clear hL hFew1 HM HSZ HO1 HB1 HNE HO HF HB hc0 hc1
      obtain ⟨wo, hwo⟩ : ∃ wo : World, wo = wr := ⟨_, rfl⟩
      rw [← hwo] at *
      clear hwo
      go_loopw [2, 4] (fun v i wr => ∃ (j : Nat) (ls : List (List S29)), j ≤ 5 ∧ i = .int .i64 j ∧ ls.length = 11 * k + 1 + 2 * j ∧ Aside0 (Few ls) ∧ Aside0 (Kd.R kl 22 wr w1.heap.size (fun _ => True) v ls) ∧ Aside0 (Below w1.heap.size w1 wr)) (fun _ i _ => 5 - (intOf i).toNat)
      case atStart => exact ⟨0, L, by omega, rfl, by omega, ⟨HF1.out⟩, ⟨HO3.out⟩, ⟨HB3.out⟩⟩
      case round =>
        clear HF1 HO3 HB3
        obtain ⟨j, ls, hj, rfl, hll2, HF, HO, HB⟩ := hrel
        by_cases hlt2 : j < 5
        · have cellOf : ∀ W, Below w1.heap.size w1 W → ∀ i : Nat, i < 5 → W.cell? ⟨w.heap.size, i * 2, none⟩ = some (.string (O.getD i z29).f0) ∧ W.cell? ⟨w.heap.size, i * 2 + 1, none⟩ = some (.string (O.getD i z29).f1) := by
            intro W hW i hi
            have hR := rds_b R0.out hW
            obtain ⟨bd, hA, hc0, hc1⟩ := at_T29 hR.1 (i : Int) (by omega) (by rw [HN.out]; omega)
            cases hA
            unfold rd_T29 at hc0 hc1
            rw [Int.toNat_natCast] at hc0 hc1
            have ea : (⟨w.heap.size, 0, none⟩ : Addr).add (i * 2) = ⟨w.heap.size, i * 2, none⟩ := by unfold Addr.add; split <;> simp_all
            rw [ea] at hc0 hc1
            exact ⟨hc0, hc1⟩
          obtain ⟨p0, hp0⟩ : ∃ p, O.getD 0 z29 = p := ⟨_, rfl⟩
          obtain ⟨pk, hpk⟩ : ∃ p, O.getD k z29 = p := ⟨_, rfl⟩
          obtain ⟨pj, hpj⟩ : ∃ p, O.getD j z29 = p := ⟨_, rfl⟩
          obtain ⟨a0, b0⟩ := p0
          obtain ⟨ak, bk⟩ := pk
          obtain ⟨aj, bj⟩ := pj
          have allS : ∀ W, Below w1.heap.size w1 W → W.cell? ⟨w.heap.size, 0, none⟩ = some (.string a0) ∧ W.cell? ⟨w.heap.size, 1, none⟩ = some (.string b0) ∧ W.cell? ⟨w.heap.size, k * 2, none⟩ = some (.string ak) ∧ W.cell? ⟨w.heap.size, k * 2 + 1, none⟩ = some (.string bk) ∧ W.cell? ⟨w.heap.size, j * 2, none⟩ = some (.string aj) ∧ W.cell? ⟨w.heap.size, j * 2 + 1, none⟩ = some (.string bj) ∧ Below w1.heap.size w1 W := by
            intro W hW
            obtain ⟨x0, x1⟩ := cellOf W hW 0 (by omega)
            obtain ⟨y0, y1⟩ := cellOf W hW k (by omega)
            obtain ⟨z0, z1⟩ := cellOf W hW j (by omega)
            rw [hp0] at x0 x1
            rw [hpk] at y0 y1
            rw [hpj] at z0 z1
            exact ⟨x0, x1, y0, y1, z0, z1, hW⟩
          clear cellOf hp0 hpk hpj
          have j1 : (j : Int) < 5 := by omega
          have j2 : (0 : Int) ≤ (j : Int) := by omega
          go_wp2_with fail
          have m1 : ReadsRow (kl.M ((((wr.alloc (.cells #[.string ak, .string bk, .string aj, .string bj] 29)).alloc (.cells #[.string aj, .string bj, .string ak, .string bk, .string a0, .string b0] 29)).alloc (.cells #[.slice (some ⟨wr.heap.size, 0, none⟩) 2 2, .slice (some ⟨wr.heap.size + 1, 0, none⟩) 3 3] 22)).drew) w1.heap.size (fun k => k = wr.heap.size ∨ k = wr.heap.size + 1)) 1 ((((wr.alloc (.cells #[.string ak, .string bk, .string aj, .string bj] 29)).alloc (.cells #[.string aj, .string bj, .string ak, .string bk, .string a0, .string b0] 29)).alloc (.cells #[.slice (some ⟨wr.heap.size, 0, none⟩) 2 2, .slice (some ⟨wr.heap.size + 1, 0, none⟩) 3 3] 22)).drew) (some ⟨wr.heap.size + 2, 0, none⟩) 2 [[⟨ak, bk⟩, ⟨aj, bj⟩], [⟨aj, bj⟩, ⟨ak, bk⟩, ⟨a0, b0⟩]] := by
            have e2 : ((wr.alloc (.cells #[.string ak, .string bk, .string aj, .string bj] 29)).alloc (.cells #[.string aj, .string bj, .string ak, .string bk, .string a0, .string b0] 29)).heap.size = wr.heap.size + 2 := by simp
            have hn := heap_alloc_new ((wr.alloc (.cells #[.string ak, .string bk, .string aj, .string bj] 29)).alloc (.cells #[.string aj, .string bj, .string ak, .string bk, .string a0, .string b0] 29)) (.cells #[.slice (some ⟨wr.heap.size, 0, none⟩) 2 2, .slice (some ⟨wr.heap.size + 1, 0, none⟩) 3 3] 22)
            rw [e2] at hn
            have t := two_lits wr w1.heap.size HB.out.size [⟨ak, bk⟩, ⟨aj, bj⟩] [⟨aj, bj⟩, ⟨ak, bk⟩, ⟨a0, b0⟩] (by simp) (by simp) ((((wr.alloc (.cells #[.string ak, .string bk, .string aj, .string bj] 29)).alloc (.cells #[.string aj, .string bj, .string ak, .string bk, .string a0, .string b0] 29)).alloc (.cells #[.slice (some ⟨wr.heap.size, 0, none⟩) 2 2, .slice (some ⟨wr.heap.size + 1, 0, none⟩) 3 3] 22)).drew) (below_alloc (Below.refl _ _) _).drew
            exact two_rows hn t.1 t.2
          have o1 := hide (Kd.R_below HO.out (show Below wr.heap.size wr (((wr.alloc (.cells #[.string ak, .string bk, .string aj, .string bj] 29)).alloc (.cells #[.string aj, .string bj, .string ak, .string bk, .string a0, .string b0] 29)).alloc (.cells #[.slice (some ⟨wr.heap.size, 0, none⟩) 2 2, .slice (some ⟨wr.heap.size + 1, 0, none⟩) 3 3] 22)).drew from (below_alloc (below_alloc (below_alloc (Below.refl _ wr) _) _) _).drew))
          have b1 := hide (below_step HB.out (show Below wr.heap.size wr (((wr.alloc (.cells #[.string ak, .string bk, .string aj, .string bj] 29)).alloc (.cells #[.string aj, .string bj, .string ak, .string bk, .string a0, .string b0] 29)).alloc (.cells #[.slice (some ⟨wr.heap.size, 0, none⟩) 2 2, .slice (some ⟨wr.heap.size + 1, 0, none⟩) 3 3] 22)).drew from (below_alloc (below_alloc (below_alloc (Below.refl _ wr) _) _) _).drew))
          have M1 := hide m1
          have m2 : ReadsRow (kl.M ((((wr.alloc (.cells #[.string aj, .string bj, .string ak, .string bk, .string a0, .string b0] 29)).alloc (.cells #[.string ak, .string bk, .string aj, .string bj] 29)).alloc (.cells #[.slice (some ⟨wr.heap.size + 1, 0, none⟩) 2 2, .slice (some ⟨wr.heap.size, 0, none⟩) 3 3] 22)).drew) w1.heap.size (fun k => k = wr.heap.size ∨ k = wr.heap.size + 1)) 1 ((((wr.alloc (.cells #[.string aj, .string bj, .string ak, .string bk, .string a0, .string b0] 29)).alloc (.cells #[.string ak, .string bk, .string aj, .string bj] 29)).alloc (.cells #[.slice (some ⟨wr.heap.size + 1, 0, none⟩) 2 2, .slice (some ⟨wr.heap.size, 0, none⟩) 3 3] 22)).drew) (some ⟨wr.heap.size + 2, 0, none⟩) 2 [[⟨ak, bk⟩, ⟨aj, bj⟩], [⟨aj, bj⟩, ⟨ak, bk⟩, ⟨a0, b0⟩]] := by
            have e2 : ((wr.alloc (.cells #[.string aj, .string bj, .string ak, .string bk, .string a0, .string b0] 29)).alloc (.cells #[.string ak, .string bk, .string aj, .string bj] 29)).heap.size = wr.heap.size + 2 := by simp
            have hn := heap_alloc_new ((wr.alloc (.cells #[.string aj, .string bj, .string ak, .string bk, .string a0, .string b0] 29)).alloc (.cells #[.string ak, .string bk, .string aj, .string bj] 29)) (.cells #[.slice (some ⟨wr.heap.size + 1, 0, none⟩) 2 2, .slice (some ⟨wr.heap.size, 0, none⟩) 3 3] 22)
            rw [e2] at hn
            have t := two_lits wr w1.heap.size HB.out.size [⟨aj, bj⟩, ⟨ak, bk⟩, ⟨a0, b0⟩] [⟨ak, bk⟩, ⟨aj, bj⟩] (by simp) (by simp) ((((wr.alloc (.cells #[.string aj, .string bj, .string ak, .string bk, .string a0, .string b0] 29)).alloc (.cells #[.string ak, .string bk, .string aj, .string bj] 29)).alloc (.cells #[.slice (some ⟨wr.heap.size + 1, 0, none⟩) 2 2, .slice (some ⟨wr.heap.size, 0, none⟩) 3 3] 22)).drew) (below_alloc (Below.refl _ _) _).drew
            exact two_rows hn t.2 t.1
          have o2 := hide (Kd.R_below HO.out (show Below wr.heap.size wr (((wr.alloc (.cells #[.string aj, .string bj, .string ak, .string bk, .string a0, .string b0] 29)).alloc (.cells #[.string ak, .string bk, .string aj, .string bj] 29)).alloc (.cells #[.slice (some ⟨wr.heap.size + 1, 0, none⟩) 2 2, .slice (some ⟨wr.heap.size, 0, none⟩) 3 3] 22)).drew from (below_alloc (below_alloc (below_alloc (Below.refl _ wr) _) _) _).drew))
          have b2 := hide (below_step HB.out (show Below wr.heap.size wr (((wr.alloc (.cells #[.string aj, .string bj, .string ak, .string bk, .string a0, .string b0] 29)).alloc (.cells #[.string ak, .string bk, .string aj, .string bj] 29)).alloc (.cells #[.slice (some ⟨wr.heap.size + 1, 0, none⟩) 2 2, .slice (some ⟨wr.heap.size, 0, none⟩) 3 3] 22)).drew from (below_alloc (below_alloc (below_alloc (Below.refl _ wr) _) _) _).drew))
          have M2 := hide m2
          clear m1 m2
          have HNE := hide (fun k (hk : k = wr.heap.size ∨ k = wr.heap.size + 1) => own_old HO.out (k := k) (by omega))
          have hI := allS _ (show Below w1.heap.size w1 wr.drew from HB.out.drew)
          go_region_held3 (fun W => W.cell? ⟨w.heap.size, 0, none⟩ = some (.string a0) ∧ W.cell? ⟨w.heap.size, 1, none⟩ = some (.string b0) ∧ W.cell? ⟨w.heap.size, k * 2, none⟩ = some (.string ak) ∧ W.cell? ⟨w.heap.size, k * 2 + 1, none⟩ = some (.string bk) ∧ W.cell? ⟨w.heap.size, j * 2, none⟩ = some (.string aj) ∧ W.cell? ⟨w.heap.size, j * 2 + 1, none⟩ = some (.string bj) ∧ Below w1.heap.size w1 W)
            (first | exact hI | exact allS _ HBA.out | exact allS _ (by repeat (first | exact HB.out | assumption | apply below_alloc | apply Below.drew)) | (go_split_ands; exact allS _ (by repeat (first | exact HB.out | assumption | apply below_alloc | apply Below.drew))))
            (first | (refine Kd.R_append_rows_step kl (Rr := kl.M ((((wr.alloc (.cells #[.string ak, .string bk, .string aj, .string bj] 29)).alloc (.cells #[.string aj, .string bj, .string ak, .string bk, .string a0, .string b0] 29)).alloc (.cells #[.slice (some ⟨wr.heap.size, 0, none⟩) 2 2, .slice (some ⟨wr.heap.size + 1, 0, none⟩) 3 3] 22)).drew) w1.heap.size (fun k => k = wr.heap.size ∨ k = wr.heap.size + 1)) (w0 := w1) w1.heap.size rfl (.tmp 33) (.tmp 55) 34 22 (.slice none 0 0) 24 rfl Try.underlying34 info22 rfl (by decide) (by decide) _ ls [[⟨ak, bk⟩, ⟨aj, bj⟩], [⟨aj, bj⟩, ⟨ak, bk⟩, ⟨a0, b0⟩]] (some ⟨wr.heap.size + 2, 0, none⟩) 2 2 (fun _ => True) (fun k => k = wr.heap.size ∨ k = wr.heap.size + 1) rfl rfl o1.out M1.out (fun _ _ h => h) (fun k hk => ⟨trivial, HNE.out k hk⟩) (fun _ _ => trivial) b1.out b1.out.size (by omega) ?_; intro v1 wA ho hb hg hown; have HOA := hide ho; have HBA := hide hb; clear ho hb hg hown) | (refine Kd.R_append_rows_step kl (Rr := kl.M ((((wr.alloc (.cells #[.string aj, .string bj, .string ak, .string bk, .string a0, .string b0] 29)).alloc (.cells #[.string ak, .string bk, .string aj, .string bj] 29)).alloc (.cells #[.slice (some ⟨wr.heap.size + 1, 0, none⟩) 2 2, .slice (some ⟨wr.heap.size, 0, none⟩) 3 3] 22)).drew) w1.heap.size (fun k => k = wr.heap.size ∨ k = wr.heap.size + 1)) (w0 := w1) w1.heap.size rfl (.tmp 33) (.tmp 55) 34 22 (.slice none 0 0) 24 rfl Try.underlying34 info22 rfl (by decide) (by decide) _ ls [[⟨ak, bk⟩, ⟨aj, bj⟩], [⟨aj, bj⟩, ⟨ak, bk⟩, ⟨a0, b0⟩]] (some ⟨wr.heap.size + 2, 0, none⟩) 2 2 (fun _ => True) (fun k => k = wr.heap.size ∨ k = wr.heap.size + 1) rfl rfl o2.out M2.out (fun _ _ h => h) (fun k hk => ⟨trivial, HNE.out k hk⟩) (fun _ _ => trivial) b2.out b2.out.size (by omega) ?_; intro v1 wA ho hb hg hown; have HOA := hide ho; have HBA := hide hb; clear ho hb hg hown))
          all_goals (
            go_wp2_with fail
            go_roundw
            case rel =>
              refine ⟨j + 1, ls ++ [[⟨ak, bk⟩, ⟨aj, bj⟩], [⟨aj, bj⟩, ⟨ak, bk⟩, ⟨a0, b0⟩]], by omega, by go_num, by simp; omega, ⟨few_add HF.out (fun l hl => ?_)⟩, ⟨HOA.out⟩, ⟨HBA.out⟩⟩
              rcases List.mem_cons.1 hl with rfl | hl
              · simp
              · rw [List.mem_singleton.1 hl]; simp
            case measure => simp only [intOf]; omega)
        · have hj5 : j = 5 := by omega
          subst hj5
          go_wp2_with fail
          go_roundw
          case rel => exact ⟨k + 1, ls, by omega, by go_num, by omega, ⟨HF.out⟩, ⟨HO.out⟩, ⟨HB.out⟩⟩
          case measure => simp only [intOf]; omega
    · have hk5 : k = 5 := by omega
      subst hk5
      have HM := hide (show kl.M wr w1.heap.size (fun _ => False) [] [.slice none 0 0] from ⟨_, rfl, Kd.R_nil _ _ _ _ _⟩)
      go_wp2_with (at_builtin; refine Kd.R_append kl (w0 := w1) w1.heap.size rfl (.tmp 57) (.tmp 58) 34 22 (.slice none 0 0) 24 rfl Try.underlying34 info22 rfl (by decide) (by decide) _ ls [] [.slice none 0 0] (fun _ => True) (fun _ => False) rfl rfl HM.out (fun k hk => hk.elim) (fun _ _ => trivial) HO.out HB.out HB.out.size (by omega) ?_; intro v1 w3 ho hb hg hown; have HO3 := hide ho; have HB3 := hide hb; clear ho hb hg hown)
      have hF2 : Few (ls ++ [[]]) := few_add HF.out (fun l hl => by rw [List.mem_singleton.1 hl]; simp)
      have hn2 : (ls ++ [([] : List S29)]).length = 56 := by simp; omega
      obtain ⟨L, hL⟩ : ∃ L, ls ++ [([] : List S29)] = L := ⟨_, rfl⟩
      rw [hL] at hF2 hn2 HO3
      clear hL
      obtain ⟨AL, cL, rfl, hlL, hCL⟩ := Kd.R_reads HO3.out
      rw [hn2]
      have HF2 := hide hF2
      have HN2 := hide hn2
      have HCL := hide hCL
      clear hF2 hn2 hCL HO3 HO HF HB HM
      obtain ⟨wo, hwo⟩ : ∃ wo : World, wo = wr := ⟨_, rfl⟩
      rw [← hwo] at *
      clear hwo
      go_loopw [0, 5, 6] (fun _ i _ wr => ∃ (p : Nat), p ≤ 56 ∧ i = .int .i64 p ∧ Aside0 (Kd.C kl wr AL 56 L) ∧ Aside0 (Below w1.heap.size w1 wr)) (fun _ i _ _ => 56 - (intOf i).toNat)
      case atStart => exact ⟨0, by omega, rfl, ⟨by have := HCL.out; rw [HN2.out] at this; exact this⟩, ⟨HB3.out⟩⟩
      case round =>
        clear HCL HB3
        obtain ⟨p, hp, rfl, HC, HB⟩ := hrel
        by_cases hlt3 : p < 56
        · have kp : (p : Int) < 56 := by omega
          go_wp2_with fail
          obtain ⟨w8, rfl⟩ : ∃ w8 : World, w8 = wr := ⟨_, rfl⟩
          go_loopw [0, 6] (fun _ i wr => ∃ (q : Nat), q ≤ 56 ∧ i = .int .i64 q ∧ Aside0 (Kd.C kl wr AL 56 L) ∧ Aside0 (Below w1.heap.size w1 wr)) (fun _ i _ => 56 - (intOf i).toNat)
          case atStart => exact ⟨0, by omega, rfl, ⟨HC.out⟩, ⟨HB.out⟩⟩
          case round =>
            clear HC HB
            obtain ⟨q, hq, rfl, HC, HB⟩ := hrel
            by_cases hlt4 : q < 56
            · obtain ⟨ad, l1, B1, d1, rfl, hl1, hx1, hr1⟩ := kl_get (by rw [HN2.out]; exact HC.out) HF2.out p (by rw [HN2.out]; omega)
              obtain ⟨ad', l2, B2, d2, ha, hl2, hx2, hr2⟩ := kl_get (by rw [HN2.out]; exact HC.out) HF2.out q (by rw [HN2.out]; omega)
              cases ha
              obtain ⟨m, hm⟩ : ∃ m, (p + q) % 5 = m := ⟨_, rfl⟩
              have hm5 : m < 5 := by omega
              have et : Int.tmod ((p : Int) + (q : Int)) 5 = (m : Int) := by rw [← hm]; rw [Int.tmod_eq_emod_of_nonneg (by omega)]; omega
              have ew : IntKind.i64.wrap ((p : Int) + (q : Int)) = (p : Int) + (q : Int) := IntWalk.i64_in _ (by omega)
              have hR := rds_b R0.out HB.out
              obtain ⟨bd, hA, hc0, hc1⟩ := at_T29 hR.1 (m : Int) (by omega) (by rw [HN.out]; omega)
              cases hA
              unfold rd_T29 at hc0 hc1
              rw [Int.toNat_natCast] at hc0 hc1
              have ea : (⟨w.heap.size, 0, none⟩ : Addr).add (m * 2) = ⟨w.heap.size, m * 2, none⟩ := by unfold Addr.add; split <;> simp_all
              rw [ea] at hc0 hc1
              clear ea hm
              obtain ⟨x, hx⟩ : ∃ x, O.getD m z29 = x := ⟨_, rfl⟩
              rw [hx] at hc0 hc1
              clear hx hR
              obtain ⟨a, b⟩ := x
              dsimp only at hc0 hc1
              have k1 : (p : Int) < 56 := by omega
              have k2 : (0 : Int) ≤ (p : Int) := by omega
              have k3 : (q : Int) < 56 := by omega
              have k4 : (0 : Int) ≤ (q : Int) := by omega
              have k5 : (m : Int) < 5 := by omega
              have k6 : (0 : Int) ≤ (m : Int) := by omega
              have CS : ∀ W, Rds W B1 d1 l1 → Rds W B2 d2 l2 → Calls Try.prog 16 #[.slice B1 l1.length d1, .slice B2 l2.length d2, .agg #[.string a, .string b]] W (Tells true W) := fun W h1 h2 => same B1 d1 l1 B2 d2 l2 a b W h1 h2 (by omega) (by omega)
              have HD := (Below.refl wr.heap.size wr).drew
              have hI := cellsN hx1 hx2 HD
              have hJ := cellsN hc0 hc1 HD
              have HR1 := rds_b hr1 HD
              have HR2 := rds_b hr2 HD
              go_wp2_with fail
              go_region_held3 (fun W => W.cell? (ad.add p) = some (.slice B1 l1.length d1) ∧ W.cell? (ad.add q) = some (.slice B2 l2.length d2) ∧ W.cell? ⟨w.heap.size, m * 2, none⟩ = some (.string a) ∧ W.cell? ⟨w.heap.size, m * 2 + 1, none⟩ = some (.string b) ∧ Rds W B1 d1 l1 ∧ Rds W B2 d2 l2 ∧ Below wr.heap.size wr W)
                (first | exact ⟨hI.1, hI.2, hJ.1, hJ.2, HR1, HR2, HD⟩ | ((try go_split_ands); exact ⟨(cellsN (by assumption) (by assumption) b16).1, (cellsN (by assumption) (by assumption) b16).2, (cellsN (by assumption) (by assumption) b16).1, (cellsN (by assumption) (by assumption) b16).2, rds_b (by assumption) b16, rds_b (by assumption) b16, by assumption⟩) | go_keep)
                (first | (go_at_call 16; (try go_split_ands); (with_reducible refine (CS _ (by assumption) (by assumption)).mono ?_); rintro e wn16 ⟨rfl, b16⟩; have b16w := below_step (show Below wr.heap.size wr _ from by assumption) b16))
              all_goals (
                go_wp2_with fail
                go_roundw
                case rel => exact ⟨q + 1, by omega, by go_num, ⟨Kd.C_below HC.out b16w⟩, ⟨below_step HB.out b16w⟩⟩
                case measure => simp only [intOf]; omega)
            · have hq5 : q = 56 := by omega
              subst hq5
              go_wp2_with fail
              go_roundw
              case rel => exact ⟨p + 1, by omega, by go_num, ⟨HC.out⟩, ⟨HB.out⟩⟩
              case measure => simp only [intOf]; omega
        · have hp5 : p = 56 := by omega
          subst hp5
          go_wp2_with fail
          refine (known _).mono ?_
          rintro e w9 ⟨rfl, hb⟩
          have HB9 := hide (below_step (below_step HB0.out (HB.out)) hb)
          clear hb HB HC
          dsimp only
          go_wp2_with fail
          go_ret
          exact ⟨rfl, HB9.out⟩
end Go.Proofs.Ytgjnopabdipleaa.Attrs

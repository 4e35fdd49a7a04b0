/- The walk of OpNumbers. -/
import Derived.Test.YtbljbgjecnmeeaaDoorOpTellsP
import Derived.Deep.RegionHeld3
import Derived.Outline
namespace Go.Proofs.YtbljbgjecnmeeaaDoor.OpP
open Go.RowKit Go.Proofs.YtbljbgjecnmeeaaDoor.POpTells Go.Proofs.YtbljbgjecnmeeaaDoorW.PrintWords Go.Proofs.YtbljbgjecnmeeaaDoorW.PrintLast
set_option linter.unusedVariables false
set_option linter.unusedSimpArgs false
namespace Num
/-- An operation whose guard is not met is passed over. -/
theorem strike_ {P : Program} {md : Region.Mode} {ops : Array Oper} {Q : Exit → Act → World → Prop} {S : World → Prop} {i : Nat} {oi : Oper} {fuel : Nat} {listed : Array Bool} {a : Act} {w : World} (hi : ops[i]? = some oi)
    (hs : Region.noSelect ops = true) (hf : Region.free md ops listed i = true) (hr : (Region.ready md ops listed).contains i = true)
    (hQ : ∀ c a w, Q (.panic c) (a.put oi.dst undef) w → Q (.panic c) a w) (hw : Region.wanted oi (yielded ops a.tmps) = false) (hS : S w)
    (h : wpAnyH P md ops Q S fuel (listed.setIfInBounds i true) (a.put oi.dst undef) w) : wpAnyH P md ops Q S (fuel + 1) listed a w :=
  wpAnyH_take hi hs hf hr hQ (Or.inr ⟨hw, rfl⟩) hS h
/-- The one attribute. -/
def AV : List S32 := [⟨⟨#[97]⟩, ⟨#[118]⟩⟩]
/-- An operation of the law: short, its numbers not low. -/
def NumOk (k : Int) (o : S24) : Prop := Small o ∧ o.f0 = k ∧ -1 ≤ o.f0 ∧ -1 ≤ o.f1 ∧ -1 ≤ o.f2 ∧ -1 ≤ o.f3 ∧ -1 ≤ o.f4 ∧ -1 ≤ o.f5
theorem numOk (o : S24) (h0 : -1 ≤ o.f0 ∧ o.f0 ≤ 4000000000) (h1 : -1 ≤ o.f1 ∧ o.f1 ≤ 4000000000) (h2 : -1 ≤ o.f2 ∧ o.f2 ≤ 4000000000) (h3 : -1 ≤ o.f3 ∧ o.f3 ≤ 4000000000) (h4 : -1 ≤ o.f4 ∧ o.f4 ≤ 4000000000) (h5 : -1 ≤ o.f5 ∧ o.f5 ≤ 4000000000) (h6 : o.f6.size ≤ 20) (h7 : o.f7 = [] ∨ o.f7 = AV) (h8 : o.f8.size ≤ 30) : NumOk o.f0 o :=
  ⟨⟨⟨i64_of _ h0, i64_of _ h1, i64_of _ h2, i64_of _ h3, i64_of _ h4, i64_of _ h5⟩, h6, h7.imp_right (fun h => ⟨AV, h.trans (by rfl)⟩), h8⟩, rfl, h0.1, h1.1, h2.1, h3.1, h4.1, h5.1⟩
/-- The operation is made. -/
def NumSt (w : World) (g : Nat) (k : Int) (wx : World) : Prop := ∃ (o : S24) (A7 : Option Addr) (c7 : Nat), wx.heap[g]? = some (.cells #[.int .i64 o.f0, .int .i64 o.f1, .int .i64 o.f2, .int .i64 o.f3, .int .i64 o.f4, .int .i64 o.f5, .string o.f6, .slice A7 o.f7.length c7, .string o.f8] 24 (0, 0)) ∧ k32.C wx A7 o.f7.length o.f7 ∧ o.f7.length ≤ c7 ∧ NumOk k o ∧ Below w.heap.size w wx
theorem blk_alloc {w : World} {g : Nat} {o : Obj} (h : w.heap[g]? = some o) (o' : Obj) : (w.alloc o').heap[g]? = some o := ((below_alloc (Below.refl w.heap.size w) o').block _ (blk_lt h)).trans h
theorem lit32_C {w : World} {g : Nat} {a b : ByteArray} (h : w.heap[g]? = some (.cells #[.string a, .string b] 32 (0, 0))) : k32.C w (some ⟨g, 0, none⟩) 1 [⟨a, b⟩] := by
  refine ⟨rfl, by decide, fun _ => ⟨_, rfl, fun i y hy => ?_⟩⟩
  match i, hy with
  | 0, hy =>
    obtain rfl : (⟨a, b⟩ : S32) = y := by simpa using hy
    refine ⟨[.string a, .string b], rfl, k32_mk _ _, fun j u hu => ?_⟩
    rw [add_at]
    have hc := cell_of_row w g j _ _ _ h
    rw [show 0 + (0 * k32.sz + j) = j from by omega, hc]
    simpa using hu
theorem lit24_C {w : World} {g : Nat} (o : S24) {A7 : Option Addr} {c7 : Nat} (hl : o.f7.length ≤ c7) (hC : k32.C w A7 o.f7.length o.f7) (h : w.heap[g]? = some (.cells #[.int .i64 o.f0, .int .i64 o.f1, .int .i64 o.f2, .int .i64 o.f3, .int .i64 o.f4, .int .i64 o.f5, .string o.f6, .slice A7 o.f7.length c7, .string o.f8] 24 (0, 0))) : k24.C w (some ⟨g, 0, none⟩) 1 [o] := by
  refine ⟨rfl, by decide, fun _ => ⟨_, rfl, fun i y hy => ?_⟩⟩
  match i, hy with
  | 0, hy =>
    obtain rfl : o = y := by simpa using hy
    refine ⟨_, rfl, k24_mk w o hl hC, fun j u hu => ?_⟩
    rw [add_at]
    have hc := cell_of_row w g j _ _ _ h
    rw [show 0 + (0 * k24.sz + j) = j from by omega, hc]
    simpa using hu
theorem av_C {w : World} {g : Nat} {cs : Array Value} (h : w.heap[g]? = some (.cells cs 24 (0, 0))) {v : Value} : k32.C ((w.alloc (.cells #[.string ⟨#[97]⟩, .string ⟨#[118]⟩] 32)).setCell ⟨g, 7, none⟩ v) (some ⟨w.heap.size, 0, none⟩) AV.length AV := by
  refine lit32_C ?_
  have hlt := blk_lt h
  rw [Below.heap_setCell _ _ _ _ (by show w.heap.size ≠ g; omega)]
  exact heap_alloc_new _ _
/-- What Encode hands back of one operation. -/
theorem enc1 {w : World} {o : S24} (hs : Small o) {e : Ending} {w' : World} (h : EncP w [o] e w') : Below w.heap.size w w' ∧ if rightB o = true then ∃ v, e = .returned (.tuple #[v, .int .i64 0]) ∧ Row w v (encO o) w' else e = .returned (.tuple #[.slice none 0 0, .int .i64 12]) := by
  have h1 : [o].all okB = rightB o := by
    show (okB o && true) = rightB o
    unfold okB
    rw [small_fits o hs, Bool.and_true, Bool.and_true]
  have h2 : encL [o] = encO o := by unfold encL; simp
  unfold EncP at h
  rw [h1, h2] at h
  exact h
theorem enc1_len {o : S24} (hs : Small o) : (encL [o]).length ≤ 100000000000 := by
  have := encO_len o hs
  have h2 : encL [o] = encO o := by unfold encL; simp
  rw [h2]
  omega
/-- What Encode has handed back. -/
def EncSt (o : S24) (v e : Value) (wx : World) : Prop := (rightB o = true ∧ ∃ A c, v = .slice A (encO o).length c ∧ e = .int .i64 0 ∧ kB.C wx A (encO o).length (encO o)) ∨ (rightB o = false ∧ v = .slice none 0 0 ∧ e = .int .i64 12)
theorem conv16 {W : World} {A : Option Addr} {n c : Nat} {xs : List Int} (h : kB.C W A n xs) : (convert 36 9 (.slice A n c)).run Tryd.prog W = .ok (.string (strOfNums xs)) W := Kd.C_string Tryd.underlying36 Tryd.underlying5 Tryd.underlying9 h
theorem same20 {k : Int} {o : S24} (h : NumOk k o) (hk : k ≤ 13) : sameB o ⟨20, 0, 0, 0, 0, 0, ⟨#[]⟩, [], ⟨#[]⟩⟩ = false := by
  unfold sameB
  rw [show (o.f0 == 20) = false from beq_eq_false_iff_ne.2 (by rw [h.2.1]; omega)]
  simp
/-- The last operation: too many attributes. -/
def manyO : S24 := ⟨10, 0, 0, 0, 0, 0, ⟨#[]⟩, List.replicate 65536 ⟨⟨#[]⟩, ⟨#[]⟩⟩, ⟨#[]⟩⟩
theorem many_len : (encL [manyO]).length ≤ 100000000000 := by
  have h : ∀ n : Nat, ((List.replicate n (⟨⟨#[]⟩, ⟨#[]⟩⟩ : S32)).flatMap encA).length = n * 6 := by
    intro n
    induction n with
    | zero => rfl
    | succ n ih =>
      rw [List.replicate_succ, List.flatMap_cons, List.length_append, ih]
      have : (encA (⟨⟨#[]⟩, ⟨#[]⟩⟩ : S32)).length = 6 := by decide
      omega
  have h2 : encL [manyO] = encO manyO := by unfold encL; simp
  rw [h2]
  unfold encO encH
  simp only [List.length_append, be_length, txt_length]
  have := h 65536
  have e : manyO.f7 = List.replicate 65536 ⟨⟨#[]⟩, ⟨#[]⟩⟩ := rfl
  have e6 : manyO.f6.size = 0 := rfl
  have e8 : manyO.f8.size = 0 := rfl
  rw [e, e6, e8]
  omega
theorem many_not : [manyO].all okB = false := by
  show (okB manyO && true) = false
  have e : manyO.f7.length = 65536 := by unfold manyO; exact List.length_replicate
  have hf : fitsB manyO = false := by
    unfold fitsB
    rw [e]
    simp
  unfold okB
  rw [hf]
  simp
theorem manyCall {w1 : World} {A : Option Addr} {c n : Nat} (hn : manyO.f7.length = n) (hl : n ≤ c) (hC : k32.C w1 A n manyO.f7) : Calls Tryd.prog 13 #[.slice (some ⟨w1.heap.size, 0, none⟩) 1 1] (w1.alloc (.cells #[.int .i64 10, .int .i64 0, .int .i64 0, .int .i64 0, .int .i64 0, .int .i64 0, .string ⟨#[]⟩, .slice A n c, .string ⟨#[]⟩] 24)) fun e w' => e = .returned (.tuple #[.slice none 0 0, .int .i64 12]) ∧ Below (w1.alloc (.cells #[.int .i64 10, .int .i64 0, .int .i64 0, .int .i64 0, .int .i64 0, .int .i64 0, .string ⟨#[]⟩, .slice A n c, .string ⟨#[]⟩] 24)).heap.size (w1.alloc (.cells #[.int .i64 10, .int .i64 0, .int .i64 0, .int .i64 0, .int .i64 0, .int .i64 0, .string ⟨#[]⟩, .slice A n c, .string ⟨#[]⟩] 24)) w' := by
  subst hn
  have h := encode [manyO] (some ⟨w1.heap.size, 0, none⟩) 1 (w1.alloc (.cells #[.int .i64 manyO.f0, .int .i64 manyO.f1, .int .i64 manyO.f2, .int .i64 manyO.f3, .int .i64 manyO.f4, .int .i64 manyO.f5, .string manyO.f6, .slice A manyO.f7.length c, .string manyO.f8] 24)) (lit24_C manyO hl (Kd.C_alloc hC _) (heap_alloc_new _ _)) (Nat.le_refl _) many_len
  refine Calls.mono h ?_
  rintro e w' ⟨hb, hif⟩
  rw [many_not, if_neg (by decide)] at hif
  exact ⟨hif, hb⟩
theorem many_eq : (List.replicate (65536 : Int).toNat ⟨⟨#[]⟩, ⟨#[]⟩⟩ : List S32) = manyO.f7 := by
  have e : (65536 : Int).toNat = 65536 := by omega
  rw [e]
  rfl
theorem info32 : (Tryd.prog.info? 32).map (fun i => (i.zero, i.size, i.bytes)) = some (some (.agg #[.string ⟨#[]⟩, .string ⟨#[]⟩]), 2, 32) := by kernel_rfl
set_option maxHeartbeats 20000000 in
set_option maxRecDepth 100000 in
theorem opNumbers (w : World) (ht : TabOk w) : Calls Tryd.prog 4 #[] w fun e w' => e = .returned (.bool true) ∧ Below w.heap.size w w' := by
  have HT := hide ht
  clear ht
  go_enter Tryd.func4, Tryd.ntmps4
  go_wp2_with fail
  go_loopw [1] (fun i wr => ∃ k : Int, -1 ≤ k ∧ k ≤ 14 ∧ i = .int .i64 k ∧ Aside0 (Below w.heap.size w wr)) (fun i _ => (14 - intOf i).toNat)
  case atStart => exact ⟨-1, by omega, by omega, rfl, ⟨Below.refl _ _⟩⟩
  case round =>
    obtain ⟨k, hk1, hk2, rfl, hrel⟩ := hrel
    have HB := hide hrel.out
    clear hrel
    by_cases hlt : k < 14
    · go_wp2_with fail
      obtain ⟨wo, rfl⟩ : ∃ wo : World, wo = wr := ⟨_, rfl⟩
      go_loopw [2] (fun j wr => ∃ h : Int, 0 ≤ h ∧ h ≤ 14 ∧ j = .int .i64 h ∧ Aside0 (Below w.heap.size w wr)) (fun j _ => (14 - intOf j).toNat)
      case atStart => exact ⟨0, by omega, by omega, rfl, ⟨HB.out⟩⟩
      case round =>
        obtain ⟨h, hh1, hh2, rfl, hrel⟩ := hrel
        have HB := hide hrel.out
        clear hrel
        by_cases hlh : h < 14
        · have hn1 := heap_alloc_new wr (.cells #[.int .i64 k, .int .i64 0, .int .i64 0, .int .i64 0, .int .i64 0, .int .i64 0, .string ⟨#[]⟩, .slice none 0 0, .string ⟨#[]⟩] 24)
          have b1 := below_alloc (Below.refl wr.heap.size wr) (.cells #[.int .i64 k, .int .i64 0, .int .i64 0, .int .i64 0, .int .i64 0, .int .i64 0, .string ⟨#[]⟩, .slice none 0 0, .string ⟨#[]⟩] 24)
          obtain ⟨w1, hw1⟩ : ∃ w1, wr.alloc (.cells #[.int .i64 k, .int .i64 0, .int .i64 0, .int .i64 0, .int .i64 0, .int .i64 0, .string ⟨#[]⟩, .slice none 0 0, .string ⟨#[]⟩] 24) = w1 := ⟨_, rfl⟩
          rw [hw1] at hn1 b1
          have HGE := hide HB.out.size
          obtain ⟨g, hg⟩ : ∃ g, wr.heap.size = g := ⟨_, rfl⟩
          rw [hg] at hn1 HGE
          have HO1 := hide hn1
          have HB1 := hide (below_step HB.out b1)
          have HW1 := hide hw1
          have HG := hide hg
          clear hn1 b1 hw1 hg HB
          go_upto_if 19 with fail
          rw [HW1.out, HG.out]
          have hX := HO1.out
          have fX4 := blk_frozen hX 4
          have cX4 : w1.cell? ⟨g, 4, none⟩ = some (.int .i64 0) := cell_of_row _ _ 4 _ _ _ hX
          clear hX
          go_cut [] from 12 to 119 (fun wx => ∃ t : Int, (t = 0 ∨ t = 3) ∧ wx.heap[g]? = some (.cells #[.int .i64 k, .int .i64 0, .int .i64 0, .int .i64 0, .int .i64 t, .int .i64 0, .string ⟨#[]⟩, .slice none 0 0, .string ⟨#[]⟩] 24 (0, 0)) ∧ Below w.heap.size w wx)
          case first =>
            by_cases h1 : k = 1
            · subst h1
              go_wp2_with fail
              go_meet
              exact ⟨3, .inr rfl, blk_set HO1.out 4 _, HB1.out.setCell HGE.out _⟩
            · go_wp2_with fail
              go_meet
              exact ⟨0, .inl rfl, HO1.out, HB1.out⟩
          case rest =>
            obtain ⟨t, ht3, hOc, hBc⟩ := hcut
            have HOc := hide hOc
            have HBc := hide hBc
            clear cX4 fX4 HO1 HB1 HW1
            have ht0 : 0 ≤ t ∧ t ≤ 3 := by omega
            clear ht3
            have cc0 : wc.cell? ⟨g, 0, none⟩ = some (.int .i64 k) := cell_of_row _ _ 0 _ _ _ hOc
            have cc1 : wc.cell? ⟨g, 1, none⟩ = some (.int .i64 0) := cell_of_row _ _ 1 _ _ _ hOc
            have cc2 : wc.cell? ⟨g, 2, none⟩ = some (.int .i64 0) := cell_of_row _ _ 2 _ _ _ hOc
            have cc3 : wc.cell? ⟨g, 3, none⟩ = some (.int .i64 0) := cell_of_row _ _ 3 _ _ _ hOc
            have cc4 : wc.cell? ⟨g, 4, none⟩ = some (.int .i64 t) := cell_of_row _ _ 4 _ _ _ hOc
            have cc5 : wc.cell? ⟨g, 5, none⟩ = some (.int .i64 0) := cell_of_row _ _ 5 _ _ _ hOc
            have cc6 : wc.cell? ⟨g, 6, none⟩ = some (.string ⟨#[]⟩) := cell_of_row _ _ 6 _ _ _ hOc
            have cc7 : wc.cell? ⟨g, 7, none⟩ = some (.slice none 0 0) := cell_of_row _ _ 7 _ _ _ hOc
            have cc8 : wc.cell? ⟨g, 8, none⟩ = some (.string ⟨#[]⟩) := cell_of_row _ _ 8 _ _ _ hOc
            have ff1 := blk_frozen hOc 1
            have ff2 := blk_frozen hOc 2
            have ff3 := blk_frozen hOc 3
            have ff4 := blk_frozen hOc 4
            have ff5 := blk_frozen hOc 5
            have ff6 := blk_frozen hOc 6
            have ff7 := blk_frozen hOc 7
            have ff8 := blk_frozen hOc 8
            clear hOc hBc
            go_upto_block 4 with fail
            go_cut [] from 12 to 119 (fun wx => NumSt w g k wx)
            case first =>
              have hh : h = 0 ∨ h = 1 ∨ h = 2 ∨ h = 3 ∨ h = 4 ∨ h = 5 ∨ h = 6 ∨ h = 7 ∨ h = 8 ∨ h = 9 ∨ h = 10 ∨ h = 11 ∨ h = 12 ∨ h = 13 := by omega
              rcases hh with rfl | rfl | rfl | rfl | rfl | rfl | rfl | rfl | rfl | rfl | rfl | rfl | rfl | rfl
              · go_wp2_with fail
                go_meet
                exact ⟨⟨k, 0, 0, 0, t, 0, ⟨#[]⟩, [], ⟨#[]⟩⟩, none, 0, HOc.out, Kd.C_nil _ _, Nat.le_refl _, numOk _ (by dsimp only; omega) (by dsimp only; omega) (by dsimp only; omega) (by dsimp only; omega) (by dsimp only; omega) (by dsimp only; omega) (by dsimp only; decide) (.inl rfl) (by dsimp only; decide), HBc.out⟩
              · go_wp2_with fail
                go_meet
                exact ⟨⟨k, 1, 0, 0, t, 0, ⟨#[]⟩, [], ⟨#[]⟩⟩, none, 0, blk_set HOc.out 1 _, Kd.C_nil _ _, Nat.le_refl _, numOk _ (by dsimp only; omega) (by dsimp only; omega) (by dsimp only; omega) (by dsimp only; omega) (by dsimp only; omega) (by dsimp only; omega) (by dsimp only; decide) (.inl rfl) (by dsimp only; decide), HBc.out.setCell HGE.out _⟩
              · go_wp2_with fail
                go_meet
                exact ⟨⟨k, 0, 1, 0, t, 0, ⟨#[]⟩, [], ⟨#[]⟩⟩, none, 0, blk_set HOc.out 2 _, Kd.C_nil _ _, Nat.le_refl _, numOk _ (by dsimp only; omega) (by dsimp only; omega) (by dsimp only; omega) (by dsimp only; omega) (by dsimp only; omega) (by dsimp only; omega) (by dsimp only; decide) (.inl rfl) (by dsimp only; decide), HBc.out.setCell HGE.out _⟩
              · go_wp2_with fail
                go_meet
                exact ⟨⟨k, 0, 0, 1, t, 0, ⟨#[]⟩, [], ⟨#[]⟩⟩, none, 0, blk_set HOc.out 3 _, Kd.C_nil _ _, Nat.le_refl _, numOk _ (by dsimp only; omega) (by dsimp only; omega) (by dsimp only; omega) (by dsimp only; omega) (by dsimp only; omega) (by dsimp only; omega) (by dsimp only; decide) (.inl rfl) (by dsimp only; decide), HBc.out.setCell HGE.out _⟩
              · go_wp2_with fail
                go_meet
                exact ⟨⟨k, 0, 0, 0, 2, 0, ⟨#[]⟩, [], ⟨#[]⟩⟩, none, 0, blk_set HOc.out 4 _, Kd.C_nil _ _, Nat.le_refl _, numOk _ (by dsimp only; omega) (by dsimp only; omega) (by dsimp only; omega) (by dsimp only; omega) (by dsimp only; omega) (by dsimp only; omega) (by dsimp only; decide) (.inl rfl) (by dsimp only; decide), HBc.out.setCell HGE.out _⟩
              · go_wp2_with fail
                go_meet
                exact ⟨⟨k, 0, 0, 0, 4, 0, ⟨#[]⟩, [], ⟨#[]⟩⟩, none, 0, blk_set HOc.out 4 _, Kd.C_nil _ _, Nat.le_refl _, numOk _ (by dsimp only; omega) (by dsimp only; omega) (by dsimp only; omega) (by dsimp only; omega) (by dsimp only; omega) (by dsimp only; omega) (by dsimp only; decide) (.inl rfl) (by dsimp only; decide), HBc.out.setCell HGE.out _⟩
              · go_wp2_with fail
                go_meet
                exact ⟨⟨k, 0, 0, 0, t, 2, ⟨#[]⟩, [], ⟨#[]⟩⟩, none, 0, blk_set HOc.out 5 _, Kd.C_nil _ _, Nat.le_refl _, numOk _ (by dsimp only; omega) (by dsimp only; omega) (by dsimp only; omega) (by dsimp only; omega) (by dsimp only; omega) (by dsimp only; omega) (by dsimp only; decide) (.inl rfl) (by dsimp only; decide), HBc.out.setCell HGE.out _⟩
              · go_wp2_with fail
                go_meet
                exact ⟨⟨k, 0, 0, 0, t, 3, ⟨#[]⟩, [], ⟨#[]⟩⟩, none, 0, blk_set HOc.out 5 _, Kd.C_nil _ _, Nat.le_refl _, numOk _ (by dsimp only; omega) (by dsimp only; omega) (by dsimp only; omega) (by dsimp only; omega) (by dsimp only; omega) (by dsimp only; omega) (by dsimp only; decide) (.inl rfl) (by dsimp only; decide), HBc.out.setCell HGE.out _⟩
              · go_wp2_with fail
                go_meet
                exact ⟨⟨k, 0, 0, 0, t, 0, ⟨#[110]⟩, [], ⟨#[]⟩⟩, none, 0, blk_set HOc.out 6 _, Kd.C_nil _ _, Nat.le_refl _, numOk _ (by dsimp only; omega) (by dsimp only; omega) (by dsimp only; omega) (by dsimp only; omega) (by dsimp only; omega) (by dsimp only; omega) (by dsimp only; decide) (.inl rfl) (by dsimp only; decide), HBc.out.setCell HGE.out _⟩
              · have fa7 := blk_frozen (blk_alloc HOc.out (.cells #[.string ⟨#[97]⟩, .string ⟨#[118]⟩] 32)) 7
                have ca7 := cell_of_row _ _ 7 _ _ _ (blk_alloc HOc.out (.cells #[.string ⟨#[97]⟩, .string ⟨#[118]⟩] 32))
                go_wp2_with fail
                go_meet
                exact ⟨⟨k, 0, 0, 0, t, 0, ⟨#[]⟩, AV, ⟨#[]⟩⟩, _, _, blk_set (blk_alloc HOc.out _) 7 _, av_C HOc.out, Nat.le_refl _, numOk _ (by dsimp only; omega) (by dsimp only; omega) (by dsimp only; omega) (by dsimp only; omega) (by dsimp only; omega) (by dsimp only; omega) (by dsimp only; decide) (.inr rfl) (by dsimp only; decide), (below_step HBc.out (below_alloc (Below.refl _ _) _)).setCell HGE.out _⟩
              · go_wp2_with fail
                go_meet
                exact ⟨⟨k, 0, 0, 0, t, 0, ⟨#[]⟩, [], ⟨#[116]⟩⟩, none, 0, blk_set HOc.out 8 _, Kd.C_nil _ _, Nat.le_refl _, numOk _ (by dsimp only; omega) (by dsimp only; omega) (by dsimp only; omega) (by dsimp only; omega) (by dsimp only; omega) (by dsimp only; omega) (by dsimp only; decide) (.inl rfl) (by dsimp only; decide), HBc.out.setCell HGE.out _⟩
              · go_wp2_with fail
                go_meet
                exact ⟨⟨k, 2147483647, 0, 0, t, 0, ⟨#[]⟩, [], ⟨#[]⟩⟩, none, 0, blk_set HOc.out 1 _, Kd.C_nil _ _, Nat.le_refl _, numOk _ (by dsimp only; omega) (by dsimp only; omega) (by dsimp only; omega) (by dsimp only; omega) (by dsimp only; omega) (by dsimp only; omega) (by dsimp only; decide) (.inl rfl) (by dsimp only; decide), HBc.out.setCell HGE.out _⟩
              · go_wp2_with fail
                go_meet
                exact ⟨⟨k, 2147483648, 0, 0, t, 0, ⟨#[]⟩, [], ⟨#[]⟩⟩, none, 0, blk_set HOc.out 1 _, Kd.C_nil _ _, Nat.le_refl _, numOk _ (by dsimp only; omega) (by dsimp only; omega) (by dsimp only; omega) (by dsimp only; omega) (by dsimp only; omega) (by dsimp only; omega) (by dsimp only; decide) (.inl rfl) (by dsimp only; decide), HBc.out.setCell HGE.out _⟩
              · go_wp2_with fail
                go_meet
                exact ⟨⟨k, 0, 0, (-1), t, 0, ⟨#[]⟩, [], ⟨#[]⟩⟩, none, 0, blk_set HOc.out 3 _, Kd.C_nil _ _, Nat.le_refl _, numOk _ (by dsimp only; omega) (by dsimp only; omega) (by dsimp only; omega) (by dsimp only; omega) (by dsimp only; omega) (by dsimp only; omega) (by dsimp only; decide) (.inl rfl) (by dsimp only; decide), HBc.out.setCell HGE.out _⟩
            case rest =>
              obtain ⟨⟨o0, o1, o2, o3, o4, o5, o6, o7, o8⟩, A7, c7, hO2, hC7, hl7, hok, hB2⟩ := hcut
              dsimp only at hO2 hC7 hl7
              clear ff1 ff2 ff3 ff4 ff5 ff6 ff7 ff8 cc0 cc1 cc2 cc3 cc4 cc5 cc6 cc7 cc8 HOc HBc
              have hsm := hok.1
              have hen := hide (encode [⟨o0, o1, o2, o3, o4, o5, o6, o7, o8⟩] (some ⟨wc.heap.size, 0, none⟩) 1 (wc.alloc (.cells #[.int .i64 o0, .int .i64 o1, .int .i64 o2, .int .i64 o3, .int .i64 o4, .int .i64 o5, .string o6, .slice A7 o7.length c7, .string o8] 24)) (lit24_C ⟨o0, o1, o2, o3, o4, o5, o6, o7, o8⟩ hl7 (Kd.C_alloc hC7 _) (heap_alloc_new _ _)) (Nat.le_refl _) (enc1_len hsm))
              have HEN := hide (fun e w' => enc1 (w := wc.alloc (.cells #[.int .i64 o0, .int .i64 o1, .int .i64 o2, .int .i64 o3, .int .i64 o4, .int .i64 o5, .string o6, .slice A7 o7.length c7, .string o8] 24)) (o := ⟨o0, o1, o2, o3, o4, o5, o6, o7, o8⟩) hsm (e := e) (w' := w'))
              have HBA := hide (below_step hB2 (below_alloc (Below.refl wc.heap.size wc) (.cells #[.int .i64 o0, .int .i64 o1, .int .i64 o2, .int .i64 o3, .int .i64 o4, .int .i64 o5, .string o6, .slice A7 o7.length c7, .string o8] 24)))
              have HC7 := hide (Kd.C_alloc hC7 (.cells #[.int .i64 o0, .int .i64 o1, .int .i64 o2, .int .i64 o3, .int .i64 o4, .int .i64 o5, .string o6, .slice A7 o7.length c7, .string o8] 24))
              have HO1 := hide (blk_alloc hO2 (.cells #[.int .i64 o0, .int .i64 o1, .int .i64 o2, .int .i64 o3, .int .i64 o4, .int .i64 o5, .string o6, .slice A7 o7.length c7, .string o8] 24))
              have HL7 := hide hl7
              have HOK := hide hok
              have HSM := hide hsm
              have cd0 : wc.cell? ⟨g, 0, none⟩ = some (.int .i64 o0) := cell_of_row _ _ 0 _ _ _ hO2
              have cd1 : wc.cell? ⟨g, 1, none⟩ = some (.int .i64 o1) := cell_of_row _ _ 1 _ _ _ hO2
              have cd2 : wc.cell? ⟨g, 2, none⟩ = some (.int .i64 o2) := cell_of_row _ _ 2 _ _ _ hO2
              have cd3 : wc.cell? ⟨g, 3, none⟩ = some (.int .i64 o3) := cell_of_row _ _ 3 _ _ _ hO2
              have cd4 : wc.cell? ⟨g, 4, none⟩ = some (.int .i64 o4) := cell_of_row _ _ 4 _ _ _ hO2
              have cd5 : wc.cell? ⟨g, 5, none⟩ = some (.int .i64 o5) := cell_of_row _ _ 5 _ _ _ hO2
              have cd6 : wc.cell? ⟨g, 6, none⟩ = some (.string o6) := cell_of_row _ _ 6 _ _ _ hO2
              have cd7 : wc.cell? ⟨g, 7, none⟩ = some (.slice A7 o7.length c7) := cell_of_row _ _ 7 _ _ _ hO2
              have cd8 : wc.cell? ⟨g, 8, none⟩ = some (.string o8) := cell_of_row _ _ 8 _ _ _ hO2
              clear hO2 hC7 hl7 hok hB2 hsm
              go_upto_region 37 with fail
              go_cut [4, 5] from 12 to 119 (fun v e wx => EncSt ⟨o0, o1, o2, o3, o4, o5, o6, o7, o8⟩ v e wx ∧ wx.heap[g]? = some (.cells #[.int .i64 o0, .int .i64 o1, .int .i64 o2, .int .i64 o3, .int .i64 o4, .int .i64 o5, .string o6, .slice A7 o7.length c7, .string o8] 24 (0, 0)) ∧ k32.C wx A7 o7.length o7 ∧ Below w.heap.size w wx)
              case first =>
                go_wp2_with fail
                refine hen.out.mono ?_
                rintro e w3 hE
                obtain ⟨hb3, hE2⟩ := HEN.out _ _ hE
                have HO3 := hide ((hb3.block _ (blk_lt HO1.out)).trans HO1.out)
                have HC3 := hide (Kd.C_below HC7.out hb3)
                have HB3 := hide (below_step HBA.out hb3)
                obtain ⟨rb, hrb⟩ : ∃ r, rightB ⟨o0, o1, o2, o3, o4, o5, o6, o7, o8⟩ = r := ⟨_, rfl⟩
                rw [hrb] at hE2
                have HRB := hide hrb
                clear hE hb3 hen HEN hrb cd0 cd1 cd2 cd3 cd4 cd5 cd6 cd7 cd8
                cases rb with
                | true =>
                  rw [if_pos rfl] at hE2
                  obtain ⟨v3, rfl, A3, c3, rfl, hR3, hB3⟩ := hE2
                  have HR3 := hide hR3
                  clear hR3 hB3
                  dsimp only
                  go_wp2_with fail
                  go_meet
                  exact ⟨.inl ⟨HRB.out, A3, c3, rfl, rfl, (Kd.R_reads' HR3.out).2.2⟩, HO3.out, HC3.out, HB3.out⟩
                | false =>
                  rw [if_neg (by decide)] at hE2
                  subst hE2
                  dsimp only
                  go_wp2_with fail
                  go_meet
                  exact ⟨.inr ⟨HRB.out, rfl, rfl⟩, HO3.out, HC3.out, HB3.out⟩
              case rest =>
                obtain ⟨hst, hO2, hC2, hBw⟩ := hcut
                clear cd0 cd1 cd2 cd3 cd4 cd5 cd6 cd7 cd8 hen HEN HBA HC7 HO1
                obtain ⟨w2, hw2⟩ : ∃ x, wc = x := ⟨_, rfl⟩
                subst hw2
                obtain ⟨w2, rfl⟩ : ∃ x, x = wc := ⟨_, rfl⟩
                have HST := hide hst
                have HO2 := hide hO2
                have HC2 := hide hC2
                have HBw := hide hBw
                have hsm := HSM.out
                have hok := HOK.out
                have hl7 := HL7.out
                have HR8 := hide (fun W (hb : Below w2.heap.size w2 W) => right ⟨o0, o1, o2, o3, o4, o5, o6, o7, o8⟩ A7 c7 W (Kd.C_below hC2 hb) hl7)
                have HR14 := hide (fun W (hb : Below w2.heap.size w2 W) => refRight ⟨o0, o1, o2, o3, o4, o5, o6, o7, o8⟩ A7 c7 W (Kd.C_below hC2 hb) hl7)
                have htl := text_len ⟨o0, o1, o2, o3, o4, o5, o6, o7, o8⟩ hsm.i (by have := hsm.s6; omega) hsm.s7 (by have := hsm.s8; omega)
                have hll := lineL_len ⟨o0, o1, o2, o3, o4, o5, o6, o7, o8⟩ hsm
                have hel := encO_len ⟨o0, o1, o2, o3, o4, o5, o6, o7, o8⟩ hsm
                have HT2 := hide (HT.out.below hBw)
                have HR11 := hide (fun W (hb : Below w2.heap.size w2 W) => text ⟨o0, o1, o2, o3, o4, o5, o6, o7, o8⟩ A7 c7 W (Kd.C_below hC2 hb) hsm.i (by omega) (HT2.out.below hb))
                have HR15 := hide (fun W (hb : Below w2.heap.size w2 W) => line ⟨o0, o1, o2, o3, o4, o5, o6, o7, o8⟩ A7 c7 W (Kd.C_below hC2 hb) hsm.i (by omega))
                have HR16 := hide (fun W (hb : Below w2.heap.size w2 W) => bytes ⟨o0, o1, o2, o3, o4, o5, o6, o7, o8⟩ A7 c7 W (Kd.C_below hC2 hb) (by omega))
                have HR9 := hide (fun W (hb : Below w2.heap.size w2 W) => sameOp ⟨o0, o1, o2, o3, o4, o5, o6, o7, o8⟩ ⟨o0, o1, o2, o3, o4, o5, o6, o7, o8⟩ A7 A7 c7 c7 W (Kd.C_below hC2 hb) hl7 (Kd.C_below hC2 hb) hl7)
                have HR9z := hide (fun W (hb : Below w2.heap.size w2 W) => sameOp ⟨o0, o1, o2, o3, o4, o5, o6, o7, o8⟩ ⟨20, 0, 0, 0, 0, 0, ⟨#[]⟩, [], ⟨#[]⟩⟩ A7 none c7 0 W (Kd.C_below hC2 hb) hl7 (Kd.C_nil _ _) (Nat.le_refl _))
                rw [sameB_refl] at HR9
                rw [same20 hok (by omega)] at HR9z
                dsimp only [List.length_nil] at HR8 HR14 HR11 HR15 HR9 HR9z HR16
                have hlt' : lineL ⟨o0, o1, o2, o3, o4, o5, o6, o7, o8⟩ = textL ⟨o0, o1, o2, o3, o4, o5, o6, o7, o8⟩ := line_text _ (by have := hok.2.2.1; omega) (by have := hok.2.2.2.1; omega) (by have := hok.2.2.2.2.1; omega) (by have := hok.2.2.2.2.2.1; omega) (by have := hok.2.2.2.2.2.2.1; omega) (by have := hok.2.2.2.2.2.2.2; omega)
                rw [hlt'] at HR15
                obtain ⟨rb, hrb⟩ : ∃ b, rightB ⟨o0, o1, o2, o3, o4, o5, o6, o7, o8⟩ = b := ⟨_, rfl⟩
                unfold EncSt at HST
                rw [hrb] at HR8 HR14 HST
                obtain ⟨tl, htl1⟩ : ∃ s : ByteArray, (⟨(textL ⟨o0, o1, o2, o3, o4, o5, o6, o7, o8⟩).toArray⟩ : ByteArray) = s := ⟨_, rfl⟩
                rw [htl1] at HR11 HR15
                obtain ⟨EO, hEO⟩ : ∃ s, encO ⟨o0, o1, o2, o3, o4, o5, o6, o7, o8⟩ = s := ⟨_, rfl⟩
                rw [hEO] at HR16 HST
                have ce0 : w2.cell? ⟨g, 0, none⟩ = some (.int .i64 o0) := cell_of_row _ _ 0 _ _ _ hO2
                have ce1 : w2.cell? ⟨g, 1, none⟩ = some (.int .i64 o1) := cell_of_row _ _ 1 _ _ _ hO2
                have ce2 : w2.cell? ⟨g, 2, none⟩ = some (.int .i64 o2) := cell_of_row _ _ 2 _ _ _ hO2
                have ce3 : w2.cell? ⟨g, 3, none⟩ = some (.int .i64 o3) := cell_of_row _ _ 3 _ _ _ hO2
                have ce4 : w2.cell? ⟨g, 4, none⟩ = some (.int .i64 o4) := cell_of_row _ _ 4 _ _ _ hO2
                have ce5 : w2.cell? ⟨g, 5, none⟩ = some (.int .i64 o5) := cell_of_row _ _ 5 _ _ _ hO2
                have ce6 : w2.cell? ⟨g, 6, none⟩ = some (.string o6) := cell_of_row _ _ 6 _ _ _ hO2
                have ce7 : w2.cell? ⟨g, 7, none⟩ = some (.slice A7 o7.length c7) := cell_of_row _ _ 7 _ _ _ hO2
                have ce8 : w2.cell? ⟨g, 8, none⟩ = some (.string o8) := cell_of_row _ _ 8 _ _ _ hO2
                have hrr : (rb != rb) = false := by cases rb <;> rfl
                have htt : (tl.toList != tl.toList) = false := by unfold bne; rw [show (tl.toList == tl.toList) = true from beq_self_eq_true _]; rfl
                clear hst hO2 hC2 hBw hsm hok hl7 htl hll hel hlt' hrb htl1 hEO
                go_upto_region 38 with fail
                go_cut [91] from 12 to 119 (fun v wx => v = .bool false ∧ Below w2.heap.size w2 wx)
                case first =>
                  go_region_held3 (fun W => W.cell? ⟨g, 0, none⟩ = some (.int .i64 o0) ∧ W.cell? ⟨g, 1, none⟩ = some (.int .i64 o1) ∧ W.cell? ⟨g, 2, none⟩ = some (.int .i64 o2) ∧ W.cell? ⟨g, 3, none⟩ = some (.int .i64 o3) ∧ W.cell? ⟨g, 4, none⟩ = some (.int .i64 o4) ∧ W.cell? ⟨g, 5, none⟩ = some (.int .i64 o5) ∧ W.cell? ⟨g, 6, none⟩ = some (.string o6) ∧ W.cell? ⟨g, 7, none⟩ = some (.slice A7 o7.length c7) ∧ W.cell? ⟨g, 8, none⟩ = some (.string o8) ∧ Below w2.heap.size w2 W)
                    (first | exact o9 HO2.out (Below.refl _ _) | exact o9 HO2.out (Below.drew (Below.refl _ _)) | ((try go_split_ands); exact o9 HO2.out (below_step (by assumption) b9)) | ((try go_split_ands); exact o9 HO2.out (below_step (by assumption) b15)) | ((try go_split_ands); exact o9 HO2.out (below_step (by assumption) b11)) | ((try go_split_ands); exact o9 HO2.out (below_step (by assumption) b14)) | ((try go_split_ands); exact o9 HO2.out (below_step (by assumption) b8)))
                    (first | (go_at_call 8; (try go_split_ands); (with_reducible refine (HR8.out _ (by assumption)).mono ?_); rintro e wn ⟨rfl, b8⟩) | (go_at_call 14; (try go_split_ands); (with_reducible refine (HR14.out _ (by assumption)).mono ?_); rintro e wn ⟨rfl, b14⟩) | (go_at_call 11; (try go_split_ands); (with_reducible refine (HR11.out _ (by assumption)).mono ?_); rintro e wn ⟨rfl, b11⟩) | (go_at_call 15; (try go_split_ands); (with_reducible refine (HR15.out _ (by assumption)).mono ?_); rintro e wn ⟨rfl, b15⟩) | (go_at_call 9; (try go_split_ands); (with_reducible refine (HR9.out _ (by assumption)).mono ?_); rintro e wn ⟨rfl, b9⟩) | (go_at_call 9; (try go_split_ands); (with_reducible refine (HR9z.out _ (by assumption)).mono ?_); rintro e wn ⟨rfl, b9⟩))
                  all_goals (go_wp2_with fail; go_meet; (try go_split_ands); exact ⟨rfl, by assumption⟩)
                case rest =>
                  obtain ⟨rfl, hbx⟩ := hcut
                  have HBX := hide hbx
                  clear hbx
                  go_upto_region 40 with fail
                  go_cut [119] from 12 to 119 (fun v wx => v = .bool false ∧ Below w2.heap.size w2 wx)
                  case first =>
                    have hrr2 : (true != true) = false := rfl
                    rcases HST.out with ⟨hr, A3, c3, h4, h5, hC3⟩ | ⟨hr, h4, h5⟩
                    · subst hr
                      subst h4
                      subst h5
                      have HQ7 := hide (fun W (hb : Below w2.heap.size w2 W) => conv16 (c := c3) (Kd.C_below hC3 hb))
                      obtain ⟨SE, hSE⟩ : ∃ s, strOfNums EO = s := ⟨_, rfl⟩
                      rw [hSE] at HQ7
                      have HS16 := hide hSE
                      have hse : (SE.toList != SE.toList) = false := by unfold bne; rw [show (SE.toList == SE.toList) = true from beq_self_eq_true _]; rfl
                      clear hC3 hSE
                      refine wp_region_held_drew (S := fun W => W.cell? ⟨g, 0, none⟩ = some (.int .i64 o0) ∧ W.cell? ⟨g, 1, none⟩ = some (.int .i64 o1) ∧ W.cell? ⟨g, 2, none⟩ = some (.int .i64 o2) ∧ W.cell? ⟨g, 3, none⟩ = some (.int .i64 o3) ∧ W.cell? ⟨g, 4, none⟩ = some (.int .i64 o4) ∧ W.cell? ⟨g, 5, none⟩ = some (.int .i64 o5) ∧ W.cell? ⟨g, 6, none⟩ = some (.string o6) ∧ W.cell? ⟨g, 7, none⟩ = some (.slice A7 o7.length c7) ∧ W.cell? ⟨g, 8, none⟩ = some (.string o8) ∧ Below w2.heap.size w2 W) (by kernel_rfl) (o9 HO2.out (Below.drew HBX.out)) (fun hSx => ?_)
                      first | (refine wpAnyH_take (i := 0) (oi := ?o0t) (v := ?v0t) ?ho0t (by kernel_rfl) (by kernel_rfl) (by kernel_rfl) ?hQ0t (Or.inl ⟨?hw0t, ?hy0t⟩) (by assumption) ?_; (case ho0t => (simp only [List.getElem?_toArray, List.getElem?_cons_succ, List.getElem?_cons_zero]; try rfl)); (case hQ0t => exact fun _ _ _ h => h); (case hw0t => rfl); (case hy0t => (intro w hSw; (try dsimp only at hSw); go_simp; (first | done | (with_reducible rfl)))); (try simp only [Act.put, List.setIfInBounds_toArray, List.set_cons_zero, List.set_cons_succ])) | (refine wpAnyH_ready (rs := [0]) (by kernel_rfl) (by simp) ?_; refine AllReadyH.cons (i := 0) (o := ?o0t) ?ho0t (fun K hK => ?_) AllReadyH.nil; (case ho0t => (simp only [List.getElem?_toArray, List.getElem?_cons_succ, List.getElem?_cons_zero]; try rfl)); go_simp; refine hK.out _ _ hSx (fun hSy => ?_); clear hK K; try clear hSx; have hSx := hSy; clear hSy; (try simp only [Act.put, List.setIfInBounds_toArray, List.set_cons_zero, List.set_cons_succ]))
                      refine wpAnyH_ready (rs := [1]) (by kernel_rfl) (by simp) ?_
                      refine AllReadyH.cons (i := 1) (o := ?o1t) ?ho1t (fun K hK => ?_) AllReadyH.nil
                      case ho1t => (simp only [List.getElem?_toArray, List.getElem?_cons_succ, List.getElem?_cons_zero]; try rfl)
                      go_simp
                      (first | (go_at_call 14; (try go_split_ands); (with_reducible refine (HR14.out _ (by assumption)).mono ?_); rintro e wn ⟨rfl, b14⟩) | (go_at_call 16; (try go_split_ands); (with_reducible refine (HR16.out _ (by assumption)).mono ?_); rintro e wn ⟨v16, rfl, ⟨A16, c16, rfl, hR16, b16⟩, hs16⟩; have q10 := conv16 (c := c16) (Kd.R_reads' hR16).2.2; clear hR16 hs16; rw [HS16.out] at q10))
                      refine hK.out _ _ ?kp1t (fun hSy => ?_)
                      case kp1t => ((try dsimp only); (first | exact o9 HO2.out HBX.out | exact o9 HO2.out (Below.drew HBX.out) | ((try go_split_ands); exact o9 HO2.out (below_step (by assumption) b16)) | ((try go_split_ands); exact o9 HO2.out (below_step (by assumption) b14))))
                      clear hK K
                      try clear hSx
                      have hSx := hSy
                      clear hSy
                      (try simp only [Act.put, List.setIfInBounds_toArray, List.set_cons_zero, List.set_cons_succ])
                      first | (refine wpAnyH_take (i := 2) (oi := ?o2t) (v := ?v2t) ?ho2t (by kernel_rfl) (by kernel_rfl) (by kernel_rfl) ?hQ2t (Or.inl ⟨?hw2t, ?hy2t⟩) (by assumption) ?_; (case ho2t => (simp only [List.getElem?_toArray, List.getElem?_cons_succ, List.getElem?_cons_zero]; try rfl)); (case hQ2t => exact fun _ _ _ h => h); (case hw2t => rfl); (case hy2t => (intro w hSw; (try dsimp only at hSw); go_simp; (first | done | (with_reducible rfl)))); (try simp only [Act.put, List.setIfInBounds_toArray, List.set_cons_zero, List.set_cons_succ])) | (refine wpAnyH_ready (rs := [2]) (by kernel_rfl) (by simp) ?_; refine AllReadyH.cons (i := 2) (o := ?o2t) ?ho2t (fun K hK => ?_) AllReadyH.nil; (case ho2t => (simp only [List.getElem?_toArray, List.getElem?_cons_succ, List.getElem?_cons_zero]; try rfl)); go_simp; refine hK.out _ _ hSx (fun hSy => ?_); clear hK K; try clear hSx; have hSx := hSy; clear hSy; (try simp only [Act.put, List.setIfInBounds_toArray, List.set_cons_zero, List.set_cons_succ]))
                      first | (refine wpAnyH_take (i := 3) (oi := ?o3t) (v := ?v3t) ?ho3t (by kernel_rfl) (by kernel_rfl) (by kernel_rfl) ?hQ3t (Or.inl ⟨?hw3t, ?hy3t⟩) (by assumption) ?_; (case ho3t => (simp only [List.getElem?_toArray, List.getElem?_cons_succ, List.getElem?_cons_zero]; try rfl)); (case hQ3t => exact fun _ _ _ h => h); (case hw3t => rfl); (case hy3t => (intro w hSw; (try dsimp only at hSw); go_simp; (first | done | (with_reducible rfl)))); (try simp only [Act.put, List.setIfInBounds_toArray, List.set_cons_zero, List.set_cons_succ])) | (refine wpAnyH_ready (rs := [3]) (by kernel_rfl) (by simp) ?_; refine AllReadyH.cons (i := 3) (o := ?o3t) ?ho3t (fun K hK => ?_) AllReadyH.nil; (case ho3t => (simp only [List.getElem?_toArray, List.getElem?_cons_succ, List.getElem?_cons_zero]; try rfl)); go_simp; refine hK.out _ _ hSx (fun hSy => ?_); clear hK K; try clear hSx; have hSx := hSy; clear hSy; (try simp only [Act.put, List.setIfInBounds_toArray, List.set_cons_zero, List.set_cons_succ]))
                      first | (refine wpAnyH_take (i := 4) (oi := ?o4t) (v := ?v4t) ?ho4t (by kernel_rfl) (by kernel_rfl) (by kernel_rfl) ?hQ4t (Or.inl ⟨?hw4t, ?hy4t⟩) (by assumption) ?_; (case ho4t => (simp only [List.getElem?_toArray, List.getElem?_cons_succ, List.getElem?_cons_zero]; try rfl)); (case hQ4t => exact fun _ _ _ h => h); (case hw4t => rfl); (case hy4t => (intro w hSw; (try dsimp only at hSw); go_simp; (first | done | (with_reducible rfl)))); (try simp only [Act.put, List.setIfInBounds_toArray, List.set_cons_zero, List.set_cons_succ])) | (refine wpAnyH_ready (rs := [4]) (by kernel_rfl) (by simp) ?_; refine AllReadyH.cons (i := 4) (o := ?o4t) ?ho4t (fun K hK => ?_) AllReadyH.nil; (case ho4t => (simp only [List.getElem?_toArray, List.getElem?_cons_succ, List.getElem?_cons_zero]; try rfl)); go_simp; refine hK.out _ _ hSx (fun hSy => ?_); clear hK K; try clear hSx; have hSx := hSy; clear hSy; (try simp only [Act.put, List.setIfInBounds_toArray, List.set_cons_zero, List.set_cons_succ]))
                      first | (refine wpAnyH_take (i := 5) (oi := ?o5t) (v := ?v5t) ?ho5t (by kernel_rfl) (by kernel_rfl) (by kernel_rfl) ?hQ5t (Or.inl ⟨?hw5t, ?hy5t⟩) (by assumption) ?_; (case ho5t => (simp only [List.getElem?_toArray, List.getElem?_cons_succ, List.getElem?_cons_zero]; try rfl)); (case hQ5t => exact fun _ _ _ h => h); (case hw5t => rfl); (case hy5t => (intro w hSw; (try dsimp only at hSw); go_simp; (first | done | (with_reducible rfl)))); (try simp only [Act.put, List.setIfInBounds_toArray, List.set_cons_zero, List.set_cons_succ])) | (refine wpAnyH_ready (rs := [5]) (by kernel_rfl) (by simp) ?_; refine AllReadyH.cons (i := 5) (o := ?o5t) ?ho5t (fun K hK => ?_) AllReadyH.nil; (case ho5t => (simp only [List.getElem?_toArray, List.getElem?_cons_succ, List.getElem?_cons_zero]; try rfl)); go_simp; refine hK.out _ _ hSx (fun hSy => ?_); clear hK K; try clear hSx; have hSx := hSy; clear hSy; (try simp only [Act.put, List.setIfInBounds_toArray, List.set_cons_zero, List.set_cons_succ]))
                      first | (refine wpAnyH_take (i := 6) (oi := ?o6t) (v := ?v6t) ?ho6t (by kernel_rfl) (by kernel_rfl) (by kernel_rfl) ?hQ6t (Or.inl ⟨?hw6t, ?hy6t⟩) (by assumption) ?_; (case ho6t => (simp only [List.getElem?_toArray, List.getElem?_cons_succ, List.getElem?_cons_zero]; try rfl)); (case hQ6t => exact fun _ _ _ h => h); (case hw6t => rfl); (case hy6t => (intro w hSw; (try dsimp only at hSw); go_simp; (first | done | (with_reducible rfl)))); (try simp only [Act.put, List.setIfInBounds_toArray, List.set_cons_zero, List.set_cons_succ])) | (refine wpAnyH_ready (rs := [6]) (by kernel_rfl) (by simp) ?_; refine AllReadyH.cons (i := 6) (o := ?o6t) ?ho6t (fun K hK => ?_) AllReadyH.nil; (case ho6t => (simp only [List.getElem?_toArray, List.getElem?_cons_succ, List.getElem?_cons_zero]; try rfl)); go_simp; refine hK.out _ _ hSx (fun hSy => ?_); clear hK K; try clear hSx; have hSx := hSy; clear hSy; (try simp only [Act.put, List.setIfInBounds_toArray, List.set_cons_zero, List.set_cons_succ]))
                      first | (refine wpAnyH_take (i := 7) (oi := ?o7t) (v := ?v7t) ?ho7t (by kernel_rfl) (by kernel_rfl) (by kernel_rfl) ?hQ7t (Or.inl ⟨?hw7t, ?hy7t⟩) (by assumption) ?_; (case ho7t => (simp only [List.getElem?_toArray, List.getElem?_cons_succ, List.getElem?_cons_zero]; try rfl)); (case hQ7t => exact fun _ _ _ h => h); (case hw7t => rfl); (case hy7t => (intro w hSw; (try dsimp only at hSw); have q7 := HQ7.out w hSw.2.2.2.2.2.2.2.2.2; go_simp; (first | done | (with_reducible rfl)))); (try simp only [Act.put, List.setIfInBounds_toArray, List.set_cons_zero, List.set_cons_succ])) | (refine wpAnyH_ready (rs := [7]) (by kernel_rfl) (by simp) ?_; refine AllReadyH.cons (i := 7) (o := ?o7t) ?ho7t (fun K hK => ?_) AllReadyH.nil; (case ho7t => (simp only [List.getElem?_toArray, List.getElem?_cons_succ, List.getElem?_cons_zero]; try rfl)); go_simp; refine hK.out _ _ hSx (fun hSy => ?_); clear hK K; try clear hSx; have hSx := hSy; clear hSy; (try simp only [Act.put, List.setIfInBounds_toArray, List.set_cons_zero, List.set_cons_succ]))
                      first | (refine wpAnyH_take (i := 8) (oi := ?o8t) (v := ?v8t) ?ho8t (by kernel_rfl) (by kernel_rfl) (by kernel_rfl) ?hQ8t (Or.inl ⟨?hw8t, ?hy8t⟩) (by assumption) ?_; (case ho8t => (simp only [List.getElem?_toArray, List.getElem?_cons_succ, List.getElem?_cons_zero]; try rfl)); (case hQ8t => exact fun _ _ _ h => h); (case hw8t => rfl); (case hy8t => (intro w hSw; (try dsimp only at hSw); go_simp; (first | done | (with_reducible rfl)))); (try simp only [Act.put, List.setIfInBounds_toArray, List.set_cons_zero, List.set_cons_succ])) | (refine wpAnyH_ready (rs := [8]) (by kernel_rfl) (by simp) ?_; refine AllReadyH.cons (i := 8) (o := ?o8t) ?ho8t (fun K hK => ?_) AllReadyH.nil; (case ho8t => (simp only [List.getElem?_toArray, List.getElem?_cons_succ, List.getElem?_cons_zero]; try rfl)); go_simp; refine hK.out _ _ hSx (fun hSy => ?_); clear hK K; try clear hSx; have hSx := hSy; clear hSy; (try simp only [Act.put, List.setIfInBounds_toArray, List.set_cons_zero, List.set_cons_succ]))
                      refine wpAnyH_ready (rs := [9]) (by kernel_rfl) (by simp) ?_
                      refine AllReadyH.cons (i := 9) (o := ?o9t) ?ho9t (fun K hK => ?_) AllReadyH.nil
                      case ho9t => (simp only [List.getElem?_toArray, List.getElem?_cons_succ, List.getElem?_cons_zero]; try rfl)
                      go_simp
                      (first | (go_at_call 14; (try go_split_ands); (with_reducible refine (HR14.out _ (by assumption)).mono ?_); rintro e wn ⟨rfl, b14⟩) | (go_at_call 16; (try go_split_ands); (with_reducible refine (HR16.out _ (by assumption)).mono ?_); rintro e wn ⟨v16, rfl, ⟨A16, c16, rfl, hR16, b16⟩, hs16⟩; have q10 := conv16 (c := c16) (Kd.R_reads' hR16).2.2; clear hR16 hs16; rw [HS16.out] at q10))
                      refine hK.out _ _ ?kp9t (fun hSy => ?_)
                      case kp9t => ((try dsimp only); (first | exact o9 HO2.out HBX.out | exact o9 HO2.out (Below.drew HBX.out) | ((try go_split_ands); exact o9 HO2.out (below_step (by assumption) b16)) | ((try go_split_ands); exact o9 HO2.out (below_step (by assumption) b14))))
                      clear hK K
                      try clear hSx
                      have hSx := hSy
                      clear hSy
                      (try simp only [Act.put, List.setIfInBounds_toArray, List.set_cons_zero, List.set_cons_succ])
                      first | (refine wpAnyH_take (i := 10) (oi := ?o10t) (v := ?v10t) ?ho10t (by kernel_rfl) (by kernel_rfl) (by kernel_rfl) ?hQ10t (Or.inl ⟨?hw10t, ?hy10t⟩) (by assumption) ?_; (case ho10t => (simp only [List.getElem?_toArray, List.getElem?_cons_succ, List.getElem?_cons_zero]; try rfl)); (case hQ10t => exact fun _ _ _ h => h); (case hw10t => rfl); (case hy10t => (intro w hSw; (try dsimp only at hSw); go_simp; (first | done | (with_reducible rfl)))); (try simp only [Act.put, List.setIfInBounds_toArray, List.set_cons_zero, List.set_cons_succ])) | (refine wpAnyH_ready (rs := [10]) (by kernel_rfl) (by simp) ?_; refine AllReadyH.cons (i := 10) (o := ?o10t) ?ho10t (fun K hK => ?_) AllReadyH.nil; (case ho10t => (simp only [List.getElem?_toArray, List.getElem?_cons_succ, List.getElem?_cons_zero]; try rfl)); go_simp; refine hK.out _ _ hSx (fun hSy => ?_); clear hK K; try clear hSx; have hSx := hSy; clear hSy; (try simp only [Act.put, List.setIfInBounds_toArray, List.set_cons_zero, List.set_cons_succ]))
                      first | (refine wpAnyH_take (i := 11) (oi := ?o11t) (v := ?v11t) ?ho11t (by kernel_rfl) (by kernel_rfl) (by kernel_rfl) ?hQ11t (Or.inl ⟨?hw11t, ?hy11t⟩) (by assumption) ?_; (case ho11t => (simp only [List.getElem?_toArray, List.getElem?_cons_succ, List.getElem?_cons_zero]; try rfl)); (case hQ11t => exact fun _ _ _ h => h); (case hw11t => rfl); (case hy11t => (intro w hSw; (try dsimp only at hSw); go_simp; (first | done | (with_reducible rfl)))); (try simp only [Act.put, List.setIfInBounds_toArray, List.set_cons_zero, List.set_cons_succ])) | (refine wpAnyH_ready (rs := [11]) (by kernel_rfl) (by simp) ?_; refine AllReadyH.cons (i := 11) (o := ?o11t) ?ho11t (fun K hK => ?_) AllReadyH.nil; (case ho11t => (simp only [List.getElem?_toArray, List.getElem?_cons_succ, List.getElem?_cons_zero]; try rfl)); go_simp; refine hK.out _ _ hSx (fun hSy => ?_); clear hK K; try clear hSx; have hSx := hSy; clear hSy; (try simp only [Act.put, List.setIfInBounds_toArray, List.set_cons_zero, List.set_cons_succ]))
                      first | (refine wpAnyH_take (i := 12) (oi := ?o12t) (v := ?v12t) ?ho12t (by kernel_rfl) (by kernel_rfl) (by kernel_rfl) ?hQ12t (Or.inl ⟨?hw12t, ?hy12t⟩) (by assumption) ?_; (case ho12t => (simp only [List.getElem?_toArray, List.getElem?_cons_succ, List.getElem?_cons_zero]; try rfl)); (case hQ12t => exact fun _ _ _ h => h); (case hw12t => rfl); (case hy12t => (intro w hSw; (try dsimp only at hSw); go_simp; (first | done | (with_reducible rfl)))); (try simp only [Act.put, List.setIfInBounds_toArray, List.set_cons_zero, List.set_cons_succ])) | (refine wpAnyH_ready (rs := [12]) (by kernel_rfl) (by simp) ?_; refine AllReadyH.cons (i := 12) (o := ?o12t) ?ho12t (fun K hK => ?_) AllReadyH.nil; (case ho12t => (simp only [List.getElem?_toArray, List.getElem?_cons_succ, List.getElem?_cons_zero]; try rfl)); go_simp; refine hK.out _ _ hSx (fun hSy => ?_); clear hK K; try clear hSx; have hSx := hSy; clear hSy; (try simp only [Act.put, List.setIfInBounds_toArray, List.set_cons_zero, List.set_cons_succ]))
                      first | (refine wpAnyH_take (i := 13) (oi := ?o13t) (v := ?v13t) ?ho13t (by kernel_rfl) (by kernel_rfl) (by kernel_rfl) ?hQ13t (Or.inl ⟨?hw13t, ?hy13t⟩) (by assumption) ?_; (case ho13t => (simp only [List.getElem?_toArray, List.getElem?_cons_succ, List.getElem?_cons_zero]; try rfl)); (case hQ13t => exact fun _ _ _ h => h); (case hw13t => rfl); (case hy13t => (intro w hSw; (try dsimp only at hSw); go_simp; (first | done | (with_reducible rfl)))); (try simp only [Act.put, List.setIfInBounds_toArray, List.set_cons_zero, List.set_cons_succ])) | (refine wpAnyH_ready (rs := [13]) (by kernel_rfl) (by simp) ?_; refine AllReadyH.cons (i := 13) (o := ?o13t) ?ho13t (fun K hK => ?_) AllReadyH.nil; (case ho13t => (simp only [List.getElem?_toArray, List.getElem?_cons_succ, List.getElem?_cons_zero]; try rfl)); go_simp; refine hK.out _ _ hSx (fun hSy => ?_); clear hK K; try clear hSx; have hSx := hSy; clear hSy; (try simp only [Act.put, List.setIfInBounds_toArray, List.set_cons_zero, List.set_cons_succ]))
                      first | (refine wpAnyH_take (i := 14) (oi := ?o14t) (v := ?v14t) ?ho14t (by kernel_rfl) (by kernel_rfl) (by kernel_rfl) ?hQ14t (Or.inl ⟨?hw14t, ?hy14t⟩) (by assumption) ?_; (case ho14t => (simp only [List.getElem?_toArray, List.getElem?_cons_succ, List.getElem?_cons_zero]; try rfl)); (case hQ14t => exact fun _ _ _ h => h); (case hw14t => rfl); (case hy14t => (intro w hSw; (try dsimp only at hSw); go_simp; (first | done | (with_reducible rfl)))); (try simp only [Act.put, List.setIfInBounds_toArray, List.set_cons_zero, List.set_cons_succ])) | (refine wpAnyH_ready (rs := [14]) (by kernel_rfl) (by simp) ?_; refine AllReadyH.cons (i := 14) (o := ?o14t) ?ho14t (fun K hK => ?_) AllReadyH.nil; (case ho14t => (simp only [List.getElem?_toArray, List.getElem?_cons_succ, List.getElem?_cons_zero]; try rfl)); go_simp; refine hK.out _ _ hSx (fun hSy => ?_); clear hK K; try clear hSx; have hSx := hSy; clear hSy; (try simp only [Act.put, List.setIfInBounds_toArray, List.set_cons_zero, List.set_cons_succ]))
                      first | (refine wpAnyH_take (i := 15) (oi := ?o15t) (v := ?v15t) ?ho15t (by kernel_rfl) (by kernel_rfl) (by kernel_rfl) ?hQ15t (Or.inl ⟨?hw15t, ?hy15t⟩) (by assumption) ?_; (case ho15t => (simp only [List.getElem?_toArray, List.getElem?_cons_succ, List.getElem?_cons_zero]; try rfl)); (case hQ15t => exact fun _ _ _ h => h); (case hw15t => rfl); (case hy15t => (intro w hSw; (try dsimp only at hSw); go_simp; (first | done | (with_reducible rfl)))); (try simp only [Act.put, List.setIfInBounds_toArray, List.set_cons_zero, List.set_cons_succ])) | (refine wpAnyH_ready (rs := [15]) (by kernel_rfl) (by simp) ?_; refine AllReadyH.cons (i := 15) (o := ?o15t) ?ho15t (fun K hK => ?_) AllReadyH.nil; (case ho15t => (simp only [List.getElem?_toArray, List.getElem?_cons_succ, List.getElem?_cons_zero]; try rfl)); go_simp; refine hK.out _ _ hSx (fun hSy => ?_); clear hK K; try clear hSx; have hSx := hSy; clear hSy; (try simp only [Act.put, List.setIfInBounds_toArray, List.set_cons_zero, List.set_cons_succ]))
                      refine wpAnyH_ready (rs := [16]) (by kernel_rfl) (by simp) ?_
                      refine AllReadyH.cons (i := 16) (o := ?o16t) ?ho16t (fun K hK => ?_) AllReadyH.nil
                      case ho16t => (simp only [List.getElem?_toArray, List.getElem?_cons_succ, List.getElem?_cons_zero]; try rfl)
                      go_simp
                      (first | (go_at_call 14; (try go_split_ands); (with_reducible refine (HR14.out _ (by assumption)).mono ?_); rintro e wn ⟨rfl, b14⟩) | (go_at_call 16; (try go_split_ands); (with_reducible refine (HR16.out _ (by assumption)).mono ?_); rintro e wn ⟨v16, rfl, ⟨A16, c16, rfl, hR16, b16⟩, hs16⟩; have q10 := conv16 (c := c16) (Kd.R_reads' hR16).2.2; clear hR16 hs16; rw [HS16.out] at q10))
                      refine hK.out _ _ ?kp16t (fun hSy => ?_)
                      case kp16t => ((try dsimp only); (first | exact o9 HO2.out HBX.out | exact o9 HO2.out (Below.drew HBX.out) | ((try go_split_ands); exact o9 HO2.out (below_step (by assumption) b16)) | ((try go_split_ands); exact o9 HO2.out (below_step (by assumption) b14))))
                      clear hK K
                      try clear hSx
                      have hSx := hSy
                      clear hSy
                      (try simp only [Act.put, List.setIfInBounds_toArray, List.set_cons_zero, List.set_cons_succ])
                      first | (refine wpAnyH_take (i := 17) (oi := ?o17t) (v := ?v17t) ?ho17t (by kernel_rfl) (by kernel_rfl) (by kernel_rfl) ?hQ17t (Or.inl ⟨?hw17t, ?hy17t⟩) (by assumption) ?_; (case ho17t => (simp only [List.getElem?_toArray, List.getElem?_cons_succ, List.getElem?_cons_zero]; try rfl)); (case hQ17t => exact fun _ _ _ h => h); (case hw17t => rfl); (case hy17t => (intro w hSw; (try dsimp only at hSw); go_simp; (first | done | (with_reducible rfl)))); (try simp only [Act.put, List.setIfInBounds_toArray, List.set_cons_zero, List.set_cons_succ])) | (refine wpAnyH_ready (rs := [17]) (by kernel_rfl) (by simp) ?_; refine AllReadyH.cons (i := 17) (o := ?o17t) ?ho17t (fun K hK => ?_) AllReadyH.nil; (case ho17t => (simp only [List.getElem?_toArray, List.getElem?_cons_succ, List.getElem?_cons_zero]; try rfl)); go_simp; refine hK.out _ _ hSx (fun hSy => ?_); clear hK K; try clear hSx; have hSx := hSy; clear hSy; (try simp only [Act.put, List.setIfInBounds_toArray, List.set_cons_zero, List.set_cons_succ]))
                      first | (refine wpAnyH_take (i := 18) (oi := ?o18t) (v := ?v18t) ?ho18t (by kernel_rfl) (by kernel_rfl) (by kernel_rfl) ?hQ18t (Or.inl ⟨?hw18t, ?hy18t⟩) (by assumption) ?_; (case ho18t => (simp only [List.getElem?_toArray, List.getElem?_cons_succ, List.getElem?_cons_zero]; try rfl)); (case hQ18t => exact fun _ _ _ h => h); (case hw18t => rfl); (case hy18t => (intro w hSw; (try dsimp only at hSw); go_simp; (first | done | (with_reducible rfl)))); (try simp only [Act.put, List.setIfInBounds_toArray, List.set_cons_zero, List.set_cons_succ])) | (refine wpAnyH_ready (rs := [18]) (by kernel_rfl) (by simp) ?_; refine AllReadyH.cons (i := 18) (o := ?o18t) ?ho18t (fun K hK => ?_) AllReadyH.nil; (case ho18t => (simp only [List.getElem?_toArray, List.getElem?_cons_succ, List.getElem?_cons_zero]; try rfl)); go_simp; refine hK.out _ _ hSx (fun hSy => ?_); clear hK K; try clear hSx; have hSx := hSy; clear hSy; (try simp only [Act.put, List.setIfInBounds_toArray, List.set_cons_zero, List.set_cons_succ]))
                      refine strike_ (i := 19) (oi := ?o19t) ?ho19t (by kernel_rfl) (by kernel_rfl) (by kernel_rfl) ?hQ19t ?hw19t (by assumption) ?_
                      case ho19t => (simp only [List.getElem?_toArray, List.getElem?_cons_succ, List.getElem?_cons_zero]; try rfl)
                      case hQ19t => exact fun _ _ _ h => h
                      case hw19t => rfl
                      (try simp only [Act.put, List.setIfInBounds_toArray, List.set_cons_zero, List.set_cons_succ])
                      refine strike_ (i := 20) (oi := ?o20t) ?ho20t (by kernel_rfl) (by kernel_rfl) (by kernel_rfl) ?hQ20t ?hw20t (by assumption) ?_
                      case ho20t => (simp only [List.getElem?_toArray, List.getElem?_cons_succ, List.getElem?_cons_zero]; try rfl)
                      case hQ20t => exact fun _ _ _ h => h
                      case hw20t => rfl
                      (try simp only [Act.put, List.setIfInBounds_toArray, List.set_cons_zero, List.set_cons_succ])
                      refine strike_ (i := 21) (oi := ?o21t) ?ho21t (by kernel_rfl) (by kernel_rfl) (by kernel_rfl) ?hQ21t ?hw21t (by assumption) ?_
                      case ho21t => (simp only [List.getElem?_toArray, List.getElem?_cons_succ, List.getElem?_cons_zero]; try rfl)
                      case hQ21t => exact fun _ _ _ h => h
                      case hw21t => rfl
                      (try simp only [Act.put, List.setIfInBounds_toArray, List.set_cons_zero, List.set_cons_succ])
                      refine strike_ (i := 22) (oi := ?o22t) ?ho22t (by kernel_rfl) (by kernel_rfl) (by kernel_rfl) ?hQ22t ?hw22t (by assumption) ?_
                      case ho22t => (simp only [List.getElem?_toArray, List.getElem?_cons_succ, List.getElem?_cons_zero]; try rfl)
                      case hQ22t => exact fun _ _ _ h => h
                      case hw22t => rfl
                      (try simp only [Act.put, List.setIfInBounds_toArray, List.set_cons_zero, List.set_cons_succ])
                      refine strike_ (i := 23) (oi := ?o23t) ?ho23t (by kernel_rfl) (by kernel_rfl) (by kernel_rfl) ?hQ23t ?hw23t (by assumption) ?_
                      case ho23t => (simp only [List.getElem?_toArray, List.getElem?_cons_succ, List.getElem?_cons_zero]; try rfl)
                      case hQ23t => exact fun _ _ _ h => h
                      case hw23t => rfl
                      (try simp only [Act.put, List.setIfInBounds_toArray, List.set_cons_zero, List.set_cons_succ])
                      refine strike_ (i := 24) (oi := ?o24t) ?ho24t (by kernel_rfl) (by kernel_rfl) (by kernel_rfl) ?hQ24t ?hw24t (by assumption) ?_
                      case ho24t => (simp only [List.getElem?_toArray, List.getElem?_cons_succ, List.getElem?_cons_zero]; try rfl)
                      case hQ24t => exact fun _ _ _ h => h
                      case hw24t => rfl
                      (try simp only [Act.put, List.setIfInBounds_toArray, List.set_cons_zero, List.set_cons_succ])
                      refine strike_ (i := 25) (oi := ?o25t) ?ho25t (by kernel_rfl) (by kernel_rfl) (by kernel_rfl) ?hQ25t ?hw25t (by assumption) ?_
                      case ho25t => (simp only [List.getElem?_toArray, List.getElem?_cons_succ, List.getElem?_cons_zero]; try rfl)
                      case hQ25t => exact fun _ _ _ h => h
                      case hw25t => rfl
                      (try simp only [Act.put, List.setIfInBounds_toArray, List.set_cons_zero, List.set_cons_succ])
                      first | (refine wpAnyH_take (i := 26) (oi := ?o26t) (v := ?v26t) ?ho26t (by kernel_rfl) (by kernel_rfl) (by kernel_rfl) ?hQ26t (Or.inl ⟨?hw26t, ?hy26t⟩) (by assumption) ?_; (case ho26t => (simp only [List.getElem?_toArray, List.getElem?_cons_succ, List.getElem?_cons_zero]; try rfl)); (case hQ26t => exact fun _ _ _ h => h); (case hw26t => rfl); (case hy26t => (intro w hSw; (try dsimp only at hSw); go_simp; (first | done | (with_reducible rfl)))); (try simp only [Act.put, List.setIfInBounds_toArray, List.set_cons_zero, List.set_cons_succ])) | (refine wpAnyH_ready (rs := [26]) (by kernel_rfl) (by simp) ?_; refine AllReadyH.cons (i := 26) (o := ?o26t) ?ho26t (fun K hK => ?_) AllReadyH.nil; (case ho26t => (simp only [List.getElem?_toArray, List.getElem?_cons_succ, List.getElem?_cons_zero]; try rfl)); go_simp; refine hK.out _ _ hSx (fun hSy => ?_); clear hK K; try clear hSx; have hSx := hSy; clear hSy; (try simp only [Act.put, List.setIfInBounds_toArray, List.set_cons_zero, List.set_cons_succ]))
                      first | (refine wpAnyH_take (i := 27) (oi := ?o27t) (v := ?v27t) ?ho27t (by kernel_rfl) (by kernel_rfl) (by kernel_rfl) ?hQ27t (Or.inl ⟨?hw27t, ?hy27t⟩) (by assumption) ?_; (case ho27t => (simp only [List.getElem?_toArray, List.getElem?_cons_succ, List.getElem?_cons_zero]; try rfl)); (case hQ27t => exact fun _ _ _ h => h); (case hw27t => rfl); (case hy27t => (intro w hSw; (try dsimp only at hSw); go_simp; (first | done | (with_reducible rfl)))); (try simp only [Act.put, List.setIfInBounds_toArray, List.set_cons_zero, List.set_cons_succ])) | (refine wpAnyH_ready (rs := [27]) (by kernel_rfl) (by simp) ?_; refine AllReadyH.cons (i := 27) (o := ?o27t) ?ho27t (fun K hK => ?_) AllReadyH.nil; (case ho27t => (simp only [List.getElem?_toArray, List.getElem?_cons_succ, List.getElem?_cons_zero]; try rfl)); go_simp; refine hK.out _ _ hSx (fun hSy => ?_); clear hK K; try clear hSx; have hSx := hSy; clear hSy; (try simp only [Act.put, List.setIfInBounds_toArray, List.set_cons_zero, List.set_cons_succ]))
                      refine wpAnyH_done (by kernel_rfl) ?_ _
                      (go_wp2_with fail; go_meet; (try go_split_ands); exact ⟨rfl, by assumption⟩)
                    · subst hr
                      subst h4
                      subst h5
                      refine wp_region_held_drew (S := fun W => W.cell? ⟨g, 0, none⟩ = some (.int .i64 o0) ∧ W.cell? ⟨g, 1, none⟩ = some (.int .i64 o1) ∧ W.cell? ⟨g, 2, none⟩ = some (.int .i64 o2) ∧ W.cell? ⟨g, 3, none⟩ = some (.int .i64 o3) ∧ W.cell? ⟨g, 4, none⟩ = some (.int .i64 o4) ∧ W.cell? ⟨g, 5, none⟩ = some (.int .i64 o5) ∧ W.cell? ⟨g, 6, none⟩ = some (.string o6) ∧ W.cell? ⟨g, 7, none⟩ = some (.slice A7 o7.length c7) ∧ W.cell? ⟨g, 8, none⟩ = some (.string o8) ∧ Below w2.heap.size w2 W) (by kernel_rfl) (o9 HO2.out (Below.drew HBX.out)) (fun hSx => ?_)
                      first | (refine wpAnyH_take (i := 0) (oi := ?o0f) (v := ?v0f) ?ho0f (by kernel_rfl) (by kernel_rfl) (by kernel_rfl) ?hQ0f (Or.inl ⟨?hw0f, ?hy0f⟩) (by assumption) ?_; (case ho0f => (simp only [List.getElem?_toArray, List.getElem?_cons_succ, List.getElem?_cons_zero]; try rfl)); (case hQ0f => exact fun _ _ _ h => h); (case hw0f => rfl); (case hy0f => (intro w hSw; (try dsimp only at hSw); go_simp; (first | done | (with_reducible rfl)))); (try simp only [Act.put, List.setIfInBounds_toArray, List.set_cons_zero, List.set_cons_succ])) | (refine wpAnyH_ready (rs := [0]) (by kernel_rfl) (by simp) ?_; refine AllReadyH.cons (i := 0) (o := ?o0f) ?ho0f (fun K hK => ?_) AllReadyH.nil; (case ho0f => (simp only [List.getElem?_toArray, List.getElem?_cons_succ, List.getElem?_cons_zero]; try rfl)); go_simp; refine hK.out _ _ hSx (fun hSy => ?_); clear hK K; try clear hSx; have hSx := hSy; clear hSy; (try simp only [Act.put, List.setIfInBounds_toArray, List.set_cons_zero, List.set_cons_succ]))
                      refine wpAnyH_ready (rs := [1]) (by kernel_rfl) (by simp) ?_
                      refine AllReadyH.cons (i := 1) (o := ?o1f) ?ho1f (fun K hK => ?_) AllReadyH.nil
                      case ho1f => (simp only [List.getElem?_toArray, List.getElem?_cons_succ, List.getElem?_cons_zero]; try rfl)
                      go_simp
                      (first | (go_at_call 14; (try go_split_ands); (with_reducible refine (HR14.out _ (by assumption)).mono ?_); rintro e wn ⟨rfl, b14⟩) | (go_at_call 16; (try go_split_ands); (with_reducible refine (HR16.out _ (by assumption)).mono ?_); rintro e wn ⟨v16, rfl, ⟨A16, c16, rfl, hR16, b16⟩, hs16⟩; have q10 := conv16 (c := c16) (Kd.R_reads' hR16).2.2; clear hR16 hs16; rw [HS16.out] at q10))
                      refine hK.out _ _ ?kp1f (fun hSy => ?_)
                      case kp1f => ((try dsimp only); (first | exact o9 HO2.out HBX.out | exact o9 HO2.out (Below.drew HBX.out) | ((try go_split_ands); exact o9 HO2.out (below_step (by assumption) b16)) | ((try go_split_ands); exact o9 HO2.out (below_step (by assumption) b14))))
                      clear hK K
                      try clear hSx
                      have hSx := hSy
                      clear hSy
                      (try simp only [Act.put, List.setIfInBounds_toArray, List.set_cons_zero, List.set_cons_succ])
                      first | (refine wpAnyH_take (i := 2) (oi := ?o2f) (v := ?v2f) ?ho2f (by kernel_rfl) (by kernel_rfl) (by kernel_rfl) ?hQ2f (Or.inl ⟨?hw2f, ?hy2f⟩) (by assumption) ?_; (case ho2f => (simp only [List.getElem?_toArray, List.getElem?_cons_succ, List.getElem?_cons_zero]; try rfl)); (case hQ2f => exact fun _ _ _ h => h); (case hw2f => rfl); (case hy2f => (intro w hSw; (try dsimp only at hSw); go_simp; (first | done | (with_reducible rfl)))); (try simp only [Act.put, List.setIfInBounds_toArray, List.set_cons_zero, List.set_cons_succ])) | (refine wpAnyH_ready (rs := [2]) (by kernel_rfl) (by simp) ?_; refine AllReadyH.cons (i := 2) (o := ?o2f) ?ho2f (fun K hK => ?_) AllReadyH.nil; (case ho2f => (simp only [List.getElem?_toArray, List.getElem?_cons_succ, List.getElem?_cons_zero]; try rfl)); go_simp; refine hK.out _ _ hSx (fun hSy => ?_); clear hK K; try clear hSx; have hSx := hSy; clear hSy; (try simp only [Act.put, List.setIfInBounds_toArray, List.set_cons_zero, List.set_cons_succ]))
                      refine strike_ (i := 3) (oi := ?o3f) ?ho3f (by kernel_rfl) (by kernel_rfl) (by kernel_rfl) ?hQ3f ?hw3f (by assumption) ?_
                      case ho3f => (simp only [List.getElem?_toArray, List.getElem?_cons_succ, List.getElem?_cons_zero]; try rfl)
                      case hQ3f => exact fun _ _ _ h => h
                      case hw3f => rfl
                      (try simp only [Act.put, List.setIfInBounds_toArray, List.set_cons_zero, List.set_cons_succ])
                      refine strike_ (i := 4) (oi := ?o4f) ?ho4f (by kernel_rfl) (by kernel_rfl) (by kernel_rfl) ?hQ4f ?hw4f (by assumption) ?_
                      case ho4f => (simp only [List.getElem?_toArray, List.getElem?_cons_succ, List.getElem?_cons_zero]; try rfl)
                      case hQ4f => exact fun _ _ _ h => h
                      case hw4f => rfl
                      (try simp only [Act.put, List.setIfInBounds_toArray, List.set_cons_zero, List.set_cons_succ])
                      refine strike_ (i := 5) (oi := ?o5f) ?ho5f (by kernel_rfl) (by kernel_rfl) (by kernel_rfl) ?hQ5f ?hw5f (by assumption) ?_
                      case ho5f => (simp only [List.getElem?_toArray, List.getElem?_cons_succ, List.getElem?_cons_zero]; try rfl)
                      case hQ5f => exact fun _ _ _ h => h
                      case hw5f => rfl
                      (try simp only [Act.put, List.setIfInBounds_toArray, List.set_cons_zero, List.set_cons_succ])
                      refine strike_ (i := 6) (oi := ?o6f) ?ho6f (by kernel_rfl) (by kernel_rfl) (by kernel_rfl) ?hQ6f ?hw6f (by assumption) ?_
                      case ho6f => (simp only [List.getElem?_toArray, List.getElem?_cons_succ, List.getElem?_cons_zero]; try rfl)
                      case hQ6f => exact fun _ _ _ h => h
                      case hw6f => rfl
                      (try simp only [Act.put, List.setIfInBounds_toArray, List.set_cons_zero, List.set_cons_succ])
                      refine strike_ (i := 7) (oi := ?o7f) ?ho7f (by kernel_rfl) (by kernel_rfl) (by kernel_rfl) ?hQ7f ?hw7f (by assumption) ?_
                      case ho7f => (simp only [List.getElem?_toArray, List.getElem?_cons_succ, List.getElem?_cons_zero]; try rfl)
                      case hQ7f => exact fun _ _ _ h => h
                      case hw7f => rfl
                      (try simp only [Act.put, List.setIfInBounds_toArray, List.set_cons_zero, List.set_cons_succ])
                      refine strike_ (i := 8) (oi := ?o8f) ?ho8f (by kernel_rfl) (by kernel_rfl) (by kernel_rfl) ?hQ8f ?hw8f (by assumption) ?_
                      case ho8f => (simp only [List.getElem?_toArray, List.getElem?_cons_succ, List.getElem?_cons_zero]; try rfl)
                      case hQ8f => exact fun _ _ _ h => h
                      case hw8f => rfl
                      (try simp only [Act.put, List.setIfInBounds_toArray, List.set_cons_zero, List.set_cons_succ])
                      refine strike_ (i := 9) (oi := ?o9f) ?ho9f (by kernel_rfl) (by kernel_rfl) (by kernel_rfl) ?hQ9f ?hw9f (by assumption) ?_
                      case ho9f => (simp only [List.getElem?_toArray, List.getElem?_cons_succ, List.getElem?_cons_zero]; try rfl)
                      case hQ9f => exact fun _ _ _ h => h
                      case hw9f => rfl
                      (try simp only [Act.put, List.setIfInBounds_toArray, List.set_cons_zero, List.set_cons_succ])
                      refine strike_ (i := 10) (oi := ?o10f) ?ho10f (by kernel_rfl) (by kernel_rfl) (by kernel_rfl) ?hQ10f ?hw10f (by assumption) ?_
                      case ho10f => (simp only [List.getElem?_toArray, List.getElem?_cons_succ, List.getElem?_cons_zero]; try rfl)
                      case hQ10f => exact fun _ _ _ h => h
                      case hw10f => rfl
                      (try simp only [Act.put, List.setIfInBounds_toArray, List.set_cons_zero, List.set_cons_succ])
                      refine strike_ (i := 11) (oi := ?o11f) ?ho11f (by kernel_rfl) (by kernel_rfl) (by kernel_rfl) ?hQ11f ?hw11f (by assumption) ?_
                      case ho11f => (simp only [List.getElem?_toArray, List.getElem?_cons_succ, List.getElem?_cons_zero]; try rfl)
                      case hQ11f => exact fun _ _ _ h => h
                      case hw11f => rfl
                      (try simp only [Act.put, List.setIfInBounds_toArray, List.set_cons_zero, List.set_cons_succ])
                      refine strike_ (i := 12) (oi := ?o12f) ?ho12f (by kernel_rfl) (by kernel_rfl) (by kernel_rfl) ?hQ12f ?hw12f (by assumption) ?_
                      case ho12f => (simp only [List.getElem?_toArray, List.getElem?_cons_succ, List.getElem?_cons_zero]; try rfl)
                      case hQ12f => exact fun _ _ _ h => h
                      case hw12f => rfl
                      (try simp only [Act.put, List.setIfInBounds_toArray, List.set_cons_zero, List.set_cons_succ])
                      first | (refine wpAnyH_take (i := 13) (oi := ?o13f) (v := ?v13f) ?ho13f (by kernel_rfl) (by kernel_rfl) (by kernel_rfl) ?hQ13f (Or.inl ⟨?hw13f, ?hy13f⟩) (by assumption) ?_; (case ho13f => (simp only [List.getElem?_toArray, List.getElem?_cons_succ, List.getElem?_cons_zero]; try rfl)); (case hQ13f => exact fun _ _ _ h => h); (case hw13f => rfl); (case hy13f => (intro w hSw; (try dsimp only at hSw); go_simp; (first | done | (with_reducible rfl)))); (try simp only [Act.put, List.setIfInBounds_toArray, List.set_cons_zero, List.set_cons_succ])) | (refine wpAnyH_ready (rs := [13]) (by kernel_rfl) (by simp) ?_; refine AllReadyH.cons (i := 13) (o := ?o13f) ?ho13f (fun K hK => ?_) AllReadyH.nil; (case ho13f => (simp only [List.getElem?_toArray, List.getElem?_cons_succ, List.getElem?_cons_zero]; try rfl)); go_simp; refine hK.out _ _ hSx (fun hSy => ?_); clear hK K; try clear hSx; have hSx := hSy; clear hSy; (try simp only [Act.put, List.setIfInBounds_toArray, List.set_cons_zero, List.set_cons_succ]))
                      first | (refine wpAnyH_take (i := 14) (oi := ?o14f) (v := ?v14f) ?ho14f (by kernel_rfl) (by kernel_rfl) (by kernel_rfl) ?hQ14f (Or.inl ⟨?hw14f, ?hy14f⟩) (by assumption) ?_; (case ho14f => (simp only [List.getElem?_toArray, List.getElem?_cons_succ, List.getElem?_cons_zero]; try rfl)); (case hQ14f => exact fun _ _ _ h => h); (case hw14f => rfl); (case hy14f => (intro w hSw; (try dsimp only at hSw); go_simp; (first | done | (with_reducible rfl)))); (try simp only [Act.put, List.setIfInBounds_toArray, List.set_cons_zero, List.set_cons_succ])) | (refine wpAnyH_ready (rs := [14]) (by kernel_rfl) (by simp) ?_; refine AllReadyH.cons (i := 14) (o := ?o14f) ?ho14f (fun K hK => ?_) AllReadyH.nil; (case ho14f => (simp only [List.getElem?_toArray, List.getElem?_cons_succ, List.getElem?_cons_zero]; try rfl)); go_simp; refine hK.out _ _ hSx (fun hSy => ?_); clear hK K; try clear hSx; have hSx := hSy; clear hSy; (try simp only [Act.put, List.setIfInBounds_toArray, List.set_cons_zero, List.set_cons_succ]))
                      first | (refine wpAnyH_take (i := 15) (oi := ?o15f) (v := ?v15f) ?ho15f (by kernel_rfl) (by kernel_rfl) (by kernel_rfl) ?hQ15f (Or.inl ⟨?hw15f, ?hy15f⟩) (by assumption) ?_; (case ho15f => (simp only [List.getElem?_toArray, List.getElem?_cons_succ, List.getElem?_cons_zero]; try rfl)); (case hQ15f => exact fun _ _ _ h => h); (case hw15f => rfl); (case hy15f => (intro w hSw; (try dsimp only at hSw); go_simp; (first | done | (with_reducible rfl)))); (try simp only [Act.put, List.setIfInBounds_toArray, List.set_cons_zero, List.set_cons_succ])) | (refine wpAnyH_ready (rs := [15]) (by kernel_rfl) (by simp) ?_; refine AllReadyH.cons (i := 15) (o := ?o15f) ?ho15f (fun K hK => ?_) AllReadyH.nil; (case ho15f => (simp only [List.getElem?_toArray, List.getElem?_cons_succ, List.getElem?_cons_zero]; try rfl)); go_simp; refine hK.out _ _ hSx (fun hSy => ?_); clear hK K; try clear hSx; have hSx := hSy; clear hSy; (try simp only [Act.put, List.setIfInBounds_toArray, List.set_cons_zero, List.set_cons_succ]))
                      refine wpAnyH_ready (rs := [16]) (by kernel_rfl) (by simp) ?_
                      refine AllReadyH.cons (i := 16) (o := ?o16f) ?ho16f (fun K hK => ?_) AllReadyH.nil
                      case ho16f => (simp only [List.getElem?_toArray, List.getElem?_cons_succ, List.getElem?_cons_zero]; try rfl)
                      go_simp
                      (first | (go_at_call 14; (try go_split_ands); (with_reducible refine (HR14.out _ (by assumption)).mono ?_); rintro e wn ⟨rfl, b14⟩) | (go_at_call 16; (try go_split_ands); (with_reducible refine (HR16.out _ (by assumption)).mono ?_); rintro e wn ⟨v16, rfl, ⟨A16, c16, rfl, hR16, b16⟩, hs16⟩; have q10 := conv16 (c := c16) (Kd.R_reads' hR16).2.2; clear hR16 hs16; rw [HS16.out] at q10))
                      refine hK.out _ _ ?kp16f (fun hSy => ?_)
                      case kp16f => ((try dsimp only); (first | exact o9 HO2.out HBX.out | exact o9 HO2.out (Below.drew HBX.out) | ((try go_split_ands); exact o9 HO2.out (below_step (by assumption) b16)) | ((try go_split_ands); exact o9 HO2.out (below_step (by assumption) b14))))
                      clear hK K
                      try clear hSx
                      have hSx := hSy
                      clear hSy
                      (try simp only [Act.put, List.setIfInBounds_toArray, List.set_cons_zero, List.set_cons_succ])
                      first | (refine wpAnyH_take (i := 17) (oi := ?o17f) (v := ?v17f) ?ho17f (by kernel_rfl) (by kernel_rfl) (by kernel_rfl) ?hQ17f (Or.inl ⟨?hw17f, ?hy17f⟩) (by assumption) ?_; (case ho17f => (simp only [List.getElem?_toArray, List.getElem?_cons_succ, List.getElem?_cons_zero]; try rfl)); (case hQ17f => exact fun _ _ _ h => h); (case hw17f => rfl); (case hy17f => (intro w hSw; (try dsimp only at hSw); go_simp; (first | done | (with_reducible rfl)))); (try simp only [Act.put, List.setIfInBounds_toArray, List.set_cons_zero, List.set_cons_succ])) | (refine wpAnyH_ready (rs := [17]) (by kernel_rfl) (by simp) ?_; refine AllReadyH.cons (i := 17) (o := ?o17f) ?ho17f (fun K hK => ?_) AllReadyH.nil; (case ho17f => (simp only [List.getElem?_toArray, List.getElem?_cons_succ, List.getElem?_cons_zero]; try rfl)); go_simp; refine hK.out _ _ hSx (fun hSy => ?_); clear hK K; try clear hSx; have hSx := hSy; clear hSy; (try simp only [Act.put, List.setIfInBounds_toArray, List.set_cons_zero, List.set_cons_succ]))
                      first | (refine wpAnyH_take (i := 18) (oi := ?o18f) (v := ?v18f) ?ho18f (by kernel_rfl) (by kernel_rfl) (by kernel_rfl) ?hQ18f (Or.inl ⟨?hw18f, ?hy18f⟩) (by assumption) ?_; (case ho18f => (simp only [List.getElem?_toArray, List.getElem?_cons_succ, List.getElem?_cons_zero]; try rfl)); (case hQ18f => exact fun _ _ _ h => h); (case hw18f => rfl); (case hy18f => (intro w hSw; (try dsimp only at hSw); go_simp; (first | done | (with_reducible rfl)))); (try simp only [Act.put, List.setIfInBounds_toArray, List.set_cons_zero, List.set_cons_succ])) | (refine wpAnyH_ready (rs := [18]) (by kernel_rfl) (by simp) ?_; refine AllReadyH.cons (i := 18) (o := ?o18f) ?ho18f (fun K hK => ?_) AllReadyH.nil; (case ho18f => (simp only [List.getElem?_toArray, List.getElem?_cons_succ, List.getElem?_cons_zero]; try rfl)); go_simp; refine hK.out _ _ hSx (fun hSy => ?_); clear hK K; try clear hSx; have hSx := hSy; clear hSy; (try simp only [Act.put, List.setIfInBounds_toArray, List.set_cons_zero, List.set_cons_succ]))
                      first | (refine wpAnyH_take (i := 19) (oi := ?o19f) (v := ?v19f) ?ho19f (by kernel_rfl) (by kernel_rfl) (by kernel_rfl) ?hQ19f (Or.inl ⟨?hw19f, ?hy19f⟩) (by assumption) ?_; (case ho19f => (simp only [List.getElem?_toArray, List.getElem?_cons_succ, List.getElem?_cons_zero]; try rfl)); (case hQ19f => exact fun _ _ _ h => h); (case hw19f => rfl); (case hy19f => (intro w hSw; (try dsimp only at hSw); go_simp; (first | done | (with_reducible rfl)))); (try simp only [Act.put, List.setIfInBounds_toArray, List.set_cons_zero, List.set_cons_succ])) | (refine wpAnyH_ready (rs := [19]) (by kernel_rfl) (by simp) ?_; refine AllReadyH.cons (i := 19) (o := ?o19f) ?ho19f (fun K hK => ?_) AllReadyH.nil; (case ho19f => (simp only [List.getElem?_toArray, List.getElem?_cons_succ, List.getElem?_cons_zero]; try rfl)); go_simp; refine hK.out _ _ hSx (fun hSy => ?_); clear hK K; try clear hSx; have hSx := hSy; clear hSy; (try simp only [Act.put, List.setIfInBounds_toArray, List.set_cons_zero, List.set_cons_succ]))
                      first | (refine wpAnyH_take (i := 20) (oi := ?o20f) (v := ?v20f) ?ho20f (by kernel_rfl) (by kernel_rfl) (by kernel_rfl) ?hQ20f (Or.inl ⟨?hw20f, ?hy20f⟩) (by assumption) ?_; (case ho20f => (simp only [List.getElem?_toArray, List.getElem?_cons_succ, List.getElem?_cons_zero]; try rfl)); (case hQ20f => exact fun _ _ _ h => h); (case hw20f => rfl); (case hy20f => (intro w hSw; (try dsimp only at hSw); go_simp; (first | done | (with_reducible rfl)))); (try simp only [Act.put, List.setIfInBounds_toArray, List.set_cons_zero, List.set_cons_succ])) | (refine wpAnyH_ready (rs := [20]) (by kernel_rfl) (by simp) ?_; refine AllReadyH.cons (i := 20) (o := ?o20f) ?ho20f (fun K hK => ?_) AllReadyH.nil; (case ho20f => (simp only [List.getElem?_toArray, List.getElem?_cons_succ, List.getElem?_cons_zero]; try rfl)); go_simp; refine hK.out _ _ hSx (fun hSy => ?_); clear hK K; try clear hSx; have hSx := hSy; clear hSy; (try simp only [Act.put, List.setIfInBounds_toArray, List.set_cons_zero, List.set_cons_succ]))
                      first | (refine wpAnyH_take (i := 21) (oi := ?o21f) (v := ?v21f) ?ho21f (by kernel_rfl) (by kernel_rfl) (by kernel_rfl) ?hQ21f (Or.inl ⟨?hw21f, ?hy21f⟩) (by assumption) ?_; (case ho21f => (simp only [List.getElem?_toArray, List.getElem?_cons_succ, List.getElem?_cons_zero]; try rfl)); (case hQ21f => exact fun _ _ _ h => h); (case hw21f => rfl); (case hy21f => (intro w hSw; (try dsimp only at hSw); go_simp; (first | done | (with_reducible rfl)))); (try simp only [Act.put, List.setIfInBounds_toArray, List.set_cons_zero, List.set_cons_succ])) | (refine wpAnyH_ready (rs := [21]) (by kernel_rfl) (by simp) ?_; refine AllReadyH.cons (i := 21) (o := ?o21f) ?ho21f (fun K hK => ?_) AllReadyH.nil; (case ho21f => (simp only [List.getElem?_toArray, List.getElem?_cons_succ, List.getElem?_cons_zero]; try rfl)); go_simp; refine hK.out _ _ hSx (fun hSy => ?_); clear hK K; try clear hSx; have hSx := hSy; clear hSy; (try simp only [Act.put, List.setIfInBounds_toArray, List.set_cons_zero, List.set_cons_succ]))
                      first | (refine wpAnyH_take (i := 22) (oi := ?o22f) (v := ?v22f) ?ho22f (by kernel_rfl) (by kernel_rfl) (by kernel_rfl) ?hQ22f (Or.inl ⟨?hw22f, ?hy22f⟩) (by assumption) ?_; (case ho22f => (simp only [List.getElem?_toArray, List.getElem?_cons_succ, List.getElem?_cons_zero]; try rfl)); (case hQ22f => exact fun _ _ _ h => h); (case hw22f => rfl); (case hy22f => (intro w hSw; (try dsimp only at hSw); go_simp; (first | done | (with_reducible rfl)))); (try simp only [Act.put, List.setIfInBounds_toArray, List.set_cons_zero, List.set_cons_succ])) | (refine wpAnyH_ready (rs := [22]) (by kernel_rfl) (by simp) ?_; refine AllReadyH.cons (i := 22) (o := ?o22f) ?ho22f (fun K hK => ?_) AllReadyH.nil; (case ho22f => (simp only [List.getElem?_toArray, List.getElem?_cons_succ, List.getElem?_cons_zero]; try rfl)); go_simp; refine hK.out _ _ hSx (fun hSy => ?_); clear hK K; try clear hSx; have hSx := hSy; clear hSy; (try simp only [Act.put, List.setIfInBounds_toArray, List.set_cons_zero, List.set_cons_succ]))
                      first | (refine wpAnyH_take (i := 23) (oi := ?o23f) (v := ?v23f) ?ho23f (by kernel_rfl) (by kernel_rfl) (by kernel_rfl) ?hQ23f (Or.inl ⟨?hw23f, ?hy23f⟩) (by assumption) ?_; (case ho23f => (simp only [List.getElem?_toArray, List.getElem?_cons_succ, List.getElem?_cons_zero]; try rfl)); (case hQ23f => exact fun _ _ _ h => h); (case hw23f => rfl); (case hy23f => (intro w hSw; (try dsimp only at hSw); go_simp; (first | done | (with_reducible rfl)))); (try simp only [Act.put, List.setIfInBounds_toArray, List.set_cons_zero, List.set_cons_succ])) | (refine wpAnyH_ready (rs := [23]) (by kernel_rfl) (by simp) ?_; refine AllReadyH.cons (i := 23) (o := ?o23f) ?ho23f (fun K hK => ?_) AllReadyH.nil; (case ho23f => (simp only [List.getElem?_toArray, List.getElem?_cons_succ, List.getElem?_cons_zero]; try rfl)); go_simp; refine hK.out _ _ hSx (fun hSy => ?_); clear hK K; try clear hSx; have hSx := hSy; clear hSy; (try simp only [Act.put, List.setIfInBounds_toArray, List.set_cons_zero, List.set_cons_succ]))
                      first | (refine wpAnyH_take (i := 24) (oi := ?o24f) (v := ?v24f) ?ho24f (by kernel_rfl) (by kernel_rfl) (by kernel_rfl) ?hQ24f (Or.inl ⟨?hw24f, ?hy24f⟩) (by assumption) ?_; (case ho24f => (simp only [List.getElem?_toArray, List.getElem?_cons_succ, List.getElem?_cons_zero]; try rfl)); (case hQ24f => exact fun _ _ _ h => h); (case hw24f => rfl); (case hy24f => (intro w hSw; (try dsimp only at hSw); go_simp; (first | done | (with_reducible rfl)))); (try simp only [Act.put, List.setIfInBounds_toArray, List.set_cons_zero, List.set_cons_succ])) | (refine wpAnyH_ready (rs := [24]) (by kernel_rfl) (by simp) ?_; refine AllReadyH.cons (i := 24) (o := ?o24f) ?ho24f (fun K hK => ?_) AllReadyH.nil; (case ho24f => (simp only [List.getElem?_toArray, List.getElem?_cons_succ, List.getElem?_cons_zero]; try rfl)); go_simp; refine hK.out _ _ hSx (fun hSy => ?_); clear hK K; try clear hSx; have hSx := hSy; clear hSy; (try simp only [Act.put, List.setIfInBounds_toArray, List.set_cons_zero, List.set_cons_succ]))
                      first | (refine wpAnyH_take (i := 25) (oi := ?o25f) (v := ?v25f) ?ho25f (by kernel_rfl) (by kernel_rfl) (by kernel_rfl) ?hQ25f (Or.inl ⟨?hw25f, ?hy25f⟩) (by assumption) ?_; (case ho25f => (simp only [List.getElem?_toArray, List.getElem?_cons_succ, List.getElem?_cons_zero]; try rfl)); (case hQ25f => exact fun _ _ _ h => h); (case hw25f => rfl); (case hy25f => (intro w hSw; (try dsimp only at hSw); go_simp; (first | done | (with_reducible rfl)))); (try simp only [Act.put, List.setIfInBounds_toArray, List.set_cons_zero, List.set_cons_succ])) | (refine wpAnyH_ready (rs := [25]) (by kernel_rfl) (by simp) ?_; refine AllReadyH.cons (i := 25) (o := ?o25f) ?ho25f (fun K hK => ?_) AllReadyH.nil; (case ho25f => (simp only [List.getElem?_toArray, List.getElem?_cons_succ, List.getElem?_cons_zero]; try rfl)); go_simp; refine hK.out _ _ hSx (fun hSy => ?_); clear hK K; try clear hSx; have hSx := hSy; clear hSy; (try simp only [Act.put, List.setIfInBounds_toArray, List.set_cons_zero, List.set_cons_succ]))
                      first | (refine wpAnyH_take (i := 26) (oi := ?o26f) (v := ?v26f) ?ho26f (by kernel_rfl) (by kernel_rfl) (by kernel_rfl) ?hQ26f (Or.inl ⟨?hw26f, ?hy26f⟩) (by assumption) ?_; (case ho26f => (simp only [List.getElem?_toArray, List.getElem?_cons_succ, List.getElem?_cons_zero]; try rfl)); (case hQ26f => exact fun _ _ _ h => h); (case hw26f => rfl); (case hy26f => (intro w hSw; (try dsimp only at hSw); go_simp; (first | done | (with_reducible rfl)))); (try simp only [Act.put, List.setIfInBounds_toArray, List.set_cons_zero, List.set_cons_succ])) | (refine wpAnyH_ready (rs := [26]) (by kernel_rfl) (by simp) ?_; refine AllReadyH.cons (i := 26) (o := ?o26f) ?ho26f (fun K hK => ?_) AllReadyH.nil; (case ho26f => (simp only [List.getElem?_toArray, List.getElem?_cons_succ, List.getElem?_cons_zero]; try rfl)); go_simp; refine hK.out _ _ hSx (fun hSy => ?_); clear hK K; try clear hSx; have hSx := hSy; clear hSy; (try simp only [Act.put, List.setIfInBounds_toArray, List.set_cons_zero, List.set_cons_succ]))
                      first | (refine wpAnyH_take (i := 27) (oi := ?o27f) (v := ?v27f) ?ho27f (by kernel_rfl) (by kernel_rfl) (by kernel_rfl) ?hQ27f (Or.inl ⟨?hw27f, ?hy27f⟩) (by assumption) ?_; (case ho27f => (simp only [List.getElem?_toArray, List.getElem?_cons_succ, List.getElem?_cons_zero]; try rfl)); (case hQ27f => exact fun _ _ _ h => h); (case hw27f => rfl); (case hy27f => (intro w hSw; (try dsimp only at hSw); go_simp; (first | done | (with_reducible rfl)))); (try simp only [Act.put, List.setIfInBounds_toArray, List.set_cons_zero, List.set_cons_succ])) | (refine wpAnyH_ready (rs := [27]) (by kernel_rfl) (by simp) ?_; refine AllReadyH.cons (i := 27) (o := ?o27f) ?ho27f (fun K hK => ?_) AllReadyH.nil; (case ho27f => (simp only [List.getElem?_toArray, List.getElem?_cons_succ, List.getElem?_cons_zero]; try rfl)); go_simp; refine hK.out _ _ hSx (fun hSy => ?_); clear hK K; try clear hSx; have hSx := hSy; clear hSy; (try simp only [Act.put, List.setIfInBounds_toArray, List.set_cons_zero, List.set_cons_succ]))
                      refine wpAnyH_done (by kernel_rfl) ?_ _
                      (go_wp2_with fail; go_meet; (try go_split_ands); exact ⟨rfl, by assumption⟩)
                  case rest =>
                    obtain ⟨rfl, hby⟩ := hcut
                    have HBY := hide (below_step HBw.out hby)
                    clear hby
                    go_wp2_with fail
                    go_roundw
                    case rel => exact ⟨h + 1, by omega, by omega, rfl, ⟨HBY.out⟩⟩
                    case measure => simp only [intOf]; omega
        · go_wp2_with fail
          go_roundw
          case rel => exact ⟨k + 1, by omega, by omega, rfl, ⟨HB.out⟩⟩
          case measure => simp only [intOf]; omega
    · have HK := hide (fun W2 (hb : Below w.heap.size w W2) => known W2 (HT.out.below hb))
      go_wp2_with (at_make; refine Kd.R_make k32 (w0 := w) w.heap.size 32 rfl rfl 22 _ _ rfl 65536 rfl rfl Tryd.underlying22 (.agg #[.string ⟨#[]⟩, .string ⟨#[]⟩]) 32 info32 rfl (by decide) (by decide) ⟨⟨#[]⟩, ⟨#[]⟩⟩ (ok := fun _ => True) (okp := fun _ => True) (k32_mkM _ _ _ _) (fun _ h => h) trivial (by decide) (by decide) HB.out HB.out.size ?_; intro v1 w1 hr1 hb1 hg1 hown; rw [many_eq] at hr1; obtain ⟨A1, c1, hv1, hl1, hC1⟩ := Kd.R_reads hr1; obtain ⟨n1, hn1⟩ : ∃ n, manyO.f7.length = n := ⟨_, rfl⟩; rw [hn1] at hv1 hl1 hC1; subst hv1; have HM := hide (manyCall hn1 hl1 hC1); have HB1 := hide hb1; clear hr1 hb1 hg1 hown hl1 hC1 hn1)
      refine HM.out.mono ?_
      rintro e w2 ⟨rfl, hb2⟩
      dsimp only
      have HB2 := hide (below_step (below_step HB1.out (below_alloc (Below.refl _ _) _)) hb2)
      clear hb2 HM HB1
      go_wp2_with fail
      refine (HK.out w2 HB2.out).mono ?_
      rintro e w3 ⟨rfl, hb3⟩
      dsimp only
      have HB3 := hide (below_step HB2.out hb3)
      clear hb3
      go_wp2_with fail
      go_ret
      exact ⟨rfl, HB3.out⟩
end Num
end Go.Proofs.YtbljbgjecnmeeaaDoor.OpP

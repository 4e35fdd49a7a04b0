/- A node more behind an own row; a store into a node of an own row. A copy's kids have rows of their own, too. Plain part. -/
import Derived.Test.YtaponaemgolmoaaTrCopyP
namespace Go.Proofs.Ytaponaemgolmoaa.Tr
open Go.RowKit Go.Proofs.Ytaponaemgolmoaa.PTreeTells Go.Proofs.YtaponaemgolmoaaW.PrintWords Go.Proofs.YtaponaemgolmoaaW.PrintLast
set_option linter.unusedVariables false
set_option linter.unusedSimpArgs false
/-- Behind the append: the tree with one node more. -/
theorem app_tree {w1 wb W w3 : World} {ok okr : Nat → Prop} {base : Nat} {t : S26} {B3 B5 Av : Option Addr} {d3 d5 cv : Nat} {rs : List Raw} {k' : List S26} {x : S26} (h3 : t.f3.length ≤ d3) (hf3 : Kd.F k33 wb (fun j => (ok j ∨ w1.heap.size ≤ j) ∧ (Value.slice B5 t.f5.length d5).ownBlock ≠ some j) B3 t.f3.length t.f3)
    (hf : Foot (fun W => KL W t.f5 rs) wb (fun j => (ok j ∨ w1.heap.size ≤ j) ∧ (Value.slice B5 t.f5.length d5).ownBlock ≠ some j))
    (hb : Below wb.heap.size wb W) (hg : W.grownBy w3 (Value.slice B5 t.f5.length d5).ownBlock) {C3 C5 : Option Addr} {e3 e5 : Nat}
    (hx : ∀ (V : World) (o : Nat → Prop), TF V o (.agg #[.int .i64 x.f0, .int .i64 x.f1, .string x.f2, .slice C3 x.f3.length e3, .string x.f4, .slice C5 x.f5.length e5]) x)
    (hR : kRaw.R 26 w3 base okr (.slice Av k'.length cv) (rs ++ [rawT x C3 e3 C5 e5])) (hk : t.f5 ++ [x] = k')
    (hown : (Value.slice Av k'.length cv).ownBlock = (Value.slice B5 t.f5.length d5).ownBlock ∨ ∃ b, (Value.slice Av k'.length cv).ownBlock = some b ∧ W.heap.size ≤ b)
    (hlt : ∀ j, (Value.slice B5 t.f5.length d5).ownBlock = some j → j < wb.heap.size) (hW : wb.heap.size < W.heap.size) :
    TF w3 (fun j => j ≠ wb.heap.size) (.agg #[.int .i64 t.f0, .int .i64 t.f1, .string t.f2, .slice B3 t.f3.length d3, .string t.f4, .slice Av k'.length cv]) ⟨t.f0, t.f1, t.f2, t.f3, t.f4, k'⟩ := by
  have hst : ∀ j, (((ok j ∨ w1.heap.size ≤ j) ∧ (Value.slice B5 t.f5.length d5).ownBlock ≠ some j) ∧ j < wb.heap.size) → w3.heap[j]? = wb.heap[j]? := fun j hj => (hg.block j (by have := hb.size; omega) (fun e => hj.1.2 e.symm)).trans (hb.block j hj.2)
  have k1 : Foot (fun W => KL W t.f5 rs) w3 (fun j => j ≠ wb.heap.size) := Foot.mono (Foot.step (Foot.bound hf) (fun j hj _ => hst j hj)) (fun j hj => by have := hj.2; omega)
  have k3 : Kd.F k33 w3 (fun j => j ≠ wb.heap.size) B3 t.f3.length t.f3 := Foot.mono (Foot.step (Foot.bound hf3) (fun j hj _ => hst j hj)) (fun j hj => by have := hj.2; omega)
  have k2 : Foot (fun W => KL W [x] [rawT x C3 e3 C5 e5]) w3 (fun j => j ≠ wb.heap.size) := by
    obtain ⟨D3, g3, D5, g5, er, l3, f3, l5, f5⟩ := (hx w3 (fun j => j ≠ wb.heap.size)).open_
    injection er with er
    injection er with er
    simp only [List.cons.injEq, Value.slice.injEq] at er
    obtain ⟨_, _, _, ⟨rfl, _, rfl⟩, _, ⟨rfl, _, rfl⟩, _⟩ := er
    exact KL_one x l3 f3 l5 f5
  have kk := KL_app k1 k2
  rw [hk] at kk
  have hF : Kd.F kRaw w3 (fun j => j ≠ wb.heap.size) Av k'.length (rs ++ [rawT x C3 e3 C5 e5]) := Kd.F_mono (Kd.R_F (raw_narrow hR)) (fun j hj => by
    rcases hown with h | ⟨b, h, h2⟩
    · rw [h] at hj
      have := hlt j hj
      omega
    · rw [h] at hj
      cases hj
      omega)
  exact TF.mk ⟨t.f0, t.f1, t.f2, t.f3, t.f4, k'⟩ h3 k3 (Kd.R_reads' hR).2.1 (F_raw hF kk)
/-- The same node, another text. -/
def reText (x : S26) (u : ByteArray) : S26 := ⟨x.f0, x.f1, x.f2, x.f3, u, x.f5⟩
/-- The same node, another name. -/
def reName (x : S26) (u : ByteArray) : S26 := ⟨x.f0, x.f1, u, x.f3, x.f4, x.f5⟩
theorem reText_TF {w : World} {ok : Nat → Prop} {x : S26} {A3 A5 : Option Addr} {c3 c5 : Nat} (u : ByteArray) (h : TF w ok (.agg #[.int .i64 x.f0, .int .i64 x.f1, .string x.f2, .slice A3 x.f3.length c3, .string x.f4, .slice A5 x.f5.length c5]) x) : TF w ok (.agg #[.int .i64 x.f0, .int .i64 x.f1, .string x.f2, .slice A3 x.f3.length c3, .string u, .slice A5 x.f5.length c5]) (reText x u) := by
  obtain ⟨D3, g3, D5, g5, er, l3, f3, l5, f5⟩ := h.open_
  injection er with er
  injection er with er
  simp only [List.cons.injEq, Value.slice.injEq] at er
  obtain ⟨_, _, _, ⟨rfl, _, rfl⟩, _, ⟨rfl, _, rfl⟩, _⟩ := er
  exact TF.mk (reText x u) l3 f3 l5 f5
theorem reName_TF {w : World} {ok : Nat → Prop} {x : S26} {A3 A5 : Option Addr} {c3 c5 : Nat} (u : ByteArray) (h : TF w ok (.agg #[.int .i64 x.f0, .int .i64 x.f1, .string x.f2, .slice A3 x.f3.length c3, .string x.f4, .slice A5 x.f5.length c5]) x) : TF w ok (.agg #[.int .i64 x.f0, .int .i64 x.f1, .string u, .slice A3 x.f3.length c3, .string x.f4, .slice A5 x.f5.length c5]) (reName x u) := by
  obtain ⟨D3, g3, D5, g5, er, l3, f3, l5, f5⟩ := h.open_
  injection er with er
  injection er with er
  simp only [List.cons.injEq, Value.slice.injEq] at er
  obtain ⟨_, _, _, ⟨rfl, _, rfl⟩, _, ⟨rfl, _, rfl⟩, _⟩ := er
  exact TF.mk (reName x u) l3 f3 l5 f5
/-- A text is stored into a node of an own row. -/
theorem poke4 {w : World} {g n c base : Nat} {ok okk : Nat → Prop} {rs : List Raw} {xs : List S26} (hR : kRaw.R 26 w base ok (.slice (some ⟨g, 0, none⟩) n c) rs) (hrl : rs.length = xs.length) (hf : Foot (fun W => KL W xs rs) w okk) (hok : ∀ j, okk j → j ≠ g) (i : Nat) (hi : i < xs.length) (u : ByteArray) :
    ∃ rs', kRaw.R 26 (w.setCell ⟨g, i * 6 + 4, none⟩ (.string u)) base ok (.slice (some ⟨g, 0, none⟩) n c) rs' ∧ rs'.length = xs.length ∧ Foot (fun W => KL W (xs.set i (reText (xs.getD i z26) u)) rs') (w.setCell ⟨g, i * 6 + 4, none⟩ (.string u)) okk := by
  obtain ⟨A3, c3, A5, c5, hr, ht⟩ := kid_TF hf i hi
  have hk : i < rs.length := by omega
  have hn := (Kd.R_reads' hR).1
  have h1 := (Kd.R_seg (d := kRaw) hR (i : Int) (by omega) (by omega) (c := cl _) (seg := [.string u]) (j := 4) rfl (cells_all (Kd.R_reads' hR).2.2 i _ hr) (by show 4 + 1 ≤ 6; omega) (x' := rawT (reText (xs.getD i z26) u) A3 c3 A5 c5) (okp := fun _ => False) (kRaw_M _ _ _ _) (fun k hk => hk.elim)).1
  rw [Int.toNat_natCast] at h1
  refine ⟨_, h1, by rw [List.length_set, hrl], ?_⟩
  have h9 := reText_TF u ht
  have h2 := KL_set (y := reText (xs.getD i z26) u) (A3 := A3) (A5 := A5) (c3 := c3) (c5 := c5) hf i h9
  exact Foot.step h2 (fun j hj _ => Below.heap_setCell _ _ _ _ (hok j hj))
/-- A name is stored into a node of an own row. -/
theorem poke2 {w : World} {g n c base : Nat} {ok okk : Nat → Prop} {rs : List Raw} {xs : List S26} (hR : kRaw.R 26 w base ok (.slice (some ⟨g, 0, none⟩) n c) rs) (hrl : rs.length = xs.length) (hf : Foot (fun W => KL W xs rs) w okk) (hok : ∀ j, okk j → j ≠ g) (i : Nat) (hi : i < xs.length) (u : ByteArray) :
    ∃ rs', kRaw.R 26 (w.setCell ⟨g, i * 6 + 2, none⟩ (.string u)) base ok (.slice (some ⟨g, 0, none⟩) n c) rs' ∧ rs'.length = xs.length ∧ Foot (fun W => KL W (xs.set i (reName (xs.getD i z26) u)) rs') (w.setCell ⟨g, i * 6 + 2, none⟩ (.string u)) okk := by
  obtain ⟨A3, c3, A5, c5, hr, ht⟩ := kid_TF hf i hi
  have hk : i < rs.length := by omega
  have hn := (Kd.R_reads' hR).1
  have h1 := (Kd.R_seg (d := kRaw) hR (i : Int) (by omega) (by omega) (c := cl _) (seg := [.string u]) (j := 2) rfl (cells_all (Kd.R_reads' hR).2.2 i _ hr) (by show 2 + 1 ≤ 6; omega) (x' := rawT (reName (xs.getD i z26) u) A3 c3 A5 c5) (okp := fun _ => False) (kRaw_M _ _ _ _) (fun k hk => hk.elim)).1
  rw [Int.toNat_natCast] at h1
  refine ⟨_, h1, by rw [List.length_set, hrl], ?_⟩
  have h9 := reName_TF u ht
  have h2 := KL_set (y := reName (xs.getD i z26) u) (A3 := A3) (A5 := A5) (c3 := c3) (c5 := c5) hf i h9
  exact Foot.step h2 (fun j hj _ => Below.heap_setCell _ _ _ _ (hok j hj))
/-- An own row with its kids is a row of trees. -/
theorem own_tree {w : World} {base n c : Nat} {A : Option Addr} {ok : Nat → Prop} {rs : List Raw} {t : S26} {A3 : Option Addr} {c3 : Nat} {okk : Nat → Prop} (hR : kRaw.R 26 w base ok (.slice A t.f5.length c) rs) (hf : Foot (fun W => KL W t.f5 rs) w okk) (l3 : t.f3.length ≤ c3) (h3 : Kd.F k33 w okk A3 t.f3.length t.f3) : TF w (fun _ => True) (.agg #[.int .i64 t.f0, .int .i64 t.f1, .string t.f2, .slice A3 t.f3.length c3, .string t.f4, .slice A t.f5.length c]) t :=
  TF.mk t l3 (Kd.F_mono h3 (fun _ _ => trivial)) (Kd.R_reads' hR).2.1 (F_raw (Kd.F_mono (Kd.R_F hR) (fun _ _ => trivial)) (Foot.mono hf (fun _ _ => trivial)))
end Go.Proofs.Ytaponaemgolmoaa.Tr
namespace Go.Proofs.Ytaponaemgolmoaa.Tr
open Go.RowKit Go.Proofs.Ytaponaemgolmoaa.PTreeTells Go.Proofs.YtaponaemgolmoaaW.PrintWords Go.Proofs.YtaponaemgolmoaaW.PrintLast
set_option linter.unusedVariables false
set_option linter.unusedSimpArgs false
/-- A row in a block of its own, new. -/
def FreshR (N : Nat) (w : World) (Z : Nat) (B : Option Addr) (m sz : Nat) (ty : TypeId) : Prop := 0 < m → ∃ (g : Nat) (cs : Array Value), B = some ⟨g, 0, none⟩ ∧ N ≤ g ∧ g ≠ Z ∧ w.heap[g]? = some (.cells cs ty (0, 0)) ∧ m * sz ≤ cs.size
/-- A kid of the row in block Z, both of its rows new. -/
def KidF (N : Nat) (w : World) (Z j : Nat) (x : S26) : Prop := ∃ (B3 : Option Addr) (d3 : Nat) (B5 : Option Addr) (d5 : Nat), (∃ cz, w.heap[Z]? = some (.cells cz 26 (0, 0))) ∧ w.cell? ⟨Z, j * 6 + 3, none⟩ = some (.slice B3 x.f3.length d3) ∧ w.cell? ⟨Z, j * 6 + 5, none⟩ = some (.slice B5 x.f5.length d5) ∧ FreshR N w Z B3 x.f3.length 2 33 ∧ FreshR N w Z B5 x.f5.length 6 26
/-- Each kid of the top one waits, or has new rows. -/
def Frs (N0 : Nat) (t : S26) (ps : List (Option Addr)) (w : World) : Prop := ∀ (Z c : Nat), w.cell? ⟨N0, 5, none⟩ = some (.slice (some ⟨Z, 0, none⟩) t.f5.length c) → ∀ (j : Nat) (x : S26), t.f5[j]? = some x → some ⟨Z, j * 6, none⟩ ∈ ps ∨ KidF (N0 + 2) w Z j x
theorem FreshR.keep {N Z m sz : Nat} {w w' : World} {B : Option Addr} {ty : TypeId} (h : FreshR N w Z B m sz ty) (hk : ∀ (k : Nat) (cs : Array Value), N ≤ k → w.heap[k]? = some (.cells cs ty (0, 0)) → ∃ cs', w'.heap[k]? = some (.cells cs' ty (0, 0)) ∧ cs'.size = cs.size) : FreshR N w' Z B m sz ty := fun hm => by
  obtain ⟨g, cs, h1, h2, h3, h4, h5⟩ := h hm
  obtain ⟨cs', h6, h7⟩ := hk g cs h2 h4
  exact ⟨g, cs', h1, h2, h3, h6, by omega⟩
theorem FreshR.mono {N N' Z m sz : Nat} {w : World} {B : Option Addr} {ty : TypeId} (h : FreshR N w Z B m sz ty) (hn : N' ≤ N) : FreshR N' w Z B m sz ty := fun hm => by
  obtain ⟨g, cs, h1, h2, h3, h4, h5⟩ := h hm
  exact ⟨g, cs, h1, Nat.le_trans hn h2, h3, h4, h5⟩
theorem KidF.keep {N N0 Z j : Nat} {x : S26} {w w' : World} (h : KidF N w Z j x) (hk : Keep3 N0 w w') : KidF N w' Z j x := by
  obtain ⟨B3, d3, B5, d5, ⟨cz, h0⟩, h1, h2, h3, h4⟩ := h
  have hz := hk.2.2 Z cz 26 h0 (.inl rfl)
  exact ⟨B3, d3, B5, d5, ⟨cz, hz.trans h0⟩, cell_blk h1 hz, cell_blk h2 hz, h3.keep (fun k cs _ hc => ⟨cs, (hk.2.2 k cs 33 hc (.inr rfl)).trans hc, rfl⟩), h4.keep (fun k cs _ hc => ⟨cs, (hk.2.2 k cs 26 hc (.inl rfl)).trans hc, rfl⟩)⟩
theorem KidF.far {N Z j : Nat} {x : S26} {w w' : World} (h : KidF N w Z j x) (hk : ∀ k, N ≤ k → w'.heap[k]? = w.heap[k]?) (hZ : N ≤ Z) {N' : Nat} (hN : N' ≤ N) : KidF N' w' Z j x := by
  obtain ⟨B3, d3, B5, d5, ⟨cz, h0⟩, h1, h2, h3, h4⟩ := h
  have hz := hk Z hZ
  exact ⟨B3, d3, B5, d5, ⟨cz, hz.trans h0⟩, cell_blk h1 hz, cell_blk h2 hz, (h3.keep (fun k cs hn hc => ⟨cs, (hk k hn).trans hc, rfl⟩)).mono hN, (h4.keep (fun k cs hn hc => ⟨cs, (hk k hn).trans hc, rfl⟩)).mono hN⟩
theorem Frs.keep {N0 M : Nat} {t : S26} {ps : List (Option Addr)} {w w' : World} (h : Frs N0 t ps w) (hk : Keep3 M w w') {cb : Array Value} (hb : w.heap[N0]? = some (.cells cb 26 (0, 0))) : Frs N0 t ps w' := by
  intro Z c hc j x hj
  have hb' := hk.2.2 N0 cb 26 hb (.inl rfl)
  rcases h Z c (cell_blk (w' := w) hc hb'.symm) j x hj with h1 | h1
  · exact .inl h1
  · exact .inr (h1.keep hk)
/-- The rows that a round makes are new. -/
theorem fresh_of {α : Type} {d : Kd α} {e base N Z n c : Nat} {w : World} {ok : Nat → Prop} {B : Option Addr} {xs : List α} (h : d.R e w base ok (.slice B n c) xs) (hN : N ≤ base) (hZ : Z < base) : FreshR N w Z B n d.sz e := fun hm => by
  have hn := (Kd.R_reads' h).1
  obtain ⟨inner, ho⟩ := Kd.R_own h
  rcases ho.2 with ⟨h1, h2⟩ | ⟨g, cap, cur, h1, h2, h3, h4, _, h5, _⟩
  · omega
  · injection h1 with h6 h7 h8
    refine ⟨g, cur, h6, by omega, by omega, h3, ?_⟩
    rw [h5]
    exact Nat.mul_le_mul (by omega) (Nat.le_refl _)
/-- Behind a round of a node that is not the top one. -/
theorem frs_round {N0 : Nat} {t x : S26} {qs : List (Option Addr)} {w1 wy wz : World} {b o : Nat} {cb : Array Value} {rs : List Raw} {B3 B5 : Option Addr} {d3 d5 g0 : Nat} (h : Rnd w1 wy b o x cb rs B3 B5 d3 d5 g0 wz) (hF : Frs N0 t (qs ++ [some ⟨b, o, none⟩]) w1) (hb : b ≠ N0) (hN : N0 + 2 ≤ w1.heap.size) {E3 E5 : Value} (i3 : w1.cell? ⟨b, o + 3, none⟩ = some E3) (i5 : w1.cell? ⟨b, o + 5, none⟩ = some E5)
    (hid : ∀ Z c, w1.cell? ⟨N0, 5, none⟩ = some (.slice (some ⟨Z, 0, none⟩) t.f5.length c) → 0 < t.f5.length → b = Z → ∃ j, t.f5[j]? = some x ∧ o = j * 6) : Frs N0 t qs wz := by
  intro Z c hc j y hj
  have hNo := h.old (k := N0) (fun e => hb e.symm) (by omega)
  have hc1 := cell_blk (w' := w1) hc hNo.symm
  have hpos : 0 < t.f5.length := by have := (List.getElem?_eq_some_iff.1 hj).1; omega
  have hid := hid Z c hc1 hpos
  have hl := h.lt
  have hbk := h.bk
  have o3 : o + 3 < cb.size := by
    unfold World.cell? at i3
    rw [h.cb] at i3
    simp at i3
    exact (Array.getElem?_eq_some_iff.1 i3).1
  have o5 : o + 5 < cb.size := by
    unfold World.cell? at i5
    rw [h.cb] at i5
    simp at i5
    exact (Array.getElem?_eq_some_iff.1 i5).1
  have y3 : wz.cell? ⟨b, o + 3, none⟩ = some (.slice B3 x.f3.length d3) := by
    rw [blk_cell hbk, Array.getElem?_setIfInBounds_ne (by omega), Array.getElem?_setIfInBounds_self_of_lt o3]
  have y5 : wz.cell? ⟨b, o + 5, none⟩ = some (.slice B5 x.f5.length d5) := by
    rw [blk_cell hbk, Array.getElem?_setIfInBounds_self_of_lt (by rw [Array.size_setIfInBounds]; exact o5)]
  have hnew : ∀ j' y', b = Z → o = j' * 6 → t.f5[j']? = some y' → KidF (N0 + 2) wz Z j' y' := fun j' y' e1 e2 hy => by
    obtain ⟨j2, h1, h2⟩ := hid e1
    obtain rfl : j' = j2 := by omega
    rw [h1] at hy
    cases hy
    subst e1
    subst e2
    exact ⟨B3, d3, B5, d5, ⟨_, hbk⟩, y3, y5, fresh_of h.ra3 hN hl, fresh_of h.rk3 hN hl⟩
  have hkp : ∀ (ty : TypeId) (k : Nat) (cs : Array Value), N0 + 2 ≤ k → w1.heap[k]? = some (.cells cs ty (0, 0)) → ∃ cs', wz.heap[k]? = some (.cells cs' ty (0, 0)) ∧ cs'.size = cs.size := fun ty k cs _ hk => by
    by_cases e : k = b
    · subst e
      have h2 := h.cb
      rw [hk] at h2
      simp only [Option.some.injEq, Obj.cells.injEq] at h2
      obtain ⟨rfl, rfl, _⟩ := h2
      exact ⟨_, hbk, by rw [Array.size_setIfInBounds, Array.size_setIfInBounds]⟩
    · exact ⟨cs, (h.old e (blk_lt hk)).trans hk, rfl⟩
  rcases hF Z c hc1 j y hj with h1 | h1
  · rcases List.mem_append.1 h1 with h1 | h1
    · exact .inl h1
    · rw [List.mem_singleton] at h1
      injection h1 with h1
      injection h1 with e1 e2
      exact .inr (hnew j y e1.symm e2.symm hj)
  · obtain ⟨K3, k3, K5, k5, ⟨cz, h0⟩, h1, h2, h3, h4⟩ := h1
    by_cases e : b = Z
    · obtain ⟨j2, g1, g2⟩ := hid e
      by_cases ej : j = j2
      · subst ej
        exact .inr (hnew j y e g2 hj)
      · subst e
        refine .inr ⟨K3, k3, K5, k5, ⟨_, hbk⟩, ?_, ?_, h3.keep (hkp 33), h4.keep (hkp 26)⟩
        · rw [blk_cell h.cb] at h1
          rw [blk_cell hbk, Array.getElem?_setIfInBounds_ne (by omega), Array.getElem?_setIfInBounds_ne (by omega)]
          exact h1
        · rw [blk_cell h.cb] at h2
          rw [blk_cell hbk, Array.getElem?_setIfInBounds_ne (by omega), Array.getElem?_setIfInBounds_ne (by omega)]
          exact h2
    · have hz := h.old (k := Z) (fun e2 => e e2.symm) (blk_lt h0)
      exact .inr ⟨K3, k3, K5, k5, ⟨cz, hz.trans h0⟩, cell_blk h1 hz, cell_blk h2 hz, h3.keep (hkp 33), h4.keep (hkp 26)⟩
theorem Frs.more {N0 : Nat} {t : S26} {ps qs : List (Option Addr)} {w : World} (h : Frs N0 t ps w) : Frs N0 t (ps ++ qs) w := fun Z c hc j x hj => by
  rcases h Z c hc j x hj with h1 | h1
  · exact .inl (List.mem_append_left _ h1)
  · exact .inr h1
/-- Behind the first round. -/
theorem frs_root {N0 : Nat} {t : S26} {w1 wy wz : World} {cb : Array Value} {rs : List Raw} {B3 B5 : Option Addr} {d3 d5 g0 : Nat} (h : Rnd w1 wy N0 0 t cb rs B3 B5 d3 d5 g0 wz) {E5 : Value} (i5 : w1.cell? ⟨N0, 0 + 5, none⟩ = some E5) : Frs N0 t ([] ++ kidsP g0 t.f5.length) wz := by
  intro Z c hc j x hj
  have hjl := (List.getElem?_eq_some_iff.1 hj).1
  have hbk := h.bk
  have o5 : 0 + 5 < cb.size := by
    unfold World.cell? at i5
    rw [h.cb] at i5
    simp at i5
    exact (Array.getElem?_eq_some_iff.1 i5).1
  rw [blk_cell hbk, show (5 : Nat) = 0 + 5 from rfl, Array.getElem?_setIfInBounds_self_of_lt (by rw [Array.size_setIfInBounds]; exact o5)] at hc
  injection hc with hc
  injection hc with h1 _ _
  have h2 := (h.gz (by omega)).1
  rw [h2] at h1
  injection h1 with h1
  injection h1 with h1 _
  subst h1
  refine .inl ?_
  rw [List.nil_append]
  unfold kidsP
  exact List.mem_map.2 ⟨j, List.mem_range.2 hjl, rfl⟩
/-- The rounds behind the first: what is popped is no top one, and where it is a kid of the top one, which. -/
theorem p2_id {ok : Nat → Prop} {N0 s : Nat} {t : S26} {v : Value} {qs : List (Option Addr)} {us : List S26} {x : S26} {b o : Nat} {wr : World} (h : P2 ok N0 s t v (qs ++ [some ⟨b, o, none⟩]) (us ++ [x]) wr) : b ≠ N0 ∧ N0 + 2 ≤ wr.heap.size ∧ (∃ cb, wr.heap[N0]? = some (.cells cb 26 (0, 0))) ∧ ∀ Z c, wr.cell? ⟨N0, 5, none⟩ = some (.slice (some ⟨Z, 0, none⟩) t.f5.length c) → 0 < t.f5.length → b = Z → ∃ j, t.f5[j]? = some x ∧ o = j * 6 := by
  obtain ⟨N2, Z, B3, d3, B5, d5, hN, hN2, hst, hO, hal, hT, zc, hz⟩ := h
  have hZ : ∀ Z' c, wr.cell? ⟨N0, 5, none⟩ = some (.slice (some ⟨Z', 0, none⟩) t.f5.length c) → 0 < t.f5.length → Z' = Z := fun Z' c hc hp => by
    have h5 := cell_of_row _ _ 5 _ _ _ hT.box
    rw [hc] at h5
    have h6 := (hT.z hp).1
    subst h6
    simp at h5
    exact h5.1
  rcases hO.cases with ⟨h, _⟩ | ⟨qs', p, us', x', e1, e2, hqs, hp⟩
  · simp at h
  · have e3 := List.append_inj' e1 rfl
    have e4 := List.append_inj' e2 rfl
    clear e1 e2
    obtain ⟨e5, e6⟩ := e3
    obtain ⟨e7, e8⟩ := e4
    cases e5
    cases e7
    injection e6 with e6 _
    injection e8 with e8 _
    subst e6
    subst e8
    cases hp with
    | @deep b' o' hp =>
      obtain ⟨hpp, _, hnew, _⟩ := hp
      cases hpp
      exact ⟨by have := hnew.1; omega, by omega, ⟨_, hT.box⟩, fun Z' c hc hp e => absurd (e.trans (hZ Z' c hc hp)) hnew.2⟩
    | @top j hj hp =>
      cases hp
      have hpos : 0 < t.f5.length := by have := (List.getElem?_eq_some_iff.1 hj).1; omega
      exact ⟨by have := (hT.z hpos).2; omega, by omega, ⟨_, hT.box⟩, fun Z' c hc hp e => ⟨j, hj, rfl⟩⟩
end Go.Proofs.Ytaponaemgolmoaa.Tr

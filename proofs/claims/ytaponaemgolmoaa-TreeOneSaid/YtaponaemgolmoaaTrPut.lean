/- A node more behind an own row; a store into a node of an own row. -/
import Derived.Test.YtaponaemgolmoaaTrCopyP
namespace Go.Proofs.Ytaponaemgolmoaa.Tr
open Go.RowKit Go.Proofs.Ytaponaemgolmoaa.PTreeTells Go.Proofs.YtaponaemgolmoaaW.PrintWords Go.Proofs.YtaponaemgolmoaaW.PrintLast
set_option linter.unusedVariables false
set_option linter.unusedSimpArgs false
/-- Behind the append: the tree with one node more. -/
theorem app_tree {w1 wb W w3 : World} {ok okr : Nat → Prop} {base : Nat} {t : S26} {B3 B5 Av : Option Addr} {d3 d5 cv : Nat} {rs : List Raw} {k' : List S26} {x : S26} (h3 : t.f3.length ≤ d3) (hf3 : Kd.F k33 wb (fun j => (ok j ∨ w1.heap.size ≤ j) ∧ (Value.slice B5 t.f5.length d5).ownBlock ≠ some j) B3 t.f3.length t.f3)
    (hf : Foot (fun W => KL W t.f5 rs) wb (fun j => (ok j ∨ w1.heap.size ≤ j) ∧ (Value.slice B5 t.f5.length d5).ownBlock ≠ some j))
    (hb : Below wb.heap.size wb W) (hg : W.grownBy w3 (Value.slice B5 t.f5.length d5).ownBlock) {C3 C5 : Option Addr} {e3 e5 : Nat}
    (hx : ∀ (V : World) (o : Nat → Prop), TF V o (.agg #[.int .i64 x.f0, .int .i64 x.f1, .string x.f2, .slice C3 x.f3.length e3, .string x.f4, .slice C5 x.f5.length e5]) x)
    (hR : kRaw.R 26 w3 base okr (.slice Av k'.length cv) (rs ++ [rawT x C3 e3 C5 e5])) (hk : t.f5 ++ [x] = k')
    (hown : (Value.slice Av k'.length cv).ownBlock = (Value.slice B5 t.f5.length d5).ownBlock ∨ ∃ b, (Value.slice Av k'.length cv).ownBlock = some b ∧ W.heap.size ≤ b)
    (hlt : ∀ j, (Value.slice B5 t.f5.length d5).ownBlock = some j → j < wb.heap.size) (hW : wb.heap.size < W.heap.size) :
    TF w3 (fun j => j ≠ wb.heap.size) (.agg #[.int .i64 t.f0, .int .i64 t.f1, .string t.f2, .slice B3 t.f3.length d3, .string t.f4, .slice Av k'.length cv]) ⟨t.f0, t.f1, t.f2, t.f3, t.f4, k'⟩ := by
  have hst : ∀ j, (((ok j ∨ w1.heap.size ≤ j) ∧ (Value.slice B5 t.f5.length d5).ownBlock ≠ some j) ∧ j < wb.heap.size) → w3.heap[j]? = wb.heap[j]? := fun j hj => (hg.block j (by have := hb.size; omega) (fun e => hj.1.2 e.symm)).trans (hb.block j hj.2)
  have k1 : Foot (fun W => KL W t.f5 rs) w3 (fun j => j ≠ wb.heap.size) := Foot.mono (Foot.step (Foot.bound hf) (fun j hj _ => hst j hj)) (fun j hj => by have := hj.2; omega)
  have k3 : Kd.F k33 w3 (fun j => j ≠ wb.heap.size) B3 t.f3.length t.f3 := Foot.mono (Foot.step (Foot.bound hf3) (fun j hj _ => hst j hj)) (fun j hj => by have := hj.2; omega)
  have k2 : Foot (fun W => KL W [x] [rawT x C3 e3 C5 e5]) w3 (fun j => j ≠ wb.heap.size) := by
    obtain ⟨D3, g3, D5, g5, er, l3, f3, l5, f5⟩ := (hx w3 (fun j => j ≠ wb.heap.size)).open_
    injection er with er
    injection er with er
    simp only [List.cons.injEq, Value.slice.injEq] at er
    obtain ⟨_, _, _, ⟨rfl, _, rfl⟩, _, ⟨rfl, _, rfl⟩, _⟩ := er
    exact KL_one x l3 f3 l5 f5
  have kk := KL_app k1 k2
  rw [hk] at kk
  have hF : Kd.F kRaw w3 (fun j => j ≠ wb.heap.size) Av k'.length (rs ++ [rawT x C3 e3 C5 e5]) := Kd.F_mono (Kd.R_F (raw_narrow hR)) (fun j hj => by
    rcases hown with h | ⟨b, h, h2⟩
    · rw [h] at hj
      have := hlt j hj
      omega
    · rw [h] at hj
      cases hj
      omega)
  exact TF.mk ⟨t.f0, t.f1, t.f2, t.f3, t.f4, k'⟩ h3 k3 (Kd.R_reads' hR).2.1 (F_raw hF kk)
/-- The same node, another text. -/
def reText (x : S26) (u : ByteArray) : S26 := ⟨x.f0, x.f1, x.f2, x.f3, u, x.f5⟩
/-- The same node, another name. -/
def reName (x : S26) (u : ByteArray) : S26 := ⟨x.f0, x.f1, u, x.f3, x.f4, x.f5⟩
theorem reText_TF {w : World} {ok : Nat → Prop} {x : S26} {A3 A5 : Option Addr} {c3 c5 : Nat} (u : ByteArray) (h : TF w ok (.agg #[.int .i64 x.f0, .int .i64 x.f1, .string x.f2, .slice A3 x.f3.length c3, .string x.f4, .slice A5 x.f5.length c5]) x) : TF w ok (.agg #[.int .i64 x.f0, .int .i64 x.f1, .string x.f2, .slice A3 x.f3.length c3, .string u, .slice A5 x.f5.length c5]) (reText x u) := by
  obtain ⟨D3, g3, D5, g5, er, l3, f3, l5, f5⟩ := h.open_
  injection er with er
  injection er with er
  simp only [List.cons.injEq, Value.slice.injEq] at er
  obtain ⟨_, _, _, ⟨rfl, _, rfl⟩, _, ⟨rfl, _, rfl⟩, _⟩ := er
  exact TF.mk (reText x u) l3 f3 l5 f5
theorem reName_TF {w : World} {ok : Nat → Prop} {x : S26} {A3 A5 : Option Addr} {c3 c5 : Nat} (u : ByteArray) (h : TF w ok (.agg #[.int .i64 x.f0, .int .i64 x.f1, .string x.f2, .slice A3 x.f3.length c3, .string x.f4, .slice A5 x.f5.length c5]) x) : TF w ok (.agg #[.int .i64 x.f0, .int .i64 x.f1, .string u, .slice A3 x.f3.length c3, .string x.f4, .slice A5 x.f5.length c5]) (reName x u) := by
  obtain ⟨D3, g3, D5, g5, er, l3, f3, l5, f5⟩ := h.open_
  injection er with er
  injection er with er
  simp only [List.cons.injEq, Value.slice.injEq] at er
  obtain ⟨_, _, _, ⟨rfl, _, rfl⟩, _, ⟨rfl, _, rfl⟩, _⟩ := er
  exact TF.mk (reName x u) l3 f3 l5 f5
/-- A text is stored into a node of an own row. -/
theorem poke4 {w : World} {g n c base : Nat} {ok okk : Nat → Prop} {rs : List Raw} {xs : List S26} (hR : kRaw.R 26 w base ok (.slice (some ⟨g, 0, none⟩) n c) rs) (hrl : rs.length = xs.length) (hf : Foot (fun W => KL W xs rs) w okk) (hok : ∀ j, okk j → j ≠ g) (i : Nat) (hi : i < xs.length) (u : ByteArray) :
    ∃ rs', kRaw.R 26 (w.setCell ⟨g, i * 6 + 4, none⟩ (.string u)) base ok (.slice (some ⟨g, 0, none⟩) n c) rs' ∧ rs'.length = xs.length ∧ Foot (fun W => KL W (xs.set i (reText (xs.getD i z26) u)) rs') (w.setCell ⟨g, i * 6 + 4, none⟩ (.string u)) okk := by
  obtain ⟨A3, c3, A5, c5, hr, ht⟩ := kid_TF hf i hi
  have hk : i < rs.length := by omega
  have hn := (Kd.R_reads' hR).1
  have h1 := (Kd.R_seg (d := kRaw) hR (i : Int) (by omega) (by omega) (c := cl _) (seg := [.string u]) (j := 4) rfl (cells_all (Kd.R_reads' hR).2.2 i _ hr) (by show 4 + 1 ≤ 6; omega) (x' := rawT (reText (xs.getD i z26) u) A3 c3 A5 c5) (okp := fun _ => False) (kRaw_M _ _ _ _) (fun k hk => hk.elim)).1
  rw [Int.toNat_natCast] at h1
  refine ⟨_, h1, by rw [List.length_set, hrl], ?_⟩
  have h9 := reText_TF u ht
  have h2 := KL_set (y := reText (xs.getD i z26) u) (A3 := A3) (A5 := A5) (c3 := c3) (c5 := c5) hf i h9
  exact Foot.step h2 (fun j hj _ => Below.heap_setCell _ _ _ _ (hok j hj))
/-- A name is stored into a node of an own row. -/
theorem poke2 {w : World} {g n c base : Nat} {ok okk : Nat → Prop} {rs : List Raw} {xs : List S26} (hR : kRaw.R 26 w base ok (.slice (some ⟨g, 0, none⟩) n c) rs) (hrl : rs.length = xs.length) (hf : Foot (fun W => KL W xs rs) w okk) (hok : ∀ j, okk j → j ≠ g) (i : Nat) (hi : i < xs.length) (u : ByteArray) :
    ∃ rs', kRaw.R 26 (w.setCell ⟨g, i * 6 + 2, none⟩ (.string u)) base ok (.slice (some ⟨g, 0, none⟩) n c) rs' ∧ rs'.length = xs.length ∧ Foot (fun W => KL W (xs.set i (reName (xs.getD i z26) u)) rs') (w.setCell ⟨g, i * 6 + 2, none⟩ (.string u)) okk := by
  obtain ⟨A3, c3, A5, c5, hr, ht⟩ := kid_TF hf i hi
  have hk : i < rs.length := by omega
  have hn := (Kd.R_reads' hR).1
  have h1 := (Kd.R_seg (d := kRaw) hR (i : Int) (by omega) (by omega) (c := cl _) (seg := [.string u]) (j := 2) rfl (cells_all (Kd.R_reads' hR).2.2 i _ hr) (by show 2 + 1 ≤ 6; omega) (x' := rawT (reName (xs.getD i z26) u) A3 c3 A5 c5) (okp := fun _ => False) (kRaw_M _ _ _ _) (fun k hk => hk.elim)).1
  rw [Int.toNat_natCast] at h1
  refine ⟨_, h1, by rw [List.length_set, hrl], ?_⟩
  have h9 := reName_TF u ht
  have h2 := KL_set (y := reName (xs.getD i z26) u) (A3 := A3) (A5 := A5) (c3 := c3) (c5 := c5) hf i h9
  exact Foot.step h2 (fun j hj _ => Below.heap_setCell _ _ _ _ (hok j hj))
/-- An own row with its kids is a row of trees. -/
theorem own_tree {w : World} {base n c : Nat} {A : Option Addr} {ok : Nat → Prop} {rs : List Raw} {t : S26} {A3 : Option Addr} {c3 : Nat} {okk : Nat → Prop} (hR : kRaw.R 26 w base ok (.slice A t.f5.length c) rs) (hf : Foot (fun W => KL W t.f5 rs) w okk) (l3 : t.f3.length ≤ c3) (h3 : Kd.F k33 w okk A3 t.f3.length t.f3) : TF w (fun _ => True) (.agg #[.int .i64 t.f0, .int .i64 t.f1, .string t.f2, .slice A3 t.f3.length c3, .string t.f4, .slice A t.f5.length c]) t :=
  TF.mk t l3 (Kd.F_mono h3 (fun _ _ => trivial)) (Kd.R_reads' hR).2.1 (F_raw (Kd.F_mono (Kd.R_F hR) (fun _ _ => trivial)) (Foot.mono hf (fun _ _ => trivial)))
end Go.Proofs.Ytaponaemgolmoaa.Tr

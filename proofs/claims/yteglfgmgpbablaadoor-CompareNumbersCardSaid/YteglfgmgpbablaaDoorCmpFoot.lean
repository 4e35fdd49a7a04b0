/- Trees and ways as values, with the blocks that they are read from. -/
import Derived.Test.YteglfgmgpbablaaDoorCmpRaw
import Derived.Test.YteglfgmgpbablaaDoorWFootNe
namespace Go.Proofs.YteglfgmgpbablaaDoor.Cmp
open Go.RowKit Go.Proofs.YteglfgmgpbablaaDoor.PCompareTells Go.Proofs.YteglfgmgpbablaaDoorW.PrintWords Go.Proofs.YteglfgmgpbablaaDoorW.PrintLast
/-- A tree as a value; what it leads to lies in ok. -/
def TF (w : World) (ok : Nat → Prop) (v : Value) (t : S26) : Prop := Foot (fun W => TV W v t) w ok
/-- A way as a value; what it leads to lies in ok. -/
def WF (w : World) (ok : Nat → Prop) (v : Value) (l : List Nat) : Prop := Foot (fun W => WV W v l) w ok
theorem TF.now {w : World} {ok : Nat → Prop} {v : Value} {t : S26} (h : TF w ok v t) : TV w v t := Foot.now h
theorem WF.now {w : World} {ok : Nat → Prop} {v : Value} {l : List Nat} (h : WF w ok v l) : WV w v l := Foot.now h
theorem TF.mono {w : World} {ok ok' : Nat → Prop} {v : Value} {t : S26} (h : TF w ok v t) (hk : ∀ k, ok k → ok' k) : TF w ok' v t := Foot.mono h hk
theorem WF.mono {w : World} {ok ok' : Nat → Prop} {v : Value} {l : List Nat} (h : WF w ok v l) (hk : ∀ k, ok k → ok' k) : WF w ok' v l := Foot.mono h hk
theorem TF.step {w w1 : World} {ok : Nat → Prop} {v : Value} {t : S26} (h : TF w ok v t) (hm : ∀ k, ok k → k < w.heap.size → w1.heap[k]? = w.heap[k]?) : TF w1 ok v t := Foot.step h hm
theorem WF.step {w w1 : World} {ok : Nat → Prop} {v : Value} {l : List Nat} (h : WF w ok v l) (hm : ∀ k, ok k → k < w.heap.size → w1.heap[k]? = w.heap[k]?) : WF w1 ok v l := Foot.step h hm
theorem TF.below {w w1 : World} {ok : Nat → Prop} {v : Value} {t : S26} (h : TF w ok v t) (hb : Below w.heap.size w w1) : TF w1 ok v t := h.step (fun k _ hk => hb.block k hk)
theorem WF.below {w w1 : World} {ok : Nat → Prop} {v : Value} {l : List Nat} (h : WF w ok v l) (hb : Below w.heap.size w w1) : WF w1 ok v l := h.step (fun k _ hk => hb.block k hk)
theorem TF.bound {w : World} {ok : Nat → Prop} {v : Value} {t : S26} (h : TF w ok v t) : TF w (fun k => ok k ∧ k < w.heap.size) v t := Foot.bound h
theorem WF.bound {w : World} {ok : Nat → Prop} {v : Value} {l : List Nat} (h : WF w ok v l) : WF w (fun k => ok k ∧ k < w.heap.size) v l := Foot.bound h
theorem WF.nil (w : World) (ok : Nat → Prop) : WF w ok (.slice none 0 0) [] := fun W _ => WV.nil W
theorem heap_k47 : Kd.Heap k47 := Kd.heap_iso _ (Kd.heap_pair Kd.heap_string Kd.heap_string)
/-- Opened: the attributes' row, the kids' row. -/
theorem TF.open_ {w : World} {ok : Nat → Prop} {v : Value} {t : S26} (h : TF w ok v t) : ∃ (A3 : Option Addr) (c3 : Nat) (A5 : Option Addr) (c5 : Nat), v = .agg #[.int .i64 t.f0, .int .i64 t.f1, .string t.f2, .slice A3 t.f3.length c3, .string t.f4, .slice A5 t.f5.length c5] ∧ t.f3.length ≤ c3 ∧ Kd.F k47 w ok A3 t.f3.length t.f3 ∧ t.f5.length ≤ c5 ∧ Kd.F k26 w ok A5 t.f5.length t.f5 := by
  obtain ⟨A3, c3, A5, c5, e, l3, _, l5, _⟩ := h.now
  refine ⟨A3, c3, A5, c5, e, l3, fun W hW => ?_, l5, fun W hW => ?_⟩
  · obtain ⟨B3, d3, B5, d5, e', _, g3, _, _⟩ := h W hW
    rw [e] at e'
    injection e' with e'
    injection e' with e'
    simp only [List.cons.injEq, Value.slice.injEq] at e'
    obtain ⟨_, _, _, ⟨rfl, _, _⟩, _, _⟩ := e'
    exact g3
  · obtain ⟨B3, d3, B5, d5, e', _, _, _, g5⟩ := h W hW
    rw [e] at e'
    injection e' with e'
    injection e' with e'
    simp only [List.cons.injEq, Value.slice.injEq] at e'
    obtain ⟨_, _, _, _, _, ⟨rfl, _, _⟩, _⟩ := e'
    exact g5
theorem TF.mk {w : World} {ok : Nat → Prop} {A3 A5 : Option Addr} {c3 c5 : Nat} (t : S26) (l3 : t.f3.length ≤ c3) (g3 : Kd.F k47 w ok A3 t.f3.length t.f3) (l5 : t.f5.length ≤ c5) (g5 : Kd.F k26 w ok A5 t.f5.length t.f5) : TF w ok (.agg #[.int .i64 t.f0, .int .i64 t.f1, .string t.f2, .slice A3 t.f3.length c3, .string t.f4, .slice A5 t.f5.length c5]) t :=
  fun W hW => ⟨A3, c3, A5, c5, rfl, l3, g3 W hW, l5, g5 W hW⟩
/-- The cells of a row that is read lie in its blocks. -/
theorem KL_foot {w : World} {ok : Nat → Prop} {A : Option Addr} {xs : List S26} {rs : List Raw} (h : Kd.F k26 w ok A xs.length xs) (hr : kRaw.C w A rs.length rs) (hk : KL w xs rs) : Foot (fun W => KL W xs rs) w ok := by
  intro W hW
  have hlen := hk.len
  have key : ∀ (j : Nat) (x : S26) (r : Raw), xs[j]? = some x → rs[j]? = some r → k26.K W x (cl r) := by
    intro j x r hx hr'
    have hj : j < xs.length := (List.getElem?_eq_some_iff.1 hx).1
    obtain ⟨ad, hA, hc⟩ := (h W hW).2.2 (by omega)
    obtain ⟨c, hl, hK, hcell⟩ := hc j x hx
    obtain ⟨ad', hA', hc'⟩ := hr.2.2 (by omega)
    rw [hA] at hA'
    cases hA'
    obtain ⟨c', hl', hK', hcell'⟩ := hc' j r hr'
    obtain rfl := kRaw_K hK'
    have hin := Kd.F_in h hA (by omega) (by show 0 < 6; omega)
    have hlt : ad.block < w.heap.size := Kd.C_lt (d := k26) (by rw [← hA]; exact Kd.F_now h) (by omega) (by show 0 < 6; omega)
    have hsame := hW _ hin hlt
    have hcl6 : (cl r).length = 6 := rfl
    have e : c = cl r := by
      have hl6 : c.length = 6 := hl
      refine List.ext_getElem? (fun i => ?_)
      by_cases hi : i < 6
      · have h1 := hcell i _ (List.getElem?_eq_getElem (by omega))
        have h2 := hcell' i _ (List.getElem?_eq_getElem (by omega))
        have hb : (ad.add (j * 6 + i)).block = ad.block := by unfold Addr.add; split <;> rfl
        have h3 : W.cell? (ad.add (j * 6 + i)) = w.cell? (ad.add (j * 6 + i)) := by
          unfold World.cell?
          rw [hb, hsame]
        have h2' : w.cell? (ad.add (j * 6 + i)) = some ((cl r)[i]'(by omega)) := h2
        have h1' : W.cell? (ad.add (j * 6 + i)) = some (c[i]'(by omega)) := h1
        rw [h3, h2'] at h1'
        rw [List.getElem?_eq_getElem (by omega), List.getElem?_eq_getElem (by omega)]
        exact h1'.symm
      · rw [List.getElem?_eq_none (by omega), List.getElem?_eq_none (by omega)]
    rw [← e]
    exact hK
  clear h hr hk
  induction xs generalizing rs with
  | nil =>
    cases rs with
    | nil => exact .nil
    | cons _ _ => simp at hlen
  | cons x xs ih =>
    cases rs with
    | nil => simp at hlen
    | cons r rs => exact .cons (key 0 x r rfl rfl) (ih (by simpa using hlen) (fun j y s hy hs => key (j + 1) y s hy hs))
/-- A row of bare cells that is read in ok, and what the cells lead to. -/
theorem F_raw {w : World} {ok : Nat → Prop} {A : Option Addr} {n : Nat} {xs : List S26} {rs : List Raw} (hr : Kd.F kRaw w ok A n rs) (hk : Foot (fun W => KL W xs rs) w ok) : Kd.F k26 w ok A xs.length xs := fun W hW => by
  have h1 := hr W hW
  have hn : n = rs.length := h1.1.symm
  subst hn
  exact raw_C h1 (hk W hW)
/-- The cells of a tree, with their blocks. -/
theorem KL_one {w : World} {ok : Nat → Prop} {A3 A5 : Option Addr} {c3 c5 : Nat} (t : S26) (l3 : t.f3.length ≤ c3) (g3 : Kd.F k47 w ok A3 t.f3.length t.f3) (l5 : t.f5.length ≤ c5) (g5 : Kd.F k26 w ok A5 t.f5.length t.f5) : Foot (fun W => KL W [t] [⟨⟨.int .i64 t.f0, rfl⟩, ⟨.int .i64 t.f1, rfl⟩, ⟨.string t.f2, rfl⟩, ⟨.slice A3 t.f3.length c3, rfl⟩, ⟨.string t.f4, rfl⟩, ⟨.slice A5 t.f5.length c5, rfl⟩⟩]) w ok :=
  fun W hW => KL.cons (k26_mk W t l3 (g3 W hW) l5 (g5 W hW)) .nil
theorem KL_app {w : World} {ok : Nat → Prop} {xs ys : List S26} {rs ss : List Raw} (h : Foot (fun W => KL W xs rs) w ok) (h2 : Foot (fun W => KL W ys ss) w ok) : Foot (fun W => KL W (xs ++ ys) (rs ++ ss)) w ok := fun W hW => (h W hW).app (h2 W hW)
/-- What was known in w still is, and with more blocks. -/
theorem foot_on {P : World → Prop} {w w' : World} {ok : Nat → Prop} (h : Foot P w ok) (hb : Below w.heap.size w w') (n : Nat) : Foot P w' (fun k => ok k ∨ n ≤ k) := Foot.mono (Foot.step h (fun k _ hk => hb.block k hk)) (fun _ hk => .inl hk)
/-- The end of a call that makes a new row of kids. -/
theorem out_tree {w wF : World} {ok okr : Nat → Prop} {base N : Nat} {A3 Av : Option Addr} {c3 cv n : Nat} (t : S26) {rs : List Raw} (l3 : t.f3.length ≤ c3) (g3 : Kd.F k47 w ok A3 t.f3.length t.f3) (hk : Foot (fun W => KL W t.f5 rs) w ok) (hb : Below w.heap.size w wF) (hR : kRaw.R 26 wF base okr (.slice Av n cv) rs) (hokr : ∀ k, okr k → N ≤ k) (hn : n = t.f5.length) :
    TF wF (fun k => ok k ∨ N ≤ k) (.agg #[.int .i64 t.f0, .int .i64 t.f1, .string t.f2, .slice A3 t.f3.length c3, .string t.f4, .slice Av n cv]) t := by
  have h1 := Kd.R_reads' hR
  have hF : Kd.F kRaw wF (fun k => ok k ∨ N ≤ k) Av n rs := Kd.F_mono (Kd.R_F hR) (fun k hk => .inr (hokr k hk))
  subst hn
  exact TF.mk t l3 (foot_on g3 hb N) (h1.2.1) (F_raw hF (foot_on hk hb N))
theorem int_F {w : World} {ok : Nat → Prop} {g : Nat} {ty : TypeId} {fr : Nat × Nat} {n : Nat} (h : w.heap[g]? = some (.cells #[.int .i64 (n : Int)] ty fr)) (hg : ok g) : WF w ok (.slice (some ⟨g, 0, none⟩) 1 1) [n] := fun W hW => by
  have hb := (hW g hg (blk_lt h)).trans h
  refine ⟨_, _, rfl, Nat.le_refl _, rfl, by simp, fun _ => ⟨_, rfl, fun j p hj => ?_⟩⟩
  match j, hj with
  | 0, hj =>
    cases hj
    refine ⟨[.int .i64 (n : Int)], rfl, rfl, fun i u hu => ?_⟩
    match i, hu with
    | 0, hu =>
      rw [← hu, add0, cell_of_row W g _ _ _ _ hb]
      rfl
end Go.Proofs.YteglfgmgpbablaaDoor.Cmp

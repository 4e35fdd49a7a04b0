/- A stronger contract of tree.Copy: what it hands back has its rows in blocks of its own. Plain part. A stronger contract of tree.Copy: what holds at the head of its loop, and of the node that is popped. -/
import Derived.Test.YtaponaemgolmoaaTrCopy
import Derived.Test.YtaponaemgolmoaaTrUnderT
namespace Go.Proofs.Ytaponaemgolmoaa.Tr
open Go.RowKit Go.Proofs.Ytaponaemgolmoaa.PTreeTells Go.Proofs.YtaponaemgolmoaaW.PrintWords Go.Proofs.YtaponaemgolmoaaW.PrintLast
set_option linter.unusedVariables false
set_option linter.unusedSimpArgs false
theorem swap_V {ok : Nat → Prop} {N Z : Nat} {w w' : World} {p : Option Addr} {x : S26} {b o : Nat} (hp : Own ok N Z w p x b o) {cs : Array Value} (hcs : w.heap[b]? = some (.cells cs 26 (0, 0))) {B3 B5 : Option Addr} {d3 d5 : Nat}
    (hb : w'.heap[b]? = some (.cells ((cs.setIfInBounds (o + 3) (.slice B3 x.f3.length d3)).setIfInBounds (o + 5) (.slice B5 x.f5.length d5)) 26 (0, 0)))
    (hk : ∀ k, okT ok N Z w k → k < w.heap.size → k ≠ b → w'.heap[k]? = w.heap[k]?)
    (l3 : x.f3.length ≤ d3) (l5 : x.f5.length ≤ d5) (r3 : Kd.F k33 w' (okT ok N Z w') B3 x.f3.length x.f3) {rs : List Raw} {A5 : Option Addr} {c5 : Nat} (ha5 : w.cell? ⟨b, o + 5, none⟩ = some (.slice A5 x.f5.length c5)) (a5 : kRaw.C w A5 rs.length rs) (r5 : Kd.F kRaw w' (okT ok N Z w') B5 rs.length rs) (hrl : rs.length = x.f5.length) :
    ∀ W' : World, (∀ k, okT ok N Z w' k → k < w'.heap.size → W'.heap[k]? = w'.heap[k]?) → ∃ V : World, (∀ k, okT ok N Z w k → k < w.heap.size → V.heap[k]? = w.heap[k]?) ∧ Swap V W' b o x A5 B3 B5 d3 d5 := by
  intro W' hW'
  have hok' : ∀ k, okT ok N Z w k → okT ok N Z w' k := fun k hk' => by
    rcases hk' with h | ⟨h1, h2, cs', t, hh, ht⟩
    · exact .inl h
    · by_cases e : k = b
      · subst e
        exact .inr ⟨h1, h2, _, 26, hb, .inl rfl⟩
      · exact .inr ⟨h1, h2, cs', t, (hk k (.inr ⟨h1, h2, cs', t, hh, ht⟩) (blk_lt hh) e).trans hh, ht⟩
  have hokb : okT ok N Z w b := .inr ⟨hp.new.1, hp.new.2, cs, 26, hcs, .inl rfl⟩
  have hbW' := hW' b (hok' b hokb) (blk_lt hb)
  rw [hb] at hbW'
  obtain ⟨V, hWb, hWk⟩ := reverted W' b (.cells cs 26 (0, 0)) (blk_lt hbW')
  have hsz : ∀ k, okT ok N Z w k → k < w.heap.size → k ≠ b → k < w'.heap.size := fun k h1 h2 h3 => by
    have h4 := hk k h1 h2 h3
    rw [Array.getElem?_eq_getElem h2] at h4
    exact (Array.getElem?_eq_some_iff.1 h4).1
  have hag : ∀ k, okT ok N Z w k → k < w.heap.size → V.heap[k]? = w.heap[k]? := fun k h1 h2 => by
    by_cases e : k = b
    · subst e
      rw [hWb, hcs]
    · rw [hWk k e, hW' k (hok' k h1) (hsz k h1 h2 e), hk k h1 h2 e]
  have tp := hp.foot V hag
  have u3 := r3 W' hW'
  have u5 := r5 W' hW'
  obtain ⟨A3, c3, A5', c5', i0, i1, i2, i3, i4, i5, j3, v3, j5, v5⟩ := tp
  dsimp only at i0 i1 i2 i3 i4 i5
  have hcell : ∀ q, V.cell? ⟨b, q, none⟩ = w.cell? ⟨b, q, none⟩ := fun q => by
    unfold World.cell?
    rw [hWb, hcs]
  rw [hcell, ha5] at i5
  simp only [Option.some.injEq, Value.slice.injEq] at i5
  obtain ⟨rfl, _, rfl⟩ := i5
  have ho5 : o + 5 < cs.size := by
    have h9 := ha5
    unfold World.cell? at h9
    rw [hcs] at h9
    simp at h9
    exact (Array.getElem?_eq_some_iff.1 h9).1
  have hS : Swap V W' b o x A5 B3 B5 d3 d5 := by
    refine ⟨⟨A3, c3, c5, i0, i1, i2, i3, i4, by rw [hcell]; exact ha5, v3⟩, fun a u hc hn => cell_blk hc (hWk _ hn).symm, fun q u hc h3 h5 => ?_, ?_, ?_, l3, l5, u3, fun a5' hA hp0 => ?_⟩
    · unfold World.cell? at hc ⊢
      rw [hWb] at hc
      rw [hbW']
      simp at hc ⊢
      rw [Array.getElem?_setIfInBounds_ne (by omega), Array.getElem?_setIfInBounds_ne (by omega)]
      exact hc
    · unfold World.cell?
      rw [hbW']
      simp only [Option.isSome_none, Bool.false_eq_true, if_false]
      rw [Array.getElem?_setIfInBounds_ne (by omega), Array.getElem?_setIfInBounds_self_of_lt (by omega)]
    · unfold World.cell?
      rw [hbW']
      simp only [Option.isSome_none, Bool.false_eq_true, if_false]
      rw [Array.getElem?_setIfInBounds_self_of_lt (by rw [Array.size_setIfInBounds]; omega)]
    · subst hA
      obtain ⟨b5, hB, hcp⟩ := u5.2.2 (by omega)
      obtain ⟨_, e5, hca⟩ := a5.2.2 (by omega)
      cases e5
      refine ⟨b5, hB, fun k u hk' hc => ?_⟩
      obtain ⟨r, hr⟩ : ∃ r, rs[k / 6]? = some r := ⟨_, List.getElem?_eq_getElem (by omega)⟩
      obtain ⟨c, hl, hK, hcc⟩ := hcp _ r hr
      obtain rfl := kRaw_K hK
      obtain ⟨c2, hl2, hK2, hcc2⟩ := hca _ r hr
      obtain rfl := kRaw_K hK2
      have hkk : k / 6 * kRaw.sz + k % 6 = k := by show k / 6 * 6 + k % 6 = k; omega
      obtain ⟨u', hu'⟩ : ∃ u', (cl r)[k % 6]? = some u' := ⟨_, List.getElem?_eq_getElem (by show k % 6 < 6; omega)⟩
      have g1 := hcc _ _ hu'
      have g2 := hcc2 _ _ hu'
      rw [hkk] at g1 g2
      rw [g1]
      have hF : Kd.F k26 w (okT ok N Z w) (some a5') x.f5.length x.f5 := fun V2 h2 => by
        obtain ⟨_, _, E5, e5, _, _, _, _, _, k5, _, _, _, v5'⟩ := hp.foot V2 h2
        dsimp only at k5
        have hbb := h2 b hokb (blk_lt hcs)
        have := cell_blk (w' := w) k5 hbb.symm
        rw [ha5] at this
        cases this
        exact v5'
      have hin := Kd.F_in hF rfl hp0 (by show 0 < 6; omega)
      have hlt := Kd.C_lt (Kd.F_now hF) hp0 (by show 0 < 6; omega)
      have hbk : (a5'.add k).block = a5'.block := by unfold Addr.add; split <;> rfl
      have hcc3 := cell_blk (w' := w) hc (by rw [hbk]; exact (hag _ hin hlt).symm)
      rw [g2] at hcc3
      exact hcc3
  exact ⟨V, hag, hS⟩
theorem Swap.rows {w w' : World} {b o : Nat} {x : S26} {A5 B3 B5 : Option Addr} {d3 d5 : Nat} (h : Swap w w' b o x A5 B3 B5 d3 d5) {E : Option Addr} {zs : List S26} (hc : k26.C w E zs.length zs) : k26.C w' E zs.length zs := by
  by_cases hp : 0 < zs.length
  · obtain ⟨ad, hA, _⟩ := hc.2.2 hp
    subst hA
    exact C_of_TAt hc.2.1 (fun j z hj => h.tree (W z) _ z (Nat.le_refl _) (kid_TAt hc j z hj))
  · exact ⟨rfl, hc.2.1, fun h' => absurd h' hp⟩
theorem Swap.kl {w w' : World} {b o : Nat} {x : S26} {A5 B3 B5 : Option Addr} {d3 d5 : Nat} (h : Swap w w' b o x A5 B3 B5 d3 d5) {xs : List S26} {rs : List Raw} (hk : KL w xs rs) : KL w' xs rs := by
  induction hk with
  | nil => exact .nil
  | cons hx _ ih =>
    obtain ⟨A3, c3, A5', c5, e, l3, g3, l5, g5⟩ := k26_open hx
    refine .cons ?_ ih
    rw [e]
    exact k26_mk w' _ l3 (h.attrs g3) l5 (h.rows g5)
/-- A push or a pop leaves the trees alone, those that came in and those behind N2. -/
theorem keep_push2 {ok : Nat → Prop} {N N2 Z : Nat} (hok : ∀ k, ok k → k < N) {s : Nat} {v v1 : Value} {ps : List (Option Addr)} {w w' : World} (h : StkPt N s v ps w) (hp : Push_ w w' s v v1) {zc : Array Value} (hz : w.heap[Z]? = some (.cells zc 26 (0, 0))) : KeepT ok N2 Z w w' := by
  have ty : ∀ (k : Nat) (cs : Array Value) (t : TypeId), w.heap[k]? = some (Obj.cells cs t (0, 0)) → (t = 26 ∨ t = 33) → w'.heap[k]? = w.heap[k]? := fun k cs t hk ht => by
    refine hp.keep.2 k (blk_lt hk) (fun e => ?_) (fun e => ?_)
    · subst e
      rw [h.stk] at hk
      simp only [Option.some.injEq, Obj.cells.injEq] at hk
      obtain ⟨_, h9, _⟩ := hk
      subst h9
      rcases ht with h | h <;> cases h
    · obtain ⟨cs', hc'⟩ := Kd.R_typed h.row k e.symm
      rw [hc'] at hk
      simp only [Option.some.injEq, Obj.cells.injEq] at hk
      obtain ⟨_, h9, _⟩ := hk
      subst h9
      rcases ht with h | h <;> cases h
  refine ⟨hp.keep.1, fun k hk hlt => ?_, ty Z zc 26 hz (.inl rfl)⟩
  rcases hk with ⟨hk, _⟩ | ⟨h1, h2, cs, t, hb, ht⟩
  · have := hok k hk
    refine hp.keep.2 k hlt (fun e => by have := h.bs; omega) (fun e => ?_)
    have := Kd.R_base h.row k e.symm
    omega
  · exact ty k cs t hb ht
theorem raw_narrow {e : Nat} {w : World} {base : Nat} {ok : Nat → Prop} {v : Value} {rs : List Raw} (h : kRaw.R e w base ok v rs) : kRaw.R e w base (fun k => v.ownBlock = some k) v rs :=
  ⟨fun k hk => hk, h.2.imp_ (fun x cs hp => kRaw_KM (kRaw.K_of_M hp))⟩
/-- The box of the tree that is copied, its rows its own. -/
structure Top (ok : Nat → Prop) (N2 Z N0 : Nat) (t : S26) (B3 : Option Addr) (d3 : Nat) (B5 : Option Addr) (d5 : Nat) (w : World) : Prop where
  box : w.heap[N0]? = some (.cells #[.int .i64 t.f0, .int .i64 t.f1, .string t.f2, .slice B3 t.f3.length d3, .string t.f4, .slice B5 t.f5.length d5] 26 (0, 0))
  l3 : t.f3.length ≤ d3
  f3 : Kd.F k33 w (okT ok N2 Z w) B3 t.f3.length t.f3
  own : ∀ k, (Value.slice B5 t.f5.length d5).ownBlock = some k → k = Z
  row : ∃ rs, kRaw.R 26 w N2 (fun k => (Value.slice B5 t.f5.length d5).ownBlock = some k) (.slice B5 t.f5.length d5) rs ∧ rs.length = t.f5.length ∧ Foot (fun W => KL W t.f5 rs) w (okT ok N2 Z w)
  z : 0 < t.f5.length → B5 = some ⟨Z, 0, none⟩ ∧ N2 ≤ Z
/-- A node that waits: a kid of the top one, or a deeper one. -/
inductive OwnM (ok : Nat → Prop) (N2 Z : Nat) (t : S26) (w : World) (p : Option Addr) (x : S26) : Prop
  | deep {b o : Nat} (h : Own ok N2 Z w p x b o) : OwnM ok N2 Z t w p x
  | top {j : Nat} (hj : t.f5[j]? = some x) (hp : p = some ⟨Z, j * 6, none⟩) : OwnM ok N2 Z t w p x
inductive OwnsM (ok : Nat → Prop) (N2 Z : Nat) (t : S26) (w : World) : List (Option Addr) → List S26 → Prop
  | nil : OwnsM ok N2 Z t w [] []
  | snoc {ps : List (Option Addr)} {ts : List S26} {p : Option Addr} {x : S26} (h : OwnsM ok N2 Z t w ps ts) (hp : OwnM ok N2 Z t w p x) : OwnsM ok N2 Z t w (ps ++ [p]) (ts ++ [x])
theorem OwnM.step {ok : Nat → Prop} {N2 Z : Nat} {t : S26} {w w' : World} {p : Option Addr} {x : S26} (h : OwnM ok N2 Z t w p x) (hs : ∀ k, okT ok N2 Z w k → k < w.heap.size → w'.heap[k]? = w.heap[k]?) : OwnM ok N2 Z t w' p x := by
  cases h with
  | deep h => exact .deep (h.step hs)
  | top hj hp => exact .top hj hp
theorem OwnsM.step {ok : Nat → Prop} {N2 Z : Nat} {t : S26} {w w' : World} {ps : List (Option Addr)} {ts : List S26} (h : OwnsM ok N2 Z t w ps ts) (hs : ∀ k, okT ok N2 Z w k → k < w.heap.size → w'.heap[k]? = w.heap[k]?) : OwnsM ok N2 Z t w' ps ts := by
  induction h with
  | nil => exact .nil
  | snoc _ hp ih => exact .snoc ih (hp.step hs)
theorem OwnsM.len {ok : Nat → Prop} {N2 Z : Nat} {t : S26} {w : World} {ps : List (Option Addr)} {ts : List S26} (h : OwnsM ok N2 Z t w ps ts) : ps.length = ts.length := by
  induction h with
  | nil => rfl
  | snoc _ _ ih => simp [ih]
theorem OwnsM.cases {ok : Nat → Prop} {N2 Z : Nat} {t : S26} {w : World} {ps : List (Option Addr)} {ts : List S26} (h : OwnsM ok N2 Z t w ps ts) : (ps = [] ∧ ts = []) ∨ ∃ qs p us x, ps = qs ++ [p] ∧ ts = us ++ [x] ∧ OwnsM ok N2 Z t w qs us ∧ OwnM ok N2 Z t w p x := by
  cases h with
  | nil => exact .inl ⟨rfl, rfl⟩
  | snoc h hp => exact .inr ⟨_, _, _, _, rfl, rfl, h, hp⟩
theorem OwnsM.swap {ok : Nat → Prop} {N2 Z : Nat} {t : S26} {w w' : World} {ps : List (Option Addr)} {ts : List S26} (h : OwnsM ok N2 Z t w ps ts) (hs : ∀ (q : Addr) (y : S26), Foot (fun V => TAt V q y) w (okT ok N2 Z w) → Foot (fun V => TAt V q y) w' (okT ok N2 Z w')) (ht : ∀ (k : Nat) (cs : Array Value), w.heap[k]? = some (Obj.cells cs 26 (0, 0)) → (N2 ≤ k ∧ k ≠ Z) → ∃ cs', w'.heap[k]? = some (Obj.cells cs' 26 (0, 0))) : OwnsM ok N2 Z t w' ps ts := by
  induction h with
  | nil => exact .nil
  | snoc _ hp ih =>
    refine .snoc ih ?_
    cases hp with
    | deep hp => exact .deep (hp.swap hs ht)
    | top hj hp => exact .top hj hp
theorem ownsM_kids {ok : Nat → Prop} {N2 Z : Nat} {t : S26} {w : World} {qs : List (Option Addr)} {us : List S26} (h : OwnsM ok N2 Z t w qs us) (x : S26) (g0 : Nat) : ∀ c, c ≤ x.f5.length → (∀ j y, x.f5[j]? = some y → OwnM ok N2 Z t w (some ⟨g0, j * 6, none⟩) y) → OwnsM ok N2 Z t w (qs ++ kidsP g0 c) (us ++ x.f5.take c)
  | 0, _, _ => by simpa [kidsP] using h
  | c + 1, hc, hk => by
    rw [kidsP_succ, List.take_succ_eq_append_getElem (by omega), ← List.append_assoc, ← List.append_assoc]
    exact .snoc (ownsM_kids h x g0 c (by omega) hk) (hk c _ (List.getElem?_eq_getElem (by omega)))
theorem Top.step {ok : Nat → Prop} {N2 Z N0 : Nat} {t : S26} {B3 B5 : Option Addr} {d3 d5 : Nat} {w w' : World} (h : Top ok N2 Z N0 t B3 d3 B5 d5 w) (hs : ∀ k, okT ok N2 Z w k → k < w.heap.size → w'.heap[k]? = w.heap[k]?) (hb : w'.heap[N0]? = w.heap[N0]?) (hz : w'.heap[Z]? = w.heap[Z]?) : Top ok N2 Z N0 t B3 d3 B5 d5 w' := by
  obtain ⟨h1, h2, h3, h8, ⟨rs, h4, h5, h6⟩, h7⟩ := h
  exact ⟨hb.trans h1, h2, okT_step h3 hs, h8, ⟨rs, Kd.R_step h4 (fun k hk _ => by rw [h8 k hk]; exact hz), h5, okT_step h6 hs⟩, h7⟩
/-- All that the walk of a round leaves: the two rows cloned, the two stores done. -/
structure Rnd (w1 wy : World) (b o : Nat) (x : S26) (cb : Array Value) (rs : List Raw) (B3 B5 : Option Addr) (d3 d5 g0 : Nat) (wz : World) : Prop where
  by_ : Below w1.heap.size w1 wy
  eq : wz = (wy.setCell ⟨b, o + 3, none⟩ (.slice B3 x.f3.length d3)).setCell ⟨b, o + 5, none⟩ (.slice B5 x.f5.length d5)
  cb : w1.heap[b]? = some (.cells cb 26 (0, 0))
  ra : k33.R 33 wy w1.heap.size (fun _ => True) (.slice B3 x.f3.length d3) x.f3
  rk : kRaw.R 26 wy w1.heap.size (fun _ => True) (.slice B5 x.f5.length d5) rs
  rl : rs.length = x.f5.length
  g : 0 < x.f5.length → B5 = some ⟨g0, 0, none⟩ ∧ w1.heap.size ≤ g0 ∧ ∃ cs, wy.heap[g0]? = some (.cells cs 26 (0, 0))
namespace Rnd
variable {w1 wy wz : World} {b o : Nat} {x : S26} {cb : Array Value} {rs : List Raw} {B3 B5 : Option Addr} {d3 d5 g0 : Nat}
theorem far (h : Rnd w1 wy b o x cb rs B3 B5 d3 d5 g0 wz) {k : Nat} (hk : k ≠ b) : wz.heap[k]? = wy.heap[k]? := by
  rw [h.eq]
  exact (Below.heap_setCell _ _ _ _ hk).trans (Below.heap_setCell _ _ _ _ hk)
theorem old (h : Rnd w1 wy b o x cb rs B3 B5 d3 d5 g0 wz) {k : Nat} (hk : k ≠ b) (hl : k < w1.heap.size) : wz.heap[k]? = w1.heap[k]? := (h.far hk).trans (h.by_.block k hl)
theorem lt (h : Rnd w1 wy b o x cb rs B3 B5 d3 d5 g0 wz) : b < w1.heap.size := blk_lt h.cb
theorem bk (h : Rnd w1 wy b o x cb rs B3 B5 d3 d5 g0 wz) : wz.heap[b]? = some (.cells ((cb.setIfInBounds (o + 3) (.slice B3 x.f3.length d3)).setIfInBounds (o + 5) (.slice B5 x.f5.length d5)) 26 (0, 0)) := by
  rw [h.eq]
  exact blk_set (blk_set ((h.by_.block b h.lt).trans h.cb) (o + 3) _) (o + 5) _
theorem ra3 (h : Rnd w1 wy b o x cb rs B3 B5 d3 d5 g0 wz) : k33.R 33 wz w1.heap.size (fun k => w1.heap.size ≤ k ∧ k < wz.heap.size ∧ ∃ q, q ∈ 33 :: k33.E ∧ ∃ cells, wz.heap[k]? = some (.cells cells q (0, 0))) (.slice B3 x.f3.length d3) x.f3 := Kd.R_mono (Kd.R_bound (Kd.R_step (Kd.R_bound h.ra) (fun k hk _ => h.far (by have := hk.2.1; have := h.lt; omega)))) (fun k hk => hk.2)
theorem rk3 (h : Rnd w1 wy b o x cb rs B3 B5 d3 d5 g0 wz) : kRaw.R 26 wz w1.heap.size (fun k => w1.heap.size ≤ k ∧ k < wz.heap.size ∧ ∃ q, q ∈ 26 :: kRaw.E ∧ ∃ cells, wz.heap[k]? = some (.cells cells q (0, 0))) (.slice B5 x.f5.length d5) rs := Kd.R_mono (Kd.R_bound (Kd.R_step (Kd.R_bound h.rk) (fun k hk _ => h.far (by have := hk.2.1; have := h.lt; omega)))) (fun k hk => hk.2)
theorem gz (h : Rnd w1 wy b o x cb rs B3 B5 d3 d5 g0 wz) (hp : 0 < x.f5.length) : B5 = some ⟨g0, 0, none⟩ ∧ w1.heap.size ≤ g0 ∧ ∃ cs, wz.heap[g0]? = some (.cells cs 26 (0, 0)) := by
  obtain ⟨h1, h2, cs, h3⟩ := h.g hp
  exact ⟨h1, h2, cs, (h.far (by have := h.lt; omega)).trans h3⟩
end Rnd
/-- What holds behind a round's stores. -/
def Aft (ok : Nat → Prop) (N0 : Nat) (t x : S26) (qs : List (Option Addr)) (us : List S26) (g0 : Nat) (wz : World) : Prop :=
  ∃ (N2 Z : Nat) (B3 : Option Addr) (d3 : Nat) (B5 : Option Addr) (d5 : Nat), N0 + 2 ≤ N2 ∧ N2 ≤ wz.heap.size ∧ Top ok N2 Z N0 t B3 d3 B5 d5 wz ∧ (∃ zc, wz.heap[Z]? = some (.cells zc 26 (0, 0))) ∧ ∀ c, c ≤ x.f5.length → OwnsM ok N2 Z t wz (qs ++ kidsP g0 c) (us ++ x.f5.take c)
theorem size_le {w1 wy wz : World} {b o : Nat} {x : S26} {cb : Array Value} {rs : List Raw} {B3 B5 : Option Addr} {d3 d5 g0 : Nat} (h : Rnd w1 wy b o x cb rs B3 B5 d3 d5 g0 wz) : w1.heap.size ≤ wz.heap.size := by
  rw [h.eq]
  simp only [World.setCell]
  have := h.by_.size
  simpa using this
/-- Behind the first round. -/
theorem aft_root {ok : Nat → Prop} {N0 : Nat} (hok : ∀ k, ok k → k < N0) {w1 wy wz : World} {t : S26} {A3 A5 B3 B5 : Option Addr} {c3 c5 d3 d5 g0 : Nat} {rs : List Raw} (h : Rnd w1 wy N0 0 t #[.int .i64 t.f0, .int .i64 t.f1, .string t.f2, .slice A3 t.f3.length c3, .string t.f4, .slice A5 t.f5.length c5] rs B3 B5 d3 d5 g0 wz) (h2 : N0 + 2 ≤ w1.heap.size) {zc : Array Value} (hz : w1.heap[N0 + 1]? = some (.cells zc 26 (0, 0))) (hf5 : Kd.F k26 w1 ok A5 t.f5.length t.f5) (hrs : kRaw.C w1 A5 rs.length rs) (hkl : KL w1 t.f5 rs) : Aft ok N0 t t [] [] g0 wz := by
  obtain ⟨Z, hzz, hown, hZ⟩ : ∃ Z, (∃ zc, wz.heap[Z]? = some (.cells zc 26 (0, 0))) ∧ (∀ k, (Value.slice B5 t.f5.length d5).ownBlock = some k → k = Z) ∧ (0 < t.f5.length → Z = g0) := by
    cases hob : (Value.slice B5 t.f5.length d5).ownBlock with
    | none =>
      refine ⟨N0 + 1, ⟨zc, (h.old (by omega) (by omega)).trans hz⟩, (fun k hk => by cases hk), fun hp => ?_⟩
      rw [(h.gz hp).1] at hob
      simp [Value.ownBlock] at hob
    | some k =>
      refine ⟨k, Kd.R_typed h.rk3 k hob, (fun k' hk => by cases hk; rfl), fun hp => ?_⟩
      rw [(h.gz hp).1] at hob
      simp [Value.ownBlock] at hob
      exact hob.symm
  obtain ⟨zc', hzz'⟩ := hzz
  refine ⟨w1.heap.size, Z, B3, d3, B5, d5, h2, size_le h, ⟨?_, (Kd.R_reads' h.ra3).2.1, ?_, hown, ⟨rs, raw_narrow h.rk3, h.rl, ?_⟩, fun hp => by rw [hZ hp]; exact ⟨(h.gz hp).1, (h.gz hp).2.1⟩⟩, ⟨zc', hzz'⟩, fun c hc => ?_⟩
  · exact h.bk
  · refine Kd.F_mono (Kd.R_F h.ra3) (fun k hk => ?_)
    obtain ⟨h3, h4, q, hq, cells, hc⟩ := hk
    have h9 : q = 33 := by
      rcases List.mem_cons.1 hq with e | e
      · exact e
      · cases e
    subst h9
    refine .inr ⟨h3, fun e => ?_, cells, 33, hc, .inr rfl⟩
    subst e
    rw [hzz'] at hc
    simp only [Option.some.injEq, Obj.cells.injEq] at hc
    exact absurd hc.2.1 (by decide)
  · have hf := KL_foot hf5 hrs hkl
    refine (Foot.step (W1 := wz) hf (fun k hk hl => h.old (by have := hok k hk; omega) hl)).mono (fun k hk => .inl ⟨hk, by have := hok k hk; omega⟩)
  · exact ownsM_kids .nil t g0 c hc (fun j y hj => .top hj (by rw [hZ (by have := (List.getElem?_eq_some_iff.1 hj).1; omega)]))
/-- Behind a round of a deeper node. -/
theorem aft_deep {ok : Nat → Prop} {N0 N2 Z : Nat} (hok : ∀ k, ok k → k < N0) (hN : N0 + 2 ≤ N2) {w1 wy wz : World} {t x : S26} {b o : Nat} {cb : Array Value} {E5 T3 T5 B3 B5 : Option Addr} {e5 q3 q5 d3 d5 g0 : Nat} {rs : List Raw} {p : Option Addr} {qs : List (Option Addr)} {us : List S26} (h : Rnd w1 wy b o x cb rs B3 B5 d3 d5 g0 wz) (h2 : N2 ≤ w1.heap.size) (hT : Top ok N2 Z N0 t T3 q3 T5 q5 w1) {zc : Array Value} (hz : w1.heap[Z]? = some (.cells zc 26 (0, 0))) (hO : OwnsM ok N2 Z t w1 qs us) (hp : Own ok N2 Z w1 p x b o) (hi5 : w1.cell? ⟨b, o + 5, none⟩ = some (.slice E5 x.f5.length e5)) (hrs : kRaw.C w1 E5 rs.length rs) : Aft ok N0 t x qs us g0 wz := by
  obtain ⟨hNb, hZb⟩ := hp.new
  have hZl := blk_lt hz
  have hbk := h.bk
  have hkp : ∀ k, okT ok N2 Z w1 k → k < w1.heap.size → k ≠ b → wz.heap[k]? = w1.heap[k]? := fun k _ hl hn => h.old hn hl
  have tyF : ∀ (k : Nat) (q : Nat), (q = 26 ∨ q = 33) → w1.heap.size ≤ k → (∃ cells, wz.heap[k]? = some (.cells cells q (0, 0))) → okT ok N2 Z wz k := fun k q hq h1 ⟨cells, hc⟩ => .inr ⟨by omega, by omega, cells, q, hc, hq⟩
  have r3 : Kd.F k33 wz (okT ok N2 Z wz) B3 x.f3.length x.f3 := Kd.F_mono (Kd.R_F h.ra3) (fun k hk => by
    obtain ⟨h2, h3, q, hq, hc⟩ := hk
    have h9 : q = 33 := by
      rcases List.mem_cons.1 hq with h | h
      · exact h
      · cases h
    subst h9
    exact tyF k 33 (.inr rfl) h2 hc)
  have r5 : Kd.F kRaw wz (okT ok N2 Z wz) B5 rs.length rs := Kd.F_mono (by rw [h.rl]; exact Kd.R_F h.rk3) (fun k hk => by
    obtain ⟨h2, h3, q, hq, hc⟩ := hk
    have h9 : q = 26 := by
      rcases List.mem_cons.1 hq with h | h
      · exact h
      · cases h
    subst h9
    exact tyF k 26 (.inl rfl) h2 hc)
  have hd3 := (Kd.R_reads' h.ra3).2.1
  have hd5 := (Kd.R_reads' h.rk3).2.1
  have hsw := swap_foot hp h.cb hbk hkp hd3 hd5 r3 hi5 hrs r5 h.rl
  have hsV := swap_V hp h.cb hbk hkp hd3 hd5 r3 hi5 hrs r5 h.rl
  have hty : ∀ (k : Nat) (cs : Array Value), w1.heap[k]? = some (Obj.cells cs 26 (0, 0)) → (N2 ≤ k ∧ k ≠ Z) → ∃ cs', wz.heap[k]? = some (Obj.cells cs' 26 (0, 0)) := fun k cs hk hn => by
    by_cases e : k = b
    · subst e
      exact ⟨_, hbk⟩
    · exact ⟨cs, (h.old e (blk_lt hk)).trans hk⟩
  have hp3 := hp.swap hsw hty
  have y5 : wz.cell? ⟨b, o + 5, none⟩ = some (.slice B5 x.f5.length d5) := by
    have h5 := hi5
    unfold World.cell? at h5 ⊢
    rw [h.cb] at h5
    rw [hbk]
    simp only [Option.isSome_none, Bool.false_eq_true, if_false] at h5 ⊢
    have h6 := (Array.getElem?_eq_some_iff.1 h5).1
    rw [Array.getElem?_setIfInBounds_self_of_lt (by rw [Array.size_setIfInBounds]; exact h6)]
  obtain ⟨t1, t2, t3, t8, ⟨rt, t4, t5, t6⟩, t7⟩ := hT
  refine ⟨N2, Z, T3, q3, T5, q5, hN, Nat.le_trans h2 (size_le h), ⟨(h.old (by omega) (by omega)).trans t1, t2, fun W' hW' => ?_, t8, ⟨rt, ?_, t5, fun W' hW' => ?_⟩, t7⟩, ⟨zc, (h.old (fun e => hZb e.symm) hZl).trans hz⟩, fun c hc => ?_⟩
  · obtain ⟨V, hV, hS⟩ := hsV W' hW'
    exact hS.attrs (t3 V hV)
  · exact Kd.R_step t4 (fun k hk hl => h.old (fun e => hZb (by rw [← e]; exact t8 k hk)) hl)
  · obtain ⟨V, hV, hS⟩ := hsV W' hW'
    exact hS.kl (t6 V hV)
  · refine ownsM_kids (hO.swap hsw hty) x g0 c hc (fun j y hj => .deep (b := g0) (o := j * 6) ?_)
    have hpos : 0 < x.f5.length := by have := (List.getElem?_eq_some_iff.1 hj).1; omega
    obtain ⟨e, h1, hcs⟩ := h.gz hpos
    refine ⟨rfl, hcs, ⟨by omega, by omega⟩, fun V hV => ?_⟩
    obtain ⟨_, _, E5', e5', _, _, _, _, _, j5, _, _, _, m5⟩ := hp3.foot V hV
    dsimp only at j5
    have hbb := hV b (.inr ⟨hNb, hZb, _, 26, hbk, .inl rfl⟩) (blk_lt hbk)
    have j5' := cell_blk (w' := wz) j5 hbb.symm
    rw [y5] at j5'
    simp only [Option.some.injEq, Value.slice.injEq, true_and] at j5'
    obtain ⟨rfl, rfl⟩ := j5'
    rw [e] at m5
    have h7 := kid_TAt m5 j y hj
    rwa [add0] at h7
theorem cells_all {w : World} {g n : Nat} {rs : List Raw} (h : kRaw.C w (some ⟨g, 0, none⟩) n rs) (k : Nat) (r : Raw) (hr : rs[k]? = some r) : ∀ (j : Nat) (u : Value), (cl r)[j]? = some u → w.cell? ⟨g, k * 6 + j, none⟩ = some u := by
  obtain ⟨z0, z1, z2, z3, z4, z5⟩ := raw_cells h k r hr
  intro j u hu
  match j, hu with
  | 0, hu => cases hu; exact z0
  | 1, hu => cases hu; exact z1
  | 2, hu => cases hu; exact z2
  | 3, hu => cases hu; exact z3
  | 4, hu => cases hu; exact z4
  | 5, hu => cases hu; exact z5
/-- Two stores into a node of an own row. -/
theorem raw_put {w : World} {base g n c : Nat} {ok : Nat → Prop} {rs : List Raw} (h : kRaw.R 26 w base ok (.slice (some ⟨g, 0, none⟩) n c) rs) {k : Nat} {r : Raw} (hr : rs[k]? = some r) (u3 u5 : Vl) : kRaw.R 26 ((w.setCell ⟨g, k * 6 + 3, none⟩ u3.v).setCell ⟨g, k * 6 + 5, none⟩ u5.v) base ok (.slice (some ⟨g, 0, none⟩) n c) (rs.set k ⟨r.x0, r.x1, r.x2, u3, r.x4, u5⟩) := by
  have hk : k < rs.length := (List.getElem?_eq_some_iff.1 hr).1
  have hn := (Kd.R_reads' h).1
  have h1 := (Kd.R_seg (d := kRaw) h (k : Int) (by omega) (by omega) (c := cl r) (seg := [u3.v]) (j := 3) rfl (cells_all (Kd.R_reads' h).2.2 k r hr) (by show 3 + 1 ≤ 6; omega) (x' := ⟨r.x0, r.x1, r.x2, u3, r.x4, r.x5⟩) (okp := fun _ => False) (kRaw_M _ _ _ _) (fun k hk => hk.elim)).1
  rw [Int.toNat_natCast] at h1
  have hr1 : (rs.set k ⟨r.x0, r.x1, r.x2, u3, r.x4, r.x5⟩)[k]? = some ⟨r.x0, r.x1, r.x2, u3, r.x4, r.x5⟩ := by rw [List.getElem?_set_self hk]
  have h2 := (Kd.R_seg (d := kRaw) h1 (k : Int) (by omega) (by omega) (c := cl ⟨r.x0, r.x1, r.x2, u3, r.x4, r.x5⟩) (seg := [u5.v]) (j := 5) rfl (cells_all (Kd.R_reads' h1).2.2 k _ hr1) (by show 5 + 1 ≤ 6; omega) (x' := ⟨r.x0, r.x1, r.x2, u3, r.x4, u5⟩) (okp := fun _ => False) (kRaw_M _ _ _ _) (fun k hk => hk.elim)).1
  rw [Int.toNat_natCast, List.set_set] at h2
  exact h2
/-- Behind a round of a kid of the top one. -/
theorem aft_top {ok : Nat → Prop} {N0 N2 Z : Nat} (hok : ∀ k, ok k → k < N0) (hN : N0 + 2 ≤ N2) {w1 wy wz : World} {t x : S26} {j : Nat} {cb : Array Value} {E5 T3 T5 B3 B5 : Option Addr} {q3 q5 d3 d5 g0 : Nat} {rs : List Raw} {qs : List (Option Addr)} {us : List S26} (h : Rnd w1 wy Z (j * 6) x cb rs B3 B5 d3 d5 g0 wz) (h2 : N2 ≤ w1.heap.size) (hT : Top ok N2 Z N0 t T3 q3 T5 q5 w1) (hj : t.f5[j]? = some x) (hO : OwnsM ok N2 Z t w1 qs us) (hf5 : Kd.F k26 w1 (okT ok N2 Z w1) E5 x.f5.length x.f5) (hrs : kRaw.C w1 E5 rs.length rs) (hkl : KL w1 x.f5 rs) : Aft ok N0 t x qs us g0 wz := by
  have hjl : j < t.f5.length := (List.getElem?_eq_some_iff.1 hj).1
  obtain ⟨t1, t2, t3, t8, ⟨rt, t4, t5, t6⟩, t7⟩ := hT
  obtain ⟨rfl, hNZ⟩ := t7 (by omega)
  have hZl := h.lt
  have hs : ∀ k, okT ok N2 Z w1 k → k < w1.heap.size → wz.heap[k]? = w1.heap[k]? := fun k hk hl => h.old (by
    rcases hk with hk | hk
    · have := hok k hk.1
      omega
    · exact hk.2.1) hl
  have tyF : ∀ (k : Nat) (q : Nat), (q = 26 ∨ q = 33) → w1.heap.size ≤ k → (∃ cells, wz.heap[k]? = some (.cells cells q (0, 0))) → okT ok N2 Z wz k := fun k q hq h1 ⟨cells, hc⟩ => .inr ⟨by omega, by omega, cells, q, hc, hq⟩
  have r3 : Kd.F k33 wz (okT ok N2 Z wz) B3 x.f3.length x.f3 := Kd.F_mono (Kd.R_F h.ra3) (fun k hk => by
    obtain ⟨h2, h3, q, hq, hc⟩ := hk
    have h9 : q = 33 := by
      rcases List.mem_cons.1 hq with h | h
      · exact h
      · cases h
    subst h9
    exact tyF k 33 (.inr rfl) h2 hc)
  have r5 : Kd.F kRaw wz (okT ok N2 Z wz) B5 rs.length rs := Kd.F_mono (by rw [h.rl]; exact Kd.R_F h.rk3) (fun k hk => by
    obtain ⟨h2, h3, q, hq, hc⟩ := hk
    have h9 : q = 26 := by
      rcases List.mem_cons.1 hq with h | h
      · exact h
      · cases h
    subst h9
    exact tyF k 26 (.inl rfl) h2 hc)
  have hd3 := (Kd.R_reads' h.ra3).2.1
  have hd5 := (Kd.R_reads' h.rk3).2.1
  have f5 : Kd.F k26 wz (okT ok N2 Z wz) B5 x.f5.length x.f5 := F_raw r5 (okT_step (KL_foot hf5 hrs hkl) hs)
  have hx : t.f5.getD j z26 = x := by rw [List.getD_eq_getElem?_getD, hj]; rfl
  obtain ⟨K3, k3, K5, k5, hrj, -⟩ := kid_TF t6 j hjl
  rw [hx] at hrj
  have hR := raw_put (Kd.R_below t4 h.by_) hrj ⟨.slice B3 x.f3.length d3, rfl⟩ ⟨.slice B5 x.f5.length d5, rfl⟩
  have hset : t.f5.set j x = t.f5 := by
    obtain ⟨_, e⟩ := List.getElem?_eq_some_iff.1 hj
    rw [← e]
    exact List.set_getElem_self _
  have hKL := KL_set (okT_step t6 hs) j (TF.mk (A3 := B3) (c3 := d3) (A5 := B5) (c5 := d5) x hd3 r3 hd5 f5)
  rw [hset] at hKL
  refine ⟨N2, Z, T3, q3, some ⟨Z, 0, none⟩, q5, hN, Nat.le_trans h2 (size_le h), ⟨(h.old (by omega) (by omega)).trans t1, t2, okT_step t3 hs, t8, ⟨rt.set j (rawT x B3 d3 B5 d5), ?_, by rw [List.length_set]; exact t5, hKL⟩, fun _ => ⟨rfl, hNZ⟩⟩, ⟨_, h.bk⟩, fun c hc => ?_⟩
  · rw [h.eq]
    exact hR
  · refine ownsM_kids (hO.step hs) x g0 c hc (fun i y hi => .deep (b := g0) (o := i * 6) ?_)
    have hpos : 0 < x.f5.length := by have := (List.getElem?_eq_some_iff.1 hi).1; omega
    obtain ⟨e, h1, hcs⟩ := h.gz hpos
    refine ⟨rfl, hcs, ⟨by omega, by omega⟩, fun V hV => ?_⟩
    have hC := f5 V hV
    rw [e] at hC
    have h7 := kid_TAt hC i y hi
    rwa [add0] at h7
end Go.Proofs.Ytaponaemgolmoaa.Tr
namespace Go.Proofs.Ytaponaemgolmoaa.Tr
open Go.RowKit Go.Proofs.Ytaponaemgolmoaa.PTreeTells Go.Proofs.YtaponaemgolmoaaW.PrintWords Go.Proofs.YtaponaemgolmoaaW.PrintLast
set_option linter.unusedVariables false
set_option linter.unusedSimpArgs false
/-- What came in, and rows of trees and of attributes, stay. -/
def Keep3 (N0 : Nat) (w w' : World) : Prop := w.heap.size ≤ w'.heap.size ∧ (∀ k, k < N0 → k < w.heap.size → w'.heap[k]? = w.heap[k]?) ∧ ∀ (k : Nat) (cs : Array Value) (t : TypeId), w.heap[k]? = some (.cells cs t (0, 0)) → (t = 26 ∨ t = 33) → w'.heap[k]? = w.heap[k]?
theorem Keep3.refl (N0 : Nat) (w : World) : Keep3 N0 w w := ⟨Nat.le_refl _, fun _ _ _ => rfl, fun _ _ _ _ _ => rfl⟩
theorem Keep3.trans {N0 : Nat} {w w1 w2 : World} (h : Keep3 N0 w w1) (h2 : Keep3 N0 w1 w2) : Keep3 N0 w w2 :=
  ⟨Nat.le_trans h.1 h2.1, fun k hk hl => (h2.2.1 k hk (Nat.lt_of_lt_of_le hl h.1)).trans (h.2.1 k hk hl), fun k cs t hk ht => (h2.2.2 k cs t ((h.2.2 k cs t hk ht).trans hk) ht).trans (h.2.2 k cs t hk ht)⟩
theorem Keep3.okT {N0 N2 Z : Nat} {ok : Nat → Prop} (hok : ∀ k, ok k → k < N0) {w w' : World} (h : Keep3 N0 w w') : ∀ k, okT ok N2 Z w k → k < w.heap.size → w'.heap[k]? = w.heap[k]? := fun k hk hl => by
  rcases hk with hk | ⟨_, _, cs, t, hb, ht⟩
  · exact h.2.1 k (hok k hk.1) hl
  · exact h.2.2 k cs t hb ht
theorem keep3_push {N : Nat} {s : Nat} {v v1 : Value} {ps : List (Option Addr)} {w w' : World} (h : StkPt N s v ps w) (hp : Push_ w w' s v v1) : Keep3 N w w' := by
  refine ⟨hp.keep.1, fun k hk hlt => ?_, fun k cs t hk ht => ?_⟩
  · refine hp.keep.2 k hlt (fun e => by have := h.bs; omega) (fun e => ?_)
    have := Kd.R_base h.row k e.symm
    omega
  · refine hp.keep.2 k (blk_lt hk) (fun e => ?_) (fun e => ?_)
    · subst e
      rw [h.stk] at hk
      simp only [Option.some.injEq, Obj.cells.injEq] at hk
      obtain ⟨_, h9, _⟩ := hk
      subst h9
      rcases ht with h | h <;> cases h
    · obtain ⟨cs', hc'⟩ := Kd.R_typed h.row k e.symm
      rw [hc'] at hk
      simp only [Option.some.injEq, Obj.cells.injEq] at hk
      obtain ⟨_, h9, _⟩ := hk
      subst h9
      rcases ht with h | h <;> cases h
/-- Nothing done yet. -/
def P1 (ok : Nat → Prop) (N0 s : Nat) (t : S26) (A3 : Option Addr) (c3 : Nat) (A5 : Option Addr) (c5 : Nat) (v : Value) (wr : World) : Prop := StkPt N0 s v [some ⟨N0, 0, none⟩] wr ∧ AL 100000000 t ∧ wr.heap[N0]? = some (.cells #[.int .i64 t.f0, .int .i64 t.f1, .string t.f2, .slice A3 t.f3.length c3, .string t.f4, .slice A5 t.f5.length c5] 26 (0, 0)) ∧ Kd.F k33 wr ok A3 t.f3.length t.f3 ∧ Kd.F k26 wr ok A5 t.f5.length t.f5
/-- The rounds behind the first. -/
def P2 (ok : Nat → Prop) (N0 s : Nat) (t : S26) (v : Value) (ps : List (Option Addr)) (ts : List S26) (wr : World) : Prop := ∃ (N2 Z : Nat) (B3 : Option Addr) (d3 : Nat) (B5 : Option Addr) (d5 : Nat), N0 + 2 ≤ N2 ∧ N2 ≤ wr.heap.size ∧ StkPt N0 s v ps wr ∧ OwnsM ok N2 Z t wr ps ts ∧ ALK 100000000 ts ∧ Top ok N2 Z N0 t B3 d3 B5 d5 wr ∧ ∃ zc, wr.heap[Z]? = some (.cells zc 26 (0, 0))
/-- A node that is popped: its cells, its rows; and what its round leaves. -/
def Node (ok : Nat → Prop) (N0 : Nat) (t x : S26) (b o : Nat) (qs : List (Option Addr)) (us : List S26) (w1 : World) : Prop := ∃ (cb : Array Value) (E3 : Option Addr) (e3 : Nat) (E5 : Option Addr) (e5 : Nat) (rs : List Raw), w1.heap[b]? = some (.cells cb 26 (0, 0)) ∧ w1.cell? ⟨b, o + 3, none⟩ = some (.slice E3 x.f3.length e3) ∧ w1.cell? ⟨b, o + 5, none⟩ = some (.slice E5 x.f5.length e5) ∧ k33.C w1 E3 x.f3.length x.f3 ∧ kRaw.C w1 E5 rs.length rs ∧ rs.length = x.f5.length ∧ N0 ≤ b ∧ b ≠ N0 + 1 ∧ ∀ (wy wz : World) (B3 B5 : Option Addr) (d3 d5 g0 : Nat), Rnd w1 wy b o x cb rs B3 B5 d3 d5 g0 wz → Aft ok N0 t x qs us g0 wz
theorem node_root {ok : Nat → Prop} {N0 s : Nat} (hok : ∀ k, ok k → k < N0) {t : S26} {A3 : Option Addr} {c3 : Nat} {A5 : Option Addr} {c5 : Nat} {v : Value} {wr w1 : World} (h : P1 ok N0 s t A3 c3 A5 c5 v wr) {zc : Array Value} (hz : wr.heap[N0 + 1]? = some (.cells zc 26 (0, 0))) (hk : Keep3 N0 wr w1) : Node ok N0 t t N0 0 [] [] w1 := by
  obtain ⟨_, _, hb, f3, f5⟩ := h
  have hb1 := (hk.2.2 _ _ _ hb (.inl rfl)).trans hb
  have hz1 := (hk.2.2 _ _ _ hz (.inl rfl)).trans hz
  have f3' := Foot.step (W1 := w1) f3 (fun k hk' hl => hk.2.1 k (hok k hk') hl)
  have f5' := Foot.step (W1 := w1) f5 (fun k hk' hl => hk.2.1 k (hok k hk') hl)
  obtain ⟨rs, hrs, hkl⟩ := C_raw (Kd.F_now f5')
  refine ⟨_, A3, c3, A5, c5, rs, hb1, cell_of_row _ _ 3 _ _ _ hb1, cell_of_row _ _ 5 _ _ _ hb1, Kd.F_now f3', hrs, hkl.len.symm, Nat.le_refl _, by omega, fun wy wz B3 B5 d3 d5 g0 h => aft_root hok h (by have := blk_lt hz1; omega) hz1 f5' hrs hkl⟩
theorem node_next {ok : Nat → Prop} {N0 s : Nat} (hok : ∀ k, ok k → k < N0) {t : S26} {v : Value} {ps : List (Option Addr)} {ts : List S26} {wr : World} (h : P2 ok N0 s t v ps ts wr) : (ps = [] ∧ ts = []) ∨ ∃ qs us x b o, ps = qs ++ [some ⟨b, o, none⟩] ∧ ts = us ++ [x] ∧ qs.length = us.length ∧ ∀ w1, Keep3 N0 wr w1 → Node ok N0 t x b o qs us w1 := by
  obtain ⟨N2, Z, B3, d3, B5, d5, hN, hN2, hst, hO, hal, hT, zc, hz⟩ := h
  rcases hO.cases with h | ⟨qs, p, us, x, rfl, rfl, hqs, hp⟩
  · exact .inl h
  · refine .inr ?_
    have hlen := hqs.len
    cases hp with
    | @deep b o hp =>
      obtain ⟨hpp, ⟨cb0, hcb0⟩, hnew, hfoot⟩ := hp
      subst hpp
      refine ⟨qs, us, x, b, o, rfl, rfl, hlen, fun w1 hk => ?_⟩
      have hs := hk.okT (N2 := N2) (Z := Z) hok
      have hz1 := (hk.2.2 _ _ _ hz (.inl rfl)).trans hz
      have hb0 : wr.heap[N0]? = _ := hT.box
      have hT1 := hT.step hs (hk.2.2 _ _ _ hT.box (.inl rfl)) (hk.2.2 _ _ _ hz (.inl rfl))
      have hp1 := (Own.mk (ok := ok) (N := N2) (Z := Z) (w := wr) (p := some ⟨b, o, none⟩) (x := x) rfl ⟨cb0, hcb0⟩ hnew hfoot).step hs
      obtain ⟨E3, e3, E5, e5, i0, i1, i2, i3, i4, i5, l3, g3, l5, g5⟩ := Foot.now hp1.foot
      dsimp only at i3 i5
      obtain ⟨cb, hcb⟩ := hp1.blk
      obtain ⟨rs, hrs, hkl⟩ := C_raw g5
      exact ⟨cb, E3, e3, E5, e5, rs, hcb, i3, i5, g3, hrs, hkl.len.symm, by have := hnew.1; omega, by have := hnew.1; omega, fun wy wz C3 C5 k3 k5 g0 h => aft_deep hok hN h (Nat.le_trans hN2 hk.1) hT1 hz1 (hqs.step hs) hp1 i5 hrs⟩
    | @top j hj hp =>
      subst hp
      refine ⟨qs, us, x, Z, j * 6, rfl, rfl, hlen, fun w1 hk => ?_⟩
      have hs := hk.okT (N2 := N2) (Z := Z) hok
      have hz1 := (hk.2.2 _ _ _ hz (.inl rfl)).trans hz
      have hT1 := hT.step hs (hk.2.2 _ _ _ hT.box (.inl rfl)) (hk.2.2 _ _ _ hz (.inl rfl))
      have hT2 := hT1
      have hjl : j < t.f5.length := (List.getElem?_eq_some_iff.1 hj).1
      obtain ⟨t1, t2, t3, t8, ⟨rt, t4, t5, t6⟩, t7⟩ := hT1
      obtain ⟨rfl, hNZ⟩ := t7 (by omega)
      have hx : t.f5.getD j z26 = x := by rw [List.getD_eq_getElem?_getD, hj]; rfl
      obtain ⟨K3, k3, K5, k5, hrj, htf⟩ := kid_TF t6 j hjl
      rw [hx] at hrj htf
      obtain ⟨z0, z1, z2, z3, z4, z5⟩ := raw_cells (Kd.R_reads' t4).2.2 j _ hrj
      obtain ⟨K3', k3', K5', k5', er, m3, f3, m5, f5⟩ := htf.open_
      injection er with er
      injection er with er
      simp only [List.cons.injEq, Value.slice.injEq] at er
      obtain ⟨_, _, _, ⟨rfl, _, rfl⟩, _, ⟨rfl, _, rfl⟩, _⟩ := er
      obtain ⟨rs, hrs, hkl⟩ := C_raw (Kd.F_now f5)
      exact ⟨zc, K3, k3, K5, k5, rs, hz1, z3, z5, Kd.F_now f3, hrs, hkl.len.symm, by omega, by omega, fun wy wz C3 C5 e3 e5 g0 h => aft_top hok hN h (Nat.le_trans hN2 hk.1) hT2 hj (hqs.step hs) f5 hrs hkl⟩
end Go.Proofs.Ytaponaemgolmoaa.Tr

/- Plain laws of tree.walk: a tree's nodes in the order of their tags; what waits on the stack. The walk of tree.walk: each node is seen, in the order of the tags, until one is refused. -/
import Derived.Test.YtaponaemgolmoaaTrAt
import Derived.Test.YtaponaemgolmoaaTrStkPt
import Derived.Deep.LoopGhost
import Derived.Deep.RegionHeld3
import Derived.Deep.DeepCutAuto
import Derived.Deep.CutBlock
import Derived.Outline
namespace Go.Proofs.Ytaponaemgolmoaa.Tr
open Go.RowKit Go.Proofs.Ytaponaemgolmoaa.PTreeTells Go.Proofs.YtaponaemgolmoaaW.PrintWords Go.Proofs.YtaponaemgolmoaaW.PrintLast
set_option linter.unusedVariables false
mutual
/-- A tree's nodes, each ahead of its kids, with how deep they lie. -/
def pre : S26 → Nat → List (S26 × Nat)
  | ⟨a0, a1, a2, a3, a4, a5⟩, d => (⟨a0, a1, a2, a3, a4, a5⟩, d) :: preL a5 (d + 1)
def preL : List S26 → Nat → List (S26 × Nat)
  | [], _ => []
  | x :: l, d => pre x d ++ preL l d
end
theorem pre_eq (x : S26) (d : Nat) : pre x d = (x, d) :: preL x.f5 (d + 1) := by
  obtain ⟨a0, a1, a2, a3, a4, a5⟩ := x
  rw [pre]
/-- What is to come of what waits. -/
def seqS (G : List (S26 × Nat)) : List (S26 × Nat) := G.reverse.flatMap fun p => pre p.1 p.2
theorem seqS_snoc (G : List (S26 × Nat)) (p : S26 × Nat) : seqS (G ++ [p]) = pre p.1 p.2 ++ seqS G := by unfold seqS; simp
/-- The kids that wait, the last first: m of n. -/
def gx (l : List S26) (d : Nat) : Nat → List (S26 × Nat)
  | 0 => []
  | m + 1 => gx l d m ++ [(l.getD (l.length - 1 - m) z26, d)]
def kx (ad : Addr) (n d : Nat) : Nat → List Pl
  | 0 => []
  | m + 1 => kx ad n d m ++ [⟨some (ad.add ((n - 1 - m) * 6)), (d : Int)⟩]
theorem seqS_gx (l : List S26) (d : Nat) (G : List (S26 × Nat)) : ∀ m, m ≤ l.length → seqS (G ++ gx l d m) = preL (l.drop (l.length - m)) d ++ seqS G
  | 0, _ => by rw [gx, List.append_nil, Nat.sub_zero, List.drop_length]; rfl
  | m + 1, h => by
    have ih := seqS_gx l d G m (by omega)
    have hk : l.length - 1 - m < l.length := by omega
    have e : l.drop (l.length - (m + 1)) = l[l.length - 1 - m] :: l.drop (l.length - m) := by
      rw [show l.length - (m + 1) = l.length - 1 - m from by omega, List.drop_eq_getElem_cons hk, show l.length - 1 - m + 1 = l.length - m from by omega]
    have eg : l.getD (l.length - 1 - m) z26 = l[l.length - 1 - m] := by simp [List.getD, hk]
    rw [gx, ← List.append_assoc, seqS_snoc, ih, e, preL, eg]
    simp
/-- What waits, and where it lies. -/
def MP (w0 : World) (n : Nat) (xs : List Pl) (G : List (S26 × Nat)) : Prop := xs.length = G.length ∧ ∀ (i : Nat) (x : Pl) (p : S26 × Nat), xs[i]? = some x → G[i]? = some p → ∃ ad, x = ⟨some ad, (p.2 : Int)⟩ ∧ TAt w0 ad p.1 ∧ p.2 ≤ n
theorem MP.nil (w0 : World) (n : Nat) : MP w0 n [] [] := ⟨rfl, fun i x p h => by simp at h⟩
theorem MP.mono {w0 : World} {n n' : Nat} {xs : List Pl} {G : List (S26 × Nat)} (h : MP w0 n xs G) (hn : n ≤ n') : MP w0 n' xs G :=
  ⟨h.1, fun i x p hx hp => by obtain ⟨ad, e, ht, hd⟩ := h.2 i x p hx hp; exact ⟨ad, e, ht, Nat.le_trans hd hn⟩⟩
theorem MP.snoc {w0 : World} {n : Nat} {xs : List Pl} {G : List (S26 × Nat)} (h : MP w0 n xs G) {ad : Addr} {x : S26} {d : Nat} (ht : TAt w0 ad x) (hd : d ≤ n) : MP w0 n (xs ++ [⟨some ad, (d : Int)⟩]) (G ++ [(x, d)]) := by
  refine ⟨by simp [h.1], fun i y p hy hp => ?_⟩
  rcases Nat.lt_or_ge i xs.length with hi | hi
  · rw [List.getElem?_append_left hi] at hy
    rw [List.getElem?_append_left (by rw [← h.1]; exact hi)] at hp
    exact h.2 i y p hy hp
  · rw [List.getElem?_append_right hi] at hy
    rw [List.getElem?_append_right (by rw [← h.1]; exact hi), ← h.1] at hp
    obtain ⟨k, hk⟩ : ∃ k, i - xs.length = k := ⟨_, rfl⟩
    rw [hk] at hy hp
    cases k with
    | zero => cases hy; cases hp; exact ⟨ad, rfl, ht, hd⟩
    | succ k => simp at hy
theorem MP.last {w0 : World} {n : Nat} {xs : List Pl} {G : List (S26 × Nat)} {p : S26 × Nat} (h : MP w0 n xs (G ++ [p])) : ∃ xs' ad, xs = xs' ++ [⟨some ad, (p.2 : Int)⟩] ∧ MP w0 n xs' G ∧ TAt w0 ad p.1 ∧ p.2 ≤ n := by
  have hl : xs.length = G.length + 1 := by simpa using h.1
  have hne : xs ≠ [] := fun e => by rw [e] at hl; simp at hl
  have hx := List.dropLast_concat_getLast hne
  obtain ⟨ad, e, ht, hd⟩ := h.2 G.length (xs.getLast hne) p (by rw [List.getLast_eq_getElem, List.getElem?_eq_getElem (by omega)]; congr 1; simp [hl]) (by simp)
  refine ⟨xs.dropLast, ad, by rw [← e]; exact hx.symm, ⟨by simp [hl], fun i y q hy hq => ?_⟩, ht, hd⟩
  have hi : i < G.length := (List.getElem?_eq_some_iff.1 hq).1
  refine h.2 i y q ?_ (by rw [List.getElem?_append_left hi]; exact hq)
  rw [← hx, List.getElem?_append_left (by simp; omega)]
  exact hy
theorem MP.kids {w0 : World} {n : Nat} {xs : List Pl} {G : List (S26 × Nat)} (h : MP w0 n xs G) {ad : Addr} {l : List S26} {d : Nat} (hd : d ≤ n) (hk : ∀ i, i < l.length → TAt w0 (ad.add (i * 6)) (l.getD i z26)) : ∀ m, m ≤ l.length → MP w0 n (xs ++ kx ad l.length d m) (G ++ gx l d m)
  | 0, _ => by rw [kx, gx, List.append_nil, List.append_nil]; exact h
  | m + 1, hm => by
    rw [kx, gx, ← List.append_assoc, ← List.append_assoc]
    exact (MP.kids h hd hk m (by omega)).snoc (hk _ (by omega)) hd
theorem kx_len (ad : Addr) (n d : Nat) : ∀ m, (kx ad n d m).length = m
  | 0 => rfl
  | m + 1 => by rw [kx, List.length_append, kx_len ad n d m]; rfl
theorem seq_len (G : List (S26 × Nat)) : G.length ≤ (seqS G).length := by
  unfold seqS
  rw [List.length_flatMap]
  have h : ∀ l : List (S26 × Nat), l.length ≤ (l.map fun p => (pre p.1 p.2).length).sum := by
    intro l
    induction l with
    | nil => simp
    | cons p l ih =>
      rw [List.map_cons, List.sum_cons, List.length_cons, pre_eq, List.length_cons]
      omega
  have := h G.reverse
  rw [List.length_reverse] at this
  exact this
/-- What lies beside block b, and is no row of bytes, stays. -/
def Beside (b : Nat) (w w' : World) : Prop := ∀ (S : Nat) (cs : Array Value) (t : TypeId), w.heap[S]? = some (.cells cs t (0, 0)) → t ≠ 5 → S ≠ b → w'.heap[S]? = some (.cells cs t (0, 0))
theorem Beside.refl (b : Nat) (w : World) : Beside b w w := fun _ _ _ h _ _ => h
theorem Beside.trans {b : Nat} {w w1 w2 : World} (h : Beside b w w1) (k : Beside b w1 w2) : Beside b w w2 := fun S cs t hs ht hb => k S cs t (h S cs t hs ht hb) ht hb
theorem Beside.set {b : Nat} {w w1 : World} (h : Beside b w w1) (j : Nat) (v : Value) : Beside b w (w1.setCell ⟨b, j, none⟩ v) := fun S cs t hs ht hb => (Below.heap_setCell _ _ _ _ hb).trans (h S cs t hs ht hb)
theorem Beside.of_below {b : Nat} {w w1 : World} (hb : Below w.heap.size w w1) : Beside b w w1 := fun S cs t hs ht hne => (hb.block _ (blk_lt hs)).trans hs
/-- The stack is not touched. -/
theorem StkPl.beside {base s b : Nat} {v : Value} {xs : List Pl} {w w' : World} (h : StkPl base s v xs w) (hb : Beside b w w') (hbb : b < base) : StkPl base s v xs w' :=
  ⟨hb s _ _ h.stk (by decide) (by have := h.bs; omega), Kd.R_mono (Kd.R_move (Kd.R_bound h.row) (fun k hk => by
    obtain ⟨-, h1, -, q, hq, cells, hc⟩ := hk
    rw [hc]
    exact hb k cells q hc (fun e => by subst e; exact absurd hq (by decide)) (by omega))) (fun _ hk => hk.1), h.bs⟩
/-- What the closure's own state looks at: its captured block, and rows of bytes. -/
def Own5 (b : Nat) (w w' : World) : Prop := w.heap.size ≤ w'.heap.size ∧ ∀ S, S < w.heap.size → (S = b ∨ ∃ cs fz, w.heap[S]? = some (.cells cs 5 fz)) → w'.heap[S]? = w.heap[S]?
theorem Own5.of_below {b : Nat} {w w' : World} (h : Below w.heap.size w w') : Own5 b w w' := ⟨h.size, fun S hS _ => h.block S hS⟩
theorem Own5.of_push {base s b : Nat} {v v1 : Value} {xs : List Pl} {w w' : World} (h : StkPl base s v xs w) (hp : Push_ w w' s v v1) (hbb : b < base) : Own5 b w w' := by
  refine ⟨hp.keep.1, fun S hS h5 => hp.keep.2 S hS ?_ ?_⟩
  · rintro rfl
    rcases h5 with e | ⟨cs, fz, e⟩
    · have := h.bs; omega
    · rw [h.stk] at e
      injection e with e
      injection e with _ e _
      cases e
  · intro e
    obtain ⟨inner, ho⟩ := Kd.R_own h.row
    obtain ⟨cells, hc⟩ := own_typed ho S e.symm
    rcases h5 with e5 | ⟨cs, fz, e5⟩
    · have := own_base ho S e.symm; omega
    · rw [hc] at e5
      injection e5 with e5
      injection e5 with _ e5 _
      cases e5
end Go.Proofs.Ytaponaemgolmoaa.Tr
namespace Go.Proofs.Ytaponaemgolmoaa.Tr
open Go.RowKit Go.Proofs.Ytaponaemgolmoaa.PTreeTells Go.Proofs.YtaponaemgolmoaaW.PrintWords Go.Proofs.YtaponaemgolmoaaW.PrintLast
set_option linter.unusedVariables false
set_option linter.unusedSimpArgs false
theorem preL_len : ∀ (l : List S26) (k : Nat), l.length ≤ (preL l k).length
  | [], k => by simp
  | y :: l, k => by
    have ih := preL_len l k
    rw [preL, List.length_append, List.length_cons, pre_eq, List.length_cons]
    omega
theorem push_drew (w : World) (s : Nat) (v : Value) : Push_ w w.drew s v v := ⟨⟨Nat.le_refl _, fun _ _ _ _ => rfl⟩, rfl, rfl, rfl, .inl rfl⟩
/-- What walk hands back. -/
def WalkP (w0 w : World) (L : List (S26 × Nat)) (P : List (S26 × Nat) → World → Prop) (gd : S26 × Nat → Bool) (e : Ending) (w' : World) : Prop := Below w0.heap.size w w' ∧ e = .returned (.bool (L.all gd)) ∧ (L.all gd = true → P L w')
/-- At the loop's head. -/
def WRel (w0 w : World) (t : S26) (P : List (S26 × Nat) → World → Prop) (gd : S26 × Nat → Bool) (s g : Nat) (wr : World) : Prop := ∃ G xs v done, (seqS G).length = g ∧ done ++ seqS G = pre t 1 ∧ StkPl w.heap.size s v xs wr ∧ MP w0 (done.length + 1) xs G ∧ P done wr ∧ Below w0.heap.size w wr ∧ done.all gd = true
def SeeOk (F : Nat) (caps : Array Value) (b : Nat) (P : List (S26 × Nat) → World → Prop) (gd : S26 × Nat → Bool) (w0 : World) (t : S26) : Prop :=
  ∀ done x d ad W, (∃ rest, done ++ (x, d) :: rest = pre t 1) → P done W → TAt W ad x → d ≤ 1000000001 → w0.heap.size ≤ W.heap.size → Calls Try.prog F (#[.agg #[.pointer (some ad), .int .i64 (d : Int)]] ++ caps) W fun e w' => e = .returned (.bool (gd (x, d))) ∧ P (done ++ [(x, d)]) w' ∧ Below w0.heap.size W w' ∧ Beside b W w'
set_option maxHeartbeats 20000000 in
set_option maxRecDepth 100000 in
theorem walkC (F : Nat) (caps : Array Value) (b : Nat) (P : List (S26 × Nat) → World → Prop) (gd : S26 × Nat → Bool) (w0 w : World) (root : Addr) (t : S26) (hroot : TAt w0 root t) (hN : (pre t 1).length ≤ 1000000000) (hw : Below w0.heap.size w0 w) (hb : b < w.heap.size) (h0 : P [] w)
    (hF : ∀ (args : Array Value) (W : World), (callFunc F args).run Try.prog W = .ok (.enter F args) W) (hstab : ∀ done W W', P done W → Own5 b W W' → P done W') (hsee : SeeOk F caps b P gd w0 t) :
    Calls Try.prog 25 #[.pointer (some root), .func (.func F) #[] caps] w (WalkP w0 w (pre t 1) P gd) := by
  have HN := hide hN
  have HW := hide hw
  have HBB := hide hb
  have HP0 := hide h0
  have HST := hide hstab
  have HSEE := hide hsee
  have HF := hide hF
  have HRT := hide hroot
  clear hroot hN hw hb h0 hstab hsee hF
  go_enter Try.func25, Try.ntmps25
  go_wp2_with fail
  refine (newPl w.heap.size w (Nat.le_refl _)).mono ?_
  rintro e w1 ⟨s, rfl, hs1, hb1⟩
  dsimp only
  have HS1 := hide hs1
  have HB1 := hide hb1
  clear hs1 hb1
  go_wp2_with fail
  refine (pushPl w.heap.size s _ [] ⟨some root, 1⟩ w1 HS1.out HB1.out.size (by simp)).mono ?_
  rintro e w2 ⟨rfl, v2, hs2, hp2⟩
  dsimp only
  have hrel : WRel w0 w t P gd s (seqS [(t, 1)]).length w2 := by
    refine ⟨[(t, 1)], _, v2, [], rfl, ?_, hs2, ?_, ?_, ?_, rfl⟩
    · unfold seqS; simp
    · exact (MP.nil w0 1).snoc HRT.out (Nat.le_refl _)
    · exact HST.out _ _ _ (HST.out _ _ _ HP0.out (Own5.of_below HB1.out)) (Own5.of_push HS1.out hp2 HBB.out)
    · exact (HB1.out.mono HW.out.size).trans (HS1.out.step ⟨_, hp2⟩ HW.out.size)
  have HREL := hide hrel
  clear hs2 hp2 hrel HS1 HB1
  go_wp2_with fail
  go_loopg [6, 7, 8] (seqS [(t, 1)]).length (fun g _ _ _ wr => Aside0 (WRel w0 w t P gd s g wr))
  case atStart => exact ⟨HREL.out⟩
  case round =>
    clear HREL
    obtain ⟨G, xs, v, done, hg, hdone, hst, hmp, hP, hB, hgd⟩ := hrel.out
    clear hrel
    have HDONE := hide hdone
    have HSTK := hide hst
    have HMP := hide hmp
    have HP := hide hP
    have HB := hide hB
    have HGD := hide hgd
    have hlen : (seqS G).length ≤ 1000000000 := by have := HN.out; have h2 := congrArg List.length hdone; rw [List.length_append] at h2; omega
    have hdl : done.length + (seqS G).length ≤ 1000000000 := by have := HN.out; have h2 := congrArg List.length hdone; rw [List.length_append] at h2; omega
    have HLEN := hide hlen
    have HDL := hide hdl
    have HG := hide hg
    clear hdone hst hmp hP hB hgd hlen hdl hg
    by_cases hG : G = []
    · subst hG
      have hx : xs = [] := List.eq_nil_of_length_eq_zero (by have := HMP.out.1; simpa using this)
      subst hx
      have HPN := hide (popNonePl w.heap.size s v wr HSTK.out)
      go_wp2_with fail
      refine HPN.out.mono ?_
      rintro e w3 ⟨rfl, hb3⟩
      dsimp only
      have HB3 := hide hb3
      clear hb3 HPN
      go_wp2_with fail
      go_ret
      have hd : done = pre t 1 := by have := HDONE.out; unfold seqS at this; simpa using this
      have hb4 := below_step HB3.out (below_alloc (Below.refl _ _) (.cells #[.pointer none, .int .i64 0] 57))
      refine ⟨HB.out.trans (hb4.mono (Nat.le_trans HW.out.size HB.out.size)), ?_, fun _ => ?_⟩
      · rw [← hd, HGD.out]; rfl
      · rw [← hd]; exact HST.out _ _ _ HP.out (Own5.of_below hb4)
    · have hgl := List.dropLast_concat_getLast hG
      obtain ⟨G', hG'⟩ : ∃ x, G.dropLast = x := ⟨_, rfl⟩
      obtain ⟨⟨x, d⟩, hp⟩ : ∃ x, G.getLast hG = x := ⟨_, rfl⟩
      rw [hG', hp] at hgl
      subst hgl
      obtain ⟨xs', ad, hxs, hmp', hta, hd⟩ := HMP.out.last
      dsimp only at hxs hta hd
      have hxl : xs'.length ≤ 1000000000 := by
        have h1 := hmp'.1
        have h2 := seq_len (G' ++ [(x, d)])
        have h3 := HLEN.out
        rw [List.length_append] at h2
        omega
      subst hxs
      have hdb : d ≤ 1000000000 := by
        have := HDL.out
        have h2 := seq_len (G' ++ [(x, d)])
        rw [List.length_append] at h2
        simp at h2
        omega
      have HPOP := hide (popPl w.heap.size s v xs' ⟨some ad, (d : Int)⟩ wr HSTK.out hxl)
      have HMP' := hide hmp'
      have HTA := hide hta
      have HD := hide hd
      have HDB := hide hdb
      have hsq : seqS (G' ++ [(x, d)]) = (x, d) :: (preL x.f5 (d + 1) ++ seqS G') := by rw [seqS_snoc, pre_eq]; rfl
      have HSQ := hide hsq
      clear hG hG' hp hmp' hta hd hxl hdb hsq
      go_wp2_with fail
      refine HPOP.out.mono ?_
      rintro e w3 ⟨rfl, v3, hs3, hp3⟩
      dsimp only
      have HS3 := hide hs3
      have hgn := heap_alloc_new w3 (.cells #[.pointer (some ad), .int .i64 (d : Int)] 57)
      have b4 := below_alloc (Below.refl w3.heap.size w3) (.cells #[.pointer (some ad), .int .i64 (d : Int)] 57)
      obtain ⟨w4, hw4⟩ : ∃ y, w3.alloc (.cells #[.pointer (some ad), .int .i64 (d : Int)] 57) = y := ⟨_, rfl⟩
      rw [hw4] at hgn b4
      have HP4 := hide (HST.out _ _ _ (HST.out _ _ _ HP.out (Own5.of_push HSTK.out hp3 HBB.out)) (Own5.of_below b4))
      have HS4 := hide (hs3.below b4)
      have HB4 := hide ((HB.out.trans (HSTK.out.step ⟨_, hp3⟩ HW.out.size)).trans (b4.mono (Nat.le_trans HW.out.size (Nat.le_trans hs3.bs (Nat.le_of_lt (blk_lt hs3.stk))))))
      obtain ⟨gp, hgp⟩ : ∃ y, w3.heap.size = y := ⟨_, rfl⟩
      rw [hgp] at hgn
      have HX4 := hide hgn
      have HW4 := hide hw4
      have HGP := hide hgp
      have hne : some gp ≠ v3.ownBlock := by
        intro e
        obtain ⟨inner, ho⟩ := Kd.R_own hs3.row
        have := own_lt ho gp e.symm
        omega
      have HNE := hide hne
      have hgw : w.heap.size ≤ gp := by rw [← hgp]; exact Nat.le_trans hs3.bs (Nat.le_of_lt (blk_lt hs3.stk))
      have hgs : gp ≠ s := by have := blk_lt hs3.stk; omega
      have HGW := hide hgw
      have HGS := hide hgs
      have hT4 := HTA.out.below (HW.out.trans HB4.out)
      have HSE := hide (HSEE.out done x d ad w4 ⟨preL x.f5 (d + 1) ++ seqS G', by rw [← HSQ.out]; exact HDONE.out⟩ HP4.out hT4 (by have := HDB.out; omega) (HW.out.trans HB4.out).size)
      have e0 : w4.cell? ⟨gp, 0, none⟩ = some (.pointer (some ad)) := cell_of_row _ _ 0 _ _ _ hgn
      have e1 : w4.cell? ⟨gp, 1, none⟩ = some (.int .i64 (d : Int)) := cell_of_row _ _ 1 _ _ _ hgn
      clear hs3 hp3 hgn b4 hw4 hgp hne hgw hgs hT4 HPOP
      go_upto_region 6 with fail
      rw [HW4.out, HGP.out]
      go_wp2_with fail
      rw [HF.out, Oper.upon_enter]
      refine HSE.out.mono ?_
      rintro e w5 ⟨rfl, hP5, hb5, hbs5⟩
      dsimp only
      obtain ⟨r, hr⟩ : ∃ r, gd (x, d) = r := ⟨_, rfl⟩
      have HR := hide hr
      have HB5 := hide (HB4.out.trans hb5)
      have HS5 := hide (HS4.out.beside hbs5 HBB.out)
      have hX5 := hbs5 gp _ _ HX4.out (by decide) (by have := HBB.out; have := HGW.out; omega)
      have HX5 := hide hX5
      have HP5 := hide hP5
      rw [hr]
      clear hP5 hb5 hbs5 hX5 hr e0 e1 HSE HP4 HS4 HX4
      cases r with
      | false =>
        go_wp2_with fail
        go_ret
        have hall : (pre t 1).all gd = false := by
          rw [← HDONE.out, HSQ.out, List.all_append, List.all_cons, HR.out]
          simp
        refine ⟨HB5.out, by rw [hall]; rfl, fun h => by rw [hall] at h; cases h⟩
      | true =>
      obtain ⟨A3, c3, A5, c5, h0, h1, h2, h3, h4, h5, l3, g3, l5, g5⟩ := HTA.out
      have h5 := cellW h5 (HW.out.trans HB5.out)
      have h0 := cellW h0 (HW.out.trans HB5.out)
      have e0 : w5.cell? ⟨gp, 0, none⟩ = some (.pointer (some ad)) := cell_of_row _ _ 0 _ _ _ HX5.out
      have hnm : x.f5.length ≤ 1000000000 := by
        have h1 := HLEN.out
        rw [HSQ.out, List.length_cons, List.length_append] at h1
        have := preL_len x.f5 (d + 1)
        omega
      obtain ⟨ad5, hA5⟩ : ∃ a, A5.getD ⟨0, 0, none⟩ = a := ⟨_, rfl⟩
      have hkid : ∀ i, i < x.f5.length → A5 = some ad5 ∧ TAt w0 (ad5.add (i * 6)) (x.f5.getD i z26) := by
        intro i hi
        obtain ⟨q, e, ht⟩ := TAt_kid g5 i hi
        rw [e] at hA5
        have e' : q = ad5 := hA5
        rw [e'] at e ht
        refine ⟨e, ?_⟩
        unfold rd_T26 at ht
        rw [Int.toNat_natCast] at ht
        exact ht
      have HKID := hide hkid
      have HL5 := hide l5
      obtain ⟨n, hn⟩ : ∃ n, x.f5.length = n := ⟨_, rfl⟩
      rw [hn] at hnm h5
      have HNL := hide hn
      clear h0 h1 h2 h3 h4 l3 g3 l5 g5 hkid hn hA5
      go_wp2_with fail
      have HX5b := HX5
      go_loopg [8] n (fun c i wr2 => c ≤ n ∧ i = .int .i64 ((c : Int) - 1) ∧ Aside0 (∃ vk, StkPl w.heap.size s vk (xs' ++ kx ad5 n (d + 1) (n - c)) wr2 ∧ Push_ w5 wr2 s v3 vk))
      case atStart => exact ⟨Nat.le_refl _, rfl, ⟨v3, by rw [Nat.sub_self, kx, List.append_nil]; exact HS5.out, Push_.refl _ _ _⟩⟩
      case round =>
        obtain ⟨hc, rfl, hin⟩ := hrel
        obtain ⟨vk, hsk, hpk⟩ := hin.out
        have HSK := hide hsk
        have HPK := hide hpk
        clear hin hsk hpk
        by_cases h0c : gk = 0
        · subst h0c
          go_wp2_with fail
          go_roundg (seqS (G' ++ gx x.f5 (d + 1) n)).length
          case measure =>
            have h1 := seqS_gx x.f5 (d + 1) G' n (by rw [HNL.out]; exact Nat.le_refl _)
            have h2 := HG.out
            rw [HSQ.out] at h2
            rw [h1, HNL.out, Nat.sub_self, List.drop_zero, ← h2, List.length_cons]
            omega
          case rel =>
            have h1 := seqS_gx x.f5 (d + 1) G' n (by rw [HNL.out]; exact Nat.le_refl _)
            rw [HNL.out, Nat.sub_self, List.drop_zero] at h1
            have hd := HDONE.out
            rw [HSQ.out] at hd
            have hmp := (HMP'.out.mono (n' := (done ++ [(x, d)]).length + 1) (by rw [List.length_append]; omega)).kids (ad := ad5) (l := x.f5) (d := d + 1) (by have := HD.out; rw [List.length_append]; simp; omega) (fun i hi => ?_) n (by rw [HNL.out]; exact Nat.le_refl _)
            case refine_1 => exact (HKID.out i hi).2
            rw [HNL.out] at hmp
            refine ⟨⟨G' ++ gx x.f5 (d + 1) n, xs' ++ kx ad5 n (d + 1) n, vk, done ++ [(x, d)], rfl, ?_, HSK.out, hmp, ?_, ?_, ?_⟩⟩
            · rw [h1, List.append_assoc]; exact hd
            · exact HST.out _ _ _ HP5.out (Own5.of_push HS5.out HPK.out HBB.out)
            · exact HB5.out.trans (HS5.out.step ⟨_, HPK.out⟩ HW.out.size)
            · rw [List.all_append, HGD.out]; simp [HR.out]
        · obtain ⟨c, rfl⟩ : ∃ c, gk = c + 1 := ⟨gk - 1, by omega⟩
          have hbw : Below w0.heap.size w5 wr := HS5.out.step ⟨_, HPK.out⟩ HW.out.size
          have hXr := (HPK.out.keep.2 gp (blk_lt HX5.out) HGS.out HNE.out).trans HX5.out
          have hadb : ad.block < w0.heap.size := by
            obtain ⟨_, _, _, _, h, -⟩ := HTA.out
            exact World.block_lt_of_cell? _ _ h
          have h5r : wr.cell? ⟨ad.block, ad.off + 5, none⟩ = some (.slice A5 n c5) := (hbw.cell (p := ⟨ad.block, ad.off + 5, none⟩) hadb).trans h5
          have e0r : wr.cell? ⟨gp, 0, none⟩ = some (.pointer (some ad)) := cell_of_row _ _ 0 _ _ _ hXr
          have e1r : wr.cell? ⟨gp, 1, none⟩ = some (.int .i64 (d : Int)) := cell_of_row _ _ 1 _ _ _ hXr
          have hck := HKID.out c (by have := HNL.out; omega)
          have hA5 := hck.1
          have hlk : (xs' ++ kx ad5 n (d + 1) (n - (c + 1))).length ≤ 1000000000 := by
            have h1 := HMP'.out.1
            have h2 := seq_len G'
            have h3 := preL_len x.f5 (d + 1)
            have h4 := HLEN.out
            rw [HSQ.out, List.length_cons, List.length_append] at h4
            have h5 := HNL.out
            rw [List.length_append, kx_len]
            omega
          have HLK := hide hlk
          have HPUSH := hide (fun W (hs : StkPl w.heap.size s vk (xs' ++ kx ad5 n (d + 1) (n - (c + 1))) W) => pushPl w.heap.size s vk (xs' ++ kx ad5 n (d + 1) (n - (c + 1))) ⟨some (ad5.add (c * 6)), ((d + 1 : Nat) : Int)⟩ W hs (Nat.le_trans hs.bs (Nat.le_of_lt (blk_lt hs.stk))) HLK.out)
          have ei : ((c + 1 : Nat) : Int) - 1 = (c : Int) := by omega
          have c1 : (0 : Int) ≤ (c : Int) := by omega
          have c2 : (c : Int) < (n : Int) := by omega
          have hdb := HDB.out
          have ed : ((d + 1 : Nat) : Int) = (d : Int) + 1 := by omega
          rw [ei]
          rw [ed] at HPUSH
          subst hA5
          have HADB := hide hadb
          clear hbw hXr hadb hck hlk ei ed
          have hdk : wr.heap.size ≤ wr.drew.heap.size := Nat.le_refl _
          have HKP := hide (fun W vk' (h : Push_ w5 W s v3 vk') => (⟨cell_of_row _ _ 0 _ _ _ ((h.keep.2 gp (blk_lt HX5.out) HGS.out HNE.out).trans HX5.out), cell_of_row _ _ 1 _ _ _ ((h.keep.2 gp (blk_lt HX5.out) HGS.out HNE.out).trans HX5.out), ((HS5.out.step ⟨_, h⟩ HW.out.size : Below w0.heap.size w5 W).cell (p := ⟨ad.block, ad.off + 5, none⟩) HADB.out).trans h5⟩ : W.cell? ⟨gp, 0, none⟩ = some (.pointer (some ad)) ∧ W.cell? ⟨gp, 1, none⟩ = some (.int .i64 (d : Int)) ∧ W.cell? ⟨ad.block, ad.off + 5, none⟩ = some (.slice (some ad5) n c5)))
          have HPD := hide (HPK.out.trans (push_drew wr s vk))
          have HSD := hide (HSK.out.below (Below.drew (Below.refl _ _)))
          clear hdk h5
          have ew : IntKind.i64.wrap ((d : Int) + 1) = (d : Int) + 1 := IntWalk.i64_in _ (by omega)
          go_upto_region 11 with fail
          go_region_held3 (fun W => W.cell? ⟨gp, 0, none⟩ = some (.pointer (some ad)) ∧ W.cell? ⟨gp, 1, none⟩ = some (.int .i64 (d : Int)) ∧ W.cell? ⟨ad.block, ad.off + 5, none⟩ = some (.slice (some ad5) n c5))
            (first | exact HKP.out _ _ HPK.out | exact HKP.out _ _ HPD.out | exact HKP.out _ _ (HPD.out.trans hpn))
            (first | (go_at_call 53; (with_reducible refine (HPUSH.out _ ?_).mono ?_); (exact HSD.out); rintro e wn ⟨rfl, vn, hsn, hpn⟩))
          all_goals
            have HSN := hide hsn
            have HPN := hide (HPD.out.trans hpn)
            clear hsn hpn HKP
            go_wp2_with fail
            go_roundg c
            case measure => omega
            case rel =>
              refine ⟨by omega, by go_num, ⟨vn, ?_, HPN.out⟩⟩
              rw [show n - c = (n - (c + 1)) + 1 from by omega, kx, ← List.append_assoc, show n - 1 - (n - (c + 1)) = c from by omega]
              exact HSN.out
end Go.Proofs.Ytaponaemgolmoaa.Tr

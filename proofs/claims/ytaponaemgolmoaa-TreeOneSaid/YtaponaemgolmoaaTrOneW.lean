/- Plain part of the law TreeOne: a Comment more at a document's end. The walk of the law TreeOne: it is true. -/
import Derived.Test.YtaponaemgolmoaaTrCalls
import Derived.Test.YtaponaemgolmoaaTrShowsP
import Derived.Test.YtaponaemgolmoaaTrKnown
import Derived.Test.YtaponaemgolmoaaTrCopyS
import Derived.Test.YtaponaemgolmoaaTrPut
namespace Go.Proofs.Ytaponaemgolmoaa.Tr
open Go.RowKit Go.Proofs.Ytaponaemgolmoaa.PTreeTells Go.Proofs.YtaponaemgolmoaaW.PrintWords Go.Proofs.YtaponaemgolmoaaW.PrintLast
set_option linter.unusedVariables false
set_option linter.unusedSimpArgs false
theorem under_keep (x : S26) (p : List Nat) (t : S26) : (underL x p t).1 = ⟨t.f0, t.f1, t.f2, t.f3, t.f4, (underL x p t).1.f5⟩ := by
  cases p with
  | nil => rw [underL]; rfl
  | cons k r => rw [underL]
/-- A document of such kids. -/
def docK (k : List S26) : S26 := ⟨1, 0, ⟨#[]⟩, [], ⟨#[]⟩, k⟩
theorem grow_doc (right : Bool) (l : List S30) : ∃ k, growL right l = docK k := by
  have key : ∀ (xs : List S30) (s : S26 × List Nat), (∃ k, s.1 = docK k) → ∃ k, (xs.foldl (fun s x => stepL right x s) s).1 = docK k := by
    intro xs
    induction xs with
    | nil => intro s h; exact h
    | cons x xs ih =>
      intro s h
      rw [List.foldl_cons]
      refine ih _ ?_
      obtain ⟨k, h⟩ := h
      unfold stepL
      rw [under_keep, h]
      exact ⟨_, rfl⟩
  exact key _ _ ⟨[], rfl⟩
/-- A Comment. -/
def comK (h : ByteArray) : S26 := ⟨5, 0, ⟨#[]⟩, [], h, []⟩
theorem cntK_app : ∀ l m : List S26, cntK (l ++ m) = cntK l + cntK m
  | [], m => by rw [List.nil_append, cntK]; omega
  | x :: l, m => by rw [List.cons_append, cntK, cntK, cntK_app l m]; omega
theorem txtK_app : ∀ l m : List S26, txtK (l ++ m) = txtK l ++ txtK m
  | [], m => by rw [List.nil_append, txtK]; rfl
  | x :: l, m => by rw [List.cons_append, txtK, txtK, txtK_app l m, List.append_assoc]
theorem depK_app : ∀ l m : List S26, depK l ≤ depK (l ++ m)
  | [], m => by rw [depK]; exact Nat.zero_le _
  | x :: l, m => by
    rw [List.cons_append, depK, depK]
    have := depK_app l m
    omega
theorem allRK_app : ∀ l m : List S26, allRK (l ++ m) = (allRK l && allRK m)
  | [], m => by rw [List.nil_append, allRK, Bool.true_and]
  | x :: l, m => by rw [List.cons_append, allRK, allRK, allRK_app l m, Bool.and_assoc]
theorem kidsFrom_com (tm : Bool) (k0 : Int) (h : ByteArray) : ∀ (l : List S26) (f : Bool) (was : Int), kidsFrom tm k0 f was (l ++ [comK h]) = kidsFrom tm k0 f was l
  | [], f, was => by
    rw [List.nil_append, kidsFrom, kidsFrom, kidsFrom]
    simp [kidOk, comK]
  | x :: l, f, was => by rw [List.cons_append, kidsFrom, kidsFrom, kidsFrom_com tm k0 h l]
theorem com_right (h : ByteArray) : allR (comK h) = true := by
  rw [allR_eq]
  simp [fieldsB, comK, kidsB, templB, kidsFrom, allRK, ByteArray.toList_eq]
/-- What is asked of a document and the same with a Comment at its end. -/
structure OneL (k : List S26) (h : ByteArray) : Prop where
  same : eqT (docK k) (docK (k ++ [comK h])) = false
  text : eqT (docK (k ++ [comK h])) (docK (k ++ [comK (h ++ ⟨#[33]⟩)])) = false
  cnt : cntT (docK (k ++ [comK h])) = cntT (docK k) + 1
  txt : txtT (docK (k ++ [comK h])) = txtT (docK k)
  dep : depT (docK k) ≤ depT (docK (k ++ [comK h]))
  right : rightB (docK (k ++ [comK h])) = rightB (docK k)
  shw : showR (docK (k ++ [comK h])) [] = showR (docK k) [] ++ ([60, 33, 45, 45, 32] ++ bts h ++ [32, 45, 45, 62] ++ [10])
theorem one_law (k : List S26) (h : ByteArray) : OneL k h := by
  refine ⟨?_, ?_, ?_, ?_, ?_, ?_, ?_⟩
  · rw [eqT_eq, show eqK (docK k).f5 (docK (k ++ [comK h])).f5 0 = false from eqK_len _ _ _ (by show k.length ≠ (k ++ [comK h]).length; simp), Bool.and_false]
  · cases e : eqT (docK (k ++ [comK h])) (docK (k ++ [comK (h ++ ⟨#[33]⟩)])) with
    | false => rfl
    | true =>
      have h1 := eqT_id _ _ e
      unfold docK comK at h1
      simp only [S26.mk.injEq, List.append_cancel_left_eq, List.cons.injEq, and_true, true_and] at h1
      have h2 := congrArg ByteArray.size h1
      rw [ByteArray.size_append] at h2
      exact absurd h2 (by show ¬ h.size = h.size + 1; omega)
  · rw [cntT_eq, cntT_eq]
    show 1 + cntK (k ++ [comK h]) = 1 + cntK k + 1
    rw [cntK_app, cntK, cntK, cntT_eq]
    show 1 + (cntK k + (1 + cntK [] + 0)) = _
    rw [cntK]
    omega
  · rw [txtT_eq, txtT_eq]
    show (if (1 : Int) = 4 then _ else []) ++ txtK (k ++ [comK h]) = (if (1 : Int) = 4 then _ else []) ++ txtK k
    rw [txtK_app, txtK, txtK, txtT_eq]
    show _ ++ (txtK k ++ ((if (5 : Int) = 4 then _ else []) ++ txtK [] ++ [])) = _
    rw [if_neg (by decide), txtK]
    simp
  · rw [depT_eq, depT_eq]
    have : depK (docK k).f5 ≤ depK (docK (k ++ [comK h])).f5 := depK_app k [comK h]
    omega
  · rw [right_all, right_all, allR_eq, allR_eq]
    show ((1 : Int) == 1 && (fieldsB (docK (k ++ [comK h])) && (kidsB (docK (k ++ [comK h])) && allRK (k ++ [comK h])))) = ((1 : Int) == 1 && (fieldsB (docK k) && (kidsB (docK k) && allRK k)))
    have e1 : ∀ k, fieldsB (docK k) = true := fun k => by simp [fieldsB, docK, ByteArray.toList_eq]
    have e2 : ∀ k, kidsB (docK k) = kidsFrom false 1 true 0 k := fun k => by
      have : templB (docK k) = false := by simp [templB, docK]
      unfold kidsB
      rw [this, Bool.false_and]
      rfl
    rw [e1, e1, e2, e2, kidsFrom_com, allRK_app, show allRK [comK h] = true from by rw [allRK, allRK, com_right]; rfl, Bool.and_true]
  · rw [showR_eq, showR_eq]
    show showRK (k ++ [comK h]) [] = showRK k [] ++ _
    rw [showRK_app, showRK, showRK, showR_eq]
    show showRK k [] ++ ([] ++ (lineL (comK h) ++ ([10] ++ showRK [] _)) ++ []) = _
    rw [showRK]
    show showRK k [] ++ ([] ++ ([60, 33, 45, 45, 32] ++ bts h ++ [32, 45, 45, 62] ++ ([10] ++ [])) ++ []) = _
    simp only [List.append_assoc, List.nil_append, List.append_nil]
theorem grow_com (right : Bool) (l : List S30) (k : List S26) (hk : growL right l = docK k) (h : ByteArray) (hh : h.size ≤ 9) : Sm (docK (k ++ [comK h])) := by
  have h1 := grow_grown right l
  rw [hk] at h1
  have h2 := under_W (comK h) [] (docK k) trivial
  have h3 := under_AllN NdOk (comK h) (by unfold comK; rw [AllN]; exact ⟨⟨Nat.zero_le _, hh, Nat.zero_le _, by simp⟩, by rw [AllNK]; trivial⟩) [] (docK k) trivial h1.2
  rw [underL] at h2 h3
  have hw : W (comK h) = 1 := by unfold comK; rw [W, WK]
  refine sm_of _ ?_ h3
  have := h1.1
  have h4 : W (docK (k ++ [comK h])) = W (addK (docK k) (comK h)) := rfl
  have h5 : W (addK (docK k) (comK h), if leafB (comK h) then [] else [(docK k).f5.length]).1 = W (addK (docK k) (comK h)) := rfl
  omega
end Go.Proofs.Ytaponaemgolmoaa.Tr
namespace Go.Proofs.Ytaponaemgolmoaa.Tr
open Go.RowKit Go.Proofs.Ytaponaemgolmoaa.PTreeTells Go.Proofs.YtaponaemgolmoaaW.PrintWords Go.Proofs.YtaponaemgolmoaaW.PrintLast
set_option linter.unusedVariables false
set_option linter.unusedSimpArgs false
theorem box1 (w : World) (u : Array Value) : ∃ w2, w.alloc (.cells u 26) = w2 ∧ Below w.heap.size w w2 ∧ w2.heap[w.heap.size]? = some (.cells u 26 (0, 0)) ∧ w2.heap.size = w.heap.size + 1 :=
  ⟨_, rfl, below_alloc (Below.refl _ _) _, heap_alloc_new _ _, by simp⟩
theorem set_last (x y : S26) : ∀ k : List S26, (k ++ [x]).set k.length y = k ++ [y]
  | [] => rfl
  | a :: k => by rw [List.cons_append, List.length_cons, List.set_cons_succ, set_last x y k]; rfl
/-- Behind the append: the tree u in its box. -/
def Rel3 (w1 : World) (X6 : Nat) (k' : List S26) (B3 : Option Addr) (d3 : Nat) (wx : World) : Prop := ∃ (Av : Option Addr) (cv : Nat), wx.heap[X6]? = some (.cells #[.int .i64 1, .int .i64 0, .string ⟨#[]⟩, .slice B3 0 d3, .string ⟨#[]⟩, .slice Av k'.length cv] 26 (0, 0)) ∧ TF wx (fun j => j < wx.heap.size) (.agg #[.int .i64 1, .int .i64 0, .string ⟨#[]⟩, .slice B3 0 d3, .string ⟨#[]⟩, .slice Av k'.length cv]) (docK k') ∧ Below w1.heap.size w1 wx
/-- 'grow', a document. -/
theorem growD (right : Bool) (l : List S30) (k : List S26) (hk : growL right l = docK k) (A : Option Addr) (c : Nat) (w : World) (hC : k30.C w A l.length l) (hc : l.length ≤ c) :
    Calls Try.prog 9 #[.slice A l.length c, .bool right] w fun e w' => ∃ (A3 : Option Addr) (c3 : Nat) (A5 : Option Addr) (c5 : Nat), e = .returned (.agg #[.int .i64 1, .int .i64 0, .string ⟨#[]⟩, .slice A3 0 c3, .string ⟨#[]⟩, .slice A5 k.length c5]) ∧ TF w' (fun j => j < w'.heap.size) (.agg #[.int .i64 1, .int .i64 0, .string ⟨#[]⟩, .slice A3 0 c3, .string ⟨#[]⟩, .slice A5 k.length c5]) (docK k) ∧ Below w.heap.size w w' :=
  (grow right l A c w hC hc).mono fun e w' ⟨v, he, ht, hb⟩ => by
    rw [hk] at ht
    obtain ⟨A3, c3, A5, c5, rfl, -⟩ := ht.open_
    exact ⟨A3, c3, A5, c5, he, ht.bound.mono (fun j hj => hj.2), hb⟩
/-- 'Copy' of a document. -/
theorem copyD (k : List S26) (A3 : Option Addr) (c3 : Nat) (A5 : Option Addr) (c5 : Nat) (w : World) (ok : Nat → Prop) (ht : TF w ok (.agg #[.int .i64 1, .int .i64 0, .string ⟨#[]⟩, .slice A3 0 c3, .string ⟨#[]⟩, .slice A5 k.length c5]) (docK k)) (hs : Sm (docK k)) :
    Calls Try.prog 14 #[.agg #[.int .i64 1, .int .i64 0, .string ⟨#[]⟩, .slice A3 0 c3, .string ⟨#[]⟩, .slice A5 k.length c5]] w fun e w' => ∃ (B3 : Option Addr) (d3 : Nat) (B5 : Option Addr) (d5 : Nat), e = .returned (.agg #[.int .i64 1, .int .i64 0, .string ⟨#[]⟩, .slice B3 0 d3, .string ⟨#[]⟩, .slice B5 k.length d5]) ∧ CopyRes ok w (docK k) B3 d3 B5 d5 w' ∧ Below w.heap.size w w' :=
  copyS (docK k) A3 c3 A5 c5 w ok ht (by have := hs.w; omega) (AL_mono (by omega) _ hs.al)
set_option maxHeartbeats 20000000 in
set_option maxRecDepth 100000 in
theorem treeOne (l : List S30) (A : Option Addr) (c : Nat) (s : ByteArray) (w : World) (hl : k30.C w A l.length l) (hc : l.length ≤ c) :
    Calls Try.prog 8 #[.slice A l.length c, .string s] w (RetV w (.bool true)) := by
  obtain ⟨k, hk⟩ := grow_doc true l
  have hhs := (head_some s).2.1
  have hst := grow_sm true l
  rw [hk] at hst
  have hsu := grow_com true l k hk (headL s) hhs
  have hlaw := one_law k (headL s)
  have HG := hide (growD true l k hk A c w hl hc)
  have HF := hide (head_some s).1
  obtain ⟨h, hh⟩ : ∃ h, headL s = h := ⟨_, rfl⟩
  rw [hh] at hhs hsu hlaw HF
  have HST := hide hst
  have HSU := hide hsu
  have HLAW := hide hlaw
  have HHS := hide hhs
  clear hl hc hk hh hst hsu hlaw hhs
  obtain ⟨k', hk'⟩ : ∃ k', k ++ [comK h] = k' := ⟨_, rfl⟩
  have hkn : k'.length = k.length + 1 := by rw [← hk', List.length_append]; rfl
  rw [hk'] at HSU
  have HKE := hide hk'
  have HKN := hide hkn
  clear hk' hkn
  obtain ⟨n, hn⟩ : ∃ n, l.length = n := ⟨_, rfl⟩
  rw [hn] at HG ⊢
  clear hn
  have hkl : k.length ≤ 100000 := by
    have h1 := HST.out.w
    have h2 := W_eq (docK k)
    have h3 := WK_len (docK k).f5
    have h4 : (docK k).f5 = k := rfl
    rw [h4] at h2 h3
    omega
  have HKL := hide hkl
  go_enter Try.func8, Try.ntmps8
  go_upto_region 2 with (go_at_call 9; (with_reducible refine HG.out.mono ?_); rintro e wa ⟨A3, c3, A5, c5, rfl, ta, ba⟩; have HTA := hide ta; have HBA := hide ba; clear ta ba)
  obtain ⟨w1, hw1, bw1, hX5, hs1⟩ := box1 wa #[.int .i64 1, .int .i64 0, .string ⟨#[]⟩, .slice A3 0 c3, .string ⟨#[]⟩, .slice A5 k.length c5]
  rw [hw1]
  have HT1 := hide (HTA.out.below bw1)
  have HB1 := hide (below_step HBA.out bw1)
  obtain ⟨X5, hX⟩ : ∃ X, wa.heap.size = X := ⟨_, rfl⟩
  have hX5w : w.heap.size ≤ X5 := by rw [← hX]; exact HBA.out.size
  rw [hX] at HT1 hX5 hs1 ⊢
  clear hw1 bw1 HTA HBA hX HG
  have HX5w := hide hX5w
  have HS1 := hide hs1
  have HX5 := hide hX5
  have HCP := hide (copyD k A3 c3 A5 c5 w1 _ HT1.out HST.out)
  have p0 := cell_of_row _ _ 0 _ _ _ hX5
  have p1 := cell_of_row _ _ 1 _ _ _ hX5
  have p2 := cell_of_row _ _ 2 _ _ _ hX5
  have p3 := cell_of_row _ _ 3 _ _ _ hX5
  have p4 := cell_of_row _ _ 4 _ _ _ hX5
  have p5 := cell_of_row _ _ 5 _ _ _ hX5
  clear hX5w hs1 hX5
  go_upto_region 3 with (go_at_call 14; (with_reducible refine HCP.out.mono ?_); rintro e wb ⟨B3, d3, B5, d5, rfl, hr, bb⟩; have HRS := hide hr; have HBB := hide bb; clear hr bb)
  clear p0 p1 p2 p3 p4 p5 HCP
  obtain ⟨w2, hw2, bw2, hX6, hs2⟩ := box1 wb #[.int .i64 1, .int .i64 0, .string ⟨#[]⟩, .slice B3 0 d3, .string ⟨#[]⟩, .slice B5 k.length d5]
  rw [hw2]
  have hX5_ := ((below_step HBB.out bw2).block _ (blk_lt HX5.out)).trans HX5.out
  have HB2 := hide (below_step HB1.out (below_step HBB.out bw2))
  have HT2 := hide (HT1.out.below (below_step HBB.out bw2))
  have hBC := below_step HBB.out bw2
  obtain ⟨X6, hX⟩ : ∃ X, wb.heap.size = X := ⟨_, rfl⟩
  have h56 : X5 < X6 := by
    have h1 := HBB.out.size
    have h2 := HS1.out
    omega
  rw [hX] at hX6 hs2 ⊢
  have HH56 := hide h56
  have hr := HRS.out
  unfold CopyRes at hr
  obtain ⟨hd3, hf3, rs, hR, hrl, hKL⟩ := hr
  have hown : ∀ j, (Value.slice B5 k.length d5).ownBlock = some j → j < X6 := fun j hj => by
    obtain ⟨cs, hcs⟩ := Kd.R_typed hR j hj
    rw [← hX]
    exact blk_lt hcs
  have HR2 := hide (Kd.R_below hR bw2)
  have HKK := hide hKL
  have HF3 := hide hf3
  have HRL := hide hrl
  have HOWN := hide hown
  have HBX := hide bw2
  have HBC := hide hBC
  have HX5_ := hide hX5_
  have HX6 := hide hX6
  have HS2 := hide hs2
  have HX := hide hX
  have HC6 := hide (fun W (hW : Below w2.heap.size w2 W) => cellW (cell_of_row _ _ 5 _ _ _ hX6) hW)
  clear hd3 hf3 hR hrl hKL hown bw2 hBC hX5_ hX6 hs2 hX h56 hw2 HRS
  go_cut [] from 12 to 19 (fun wx => Rel3 w1 X6 k' B3 d3 wx)
  case first =>
    refine wp_region_held_drew (S := fun W => True) (by kernel_rfl) trivial (fun _ => ?_)
    have b0 := Below.drew (Below.refl w2.heap.size w2)
    have c5 := HC6.out _ b0
    generalize w2.drew = wd at b0 c5 ⊢
    refine wpAnyH_take (i := 0) (oi := ?o0x1) (v := ?v0x1) ?ho0x1 (by kernel_rfl) (by kernel_rfl) (by kernel_rfl) ?hQ0x1 (Or.inl ⟨?hw0x1, ?hy0x1⟩) (by assumption) ?_
    case ho0x1 => (simp only [List.getElem?_toArray, List.getElem?_cons_succ, List.getElem?_cons_zero]; try rfl)
    case hQ0x1 => exact fun _ _ _ h => h
    case hw0x1 => rfl
    case hy0x1 => (intro w hSw; (try dsimp only at hSw); go_simp; (first | done | (with_reducible rfl)))
    (try simp only [Act.put, List.setIfInBounds_toArray, List.set_cons_zero, List.set_cons_succ])
    refine wpAnyH_take (i := 2) (oi := ?o2x2) (v := ?v2x2) ?ho2x2 (by kernel_rfl) (by kernel_rfl) (by kernel_rfl) ?hQ2x2 (Or.inl ⟨?hw2x2, ?hy2x2⟩) (by assumption) ?_
    case ho2x2 => (simp only [List.getElem?_toArray, List.getElem?_cons_succ, List.getElem?_cons_zero]; try rfl)
    case hQ2x2 => exact fun _ _ _ h => h
    case hw2x2 => rfl
    case hy2x2 => (intro w hSw; (try dsimp only at hSw); go_simp; (first | done | (with_reducible rfl)))
    (try simp only [Act.put, List.setIfInBounds_toArray, List.set_cons_zero, List.set_cons_succ])
    refine wpAnyH_ready (rs := [1, 3]) (by kernel_rfl) (by simp) ?_
    refine (AllReadyH.cons (i := 1) (o := ?o1y3) ?ho1y3 (fun K hK => ?_) (AllReadyH.cons (i := 3) (o := ?o3y3) ?ho3y3 (fun K hK => ?_) AllReadyH.nil))
    case ho1y3 => (simp only [List.getElem?_toArray, List.getElem?_cons_succ, List.getElem?_cons_zero]; try rfl)
    case ho3y3 => (simp only [List.getElem?_toArray, List.getElem?_cons_succ, List.getElem?_cons_zero]; try rfl)
    · go_simp
      refine hK.out _ _ trivial (fun _ => ?_)
      clear hK K
      (try simp only [Act.put, List.setIfInBounds_toArray, List.set_cons_zero, List.set_cons_succ])
      refine wpAnyH_ready (rs := [3]) (by kernel_rfl) (by simp) ?_
      refine (AllReadyH.cons (i := 3) (o := ?o3y4) ?ho3y4 (fun K hK => ?_) AllReadyH.nil)
      case ho3y4 => (simp only [List.getElem?_toArray, List.getElem?_cons_succ, List.getElem?_cons_zero]; try rfl)
      go_simp
      go_at_call 18
      (with_reducible refine (arbourkeep_Head.calls s 9 h _ HF.out).mono ?_)
      rintro e wq ⟨rfl, hd⟩
      have bq4 := below_step b0 (Drawn0.below hd)
      clear hd
      clear c5
      have c5 := HC6.out _ bq4
      refine hK.out _ _ trivial (fun _ => ?_)
      clear hK K
      (try simp only [Act.put, List.setIfInBounds_toArray, List.set_cons_zero, List.set_cons_succ])
      refine wpAnyH_take (i := 4) (oi := ?o4x5) (v := ?v4x5) ?ho4x5 (by kernel_rfl) (by kernel_rfl) (by kernel_rfl) ?hQ4x5 (Or.inl ⟨?hw4x5, ?hy4x5⟩) (by assumption) ?_
      case ho4x5 => (simp only [List.getElem?_toArray, List.getElem?_cons_succ, List.getElem?_cons_zero]; try rfl)
      case hQ4x5 => exact fun _ _ _ h => h
      case hw4x5 => rfl
      case hy4x5 => (intro w hSw; (try dsimp only at hSw); go_simp; (first | done | (with_reducible rfl)))
      (try simp only [Act.put, List.setIfInBounds_toArray, List.set_cons_zero, List.set_cons_succ])
      refine wpAnyH_ready (rs := [5]) (by kernel_rfl) (by simp) ?_
      refine (AllReadyH.cons (i := 5) (o := ?o5y6) ?ho5y6 (fun K hK => ?_) AllReadyH.nil)
      case ho5y6 => (simp only [List.getElem?_toArray, List.getElem?_cons_succ, List.getElem?_cons_zero]; try rfl)
      go_simp
      have HBQ := hide bq4
      have HLT := hide (heap_alloc_new wq (.cells #[.int .i64 5, .int .i64 0, .string ⟨#[]⟩, .slice none 0 0, .string h, .slice none 0 0] 26))
      have hbW := below_alloc (Below.refl wq.heap.size wq) (.cells #[.int .i64 5, .int .i64 0, .string ⟨#[]⟩, .slice none 0 0, .string h, .slice none 0 0] 26)
      have HBW := hide (below_step bq4 hbW)
      have HSW := hide (show (wq.alloc (.cells #[.int .i64 5, .int .i64 0, .string ⟨#[]⟩, .slice none 0 0, .string h, .slice none 0 0] 26)).heap.size = wq.heap.size + 1 from by simp)
      clear hbW c5 bq4
      have c5 := HC6.out _ HBW.out
      refine hK.out _ _ trivial (fun _ => ?_)
      clear hK K
      (try simp only [Act.put, List.setIfInBounds_toArray, List.set_cons_zero, List.set_cons_succ])
      refine wpAnyH_ready (rs := [6]) (by kernel_rfl) (by simp) ?_
      refine (AllReadyH.cons (i := 6) (o := ?o6y7) ?ho6y7 (fun K hK => ?_) AllReadyH.nil)
      case ho6y7 => (simp only [List.getElem?_toArray, List.getElem?_cons_succ, List.getElem?_cons_zero]; try rfl)
      skip
      generalize wq.alloc (.cells #[.int .i64 5, .int .i64 0, .string ⟨#[]⟩, .slice none 0 0, .string h, .slice none 0 0] 26) = W at *
      refine Kd.R_append_rows_step kRaw (Rr := kRaw.K W) (w0 := w1) w1.heap.size (by rfl) (.tmp 13) (.tmp 17) 24 26 (.agg #[.int .i64 0, .int .i64 0, .string ⟨#[]⟩, .slice none 0 0, .string ⟨#[]⟩, .slice none 0 0]) 96 rfl Try.underlying24 info26 rfl (by decide) (by decide) (.slice B5 k.length d5) rs [(⟨⟨.int .i64 5, rfl⟩, ⟨.int .i64 0, rfl⟩, ⟨.string ⟨#[]⟩, rfl⟩, ⟨.slice none 0 0, rfl⟩, ⟨.string h, rfl⟩, ⟨.slice none 0 0, rfl⟩⟩ : Raw)] (some ⟨wq.heap.size, 0, none⟩) 1 1 (fun _ => True) (fun _ => False) rfl rfl (Kd.R_mono (Kd.R_below HR2.out HBW.out) (fun _ _ => trivial)) (raw_lit rfl rfl rfl rfl rfl rfl HLT.out) (fun _ _ h => kRaw_KM h) (fun k hk => hk.elim) (fun _ _ => trivial) (below_step HBC.out HBW.out) (by have h1 := HBC.out.size; have h2 := HBW.out.size; omega) (by have h1 := HKL.out; have h2 : rs.length = k.length := HRL.out; omega) ?_
      intro v1 w3 ho hb hg hown
      have hlen : (rs ++ [(⟨⟨.int .i64 5, rfl⟩, ⟨.int .i64 0, rfl⟩, ⟨.string ⟨#[]⟩, rfl⟩, ⟨.slice none 0 0, rfl⟩, ⟨.string h, rfl⟩, ⟨.slice none 0 0, rfl⟩⟩ : Raw)]).length = k'.length := by rw [List.length_append, HKN.out]; have h2 : rs.length = k.length := HRL.out; simp only [List.length_cons, List.length_nil]; omega
      obtain ⟨Av, cv, rfl⟩ := Kd.R_slice ho
      rw [hlen] at ho hown ⊢
      have hX : wb.heap.size = X6 := HX.out
      have hsW : wq.heap.size + 1 = W.heap.size := HSW.out.symm
      have hsq : X6 + 1 ≤ wq.heap.size := by have h1 := HBQ.out.size; have h2 := HS2.out; omega
      have htf := app_tree (w1 := w1) (ok := fun j => j < X5) (t := docK k) (B3 := B3) (d3 := d3) (B5 := B5) (d5 := d5) (x := comK h) (C3 := none) (C5 := none) (e3 := 0) (e5 := 0) (k' := k') (Nat.zero_le _) HF3.out HKK.out (below_step HBX.out HBW.out) hg (fun V o => TF.mk (comK h) (Nat.le_refl _) (fun _ _ => Kd.C_nil _ _) (Nat.le_refl _) (fun _ _ => Kd.C_nil _ _)) ho HKE.out hown (fun j hj => by rw [hX]; exact HOWN.out j hj) (by rw [hX]; omega)
      rw [hX] at htf
      have hX3 := (hg.block X6 (by omega) (fun e => absurd (HOWN.out X6 e.symm) (by omega))).trans ((HBW.out.block X6 (blk_lt HX6.out)).trans HX6.out)
      have f5 := blk_frozen hX3 5
      have g5 := cell_of_row _ _ 5 _ _ _ hX3
      have HX3 := hide hX3
      have HTF := hide htf
      have HBA := hide hb
      clear c5 hX3 htf hb hg hown ho hX hsW hsq hlen
      refine hK.out _ _ trivial (fun _ => ?_)
      clear hK K
      (try simp only [Act.put, List.setIfInBounds_toArray, List.set_cons_zero, List.set_cons_succ])
      refine wpAnyH_take (i := 7) (oi := ?o7x8) (v := ?v7x8) ?ho7x8 (by kernel_rfl) (by kernel_rfl) (by kernel_rfl) ?hQ7x8 (Or.inl ⟨?hw7x8, ?hy7x8⟩) (by assumption) ?_
      case ho7x8 => (simp only [List.getElem?_toArray, List.getElem?_cons_succ, List.getElem?_cons_zero]; try rfl)
      case hQ7x8 => exact fun _ _ _ h => h
      case hw7x8 => rfl
      case hy7x8 => (intro w hSw; (try dsimp only at hSw); go_simp; (first | done | (with_reducible rfl)))
      (try simp only [Act.put, List.setIfInBounds_toArray, List.set_cons_zero, List.set_cons_succ])
      refine wpAnyH_ready (rs := [8]) (by kernel_rfl) (by simp) ?_
      refine (AllReadyH.cons (i := 8) (o := ?o8y9) ?ho8y9 (fun K hK => ?_) AllReadyH.nil)
      case ho8y9 => (simp only [List.getElem?_toArray, List.getElem?_cons_succ, List.getElem?_cons_zero]; try rfl)
      go_simp
      refine hK.out _ _ trivial (fun _ => ?_)
      clear hK K
      (try simp only [Act.put, List.setIfInBounds_toArray, List.set_cons_zero, List.set_cons_succ])
      refine wpAnyH_done (by kernel_rfl) ?_ _
      go_wp2_with fail
      go_meet
      exact ⟨Av, cv, blk_set HX3.out 5 _, (TF.step HTF.out (fun j hj _ => Below.heap_setCell _ _ _ _ hj)).bound.mono (fun j hj => hj.2), HBA.out.setCell (p := ⟨X6, 5, none⟩) (by have h1 := HH56.out; have h2 := HS1.out; show w1.heap.size ≤ X6; omega) _⟩
    · go_simp
      go_at_call 18
      (with_reducible refine (arbourkeep_Head.calls s 9 h _ HF.out).mono ?_)
      rintro e wq ⟨rfl, hd⟩
      have bq3 := below_step b0 (Drawn0.below hd)
      clear hd
      clear c5
      have c5 := HC6.out _ bq3
      refine hK.out _ _ trivial (fun _ => ?_)
      clear hK K
      (try simp only [Act.put, List.setIfInBounds_toArray, List.set_cons_zero, List.set_cons_succ])
      refine wpAnyH_take (i := 4) (oi := ?o4x10) (v := ?v4x10) ?ho4x10 (by kernel_rfl) (by kernel_rfl) (by kernel_rfl) ?hQ4x10 (Or.inl ⟨?hw4x10, ?hy4x10⟩) (by assumption) ?_
      case ho4x10 => (simp only [List.getElem?_toArray, List.getElem?_cons_succ, List.getElem?_cons_zero]; try rfl)
      case hQ4x10 => exact fun _ _ _ h => h
      case hw4x10 => rfl
      case hy4x10 => (intro w hSw; (try dsimp only at hSw); go_simp; (first | done | (with_reducible rfl)))
      (try simp only [Act.put, List.setIfInBounds_toArray, List.set_cons_zero, List.set_cons_succ])
      refine wpAnyH_ready (rs := [1, 5]) (by kernel_rfl) (by simp) ?_
      refine (AllReadyH.cons (i := 1) (o := ?o1y11) ?ho1y11 (fun K hK => ?_) (AllReadyH.cons (i := 5) (o := ?o5y11) ?ho5y11 (fun K hK => ?_) AllReadyH.nil))
      case ho1y11 => (simp only [List.getElem?_toArray, List.getElem?_cons_succ, List.getElem?_cons_zero]; try rfl)
      case ho5y11 => (simp only [List.getElem?_toArray, List.getElem?_cons_succ, List.getElem?_cons_zero]; try rfl)
      · go_simp
        refine hK.out _ _ trivial (fun _ => ?_)
        clear hK K
        (try simp only [Act.put, List.setIfInBounds_toArray, List.set_cons_zero, List.set_cons_succ])
        refine wpAnyH_ready (rs := [5]) (by kernel_rfl) (by simp) ?_
        refine (AllReadyH.cons (i := 5) (o := ?o5y12) ?ho5y12 (fun K hK => ?_) AllReadyH.nil)
        case ho5y12 => (simp only [List.getElem?_toArray, List.getElem?_cons_succ, List.getElem?_cons_zero]; try rfl)
        go_simp
        have HBQ := hide bq3
        have HLT := hide (heap_alloc_new wq (.cells #[.int .i64 5, .int .i64 0, .string ⟨#[]⟩, .slice none 0 0, .string h, .slice none 0 0] 26))
        have hbW := below_alloc (Below.refl wq.heap.size wq) (.cells #[.int .i64 5, .int .i64 0, .string ⟨#[]⟩, .slice none 0 0, .string h, .slice none 0 0] 26)
        have HBW := hide (below_step bq3 hbW)
        have HSW := hide (show (wq.alloc (.cells #[.int .i64 5, .int .i64 0, .string ⟨#[]⟩, .slice none 0 0, .string h, .slice none 0 0] 26)).heap.size = wq.heap.size + 1 from by simp)
        clear hbW c5 bq3
        have c5 := HC6.out _ HBW.out
        refine hK.out _ _ trivial (fun _ => ?_)
        clear hK K
        (try simp only [Act.put, List.setIfInBounds_toArray, List.set_cons_zero, List.set_cons_succ])
        refine wpAnyH_ready (rs := [6]) (by kernel_rfl) (by simp) ?_
        refine (AllReadyH.cons (i := 6) (o := ?o6y13) ?ho6y13 (fun K hK => ?_) AllReadyH.nil)
        case ho6y13 => (simp only [List.getElem?_toArray, List.getElem?_cons_succ, List.getElem?_cons_zero]; try rfl)
        skip
        generalize wq.alloc (.cells #[.int .i64 5, .int .i64 0, .string ⟨#[]⟩, .slice none 0 0, .string h, .slice none 0 0] 26) = W at *
        refine Kd.R_append_rows_step kRaw (Rr := kRaw.K W) (w0 := w1) w1.heap.size (by rfl) (.tmp 13) (.tmp 17) 24 26 (.agg #[.int .i64 0, .int .i64 0, .string ⟨#[]⟩, .slice none 0 0, .string ⟨#[]⟩, .slice none 0 0]) 96 rfl Try.underlying24 info26 rfl (by decide) (by decide) (.slice B5 k.length d5) rs [(⟨⟨.int .i64 5, rfl⟩, ⟨.int .i64 0, rfl⟩, ⟨.string ⟨#[]⟩, rfl⟩, ⟨.slice none 0 0, rfl⟩, ⟨.string h, rfl⟩, ⟨.slice none 0 0, rfl⟩⟩ : Raw)] (some ⟨wq.heap.size, 0, none⟩) 1 1 (fun _ => True) (fun _ => False) rfl rfl (Kd.R_mono (Kd.R_below HR2.out HBW.out) (fun _ _ => trivial)) (raw_lit rfl rfl rfl rfl rfl rfl HLT.out) (fun _ _ h => kRaw_KM h) (fun k hk => hk.elim) (fun _ _ => trivial) (below_step HBC.out HBW.out) (by have h1 := HBC.out.size; have h2 := HBW.out.size; omega) (by have h1 := HKL.out; have h2 : rs.length = k.length := HRL.out; omega) ?_
        intro v1 w3 ho hb hg hown
        have hlen : (rs ++ [(⟨⟨.int .i64 5, rfl⟩, ⟨.int .i64 0, rfl⟩, ⟨.string ⟨#[]⟩, rfl⟩, ⟨.slice none 0 0, rfl⟩, ⟨.string h, rfl⟩, ⟨.slice none 0 0, rfl⟩⟩ : Raw)]).length = k'.length := by rw [List.length_append, HKN.out]; have h2 : rs.length = k.length := HRL.out; simp only [List.length_cons, List.length_nil]; omega
        obtain ⟨Av, cv, rfl⟩ := Kd.R_slice ho
        rw [hlen] at ho hown ⊢
        have hX : wb.heap.size = X6 := HX.out
        have hsW : wq.heap.size + 1 = W.heap.size := HSW.out.symm
        have hsq : X6 + 1 ≤ wq.heap.size := by have h1 := HBQ.out.size; have h2 := HS2.out; omega
        have htf := app_tree (w1 := w1) (ok := fun j => j < X5) (t := docK k) (B3 := B3) (d3 := d3) (B5 := B5) (d5 := d5) (x := comK h) (C3 := none) (C5 := none) (e3 := 0) (e5 := 0) (k' := k') (Nat.zero_le _) HF3.out HKK.out (below_step HBX.out HBW.out) hg (fun V o => TF.mk (comK h) (Nat.le_refl _) (fun _ _ => Kd.C_nil _ _) (Nat.le_refl _) (fun _ _ => Kd.C_nil _ _)) ho HKE.out hown (fun j hj => by rw [hX]; exact HOWN.out j hj) (by rw [hX]; omega)
        rw [hX] at htf
        have hX3 := (hg.block X6 (by omega) (fun e => absurd (HOWN.out X6 e.symm) (by omega))).trans ((HBW.out.block X6 (blk_lt HX6.out)).trans HX6.out)
        have f5 := blk_frozen hX3 5
        have g5 := cell_of_row _ _ 5 _ _ _ hX3
        have HX3 := hide hX3
        have HTF := hide htf
        have HBA := hide hb
        clear c5 hX3 htf hb hg hown ho hX hsW hsq hlen
        refine hK.out _ _ trivial (fun _ => ?_)
        clear hK K
        (try simp only [Act.put, List.setIfInBounds_toArray, List.set_cons_zero, List.set_cons_succ])
        refine wpAnyH_take (i := 7) (oi := ?o7x14) (v := ?v7x14) ?ho7x14 (by kernel_rfl) (by kernel_rfl) (by kernel_rfl) ?hQ7x14 (Or.inl ⟨?hw7x14, ?hy7x14⟩) (by assumption) ?_
        case ho7x14 => (simp only [List.getElem?_toArray, List.getElem?_cons_succ, List.getElem?_cons_zero]; try rfl)
        case hQ7x14 => exact fun _ _ _ h => h
        case hw7x14 => rfl
        case hy7x14 => (intro w hSw; (try dsimp only at hSw); go_simp; (first | done | (with_reducible rfl)))
        (try simp only [Act.put, List.setIfInBounds_toArray, List.set_cons_zero, List.set_cons_succ])
        refine wpAnyH_ready (rs := [8]) (by kernel_rfl) (by simp) ?_
        refine (AllReadyH.cons (i := 8) (o := ?o8y15) ?ho8y15 (fun K hK => ?_) AllReadyH.nil)
        case ho8y15 => (simp only [List.getElem?_toArray, List.getElem?_cons_succ, List.getElem?_cons_zero]; try rfl)
        go_simp
        refine hK.out _ _ trivial (fun _ => ?_)
        clear hK K
        (try simp only [Act.put, List.setIfInBounds_toArray, List.set_cons_zero, List.set_cons_succ])
        refine wpAnyH_done (by kernel_rfl) ?_ _
        go_wp2_with fail
        go_meet
        exact ⟨Av, cv, blk_set HX3.out 5 _, (TF.step HTF.out (fun j hj _ => Below.heap_setCell _ _ _ _ hj)).bound.mono (fun j hj => hj.2), HBA.out.setCell (p := ⟨X6, 5, none⟩) (by have h1 := HH56.out; have h2 := HS1.out; show w1.heap.size ≤ X6; omega) _⟩
      · go_simp
        have HBQ := hide bq3
        have HLT := hide (heap_alloc_new wq (.cells #[.int .i64 5, .int .i64 0, .string ⟨#[]⟩, .slice none 0 0, .string h, .slice none 0 0] 26))
        have hbW := below_alloc (Below.refl wq.heap.size wq) (.cells #[.int .i64 5, .int .i64 0, .string ⟨#[]⟩, .slice none 0 0, .string h, .slice none 0 0] 26)
        have HBW := hide (below_step bq3 hbW)
        have HSW := hide (show (wq.alloc (.cells #[.int .i64 5, .int .i64 0, .string ⟨#[]⟩, .slice none 0 0, .string h, .slice none 0 0] 26)).heap.size = wq.heap.size + 1 from by simp)
        clear hbW c5 bq3
        have c5 := HC6.out _ HBW.out
        refine hK.out _ _ trivial (fun _ => ?_)
        clear hK K
        (try simp only [Act.put, List.setIfInBounds_toArray, List.set_cons_zero, List.set_cons_succ])
        refine wpAnyH_ready (rs := [1]) (by kernel_rfl) (by simp) ?_
        refine (AllReadyH.cons (i := 1) (o := ?o1y16) ?ho1y16 (fun K hK => ?_) AllReadyH.nil)
        case ho1y16 => (simp only [List.getElem?_toArray, List.getElem?_cons_succ, List.getElem?_cons_zero]; try rfl)
        go_simp
        refine hK.out _ _ trivial (fun _ => ?_)
        clear hK K
        (try simp only [Act.put, List.setIfInBounds_toArray, List.set_cons_zero, List.set_cons_succ])
        refine wpAnyH_ready (rs := [6]) (by kernel_rfl) (by simp) ?_
        refine (AllReadyH.cons (i := 6) (o := ?o6y17) ?ho6y17 (fun K hK => ?_) AllReadyH.nil)
        case ho6y17 => (simp only [List.getElem?_toArray, List.getElem?_cons_succ, List.getElem?_cons_zero]; try rfl)
        skip
        generalize wq.alloc (.cells #[.int .i64 5, .int .i64 0, .string ⟨#[]⟩, .slice none 0 0, .string h, .slice none 0 0] 26) = W at *
        refine Kd.R_append_rows_step kRaw (Rr := kRaw.K W) (w0 := w1) w1.heap.size (by rfl) (.tmp 13) (.tmp 17) 24 26 (.agg #[.int .i64 0, .int .i64 0, .string ⟨#[]⟩, .slice none 0 0, .string ⟨#[]⟩, .slice none 0 0]) 96 rfl Try.underlying24 info26 rfl (by decide) (by decide) (.slice B5 k.length d5) rs [(⟨⟨.int .i64 5, rfl⟩, ⟨.int .i64 0, rfl⟩, ⟨.string ⟨#[]⟩, rfl⟩, ⟨.slice none 0 0, rfl⟩, ⟨.string h, rfl⟩, ⟨.slice none 0 0, rfl⟩⟩ : Raw)] (some ⟨wq.heap.size, 0, none⟩) 1 1 (fun _ => True) (fun _ => False) rfl rfl (Kd.R_mono (Kd.R_below HR2.out HBW.out) (fun _ _ => trivial)) (raw_lit rfl rfl rfl rfl rfl rfl HLT.out) (fun _ _ h => kRaw_KM h) (fun k hk => hk.elim) (fun _ _ => trivial) (below_step HBC.out HBW.out) (by have h1 := HBC.out.size; have h2 := HBW.out.size; omega) (by have h1 := HKL.out; have h2 : rs.length = k.length := HRL.out; omega) ?_
        intro v1 w3 ho hb hg hown
        have hlen : (rs ++ [(⟨⟨.int .i64 5, rfl⟩, ⟨.int .i64 0, rfl⟩, ⟨.string ⟨#[]⟩, rfl⟩, ⟨.slice none 0 0, rfl⟩, ⟨.string h, rfl⟩, ⟨.slice none 0 0, rfl⟩⟩ : Raw)]).length = k'.length := by rw [List.length_append, HKN.out]; have h2 : rs.length = k.length := HRL.out; simp only [List.length_cons, List.length_nil]; omega
        obtain ⟨Av, cv, rfl⟩ := Kd.R_slice ho
        rw [hlen] at ho hown ⊢
        have hX : wb.heap.size = X6 := HX.out
        have hsW : wq.heap.size + 1 = W.heap.size := HSW.out.symm
        have hsq : X6 + 1 ≤ wq.heap.size := by have h1 := HBQ.out.size; have h2 := HS2.out; omega
        have htf := app_tree (w1 := w1) (ok := fun j => j < X5) (t := docK k) (B3 := B3) (d3 := d3) (B5 := B5) (d5 := d5) (x := comK h) (C3 := none) (C5 := none) (e3 := 0) (e5 := 0) (k' := k') (Nat.zero_le _) HF3.out HKK.out (below_step HBX.out HBW.out) hg (fun V o => TF.mk (comK h) (Nat.le_refl _) (fun _ _ => Kd.C_nil _ _) (Nat.le_refl _) (fun _ _ => Kd.C_nil _ _)) ho HKE.out hown (fun j hj => by rw [hX]; exact HOWN.out j hj) (by rw [hX]; omega)
        rw [hX] at htf
        have hX3 := (hg.block X6 (by omega) (fun e => absurd (HOWN.out X6 e.symm) (by omega))).trans ((HBW.out.block X6 (blk_lt HX6.out)).trans HX6.out)
        have f5 := blk_frozen hX3 5
        have g5 := cell_of_row _ _ 5 _ _ _ hX3
        have HX3 := hide hX3
        have HTF := hide htf
        have HBA := hide hb
        clear c5 hX3 htf hb hg hown ho hX hsW hsq hlen
        refine hK.out _ _ trivial (fun _ => ?_)
        clear hK K
        (try simp only [Act.put, List.setIfInBounds_toArray, List.set_cons_zero, List.set_cons_succ])
        refine wpAnyH_take (i := 7) (oi := ?o7x18) (v := ?v7x18) ?ho7x18 (by kernel_rfl) (by kernel_rfl) (by kernel_rfl) ?hQ7x18 (Or.inl ⟨?hw7x18, ?hy7x18⟩) (by assumption) ?_
        case ho7x18 => (simp only [List.getElem?_toArray, List.getElem?_cons_succ, List.getElem?_cons_zero]; try rfl)
        case hQ7x18 => exact fun _ _ _ h => h
        case hw7x18 => rfl
        case hy7x18 => (intro w hSw; (try dsimp only at hSw); go_simp; (first | done | (with_reducible rfl)))
        (try simp only [Act.put, List.setIfInBounds_toArray, List.set_cons_zero, List.set_cons_succ])
        refine wpAnyH_ready (rs := [8]) (by kernel_rfl) (by simp) ?_
        refine (AllReadyH.cons (i := 8) (o := ?o8y19) ?ho8y19 (fun K hK => ?_) AllReadyH.nil)
        case ho8y19 => (simp only [List.getElem?_toArray, List.getElem?_cons_succ, List.getElem?_cons_zero]; try rfl)
        go_simp
        refine hK.out _ _ trivial (fun _ => ?_)
        clear hK K
        (try simp only [Act.put, List.setIfInBounds_toArray, List.set_cons_zero, List.set_cons_succ])
        refine wpAnyH_done (by kernel_rfl) ?_ _
        go_wp2_with fail
        go_meet
        exact ⟨Av, cv, blk_set HX3.out 5 _, (TF.step HTF.out (fun j hj _ => Below.heap_setCell _ _ _ _ hj)).bound.mono (fun j hj => hj.2), HBA.out.setCell (p := ⟨X6, 5, none⟩) (by have h1 := HH56.out; have h2 := HS1.out; show w1.heap.size ≤ X6; omega) _⟩
  case rest =>
    obtain ⟨Av, cv, hX6, htu, hb14⟩ := hcut
    have HX6' := hide hX6
    have HB14 := hide hb14
    have HTU := hide htu
    have HCP := hide (copyD k' B3 d3 Av cv wc _ htu HSU.out)
    have q0 := cell_of_row _ _ 0 _ _ _ hX6
    have q1 := cell_of_row _ _ 1 _ _ _ hX6
    have q2 := cell_of_row _ _ 2 _ _ _ hX6
    have q3 := cell_of_row _ _ 3 _ _ _ hX6
    have q4 := cell_of_row _ _ 4 _ _ _ hX6
    have q5 := cell_of_row _ _ 5 _ _ _ hX6
    clear hX6 hb14 htu HC6
    go_upto_region 5 with (go_at_call 14; (with_reducible refine HCP.out.mono ?_); rintro e we ⟨E3, e3, E5, e5, rfl, hr, be⟩; have HRV := hide hr; have HBE := hide be; clear hr be)
    clear q0 q1 q2 q3 q4 q5 HCP
    obtain ⟨w5, hw5, bw5, hX7, hs5⟩ := box1 we #[.int .i64 1, .int .i64 0, .string ⟨#[]⟩, .slice E3 0 e3, .string ⟨#[]⟩, .slice E5 k'.length e5]
    rw [hw5]
    have hr := HRV.out
    unfold CopyRes at hr
    obtain ⟨he3, hfe3, rv, hRv, hrvl, hKLv⟩ := hr
    obtain ⟨G, cap, eG, hG1, hG2, -⟩ := Kd.R_form hRv (by have h1 : rv.length = k'.length := hrvl; have h2 := HKN.out; omega)
    injection eG with eG _ ec
    subst eG
    subst ec
    obtain ⟨X7, hX⟩ : ∃ X, we.heap.size = X := ⟨_, rfl⟩
    have hGX : G < X7 := by rw [← hX]; exact hG2
    rw [hX] at hX7 hs5 ⊢
    have HG1 := hide hG1
    have HGX := hide hGX
    have HRv := hide (Kd.R_below hRv bw5)
    have HFV := hide (Foot.mono (Foot.step hfe3 (fun j _ hj => bw5.block j hj)) (fun j hj => (fun e => hj.2 (by rw [e]; rfl) : j ≠ G)))
    have HKV := hide (Foot.mono (Foot.step hKLv (fun j _ hj => bw5.block j hj)) (fun j hj => (fun e => hj.2 (by rw [e]; rfl) : j ≠ G)))
    have HRVL := hide (show rv.length = k'.length from hrvl)
    have HB45 := hide (below_step HBE.out bw5)
    have HX7 := hide hX7
    have HS5 := hide hs5
    clear he3 hfe3 hRv hrvl hKLv hG1 hG2 hGX bw5 hw5 hs5 hX HRV HBE
    have q5 := cell_of_row _ _ 5 _ _ _ hX7
    have hne : ¬ (k'.length : Int) < 1 := by have := HKN.out; omega
    go_upto_region 7 with fail
    clear q5 hne
    have kw : IntKind.i64.wrap ((k'.length : Int) - 1) = (k.length : Int) := by have h1 := HKN.out; have h2 := HKL.out; rw [IntWalk.i64_in _ (by omega)]; omega
    have k0 : (0 : Int) ≤ (k.length : Int) := by omega
    have k1 : (k.length : Int) < (k'.length : Int) := by have h1 := HKN.out; omega
    have hz : ¬ 9223372036854775807 < h.size + 1 := by have h1 := HHS.out; omega
    have HSS := hide (fun (W : World) (hW : Below w5.heap.size w5 W) => cellW (cell_of_row _ _ 5 _ _ _ hX7) hW)
    obtain ⟨cG, hcG⟩ := Kd.R_typed HRv.out G rfl
    obtain ⟨K3, k3, K5, k5, hrk, -⟩ := kid_TF HKV.out k.length (by show k.length < k'.length; have := HKN.out; omega)
    have hc4 := (raw_cells (Kd.R_reads' HRv.out).2.2 k.length _ hrk).2.2.2.2.1
    have hgd : (docK k').f5.getD k.length z26 = comK h := by
      show k'.getD k.length z26 = comK h
      rw [← HKE.out, List.getD_eq_getElem?_getD, List.getElem?_append_right (Nat.le_refl _), Nat.sub_self]
      rfl
    rw [hgd] at hc4
    have HGD := hide hgd
    have HC4 := hide (fun (W : World) (hW : Below w5.heap.size w5 W) => cellW hc4 hW)
    have HF4 := hide (fun (W : World) (hW : Below w5.heap.size w5 W) => blk_frozen ((hW.block G (blk_lt hcG)).trans hcG) (k.length * 6 + 4))
    clear hcG hrk hc4 hgd
    clear hX7
    refine wp_region_held_drew (S := fun W => W.cell? ⟨X7, 5, none⟩ = some (.slice (some ⟨G, 0, none⟩) k'.length e5)) (by kernel_rfl) (HSS.out _ (Below.drew (Below.refl _ _))) (fun hHeld => ?_)
    have b0 := Below.drew (Below.refl w5.heap.size w5)
    generalize w5.drew = wd at b0 hHeld ⊢
    refine wpAnyH_take (i := 0) (oi := ?o0x20) (v := ?v0x20) ?ho0x20 (by kernel_rfl) (by kernel_rfl) (by kernel_rfl) ?hQ0x20 (Or.inl ⟨?hw0x20, ?hy0x20⟩) (by assumption) ?_
    case ho0x20 => (simp only [List.getElem?_toArray, List.getElem?_cons_succ, List.getElem?_cons_zero]; try rfl)
    case hQ0x20 => exact fun _ _ _ h => h
    case hw0x20 => rfl
    case hy0x20 => (intro w hSw; (try dsimp only at hSw); go_simp; (first | done | (with_reducible rfl)))
    (try simp only [Act.put, List.setIfInBounds_toArray, List.set_cons_zero, List.set_cons_succ])
    refine wpAnyH_take (i := 1) (oi := ?o1x21) (v := ?v1x21) ?ho1x21 (by kernel_rfl) (by kernel_rfl) (by kernel_rfl) ?hQ1x21 (Or.inl ⟨?hw1x21, ?hy1x21⟩) (by assumption) ?_
    case ho1x21 => (simp only [List.getElem?_toArray, List.getElem?_cons_succ, List.getElem?_cons_zero]; try rfl)
    case hQ1x21 => exact fun _ _ _ h => h
    case hw1x21 => rfl
    case hy1x21 => (intro w hSw; (try dsimp only at hSw); go_simp; (first | done | (with_reducible rfl)))
    (try simp only [Act.put, List.setIfInBounds_toArray, List.set_cons_zero, List.set_cons_succ])
    refine wpAnyH_take (i := 2) (oi := ?o2x22) (v := ?v2x22) ?ho2x22 (by kernel_rfl) (by kernel_rfl) (by kernel_rfl) ?hQ2x22 (Or.inl ⟨?hw2x22, ?hy2x22⟩) (by assumption) ?_
    case ho2x22 => (simp only [List.getElem?_toArray, List.getElem?_cons_succ, List.getElem?_cons_zero]; try rfl)
    case hQ2x22 => exact fun _ _ _ h => h
    case hw2x22 => rfl
    case hy2x22 => (intro w hSw; (try dsimp only at hSw); go_simp; (first | done | (with_reducible rfl)))
    (try simp only [Act.put, List.setIfInBounds_toArray, List.set_cons_zero, List.set_cons_succ])
    refine wpAnyH_take (i := 3) (oi := ?o3x23) (v := ?v3x23) ?ho3x23 (by kernel_rfl) (by kernel_rfl) (by kernel_rfl) ?hQ3x23 (Or.inl ⟨?hw3x23, ?hy3x23⟩) (by assumption) ?_
    case ho3x23 => (simp only [List.getElem?_toArray, List.getElem?_cons_succ, List.getElem?_cons_zero]; try rfl)
    case hQ3x23 => exact fun _ _ _ h => h
    case hw3x23 => rfl
    case hy3x23 => (intro w hSw; (try dsimp only at hSw); go_simp; (first | done | (with_reducible rfl)))
    (try simp only [Act.put, List.setIfInBounds_toArray, List.set_cons_zero, List.set_cons_succ])
    refine wpAnyH_take (i := 4) (oi := ?o4x24) (v := ?v4x24) ?ho4x24 (by kernel_rfl) (by kernel_rfl) (by kernel_rfl) ?hQ4x24 (Or.inl ⟨?hw4x24, ?hy4x24⟩) (by assumption) ?_
    case ho4x24 => (simp only [List.getElem?_toArray, List.getElem?_cons_succ, List.getElem?_cons_zero]; try rfl)
    case hQ4x24 => exact fun _ _ _ h => h
    case hw4x24 => rfl
    case hy4x24 => (intro w hSw; (try dsimp only at hSw); go_simp; (first | done | (with_reducible rfl)))
    (try simp only [Act.put, List.setIfInBounds_toArray, List.set_cons_zero, List.set_cons_succ])
    refine wpAnyH_take (i := 5) (oi := ?o5x25) (v := ?v5x25) ?ho5x25 (by kernel_rfl) (by kernel_rfl) (by kernel_rfl) ?hQ5x25 (Or.inl ⟨?hw5x25, ?hy5x25⟩) (by assumption) ?_
    case ho5x25 => (simp only [List.getElem?_toArray, List.getElem?_cons_succ, List.getElem?_cons_zero]; try rfl)
    case hQ5x25 => exact fun _ _ _ h => h
    case hw5x25 => rfl
    case hy5x25 => (intro w hSw; (try dsimp only at hSw); go_simp; (first | done | (with_reducible rfl)))
    (try simp only [Act.put, List.setIfInBounds_toArray, List.set_cons_zero, List.set_cons_succ])
    refine wpAnyH_take (i := 6) (oi := ?o6x26) (v := ?v6x26) ?ho6x26 (by kernel_rfl) (by kernel_rfl) (by kernel_rfl) ?hQ6x26 (Or.inl ⟨?hw6x26, ?hy6x26⟩) (by assumption) ?_
    case ho6x26 => (simp only [List.getElem?_toArray, List.getElem?_cons_succ, List.getElem?_cons_zero]; try rfl)
    case hQ6x26 => exact fun _ _ _ h => h
    case hw6x26 => rfl
    case hy6x26 => (intro w hSw; (try dsimp only at hSw); go_simp; (first | done | (with_reducible rfl)))
    (try simp only [Act.put, List.setIfInBounds_toArray, List.set_cons_zero, List.set_cons_succ])
    refine wpAnyH_ready (rs := [7]) (by kernel_rfl) (by simp) ?_
    refine (AllReadyH.cons (i := 7) (o := ?o7y27) ?ho7y27 (fun K hK => ?_) AllReadyH.nil)
    case ho7y27 => (simp only [List.getElem?_toArray, List.getElem?_cons_succ, List.getElem?_cons_zero]; try rfl)
    go_simp
    go_at_call 18
    (with_reducible refine (arbourkeep_Head.calls s 9 h _ HF.out).mono ?_)
    rintro e wq ⟨rfl, hd⟩
    have bq27 := below_step b0 (Drawn0.below hd)
    clear hd
    refine hK.out _ _ (HSS.out _ bq27) (fun _ => ?_)
    have c4 := HC4.out _ bq27
    have f4 := HF4.out _ bq27
    clear hK K
    (try simp only [Act.put, List.setIfInBounds_toArray, List.set_cons_zero, List.set_cons_succ])
    refine wpAnyH_take (i := 8) (oi := ?o8x28) (v := ?v8x28) ?ho8x28 (by kernel_rfl) (by kernel_rfl) (by kernel_rfl) ?hQ8x28 (Or.inl ⟨?hw8x28, ?hy8x28⟩) (by assumption) ?_
    case ho8x28 => (simp only [List.getElem?_toArray, List.getElem?_cons_succ, List.getElem?_cons_zero]; try rfl)
    case hQ8x28 => exact fun _ _ _ h => h
    case hw8x28 => rfl
    case hy8x28 => (intro w hSw; (try dsimp only at hSw); go_simp; (first | done | (with_reducible rfl)))
    (try simp only [Act.put, List.setIfInBounds_toArray, List.set_cons_zero, List.set_cons_succ])
    refine wpAnyH_ready (rs := [9]) (by kernel_rfl) (by simp) ?_
    refine (AllReadyH.cons (i := 9) (o := ?o9y29) ?ho9y29 (fun K hK => ?_) AllReadyH.nil)
    case ho9y29 => (simp only [List.getElem?_toArray, List.getElem?_cons_succ, List.getElem?_cons_zero]; try rfl)
    go_simp
    refine hK.out _ _ (HSS.out _ bq27) (fun _ => ?_)
    clear hK K
    (try simp only [Act.put, List.setIfInBounds_toArray, List.set_cons_zero, List.set_cons_succ])
    refine wpAnyH_take (i := 10) (oi := ?o10x30) (v := ?v10x30) ?ho10x30 (by kernel_rfl) (by kernel_rfl) (by kernel_rfl) ?hQ10x30 (Or.inl ⟨?hw10x30, ?hy10x30⟩) (by assumption) ?_
    case ho10x30 => (simp only [List.getElem?_toArray, List.getElem?_cons_succ, List.getElem?_cons_zero]; try rfl)
    case hQ10x30 => exact fun _ _ _ h => h
    case hw10x30 => rfl
    case hy10x30 => (intro w hSw; (try dsimp only at hSw); go_simp; (first | done | (with_reducible rfl)))
    (try simp only [Act.put, List.setIfInBounds_toArray, List.set_cons_zero, List.set_cons_succ])
    refine wpAnyH_ready (rs := [11]) (by kernel_rfl) (by simp) ?_
    refine (AllReadyH.cons (i := 11) (o := ?o11y31) ?ho11y31 (fun K hK => ?_) AllReadyH.nil)
    case ho11y31 => (simp only [List.getElem?_toArray, List.getElem?_cons_succ, List.getElem?_cons_zero]; try rfl)
    go_simp
    have HBQ := hide bq27
    refine hK.out _ _ (cell_blk (HSS.out _ bq27) (Below.heap_setCell _ _ _ _ (Nat.ne_of_gt HGX.out))) (fun _ => ?_)
    clear hK K
    (try simp only [Act.put, List.setIfInBounds_toArray, List.set_cons_zero, List.set_cons_succ])
    refine wpAnyH_done (by kernel_rfl) ?_ _
    clear hHeld c4 f4 b0 k0 k1 kw hz
    go_upto_region 8 with fail
    obtain ⟨k2, hk2⟩ : ∃ k2, k ++ [comK (h ++ ⟨#[33]⟩)] = k2 := ⟨_, rfl⟩
    have hk2n : k2.length = k'.length := by rw [← hk2, HKN.out, List.length_append]; rfl
    obtain ⟨rv', hR', hrl', hKL'⟩ := poke4 (w := wq) (Kd.R_below HRv.out HBQ.out) HRVL.out (HKV.out.step (fun j _ hj => HBQ.out.block j hj)) (fun j hj => hj) k.length (by show k.length < k'.length; have := HKN.out; omega) (h ++ ⟨#[33]⟩)
    rw [show k'.getD k.length z26 = comK h from HGD.out] at hKL'
    have hset : k'.set k.length (reText (comK h) (h ++ ⟨#[33]⟩)) = k2 := by
      rw [← HKE.out, ← hk2, set_last]
      rfl
    rw [hset] at hKL'
    have hfar : ∀ j, j < wc.heap.size → (wq.setCell ⟨G, k.length * 6 + 4, none⟩ (.string (h ++ ⟨#[33]⟩))).heap[j]? = wc.heap[j]? := fun j hj => (Below.heap_setCell _ _ _ _ (show j ≠ G by have := HG1.out; omega)).trans ((HBQ.out.block j (by have := HB45.out.size; omega)).trans (HB45.out.block j hj))
    have tv : TF (wq.setCell ⟨G, k.length * 6 + 4, none⟩ (.string (h ++ ⟨#[33]⟩))) (fun _ => True) (.agg #[.int .i64 1, .int .i64 0, .string ⟨#[]⟩, .slice E3 0 e3, .string ⟨#[]⟩, .slice (some ⟨G, 0, none⟩) k'.length e5]) (docK k2) := by
      have h1 := own_tree (t := docK k2) (A3 := E3) (c3 := e3) (n := k2.length) (c := e5) (by rw [show (docK k2).f5.length = k'.length from hk2n]; exact hR') hKL' (Nat.zero_le _) (Kd.F_mono ((Foot.step HFV.out (fun j hj hl => (Below.heap_setCell _ _ _ _ hj).trans (HBQ.out.block j hl)))) (fun _ h => h))
      rw [show (docK k2).f5.length = k'.length from hk2n] at h1
      exact h1
    have tu := (HTU.out.step (fun j _ hj => hfar j hj)).mono (ok' := fun _ => True) (fun _ _ => trivial)
    have tt := (HT1.out.step (fun j hj hl => (hfar j (by have := HB14.out.size; omega)).trans (HB14.out.block j hl))).mono (ok' := fun _ => True) (fun _ _ => trivial)
    have x5 := (hfar X5 (by have h1 := HB14.out.size; have h2 := blk_lt HX5.out; omega)).trans ((HB14.out.block X5 (blk_lt HX5.out)).trans HX5.out)
    have x6 := (hfar X6 (blk_lt HX6'.out)).trans HX6'.out
    have x7 := (Below.heap_setCell wq ⟨G, k.length * 6 + 4, none⟩ (.string (h ++ ⟨#[33]⟩)) X7 (Nat.ne_of_gt HGX.out)).trans ((HBQ.out.block X7 (blk_lt HX7.out)).trans HX7.out)
    have hB6 := (below_step (below_step (below_step HB1.out HB14.out) HB45.out) HBQ.out).setCell (p := ⟨G, k.length * 6 + 4, none⟩) (by show w.heap.size ≤ G; have h1 := HG1.out; have h2 := HB14.out.size; have h3 := HB1.out.size; omega) (.string (h ++ ⟨#[33]⟩))
    generalize wq.setCell ⟨G, k.length * 6 + 4, none⟩ (.string (h ++ ⟨#[33]⟩)) = w6 at *
    have HB6 := hide hB6
    have hlaw := HLAW.out
    obtain ⟨l1, l2, l3, l4, l5, l6, l7⟩ := hlaw
    rw [HKE.out] at l1 l2 l3 l4 l5 l6 l7
    rw [hk2] at l2
    have tvT := tt.now
    have tvU := tu.now
    have tvV := tv.now
    clear tt tu tv hfar hset hR' hrl' hKL' hk2 hk2n
    have hst := HST.out
    have hsu := HSU.out
    have HS1 := hide (fun W (hW : Below w6.heap.size w6 W) => c_same (docK k) (docK k') _ _ W (tvT.below hW) (tvU.below hW) hst)
    have HS2 := hide (fun W (hW : Below w6.heap.size w6 W) => c_same (docK k') (docK k2) _ _ W (tvU.below hW) (tvV.below hW) hsu)
    have HC1 := hide (fun W (hW : Below w6.heap.size w6 W) => c_count (docK k') _ W (tvU.below hW) hsu)
    have HC2 := hide (fun W (hW : Below w6.heap.size w6 W) => c_count (docK k) _ W (tvT.below hW) hst)
    have HX1 := hide (fun W (hW : Below w6.heap.size w6 W) => c_text (docK k') _ W (tvU.below hW) hsu)
    have HX2 := hide (fun W (hW : Below w6.heap.size w6 W) => c_text (docK k) _ W (tvT.below hW) hst)
    have HD1 := hide (fun W (hW : Below w6.heap.size w6 W) => c_depth (docK k') _ W (tvU.below hW) hsu)
    have HD2 := hide (fun W (hW : Below w6.heap.size w6 W) => c_depth (docK k) _ W (tvT.below hW) hst)
    have HR1 := hide (fun W (hW : Below w6.heap.size w6 W) => c_right (docK k') _ W (tvU.below hW) hsu)
    have HR2_ := hide (fun W (hW : Below w6.heap.size w6 W) => c_right (docK k) _ W (tvT.below hW) hst)
    have HW1 := hide (fun W (hW : Below w6.heap.size w6 W) => c_show (docK k') _ W (tvU.below hW) hsu)
    have HW2 := hide (fun W (hW : Below w6.heap.size w6 W) => c_show (docK k) _ W (tvT.below hW) hst)
    rw [l1] at HS1
    rw [l2] at HS2
    rw [l3] at HC1
    rw [l4] at HX1
    rw [l6] at HR1
    have hP : (⟨(showR (docK k') []).toArray⟩ : ByteArray) = ⟨(showR (docK k) []).toArray⟩ ++ ⟨#[60, 33, 45, 45, 32]⟩ ++ h ++ ⟨#[32, 45, 45, 62, 10]⟩ := by
      rw [l7]
      apply ByteArray.ext
      simp [bts]
    rw [hP] at HW1
    have hPs : (⟨(showR (docK k) []).toArray⟩ : ByteArray).size ≤ 1000000000000 := by
      have h1 := hst.shw
      show (showR (docK k) []).toArray.size ≤ _
      rw [List.size_toArray]
      exact h1
    have hm : cntT (docK k) ≤ 100000 := Nat.le_trans (cnt_W _) hst.w
    clear hst hsu tvT tvU tvV l1 l2 l3 l4 l6 l7 hP
    generalize (⟨(showR (docK k) []).toArray⟩ : ByteArray) = P at *
    generalize (⟨(txtT (docK k)).toArray⟩ : ByteArray) = T at *
    generalize rightB (docK k) = rb at *
    generalize depT (docK k) = da at *
    generalize depT (docK k') = db at *
    generalize cntT (docK k) = m at *
    rw [show ((m + 1 : Nat) : Int) = (m : Int) + 1 from by omega] at HC1
    have km : IntKind.i64.wrap ((m : Int) + 1) = (m : Int) + 1 := IntWalk.i64_in _ (by omega)
    have kd : ¬ (db : Int) < (da : Int) := by omega
    have HSS2 := hide (fun (W : World) (hW : Below w6.heap.size w6 W) => (⟨cellW (cell_of_row _ _ 0 _ _ _ x5) hW, cellW (cell_of_row _ _ 1 _ _ _ x5) hW, cellW (cell_of_row _ _ 2 _ _ _ x5) hW, cellW (cell_of_row _ _ 3 _ _ _ x5) hW, cellW (cell_of_row _ _ 4 _ _ _ x5) hW, cellW (cell_of_row _ _ 5 _ _ _ x5) hW, cellW (cell_of_row _ _ 0 _ _ _ x6) hW, cellW (cell_of_row _ _ 1 _ _ _ x6) hW, cellW (cell_of_row _ _ 2 _ _ _ x6) hW, cellW (cell_of_row _ _ 3 _ _ _ x6) hW, cellW (cell_of_row _ _ 4 _ _ _ x6) hW, cellW (cell_of_row _ _ 5 _ _ _ x6) hW, cellW (cell_of_row _ _ 0 _ _ _ x7) hW, cellW (cell_of_row _ _ 1 _ _ _ x7) hW, cellW (cell_of_row _ _ 2 _ _ _ x7) hW, cellW (cell_of_row _ _ 3 _ _ _ x7) hW, cellW (cell_of_row _ _ 4 _ _ _ x7) hW, cellW (cell_of_row _ _ 5 _ _ _ x7) hW⟩ : W.cell? ⟨X5, 0, none⟩ = some (.int .i64 1) ∧ W.cell? ⟨X5, 1, none⟩ = some (.int .i64 0) ∧ W.cell? ⟨X5, 2, none⟩ = some (.string ⟨#[]⟩) ∧ W.cell? ⟨X5, 3, none⟩ = some (.slice A3 0 c3) ∧ W.cell? ⟨X5, 4, none⟩ = some (.string ⟨#[]⟩) ∧ W.cell? ⟨X5, 5, none⟩ = some (.slice A5 k.length c5) ∧ W.cell? ⟨X6, 0, none⟩ = some (.int .i64 1) ∧ W.cell? ⟨X6, 1, none⟩ = some (.int .i64 0) ∧ W.cell? ⟨X6, 2, none⟩ = some (.string ⟨#[]⟩) ∧ W.cell? ⟨X6, 3, none⟩ = some (.slice B3 0 d3) ∧ W.cell? ⟨X6, 4, none⟩ = some (.string ⟨#[]⟩) ∧ W.cell? ⟨X6, 5, none⟩ = some (.slice Av k'.length cv) ∧ W.cell? ⟨X7, 0, none⟩ = some (.int .i64 1) ∧ W.cell? ⟨X7, 1, none⟩ = some (.int .i64 0) ∧ W.cell? ⟨X7, 2, none⟩ = some (.string ⟨#[]⟩) ∧ W.cell? ⟨X7, 3, none⟩ = some (.slice E3 0 e3) ∧ W.cell? ⟨X7, 4, none⟩ = some (.string ⟨#[]⟩) ∧ W.cell? ⟨X7, 5, none⟩ = some (.slice (some ⟨G, 0, none⟩) k'.length e5)))
    have HPS := hide hPs
    clear HSS HX5 HX6' HX7 HTU HT1 HRv HKV HFV HC4 HF4 x5 x6 x7 hB6 hPs l5 hm
    refine wp_region_held_drew (S := fun W => W.cell? ⟨X5, 0, none⟩ = some (.int .i64 1) ∧ W.cell? ⟨X5, 1, none⟩ = some (.int .i64 0) ∧ W.cell? ⟨X5, 2, none⟩ = some (.string ⟨#[]⟩) ∧ W.cell? ⟨X5, 3, none⟩ = some (.slice A3 0 c3) ∧ W.cell? ⟨X5, 4, none⟩ = some (.string ⟨#[]⟩) ∧ W.cell? ⟨X5, 5, none⟩ = some (.slice A5 k.length c5) ∧ W.cell? ⟨X6, 0, none⟩ = some (.int .i64 1) ∧ W.cell? ⟨X6, 1, none⟩ = some (.int .i64 0) ∧ W.cell? ⟨X6, 2, none⟩ = some (.string ⟨#[]⟩) ∧ W.cell? ⟨X6, 3, none⟩ = some (.slice B3 0 d3) ∧ W.cell? ⟨X6, 4, none⟩ = some (.string ⟨#[]⟩) ∧ W.cell? ⟨X6, 5, none⟩ = some (.slice Av k'.length cv) ∧ W.cell? ⟨X7, 0, none⟩ = some (.int .i64 1) ∧ W.cell? ⟨X7, 1, none⟩ = some (.int .i64 0) ∧ W.cell? ⟨X7, 2, none⟩ = some (.string ⟨#[]⟩) ∧ W.cell? ⟨X7, 3, none⟩ = some (.slice E3 0 e3) ∧ W.cell? ⟨X7, 4, none⟩ = some (.string ⟨#[]⟩) ∧ W.cell? ⟨X7, 5, none⟩ = some (.slice (some ⟨G, 0, none⟩) k'.length e5)) (by kernel_rfl) (HSS2.out _ (Below.drew (Below.refl _ _))) (fun hHeld => ?_)
    have b0 := Below.drew (Below.refl w6.heap.size w6)
    generalize w6.drew = wd at b0 hHeld ⊢
    refine wpAnyH_take (i := 0) (oi := ?o0x32) (v := ?v0x32) ?ho0x32 (by kernel_rfl) (by kernel_rfl) (by kernel_rfl) ?hQ0x32 (Or.inl ⟨?hw0x32, ?hy0x32⟩) (by assumption) ?_
    case ho0x32 => (simp only [List.getElem?_toArray, List.getElem?_cons_succ, List.getElem?_cons_zero]; try rfl)
    case hQ0x32 => exact fun _ _ _ h => h
    case hw0x32 => rfl
    case hy0x32 => (intro w hSw; (try dsimp only at hSw); go_simp; (first | done | (with_reducible rfl)))
    (try simp only [Act.put, List.setIfInBounds_toArray, List.set_cons_zero, List.set_cons_succ])
    refine wpAnyH_take (i := 1) (oi := ?o1x33) (v := ?v1x33) ?ho1x33 (by kernel_rfl) (by kernel_rfl) (by kernel_rfl) ?hQ1x33 (Or.inl ⟨?hw1x33, ?hy1x33⟩) (by assumption) ?_
    case ho1x33 => (simp only [List.getElem?_toArray, List.getElem?_cons_succ, List.getElem?_cons_zero]; try rfl)
    case hQ1x33 => exact fun _ _ _ h => h
    case hw1x33 => rfl
    case hy1x33 => (intro w hSw; (try dsimp only at hSw); go_simp; (first | done | (with_reducible rfl)))
    (try simp only [Act.put, List.setIfInBounds_toArray, List.set_cons_zero, List.set_cons_succ])
    refine wpAnyH_ready (rs := [2]) (by kernel_rfl) (by simp) ?_
    refine (AllReadyH.cons (i := 2) (o := ?o2y34) ?ho2y34 (fun K hK => ?_) AllReadyH.nil)
    case ho2y34 => (simp only [List.getElem?_toArray, List.getElem?_cons_succ, List.getElem?_cons_zero]; try rfl)
    go_simp
    go_at_call 12
    (with_reducible refine (HS1.out _ b0).mono ?_)
    rintro e wq34 ⟨rfl, bs34⟩
    have bq34 := below_step b0 bs34
    clear bs34
    refine hK.out _ _ (HSS2.out _ bq34) (fun _ => ?_)
    clear hK K
    (try simp only [Act.put, List.setIfInBounds_toArray, List.set_cons_zero, List.set_cons_succ])
    refine wpAnyH_take (i := 3) (oi := ?o3x35) (v := ?v3x35) ?ho3x35 (by kernel_rfl) (by kernel_rfl) (by kernel_rfl) ?hQ3x35 (Or.inl ⟨?hw3x35, ?hy3x35⟩) (by assumption) ?_
    case ho3x35 => (simp only [List.getElem?_toArray, List.getElem?_cons_succ, List.getElem?_cons_zero]; try rfl)
    case hQ3x35 => exact fun _ _ _ h => h
    case hw3x35 => rfl
    case hy3x35 => (intro w hSw; (try dsimp only at hSw); go_simp; (first | done | (with_reducible rfl)))
    (try simp only [Act.put, List.setIfInBounds_toArray, List.set_cons_zero, List.set_cons_succ])
    refine wpAnyH_take (i := 4) (oi := ?o4x36) (v := ?v4x36) ?ho4x36 (by kernel_rfl) (by kernel_rfl) (by kernel_rfl) ?hQ4x36 (Or.inl ⟨?hw4x36, ?hy4x36⟩) (by assumption) ?_
    case ho4x36 => (simp only [List.getElem?_toArray, List.getElem?_cons_succ, List.getElem?_cons_zero]; try rfl)
    case hQ4x36 => exact fun _ _ _ h => h
    case hw4x36 => rfl
    case hy4x36 => (intro w hSw; (try dsimp only at hSw); go_simp; (first | done | (with_reducible rfl)))
    (try simp only [Act.put, List.setIfInBounds_toArray, List.set_cons_zero, List.set_cons_succ])
    refine wpAnyH_take (i := 5) (oi := ?o5x37) (v := ?v5x37) ?ho5x37 (by kernel_rfl) (by kernel_rfl) (by kernel_rfl) ?hQ5x37 (Or.inl ⟨?hw5x37, ?hy5x37⟩) (by assumption) ?_
    case ho5x37 => (simp only [List.getElem?_toArray, List.getElem?_cons_succ, List.getElem?_cons_zero]; try rfl)
    case hQ5x37 => exact fun _ _ _ h => h
    case hw5x37 => rfl
    case hy5x37 => (intro w hSw; (try dsimp only at hSw); go_simp; (first | done | (with_reducible rfl)))
    (try simp only [Act.put, List.setIfInBounds_toArray, List.set_cons_zero, List.set_cons_succ])
    refine wpAnyH_ready (rs := [6]) (by kernel_rfl) (by simp) ?_
    refine (AllReadyH.cons (i := 6) (o := ?o6y38) ?ho6y38 (fun K hK => ?_) AllReadyH.nil)
    case ho6y38 => (simp only [List.getElem?_toArray, List.getElem?_cons_succ, List.getElem?_cons_zero]; try rfl)
    go_simp
    go_at_call 12
    (with_reducible refine (HS2.out _ bq34).mono ?_)
    rintro e wq38 ⟨rfl, bs38⟩
    have bq38 := below_step bq34 bs38
    clear bs38
    refine hK.out _ _ (HSS2.out _ bq38) (fun _ => ?_)
    clear hK K
    (try simp only [Act.put, List.setIfInBounds_toArray, List.set_cons_zero, List.set_cons_succ])
    refine wpAnyH_take (i := 7) (oi := ?o7x39) (v := ?v7x39) ?ho7x39 (by kernel_rfl) (by kernel_rfl) (by kernel_rfl) ?hQ7x39 (Or.inl ⟨?hw7x39, ?hy7x39⟩) (by assumption) ?_
    case ho7x39 => (simp only [List.getElem?_toArray, List.getElem?_cons_succ, List.getElem?_cons_zero]; try rfl)
    case hQ7x39 => exact fun _ _ _ h => h
    case hw7x39 => rfl
    case hy7x39 => (intro w hSw; (try dsimp only at hSw); go_simp; (first | done | (with_reducible rfl)))
    (try simp only [Act.put, List.setIfInBounds_toArray, List.set_cons_zero, List.set_cons_succ])
    refine wpAnyH_take (i := 8) (oi := ?o8x40) (v := ?v8x40) ?ho8x40 (by kernel_rfl) (by kernel_rfl) (by kernel_rfl) ?hQ8x40 (Or.inl ⟨?hw8x40, ?hy8x40⟩) (by assumption) ?_
    case ho8x40 => (simp only [List.getElem?_toArray, List.getElem?_cons_succ, List.getElem?_cons_zero]; try rfl)
    case hQ8x40 => exact fun _ _ _ h => h
    case hw8x40 => rfl
    case hy8x40 => (intro w hSw; (try dsimp only at hSw); go_simp; (first | done | (with_reducible rfl)))
    (try simp only [Act.put, List.setIfInBounds_toArray, List.set_cons_zero, List.set_cons_succ])
    refine wpAnyH_take (i := 9) (oi := ?o9x41) (v := ?v9x41) ?ho9x41 (by kernel_rfl) (by kernel_rfl) (by kernel_rfl) ?hQ9x41 (Or.inl ⟨?hw9x41, ?hy9x41⟩) (by assumption) ?_
    case ho9x41 => (simp only [List.getElem?_toArray, List.getElem?_cons_succ, List.getElem?_cons_zero]; try rfl)
    case hQ9x41 => exact fun _ _ _ h => h
    case hw9x41 => rfl
    case hy9x41 => (intro w hSw; (try dsimp only at hSw); go_simp; (first | done | (with_reducible rfl)))
    (try simp only [Act.put, List.setIfInBounds_toArray, List.set_cons_zero, List.set_cons_succ])
    refine wpAnyH_take (i := 11) (oi := ?o11x42) (v := ?v11x42) ?ho11x42 (by kernel_rfl) (by kernel_rfl) (by kernel_rfl) ?hQ11x42 (Or.inl ⟨?hw11x42, ?hy11x42⟩) (by assumption) ?_
    case ho11x42 => (simp only [List.getElem?_toArray, List.getElem?_cons_succ, List.getElem?_cons_zero]; try rfl)
    case hQ11x42 => exact fun _ _ _ h => h
    case hw11x42 => rfl
    case hy11x42 => (intro w hSw; (try dsimp only at hSw); go_simp; (first | done | (with_reducible rfl)))
    (try simp only [Act.put, List.setIfInBounds_toArray, List.set_cons_zero, List.set_cons_succ])
    refine wpAnyH_ready (rs := [10]) (by kernel_rfl) (by simp) ?_
    refine (AllReadyH.cons (i := 10) (o := ?o10y43) ?ho10y43 (fun K hK => ?_) AllReadyH.nil)
    case ho10y43 => (simp only [List.getElem?_toArray, List.getElem?_cons_succ, List.getElem?_cons_zero]; try rfl)
    go_simp
    go_at_call 11
    (with_reducible refine (HC1.out _ bq38).mono ?_)
    rintro e wq43 ⟨rfl, bs43⟩
    have bq43 := below_step bq38 bs43
    clear bs43
    refine hK.out _ _ (HSS2.out _ bq43) (fun _ => ?_)
    clear hK K
    (try simp only [Act.put, List.setIfInBounds_toArray, List.set_cons_zero, List.set_cons_succ])
    refine wpAnyH_ready (rs := [12]) (by kernel_rfl) (by simp) ?_
    refine (AllReadyH.cons (i := 12) (o := ?o12y44) ?ho12y44 (fun K hK => ?_) AllReadyH.nil)
    case ho12y44 => (simp only [List.getElem?_toArray, List.getElem?_cons_succ, List.getElem?_cons_zero]; try rfl)
    go_simp
    go_at_call 11
    (with_reducible refine (HC2.out _ bq43).mono ?_)
    rintro e wq44 ⟨rfl, bs44⟩
    have bq44 := below_step bq43 bs44
    clear bs44
    refine hK.out _ _ (HSS2.out _ bq44) (fun _ => ?_)
    clear hK K
    (try simp only [Act.put, List.setIfInBounds_toArray, List.set_cons_zero, List.set_cons_succ])
    refine wpAnyH_take (i := 13) (oi := ?o13x45) (v := ?v13x45) ?ho13x45 (by kernel_rfl) (by kernel_rfl) (by kernel_rfl) ?hQ13x45 (Or.inl ⟨?hw13x45, ?hy13x45⟩) (by assumption) ?_
    case ho13x45 => (simp only [List.getElem?_toArray, List.getElem?_cons_succ, List.getElem?_cons_zero]; try rfl)
    case hQ13x45 => exact fun _ _ _ h => h
    case hw13x45 => rfl
    case hy13x45 => (intro w hSw; (try dsimp only at hSw); go_simp; (first | done | (with_reducible rfl)))
    (try simp only [Act.put, List.setIfInBounds_toArray, List.set_cons_zero, List.set_cons_succ])
    refine wpAnyH_take (i := 14) (oi := ?o14x46) (v := ?v14x46) ?ho14x46 (by kernel_rfl) (by kernel_rfl) (by kernel_rfl) ?hQ14x46 (Or.inl ⟨?hw14x46, ?hy14x46⟩) (by assumption) ?_
    case ho14x46 => (simp only [List.getElem?_toArray, List.getElem?_cons_succ, List.getElem?_cons_zero]; try rfl)
    case hQ14x46 => exact fun _ _ _ h => h
    case hw14x46 => rfl
    case hy14x46 => (intro w hSw; (try dsimp only at hSw); go_simp; (first | done | (with_reducible rfl)))
    (try simp only [Act.put, List.setIfInBounds_toArray, List.set_cons_zero, List.set_cons_succ])
    refine wpAnyH_take (i := 15) (oi := ?o15x47) (v := ?v15x47) ?ho15x47 (by kernel_rfl) (by kernel_rfl) (by kernel_rfl) ?hQ15x47 (Or.inl ⟨?hw15x47, ?hy15x47⟩) (by assumption) ?_
    case ho15x47 => (simp only [List.getElem?_toArray, List.getElem?_cons_succ, List.getElem?_cons_zero]; try rfl)
    case hQ15x47 => exact fun _ _ _ h => h
    case hw15x47 => rfl
    case hy15x47 => (intro w hSw; (try dsimp only at hSw); go_simp; (first | done | (with_reducible rfl)))
    (try simp only [Act.put, List.setIfInBounds_toArray, List.set_cons_zero, List.set_cons_succ])
    refine wpAnyH_take (i := 16) (oi := ?o16x48) (v := ?v16x48) ?ho16x48 (by kernel_rfl) (by kernel_rfl) (by kernel_rfl) ?hQ16x48 (Or.inl ⟨?hw16x48, ?hy16x48⟩) (by assumption) ?_
    case ho16x48 => (simp only [List.getElem?_toArray, List.getElem?_cons_succ, List.getElem?_cons_zero]; try rfl)
    case hQ16x48 => exact fun _ _ _ h => h
    case hw16x48 => rfl
    case hy16x48 => (intro w hSw; (try dsimp only at hSw); go_simp; (first | done | (with_reducible rfl)))
    (try simp only [Act.put, List.setIfInBounds_toArray, List.set_cons_zero, List.set_cons_succ])
    refine wpAnyH_take (i := 17) (oi := ?o17x49) (v := ?v17x49) ?ho17x49 (by kernel_rfl) (by kernel_rfl) (by kernel_rfl) ?hQ17x49 (Or.inl ⟨?hw17x49, ?hy17x49⟩) (by assumption) ?_
    case ho17x49 => (simp only [List.getElem?_toArray, List.getElem?_cons_succ, List.getElem?_cons_zero]; try rfl)
    case hQ17x49 => exact fun _ _ _ h => h
    case hw17x49 => rfl
    case hy17x49 => (intro w hSw; (try dsimp only at hSw); go_simp; (first | done | (with_reducible rfl)))
    (try simp only [Act.put, List.setIfInBounds_toArray, List.set_cons_zero, List.set_cons_succ])
    refine wpAnyH_take (i := 19) (oi := ?o19x50) (v := ?v19x50) ?ho19x50 (by kernel_rfl) (by kernel_rfl) (by kernel_rfl) ?hQ19x50 (Or.inl ⟨?hw19x50, ?hy19x50⟩) (by assumption) ?_
    case ho19x50 => (simp only [List.getElem?_toArray, List.getElem?_cons_succ, List.getElem?_cons_zero]; try rfl)
    case hQ19x50 => exact fun _ _ _ h => h
    case hw19x50 => rfl
    case hy19x50 => (intro w hSw; (try dsimp only at hSw); go_simp; (first | done | (with_reducible rfl)))
    (try simp only [Act.put, List.setIfInBounds_toArray, List.set_cons_zero, List.set_cons_succ])
    refine wpAnyH_ready (rs := [18]) (by kernel_rfl) (by simp) ?_
    refine (AllReadyH.cons (i := 18) (o := ?o18y51) ?ho18y51 (fun K hK => ?_) AllReadyH.nil)
    case ho18y51 => (simp only [List.getElem?_toArray, List.getElem?_cons_succ, List.getElem?_cons_zero]; try rfl)
    go_simp
    go_at_call 20
    (with_reducible refine (HX1.out _ bq44).mono ?_)
    rintro e wq51 ⟨rfl, bs51⟩
    have bq51 := below_step bq44 bs51
    clear bs51
    refine hK.out _ _ (HSS2.out _ bq51) (fun _ => ?_)
    clear hK K
    (try simp only [Act.put, List.setIfInBounds_toArray, List.set_cons_zero, List.set_cons_succ])
    refine wpAnyH_ready (rs := [20]) (by kernel_rfl) (by simp) ?_
    refine (AllReadyH.cons (i := 20) (o := ?o20y52) ?ho20y52 (fun K hK => ?_) AllReadyH.nil)
    case ho20y52 => (simp only [List.getElem?_toArray, List.getElem?_cons_succ, List.getElem?_cons_zero]; try rfl)
    go_simp
    go_at_call 20
    (with_reducible refine (HX2.out _ bq51).mono ?_)
    rintro e wq52 ⟨rfl, bs52⟩
    have bq52 := below_step bq51 bs52
    clear bs52
    refine hK.out _ _ (HSS2.out _ bq52) (fun _ => ?_)
    clear hK K
    (try simp only [Act.put, List.setIfInBounds_toArray, List.set_cons_zero, List.set_cons_succ])
    refine wpAnyH_take (i := 21) (oi := ?o21x53) (v := ?v21x53) ?ho21x53 (by kernel_rfl) (by kernel_rfl) (by kernel_rfl) ?hQ21x53 (Or.inl ⟨?hw21x53, ?hy21x53⟩) (by assumption) ?_
    case ho21x53 => (simp only [List.getElem?_toArray, List.getElem?_cons_succ, List.getElem?_cons_zero]; try rfl)
    case hQ21x53 => exact fun _ _ _ h => h
    case hw21x53 => rfl
    case hy21x53 => (intro w hSw; (try dsimp only at hSw); go_simp; (first | done | (with_reducible rfl)))
    (try simp only [Act.put, List.setIfInBounds_toArray, List.set_cons_zero, List.set_cons_succ])
    refine wpAnyH_take (i := 22) (oi := ?o22x54) (v := ?v22x54) ?ho22x54 (by kernel_rfl) (by kernel_rfl) (by kernel_rfl) ?hQ22x54 (Or.inl ⟨?hw22x54, ?hy22x54⟩) (by assumption) ?_
    case ho22x54 => (simp only [List.getElem?_toArray, List.getElem?_cons_succ, List.getElem?_cons_zero]; try rfl)
    case hQ22x54 => exact fun _ _ _ h => h
    case hw22x54 => rfl
    case hy22x54 => (intro w hSw; (try dsimp only at hSw); go_simp; (first | done | (with_reducible rfl)))
    (try simp only [Act.put, List.setIfInBounds_toArray, List.set_cons_zero, List.set_cons_succ])
    refine wpAnyH_take (i := 23) (oi := ?o23x55) (v := ?v23x55) ?ho23x55 (by kernel_rfl) (by kernel_rfl) (by kernel_rfl) ?hQ23x55 (Or.inl ⟨?hw23x55, ?hy23x55⟩) (by assumption) ?_
    case ho23x55 => (simp only [List.getElem?_toArray, List.getElem?_cons_succ, List.getElem?_cons_zero]; try rfl)
    case hQ23x55 => exact fun _ _ _ h => h
    case hw23x55 => rfl
    case hy23x55 => (intro w hSw; (try dsimp only at hSw); go_simp; (first | done | (with_reducible rfl)))
    (try simp only [Act.put, List.setIfInBounds_toArray, List.set_cons_zero, List.set_cons_succ])
    refine wpAnyH_take (i := 24) (oi := ?o24x56) (v := ?v24x56) ?ho24x56 (by kernel_rfl) (by kernel_rfl) (by kernel_rfl) ?hQ24x56 (Or.inl ⟨?hw24x56, ?hy24x56⟩) (by assumption) ?_
    case ho24x56 => (simp only [List.getElem?_toArray, List.getElem?_cons_succ, List.getElem?_cons_zero]; try rfl)
    case hQ24x56 => exact fun _ _ _ h => h
    case hw24x56 => rfl
    case hy24x56 => (intro w hSw; (try dsimp only at hSw); go_simp; (first | done | (with_reducible rfl)))
    (try simp only [Act.put, List.setIfInBounds_toArray, List.set_cons_zero, List.set_cons_succ])
    refine wpAnyH_take (i := 26) (oi := ?o26x57) (v := ?v26x57) ?ho26x57 (by kernel_rfl) (by kernel_rfl) (by kernel_rfl) ?hQ26x57 (Or.inl ⟨?hw26x57, ?hy26x57⟩) (by assumption) ?_
    case ho26x57 => (simp only [List.getElem?_toArray, List.getElem?_cons_succ, List.getElem?_cons_zero]; try rfl)
    case hQ26x57 => exact fun _ _ _ h => h
    case hw26x57 => rfl
    case hy26x57 => (intro w hSw; (try dsimp only at hSw); go_simp; (first | done | (with_reducible rfl)))
    (try simp only [Act.put, List.setIfInBounds_toArray, List.set_cons_zero, List.set_cons_succ])
    refine wpAnyH_ready (rs := [25]) (by kernel_rfl) (by simp) ?_
    refine (AllReadyH.cons (i := 25) (o := ?o25y58) ?ho25y58 (fun K hK => ?_) AllReadyH.nil)
    case ho25y58 => (simp only [List.getElem?_toArray, List.getElem?_cons_succ, List.getElem?_cons_zero]; try rfl)
    go_simp
    go_at_call 19
    (with_reducible refine (HD1.out _ bq52).mono ?_)
    rintro e wq58 ⟨rfl, bs58⟩
    have bq58 := below_step bq52 bs58
    clear bs58
    refine hK.out _ _ (HSS2.out _ bq58) (fun _ => ?_)
    clear hK K
    (try simp only [Act.put, List.setIfInBounds_toArray, List.set_cons_zero, List.set_cons_succ])
    refine wpAnyH_ready (rs := [27]) (by kernel_rfl) (by simp) ?_
    refine (AllReadyH.cons (i := 27) (o := ?o27y59) ?ho27y59 (fun K hK => ?_) AllReadyH.nil)
    case ho27y59 => (simp only [List.getElem?_toArray, List.getElem?_cons_succ, List.getElem?_cons_zero]; try rfl)
    go_simp
    go_at_call 19
    (with_reducible refine (HD2.out _ bq58).mono ?_)
    rintro e wq59 ⟨rfl, bs59⟩
    have bq59 := below_step bq58 bs59
    clear bs59
    refine hK.out _ _ (HSS2.out _ bq59) (fun _ => ?_)
    clear hK K
    (try simp only [Act.put, List.setIfInBounds_toArray, List.set_cons_zero, List.set_cons_succ])
    refine wpAnyH_take (i := 28) (oi := ?o28x60) (v := ?v28x60) ?ho28x60 (by kernel_rfl) (by kernel_rfl) (by kernel_rfl) ?hQ28x60 (Or.inl ⟨?hw28x60, ?hy28x60⟩) (by assumption) ?_
    case ho28x60 => (simp only [List.getElem?_toArray, List.getElem?_cons_succ, List.getElem?_cons_zero]; try rfl)
    case hQ28x60 => exact fun _ _ _ h => h
    case hw28x60 => rfl
    case hy28x60 => (intro w hSw; (try dsimp only at hSw); go_simp; (first | done | (with_reducible rfl)))
    (try simp only [Act.put, List.setIfInBounds_toArray, List.set_cons_zero, List.set_cons_succ])
    refine wpAnyH_take (i := 29) (oi := ?o29x61) (v := ?v29x61) ?ho29x61 (by kernel_rfl) (by kernel_rfl) (by kernel_rfl) ?hQ29x61 (Or.inl ⟨?hw29x61, ?hy29x61⟩) (by assumption) ?_
    case ho29x61 => (simp only [List.getElem?_toArray, List.getElem?_cons_succ, List.getElem?_cons_zero]; try rfl)
    case hQ29x61 => exact fun _ _ _ h => h
    case hw29x61 => rfl
    case hy29x61 => (intro w hSw; (try dsimp only at hSw); go_simp; (first | done | (with_reducible rfl)))
    (try simp only [Act.put, List.setIfInBounds_toArray, List.set_cons_zero, List.set_cons_succ])
    refine wpAnyH_done (by kernel_rfl) ?_ _
    have HB8 := hide bq59
    clear km kd
    go_upto_region 10 with fail
    have hPs := HPS.out
    have hHs := HHS.out
    have z1 : ¬ 9223372036854775807 < P.size + 5 := by omega
    have z2 : ¬ 9223372036854775807 < P.size + 5 + h.size := by omega
    have z3 : ¬ 9223372036854775807 < P.size + 5 + h.size + 5 := by omega
    refine wp_region_held_drew (S := fun W => W.cell? ⟨X5, 0, none⟩ = some (.int .i64 1) ∧ W.cell? ⟨X5, 1, none⟩ = some (.int .i64 0) ∧ W.cell? ⟨X5, 2, none⟩ = some (.string ⟨#[]⟩) ∧ W.cell? ⟨X5, 3, none⟩ = some (.slice A3 0 c3) ∧ W.cell? ⟨X5, 4, none⟩ = some (.string ⟨#[]⟩) ∧ W.cell? ⟨X5, 5, none⟩ = some (.slice A5 k.length c5) ∧ W.cell? ⟨X6, 0, none⟩ = some (.int .i64 1) ∧ W.cell? ⟨X6, 1, none⟩ = some (.int .i64 0) ∧ W.cell? ⟨X6, 2, none⟩ = some (.string ⟨#[]⟩) ∧ W.cell? ⟨X6, 3, none⟩ = some (.slice B3 0 d3) ∧ W.cell? ⟨X6, 4, none⟩ = some (.string ⟨#[]⟩) ∧ W.cell? ⟨X6, 5, none⟩ = some (.slice Av k'.length cv) ∧ W.cell? ⟨X7, 0, none⟩ = some (.int .i64 1) ∧ W.cell? ⟨X7, 1, none⟩ = some (.int .i64 0) ∧ W.cell? ⟨X7, 2, none⟩ = some (.string ⟨#[]⟩) ∧ W.cell? ⟨X7, 3, none⟩ = some (.slice E3 0 e3) ∧ W.cell? ⟨X7, 4, none⟩ = some (.string ⟨#[]⟩) ∧ W.cell? ⟨X7, 5, none⟩ = some (.slice (some ⟨G, 0, none⟩) k'.length e5)) (by kernel_rfl) (HSS2.out _ (Below.drew HB8.out)) (fun hHeld2 => ?_)
    have b8 := Below.drew HB8.out
    refine wpAnyH_take (i := 0) (oi := ?o0x62) (v := ?v0x62) ?ho0x62 (by kernel_rfl) (by kernel_rfl) (by kernel_rfl) ?hQ0x62 (Or.inl ⟨?hw0x62, ?hy0x62⟩) (by assumption) ?_
    case ho0x62 => (simp only [List.getElem?_toArray, List.getElem?_cons_succ, List.getElem?_cons_zero]; try rfl)
    case hQ0x62 => exact fun _ _ _ h => h
    case hw0x62 => rfl
    case hy0x62 => (intro w hSw; (try dsimp only at hSw); go_simp; (first | done | (with_reducible rfl)))
    (try simp only [Act.put, List.setIfInBounds_toArray, List.set_cons_zero, List.set_cons_succ])
    refine wpAnyH_take (i := 2) (oi := ?o2x63) (v := ?v2x63) ?ho2x63 (by kernel_rfl) (by kernel_rfl) (by kernel_rfl) ?hQ2x63 (Or.inl ⟨?hw2x63, ?hy2x63⟩) (by assumption) ?_
    case ho2x63 => (simp only [List.getElem?_toArray, List.getElem?_cons_succ, List.getElem?_cons_zero]; try rfl)
    case hQ2x63 => exact fun _ _ _ h => h
    case hw2x63 => rfl
    case hy2x63 => (intro w hSw; (try dsimp only at hSw); go_simp; (first | done | (with_reducible rfl)))
    (try simp only [Act.put, List.setIfInBounds_toArray, List.set_cons_zero, List.set_cons_succ])
    refine wpAnyH_ready (rs := [1]) (by kernel_rfl) (by simp) ?_
    refine (AllReadyH.cons (i := 1) (o := ?o1y64) ?ho1y64 (fun K hK => ?_) AllReadyH.nil)
    case ho1y64 => (simp only [List.getElem?_toArray, List.getElem?_cons_succ, List.getElem?_cons_zero]; try rfl)
    go_simp
    go_at_call 21
    (with_reducible refine (HR1.out _ b8).mono ?_)
    rintro e wq64 ⟨rfl, bs64⟩
    have bq64 := below_step b8 bs64
    clear bs64
    refine hK.out _ _ (HSS2.out _ bq64) (fun _ => ?_)
    clear hK K
    (try simp only [Act.put, List.setIfInBounds_toArray, List.set_cons_zero, List.set_cons_succ])
    refine wpAnyH_ready (rs := [3]) (by kernel_rfl) (by simp) ?_
    refine (AllReadyH.cons (i := 3) (o := ?o3y65) ?ho3y65 (fun K hK => ?_) AllReadyH.nil)
    case ho3y65 => (simp only [List.getElem?_toArray, List.getElem?_cons_succ, List.getElem?_cons_zero]; try rfl)
    go_simp
    go_at_call 21
    (with_reducible refine (HR2_.out _ bq64).mono ?_)
    rintro e wq65 ⟨rfl, bs65⟩
    have bq65 := below_step bq64 bs65
    clear bs65
    refine hK.out _ _ (HSS2.out _ bq65) (fun _ => ?_)
    clear hK K
    (try simp only [Act.put, List.setIfInBounds_toArray, List.set_cons_zero, List.set_cons_succ])
    refine wpAnyH_take (i := 4) (oi := ?o4x66) (v := ?v4x66) ?ho4x66 (by kernel_rfl) (by kernel_rfl) (by kernel_rfl) ?hQ4x66 (Or.inl ⟨?hw4x66, ?hy4x66⟩) (by assumption) ?_
    case ho4x66 => (simp only [List.getElem?_toArray, List.getElem?_cons_succ, List.getElem?_cons_zero]; try rfl)
    case hQ4x66 => exact fun _ _ _ h => h
    case hw4x66 => rfl
    case hy4x66 => (intro w hSw; (try dsimp only at hSw); go_simp; (first | done | (with_reducible rfl)))
    (try simp only [Act.put, List.setIfInBounds_toArray, List.set_cons_zero, List.set_cons_succ])
    refine wpAnyH_take (i := 5) (oi := ?o5x67) (v := ?v5x67) ?ho5x67 (by kernel_rfl) (by kernel_rfl) (by kernel_rfl) ?hQ5x67 (Or.inl ⟨?hw5x67, ?hy5x67⟩) (by assumption) ?_
    case ho5x67 => (simp only [List.getElem?_toArray, List.getElem?_cons_succ, List.getElem?_cons_zero]; try rfl)
    case hQ5x67 => exact fun _ _ _ h => h
    case hw5x67 => rfl
    case hy5x67 => (intro w hSw; (try dsimp only at hSw); go_simp; (first | done | (with_reducible rfl)))
    (try simp only [Act.put, List.setIfInBounds_toArray, List.set_cons_zero, List.set_cons_succ])
    refine wpAnyH_take (i := 6) (oi := ?o6x68) (v := ?v6x68) ?ho6x68 (by kernel_rfl) (by kernel_rfl) (by kernel_rfl) ?hQ6x68 (Or.inl ⟨?hw6x68, ?hy6x68⟩) (by assumption) ?_
    case ho6x68 => (simp only [List.getElem?_toArray, List.getElem?_cons_succ, List.getElem?_cons_zero]; try rfl)
    case hQ6x68 => exact fun _ _ _ h => h
    case hw6x68 => rfl
    case hy6x68 => (intro w hSw; (try dsimp only at hSw); go_simp; (first | done | (with_reducible rfl)))
    (try simp only [Act.put, List.setIfInBounds_toArray, List.set_cons_zero, List.set_cons_succ])
    refine wpAnyH_take (i := 8) (oi := ?o8x69) (v := ?v8x69) ?ho8x69 (by kernel_rfl) (by kernel_rfl) (by kernel_rfl) ?hQ8x69 (Or.inl ⟨?hw8x69, ?hy8x69⟩) (by assumption) ?_
    case ho8x69 => (simp only [List.getElem?_toArray, List.getElem?_cons_succ, List.getElem?_cons_zero]; try rfl)
    case hQ8x69 => exact fun _ _ _ h => h
    case hw8x69 => rfl
    case hy8x69 => (intro w hSw; (try dsimp only at hSw); go_simp; (first | done | (with_reducible rfl)))
    (try simp only [Act.put, List.setIfInBounds_toArray, List.set_cons_zero, List.set_cons_succ])
    refine wpAnyH_take (i := 11) (oi := ?o11x70) (v := ?v11x70) ?ho11x70 (by kernel_rfl) (by kernel_rfl) (by kernel_rfl) ?hQ11x70 (Or.inl ⟨?hw11x70, ?hy11x70⟩) (by assumption) ?_
    case ho11x70 => (simp only [List.getElem?_toArray, List.getElem?_cons_succ, List.getElem?_cons_zero]; try rfl)
    case hQ11x70 => exact fun _ _ _ h => h
    case hw11x70 => rfl
    case hy11x70 => (intro w hSw; (try dsimp only at hSw); go_simp; (first | done | (with_reducible rfl)))
    (try simp only [Act.put, List.setIfInBounds_toArray, List.set_cons_zero, List.set_cons_succ])
    refine wpAnyH_ready (rs := [7]) (by kernel_rfl) (by simp) ?_
    refine (AllReadyH.cons (i := 7) (o := ?o7y71) ?ho7y71 (fun K hK => ?_) AllReadyH.nil)
    case ho7y71 => (simp only [List.getElem?_toArray, List.getElem?_cons_succ, List.getElem?_cons_zero]; try rfl)
    go_simp
    go_at_call 10
    (with_reducible refine (HW1.out _ bq65).mono ?_)
    rintro e wq71 ⟨rfl, bs71⟩
    have bq71 := below_step bq65 bs71
    clear bs71
    refine hK.out _ _ (HSS2.out _ bq71) (fun _ => ?_)
    clear hK K
    (try simp only [Act.put, List.setIfInBounds_toArray, List.set_cons_zero, List.set_cons_succ])
    refine wpAnyH_ready (rs := [9]) (by kernel_rfl) (by simp) ?_
    refine (AllReadyH.cons (i := 9) (o := ?o9y72) ?ho9y72 (fun K hK => ?_) AllReadyH.nil)
    case ho9y72 => (simp only [List.getElem?_toArray, List.getElem?_cons_succ, List.getElem?_cons_zero]; try rfl)
    go_simp
    go_at_call 10
    (with_reducible refine (HW2.out _ bq71).mono ?_)
    rintro e wq72 ⟨rfl, bs72⟩
    have bq72 := below_step bq71 bs72
    clear bs72
    refine hK.out _ _ (HSS2.out _ bq72) (fun _ => ?_)
    clear hK K
    (try simp only [Act.put, List.setIfInBounds_toArray, List.set_cons_zero, List.set_cons_succ])
    refine wpAnyH_take (i := 10) (oi := ?o10x73) (v := ?v10x73) ?ho10x73 (by kernel_rfl) (by kernel_rfl) (by kernel_rfl) ?hQ10x73 (Or.inl ⟨?hw10x73, ?hy10x73⟩) (by assumption) ?_
    case ho10x73 => (simp only [List.getElem?_toArray, List.getElem?_cons_succ, List.getElem?_cons_zero]; try rfl)
    case hQ10x73 => exact fun _ _ _ h => h
    case hw10x73 => rfl
    case hy10x73 => (intro w hSw; (try dsimp only at hSw); go_simp; (first | done | (with_reducible rfl)))
    (try simp only [Act.put, List.setIfInBounds_toArray, List.set_cons_zero, List.set_cons_succ])
    refine wpAnyH_ready (rs := [12]) (by kernel_rfl) (by simp) ?_
    refine (AllReadyH.cons (i := 12) (o := ?o12y74) ?ho12y74 (fun K hK => ?_) AllReadyH.nil)
    case ho12y74 => (simp only [List.getElem?_toArray, List.getElem?_cons_succ, List.getElem?_cons_zero]; try rfl)
    go_simp
    go_at_call 18
    (with_reducible refine (arbourkeep_Head.calls s 9 h _ HF.out).mono ?_)
    rintro e wq74 ⟨rfl, hd74⟩
    have bs74 := Drawn0.below hd74
    clear hd74
    have bq74 := below_step bq72 bs74
    clear bs74
    refine hK.out _ _ (HSS2.out _ bq74) (fun _ => ?_)
    clear hK K
    (try simp only [Act.put, List.setIfInBounds_toArray, List.set_cons_zero, List.set_cons_succ])
    refine wpAnyH_take (i := 13) (oi := ?o13x75) (v := ?v13x75) ?ho13x75 (by kernel_rfl) (by kernel_rfl) (by kernel_rfl) ?hQ13x75 (Or.inl ⟨?hw13x75, ?hy13x75⟩) (by assumption) ?_
    case ho13x75 => (simp only [List.getElem?_toArray, List.getElem?_cons_succ, List.getElem?_cons_zero]; try rfl)
    case hQ13x75 => exact fun _ _ _ h => h
    case hw13x75 => rfl
    case hy13x75 => (intro w hSw; (try dsimp only at hSw); go_simp; (first | done | (with_reducible rfl)))
    (try simp only [Act.put, List.setIfInBounds_toArray, List.set_cons_zero, List.set_cons_succ])
    refine wpAnyH_take (i := 14) (oi := ?o14x76) (v := ?v14x76) ?ho14x76 (by kernel_rfl) (by kernel_rfl) (by kernel_rfl) ?hQ14x76 (Or.inl ⟨?hw14x76, ?hy14x76⟩) (by assumption) ?_
    case ho14x76 => (simp only [List.getElem?_toArray, List.getElem?_cons_succ, List.getElem?_cons_zero]; try rfl)
    case hQ14x76 => exact fun _ _ _ h => h
    case hw14x76 => rfl
    case hy14x76 => (intro w hSw; (try dsimp only at hSw); go_simp; (first | done | (with_reducible rfl)))
    (try simp only [Act.put, List.setIfInBounds_toArray, List.set_cons_zero, List.set_cons_succ])
    refine wpAnyH_take (i := 15) (oi := ?o15x77) (v := ?v15x77) ?ho15x77 (by kernel_rfl) (by kernel_rfl) (by kernel_rfl) ?hQ15x77 (Or.inl ⟨?hw15x77, ?hy15x77⟩) (by assumption) ?_
    case ho15x77 => (simp only [List.getElem?_toArray, List.getElem?_cons_succ, List.getElem?_cons_zero]; try rfl)
    case hQ15x77 => exact fun _ _ _ h => h
    case hw15x77 => rfl
    case hy15x77 => (intro w hSw; (try dsimp only at hSw); go_simp; (first | done | (with_reducible rfl)))
    (try simp only [Act.put, List.setIfInBounds_toArray, List.set_cons_zero, List.set_cons_succ])
    refine wpAnyH_take (i := 16) (oi := ?o16x78) (v := ?v16x78) ?ho16x78 (by kernel_rfl) (by kernel_rfl) (by kernel_rfl) ?hQ16x78 (Or.inl ⟨?hw16x78, ?hy16x78⟩) (by assumption) ?_
    case ho16x78 => (simp only [List.getElem?_toArray, List.getElem?_cons_succ, List.getElem?_cons_zero]; try rfl)
    case hQ16x78 => exact fun _ _ _ h => h
    case hw16x78 => rfl
    case hy16x78 => (intro w hSw; (try dsimp only at hSw); go_simp; (first | done | (with_reducible rfl)))
    (try simp only [Act.put, List.setIfInBounds_toArray, List.set_cons_zero, List.set_cons_succ])
    refine wpAnyH_take (i := 17) (oi := ?o17x79) (v := ?v17x79) ?ho17x79 (by kernel_rfl) (by kernel_rfl) (by kernel_rfl) ?hQ17x79 (Or.inl ⟨?hw17x79, ?hy17x79⟩) (by assumption) ?_
    case ho17x79 => (simp only [List.getElem?_toArray, List.getElem?_cons_succ, List.getElem?_cons_zero]; try rfl)
    case hQ17x79 => exact fun _ _ _ h => h
    case hw17x79 => rfl
    case hy17x79 => (intro w hSw; (try dsimp only at hSw); go_simp; (first | done | (with_reducible rfl)))
    (try simp only [Act.put, List.setIfInBounds_toArray, List.set_cons_zero, List.set_cons_succ])
    refine wpAnyH_ready (rs := [18]) (by kernel_rfl) (by simp) ?_
    refine (AllReadyH.cons (i := 18) (o := ?o18y80) ?ho18y80 (fun K hK => ?_) AllReadyH.nil)
    case ho18y80 => (simp only [List.getElem?_toArray, List.getElem?_cons_succ, List.getElem?_cons_zero]; try rfl)
    go_simp
    go_at_call 13
    (with_reducible refine (known _).mono ?_)
    rintro e wq80 ⟨rfl, bs80⟩
    have bq80 := below_step bq74 bs80
    clear bs80
    refine hK.out _ _ (HSS2.out _ bq80) (fun _ => ?_)
    clear hK K
    (try simp only [Act.put, List.setIfInBounds_toArray, List.set_cons_zero, List.set_cons_succ])
    refine wpAnyH_take (i := 19) (oi := ?o19x81) (v := ?v19x81) ?ho19x81 (by kernel_rfl) (by kernel_rfl) (by kernel_rfl) ?hQ19x81 (Or.inl ⟨?hw19x81, ?hy19x81⟩) (by assumption) ?_
    case ho19x81 => (simp only [List.getElem?_toArray, List.getElem?_cons_succ, List.getElem?_cons_zero]; try rfl)
    case hQ19x81 => exact fun _ _ _ h => h
    case hw19x81 => rfl
    case hy19x81 => (intro w hSw; (try dsimp only at hSw); go_simp; (first | done | (with_reducible rfl)))
    (try simp only [Act.put, List.setIfInBounds_toArray, List.set_cons_zero, List.set_cons_succ])
    refine wpAnyH_take (i := 20) (oi := ?o20x82) (v := ?v20x82) ?ho20x82 (by kernel_rfl) (by kernel_rfl) (by kernel_rfl) ?hQ20x82 (Or.inl ⟨?hw20x82, ?hy20x82⟩) (by assumption) ?_
    case ho20x82 => (simp only [List.getElem?_toArray, List.getElem?_cons_succ, List.getElem?_cons_zero]; try rfl)
    case hQ20x82 => exact fun _ _ _ h => h
    case hw20x82 => rfl
    case hy20x82 => (intro w hSw; (try dsimp only at hSw); go_simp; (first | done | (with_reducible rfl)))
    (try simp only [Act.put, List.setIfInBounds_toArray, List.set_cons_zero, List.set_cons_succ])
    refine wpAnyH_done (by kernel_rfl) ?_ _
    have HBN := hide bq80
    go_wp2_with fail
    go_ret
    exact ⟨rfl, below_step HB6.out HBN.out⟩

/-- The law, as its row calls it. -/
theorem one (A : Option Addr) (c : Nat) (l : List S30) (s : ByteArray) (w : World) (hl : k30.C w A l.length l ∧ l.length ≤ c) : Calls Try.prog 8 #[.slice A l.length c, .string s] w fun e w' => e = .returned (.bool true) ∧ Below w.heap.size w w' := treeOne l A c s w hl.1 hl.2
end Go.Proofs.Ytaponaemgolmoaa.Tr

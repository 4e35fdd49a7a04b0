/- The walks of slices.Clone, the closure of attrs.find, slices.IndexFunc and attrs.find at attributes. The walks of tree.template and tree.fields. The walk of tree.kids. The walk of tree.Right. -/
import Derived.Test.YtaponaemgolmoaaTrAt
import Derived.WalkSpells
import Derived.BigQuiet
import Derived.Deep.QuietTactic
import Derived.Below
import Derived.IntWalk
import Derived.WalkLawsBesides
import Derived.Test.YtaponaemgolmoaaTrLabel
import Derived.Test.YtaponaemgolmoaaTrDepth
namespace Go.Proofs.Ytaponaemgolmoaa.Tr
open Go.RowKit Go.Proofs.Ytaponaemgolmoaa.PTreeTells Go.Proofs.YtaponaemgolmoaaW.PrintWords Go.Proofs.YtaponaemgolmoaaW.PrintLast

/-- A list of attributes that reads so. -/
def Rds (w : World) (A : Option Addr) (c : Nat) (xs : List S33) : Prop := Kd.C k33 w A xs.length xs ∧ xs.length ≤ c
/-- What is handed back is a new row that holds these; what was there is as it was. -/
def RowPost (xs : List S33) (w : World) (e : Ending) (w' : World) : Prop := ∃ v : Value, e = .returned v ∧ Kd.R k33 33 w' w.heap.size (fun _ => True) v xs ∧ Below w.heap.size w w'

set_option maxHeartbeats 400000 in
set_option maxRecDepth 100000 in
theorem clone (A : Option Addr) (c : Nat) (xs : List S33) (w : World) (h : Rds w A c xs) (hn : xs.length * 32 ≤ 140737488351232) :
    Calls Try.prog 39 #[.slice A xs.length c] w (RowPost xs w) := by
  have h0 := @Lib.run_eql_slice_nil Try.prog
  rcases A with _ | ad
  · have hx : xs = [] := by
      cases xs with
      | nil => rfl
      | cons x xs => obtain ⟨_, e, _⟩ := h.1.2.2 (by simp); cases e
    subst hx
    go_enter Try.func39, Try.ntmps39
    go_wp2
    go_ret
    exact ⟨_, rfl, Kd.R_nil _ _ _ _ _, Below.refl _ _⟩
  · have HC := hide h.1
    clear h
    have hR : Kd.R k33 33 (w.alloc (.cells #[] 33)) w.heap.size (fun _ => True) (.slice (some ⟨w.heap.size, 0, none⟩) 0 0) [] :=
      ⟨fun _ _ => trivial, [], by have := World.ownsRow_lit (base := w.heap.size) (e := 33) (size := 2) w #[] 0 (Nat.le_refl _) (by simp) rfl; exact this, Reps.none _ _⟩
    have HR := hide hR
    clear hR
    have HC1 := hide (Kd.C_below HC.out (below_alloc (Below.refl w.heap.size w) (.cells #[] 33)))
    clear HC
    go_enter Try.func39, Try.ntmps39
    go_wp2_with (at_builtin; refine Kd.R_append_rows k33 (Rr := k33.K (w.alloc (.cells #[] 33))) (w0 := w) w.heap.size rfl (.tmp 5) (.tmp 6) 23 33 (.agg #[.string ⟨#[]⟩, .string ⟨#[]⟩]) 32 rfl Try.underlying23 (by kernel_rfl) rfl (by decide) (by decide) _ [] xs (some ad) xs.length c (fun _ => True) (fun _ => False) rfl rfl HR.out HC1.out ?h1 (fun k hk => hk.elim) (fun _ _ => trivial) (below_alloc (Below.refl _ _) _) (by simp) (by simp; omega) ?_; (case h1 => intro x cs hx; rw [k33_open hx]; exact k33_mkM _ _ _ _); intro v1 w1 ho hb hg hown; have HO := hide ho; have HB := hide hb; clear ho hb hg hown)
    go_ret
    exact ⟨_, rfl, by simpa using HO.out, HB.out⟩

set_option maxHeartbeats 400000 in
set_option maxRecDepth 100000 in
theorem eqName (p : Addr) (x : S33) (nm : ByteArray) (w : World) (hc : w.cell? p = some (.string nm)) :
    Calls Try.prog 92 #[.agg #[.string x.f0, .string x.f1], .pointer (some p)] w fun e w' => e = .returned (.bool (x.f0.toList == nm.toList)) ∧ Below w.heap.size w w' := by
  obtain ⟨a, b⟩ := x
  have hp : p.block < w.heap.size := World.block_lt_of_cell? w _ hc
  have hc1 : (w.alloc (.cells #[.string a, .string b] 33)).cell? p = some (.string nm) := by rw [World.cell?_alloc_lt w _ p hp]; exact hc
  dsimp only
  go_enter Try.func92, Try.ntmps92
  go_wp2
  go_ret
  exact ⟨rfl, below_alloc (Below.refl _ _) _⟩

def hit (nm : ByteArray) (x : S33) : Bool := x.f0.toList == nm.toList
def fndFrom (nm : ByteArray) : List S33 → Nat → Int
  | [], _ => -1
  | x :: xs, i => if hit nm x = true then (i : Int) else fndFrom nm xs (i + 1)
/-- The place of the first attribute of a name; -1 of none. -/
def fnd (xs : List S33) (nm : ByteArray) : Int := fndFrom nm xs 0
theorem fnd_step (nm : ByteArray) (xs : List S33) (k : Nat) (h : k < xs.length) : fndFrom nm (xs.drop k) k = if hit nm (xs.getD k z33) = true then (k : Int) else fndFrom nm (xs.drop (k + 1)) (k + 1) := by
  rw [List.drop_eq_getElem_cons h, List.getD_eq_getElem?_getD, List.getElem?_eq_getElem h]
  rfl
theorem fnd_end (nm : ByteArray) (xs : List S33) (k : Nat) (h : xs.length ≤ k) : fndFrom nm (xs.drop k) k = -1 := by
  rw [List.drop_of_length_le h]; rfl

set_option maxHeartbeats 1000000 in
set_option maxRecDepth 100000 in
theorem indexFunc (A : Option Addr) (c : Nat) (xs : List S33) (p : Addr) (nm : ByteArray) (w : World) (h : Rds w A c xs) (hc : w.cell? p = some (.string nm)) :
    Calls Try.prog 91 #[.slice A xs.length c, .func (.func 92) #[] #[.pointer (some p)]] w fun e w' => e = .returned (.int .i64 (fnd xs nm)) ∧ Below w.heap.size w w' := by
  have hp : p.block < w.heap.size := World.block_lt_of_cell? w _ hc
  have HC := hide h.1
  have hlen := h.1.2.1
  clear h
  obtain ⟨n, hn⟩ : ∃ n, xs.length = n := ⟨_, rfl⟩
  have HN := hide hn
  rw [hn] at hlen ⊢
  clear hn
  have HP := hide hc
  clear hc
  go_enter Try.func91, Try.ntmps91
  go_wp2_with fail
  go_loopw [5, 8] (fun _ i wr => ∃ k : Nat, k ≤ n ∧ i = .int .i64 k ∧ Aside0 (fndFrom nm (xs.drop k) k = fnd xs nm) ∧ Aside0 (Below w.heap.size w wr)) (fun _ i _ => n - (intOf i).toNat)
  case atStart => exact ⟨0, by omega, rfl, ⟨rfl⟩, ⟨Below.refl _ _⟩⟩
  case round =>
    obtain ⟨k, hk, rfl, HF, HB⟩ := hrel
    by_cases hlt : k < n
    · have hkl : k < xs.length := by rw [HN.out]; exact hlt
      obtain ⟨ad, hA, hc0, hc1⟩ := at_T33 (Kd.C_below HC.out HB.out) (k : Int) (by omega) (by omega)
      subst hA
      have hstep := fnd_step nm xs k hkl
      rw [HF.out] at hstep
      unfold rd_T33 at hc0 hc1
      rw [Int.toNat_natCast] at hc0 hc1
      obtain ⟨x, hx⟩ : ∃ x, xs.getD k z33 = x := ⟨_, rfl⟩
      rw [hx] at hc0 hc1 hstep
      obtain ⟨a, b⟩ := x
      dsimp only at hc0 hc1
      have HS := hide hstep
      clear hstep hx
      have k1 : (k : Int) < n := by omega
      go_wp2_with fail
      have hpc : wr.cell? p = some (.string nm) := by rw [HB.out.cell hp]; exact HP.out
      refine (eqName p ⟨a, b⟩ nm wr hpc).mono ?_
      rintro e w2 ⟨rfl, hb2⟩
      have HB2 := hide (below_step HB.out hb2)
      clear hb2 hpc
      rw [show ((⟨a, b⟩ : S33).f0.toList == nm.toList) = hit nm ⟨a, b⟩ from rfl]
      obtain ⟨q, hq⟩ : ∃ q, hit nm ⟨a, b⟩ = q := ⟨_, rfl⟩
      have HS2 := HS.out
      rw [hq] at HS2 ⊢
      clear hq HS
      cases q
      · have HS3 := hide HS2
        clear HS2
        dsimp only
        go_wp2_with fail
        go_roundw
        case rel => exact ⟨k + 1, by omega, by go_num, ⟨by have := HS3.out; rw [if_neg (by decide)] at this; exact this.symm⟩, ⟨HB2.out⟩⟩
        case measure => simp only [intOf]; omega
      · have HS3 := hide HS2
        clear HS2
        dsimp only
        go_wp2_with fail
        go_ret
        exact ⟨by rw [HS3.out]; rfl, HB2.out⟩
    · have hke : fndFrom nm (xs.drop k) k = -1 := fnd_end nm xs k (by rw [HN.out]; omega)
      have HK := hide hke
      clear hke
      go_wp2_with fail
      go_ret
      exact ⟨by rw [← HF.out, HK.out]; rfl, HB.out⟩

set_option maxHeartbeats 1000000 in
set_option maxRecDepth 100000 in
theorem find (A : Option Addr) (c : Nat) (xs : List S33) (nm : ByteArray) (w : World) (h : Rds w A c xs) :
    Calls Try.prog 88 #[.slice A xs.length c, .string nm] w fun e w' => e = .returned (.int .i64 (fnd xs nm)) ∧ Below w.heap.size w w' := by
  have h2 : Rds (w.alloc (.cells #[.string nm] 9)) A c xs := ⟨Kd.C_below h.1 (below_alloc (Below.refl _ _) _), h.2⟩
  have H2 := hide h2
  clear h h2
  obtain ⟨z, hz⟩ : ∃ z, fnd xs nm = z := ⟨_, rfl⟩
  rw [hz]
  have HZ := hide hz
  clear hz
  have hc : (w.alloc (.cells #[.string nm] 9)).cell? ⟨w.heap.size, 0, none⟩ = some (.string nm) := by
    rw [cell_of_row _ _ 0 _ 9 (0, 0) (heap_alloc_new _ _)]; rfl
  have HC := hide hc
  clear hc
  go_enter Try.func88, Try.ntmps88
  go_wp2_with (go_at_call 91; (refine (indexFunc A c xs ⟨w.heap.size, 0, none⟩ nm _ H2.out HC.out).mono ?_); rw [HZ.out]; rintro e w2 ⟨rfl, hb2⟩; dsimp only)
  go_ret
  exact ⟨rfl, below_step (below_alloc (Below.refl _ _) _) hb2⟩
def addL (xs : List S33) (x : S33) : List S33 := if fnd xs x.f0 < 0 then xs ++ [x] else xs
def moreL (xs ys : List S33) : List S33 := ys.foldl addL xs
theorem addL_len (xs : List S33) (x : S33) : (addL xs x).length ≤ xs.length + 1 := by
  unfold addL
  split
  · simp
  · omega
theorem moreL_len (xs : List S33) : ∀ ys : List S33, (moreL xs ys).length ≤ xs.length + ys.length := by
  intro ys
  unfold moreL
  induction ys generalizing xs with
  | nil => simp
  | cons y ys ih =>
    rw [List.foldl_cons, List.length_cons]
    have := ih (addL xs y)
    have := addL_len xs y
    omega
theorem more_step (xs ys : List S33) (k : Nat) (h : k < ys.length) : moreL xs (ys.take (k + 1)) = addL (moreL xs (ys.take k)) (ys.getD k z33) := by
  unfold moreL
  rw [List.take_succ_eq_append_getElem h, List.foldl_append, List.getD_eq_getElem?_getD, List.getElem?_eq_getElem h]
  rfl
theorem info33 : (Try.prog.info? 33).map (fun i => (i.zero, i.size, i.bytes)) = some (some (.agg #[.string ⟨#[]⟩, .string ⟨#[]⟩]), 2, 32) := by kernel_rfl

set_option maxHeartbeats 1000000 in
set_option maxRecDepth 100000 in
theorem more (A B : Option Addr) (c d : Nat) (xs ys : List S33) (w : World) (h : Rds w A c xs) (hy : Rds w B d ys) (hn : (xs.length + ys.length) * 32 ≤ 140737488351232) :
    Calls Try.prog 81 #[.slice A xs.length c, .slice B ys.length d] w (RowPost (moreL xs ys) w) := by
  have HX := hide h
  have HY := hide hy
  have hlen := hy.1.2.1
  clear h hy
  obtain ⟨n, hyn⟩ : ∃ n, ys.length = n := ⟨_, rfl⟩
  have HN := hide hyn
  rw [hyn] at hlen hn ⊢
  clear hyn
  obtain ⟨m, hxm⟩ : ∃ n, xs.length = n := ⟨_, rfl⟩
  have HM := hide hxm
  rw [hxm] at hn
  clear hxm
  go_enter Try.func81, Try.ntmps81
  go_wp2_with fail
  refine (clone A c xs _ HX.out (by rw [HM.out]; omega)).mono ?_
  rintro e w1 ⟨v, rfl, hR, hb1⟩
  have HR := hide hR
  have HB1 := hide hb1
  clear hR hb1
  dsimp only
  go_wp2_with fail
  go_loopw [5, 12] (fun v i wr => ∃ k : Nat, k ≤ n ∧ i = .int .i64 k ∧ Aside0 (Kd.R k33 33 wr w.heap.size (fun _ => True) v (moreL xs (ys.take k))) ∧ Aside0 (Below w.heap.size w wr)) (fun _ i _ => n - (intOf i).toNat)
  case atStart => exact ⟨0, by omega, rfl, ⟨HR.out⟩, ⟨HB1.out⟩⟩
  case round =>
    clear HR HB1
    obtain ⟨k, hk, rfl, HO, HB⟩ := hrel
    by_cases hlt : k < n
    · have hkl : k < ys.length := by rw [HN.out]; exact hlt
      obtain ⟨bd, hA, hc0, hc1⟩ := at_T33 (Kd.C_below HY.out.1 HB.out) (k : Int) (by omega) (by rw [HN.out]; omega)
      subst hA
      have hstep := more_step xs ys k hkl
      have hml := moreL_len xs (ys.take k)
      rw [List.length_take, HM.out] at hml
      unfold rd_T33 at hc0 hc1
      rw [Int.toNat_natCast] at hc0 hc1
      obtain ⟨x, hx⟩ : ∃ x, ys.getD k z33 = x := ⟨_, rfl⟩
      rw [hx] at hc0 hc1 hstep
      obtain ⟨a, b⟩ := x
      dsimp only at hc0 hc1
      clear hx
      obtain ⟨zs, hzs⟩ : ∃ zs, moreL xs (ys.take k) = zs := ⟨_, rfl⟩
      have HO1 := HO.out
      rw [hzs] at hstep hml HO1
      have HS := hide hstep
      clear hstep hzs HO
      obtain ⟨A1, c1, rfl, hl1, _⟩ := Kd.R_reads HO1
      have k1 : (k : Int) < n := by omega
      have HO := hide HO1
      clear HO1
      go_wp2_with fail
      refine (find A1 c1 zs a _ ⟨Kd.C_below (Kd.R_reads' HO.out).2.2 (below_alloc (Below.refl _ _) _), hl1⟩).mono ?_
      rintro e w2 ⟨rfl, hb2⟩
      have hx0 : w2.cell? ⟨wr.heap.size, 0, none⟩ = some (.string a) := by
        rw [hb2.cell (p := ⟨wr.heap.size, 0, none⟩) (by simp), cell_of_row _ _ 0 _ 33 (0, 0) (heap_alloc_new _ _)]; rfl
      have hx1 : w2.cell? ⟨wr.heap.size, 1, none⟩ = some (.string b) := by
        rw [hb2.cell (p := ⟨wr.heap.size, 1, none⟩) (by simp), cell_of_row _ _ 1 _ 33 (0, 0) (heap_alloc_new _ _)]; rfl
      have hb3 : Below wr.heap.size wr w2 := below_step (below_alloc (Below.refl _ _) _) hb2
      have HO2 := hide (Kd.R_below HO.out hb3)
      have HB2 := hide (below_step HB.out hb3)
      clear hb2 hb3 HO
      obtain ⟨q, hq⟩ : ∃ q, fnd zs a = q := ⟨_, rfl⟩
      have HS2 := HS.out
      unfold addL at HS2
      dsimp only at HS2
      rw [hq] at HS2
      rw [hq]
      clear hq HS
      by_cases hneg : q < 0
      · rw [if_pos hneg] at HS2
        have HS := hide HS2
        clear HS2
        have hbase := HB2.out.size
        dsimp only
        go_wp2_with (at_builtin; refine Kd.R_append k33 (w0 := w) w.heap.size rfl (.tmp 21) (.tmp 23) 23 33 _ 32 rfl Try.underlying23 info33 rfl (by decide) (by decide) _ zs ⟨a, b⟩ [.string a, .string b] (fun _ => True) (fun _ => False) rfl rfl (k33_mkM _ _ _ _) (fun k hk => hk.elim) (fun _ _ => trivial) HO2.out HB2.out hbase (by omega) ?_; intro v1 w3 ho hb hg hown; have HO3 := hide ho; have HB3 := hide hb; clear ho hb hg hown)
        go_roundw
        case rel => exact ⟨k + 1, by omega, by go_num, ⟨by rw [HS.out]; exact HO3.out⟩, ⟨HB3.out⟩⟩
        case measure => simp only [intOf]; omega
      · rw [if_neg hneg] at HS2
        have HS := hide HS2
        clear HS2
        dsimp only
        go_wp2_with fail
        go_roundw
        case rel => exact ⟨k + 1, by omega, by go_num, ⟨by rw [HS.out]; exact HO2.out⟩, ⟨HB2.out⟩⟩
        case measure => simp only [intOf]; omega
    · have hke : ys.take k = ys := List.take_of_length_le (by rw [HN.out]; omega)
      have HO1 := HO.out
      rw [hke] at HO1
      have HO2 := hide HO1
      clear HO1 hke HO
      go_wp2_with fail
      go_ret
      exact ⟨_, rfl, HO2.out, HB.out⟩

theorem unique (A : Option Addr) (c : Nat) (xs : List S33) (w : World) (h : Rds w A c xs) (hn : xs.length * 32 ≤ 140737488351232) :
    Calls Try.prog 66 #[.slice A xs.length c] w (RowPost (moreL [] xs) w) := by
  have H := hide h
  clear h
  go_enter Try.func66, Try.ntmps66
  go_wp2_with fail
  refine (more none A 0 c [] xs _ ⟨⟨rfl, by simp, fun h => absurd h (by simp)⟩, Nat.le_refl _⟩ H.out (by simpa using hn)).mono ?_
  rintro e w1 ⟨v, rfl, hR, hb1⟩
  have HR := hide hR
  have HB := hide hb1
  clear hR hb1
  dsimp only
  go_wp2_with fail
  go_ret
  exact ⟨_, rfl, HR.out, HB.out⟩

end Go.Proofs.Ytaponaemgolmoaa.Tr
namespace Go.Proofs.Ytaponaemgolmoaa.Tr
open Go.RowKit Go.Proofs.Ytaponaemgolmoaa.PTreeTells Go.Proofs.YtaponaemgolmoaaW.PrintWords Go.Proofs.YtaponaemgolmoaaW.PrintLast
set_option linter.unusedVariables false
set_option linter.unusedSimpArgs false
def templB (x : S26) : Bool := x.f0 == 3 && (x.f1 == 1 && x.f2.toList == [116, 101, 109, 112, 108, 97, 116, 101])
set_option maxHeartbeats 2000000 in
set_option maxRecDepth 100000 in
theorem templ (p : Addr) (x : S26) (w : World) (hT : TAt w p x) :
    Calls Try.prog 67 #[.pointer (some p)] w fun e w' => e = .returned (.bool (templB x)) ∧ w' = w := by
  obtain ⟨A3, c3, A5, c5, h0, h1, h2, h3, h4, h5, l3, g3, l5, g5⟩ := hT
  unfold templB
  obtain ⟨x0, x1, x2, x3, x4, x5⟩ := x
  dsimp only at *
  clear g3 g5 l3 l5
  cases e0 : (x0 == 3) with
  | false =>
    go_enter Try.func67, Try.ntmps67
    go_wp2_with fail
    go_ret
    exact ⟨rfl, rfl⟩
  | true =>
    cases e1 : (x1 == 1) with
    | false =>
      go_enter Try.func67, Try.ntmps67
      go_wp2_with fail
      go_ret
      exact ⟨rfl, rfl⟩
    | true =>
      go_enter Try.func67, Try.ntmps67
      go_wp2_with fail
      go_ret
      exact ⟨rfl, rfl⟩
def fieldsB (x : S26) : Bool :=
  if x.f0 == 3 then (x.f1 == 1 || x.f1 == 2) && (!(x.f2.toList == []) && (x.f4.toList == [] && ((moreL [] x.f3).length : Int) == (x.f3.length : Int)))
  else if x.f0 == 4 then x.f1 == 0 && (x.f2.toList == [] && ((x.f3.length : Int) == 0 && (!(x.f4.toList == []) && (x.f5.length : Int) == 0)))
  else if x.f0 == 5 then x.f1 == 0 && (x.f2.toList == [] && ((x.f3.length : Int) == 0 && (x.f5.length : Int) == 0))
  else if x.f0 == 2 then x.f1 == 0 && ((x.f3.length : Int) == 0 && (x.f4.toList == [] && (x.f5.length : Int) == 0))
  else if x.f0 == 1 || x.f0 == 6 then x.f1 == 0 && (x.f2.toList == [] && ((x.f3.length : Int) == 0 && x.f4.toList == []))
  else false
set_option maxHeartbeats 8000000 in
set_option maxRecDepth 100000 in
theorem fieldsW (p : Addr) (x : S26) (w : World) (hT : TAt w p x) (hn : x.f3.length ≤ 1000000) :
    Calls Try.prog 50 #[.pointer (some p)] w fun e w' => e = .returned (.bool (fieldsB x)) ∧ Below w.heap.size w w' := by
  obtain ⟨A3, c3, A5, c5, h0, h1, h2, h3, h4, h5, l3, g3, l5, g5⟩ := hT
  have HU := hide (fun W (h : Below w.heap.size w W) => unique A3 c3 x.f3 W ⟨Kd.C_below g3 h, l3⟩ (by omega))
  have HML := hide (moreL_len [] x.f3)
  have HC := hide (fun W (h : Below w.heap.size w W) => (⟨cellW h0 h, cellW h1 h, cellW h2 h, cellW h3 h, cellW h4 h⟩ : W.cell? p = _ ∧ W.cell? ⟨p.block, p.off + 1, none⟩ = _ ∧ W.cell? ⟨p.block, p.off + 2, none⟩ = _ ∧ W.cell? ⟨p.block, p.off + 3, none⟩ = _ ∧ W.cell? ⟨p.block, p.off + 4, none⟩ = _))
  unfold fieldsB
  obtain ⟨x0, x1, x2, x3, x4, x5⟩ := x
  dsimp only at *
  obtain ⟨n3, hn3⟩ : ∃ n : Nat, x3.length = n := ⟨_, rfl⟩
  obtain ⟨n5, hn5⟩ : ∃ n : Nat, x5.length = n := ⟨_, rfl⟩
  obtain ⟨ml, hml⟩ : ∃ l, moreL [] x3 = l := ⟨_, rfl⟩
  rw [hml] at HU HML ⊢
  rw [hn3] at HU h3 HC HML ⊢
  rw [hn5] at h5 ⊢
  clear g3 g5 l3 l5 hn3 hn5 hml
  cases k3 : (x0 == 3) with
  | true =>
    cases e11 : (x1 == 1) with
    | true =>
      cases e12 : (x2.toList == []) with
      | true =>
        go_enter Try.func50, Try.ntmps50
        go_upto_region 3 with fail
        first | go_quiet (fail) | fail
        go_wp2_with fail
        go_ret
        exact ⟨rfl, by first | exact Drawn0.below ⟨⟨_, rfl⟩⟩ | exact Below.refl _ _⟩
      | false =>
        cases e14 : (x4.toList == []) with
        | false =>
          go_enter Try.func50, Try.ntmps50
          go_upto_region 3 with fail
          first | go_quiet (fail) | fail
          go_wp2_with fail
          go_ret
          exact ⟨rfl, by first | exact Drawn0.below ⟨⟨_, rfl⟩⟩ | exact Below.refl _ _⟩
        | true =>
          go_enter Try.func50, Try.ntmps50
          go_upto_region 3 with fail
          refine wp_region_held_drew (S := fun W => W.cell? p = some (.int .i64 x0) ∧ W.cell? ⟨p.block, p.off + 1, none⟩ = some (.int .i64 x1) ∧ W.cell? ⟨p.block, p.off + 2, none⟩ = some (.string x2) ∧ W.cell? ⟨p.block, p.off + 3, none⟩ = some (.slice A3 n3 c3) ∧ W.cell? ⟨p.block, p.off + 4, none⟩ = some (.string x4)) (by kernel_rfl) (HC.out _ (Below.drew (Below.refl _ _))) (fun hHeld => ?_)
          refine wpAnyH_take (i := 0) (oi := ?o0x) (v := ?v0x) ?ho0x (by kernel_rfl) (by kernel_rfl) (by kernel_rfl) ?hQ0x (Or.inl ⟨?hw0x, ?hy0x⟩) (by assumption) ?_
          case ho0x => (simp only [List.getElem?_toArray, List.getElem?_cons_succ, List.getElem?_cons_zero]; try rfl)
          case hQ0x => exact fun _ _ _ h => h
          case hw0x => rfl
          case hy0x => (intro w hSw; (try dsimp only at hSw); go_simp; (first | done | (with_reducible rfl)))
          (try simp only [Act.put, List.setIfInBounds_toArray, List.set_cons_zero, List.set_cons_succ])
          refine wpAnyH_take (i := 1) (oi := ?o1x) (v := ?v1x) ?ho1x (by kernel_rfl) (by kernel_rfl) (by kernel_rfl) ?hQ1x (Or.inl ⟨?hw1x, ?hy1x⟩) (by assumption) ?_
          case ho1x => (simp only [List.getElem?_toArray, List.getElem?_cons_succ, List.getElem?_cons_zero]; try rfl)
          case hQ1x => exact fun _ _ _ h => h
          case hw1x => rfl
          case hy1x => (intro w hSw; (try dsimp only at hSw); go_simp; (first | done | (with_reducible rfl)))
          (try simp only [Act.put, List.setIfInBounds_toArray, List.set_cons_zero, List.set_cons_succ])
          refine wpAnyH_take (i := 2) (oi := ?o2x) (v := ?v2x) ?ho2x (by kernel_rfl) (by kernel_rfl) (by kernel_rfl) ?hQ2x (Or.inl ⟨?hw2x, ?hy2x⟩) (by assumption) ?_
          case ho2x => (simp only [List.getElem?_toArray, List.getElem?_cons_succ, List.getElem?_cons_zero]; try rfl)
          case hQ2x => exact fun _ _ _ h => h
          case hw2x => rfl
          case hy2x => (intro w hSw; (try dsimp only at hSw); go_simp; (first | done | (with_reducible rfl)))
          (try simp only [Act.put, List.setIfInBounds_toArray, List.set_cons_zero, List.set_cons_succ])
          refine wpAnyH_take (i := 3) (oi := ?o3x) (v := ?v3x) ?ho3x (by kernel_rfl) (by kernel_rfl) (by kernel_rfl) ?hQ3x (Or.inl ⟨?hw3x, ?hy3x⟩) (by assumption) ?_
          case ho3x => (simp only [List.getElem?_toArray, List.getElem?_cons_succ, List.getElem?_cons_zero]; try rfl)
          case hQ3x => exact fun _ _ _ h => h
          case hw3x => rfl
          case hy3x => (intro w hSw; (try dsimp only at hSw); go_simp; (first | done | (with_reducible rfl)))
          (try simp only [Act.put, List.setIfInBounds_toArray, List.set_cons_zero, List.set_cons_succ])
          refine wpAnyH_take (i := 4) (oi := ?o4x) (v := ?v4x) ?ho4x (by kernel_rfl) (by kernel_rfl) (by kernel_rfl) ?hQ4x (Or.inl ⟨?hw4x, ?hy4x⟩) (by assumption) ?_
          case ho4x => (simp only [List.getElem?_toArray, List.getElem?_cons_succ, List.getElem?_cons_zero]; try rfl)
          case hQ4x => exact fun _ _ _ h => h
          case hw4x => rfl
          case hy4x => (intro w hSw; (try dsimp only at hSw); go_simp; (first | done | (with_reducible rfl)))
          (try simp only [Act.put, List.setIfInBounds_toArray, List.set_cons_zero, List.set_cons_succ])
          refine wpAnyH_take (i := 5) (oi := ?o5x) (v := ?v5x) ?ho5x (by kernel_rfl) (by kernel_rfl) (by kernel_rfl) ?hQ5x (Or.inl ⟨?hw5x, ?hy5x⟩) (by assumption) ?_
          case ho5x => (simp only [List.getElem?_toArray, List.getElem?_cons_succ, List.getElem?_cons_zero]; try rfl)
          case hQ5x => exact fun _ _ _ h => h
          case hw5x => rfl
          case hy5x => (intro w hSw; (try dsimp only at hSw); go_simp; (first | done | (with_reducible rfl)))
          (try simp only [Act.put, List.setIfInBounds_toArray, List.set_cons_zero, List.set_cons_succ])
          refine wpAnyH_ready (rs := [6]) (by kernel_rfl) (by simp) ?_
          refine (AllReadyH.cons (i := 6) (o := ?o6y) ?ho6y (fun K hK => ?_) AllReadyH.nil)
          case ho6y => (simp only [List.getElem?_toArray, List.getElem?_cons_succ, List.getElem?_cons_zero]; try rfl)
          go_simp
          refine hK.out _ _ (by assumption) (fun _ => ?_)
          clear hK K
          (try simp only [Act.put, List.setIfInBounds_toArray, List.set_cons_zero, List.set_cons_succ])
          refine wpAnyH_ready (rs := [7]) (by kernel_rfl) (by simp) ?_
          refine (AllReadyH.cons (i := 7) (o := ?o7y) ?ho7y (fun K hK => ?_) AllReadyH.nil)
          case ho7y => (simp only [List.getElem?_toArray, List.getElem?_cons_succ, List.getElem?_cons_zero]; try rfl)
          go_simp
          refine hK.out _ _ (by assumption) (fun _ => ?_)
          clear hK K
          (try simp only [Act.put, List.setIfInBounds_toArray, List.set_cons_zero, List.set_cons_succ])
          refine wpAnyH_ready (rs := [8]) (by kernel_rfl) (by simp) ?_
          refine (AllReadyH.cons (i := 8) (o := ?o8y) ?ho8y (fun K hK => ?_) AllReadyH.nil)
          case ho8y => (simp only [List.getElem?_toArray, List.getElem?_cons_succ, List.getElem?_cons_zero]; try rfl)
          go_simp
          refine hK.out _ _ (by assumption) (fun _ => ?_)
          clear hK K
          (try simp only [Act.put, List.setIfInBounds_toArray, List.set_cons_zero, List.set_cons_succ])
          refine wpAnyH_ready (rs := [9]) (by kernel_rfl) (by simp) ?_
          refine (AllReadyH.cons (i := 9) (o := ?o9y) ?ho9y (fun K hK => ?_) AllReadyH.nil)
          case ho9y => (simp only [List.getElem?_toArray, List.getElem?_cons_succ, List.getElem?_cons_zero]; try rfl)
          go_simp
          refine hK.out _ _ (by assumption) (fun _ => ?_)
          clear hK K
          (try simp only [Act.put, List.setIfInBounds_toArray, List.set_cons_zero, List.set_cons_succ])
          refine wpAnyH_ready (rs := [10]) (by kernel_rfl) (by simp) ?_
          refine (AllReadyH.cons (i := 10) (o := ?o10y) ?ho10y (fun K hK => ?_) AllReadyH.nil)
          case ho10y => (simp only [List.getElem?_toArray, List.getElem?_cons_succ, List.getElem?_cons_zero]; try rfl)
          go_simp
          refine hK.out _ _ (by assumption) (fun _ => ?_)
          clear hK K
          (try simp only [Act.put, List.setIfInBounds_toArray, List.set_cons_zero, List.set_cons_succ])
          refine wpAnyH_take (i := 11) (oi := ?o11x) (v := ?v11x) ?ho11x (by kernel_rfl) (by kernel_rfl) (by kernel_rfl) ?hQ11x (Or.inl ⟨?hw11x, ?hy11x⟩) (by assumption) ?_
          case ho11x => (simp only [List.getElem?_toArray, List.getElem?_cons_succ, List.getElem?_cons_zero]; try rfl)
          case hQ11x => exact fun _ _ _ h => h
          case hw11x => rfl
          case hy11x => (intro w hSw; (try dsimp only at hSw); go_simp; (first | done | (with_reducible rfl)))
          (try simp only [Act.put, List.setIfInBounds_toArray, List.set_cons_zero, List.set_cons_succ])
          refine wpAnyH_take (i := 12) (oi := ?o12x) (v := ?v12x) ?ho12x (by kernel_rfl) (by kernel_rfl) (by kernel_rfl) ?hQ12x (Or.inl ⟨?hw12x, ?hy12x⟩) (by assumption) ?_
          case ho12x => (simp only [List.getElem?_toArray, List.getElem?_cons_succ, List.getElem?_cons_zero]; try rfl)
          case hQ12x => exact fun _ _ _ h => h
          case hw12x => rfl
          case hy12x => (intro w hSw; (try dsimp only at hSw); go_simp; (first | done | (with_reducible rfl)))
          (try simp only [Act.put, List.setIfInBounds_toArray, List.set_cons_zero, List.set_cons_succ])
          refine wpAnyH_take (i := 13) (oi := ?o13x) (v := ?v13x) ?ho13x (by kernel_rfl) (by kernel_rfl) (by kernel_rfl) ?hQ13x (Or.inl ⟨?hw13x, ?hy13x⟩) (by assumption) ?_
          case ho13x => (simp only [List.getElem?_toArray, List.getElem?_cons_succ, List.getElem?_cons_zero]; try rfl)
          case hQ13x => exact fun _ _ _ h => h
          case hw13x => rfl
          case hy13x => (intro w hSw; (try dsimp only at hSw); go_simp; (first | done | (with_reducible rfl)))
          (try simp only [Act.put, List.setIfInBounds_toArray, List.set_cons_zero, List.set_cons_succ])
          refine wpAnyH_take (i := 14) (oi := ?o14x) (v := ?v14x) ?ho14x (by kernel_rfl) (by kernel_rfl) (by kernel_rfl) ?hQ14x (Or.inl ⟨?hw14x, ?hy14x⟩) (by assumption) ?_
          case ho14x => (simp only [List.getElem?_toArray, List.getElem?_cons_succ, List.getElem?_cons_zero]; try rfl)
          case hQ14x => exact fun _ _ _ h => h
          case hw14x => rfl
          case hy14x => (intro w hSw; (try dsimp only at hSw); go_simp; (first | done | (with_reducible rfl)))
          (try simp only [Act.put, List.setIfInBounds_toArray, List.set_cons_zero, List.set_cons_succ])
          refine wpAnyH_take (i := 15) (oi := ?o15x) (v := ?v15x) ?ho15x (by kernel_rfl) (by kernel_rfl) (by kernel_rfl) ?hQ15x (Or.inl ⟨?hw15x, ?hy15x⟩) (by assumption) ?_
          case ho15x => (simp only [List.getElem?_toArray, List.getElem?_cons_succ, List.getElem?_cons_zero]; try rfl)
          case hQ15x => exact fun _ _ _ h => h
          case hw15x => rfl
          case hy15x => (intro w hSw; (try dsimp only at hSw); go_simp; (first | done | (with_reducible rfl)))
          (try simp only [Act.put, List.setIfInBounds_toArray, List.set_cons_zero, List.set_cons_succ])
          refine wpAnyH_take (i := 16) (oi := ?o16x) (v := ?v16x) ?ho16x (by kernel_rfl) (by kernel_rfl) (by kernel_rfl) ?hQ16x (Or.inl ⟨?hw16x, ?hy16x⟩) (by assumption) ?_
          case ho16x => (simp only [List.getElem?_toArray, List.getElem?_cons_succ, List.getElem?_cons_zero]; try rfl)
          case hQ16x => exact fun _ _ _ h => h
          case hw16x => rfl
          case hy16x => (intro w hSw; (try dsimp only at hSw); go_simp; (first | done | (with_reducible rfl)))
          (try simp only [Act.put, List.setIfInBounds_toArray, List.set_cons_zero, List.set_cons_succ])
          refine wpAnyH_take (i := 17) (oi := ?o17x) (v := ?v17x) ?ho17x (by kernel_rfl) (by kernel_rfl) (by kernel_rfl) ?hQ17x (Or.inl ⟨?hw17x, ?hy17x⟩) (by assumption) ?_
          case ho17x => (simp only [List.getElem?_toArray, List.getElem?_cons_succ, List.getElem?_cons_zero]; try rfl)
          case hQ17x => exact fun _ _ _ h => h
          case hw17x => rfl
          case hy17x => (intro w hSw; (try dsimp only at hSw); go_simp; (first | done | (with_reducible rfl)))
          (try simp only [Act.put, List.setIfInBounds_toArray, List.set_cons_zero, List.set_cons_succ])
          refine wpAnyH_take (i := 18) (oi := ?o18x) (v := ?v18x) ?ho18x (by kernel_rfl) (by kernel_rfl) (by kernel_rfl) ?hQ18x (Or.inl ⟨?hw18x, ?hy18x⟩) (by assumption) ?_
          case ho18x => (simp only [List.getElem?_toArray, List.getElem?_cons_succ, List.getElem?_cons_zero]; try rfl)
          case hQ18x => exact fun _ _ _ h => h
          case hw18x => rfl
          case hy18x => (intro w hSw; (try dsimp only at hSw); go_simp; (first | done | (with_reducible rfl)))
          (try simp only [Act.put, List.setIfInBounds_toArray, List.set_cons_zero, List.set_cons_succ])
          refine wpAnyH_take (i := 19) (oi := ?o19x) (v := ?v19x) ?ho19x (by kernel_rfl) (by kernel_rfl) (by kernel_rfl) ?hQ19x (Or.inl ⟨?hw19x, ?hy19x⟩) (by assumption) ?_
          case ho19x => (simp only [List.getElem?_toArray, List.getElem?_cons_succ, List.getElem?_cons_zero]; try rfl)
          case hQ19x => exact fun _ _ _ h => h
          case hw19x => rfl
          case hy19x => (intro w hSw; (try dsimp only at hSw); go_simp; (first | done | (with_reducible rfl)))
          (try simp only [Act.put, List.setIfInBounds_toArray, List.set_cons_zero, List.set_cons_succ])
          refine wpAnyH_take (i := 20) (oi := ?o20x) (v := ?v20x) ?ho20x (by kernel_rfl) (by kernel_rfl) (by kernel_rfl) ?hQ20x (Or.inl ⟨?hw20x, ?hy20x⟩) (by assumption) ?_
          case ho20x => (simp only [List.getElem?_toArray, List.getElem?_cons_succ, List.getElem?_cons_zero]; try rfl)
          case hQ20x => exact fun _ _ _ h => h
          case hw20x => rfl
          case hy20x => (intro w hSw; (try dsimp only at hSw); go_simp; (first | done | (with_reducible rfl)))
          (try simp only [Act.put, List.setIfInBounds_toArray, List.set_cons_zero, List.set_cons_succ])
          refine wpAnyH_take (i := 21) (oi := ?o21x) (v := ?v21x) ?ho21x (by kernel_rfl) (by kernel_rfl) (by kernel_rfl) ?hQ21x (Or.inl ⟨?hw21x, ?hy21x⟩) (by assumption) ?_
          case ho21x => (simp only [List.getElem?_toArray, List.getElem?_cons_succ, List.getElem?_cons_zero]; try rfl)
          case hQ21x => exact fun _ _ _ h => h
          case hw21x => rfl
          case hy21x => (intro w hSw; (try dsimp only at hSw); go_simp; (first | done | (with_reducible rfl)))
          (try simp only [Act.put, List.setIfInBounds_toArray, List.set_cons_zero, List.set_cons_succ])
          refine wpAnyH_take (i := 22) (oi := ?o22x) (v := ?v22x) ?ho22x (by kernel_rfl) (by kernel_rfl) (by kernel_rfl) ?hQ22x (Or.inl ⟨?hw22x, ?hy22x⟩) (by assumption) ?_
          case ho22x => (simp only [List.getElem?_toArray, List.getElem?_cons_succ, List.getElem?_cons_zero]; try rfl)
          case hQ22x => exact fun _ _ _ h => h
          case hw22x => rfl
          case hy22x => (intro w hSw; (try dsimp only at hSw); go_simp; (first | done | (with_reducible rfl)))
          (try simp only [Act.put, List.setIfInBounds_toArray, List.set_cons_zero, List.set_cons_succ])
          refine wpAnyH_take (i := 23) (oi := ?o23x) (v := ?v23x) ?ho23x (by kernel_rfl) (by kernel_rfl) (by kernel_rfl) ?hQ23x (Or.inl ⟨?hw23x, ?hy23x⟩) (by assumption) ?_
          case ho23x => (simp only [List.getElem?_toArray, List.getElem?_cons_succ, List.getElem?_cons_zero]; try rfl)
          case hQ23x => exact fun _ _ _ h => h
          case hw23x => rfl
          case hy23x => (intro w hSw; (try dsimp only at hSw); go_simp; (first | done | (with_reducible rfl)))
          (try simp only [Act.put, List.setIfInBounds_toArray, List.set_cons_zero, List.set_cons_succ])
          refine wpAnyH_take (i := 24) (oi := ?o24x) (v := ?v24x) ?ho24x (by kernel_rfl) (by kernel_rfl) (by kernel_rfl) ?hQ24x (Or.inl ⟨?hw24x, ?hy24x⟩) (by assumption) ?_
          case ho24x => (simp only [List.getElem?_toArray, List.getElem?_cons_succ, List.getElem?_cons_zero]; try rfl)
          case hQ24x => exact fun _ _ _ h => h
          case hw24x => rfl
          case hy24x => (intro w hSw; (try dsimp only at hSw); go_simp; (first | done | (with_reducible rfl)))
          (try simp only [Act.put, List.setIfInBounds_toArray, List.set_cons_zero, List.set_cons_succ])
          refine wpAnyH_take (i := 25) (oi := ?o25x) (v := ?v25x) ?ho25x (by kernel_rfl) (by kernel_rfl) (by kernel_rfl) ?hQ25x (Or.inl ⟨?hw25x, ?hy25x⟩) (by assumption) ?_
          case ho25x => (simp only [List.getElem?_toArray, List.getElem?_cons_succ, List.getElem?_cons_zero]; try rfl)
          case hQ25x => exact fun _ _ _ h => h
          case hw25x => rfl
          case hy25x => (intro w hSw; (try dsimp only at hSw); go_simp; (first | done | (with_reducible rfl)))
          (try simp only [Act.put, List.setIfInBounds_toArray, List.set_cons_zero, List.set_cons_succ])
          refine wpAnyH_take (i := 26) (oi := ?o26x) (v := ?v26x) ?ho26x (by kernel_rfl) (by kernel_rfl) (by kernel_rfl) ?hQ26x (Or.inl ⟨?hw26x, ?hy26x⟩) (by assumption) ?_
          case ho26x => (simp only [List.getElem?_toArray, List.getElem?_cons_succ, List.getElem?_cons_zero]; try rfl)
          case hQ26x => exact fun _ _ _ h => h
          case hw26x => rfl
          case hy26x => (intro w hSw; (try dsimp only at hSw); go_simp; (first | done | (with_reducible rfl)))
          (try simp only [Act.put, List.setIfInBounds_toArray, List.set_cons_zero, List.set_cons_succ])
          refine wpAnyH_take (i := 27) (oi := ?o27x) (v := ?v27x) ?ho27x (by kernel_rfl) (by kernel_rfl) (by kernel_rfl) ?hQ27x (Or.inl ⟨?hw27x, ?hy27x⟩) (by assumption) ?_
          case ho27x => (simp only [List.getElem?_toArray, List.getElem?_cons_succ, List.getElem?_cons_zero]; try rfl)
          case hQ27x => exact fun _ _ _ h => h
          case hw27x => rfl
          case hy27x => (intro w hSw; (try dsimp only at hSw); go_simp; (first | done | (with_reducible rfl)))
          (try simp only [Act.put, List.setIfInBounds_toArray, List.set_cons_zero, List.set_cons_succ])
          refine wpAnyH_take (i := 28) (oi := ?o28x) (v := ?v28x) ?ho28x (by kernel_rfl) (by kernel_rfl) (by kernel_rfl) ?hQ28x (Or.inl ⟨?hw28x, ?hy28x⟩) (by assumption) ?_
          case ho28x => (simp only [List.getElem?_toArray, List.getElem?_cons_succ, List.getElem?_cons_zero]; try rfl)
          case hQ28x => exact fun _ _ _ h => h
          case hw28x => rfl
          case hy28x => (intro w hSw; (try dsimp only at hSw); go_simp; (first | done | (with_reducible rfl)))
          (try simp only [Act.put, List.setIfInBounds_toArray, List.set_cons_zero, List.set_cons_succ])
          refine wpAnyH_take (i := 29) (oi := ?o29x) (v := ?v29x) ?ho29x (by kernel_rfl) (by kernel_rfl) (by kernel_rfl) ?hQ29x (Or.inl ⟨?hw29x, ?hy29x⟩) (by assumption) ?_
          case ho29x => (simp only [List.getElem?_toArray, List.getElem?_cons_succ, List.getElem?_cons_zero]; try rfl)
          case hQ29x => exact fun _ _ _ h => h
          case hw29x => rfl
          case hy29x => (intro w hSw; (try dsimp only at hSw); go_simp; (first | done | (with_reducible rfl)))
          (try simp only [Act.put, List.setIfInBounds_toArray, List.set_cons_zero, List.set_cons_succ])
          refine wpAnyH_take (i := 30) (oi := ?o30x) (v := ?v30x) ?ho30x (by kernel_rfl) (by kernel_rfl) (by kernel_rfl) ?hQ30x (Or.inl ⟨?hw30x, ?hy30x⟩) (by assumption) ?_
          case ho30x => (simp only [List.getElem?_toArray, List.getElem?_cons_succ, List.getElem?_cons_zero]; try rfl)
          case hQ30x => exact fun _ _ _ h => h
          case hw30x => rfl
          case hy30x => (intro w hSw; (try dsimp only at hSw); go_simp; (first | done | (with_reducible rfl)))
          (try simp only [Act.put, List.setIfInBounds_toArray, List.set_cons_zero, List.set_cons_succ])
          refine wpAnyH_take (i := 33) (oi := ?o33x) (v := ?v33x) ?ho33x (by kernel_rfl) (by kernel_rfl) (by kernel_rfl) ?hQ33x (Or.inl ⟨?hw33x, ?hy33x⟩) (by assumption) ?_
          case ho33x => (simp only [List.getElem?_toArray, List.getElem?_cons_succ, List.getElem?_cons_zero]; try rfl)
          case hQ33x => exact fun _ _ _ h => h
          case hw33x => rfl
          case hy33x => (intro w hSw; (try dsimp only at hSw); go_simp; (first | done | (with_reducible rfl)))
          (try simp only [Act.put, List.setIfInBounds_toArray, List.set_cons_zero, List.set_cons_succ])
          refine wpAnyH_take (i := 34) (oi := ?o34x) (v := ?v34x) ?ho34x (by kernel_rfl) (by kernel_rfl) (by kernel_rfl) ?hQ34x (Or.inl ⟨?hw34x, ?hy34x⟩) (by assumption) ?_
          case ho34x => (simp only [List.getElem?_toArray, List.getElem?_cons_succ, List.getElem?_cons_zero]; try rfl)
          case hQ34x => exact fun _ _ _ h => h
          case hw34x => rfl
          case hy34x => (intro w hSw; (try dsimp only at hSw); go_simp; (first | done | (with_reducible rfl)))
          (try simp only [Act.put, List.setIfInBounds_toArray, List.set_cons_zero, List.set_cons_succ])
          refine wpAnyH_take (i := 35) (oi := ?o35x) (v := ?v35x) ?ho35x (by kernel_rfl) (by kernel_rfl) (by kernel_rfl) ?hQ35x (Or.inl ⟨?hw35x, ?hy35x⟩) (by assumption) ?_
          case ho35x => (simp only [List.getElem?_toArray, List.getElem?_cons_succ, List.getElem?_cons_zero]; try rfl)
          case hQ35x => exact fun _ _ _ h => h
          case hw35x => rfl
          case hy35x => (intro w hSw; (try dsimp only at hSw); go_simp; (first | done | (with_reducible rfl)))
          (try simp only [Act.put, List.setIfInBounds_toArray, List.set_cons_zero, List.set_cons_succ])
          refine wpAnyH_take (i := 36) (oi := ?o36x) (v := ?v36x) ?ho36x (by kernel_rfl) (by kernel_rfl) (by kernel_rfl) ?hQ36x (Or.inl ⟨?hw36x, ?hy36x⟩) (by assumption) ?_
          case ho36x => (simp only [List.getElem?_toArray, List.getElem?_cons_succ, List.getElem?_cons_zero]; try rfl)
          case hQ36x => exact fun _ _ _ h => h
          case hw36x => rfl
          case hy36x => (intro w hSw; (try dsimp only at hSw); go_simp; (first | done | (with_reducible rfl)))
          (try simp only [Act.put, List.setIfInBounds_toArray, List.set_cons_zero, List.set_cons_succ])
          refine wpAnyH_take (i := 37) (oi := ?o37x) (v := ?v37x) ?ho37x (by kernel_rfl) (by kernel_rfl) (by kernel_rfl) ?hQ37x (Or.inl ⟨?hw37x, ?hy37x⟩) (by assumption) ?_
          case ho37x => (simp only [List.getElem?_toArray, List.getElem?_cons_succ, List.getElem?_cons_zero]; try rfl)
          case hQ37x => exact fun _ _ _ h => h
          case hw37x => rfl
          case hy37x => (intro w hSw; (try dsimp only at hSw); go_simp; (first | done | (with_reducible rfl)))
          (try simp only [Act.put, List.setIfInBounds_toArray, List.set_cons_zero, List.set_cons_succ])
          refine wpAnyH_ready (rs := [31]) (by kernel_rfl) (by simp) ?_
          refine (AllReadyH.cons (i := 31) (o := ?o31y) ?ho31y (fun K hK => ?_) AllReadyH.nil)
          case ho31y => (simp only [List.getElem?_toArray, List.getElem?_cons_succ, List.getElem?_cons_zero]; try rfl)
          go_simp
          go_at_call 66
          refine (HU.out _ (Below.drew (Below.refl _ _))).mono ?_
          rintro e wU ⟨vU, rfl, rU, bU⟩
          have bUU := below_step (Below.drew (Below.refl w.heap.size w)) bU
          obtain ⟨AU, cU, rfl, lU, gU⟩ := Kd.R_reads rU
          clear gU lU rU
          refine hK.out _ _ (HC.out _ bUU) (fun _ => ?_)
          clear hK K
          (try simp only [Act.put, List.setIfInBounds_toArray, List.set_cons_zero, List.set_cons_succ])
          refine wpAnyH_take (i := 32) (oi := ?o32x) (v := ?v32x) ?ho32x (by kernel_rfl) (by kernel_rfl) (by kernel_rfl) ?hQ32x (Or.inl ⟨?hw32x, ?hy32x⟩) (by assumption) ?_
          case ho32x => (simp only [List.getElem?_toArray, List.getElem?_cons_succ, List.getElem?_cons_zero]; try rfl)
          case hQ32x => exact fun _ _ _ h => h
          case hw32x => rfl
          case hy32x => (intro w hSw; (try dsimp only at hSw); go_simp; (first | done | (with_reducible rfl)))
          (try simp only [Act.put, List.setIfInBounds_toArray, List.set_cons_zero, List.set_cons_succ])
          refine wpAnyH_take (i := 38) (oi := ?o38x) (v := ?v38x) ?ho38x (by kernel_rfl) (by kernel_rfl) (by kernel_rfl) ?hQ38x (Or.inl ⟨?hw38x, ?hy38x⟩) (by assumption) ?_
          case ho38x => (simp only [List.getElem?_toArray, List.getElem?_cons_succ, List.getElem?_cons_zero]; try rfl)
          case hQ38x => exact fun _ _ _ h => h
          case hw38x => rfl
          case hy38x => (intro w hSw; (try dsimp only at hSw); go_simp; (first | done | (with_reducible rfl)))
          (try simp only [Act.put, List.setIfInBounds_toArray, List.set_cons_zero, List.set_cons_succ])
          refine wpAnyH_take (i := 39) (oi := ?o39x) (v := ?v39x) ?ho39x (by kernel_rfl) (by kernel_rfl) (by kernel_rfl) ?hQ39x (Or.inl ⟨?hw39x, ?hy39x⟩) (by assumption) ?_
          case ho39x => (simp only [List.getElem?_toArray, List.getElem?_cons_succ, List.getElem?_cons_zero]; try rfl)
          case hQ39x => exact fun _ _ _ h => h
          case hw39x => rfl
          case hy39x => (intro w hSw; (try dsimp only at hSw); go_simp; (first | done | (with_reducible rfl)))
          (try simp only [Act.put, List.setIfInBounds_toArray, List.set_cons_zero, List.set_cons_succ])
          refine wpAnyH_take (i := 40) (oi := ?o40x) (v := ?v40x) ?ho40x (by kernel_rfl) (by kernel_rfl) (by kernel_rfl) ?hQ40x (Or.inl ⟨?hw40x, ?hy40x⟩) (by assumption) ?_
          case ho40x => (simp only [List.getElem?_toArray, List.getElem?_cons_succ, List.getElem?_cons_zero]; try rfl)
          case hQ40x => exact fun _ _ _ h => h
          case hw40x => rfl
          case hy40x => (intro w hSw; (try dsimp only at hSw); go_simp; (first | done | (with_reducible rfl)))
          (try simp only [Act.put, List.setIfInBounds_toArray, List.set_cons_zero, List.set_cons_succ])
          refine wpAnyH_done (by kernel_rfl) ?_ _
          have HBU := hide bUU
          clear bUU bU
          go_wp2_with fail
          go_ret
          exact ⟨rfl, HBU.out⟩
    | false =>
      cases e13 : (x1 == 2) with
      | true =>
        cases e12 : (x2.toList == []) with
        | true =>
          go_enter Try.func50, Try.ntmps50
          go_upto_region 3 with fail
          first | go_quiet (fail) | fail
          go_wp2_with fail
          go_ret
          exact ⟨rfl, by first | exact Drawn0.below ⟨⟨_, rfl⟩⟩ | exact Below.refl _ _⟩
        | false =>
          cases e14 : (x4.toList == []) with
          | false =>
            go_enter Try.func50, Try.ntmps50
            go_upto_region 3 with fail
            first | go_quiet (fail) | fail
            go_wp2_with fail
            go_ret
            exact ⟨rfl, by first | exact Drawn0.below ⟨⟨_, rfl⟩⟩ | exact Below.refl _ _⟩
          | true =>
            go_enter Try.func50, Try.ntmps50
            go_upto_region 3 with fail
            first | go_region_held3 (fun W => W.cell? p = some (.int .i64 x0) ∧ W.cell? ⟨p.block, p.off + 1, none⟩ = some (.int .i64 x1) ∧ W.cell? ⟨p.block, p.off + 2, none⟩ = some (.string x2) ∧ W.cell? ⟨p.block, p.off + 3, none⟩ = some (.slice A3 n3 c3) ∧ W.cell? ⟨p.block, p.off + 4, none⟩ = some (.string x4)) (first | exact HC.out _ (Below.drew (Below.refl _ _)) | exact HC.out _ bUU) (first | (go_at_call 66; (with_reducible refine (HU.out _ (Below.drew (Below.refl _ _))).mono ?_); rintro e wU ⟨vU, rfl, rU, bU⟩; have bUU := below_step (Below.drew (Below.refl w.heap.size w)) bU; obtain ⟨AU, cU, rfl, lU, gU⟩ := Kd.R_reads rU; clear gU lU)) | fail
            all_goals
              have HBU := hide bUU
              clear bUU bU
              go_wp2_with fail
              go_ret
              exact ⟨rfl, HBU.out⟩
      | false =>
        go_enter Try.func50, Try.ntmps50
        go_upto_region 3 with fail
        first | go_quiet (fail) | fail
        go_wp2_with fail
        go_ret
        exact ⟨rfl, by first | exact Drawn0.below ⟨⟨_, rfl⟩⟩ | exact Below.refl _ _⟩
  | false =>
    cases k4 : (x0 == 4) with
    | true =>
      cases e0 : (x1 == 0) with
      | false =>
        go_enter Try.func50, Try.ntmps50
        go_wp2_with fail
        go_ret
        exact ⟨rfl, Below.refl _ _⟩
      | true =>
        cases e1 : (x2.toList == []) with
        | false =>
          go_enter Try.func50, Try.ntmps50
          go_wp2_with fail
          go_ret
          exact ⟨rfl, Below.refl _ _⟩
        | true =>
          cases e2 : ((n3 : Int) == 0) with
          | false =>
            go_enter Try.func50, Try.ntmps50
            go_wp2_with fail
            go_ret
            exact ⟨rfl, Below.refl _ _⟩
          | true =>
            cases e3 : (x4.toList == []) with
            | false =>
              cases e4 : ((n5 : Int) == 0) with
              | false =>
                go_enter Try.func50, Try.ntmps50
                go_wp2_with fail
                go_ret
                exact ⟨rfl, Below.refl _ _⟩
              | true =>
                go_enter Try.func50, Try.ntmps50
                go_wp2_with fail
                go_ret
                exact ⟨rfl, Below.refl _ _⟩
            | true =>
              go_enter Try.func50, Try.ntmps50
              go_wp2_with fail
              go_ret
              exact ⟨rfl, Below.refl _ _⟩
    | false =>
      cases k5 : (x0 == 5) with
      | true =>
        cases e0 : (x1 == 0) with
        | false =>
          go_enter Try.func50, Try.ntmps50
          go_wp2_with fail
          go_ret
          exact ⟨rfl, Below.refl _ _⟩
        | true =>
          cases e1 : (x2.toList == []) with
          | false =>
            go_enter Try.func50, Try.ntmps50
            go_wp2_with fail
            go_ret
            exact ⟨rfl, Below.refl _ _⟩
          | true =>
            cases e2 : ((n3 : Int) == 0) with
            | false =>
              go_enter Try.func50, Try.ntmps50
              go_wp2_with fail
              go_ret
              exact ⟨rfl, Below.refl _ _⟩
            | true =>
              cases e3 : ((n5 : Int) == 0) with
              | false =>
                go_enter Try.func50, Try.ntmps50
                go_wp2_with fail
                go_ret
                exact ⟨rfl, Below.refl _ _⟩
              | true =>
                go_enter Try.func50, Try.ntmps50
                go_wp2_with fail
                go_ret
                exact ⟨rfl, Below.refl _ _⟩
      | false =>
        cases k2 : (x0 == 2) with
        | true =>
          cases e0 : (x1 == 0) with
          | false =>
            go_enter Try.func50, Try.ntmps50
            go_wp2_with fail
            go_ret
            exact ⟨rfl, Below.refl _ _⟩
          | true =>
            cases e1 : ((n3 : Int) == 0) with
            | false =>
              go_enter Try.func50, Try.ntmps50
              go_wp2_with fail
              go_ret
              exact ⟨rfl, Below.refl _ _⟩
            | true =>
              cases e2 : (x4.toList == []) with
              | false =>
                go_enter Try.func50, Try.ntmps50
                go_wp2_with fail
                go_ret
                exact ⟨rfl, Below.refl _ _⟩
              | true =>
                cases e3 : ((n5 : Int) == 0) with
                | false =>
                  go_enter Try.func50, Try.ntmps50
                  go_wp2_with fail
                  go_ret
                  exact ⟨rfl, Below.refl _ _⟩
                | true =>
                  go_enter Try.func50, Try.ntmps50
                  go_wp2_with fail
                  go_ret
                  exact ⟨rfl, Below.refl _ _⟩
        | false =>
          cases k1 : (x0 == 1) with
          | true =>
            cases e0 : (x1 == 0) with
            | false =>
              go_enter Try.func50, Try.ntmps50
              go_wp2_with fail
              go_ret
              exact ⟨rfl, Below.refl _ _⟩
            | true =>
              cases e1 : (x2.toList == []) with
              | false =>
                go_enter Try.func50, Try.ntmps50
                go_wp2_with fail
                go_ret
                exact ⟨rfl, Below.refl _ _⟩
              | true =>
                cases e2 : ((n3 : Int) == 0) with
                | false =>
                  go_enter Try.func50, Try.ntmps50
                  go_wp2_with fail
                  go_ret
                  exact ⟨rfl, Below.refl _ _⟩
                | true =>
                  cases e3 : (x4.toList == []) with
                  | false =>
                    go_enter Try.func50, Try.ntmps50
                    go_wp2_with fail
                    go_ret
                    exact ⟨rfl, Below.refl _ _⟩
                  | true =>
                    go_enter Try.func50, Try.ntmps50
                    go_wp2_with fail
                    go_ret
                    exact ⟨rfl, Below.refl _ _⟩
          | false =>
            cases k6 : (x0 == 6) with
            | true =>
              cases e0 : (x1 == 0) with
              | false =>
                go_enter Try.func50, Try.ntmps50
                go_wp2_with fail
                go_ret
                exact ⟨rfl, Below.refl _ _⟩
              | true =>
                cases e1 : (x2.toList == []) with
                | false =>
                  go_enter Try.func50, Try.ntmps50
                  go_wp2_with fail
                  go_ret
                  exact ⟨rfl, Below.refl _ _⟩
                | true =>
                  cases e2 : ((n3 : Int) == 0) with
                  | false =>
                    go_enter Try.func50, Try.ntmps50
                    go_wp2_with fail
                    go_ret
                    exact ⟨rfl, Below.refl _ _⟩
                  | true =>
                    cases e3 : (x4.toList == []) with
                    | false =>
                      go_enter Try.func50, Try.ntmps50
                      go_wp2_with fail
                      go_ret
                      exact ⟨rfl, Below.refl _ _⟩
                    | true =>
                      go_enter Try.func50, Try.ntmps50
                      go_wp2_with fail
                      go_ret
                      exact ⟨rfl, Below.refl _ _⟩
            | false =>
              go_enter Try.func50, Try.ntmps50
              go_wp2_with fail
              go_ret
              exact ⟨rfl, Below.refl _ _⟩
end Go.Proofs.Ytaponaemgolmoaa.Tr
namespace Go.Proofs.Ytaponaemgolmoaa.Tr
open Go.RowKit Go.Proofs.Ytaponaemgolmoaa.PTreeTells Go.Proofs.YtaponaemgolmoaaW.PrintWords Go.Proofs.YtaponaemgolmoaaW.PrintLast
set_option linter.unusedVariables false
set_option linter.unusedSimpArgs false
/-- Whether a kid of this kind may stand here. -/
def kidOk (tm : Bool) (k0 : Int) (first : Bool) (was kind : Int) : Bool :=
  if kind == 1 then false else if kind == 6 then first && tm else if kind == 4 then !(was == kind || k0 == 1) else if kind == 2 then k0 == 1 else true
def kidsFrom (tm : Bool) (k0 : Int) : Bool → Int → List S26 → Bool
  | _, _, [] => true
  | first, was, x :: l => kidOk tm k0 first was x.f0 && kidsFrom tm k0 false x.f0 l
def kidsB (x : S26) : Bool :=
  if templB x && ((x.f5.length : Int) == 0 || !((rd_T26 x.f5 0).f0 == 6)) then false else kidsFrom (templB x) x.f0 true 0 x.f5
theorem kidsFrom_step (tm : Bool) (k0 ws : Int) (l : List S26) (k : Nat) (h : k < l.length) : kidsFrom tm k0 (k == 0) ws (l.drop k) = (kidOk tm k0 (k == 0) ws (rd_T26 l (k : Int)).f0 && kidsFrom tm k0 ((k + 1) == 0) (rd_T26 l (k : Int)).f0 (l.drop (k + 1))) := by
  rw [rd26 l k h, kidsFrom]
  rfl
set_option maxHeartbeats 8000000 in
set_option maxRecDepth 100000 in
theorem kidsW (p : Addr) (x : S26) (w : World) (hT : TAt w p x) (hn : x.f5.length ≤ 1000000000) :
    Calls Try.prog 51 #[.pointer (some p)] w fun e w' => e = .returned (.bool (kidsB x)) ∧ w' = w := by
  have HT := hide (templ p x w hT)
  obtain ⟨A3, c3, A5, c5, h0, h1, h2, h3, h4, h5, l3, g3, l5, g5⟩ := hT
  have HKID := hide (fun i (hi : i < x.f5.length) => TAt_kid g5 i hi)
  unfold kidsB
  obtain ⟨tm, htm⟩ : ∃ b, templB x = b := ⟨_, rfl⟩
  rw [htm] at HT ⊢
  obtain ⟨x0, x1, x2, x3, x4, x5⟩ := x
  dsimp only at *
  obtain ⟨n5, hn5⟩ : ∃ n : Nat, x5.length = n := ⟨_, rfl⟩
  have HN := hide hn5
  rw [hn5] at h5 HKID hn ⊢
  obtain ⟨res, hres⟩ : ∃ b, kidsFrom tm x0 true 0 x5 = b := ⟨_, rfl⟩
  rw [hres]
  have HRES := hide hres
  clear g3 g5 l3 l5 hn5 htm hres h1 h2 h3 h4
  cases tm with
  | false =>
    go_enter Try.func51, Try.ntmps51
    go_wp2_with fail
    refine HT.out.mono ?_
    rintro e w1 ⟨rfl, rfl⟩
    dsimp only
    go_wp2_with fail
    go_loopw [3, 4, 5, 31] (fun vw _ _ vi wr => ∃ (k : Nat) (ws : Int), k ≤ n5 ∧ vi = .int .i64 k ∧ vw = .int .i64 ws ∧ Aside0 (kidsFrom false x0 (k == 0) ws (x5.drop k) = res) ∧ wr = w1) (fun _ _ _ vi _ => n5 - (intOf vi).toNat)
    case atStart => exact ⟨0, 0, by omega, rfl, rfl, ⟨HRES.out⟩, rfl⟩
    case round =>
      obtain ⟨k, ws, hk, rfl, rfl, HF, rfl⟩ := hrel
      clear HRES
      by_cases hlt : k < n5
      · have hkl : k < x5.length := by rw [HN.out]; exact hlt
        have hstep := kidsFrom_step false x0 ws x5 k hkl
        obtain ⟨ad, hA, hkt⟩ := HKID.out k hlt
        first | subst hA | (have hA2 := (Option.some.inj hA).symm; subst hA2)
        obtain ⟨B3, d3, B5, d5, i0, -⟩ := hkt
        rw [HF.out] at hstep
        obtain ⟨kd, hkd⟩ : ∃ z, (rd_T26 x5 (k : Int)).f0 = z := ⟨_, rfl⟩
        rw [hkd] at hstep i0
        unfold kidOk at hstep
        have HS := hide hstep
        clear hkd hstep
        have k0 : (0 : Int) ≤ (k : Int) := by omega
        have k1 : (k : Int) < (n5 : Int) := by omega
        cases q1 : (kd == 1) with
        | true =>
          go_wp2_with fail
          go_ret
          exact ⟨by rw [HS.out]; simp [q1], rfl⟩
        | false =>
          cases q6 : (kd == 6) with
          | true =>
            by_cases hz : k = 0
            · subst hz
              have i00 : wr.cell? ad = some (.int .i64 kd) := by first | simpa using i0 | simpa [Addr.add] using i0
              go_wp2_with (first | (go_at_call 67; (with_reducible refine HT.out.mono ?_); rintro e wT ⟨rfl, rfl⟩; dsimp only))
              go_wp2_with fail
              go_ret
              exact ⟨by rw [HS.out]; simp [q1, q6], rfl⟩
            · have hz1 : (0 : Int) < (k : Int) := by omega
              go_wp2_with fail
              go_ret
              exact ⟨by rw [HS.out]; simp [q1, q6, hz], rfl⟩
          | false =>
            cases q4 : (kd == 4) with
            | true =>
              cases qw : (ws == kd) with
              | true =>
                go_wp2_with fail
                go_ret
                exact ⟨by rw [HS.out]; simp [q1, q6, q4, qw], rfl⟩
              | false =>
                cases qx : (x0 == 1) with
                | true =>
                  go_wp2_with fail
                  go_ret
                  exact ⟨by rw [HS.out]; simp [q1, q6, q4, qw, qx], rfl⟩
                | false =>
                  go_wp2_with fail
                  go_roundw
                  case rel => exact ⟨k + 1, kd, by omega, by go_num, by first | rfl | trivial, ⟨by rw [HS.out]; simp [q1, q6, q4, qw, qx]⟩, by first | rfl | trivial⟩
                  case measure => simp only [intOf]; omega
            | false =>
              cases q2 : (kd == 2) with
              | true =>
                cases qx : (x0 == 1) with
                | false =>
                  go_wp2_with fail
                  go_ret
                  exact ⟨by rw [HS.out]; simp [q1, q6, q4, q2, qx], rfl⟩
                | true =>
                  go_wp2_with fail
                  go_roundw
                  case rel => exact ⟨k + 1, kd, by omega, by go_num, by first | rfl | trivial, ⟨by rw [HS.out]; simp [q1, q6, q4, q2, qx]⟩, by first | rfl | trivial⟩
                  case measure => simp only [intOf]; omega
              | false =>
                go_wp2_with fail
                go_roundw
                case rel => exact ⟨k + 1, kd, by omega, by go_num, by first | rfl | trivial, ⟨by rw [HS.out]; simp [q1, q6, q4, q2]⟩, by first | rfl | trivial⟩
                case measure => simp only [intOf]; omega
      · have hke : x5.drop k = [] := List.drop_of_length_le (by rw [HN.out]; omega)
        have hr := HF.out
        rw [hke, kidsFrom] at hr
        subst hr
        clear hke
        have k1 : ¬ (k : Int) < (n5 : Int) := by omega
        go_wp2_with fail
        go_ret
        exact ⟨rfl, rfl⟩
  | true =>
    cases qn : ((n5 : Int) == 0) with
    | true =>
      go_enter Try.func51, Try.ntmps51
      go_wp2_with fail
      refine HT.out.mono ?_
      rintro e w1 ⟨rfl, rfl⟩
      dsimp only
      go_wp2_with fail
      go_ret
      exact ⟨rfl, rfl⟩
    | false =>
      have hpos : 0 < n5 := by simp at qn; omega
      obtain ⟨ad, hA, hkt⟩ := HKID.out 0 hpos
      subst hA
      obtain ⟨B3, d3, B5, d5, i0, -⟩ := hkt
      rw [show ((0 : Nat) : Int) = (0 : Int) from rfl] at i0
      obtain ⟨kd, hkd⟩ : ∃ z, (rd_T26 x5 0).f0 = z := ⟨_, rfl⟩
      rw [hkd] at i0 ⊢
      have i00 : w.cell? ad = some (.int .i64 kd) := by first | simpa using i0 | simpa [Addr.add] using i0
      clear hkd
      have kp : (0 : Int) < (n5 : Int) := by omega
      cases q : (kd == 6) with
      | false =>
        go_enter Try.func51, Try.ntmps51
        go_wp2_with fail
        refine HT.out.mono ?_
        rintro e w1 ⟨rfl, rfl⟩
        dsimp only
        go_wp2_with fail
        go_ret
        exact ⟨rfl, rfl⟩
      | true =>
        go_enter Try.func51, Try.ntmps51
        go_wp2_with fail
        refine HT.out.mono ?_
        rintro e w1 ⟨rfl, rfl⟩
        dsimp only
        go_wp2_with fail
        clear i0 i00 q
        go_loopw [3, 4, 5, 31] (fun vw _ _ vi wr => ∃ (k : Nat) (ws : Int), k ≤ n5 ∧ vi = .int .i64 k ∧ vw = .int .i64 ws ∧ Aside0 (kidsFrom true x0 (k == 0) ws (x5.drop k) = res) ∧ wr = w1) (fun _ _ _ vi _ => n5 - (intOf vi).toNat)
        case atStart => exact ⟨0, 0, by omega, rfl, rfl, ⟨HRES.out⟩, rfl⟩
        case round =>
          obtain ⟨k, ws, hk, rfl, rfl, HF, rfl⟩ := hrel
          clear HRES
          by_cases hlt : k < n5
          · have hkl : k < x5.length := by rw [HN.out]; exact hlt
            have hstep := kidsFrom_step true x0 ws x5 k hkl
            obtain ⟨ad, hA, hkt⟩ := HKID.out k hlt
            first | subst hA | (have hA2 := (Option.some.inj hA).symm; subst hA2)
            obtain ⟨B3, d3, B5, d5, i0, -⟩ := hkt
            rw [HF.out] at hstep
            obtain ⟨kd, hkd⟩ : ∃ z, (rd_T26 x5 (k : Int)).f0 = z := ⟨_, rfl⟩
            rw [hkd] at hstep i0
            unfold kidOk at hstep
            have HS := hide hstep
            clear hkd hstep
            have k0 : (0 : Int) ≤ (k : Int) := by omega
            have k1 : (k : Int) < (n5 : Int) := by omega
            cases q1 : (kd == 1) with
            | true =>
              go_wp2_with fail
              go_ret
              exact ⟨by rw [HS.out]; simp [q1], rfl⟩
            | false =>
              cases q6 : (kd == 6) with
              | true =>
                by_cases hz : k = 0
                · subst hz
                  have i00 : wr.cell? ad = some (.int .i64 kd) := by first | simpa using i0 | simpa [Addr.add] using i0
                  go_wp2_with (first | (go_at_call 67; (with_reducible refine HT.out.mono ?_); rintro e wT ⟨rfl, rfl⟩; dsimp only))
                  go_wp2_with fail
                  go_roundw
                  case rel => exact ⟨0 + 1, kd, by omega, by go_num, by first | rfl | trivial, ⟨by rw [HS.out]; simp [q1, q6]⟩, by first | rfl | trivial⟩
                  case measure => simp only [intOf]; omega
                · have hz1 : (0 : Int) < (k : Int) := by omega
                  go_wp2_with fail
                  go_ret
                  exact ⟨by rw [HS.out]; simp [q1, q6, hz], rfl⟩
              | false =>
                cases q4 : (kd == 4) with
                | true =>
                  cases qw : (ws == kd) with
                  | true =>
                    go_wp2_with fail
                    go_ret
                    exact ⟨by rw [HS.out]; simp [q1, q6, q4, qw], rfl⟩
                  | false =>
                    cases qx : (x0 == 1) with
                    | true =>
                      go_wp2_with fail
                      go_ret
                      exact ⟨by rw [HS.out]; simp [q1, q6, q4, qw, qx], rfl⟩
                    | false =>
                      go_wp2_with fail
                      go_roundw
                      case rel => exact ⟨k + 1, kd, by omega, by go_num, by first | rfl | trivial, ⟨by rw [HS.out]; simp [q1, q6, q4, qw, qx]⟩, by first | rfl | trivial⟩
                      case measure => simp only [intOf]; omega
                | false =>
                  cases q2 : (kd == 2) with
                  | true =>
                    cases qx : (x0 == 1) with
                    | false =>
                      go_wp2_with fail
                      go_ret
                      exact ⟨by rw [HS.out]; simp [q1, q6, q4, q2, qx], rfl⟩
                    | true =>
                      go_wp2_with fail
                      go_roundw
                      case rel => exact ⟨k + 1, kd, by omega, by go_num, by first | rfl | trivial, ⟨by rw [HS.out]; simp [q1, q6, q4, q2, qx]⟩, by first | rfl | trivial⟩
                      case measure => simp only [intOf]; omega
                  | false =>
                    go_wp2_with fail
                    go_roundw
                    case rel => exact ⟨k + 1, kd, by omega, by go_num, by first | rfl | trivial, ⟨by rw [HS.out]; simp [q1, q6, q4, q2]⟩, by first | rfl | trivial⟩
                    case measure => simp only [intOf]; omega
          · have hke : x5.drop k = [] := List.drop_of_length_le (by rw [HN.out]; omega)
            have hr := HF.out
            rw [hke, kidsFrom] at hr
            subst hr
            clear hke
            have k1 : ¬ (k : Int) < (n5 : Int) := by omega
            go_wp2_with fail
            go_ret
            exact ⟨rfl, rfl⟩
end Go.Proofs.Ytaponaemgolmoaa.Tr
namespace Go.Proofs.Ytaponaemgolmoaa.Tr
open Go.RowKit Go.Proofs.Ytaponaemgolmoaa.PTreeTells Go.Proofs.YtaponaemgolmoaaW.PrintWords Go.Proofs.YtaponaemgolmoaaW.PrintLast
set_option linter.unusedVariables false
set_option linter.unusedSimpArgs false
/-- Nothing is kept. -/
def Free (b : Nat) (done : List (S26 × Nat)) (W : World) : Prop := b < W.heap.size
def rightG (p : S26 × Nat) : Bool := fieldsB p.1 && kidsB p.1
set_option maxHeartbeats 2000000 in
set_option maxRecDepth 100000 in
theorem see49 (b : Nat) (w0 : World) (t : S26) (hN : ∀ p ∈ pre t 1, p.1.f3.length ≤ 1000000 ∧ p.1.f5.length ≤ 1000000000) : SeeOk 49 #[] b (Free b) rightG w0 t := by
  intro done x d ad W hrest hP hT hd hsz
  have hmem : (x, d) ∈ pre t 1 := by
    obtain ⟨rest, hr⟩ := hrest
    rw [← hr]
    simp
  obtain ⟨hx3, hx5⟩ := hN _ hmem
  have b1 := below_alloc (Below.refl W.heap.size W) (.cells #[.pointer (some ad), .int .i64 (d : Int)] 57)
  have hgn := heap_alloc_new W (.cells #[.pointer (some ad), .int .i64 (d : Int)] 57)
  obtain ⟨w1, hw1⟩ : ∃ y, W.alloc (.cells #[.pointer (some ad), .int .i64 (d : Int)] 57) = y := ⟨_, rfl⟩
  rw [hw1] at b1 hgn
  have hT1 := hT.below b1
  obtain ⟨gp, hgp⟩ : ∃ y, W.heap.size = y := ⟨_, rfl⟩
  rw [hgp] at hgn
  have d0 : w1.cell? ⟨gp, 0, none⟩ = some (.pointer (some ad)) := cell_of_row _ _ 0 _ _ _ hgn
  have HF := hide (fieldsW ad x w1 hT1 hx3)
  have HK := hide (fun W' (h : Below w1.heap.size w1 W') => kidsW ad x W' (hT1.below h) hx5)
  have HC := hide (fun W' (h : Below w1.heap.size w1 W') => cellW d0 h)
  have HW1 := hide hw1
  have HGP := hide hgp
  have HB1 := hide b1
  have HSZ := hide hsz
  have hbW : b < W.heap.size := hP
  have HBW := hide hbW
  unfold rightG
  dsimp only
  obtain ⟨q1, hq1⟩ : ∃ q, fieldsB x = q := ⟨_, rfl⟩
  obtain ⟨q2, hq2⟩ : ∃ q, kidsB x = q := ⟨_, rfl⟩
  rw [hq1] at HF ⊢
  rw [hq2] at HK ⊢
  clear hrest hP hT hmem hx3 hx5 b1 hgn hw1 hT1 hgp hsz hbW hq1 hq2
  show Calls Try.prog 49 #[.agg #[.pointer (some ad), .int .i64 (d : Int)]] W _
  cases q1 with
  | false =>
    go_enter Try.func49, Try.ntmps49
    go_upto_region 1 with fail
    rw [HW1.out, HGP.out]
    go_wp2_with fail
    refine HF.out.mono ?_
    rintro e w2 ⟨rfl, hb2⟩
    dsimp only
    have HB2 := hide (below_step HB1.out hb2)
    clear hb2 HF
    go_wp2_with fail
    go_ret
    exact ⟨rfl, Nat.lt_of_lt_of_le HBW.out HB2.out.size, HB2.out.mono HSZ.out, Beside.of_below HB2.out⟩
  | true =>
    go_enter Try.func49, Try.ntmps49
    go_upto_region 1 with fail
    rw [HW1.out, HGP.out]
    go_wp2_with fail
    refine HF.out.mono ?_
    rintro e w2 ⟨rfl, hb2⟩
    dsimp only
    have d2 := HC.out _ hb2
    have HK2 := hide (HK.out _ hb2)
    have HB2 := hide (below_step HB1.out hb2)
    clear hb2 HF HK HC
    go_wp2_with fail
    refine HK2.out.mono ?_
    rintro e w3 ⟨rfl, rfl⟩
    dsimp only
    go_wp2_with fail
    go_ret
    exact ⟨rfl, Nat.lt_of_lt_of_le HBW.out HB2.out.size, HB2.out.mono HSZ.out, Beside.of_below HB2.out⟩
theorem enter49 (args : Array Value) (W : World) : (callFunc 49 args).run Try.prog W = .ok (.enter 49 args) W := enterF Try.func49 (by kernel_rfl) (by kernel_rfl) args W
def rightB (t : S26) : Bool := t.f0 == 1 && (pre t 1).all rightG
set_option maxHeartbeats 2000000 in
set_option maxRecDepth 100000 in
theorem right (t : S26) (A3 : Option Addr) (c3 : Nat) (A5 : Option Addr) (c5 : Nat) (w : World) (l3 : t.f3.length ≤ c3) (g3 : k33.C w A3 t.f3.length t.f3) (l5 : t.f5.length ≤ c5) (g5 : k26.C w A5 t.f5.length t.f5) (hN : (pre t 1).length ≤ 1000000000) (hM : ∀ p ∈ pre t 1, p.1.f3.length ≤ 1000000 ∧ p.1.f5.length ≤ 1000000000) :
    Calls Try.prog 21 #[.agg #[.int .i64 t.f0, .int .i64 t.f1, .string t.f2, .slice A3 t.f3.length c3, .string t.f4, .slice A5 t.f5.length c5]] w fun e w' => e = .returned (.bool (rightB t)) ∧ Below w.heap.size w w' := by
  have hgn := heap_alloc_new w (.cells #[.int .i64 t.f0, .int .i64 t.f1, .string t.f2, .slice A3 t.f3.length c3, .string t.f4, .slice A5 t.f5.length c5] 26)
  have b1 := below_alloc (Below.refl w.heap.size w) (.cells #[.int .i64 t.f0, .int .i64 t.f1, .string t.f2, .slice A3 t.f3.length c3, .string t.f4, .slice A5 t.f5.length c5] 26)
  have ht := TAt_blk hgn l3 (Kd.C_below g3 b1) l5 (Kd.C_below g5 b1)
  obtain ⟨w1, hw1⟩ : ∃ y, w.alloc (.cells #[.int .i64 t.f0, .int .i64 t.f1, .string t.f2, .slice A3 t.f3.length c3, .string t.f4, .slice A5 t.f5.length c5] 26) = y := ⟨_, rfl⟩
  rw [hw1] at hgn b1 ht
  have hs1 : w1.heap.size = w.heap.size + 1 := by rw [← hw1]; simp
  have hbs : w.heap.size < w1.heap.size := by omega
  have d0 : w1.cell? ⟨w.heap.size, 0, none⟩ = some (.int .i64 t.f0) := cell_of_row _ _ 0 _ _ _ hgn
  have HWALK := hide (walkC 49 #[] w.heap.size (Free w.heap.size) rightG w1 w1 ⟨w.heap.size, 0, none⟩ t ht hN (Below.refl _ _) hbs hbs enter49 (fun _ _ _ h ho => Nat.lt_of_lt_of_le h ho.1) (see49 _ w1 t hM))
  have HW1 := hide hw1
  have HB := hide b1
  have HSZ := hide (show w.heap.size ≤ w1.heap.size from b1.size)
  unfold rightB
  obtain ⟨L, hL⟩ : ∃ L, pre t 1 = L := ⟨_, rfl⟩
  rw [hL] at HWALK
  rw [hL]
  obtain ⟨a0, a1, a2, a3, a4, a5⟩ := t
  dsimp only at HW1 d0 ⊢
  clear hs1 hbs hgn b1 ht hw1 g3 g5 l3 l5 hN hM hL
  cases e0 : (a0 == 1) with
  | false =>
    go_enter Try.func21, Try.ntmps21
    go_upto_region 1 with fail
    rw [HW1.out]
    go_wp2_with fail
    go_ret
    exact ⟨rfl, HB.out⟩
  | true =>
    go_enter Try.func21, Try.ntmps21
    go_upto_region 1 with fail
    rw [HW1.out]
    go_wp2_with fail
    refine HWALK.out.mono ?_
    rintro e w3 ⟨hb3, rfl, -⟩
    dsimp only
    have HB3 := hide (HB.out.trans (hb3.mono HSZ.out))
    clear hb3 HWALK
    go_wp2_with fail
    go_ret
    exact ⟨rfl, HB3.out⟩
end Go.Proofs.Ytaponaemgolmoaa.Tr

/- The walks of slices.Clone, the closure of attrs.find, slices.IndexFunc and attrs.find at attributes. -/
import Derived.Test.YtjebpaapkmbahaaArBase
import Derived.WalkSpells
import Derived.BigQuiet
import Derived.Deep.QuietTactic
import Derived.Below
import Derived.IntWalk
import Derived.WalkLawsBesides
namespace Go.Proofs.Ytjebpaapkmbahaa.Ar
open Go.RowKit Go.Proofs.Ytjebpaapkmbahaa.PArenaPlays Go.Proofs.YtjebpaapkmbahaaW.PrintWords Go.Proofs.YtjebpaapkmbahaaW.PrintLast

/-- A list of attributes that reads so. -/
def Rds (w : World) (A : Option Addr) (c : Nat) (xs : List S62) : Prop := Kd.C k62 w A xs.length xs ∧ xs.length ≤ c
/-- What is handed back is a new row that holds these; what was there is as it was. -/
def RowPost (xs : List S62) (w : World) (e : Ending) (w' : World) : Prop := ∃ v : Value, e = .returned v ∧ Kd.R k62 62 w' w.heap.size (fun _ => True) v xs ∧ Below w.heap.size w w'

set_option maxHeartbeats 400000 in
set_option maxRecDepth 100000 in
theorem clone (A : Option Addr) (c : Nat) (xs : List S62) (w : World) (h : Rds w A c xs) (hn : xs.length * 32 ≤ 140737488351232) :
    Calls Try.prog 51 #[.slice A xs.length c] w (RowPost xs w) := by
  have h0 := @Lib.run_eql_slice_nil Try.prog
  rcases A with _ | ad
  · have hx : xs = [] := by
      cases xs with
      | nil => rfl
      | cons x xs => obtain ⟨_, e, _⟩ := h.1.2.2 (by simp); cases e
    subst hx
    go_enter Try.func51, Try.ntmps51
    go_wp2
    go_ret
    exact ⟨_, rfl, Kd.R_nil _ _ _ _ _, Below.refl _ _⟩
  · have HC := hide h.1
    clear h
    have hR : Kd.R k62 62 (w.alloc (.cells #[] 62)) w.heap.size (fun _ => True) (.slice (some ⟨w.heap.size, 0, none⟩) 0 0) [] :=
      ⟨fun _ _ => trivial, [], by have := World.ownsRow_lit (base := w.heap.size) (e := 62) (size := 2) w #[] 0 (Nat.le_refl _) (by simp) rfl; exact this, Reps.none _ _⟩
    have HR := hide hR
    clear hR
    have HC1 := hide (Kd.C_below HC.out (below_alloc (Below.refl w.heap.size w) (.cells #[] 62)))
    clear HC
    go_enter Try.func51, Try.ntmps51
    go_wp2_with (at_builtin; refine Kd.R_append_rows k62 (Rr := k62.K (w.alloc (.cells #[] 62))) (w0 := w) w.heap.size rfl (.tmp 5) (.tmp 6) 32 62 (.agg #[.string ⟨#[]⟩, .string ⟨#[]⟩]) 32 rfl Try.underlying32 (by kernel_rfl) rfl (by decide) (by decide) _ [] xs (some ad) xs.length c (fun _ => True) (fun _ => False) rfl rfl HR.out HC1.out ?h1 (fun k hk => hk.elim) (fun _ _ => trivial) (below_alloc (Below.refl _ _) _) (by simp) (by simp; omega) ?_; (case h1 => intro x cs hx; rw [k62_open hx]; exact k62_mkM _ _ _ _); intro v1 w1 ho hb hg hown; have HO := hide ho; have HB := hide hb; clear ho hb hg hown)
    go_ret
    exact ⟨_, rfl, by simpa using HO.out, HB.out⟩

set_option maxHeartbeats 400000 in
set_option maxRecDepth 100000 in
theorem eqName (p : Addr) (x : S62) (nm : ByteArray) (w : World) (hc : w.cell? p = some (.string nm)) :
    Calls Try.prog 97 #[.agg #[.string x.f0, .string x.f1], .pointer (some p)] w fun e w' => e = .returned (.bool (x.f0.toList == nm.toList)) ∧ Below w.heap.size w w' := by
  obtain ⟨a, b⟩ := x
  have hp : p.block < w.heap.size := World.block_lt_of_cell? w _ hc
  have hc1 : (w.alloc (.cells #[.string a, .string b] 62)).cell? p = some (.string nm) := by rw [World.cell?_alloc_lt w _ p hp]; exact hc
  dsimp only
  go_enter Try.func97, Try.ntmps97
  go_wp2
  go_ret
  exact ⟨rfl, below_alloc (Below.refl _ _) _⟩

def hit (nm : ByteArray) (x : S62) : Bool := x.f0.toList == nm.toList
def fndFrom (nm : ByteArray) : List S62 → Nat → Int
  | [], _ => -1
  | x :: xs, i => if hit nm x = true then (i : Int) else fndFrom nm xs (i + 1)
/-- The place of the first attribute of a name; -1 of none. -/
def fnd (xs : List S62) (nm : ByteArray) : Int := fndFrom nm xs 0
theorem fnd_step (nm : ByteArray) (xs : List S62) (k : Nat) (h : k < xs.length) : fndFrom nm (xs.drop k) k = if hit nm (xs.getD k z62) = true then (k : Int) else fndFrom nm (xs.drop (k + 1)) (k + 1) := by
  rw [List.drop_eq_getElem_cons h, List.getD_eq_getElem?_getD, List.getElem?_eq_getElem h]
  rfl
theorem fnd_end (nm : ByteArray) (xs : List S62) (k : Nat) (h : xs.length ≤ k) : fndFrom nm (xs.drop k) k = -1 := by
  rw [List.drop_of_length_le h]; rfl

set_option maxHeartbeats 1000000 in
set_option maxRecDepth 100000 in
theorem indexFunc (A : Option Addr) (c : Nat) (xs : List S62) (p : Addr) (nm : ByteArray) (w : World) (h : Rds w A c xs) (hc : w.cell? p = some (.string nm)) :
    Calls Try.prog 96 #[.slice A xs.length c, .func (.func 97) #[] #[.pointer (some p)]] w fun e w' => e = .returned (.int .i64 (fnd xs nm)) ∧ Below w.heap.size w w' := by
  have hp : p.block < w.heap.size := World.block_lt_of_cell? w _ hc
  have HC := hide h.1
  have hlen := h.1.2.1
  clear h
  obtain ⟨n, hn⟩ : ∃ n, xs.length = n := ⟨_, rfl⟩
  have HN := hide hn
  rw [hn] at hlen ⊢
  clear hn
  have HP := hide hc
  clear hc
  go_enter Try.func96, Try.ntmps96
  go_wp2_with fail
  go_loopw [5, 8] (fun _ i wr => ∃ k : Nat, k ≤ n ∧ i = .int .i64 k ∧ Aside0 (fndFrom nm (xs.drop k) k = fnd xs nm) ∧ Aside0 (Below w.heap.size w wr)) (fun _ i _ => n - (intOf i).toNat)
  case atStart => exact ⟨0, by omega, rfl, ⟨rfl⟩, ⟨Below.refl _ _⟩⟩
  case round =>
    obtain ⟨k, hk, rfl, HF, HB⟩ := hrel
    by_cases hlt : k < n
    · have hkl : k < xs.length := by rw [HN.out]; exact hlt
      obtain ⟨ad, hA, hc0, hc1⟩ := at_T62 (Kd.C_below HC.out HB.out) (k : Int) (by omega) (by omega)
      subst hA
      have hstep := fnd_step nm xs k hkl
      rw [HF.out] at hstep
      unfold rd_T62 at hc0 hc1
      rw [Int.toNat_natCast] at hc0 hc1
      obtain ⟨x, hx⟩ : ∃ x, xs.getD k z62 = x := ⟨_, rfl⟩
      rw [hx] at hc0 hc1 hstep
      obtain ⟨a, b⟩ := x
      dsimp only at hc0 hc1
      have HS := hide hstep
      clear hstep hx
      have k1 : (k : Int) < n := by omega
      go_wp2_with fail
      have hpc : wr.cell? p = some (.string nm) := by rw [HB.out.cell hp]; exact HP.out
      refine (eqName p ⟨a, b⟩ nm wr hpc).mono ?_
      rintro e w2 ⟨rfl, hb2⟩
      have HB2 := hide (below_step HB.out hb2)
      clear hb2 hpc
      rw [show ((⟨a, b⟩ : S62).f0.toList == nm.toList) = hit nm ⟨a, b⟩ from rfl]
      obtain ⟨q, hq⟩ : ∃ q, hit nm ⟨a, b⟩ = q := ⟨_, rfl⟩
      have HS2 := HS.out
      rw [hq] at HS2 ⊢
      clear hq HS
      cases q
      · have HS3 := hide HS2
        clear HS2
        dsimp only
        go_wp2_with fail
        go_roundw
        case rel => exact ⟨k + 1, by omega, by go_num, ⟨by have := HS3.out; rw [if_neg (by decide)] at this; exact this.symm⟩, ⟨HB2.out⟩⟩
        case measure => simp only [intOf]; omega
      · have HS3 := hide HS2
        clear HS2
        dsimp only
        go_wp2_with fail
        go_ret
        exact ⟨by rw [HS3.out]; rfl, HB2.out⟩
    · have hke : fndFrom nm (xs.drop k) k = -1 := fnd_end nm xs k (by rw [HN.out]; omega)
      have HK := hide hke
      clear hke
      go_wp2_with fail
      go_ret
      exact ⟨by rw [← HF.out, HK.out]; rfl, HB.out⟩

set_option maxHeartbeats 1000000 in
set_option maxRecDepth 100000 in
theorem find (A : Option Addr) (c : Nat) (xs : List S62) (nm : ByteArray) (w : World) (h : Rds w A c xs) :
    Calls Try.prog 90 #[.slice A xs.length c, .string nm] w fun e w' => e = .returned (.int .i64 (fnd xs nm)) ∧ Below w.heap.size w w' := by
  have h2 : Rds (w.alloc (.cells #[.string nm] 9)) A c xs := ⟨Kd.C_below h.1 (below_alloc (Below.refl _ _) _), h.2⟩
  have H2 := hide h2
  clear h h2
  obtain ⟨z, hz⟩ : ∃ z, fnd xs nm = z := ⟨_, rfl⟩
  rw [hz]
  have HZ := hide hz
  clear hz
  have hc : (w.alloc (.cells #[.string nm] 9)).cell? ⟨w.heap.size, 0, none⟩ = some (.string nm) := by
    rw [cell_of_row _ _ 0 _ 9 (0, 0) (heap_alloc_new _ _)]; rfl
  have HC := hide hc
  clear hc
  go_enter Try.func90, Try.ntmps90
  go_wp2_with (go_at_call 96; (refine (indexFunc A c xs ⟨w.heap.size, 0, none⟩ nm _ H2.out HC.out).mono ?_); rw [HZ.out]; rintro e w2 ⟨rfl, hb2⟩; dsimp only)
  go_ret
  exact ⟨rfl, below_step (below_alloc (Below.refl _ _) _) hb2⟩
def addL (xs : List S62) (x : S62) : List S62 := if fnd xs x.f0 < 0 then xs ++ [x] else xs
def moreL (xs ys : List S62) : List S62 := ys.foldl addL xs
theorem addL_len (xs : List S62) (x : S62) : (addL xs x).length ≤ xs.length + 1 := by
  unfold addL
  split
  · simp
  · omega
theorem moreL_len (xs : List S62) : ∀ ys : List S62, (moreL xs ys).length ≤ xs.length + ys.length := by
  intro ys
  unfold moreL
  induction ys generalizing xs with
  | nil => simp
  | cons y ys ih =>
    rw [List.foldl_cons, List.length_cons]
    have := ih (addL xs y)
    have := addL_len xs y
    omega
theorem more_step (xs ys : List S62) (k : Nat) (h : k < ys.length) : moreL xs (ys.take (k + 1)) = addL (moreL xs (ys.take k)) (ys.getD k z62) := by
  unfold moreL
  rw [List.take_succ_eq_append_getElem h, List.foldl_append, List.getD_eq_getElem?_getD, List.getElem?_eq_getElem h]
  rfl

set_option maxHeartbeats 1000000 in
set_option maxRecDepth 100000 in
theorem more (A B : Option Addr) (c d : Nat) (xs ys : List S62) (w : World) (h : Rds w A c xs) (hy : Rds w B d ys) (hn : (xs.length + ys.length) * 32 ≤ 140737488351232) :
    Calls Try.prog 78 #[.slice A xs.length c, .slice B ys.length d] w (RowPost (moreL xs ys) w) := by
  have HX := hide h
  have HY := hide hy
  have hlen := hy.1.2.1
  clear h hy
  obtain ⟨n, hyn⟩ : ∃ n, ys.length = n := ⟨_, rfl⟩
  have HN := hide hyn
  rw [hyn] at hlen hn ⊢
  clear hyn
  obtain ⟨m, hxm⟩ : ∃ n, xs.length = n := ⟨_, rfl⟩
  have HM := hide hxm
  rw [hxm] at hn
  clear hxm
  go_enter Try.func78, Try.ntmps78
  go_wp2_with fail
  refine (clone A c xs _ HX.out (by rw [HM.out]; omega)).mono ?_
  rintro e w1 ⟨v, rfl, hR, hb1⟩
  have HR := hide hR
  have HB1 := hide hb1
  clear hR hb1
  dsimp only
  go_wp2_with fail
  go_loopw [5, 12] (fun v i wr => ∃ k : Nat, k ≤ n ∧ i = .int .i64 k ∧ Aside0 (Kd.R k62 62 wr w.heap.size (fun _ => True) v (moreL xs (ys.take k))) ∧ Aside0 (Below w.heap.size w wr)) (fun _ i _ => n - (intOf i).toNat)
  case atStart => exact ⟨0, by omega, rfl, ⟨HR.out⟩, ⟨HB1.out⟩⟩
  case round =>
    clear HR HB1
    obtain ⟨k, hk, rfl, HO, HB⟩ := hrel
    by_cases hlt : k < n
    · have hkl : k < ys.length := by rw [HN.out]; exact hlt
      obtain ⟨bd, hA, hc0, hc1⟩ := at_T62 (Kd.C_below HY.out.1 HB.out) (k : Int) (by omega) (by rw [HN.out]; omega)
      subst hA
      have hstep := more_step xs ys k hkl
      have hml := moreL_len xs (ys.take k)
      rw [List.length_take, HM.out] at hml
      unfold rd_T62 at hc0 hc1
      rw [Int.toNat_natCast] at hc0 hc1
      obtain ⟨x, hx⟩ : ∃ x, ys.getD k z62 = x := ⟨_, rfl⟩
      rw [hx] at hc0 hc1 hstep
      obtain ⟨a, b⟩ := x
      dsimp only at hc0 hc1
      clear hx
      obtain ⟨zs, hzs⟩ : ∃ zs, moreL xs (ys.take k) = zs := ⟨_, rfl⟩
      have HO1 := HO.out
      rw [hzs] at hstep hml HO1
      have HS := hide hstep
      clear hstep hzs HO
      obtain ⟨A1, c1, rfl, hl1, _⟩ := Kd.R_reads HO1
      have k1 : (k : Int) < n := by omega
      have HO := hide HO1
      clear HO1
      go_wp2_with fail
      refine (find A1 c1 zs a _ ⟨Kd.C_below (Kd.R_reads' HO.out).2.2 (below_alloc (Below.refl _ _) _), hl1⟩).mono ?_
      rintro e w2 ⟨rfl, hb2⟩
      have hx0 : w2.cell? ⟨wr.heap.size, 0, none⟩ = some (.string a) := by
        rw [hb2.cell (p := ⟨wr.heap.size, 0, none⟩) (by simp), cell_of_row _ _ 0 _ 62 (0, 0) (heap_alloc_new _ _)]; rfl
      have hx1 : w2.cell? ⟨wr.heap.size, 1, none⟩ = some (.string b) := by
        rw [hb2.cell (p := ⟨wr.heap.size, 1, none⟩) (by simp), cell_of_row _ _ 1 _ 62 (0, 0) (heap_alloc_new _ _)]; rfl
      have hb3 : Below wr.heap.size wr w2 := below_step (below_alloc (Below.refl _ _) _) hb2
      have HO2 := hide (Kd.R_below HO.out hb3)
      have HB2 := hide (below_step HB.out hb3)
      clear hb2 hb3 HO
      obtain ⟨q, hq⟩ : ∃ q, fnd zs a = q := ⟨_, rfl⟩
      have HS2 := HS.out
      unfold addL at HS2
      dsimp only at HS2
      rw [hq] at HS2
      rw [hq]
      clear hq HS
      by_cases hneg : q < 0
      · rw [if_pos hneg] at HS2
        have HS := hide HS2
        clear HS2
        have hbase := HB2.out.size
        dsimp only
        go_wp2_with (at_builtin; refine Kd.R_append k62 (w0 := w) w.heap.size rfl (.tmp 21) (.tmp 23) 32 62 _ 32 rfl Try.underlying32 info62 rfl (by decide) (by decide) _ zs ⟨a, b⟩ [.string a, .string b] (fun _ => True) (fun _ => False) rfl rfl (k62_mkM _ _ _ _) (fun k hk => hk.elim) (fun _ _ => trivial) HO2.out HB2.out hbase (by omega) ?_; intro v1 w3 ho hb hg hown; have HO3 := hide ho; have HB3 := hide hb; clear ho hb hg hown)
        go_roundw
        case rel => exact ⟨k + 1, by omega, by go_num, ⟨by rw [HS.out]; exact HO3.out⟩, ⟨HB3.out⟩⟩
        case measure => simp only [intOf]; omega
      · rw [if_neg hneg] at HS2
        have HS := hide HS2
        clear HS2
        dsimp only
        go_wp2_with fail
        go_roundw
        case rel => exact ⟨k + 1, by omega, by go_num, ⟨by rw [HS.out]; exact HO2.out⟩, ⟨HB2.out⟩⟩
        case measure => simp only [intOf]; omega
    · have hke : ys.take k = ys := List.take_of_length_le (by rw [HN.out]; omega)
      have HO1 := HO.out
      rw [hke] at HO1
      have HO2 := hide HO1
      clear HO1 hke HO
      go_wp2_with fail
      go_ret
      exact ⟨_, rfl, HO2.out, HB.out⟩

theorem unique (A : Option Addr) (c : Nat) (xs : List S62) (w : World) (h : Rds w A c xs) (hn : xs.length * 32 ≤ 140737488351232) :
    Calls Try.prog 40 #[.slice A xs.length c] w (RowPost (moreL [] xs) w) := by
  have H := hide h
  clear h
  go_enter Try.func40, Try.ntmps40
  go_wp2_with fail
  refine (more none A 0 c [] xs _ ⟨⟨rfl, by simp, fun h => absurd h (by simp)⟩, Nat.le_refl _⟩ H.out (by simpa using hn)).mono ?_
  rintro e w1 ⟨v, rfl, hR, hb1⟩
  have HR := hide hR
  have HB := hide hb1
  clear hR hb1
  dsimp only
  go_wp2_with fail
  go_ret
  exact ⟨_, rfl, HR.out, HB.out⟩

end Go.Proofs.Ytjebpaapkmbahaa.Ar

/- The walks of slices.Clone, the closure of attrs.find, slices.IndexFunc and attrs.find at attributes. -/
import Derived.Test.YtpofjfnlchpmbaaCtxLst
import Derived.WalkSpells
import Derived.BigQuiet
import Derived.Deep.QuietTactic
import Derived.Below
import Derived.IntWalk
import Derived.WalkLawsBesides
namespace Go.Proofs.Ytpofjfnlchpmbaa.Ctx
open Go.RowKit Go.Proofs.Ytpofjfnlchpmbaa.PContextTells Go.Proofs.YtpofjfnlchpmbaaW.PrintWords Go.Proofs.YtpofjfnlchpmbaaW.PrintLast

/-- A list of attributes that reads so. -/
def Rds (w : World) (A : Option Addr) (c : Nat) (xs : List S44) : Prop := Kd.C k44 w A xs.length xs ∧ xs.length ≤ c
/-- What is handed back is a new row that holds these; what was there is as it was. -/
def RowPost (xs : List S44) (w : World) (e : Ending) (w' : World) : Prop := ∃ v : Value, e = .returned v ∧ Kd.R k44 44 w' w.heap.size (fun _ => True) v xs ∧ Below w.heap.size w w'

set_option maxHeartbeats 400000 in
set_option maxRecDepth 100000 in
theorem clone (A : Option Addr) (c : Nat) (xs : List S44) (w : World) (h : Rds w A c xs) (hn : xs.length * 32 ≤ 140737488351232) :
    Calls Try.prog 42 #[.slice A xs.length c] w (RowPost xs w) := by
  have h0 := @Lib.run_eql_slice_nil Try.prog
  rcases A with _ | ad
  · have hx : xs = [] := by
      cases xs with
      | nil => rfl
      | cons x xs => obtain ⟨_, e, _⟩ := h.1.2.2 (by simp); cases e
    subst hx
    go_enter Try.func42, Try.ntmps42
    go_wp2
    go_ret
    exact ⟨_, rfl, Kd.R_nil _ _ _ _ _, Below.refl _ _⟩
  · have HC := hide h.1
    clear h
    have hR : Kd.R k44 44 (w.alloc (.cells #[] 44)) w.heap.size (fun _ => True) (.slice (some ⟨w.heap.size, 0, none⟩) 0 0) [] :=
      ⟨fun _ _ => trivial, [], by have := World.ownsRow_lit (base := w.heap.size) (e := 44) (size := 2) w #[] 0 (Nat.le_refl _) (by simp) rfl; exact this, Reps.none _ _⟩
    have HR := hide hR
    clear hR
    have HC1 := hide (Kd.C_below HC.out (below_alloc (Below.refl w.heap.size w) (.cells #[] 44)))
    clear HC
    go_enter Try.func42, Try.ntmps42
    go_wp2_with (at_builtin; refine Kd.R_append_rows k44 (Rr := k44.K (w.alloc (.cells #[] 44))) (w0 := w) w.heap.size rfl (.tmp 5) (.tmp 6) 22 44 (.agg #[.string ⟨#[]⟩, .string ⟨#[]⟩]) 32 rfl Try.underlying22 (by kernel_rfl) rfl (by decide) (by decide) _ [] xs (some ad) xs.length c (fun _ => True) (fun _ => False) rfl rfl HR.out HC1.out ?h1 (fun k hk => hk.elim) (fun _ _ => trivial) (below_alloc (Below.refl _ _) _) (by simp) (by simp; omega) ?_; (case h1 => intro x cs hx; rw [k44_open hx]; exact k44_mkM _ _ _ _); intro v1 w1 ho hb hg hown; have HO := hide ho; have HB := hide hb; clear ho hb hg hown)
    go_ret
    exact ⟨_, rfl, by simpa using HO.out, HB.out⟩

set_option maxHeartbeats 400000 in
set_option maxRecDepth 100000 in
theorem eqName (p : Addr) (x : S44) (nm : ByteArray) (w : World) (hc : w.cell? p = some (.string nm)) :
    Calls Try.prog 45 #[.agg #[.string x.f0, .string x.f1], .pointer (some p)] w fun e w' => e = .returned (.bool (x.f0.toList == nm.toList)) ∧ Below w.heap.size w w' := by
  obtain ⟨a, b⟩ := x
  have hp : p.block < w.heap.size := World.block_lt_of_cell? w _ hc
  have hc1 : (w.alloc (.cells #[.string a, .string b] 44)).cell? p = some (.string nm) := by rw [World.cell?_alloc_lt w _ p hp]; exact hc
  dsimp only
  go_enter Try.func45, Try.ntmps45
  go_wp2
  go_ret
  exact ⟨rfl, below_alloc (Below.refl _ _) _⟩

def hit (nm : ByteArray) (x : S44) : Bool := x.f0.toList == nm.toList
def fndFrom (nm : ByteArray) : List S44 → Nat → Int
  | [], _ => -1
  | x :: xs, i => if hit nm x = true then (i : Int) else fndFrom nm xs (i + 1)
/-- The place of the first attribute of a name; -1 of none. -/
def fnd (xs : List S44) (nm : ByteArray) : Int := fndFrom nm xs 0
theorem fnd_step (nm : ByteArray) (xs : List S44) (k : Nat) (h : k < xs.length) : fndFrom nm (xs.drop k) k = if hit nm (xs.getD k z44) = true then (k : Int) else fndFrom nm (xs.drop (k + 1)) (k + 1) := by
  rw [List.drop_eq_getElem_cons h, List.getD_eq_getElem?_getD, List.getElem?_eq_getElem h]
  rfl
theorem fnd_end (nm : ByteArray) (xs : List S44) (k : Nat) (h : xs.length ≤ k) : fndFrom nm (xs.drop k) k = -1 := by
  rw [List.drop_of_length_le h]; rfl

set_option maxHeartbeats 1000000 in
set_option maxRecDepth 100000 in
theorem indexFunc (A : Option Addr) (c : Nat) (xs : List S44) (p : Addr) (nm : ByteArray) (w : World) (h : Rds w A c xs) (hc : w.cell? p = some (.string nm)) :
    Calls Try.prog 44 #[.slice A xs.length c, .func (.func 45) #[] #[.pointer (some p)]] w fun e w' => e = .returned (.int .i64 (fnd xs nm)) ∧ Below w.heap.size w w' := by
  have hp : p.block < w.heap.size := World.block_lt_of_cell? w _ hc
  have HC := hide h.1
  have hlen := h.1.2.1
  clear h
  obtain ⟨n, hn⟩ : ∃ n, xs.length = n := ⟨_, rfl⟩
  have HN := hide hn
  rw [hn] at hlen ⊢
  clear hn
  have HP := hide hc
  clear hc
  go_enter Try.func44, Try.ntmps44
  go_wp2_with fail
  go_loopw [5, 8] (fun _ i wr => ∃ k : Nat, k ≤ n ∧ i = .int .i64 k ∧ Aside0 (fndFrom nm (xs.drop k) k = fnd xs nm) ∧ Aside0 (Below w.heap.size w wr)) (fun _ i _ => n - (intOf i).toNat)
  case atStart => exact ⟨0, by omega, rfl, ⟨rfl⟩, ⟨Below.refl _ _⟩⟩
  case round =>
    obtain ⟨k, hk, rfl, HF, HB⟩ := hrel
    by_cases hlt : k < n
    · have hkl : k < xs.length := by rw [HN.out]; exact hlt
      obtain ⟨ad, hA, hc0, hc1⟩ := at_T44 (Kd.C_below HC.out HB.out) (k : Int) (by omega) (by omega)
      subst hA
      have hstep := fnd_step nm xs k hkl
      rw [HF.out] at hstep
      unfold rd_T44 at hc0 hc1
      rw [Int.toNat_natCast] at hc0 hc1
      obtain ⟨x, hx⟩ : ∃ x, xs.getD k z44 = x := ⟨_, rfl⟩
      rw [hx] at hc0 hc1 hstep
      obtain ⟨a, b⟩ := x
      dsimp only at hc0 hc1
      have HS := hide hstep
      clear hstep hx
      have k1 : (k : Int) < n := by omega
      go_wp2_with fail
      have hpc : wr.cell? p = some (.string nm) := by rw [HB.out.cell hp]; exact HP.out
      refine (eqName p ⟨a, b⟩ nm wr hpc).mono ?_
      rintro e w2 ⟨rfl, hb2⟩
      have HB2 := hide (below_step HB.out hb2)
      clear hb2 hpc
      rw [show ((⟨a, b⟩ : S44).f0.toList == nm.toList) = hit nm ⟨a, b⟩ from rfl]
      obtain ⟨q, hq⟩ : ∃ q, hit nm ⟨a, b⟩ = q := ⟨_, rfl⟩
      have HS2 := HS.out
      rw [hq] at HS2 ⊢
      clear hq HS
      cases q
      · have HS3 := hide HS2
        clear HS2
        dsimp only
        go_wp2_with fail
        go_roundw
        case rel => exact ⟨k + 1, by omega, by go_num, ⟨by have := HS3.out; rw [if_neg (by decide)] at this; exact this.symm⟩, ⟨HB2.out⟩⟩
        case measure => simp only [intOf]; omega
      · have HS3 := hide HS2
        clear HS2
        dsimp only
        go_wp2_with fail
        go_ret
        exact ⟨by rw [HS3.out]; rfl, HB2.out⟩
    · have hke : fndFrom nm (xs.drop k) k = -1 := fnd_end nm xs k (by rw [HN.out]; omega)
      have HK := hide hke
      clear hke
      go_wp2_with fail
      go_ret
      exact ⟨by rw [← HF.out, HK.out]; rfl, HB.out⟩

set_option maxHeartbeats 1000000 in
set_option maxRecDepth 100000 in
theorem find (A : Option Addr) (c : Nat) (xs : List S44) (nm : ByteArray) (w : World) (h : Rds w A c xs) :
    Calls Try.prog 43 #[.slice A xs.length c, .string nm] w fun e w' => e = .returned (.int .i64 (fnd xs nm)) ∧ Below w.heap.size w w' := by
  have h2 : Rds (w.alloc (.cells #[.string nm] 9)) A c xs := ⟨Kd.C_below h.1 (below_alloc (Below.refl _ _) _), h.2⟩
  have H2 := hide h2
  clear h h2
  obtain ⟨z, hz⟩ : ∃ z, fnd xs nm = z := ⟨_, rfl⟩
  rw [hz]
  have HZ := hide hz
  clear hz
  have hc : (w.alloc (.cells #[.string nm] 9)).cell? ⟨w.heap.size, 0, none⟩ = some (.string nm) := by
    rw [cell_of_row _ _ 0 _ 9 (0, 0) (heap_alloc_new _ _)]; rfl
  have HC := hide hc
  clear hc
  go_enter Try.func43, Try.ntmps43
  go_wp2_with (go_at_call 44; (refine (indexFunc A c xs ⟨w.heap.size, 0, none⟩ nm _ H2.out HC.out).mono ?_); rw [HZ.out]; rintro e w2 ⟨rfl, hb2⟩; dsimp only)
  go_ret
  exact ⟨rfl, below_step (below_alloc (Below.refl _ _) _) hb2⟩
end Go.Proofs.Ytpofjfnlchpmbaa.Ctx

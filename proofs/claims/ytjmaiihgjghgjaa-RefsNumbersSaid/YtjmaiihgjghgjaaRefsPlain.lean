/- For every text and every number, refs.Named, asked of one of the names with up to twenty bytes of the text behind it, finds a name that the text begins with, and no longer name is so. No condition. -/
import Derived.Test.YtjmaiihgjghgjaaPRefsLongestx1
import Derived.OpenShut
namespace Go.Proofs.Ytjmaiihgjghgjaa.Pure
open Go.RowKit Go.Proofs.Ytjmaiihgjghgjaa.PRefsLongest Go.Proofs.YtjmaiihgjghgjaaW.PrintWords Go.Proofs.YtjmaiihgjghgjaaW.PrintLast

def T : List S40 := (refs_table.f).getD []
theorem table_some : refs_table.f = some T := rfl
def N : List ByteArray := T.map S40.f0
theorem T_len : T.length = 51 := by decide +kernel
theorem N_len : N.length = 51 := by decide +kernel
theorem all_some : refs_All.f 60 = some N := by decide +kernel

def pre (s p : ByteArray) : Bool := decide (p.size ≤ s.size) && ((s.extract 0 p.size).toList == p.toList)

theorem hasPrefix_some (s p : ByteArray) : strings_HasPrefix.f s p = some (pre s p) := by
  unfold strings_HasPrefix.f stringslite_HasPrefix.f pre
  by_cases h : p.size ≤ s.size
  · have h1 : (s.size : Int) ≥ (p.size : Int) := by omega
    have h2 : (p.size : Int) ≤ (s.size : Int) := by omega
    have h3 : 0 ≤ (p.size : Int) := by omega
    simp [h, h2]
  · have h1 : ¬ (s.size : Int) ≥ (p.size : Int) := by omega
    rw [if_neg h1]
    simp [h]

def step (s : ByteArray) (b p : S40) : S40 := if p.f0.size > b.f0.size ∧ pre s p.f0 = true then p else b

theorem wrap_small {i : Int} (h0 : 0 ≤ i) (h : i < 1000) : wrap64 (i + 1) = i + 1 := by unfold wrap64; omega

theorem named_loop (s : ByteArray) (xs : List S40) (hx : xs.length < 900) : ∀ (d k i : Nat) (bn bt : ByteArray), i ≤ xs.length → xs.length - i = d → d < k →
    refs_Named.l0 k s xs (xs.length : Int) (i : Int) bn bt = some (((xs.drop i).foldl (step s) ⟨bn, bt⟩).f1, ((((xs.drop i).foldl (step s) ⟨bn, bt⟩).f0.size : Nat) : Int)) := by
  intro d
  induction d with
  | zero =>
    intro k i bn bt hi hd hk
    obtain ⟨k, rfl⟩ : ∃ m, k = m + 1 := ⟨k - 1, by omega⟩
    have e : i = xs.length := by omega
    simp only [refs_Named.l0]
    rw [if_neg (by omega)]
    subst e
    simp
  | succ d ih =>
    intro k i bn bt hi hd hk
    obtain ⟨k, rfl⟩ : ∃ m, k = m + 1 := ⟨k - 1, by omega⟩
    have hlt : i < xs.length := by omega
    have hd' : xs.drop i = xs[i] :: xs.drop (i + 1) := List.drop_eq_getElem_cons hlt
    have hrd : rd_T40 xs (i : Int) = xs[i] := by simp [rd_T40, List.getD_eq_getElem?_getD, List.getElem?_eq_getElem hlt]
    have ew : wrap64 ((i : Int) + 1) = ((i + 1 : Nat) : Int) := by rw [wrap_small (by omega) (by omega)]; omega
    simp only [refs_Named.l0]
    rw [if_pos (by omega), if_pos (by omega), if_pos (by omega), hrd, hd', List.foldl_cons, ew]
    by_cases h1 : xs[i].f0.size > bn.size
    · rw [if_pos (by omega), hasPrefix_some]
      simp only [Option.bind_some]
      by_cases h2 : pre s xs[i].f0 = true
      · rw [if_pos h2, ih k (i + 1) _ _ (by omega) (by omega) (by omega)]
        have : step s ⟨bn, bt⟩ xs[i] = xs[i] := by unfold step; rw [if_pos ⟨h1, h2⟩]
        rw [this]
      · rw [if_neg h2, ih k (i + 1) _ _ (by omega) (by omega) (by omega)]
        have : step s ⟨bn, bt⟩ xs[i] = ⟨bn, bt⟩ := by unfold step; rw [if_neg (fun h => h2 h.2)]
        rw [this]
    · rw [if_neg (by omega), ih k (i + 1) _ _ (by omega) (by omega) (by omega)]
      have : step s ⟨bn, bt⟩ xs[i] = ⟨bn, bt⟩ := by unfold step; rw [if_neg (fun h => h1 h.1)]
      rw [this]

def best (s : ByteArray) (xs : List S40) : S40 := xs.foldl (step s) ⟨⟨#[]⟩, ⟨#[]⟩⟩

theorem named_some (s : ByteArray) (k : Nat) (hk : 60 ≤ k) : refs_Named.f k s = some ((best s T).f1, ((best s T).f0.size : Int)) := by
  unfold refs_Named.f
  rw [table_some]
  simp only [Option.bind_some]
  exact named_loop s T (by rw [T_len]; omega) 51 k 0 _ _ (by omega) (by rw [T_len]) (by omega)

theorem known_some : arbourlaw5_known.f 60 = some true := by decide +kernel

/-- what the fold finds -/
theorem best_fold (s : ByteArray) : ∀ (xs : List S40) (b : S40), (xs.foldl (step s) b = b ∨ (xs.foldl (step s) b ∈ xs ∧ pre s (xs.foldl (step s) b).f0 = true)) ∧ b.f0.size ≤ (xs.foldl (step s) b).f0.size ∧ ∀ p ∈ xs, pre s p.f0 = true → p.f0.size ≤ (xs.foldl (step s) b).f0.size := by
  intro xs
  induction xs with
  | nil => intro b; exact ⟨.inl rfl, Nat.le_refl _, fun p hp => by cases hp⟩
  | cons x xs ih =>
    intro b
    rw [List.foldl_cons]
    obtain ⟨h1, h2, h3⟩ := ih (step s b x)
    have hb : b.f0.size ≤ (step s b x).f0.size := by unfold step; split <;> omega
    refine ⟨?_, by omega, ?_⟩
    · rcases h1 with h1 | ⟨h1, h1'⟩
      · rw [h1]
        by_cases c : x.f0.size > b.f0.size ∧ pre s x.f0 = true
        · right
          have : step s b x = x := by unfold step; rw [if_pos c]
          rw [this]
          exact ⟨List.mem_cons_self, c.2⟩
        · left
          unfold step
          rw [if_neg c]
      · exact .inr ⟨List.mem_cons_of_mem _ h1, h1'⟩
    · intro p hp hpre
      rcases List.mem_cons.1 hp with rfl | hp
      · have : p.f0.size ≤ (step s b p).f0.size := by
          unfold step
          split
          · exact Nat.le_refl _
          · rename_i hc
            have : ¬ p.f0.size > b.f0.size := fun h => hc ⟨h, hpre⟩
            omega
        omega
      · exact h3 p hp hpre

theorem N_sizes : N.all (fun x => decide (2 ≤ x.size)) = true := by decide +kernel
theorem N_texts : T.all (fun x => x.f1.toList != []) = true := by decide +kernel
theorem N_rising : (List.range 51).all (fun i => i == 0 || Op.bytesLess ((N.getD (i - 1) ByteArray.empty).toList) ((N.getD i ByteArray.empty).toList)) = true := by decide +kernel
theorem pre_self (x h : ByteArray) : pre (x ++ h) x = true := by
  unfold pre
  have e : (x ++ h).extract 0 x.size = x := by
    apply ByteArray.ext
    simp [ByteArray.data_extract]
  rw [e]
  simp

theorem known_some' (k : Nat) (hk : 60 ≤ k) : arbourlaw5_known.f k = some true := at_rounds arbourlaw5_known.mono hk known_some

theorem rd_N (i : Nat) : rdOf ByteArray.empty N (i : Int) = N.getD i ByteArray.empty := by simp [rdOf]

theorem rising (i : Nat) (h0 : 0 < i) (h : i < 51) : Op.bytesLess ((N.getD (i - 1) ByteArray.empty).toList) ((N.getD i ByteArray.empty).toList) = true := by
  have := List.all_eq_true.1 N_rising i (List.mem_range.2 h)
  simp only [Bool.or_eq_true, beq_iff_eq] at this
  rcases this with this | this
  · omega
  · exact this

theorem within_some (a : Int) (ha : (Lit.int .i64 a).wf = true) : ∃ t : Nat, t < 51 ∧ arbourbook_Within.f a 0 50 = some (t : Int) := by
  have hb : -9223372036854775808 ≤ a ∧ a ≤ 9223372036854775807 := bounds_i64 ha
  have e1 : wrap64 (wrap64 ((50 : Int) - 0) + 1) = 51 := by unfold wrap64; omega
  have h1 : (Int.tmod a 51) < 51 := Int.tmod_lt_of_pos a (by omega : (0 : Int) < 51)
  have h2 : -51 < Int.tmod a 51 := by
    have := Int.lt_tmod_of_pos a (by omega : (0 : Int) < 51)
    omega
  unfold arbourbook_Within.f
  rw [e1, if_neg (by omega)]
  by_cases h : Int.tmod a 51 < 0
  · rw [if_pos h]
    refine ⟨(Int.tmod a 51 + 51).toNat, by omega, ?_⟩
    have : wrap64 (0 + wrap64 (wrap64 (wrap64 (Int.tmod a 51 + 50) - 0) + 1)) = Int.tmod a 51 + 51 := by unfold wrap64; omega
    rw [this]
    congr 1
    omega
  · rw [if_neg h]
    refine ⟨(Int.tmod a 51).toNat, by omega, ?_⟩
    have : wrap64 (0 + Int.tmod a 51) = Int.tmod a 51 := by unfold wrap64; omega
    rw [this]
    congr 1
    omega

theorem head_some (a : ByteArray) : ∃ h : ByteArray, h.size ≤ 20 ∧ arbourkeep_Head.f a 20 = some h := by
  unfold arbourkeep_Head.f
  by_cases h : (a.size : Int) > 20
  · rw [if_pos h, if_pos (by omega), if_pos (by omega)]
    refine ⟨_, ?_, rfl⟩
    simp
    omega
  · rw [if_neg h]
    exact ⟨a, by omega, rfl⟩

theorem N_short : N.all (fun x => decide (x.size ≤ 100)) = true := by decide +kernel


end Go.Proofs.Ytjmaiihgjghgjaa.Pure

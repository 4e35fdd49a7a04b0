/- copy between rows of attributes (two cells each), as a law of the walk. -/
import Derived.Test.YtgjnopabdipleaaAttrsFind
namespace Go.Proofs.Ytgjnopabdipleaa.Attrs
open Go.RowKit Go.Proofs.Ytgjnopabdipleaa.PAttrsTells Go.Proofs.YtgjnopabdipleaaW.PrintWords Go.Proofs.YtgjnopabdipleaaW.PrintLast

theorem run_copy2 {P : Program} (w : World) (dT sT ty elem : TypeId) (b o dLen dCap : Nat) (a : Addr) (sLen sCap : Nat) (cs : List Value)
    (hu : P.underlying dT = some (.slice elem)) (hs : (P.info? elem).map (·.size) = some 2) (hn : cs.length = Nat.min sLen dLen * 2)
    (hsrc : ∀ j v, cs[j]? = some v → w.cell? (a.add j) = some v) (hc : ∀ j, j < cs.length → (w.cell? ⟨b, o + j, none⟩).isSome = true) (hf : ∀ j, j < cs.length → w.frozen? ⟨b, o + j, none⟩ = false) (h1 : ∀ v ∈ cs, v.oneCell' = true) :
    (Builtin.copy_ #[dT, sT] ty #[.slice (some ⟨b, o, none⟩) dLen dCap, .slice (some a) sLen sCap]).run P w = .ok (goInt (Nat.min sLen dLen)) (w.setCells b o cs) := by
  have hl := run_loadCells_list (P := P) w a cs hsrc
  have hst := run_storeCells_cells (P := P) b o cs 0 w (by simpa using hc) (by simpa using hf) h1
  cases hq : P.info? elem with
  | none => simp [hq] at hs
  | some i =>
    have hi : i.size = 2 := by simpa [hq] using hs
    simp [Builtin.copy_, run_underlying hu, Builtin.lenOf, Builtin.firstCells, sizeOf, typeInfo, hq, hi, ← hn, hl, hst]
theorem run_copy2_none {P : Program} (w : World) (dT sT ty elem : TypeId) (d : Addr) (dLen dCap : Nat) (a : Option Addr) (sCap : Nat) (hu : P.underlying dT = some (.slice elem)) (hs : (P.info? elem).map (·.size) = some 2) :
    (Builtin.copy_ #[dT, sT] ty #[.slice (some d) dLen dCap, .slice a 0 sCap]).run P w = .ok (goInt 0) w := by
  cases hq : P.info? elem with
  | none => simp [hq] at hs
  | some i =>
    have hl : ∀ (x : Addr), (loadCells x 0).run P w = .ok #[] w := fun x => by simpa using run_loadCells_list (P := P) w x [] (by simp)
    cases a <;> simp [Builtin.copy_, run_underlying hu, Builtin.lenOf, Builtin.firstCells, sizeOf, typeInfo, hq, storeCells, hl]

def flat : List S29 → List Value
  | [] => []
  | y :: ys => .string y.f0 :: .string y.f1 :: flat ys
theorem flat_len : ∀ ys : List S29, (flat ys).length = ys.length * 2
  | [] => rfl
  | y :: ys => by simp only [flat, List.length_cons, flat_len ys]; omega
theorem flat_one : ∀ ys : List S29, ∀ u ∈ flat ys, u.oneCell' = true
  | y :: ys, u, h => by
    rcases List.mem_cons.1 h with rfl | h
    · rfl
    · rcases List.mem_cons.1 h with rfl | h
      · rfl
      · exact flat_one ys u h
theorem flat_get : ∀ (ys : List S29) (j : Nat) (u : Value), (flat ys)[j]? = some u → ∃ p i y, j = p * 2 + i ∧ ys[p]? = some y ∧ [Value.string y.f0, .string y.f1][i]? = some u
  | y :: ys, 0, u, h => ⟨0, 0, y, rfl, rfl, h⟩
  | y :: ys, 1, u, h => ⟨0, 1, y, rfl, rfl, h⟩
  | y :: ys, j + 2, u, h => by
    obtain ⟨p, i, z, hj, hz, hu⟩ := flat_get ys j u (by simpa [flat] using h)
    exact ⟨p + 1, i, z, by omega, by simpa using hz, hu⟩
theorem reps_flat (w : World) (base : Nat) (ok : Nat → Prop) : ∀ ys : List S29, Reps (k29.M w base ok) 2 ys (flat ys)
  | [] => Reps.none _ _
  | y :: ys => Kd.reps_append (ps := [y]) (cs := [.string y.f0, .string y.f1]) ⟨rfl, fun j p hj => by
      match j, hj with
      | 0, hj => cases hj; exact k29_mkM _ _ _ _⟩ (reps_flat w base ok ys)

section
variable {P : Program} {ops : Array Oper} {rest : List Oper} {o : Oper} {a : Act} {Q : Exit → Act → World → Prop}
/-- copy(v, ys), v a row of one's own with room for all of ys. -/
theorem copy2 {w0 W : World} (base : Nat) (hgd : o.guard = none) (s x : Operand) (t t' : TypeId)
    (ho : o.op = .call { callee := .builtin .copy, args := #[s, x], argTypes := #[t, t'] }) (ht : P.underlying t = some (.slice 29)) (hinfo : (P.info? 29).map (·.size) = some 2)
    (g n cap : Nat) (zs ys : List S29) (A : Option Addr) (c : Nat) (hs : a.eval s = .slice (some ⟨g, 0, none⟩) n cap) (hx : a.eval x = .slice A ys.length c) (hzn : zs.length = n) (hm : ys.length ≤ zs.length)
    (HO : k29.R 29 W base (fun _ => True) (.slice (some ⟨g, 0, none⟩) n cap) zs) (HR : Rds W A c ys) (HB : Below base w0 W) (hbase : base ≤ W.heap.size)
    (h : ∀ w1, k29.R 29 w1 base (fun _ => True) (.slice (some ⟨g, 0, none⟩) n cap) (ys ++ zs.drop ys.length) → Below base w0 w1 → W.grownBy w1 (some g) → wpList P ops Q rest (a.put o.dst (.int .i64 (ys.length : Int))) w1) :
    wpList P ops Q (o :: rest) a W := by
  have hmin : Nat.min ys.length n = ys.length := Nat.min_eq_left (by omega)
  obtain ⟨h0, inner, hown, hr⟩ := HO
  have fin : ∀ w1, (Builtin.copy_ #[t, t'] o.type #[.slice (some ⟨g, 0, none⟩) n cap, .slice A ys.length c]).run P W = .ok (goInt (ys.length : Nat)) w1 → k29.R 29 w1 base (fun _ => True) (.slice (some ⟨g, 0, none⟩) n cap) (ys ++ zs.drop ys.length) → W.grownBy w1 (some g) → wpList P ops Q (o :: rest) a W := by
    intro w1 hrun hrow hg
    refine wpList_plain hgd fun K hK => ?_
    unfold Oper.wp execOp
    simp only [ho, resolve, invoke, builtin, Sem.run_bind, Sem.run_pure, Result.andThen_ok, List.map_toArray, List.map_cons, List.map_nil, hs, hx, hrun]
    exact hK _ _ (h w1 hrow (HB.grown hg hbase (own_base hown)) hg)
  rcases Nat.eq_zero_or_pos ys.length with hz | hp
  · have hy : ys = [] := List.eq_nil_of_length_eq_zero hz
    subst hy
    refine fin W (run_copy2_none W t t' o.type 29 _ n cap A c ht hinfo) ?_ (World.grownBy.refl W _)
    rw [List.length_nil, List.drop_zero, List.nil_append]
    exact ⟨h0, inner, hown, hr⟩
  · obtain ⟨ad, hA, hcell⟩ := HR.1.2.2 hp
    subst hA
    rcases hown.2 with ⟨hv, _⟩ | ⟨g', cap', cur, hv, hb, hh, hnc, hcm, hcs, htake⟩
    · cases hv
    injection hv with hv1 hv2 hv3
    injection hv1 with hv1
    injection hv1 with hv1
    subst hv1 hv3
    have hin : inner.length = zs.length * 2 := hown.1
    have hkl := flat_len ys
    have hsrc : ∀ j u, (flat ys)[j]? = some u → W.cell? (ad.add j) = some u := by
      intro j u hu
      obtain ⟨p, i, y, rfl, hy, hi⟩ := flat_get ys j u hu
      obtain ⟨cs, _, hK, hc⟩ := hcell p y hy
      rw [k29_open hK] at hc
      exact hc i u hi
    have hfit : ys.length * 2 ≤ cur.size := by
      rw [hcs]
      exact Nat.mul_le_mul_right _ (by omega)
    have hrun := run_copy2 (P := P) W t t' o.type 29 g 0 n cap ad ys.length c (flat ys) ht hinfo (by rw [hkl, hmin]) hsrc
      (fun j hj => by rw [cell_of_row W g _ cur 29 (0, 0) hh]; simp; omega) (fun j _ => blk_frozen hh _) (flat_one ys)
    rw [hmin] at hrun
    obtain ⟨cur', h3, h4, h5⟩ := setCells_row (flat ys) 0 W cur hh (by rw [hkl]; omega)
    obtain ⟨s1, s2, s3, s4⟩ := setCells_same g (flat ys) 0 W
    have hln : (ys ++ zs.drop ys.length).length = zs.length := by rw [List.length_append, List.length_drop]; omega
    refine fin _ hrun ⟨h0, flat ys ++ inner.drop (ys.length * 2), ?_, ?_⟩ ⟨s1, s2, s3, by rw [s4]; exact Nat.le_refl _, fun k _ hk => setCells_far _ _ k (fun he => hk (by rw [he]))⟩
    · rw [hln]
      refine ⟨by rw [List.length_append, List.length_drop, hkl, hin]; show ys.length * 2 + (zs.length * 2 - ys.length * 2) = zs.length * 2; omega, .inr ⟨g, cap, cur', by rw [hzn], hb, h3, hnc, hcm, by rw [h4, hcs], ?_⟩⟩
      rw [h5, List.take_zero, List.nil_append, hkl, Nat.zero_add, List.take_append, hkl, List.take_of_length_le (by rw [hkl]; show _ ≤ zs.length * 2; omega)]
      congr 1
      rw [← htake, List.drop_take]
    · exact Kd.reps_append (reps_flat _ _ _ ys) ((Kd.reps_drop hr).imp_ (fun p cs hp => by rw [k29_openM hp]; exact k29_mkM _ _ _ _))
end
end Go.Proofs.Ytgjnopabdipleaa.Attrs

/- The law's known runs. -/
import Derived.Test.YtjebpaapkmbahaaArChk
namespace Go.Proofs.Ytjebpaapkmbahaa.Ar
open Go.RowKit Go.Proofs.Ytjebpaapkmbahaa.PArenaPlays Go.Proofs.YtjebpaapkmbahaaW.PrintWords Go.Proofs.YtjebpaapkmbahaaW.PrintLast
set_option linter.unusedVariables false
set_option linter.unusedSimpArgs false
def pT : S35 := ⟨3, 1, ⟨#[112]⟩, [], ⟨#[]⟩, []⟩
def kn0 : List S72 := [newN docT]
def kn1 : List S72 := [newN docT, newN pT]
def kn2 : List S72 := [⟨docT, -1, 1, 1, -1, -1, -1⟩, ⟨pT, 0, -1, -1, -1, -1, -1⟩]
def kn3 : List S72 := [⟨docT, -1, 1, 1, -1, -1, -1⟩, ⟨pT, 0, 2, 2, -1, -1, -1⟩, ⟨txtT ⟨#[97]⟩, 1, -1, -1, -1, -1, -1⟩]
def kn4 : List S72 := [⟨docT, -1, 1, 1, -1, -1, -1⟩, ⟨pT, 0, 2, 2, -1, -1, -1⟩, ⟨txtT (⟨#[97]⟩ ++ ⟨#[98]⟩), 1, -1, -1, -1, -1, -1⟩]
theorem lit_ne {a : Array UInt8} (h : a.toList ≠ []) : (ByteArray.mk a).toList ≠ [] := by
  rw [ByteArray.toList_eq]
  exact h
/-- A plain element; a text that is some. -/
theorem make_plain (l : List S72) (ns : Int) (name : ByteArray) (text : ByteArray) (hn : ns = 1 ∨ ns = 2) (h0 : name.toList ≠ []) (h1 : name.toList ≠ tplB) : makeL l 3 ns name [] text = ((l.length : Int), 0, l ++ [newN (elT ns name [])]) := by
  unfold makeL
  rw [if_pos rfl, if_pos ⟨hn, h0⟩, if_neg (fun h => h1 h.2)]
theorem write_some (l : List S72) (p : Nat) (s : ByteArray) (hp : p < l.length) (hk : holdK (kd l p) = true) (h1 : kd l p ≠ 1) (hs : s.toList ≠ []) : writeL l p s = (0, putT l p (nd l p).f3 (-1) s) := by
  unfold writeL
  rw [if_pos ⟨by omega, by omega⟩, Int.toNat_natCast, if_pos hk, if_neg (fun h => h.elim hs h1)]
theorem write_void (l : List S72) (p : Nat) (s : ByteArray) (hp : p < l.length) (hk : holdK (kd l p) = true) (h1 : s.toList = [] ∨ kd l p = 1) : writeL l p s = (0, l) := by
  unfold writeL
  rw [if_pos ⟨by omega, by omega⟩, Int.toNat_natCast, if_pos hk, if_pos h1]
theorem kn_m : makeL kn0 3 1 ⟨#[112]⟩ [] ⟨#[]⟩ = (1, 0, kn1) := (make_plain kn0 1 ⟨#[112]⟩ ⟨#[]⟩ (.inl rfl) (lit_ne (by decide)) (by rw [ByteArray.toList_eq]; decide)).trans (by rfl)
theorem kn_a : appendL kn1 0 1 = (0, kn2) := by rfl
theorem kn_w : writeL kn2 1 ⟨#[97]⟩ = (0, kn3) := (write_some kn2 1 _ (by decide) (by rfl) (by decide) (lit_ne (by decide))).trans (by rfl)
theorem kn_x : writeL kn3 1 ⟨#[98]⟩ = (0, kn4) := (write_some kn3 1 _ (by decide) (by rfl) (by decide) (lit_ne (by decide))).trans (by rfl)
theorem kn_b : appendL kn4 1 1 = (24, kn4) := by rfl
theorem ok1 : OkL kn1 := okB_ok (by rfl)
theorem ok2 : OkL kn2 := okB_ok (by rfl)
theorem ok3 : OkL kn3 := okB_ok (by rfl)
theorem ok4 : OkL kn4 := okB_ok (by rfl)
/-- An arena since w. -/
structure KA (w : World) (g : Nat) (l : List S72) (W : World) : Prop where
  ar : AS W w.heap.size g l false
  b : Below w.heap.size w W
theorem KA.post {w W w' : World} {g : Nat} {l l2 : List S72} {r : Int} {e : Ending} (h : KA w g l W) (hp : Post w.heap.size g false W r l2 e w') : e = .returned (.int .i64 r) ∧ KA w g l2 w' := ⟨hp.1, hp.2.1, h.b.trans hp.2.2.below⟩
theorem KA.postM {w W w' : World} {g : Nat} {l l2 : List S72} {n r : Int} {e : Ending} (h : KA w g l W) (hp : PostM w.heap.size g false W n r l2 e w') : e = .returned (.tuple #[.int .i64 n, .int .i64 r]) ∧ KA w g l2 w' := ⟨hp.1, hp.2.1, h.b.trans hp.2.2.below⟩
theorem KA.append {w W : World} {g : Nat} {l l2 : List S72} {r : Int} (h : KA w g l W) (hl : OkL l) (h0 : 0 < l.length) (p n : Int) (he : appendL l p n = (r, l2)) :
    Calls Try.prog 13 #[.pointer (some ⟨g, 0, none⟩), .int .i64 p, .int .i64 n] W fun e w' => e = .returned (.int .i64 r) ∧ KA w g l2 w' := (hl.append h.ar h0 h.b.size p n he).mono fun e w' hp => h.post hp
theorem KA.write {w W : World} {g : Nat} {l l2 : List S72} {r : Int} (h : KA w g l W) (hl : OkL l) (h0 : 0 < l.length) (p : Int) (s : ByteArray) (hlen : l.length ≤ 100000000) (hts : ∀ x, x ∈ l → x.f0.f4.size + s.size ≤ 1000000000) (he : writeL l p s = (r, l2)) :
    Calls Try.prog 16 #[.pointer (some ⟨g, 0, none⟩), .int .i64 p, .string s] W fun e w' => e = .returned (.int .i64 r) ∧ KA w g l2 w' := (hl.write h.ar h0 h.b.size p s hlen hts he).mono fun e w' hp => h.post hp
theorem KA.make {w W : World} {g : Nat} {l l2 : List S72} {n r : Int} (h : KA w g l W) (h0 : 0 < l.length) (kind ns : Int) (name text : ByteArray) (hl : l.length ≤ 100000000 - 1) (he : makeL l kind ns name [] text = (n, r, l2)) :
    Calls Try.prog 12 #[.pointer (some ⟨g, 0, none⟩), .int .i64 kind, .int .i64 ns, .string name, .slice none 0 0, .string text] W fun e w' => e = .returned (.tuple #[.int .i64 n, .int .i64 r]) ∧ KA w g l2 w' := (make0 h.ar h0 h.b.size kind ns name text hl he).mono fun e w' hp => h.postM hp
theorem KA.new (w : World) : Calls Try.prog 11 #[] w fun e w' => ∃ g, e = .returned (.pointer (some ⟨g, 0, none⟩)) ∧ KA w g kn0 w' := by
  refine (new_ w).mono ?_
  rintro e w' ⟨g, h1, h2, h3⟩
  exact ⟨g, h1, h2, h3⟩
theorem KA.below {w W W2 : World} {g : Nat} {l : List S72} (h : KA w g l W) (hb : Below W.heap.size W W2) : KA w g l W2 := ⟨h.ar.below hb, below_step h.b hb⟩
theorem KA.kids {w W : World} {g : Nat} {l : List S72} (h : KA w g l W) (hl : OkL l) (n : Nat) (hn : n < l.length) {m : Nat} (hm : (kidsL l n).length = m) {z : Int} (hz : (n : Int) = z) :
    Calls Try.prog 21 #[.pointer (some ⟨g, 0, none⟩), .int .i64 z] W fun e w' => ∃ A c, e = .returned (.slice A m c) ∧ KA w g l w' := by
  subst hm
  subst hz
  refine (hl.kids h.ar n hn).mono ?_
  rintro e w' ⟨A, c, rfl, _, hB⟩
  exact ⟨A, c, rfl, h.below hB⟩
theorem KA.len {w W : World} {g : Nat} {l : List S72} (h : KA w g l W) (h0 : 0 < l.length) {m : Int} (hm : (l.length : Int) = m) :
    Calls Try.prog 20 #[.pointer (some ⟨g, 0, none⟩)] W fun e w' => e = .returned (.int .i64 m) ∧ KA w g l w' := by
  obtain ⟨gl, cap, hO⟩ := h.ar.open_ h0
  refine (len_ hO).mono ?_
  rintro e w' ⟨rfl, rfl⟩
  exact ⟨by rw [hm], h⟩
set_option maxHeartbeats 4000000 in
set_option maxRecDepth 100000 in
theorem known (w : World) : Calls Try.prog 18 #[] w fun e w' => e = .returned (.bool true) ∧ Below w.heap.size w w' := by
  have H0 := hide (KA.new w)
  go_enter Try.func18, Try.ntmps18
  go_wp2_with (first | (go_at_call 11; (with_reducible refine H0.out.mono ?_); rintro e w' ⟨g, rfl, h0⟩; have H1 := hide (h0.make (by decide) 3 1 ⟨#[112]⟩ ⟨#[]⟩ (by decide) kn_m); clear h0) | (go_at_call 12; (with_reducible refine H1.out.mono ?_); rintro e w' ⟨rfl, h1⟩; have H2 := hide (h1.append ok1 (by decide) 0 1 kn_a); clear h1) | (go_at_call 13; (with_reducible refine H2.out.mono ?_); rintro e w' ⟨rfl, h2⟩; have H3 := hide (h2.write ok2 (by decide) 1 ⟨#[97]⟩ (by decide) (by decide) kn_w); clear h2) | (go_at_call 16; (with_reducible refine H3.out.mono ?_); rintro e w' ⟨rfl, h3⟩; have H4 := hide (h3.write ok3 (by decide) 1 ⟨#[98]⟩ (by decide) (by decide) kn_x); clear h3) | (go_at_call 16; (with_reducible refine H4.out.mono ?_); rintro e w' ⟨rfl, h4⟩; have H5 := hide (h4.kids ok4 1 (by decide) (m := 1) rfl (z := 1) rfl); clear h4) | (go_at_call 21; (with_reducible refine H5.out.mono ?_); rintro e w' ⟨A5, c5, rfl, h5⟩; have H6 := hide (h5.len (by decide) (m := 3) rfl); clear h5) | (go_at_call 20; (with_reducible refine H6.out.mono ?_); rintro e w' ⟨rfl, h6⟩; have H7 := hide (h6.append ok4 (by decide) 1 1 kn_b); clear h6) | (go_at_call 13; (with_reducible refine H7.out.mono ?_); rintro e w' ⟨rfl, h7⟩; have H8 := hide h7; clear h7)) 
  go_ret
  exact ⟨rfl, H8.out.b⟩
end Go.Proofs.Ytjebpaapkmbahaa.Ar

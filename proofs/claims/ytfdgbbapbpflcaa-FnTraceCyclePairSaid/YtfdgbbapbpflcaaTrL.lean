/- What the laws of traces share. -/
import Derived.Test.YtfdgbbapbpflcaaTrP
import Derived.Test.YtfdgbbapbpflcaaDrawTr2
import Derived.Test.YtfdgbbapbpflcaaTr3
namespace Go.Proofs.Ytfdgbbapbpflcaa
open Go.RowKit
theorem sameInts_same {A A' : Option Addr} {n c n' c' : Nat} {xs : List Int} {w : World} (h : SL w A n c xs) (h' : SL w A' n' c' xs) (hl : xs.length ≤ 1048576) :
    Calls Try.prog 32 #[.slice A n c, .slice A' n' c'] w fun e w' => e = .returned (.bool true) ∧ St w w' :=
  (sameInts_any _ _ _ _ _ _ _ _ _ _ h.ri h'.ri (by have := h.len; omega)).mono fun _ _ ⟨he, hd⟩ => ⟨by rw [he]; simp [eqI], hd.st⟩
/-- Traces that were drawn. -/
def DrawnT (w : World) (e : Ending) (w' : World) : Prop := ∃ A n c xss, e = .returned (.slice A n c) ∧ SLL w' A n c xss ∧ n ≤ 12 ∧ (∀ xs ∈ xss, xs.length ≤ 10) ∧ St w w'
theorem drawT_end {w w1 w2 : World} {e : Ending} (b : St w w1) (h : DrawnLL w1 w.heap.size 100 e w2) : DrawnT w e w2 := by
  obtain ⟨A, n, c, xss, rfl, h1, h2, h3, _, g⟩ := h
  exact ⟨A, n, c, xss, rfl, h1, h2, h3, St.grown b g (fun k hk => by injection hk with hk; omega)⟩
theorem DrawTraceOrder_any (A : Option Addr) (n c : Nat) (bs : List Nat) (w : World) (h : RB w w.heap.size A n bs) (hn : n ≤ 1048576) (hnc : n ≤ c) (hc : c ≤ maxLen) :
    Calls Try.prog 34 #[.slice A n c] w (DrawnT w) := by
  go_enter Try.func34, Try.ntmps34
  go_wp2_with fail
  refine (l6Open_any _ _ _ _ _ h hn hnc hc).mono ?_
  rintro e w1 ⟨rfl, hr1, b1⟩
  go_wp2_with fail
  refine (l92Traces_any _ _ _ hr1 (by omega)).mono ?_
  rintro e w2 hD
  have HD := hid (drawT_end b1 hD)
  obtain ⟨A2, n2, c2, xss, rfl, _⟩ := hD
  go_wp2_with fail
  go_ret
  exact HD.out
theorem DrawTracesValid_any (A : Option Addr) (n c : Nat) (bs : List Nat) (w : World) (h : RB w w.heap.size A n bs) (hn : n ≤ 1048576) (hnc : n ≤ c) (hc : c ≤ maxLen) :
    Calls Try.prog 33 #[.slice A n c] w (DrawnT w) := by
  go_enter Try.func33, Try.ntmps33
  go_wp2_with fail
  refine (l6Open_any _ _ _ _ _ h hn hnc hc).mono ?_
  rintro e w1 ⟨rfl, hr1, b1⟩
  go_wp2_with fail
  refine (l92Traces_any _ _ _ hr1 (by omega)).mono ?_
  rintro e w2 hD
  have HD := hid (drawT_end b1 hD)
  obtain ⟨A2, n2, c2, xss, rfl, _⟩ := hD
  go_wp2_with fail
  go_ret
  exact HD.out
theorem DrawTraceCycle_any (A : Option Addr) (n c : Nat) (bs : List Nat) (w : World) (h : RB w w.heap.size A n bs) (hn : n ≤ 1048576) (hnc : n ≤ c) (hc : c ≤ maxLen) :
    Calls Try.prog 39 #[.slice A n c] w (DrawnT w) := by
  go_enter Try.func39, Try.ntmps39
  go_wp2_with fail
  refine (l6Open_any _ _ _ _ _ h hn hnc hc).mono ?_
  rintro e w1 ⟨rfl, hr1, b1⟩
  go_wp2_with fail
  refine (l92Traces_any _ _ _ hr1 (by omega)).mono ?_
  rintro e w2 hD
  have HD := hid (drawT_end b1 hD)
  obtain ⟨A2, n2, c2, xss, rfl, _⟩ := hD
  go_wp2_with fail
  go_ret
  exact HD.out
theorem big_of {xss : List (List Int)} (h : ∀ xs ∈ xss, xs.length ≤ 10) : ∀ xs ∈ xss, xs.length ≤ 1048576 := fun xs hx => Nat.le_trans (h xs hx) (by omega)
theorem toV_le' (xss : List (List Int)) : (toV xss).length ≤ 12 := by
  unfold toV
  split
  · rw [ints_len]; exact toOk_len xss
  · simp
theorem SLL.at_' {w : World} {n c k : Nat} {A : Option Addr} {xss : List (List Int)} (h : SLL w A n c xss) (hk : k < n) : ∃ ad Ak nk ck xs, A = some ad ∧ w.cell? (ad.add k) = some (.slice Ak nk ck) ∧ Hid (xss[k]? = some xs) ∧ Hid (SL w Ak nk ck xs) := by
  obtain ⟨ad, Ak, nk, ck, xs, h1, _, h2, h3, h4⟩ := h.at_ hk
  exact ⟨ad, Ak, nk, ck, xs, h1, h2, h3, h4⟩
end Go.Proofs.Ytfdgbbapbpflcaa

/- What an exact law does with a result that is a slice of ints. -/
import Derived.Test.YtkhgemgmnchodaaKept
namespace Go.Proofs.Ytkhgemgmnchodaa
open Go.RowKit
theorem own_turned {P : Nat → Prop} {a b : World} {base : Nat} {e : TypeId} {size n : Nat} {v : Value} {xs : List Value} (h : a.ownsRow base e size v n xs) (k : Turned P a b) (hP : ∀ g, P g → g < base) : b.ownsRow base e size v n xs := by
  refine ⟨h.1, ?_⟩
  rcases h.2 with h1 | ⟨g, cap, cur, h1, h2, h3, h4⟩
  · exact .inl h1
  · refine .inr ⟨g, cap, cur, h1, h2, ?_, h4⟩
    rw [k.block g (Blk.lt (t := e) (cs := cur) h3) (fun hp => by have := hP g hp; omega)]
    exact h3
theorem OI.turned {P : Nat → Prop} {w w' : World} {base n c : Nat} {e : TypeId} {A : Option Addr} {xs : List Int} (h : OI w base e A n c xs) (k : Turned P w w') (hP : ∀ g, P g → g < base) : OI w' base e A n c xs := own_turned h k hP
theorem is_same {A A' : Option Addr} {n c n' c' : Nat} {xs : List Int} {w : World} (h : SL w A n c xs) (h' : SL w A' n' c' xs) (hl : xs.length ≤ 1048576) :
    Calls Try.prog 30 #[.slice A n c, .slice A' n' c'] w fun e w' => e = .returned (.bool true) ∧ St w w' :=
  (eqIntS_any A A' n c n' c' _ xs xs w h.ri h'.ri (by have := h.len; omega)).mono fun _ _ ⟨a, b⟩ => ⟨by rw [a]; simp [eqI], b.st⟩
theorem is_mark {A : Option Addr} {n c base : Nat} {xs : List Int} {w : World} (h : OI w base 3 A n c xs) (hl : xs.length ≤ 1048576) :
    Calls Try.prog 32 #[.slice A n c, .int .i64 1] w fun e w' => e = .returned (.int .i64 (1 + n)) ∧ SL w' A n c (marks 1 n) ∧ w.grownBy w' (blockOf A) :=
  (markIntS_any A n c base 1 xs w h (by have := h.len; omega) (by omega) (by omega)).mono fun _ _ ⟨a, b, d⟩ => ⟨a, b.sl, d⟩
theorem is_held {A : Option Addr} {n c : Nat} {xs : List Int} {w : World} (h : SL w A n c (marks 1 n)) (hl : xs.length ≤ 1048576) (hx : xs.length = n) :
    Calls Try.prog 34 #[.slice A n c, .int .i64 1] w fun e w' => e = .returned (.int .i64 (1 + n)) ∧ St w w' :=
  (heldIntS_any A n c _ 1 w h.ri (by omega) (by omega) (by omega)).mono fun _ _ ⟨a, b⟩ => ⟨a, by rw [← b]; exact St.refl _⟩
end Go.Proofs.Ytkhgemgmnchodaa

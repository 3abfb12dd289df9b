/- The contracts of the small functions on lists of ints. -/
import Derived.Test.YtkhgemgmnchodaaProg
import Derived.Test.YtkhgemgmnchodaaBase
namespace Go.Proofs.Ytkhgemgmnchodaa
open Go.RowKit

theorem ret_bool {a b : Bool} (h : a = b) : Ending.returned (.bool a) = .returned (.bool b) := by rw [h]

/-- Is m in the list? -/
def has (xs : List Int) (m : Int) : Bool := xs.contains m

theorem take_snoc {α : Type} {l : List α} {k : Nat} {x : α} (h : l[k]? = some x) : l.take (k + 1) = l.take k ++ [x] := by
  rw [List.take_add_one, h]; rfl
theorem has_hit {xs : List Int} {k : Nat} {x m : Int} (h : xs[k]? = some x) (hx : (x == m) = true) : has xs m = true := by
  simp only [beq_iff_eq] at hx
  subst hx
  simpa [has] using List.mem_of_getElem? h
theorem has_miss {xs : List Int} {k : Nat} {x m : Int} (h : xs[k]? = some x) (hx : (x == m) = false) (hn : has (xs.take k) m = false) : has (xs.take (k + 1)) m = false := by
  simp only [beq_eq_false_iff_ne] at hx
  rw [take_snoc h]
  simp [has] at hn ⊢
  exact ⟨hn, fun e => hx e.symm⟩


/-- A number in bounds. -/
def inB (n lo hi : Int) : Bool := decide (lo ≤ n ∧ n ≤ hi)
theorem inB_iff {n lo hi : Int} : inB n lo hi = true ↔ lo ≤ n ∧ n ≤ hi := by simp [inB]
theorem l6In_any (n lo hi : Int) (w : World) :
    Calls Try.prog 50 #[.int .i64 n, .int .i64 lo, .int .i64 hi] w fun e w' => e = .returned (.bool (inB n lo hi)) ∧ w = w' := by
  by_cases h1 : lo ≤ n
  · go_enter Try.func50, Try.ntmps50
    go_wp2
    go_ret
    exact ⟨ret_bool (by simp [inB, h1]), rfl⟩
  · go_enter Try.func50, Try.ntmps50
    go_wp2
    go_ret
    exact ⟨ret_bool (by simp [inB]; omega), rfl⟩

def isMsg (n : Int) : Bool := inB n 0 11
theorem l11Message_any (n : Int) (w : World) :
    Calls Try.prog 47 #[.int .i64 n] w fun e w' => e = .returned (.bool (isMsg n)) ∧ w = w' := by
  go_enter Try.func47, Try.ntmps47
  go_wp2_with ((refine (l6In_any _ _ _ _).mono ?_); rintro e w' ⟨rfl, rfl⟩)
  go_ret
  exact ⟨rfl, rfl⟩
theorem isMessage_any (n : Int) (w : World) :
    Calls Try.prog 38 #[.int .i64 n] w fun e w' => e = .returned (.bool (isMsg n)) ∧ w = w' := by
  by_cases h1 : 0 ≤ n
  · go_enter Try.func38, Try.ntmps38
    go_wp2
    go_ret
    exact ⟨ret_bool (by simp [isMsg, inB, h1]; omega), rfl⟩
  · go_enter Try.func38, Try.ntmps38
    go_wp2
    go_ret
    exact ⟨ret_bool (by simp [isMsg, inB]; omega), rfl⟩

/-- Are two lists equal? -/
def eqI (xs ys : List Int) : Bool := decide (xs = ys)
theorem eqI_len {xs ys : List Int} (h : xs.length ≠ ys.length) : eqI xs ys = false := by
  simp only [eqI, decide_eq_false_iff_not]
  rintro rfl
  exact h rfl
theorem eqI_miss {xs ys : List Int} {k : Nat} {x y : Int} (h : xs[k]? = some x) (h' : ys[k]? = some y) (hx : (x == y) = false) : eqI xs ys = false := by
  simp only [beq_eq_false_iff_ne] at hx
  simp only [eqI, decide_eq_false_iff_not]
  rintro rfl
  rw [h] at h'
  exact hx (by injection h')
theorem eqI_hit {xs ys : List Int} {k : Nat} {x y : Int} (h : xs[k]? = some x) (h' : ys[k]? = some y) (hx : (x == y) = true) (hk : xs.take k = ys.take k) : xs.take (k + 1) = ys.take (k + 1) := by
  simp only [beq_iff_eq] at hx
  rw [take_snoc h, take_snoc h', hk, hx]
theorem neq_of {x y : Int} {b : Bool} (h : (x == y) = b) : (x != y) = !b := by simp only [bne, h]
theorem eqI_full {xs ys : List Int} {n : Nat} (h1 : xs.length = n) (h2 : ys.length = n) (h : xs.take n = ys.take n) : eqI xs ys = true := by
  rw [List.take_of_length_le (by omega), List.take_of_length_le (by omega)] at h
  simp [eqI, h]
theorem eqIntS_any (A A' : Option Addr) (n c n' c' B : Nat) (xs ys : List Int) (w : World) (h : RI w B A n xs) (h' : RI w B A' n' ys) (hn : n ≤ 140737488351232) :
    Calls Try.prog 30 #[.slice A n c, .slice A' n' c'] w fun e w' => e = .returned (.bool (eqI xs ys)) ∧ Dr w w' := by
  have HL := hid h.len
  have HL' := hid h'.len
  by_cases hnn : n = n'
  · subst hnn
    go_enter Try.func30, Try.ntmps30
    go_wp2
    go_loopw [5] (fun i wr => ∃ k : Nat, k ≤ n ∧ i = .int .i64 k ∧ Hid (xs.take k = ys.take k) ∧ Dr w wr) (fun i _ => n - (intOf i).toNat)
    case atStart => exact ⟨0, Nat.zero_le _, rfl, rfl, Dr.refl _⟩
    case round =>
      obtain ⟨k, hk, rfl, hno, hdr⟩ := hrel
      have h := h.dr hdr
      have h' := h'.dr hdr
      by_cases hlt : k < n
      · obtain ⟨ad, x, rfl, hb, hx, hc⟩ := h.at_ hlt
        obtain ⟨ad', y, rfl, hb', hy, hc'⟩ := h'.at_ hlt
        cases hxm : (x == y)
        · have hm := hid (eqI_miss hx.out hy.out hxm)
          have hne := neq_of hxm
          go_wp2
          go_quiet (fail)
          go_wp2
          go_ret
          exact ⟨ret_bool hm.out.symm, hdr.more _⟩
        · have hm := hid (eqI_hit hx.out hy.out hxm hno.out)
          have hne := neq_of hxm
          go_wp2
          go_quiet (fail)
          go_wp2
          go_roundw
          case rel => exact ⟨k + 1, by omega, by go_num, hm, hdr.more _⟩
          case measure => simp [intOf]; omega
      · obtain rfl : k = n := by omega
        go_wp2
        go_ret
        exact ⟨ret_bool (eqI_full HL.out HL'.out hno.out).symm, hdr⟩
  · have hm := hid (eqI_len (xs := xs) (ys := ys) (by rw [HL.out, HL'.out]; exact hnn))
    have hne : (n : Int) ≠ (n' : Int) := by omega
    go_enter Try.func30, Try.ntmps30
    go_wp2
    go_ret
    exact ⟨ret_bool hm.out.symm, Dr.refl _⟩
theorem sameInts_any (A A' : Option Addr) (n c n' c' B : Nat) (xs ys : List Int) (w : World) (h : RI w B A n xs) (h' : RI w B A' n' ys) (hn : n ≤ 140737488351232) :
    Calls Try.prog 17 #[.slice A n c, .slice A' n' c'] w fun e w' => e = .returned (.bool (eqI xs ys)) ∧ Dr w w' := by
  have HL := hid h.len
  have HL' := hid h'.len
  by_cases hnn : n = n'
  · subst hnn
    go_enter Try.func17, Try.ntmps17
    go_wp2
    go_loopw [5] (fun i wr => ∃ k : Nat, k ≤ n ∧ i = .int .i64 k ∧ Hid (xs.take k = ys.take k) ∧ Dr w wr) (fun i _ => n - (intOf i).toNat)
    case atStart => exact ⟨0, Nat.zero_le _, rfl, rfl, Dr.refl _⟩
    case round =>
      obtain ⟨k, hk, rfl, hno, hdr⟩ := hrel
      have h := h.dr hdr
      have h' := h'.dr hdr
      by_cases hlt : k < n
      · obtain ⟨ad, x, rfl, hb, hx, hc⟩ := h.at_ hlt
        obtain ⟨ad', y, rfl, hb', hy, hc'⟩ := h'.at_ hlt
        cases hxm : (x == y)
        · have hm := hid (eqI_miss hx.out hy.out hxm)
          have hne := neq_of hxm
          go_wp2
          go_quiet (fail)
          go_wp2
          go_ret
          exact ⟨ret_bool hm.out.symm, hdr.more _⟩
        · have hm := hid (eqI_hit hx.out hy.out hxm hno.out)
          have hne := neq_of hxm
          go_wp2
          go_quiet (fail)
          go_wp2
          go_roundw
          case rel => exact ⟨k + 1, by omega, by go_num, hm, hdr.more _⟩
          case measure => simp [intOf]; omega
      · obtain rfl : k = n := by omega
        go_wp2
        go_ret
        exact ⟨ret_bool (eqI_full HL.out HL'.out hno.out).symm, hdr⟩
  · have hm := hid (eqI_len (xs := xs) (ys := ys) (by rw [HL.out, HL'.out]; exact hnn))
    have hne : (n : Int) ≠ (n' : Int) := by omega
    go_enter Try.func17, Try.ntmps17
    go_wp2
    go_ret
    exact ⟨ret_bool hm.out.symm, Dr.refl _⟩

theorem ret_int {k : IntKind} {a b : Int} (h : a = b) : Ending.returned (.int k a) = .returned (.int k b) := by rw [h]
/-- What is left of a size, or -1. -/
def szM (left : Int) (n : Nat) : Int := if left < n then -1 else left - n
theorem intInfo : (Try.prog.info? 3).map (fun i => (i.zero, i.size, i.bytes)) = some (some (.int .i64 0), 1, 8) := by kernel_rfl
theorem markIntS_any (A : Option Addr) (n c base : Nat) (k : Int) (xs : List Int) (w : World) (h : OI w base 3 A n c xs) (hn : n ≤ 1048576) (hk : 0 ≤ k) (hk' : k ≤ 4611686018427387904) :
    Calls Try.prog 32 #[.slice A n c, .int .i64 k] w fun e w' => e = .returned (.int .i64 (k + n)) ∧ OI w' base 3 A n c (marks k n) ∧ w.grownBy w' (blockOf A) := by
  have HL := hid h.len
  go_enter Try.func32, Try.ntmps32
  go_wp2
  go_loopw [1, 5] (fun s t wr => ∃ i : Nat, i ≤ n ∧ t = .int .i64 i ∧ s = .int .i64 (k + i) ∧ Hid (OI wr base 3 A n c (marks k i ++ xs.drop i)) ∧ w.grownBy wr (blockOf A)) (fun _ t _ => n - (intOf t).toNat)
  case atStart => exact ⟨0, Nat.zero_le _, rfl, by simp, h, World.grownBy.refl _ _⟩
  case round =>
    obtain ⟨i, hi, rfl, rfl, ho, hg⟩ := hrel
    by_cases hlt : i < n
    · obtain ⟨g, x, rfl, hb, hgl, hx, hc, hfz, hset⟩ := ho.out.at_ hlt
      obtain ⟨hs1, hs2⟩ := hset (k + i)
      clear hset
      go_wp2
      go_roundw
      case rel =>
        refine ⟨i + 1, by omega, by go_num, ?_, ?_, grown_trans' hg hs2⟩
        · go_num
        · rw [marks_succ, ← set_front rfl (marks_len _ _) (by rw [HL.out]; exact hlt)]; exact hs1
      case measure => simp [intOf]; omega
    · obtain rfl : i = n := by omega
      go_wp2
      go_ret
      refine ⟨rfl, ?_, hg⟩
      have := ho.out
      rwa [List.drop_of_length_le (by rw [HL.out]; omega), List.append_nil] at this
theorem heldIntS_any (A : Option Addr) (n c B : Nat) (k : Int) (w : World) (h : RI w B A n (marks k n)) (hn : n ≤ 1048576) (hk : 0 ≤ k) (hk' : k ≤ 4611686018427387904) :
    Calls Try.prog 34 #[.slice A n c, .int .i64 k] w fun e w' => e = .returned (.int .i64 (k + n)) ∧ w = w' := by
  go_enter Try.func34, Try.ntmps34
  go_wp2
  go_loop [1, 5] (fun s t => ∃ i : Nat, i ≤ n ∧ t = .int .i64 i ∧ s = .int .i64 (k + i)) (fun _ t => n - (intOf t).toNat)
  case atStart => exact ⟨0, Nat.zero_le _, rfl, by simp⟩
  case round =>
    obtain ⟨i, hi, rfl, rfl⟩ := hrel
    by_cases hlt : i < n
    · obtain ⟨ad, x, rfl, hb, hx, hc⟩ := h.at_ hlt
      have hx := hx.out
      rw [marks_at hlt] at hx
      obtain rfl : k + (i : Int) = x := by injection hx
      clear hx
      go_wp2
      go_round
      case rel => exact ⟨i + 1, by omega, by go_num, by go_num⟩
      case measure => simp [intOf]; omega
    · obtain rfl : i = n := by omega
      go_wp2
      go_ret
      exact ⟨rfl, rfl⟩
end Go.Proofs.Ytkhgemgmnchodaa

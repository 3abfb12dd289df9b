/- Traces as the argument of an exact law: size, copy, marks. -/
import Derived.Test.YtfdgbbapbpflcaaTr9
import Derived.Test.YtfdgbbapbpflcaaRes
namespace Go.Proofs.Ytfdgbbapbpflcaa
open Go.RowKit
abbrev RdIss (w : World) (A : Option Addr) (n c : Nat) (xss : List (List Int)) : Prop := SLL w A n c xss
structure FitIss (xss : List (List Int)) : Prop where
  n : xss.length ≤ 1048576
  m : ∀ xs ∈ xss, xs.length ≤ 1048576
structure OwIss (w : World) (base : Nat) (A : Option Addr) (n c : Nat) (xss : List (List Int)) : Prop where
  ol : OLL w base 22 3 A n c xss
/-- n slices of ints that can be marked. -/
def WL (P : Nat → Prop) (w : World) (A : Option Addr) (n : Nat) : Prop := ∀ k, k < n → ∃ g Ak nk ck, A = some ⟨g, 0, none⟩ ∧ w.cell? ⟨g, k, none⟩ = some (.slice Ak nk ck) ∧ WI P w Ak nk ∧ nk ≤ 1048576
theorem WL.kept {P : Nat → Prop} {w w' : World} {A : Option Addr} {n : Nat} (h : WL P w A n) (k : Kept P w w') : WL P w' A n := by
  intro j hj
  obtain ⟨g, Ak, nk, ck, h1, h2, h3, h4⟩ := h j hj
  obtain ⟨u, h5, h6⟩ := k.ck _ _ h2
  obtain rfl := kind_slice h6
  exact ⟨g, Ak, nk, ck, h1, h5, h3.kept k, h4⟩
structure WrIss (P : Nat → Prop) (w : World) (A : Option Addr) (n : Nat) : Prop where
  wl : WL P w A n
  n : n ≤ 1048576
section
variable {w w' : World} {A A' : Option Addr} {n c n' c' base : Nat} {xss : List (List Int)} {P : Nat → Prop}
theorem RdIss.n_ (h : RdIss w A n c xss) (f : FitIss xss) : n ≤ 1048576 := by have := h.len; have := f.n; omega
theorem OwIss.rd (h : OwIss w base A n c xss) : RdIss w A n c xss := h.ol.sll
theorem WrIss.kept (h : WrIss P w A n) (k : Kept P w w') : WrIss P w' A n := ⟨h.wl.kept k, h.n⟩
theorem iss_wr (h : OwIss w base A n c xss) (f : FitIss xss) (hP : ∀ g, base ≤ g → g < w.heap.size → P g) : WrIss P w A n := by
  refine ⟨fun k hk => ?_, h.rd.n_ f⟩
  obtain ⟨h1, hs, h2, h3⟩ := h.ol
  obtain ⟨g, cap, hv, hb, hlt⟩ := World.ownsRow.form h2 (by omega)
  injection hv with hv1 _ hv2
  subst hv1 hv2
  obtain ⟨Ak, nk, ck, xs, h4, h5, h6⟩ := h3 k hk
  refine ⟨g, Ak, nk, ck, rfl, (World.ownsRow.cellAt h2 k (by omega)).trans h4, OI.wi h6 hP, ?_⟩
  have := f.m xs (List.mem_of_getElem? h5)
  have := h6.len
  omega
theorem iss_sz (h : RdIss w A n c xss) : Calls Try.prog 24 #[.slice A n c, .int .i64 1048576] w fun e w' => (∃ r : Int, e = .returned (.int .i64 r) ∧ (r < 0 ∨ FitIss xss)) ∧ St w w' :=
  (szIntSS_any _ _ _ _ _ _ h (by omega) (by omega)).mono fun _ _ ⟨a, b⟩ => ⟨⟨_, a, by
    rcases Int.lt_or_le (szLL 1048576 xss) 0 with hz | hz
    · exact .inl hz
    · right
      have := szLL_bound hz
      exact ⟨by omega, fun xs hx => by have := this.2 xs hx; omega⟩⟩, by subst b; exact St.refl _⟩
theorem iss_to (h : RdIss w A n c xss) (f : FitIss xss) : Calls Try.prog 26 #[.slice A n c] w fun e w' => ∃ A' n' c', e = .returned (.slice A' n' c') ∧ OwIss w' w.heap.size A' n' c' xss ∧ St w w' :=
  (toIntSS_any _ _ _ _ _ h (h.n_ f) f.m).mono fun _ _ ⟨a, b, s, _⟩ => ⟨_, _, _, a, ⟨b⟩, s⟩
theorem iss_same (h : RdIss w A n c xss) (h' : RdIss w A' n' c' xss) (f : FitIss xss) : Calls Try.prog 28 #[.slice A n c, .slice A' n' c'] w fun e w' => e = .returned (.bool true) ∧ St w w' :=
  (eqIntSS_same _ _ _ _ _ _ _ _ h h' (h.n_ f) f.m).mono fun _ _ ⟨a, s⟩ => ⟨by rw [a], s.st⟩
set_option maxHeartbeats 1000000 in
theorem iss_mark (h : WrIss P w A n) (_ : FitIss xss) : Calls Try.prog 36 #[.slice A n c, .int .i64 1] w fun e w' => (∃ r : Int, e = .returned (.int .i64 r) ∧ 0 ≤ r) ∧ Kept P w w' := by
  have H := hid h.wl
  have hn := h.n
  go_enter Try.func36, Try.ntmps36
  go_wp2_with fail
  go_loopw [1, 5] (fun s t wr => ∃ (i : Nat) (r : Int), i ≤ n ∧ t = .int .i64 (i : Int) ∧ s = .int .i64 r ∧ 0 ≤ r ∧ r ≤ 1 + (i : Int) * 1048576 ∧ Hid (Kept P w wr)) (fun _ t _ => n - (intOf t).toNat)
  case atStart => exact ⟨0, 1, Nat.zero_le _, rfl, rfl, by omega, by omega, Kept.refl _⟩
  case round =>
    obtain ⟨i, r, hi, rfl, rfl, hr0, hr1, hg⟩ := hrel
    by_cases hlt : i < n
    · obtain ⟨g, Ak, nk, ck, rfl, hc, hw, hnk⟩ := (H.out.kept hg.out) i hlt
      go_wp2_with fail
      refine (markIntS_w P _ _ _ _ _ hw hnk hr0 (by omega)).mono ?_
      rintro e w1 ⟨rfl, k1⟩
      have hk2 := hid (hg.out.trans k1)
      clear k1 hc hw
      go_wp2_with fail
      go_roundw
      case rel => exact ⟨i + 1, r + nk, by omega, by go_num, rfl, by omega, by omega, hk2⟩
      case measure => simp [intOf]; omega
    · obtain rfl : i = n := by omega
      go_wp2_with fail
      go_ret
      exact ⟨⟨r, rfl, hr0⟩, hg.out⟩
theorem TraceOrder_r (h : RdIss w A n c xss) (f : FitIss xss) : Calls Try.prog 31 #[.slice A n c] w (TOEnd xss w) := TraceOrder_any _ _ _ _ _ h (h.n_ f) f.m
theorem specTraceOrder_r (h : RdIss w A n c xss) (f : FitIss xss) : Calls Try.prog 35 #[.slice A n c] w (TOEndS xss w) := specTraceOrder_any _ _ _ _ _ h (h.n_ f) f.m
theorem toV_le (xss : List (List Int)) : (toV xss).length ≤ 12 := by
  unfold toV
  split
  · rw [ints_len]; exact toOk_len xss
  · simp
theorem TraceOrder_r_le (_ : FitIss xss) : (toV xss).length ≤ 1048576 := Nat.le_trans (toV_le xss) (by omega)
end
end Go.Proofs.Ytfdgbbapbpflcaa

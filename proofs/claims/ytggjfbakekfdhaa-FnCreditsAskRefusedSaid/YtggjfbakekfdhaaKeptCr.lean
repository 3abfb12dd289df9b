/- The marks of credits that the call owns: what they keep. -/
import Derived.Test.YtggjfbakekfdhaaKept
import Derived.Test.YtggjfbakekfdhaaCr6
namespace Go.Proofs.Ytggjfbakekfdhaa
open Go.RowKit

/-- n holds that can be marked. -/
def WH (P : Nat → Prop) (w : World) (A : Option Addr) (n : Nat) : Prop := ∀ k, k < n → ∃ g Ak nk ck t, A = some ⟨g, 0, none⟩ ∧ P g ∧ w.cell? ⟨g, k * 2, none⟩ = some (.slice Ak nk ck) ∧ w.cell? ⟨g, k * 2 + 1, none⟩ = some (.int .i64 t) ∧ w.frozen? ⟨g, k * 2 + 1, none⟩ = false ∧ WI P w Ak nk ∧ nk ≤ 1048576
theorem WH.kept {P : Nat → Prop} {w w' : World} {A : Option Addr} {n : Nat} (h : WH P w A n) (k : Kept P w w') : WH P w' A n := by
  intro j hj
  obtain ⟨g, Ak, nk, ck, t, h1, h2, h3, h4, h5, h6, h7⟩ := h j hj
  obtain ⟨u, h8, h9⟩ := k.ck _ _ h3
  obtain rfl := kind_slice h9
  obtain ⟨v, h10, h11⟩ := k.ck _ _ h4
  obtain ⟨y, rfl⟩ := kind_int h11
  exact ⟨g, Ak, nk, ck, y, h1, h2, h8, h10, (k.fz _ _ h4).trans h5, h6.kept k, h7⟩
theorem OHL.wh {P : Nat → Prop} {w : World} {base n c : Nat} {A : Option Addr} {hs : List (List Int × Int)} (h : OHL w base A n c hs) (hn2 : ∀ x ∈ hs, x.1.length ≤ 1048576) (hP : ∀ g, base ≤ g → g < w.heap.size → P g) : WH P w A n := by
  obtain ⟨h1, vs, h2, h3⟩ := h
  intro j hj
  obtain ⟨Ak, nk, ck, xs, t, h4, h5, h6⟩ := h3 j hj
  obtain ⟨g, cap, hv, hb, hlt⟩ := World.ownsRow.form h2 (by omega)
  injection hv with hv1 _ hv2
  subst hv1
  obtain ⟨hq1, hq2⟩ := holdCells_at vs j _ _ h4
  refine ⟨g, Ak, nk, ck, t, rfl, hP g hb hlt, (h2.cellAt (j * 2) (by omega)).trans hq1, (h2.cellAt (j * 2 + 1) (by omega)).trans hq2, h2.frozenAt _, h6.wi hP, ?_⟩
  have := hn2 _ (List.mem_of_getElem? h5)
  rw [h6.len] at this
  exact this
set_option maxHeartbeats 1000000 in
theorem markHoldS_w (P : Nat → Prop) (A : Option Addr) (n c : Nat) (k : Int) (w : World) (h : WH P w A n) (hn : n ≤ 1048576) (hk : 0 ≤ k) (hk' : k ≤ 4611686018) :
    Calls Try.prog 48 #[.slice A n c, .int .i64 k] w fun e w' => (∃ m : Int, e = .returned (.int .i64 m) ∧ 0 ≤ m) ∧ Kept P w w' := by
  go_enter Try.func48, Try.ntmps48
  go_wp2_with fail
  go_loopw [1, 5] (fun s t wr => ∃ (i : Nat) (q : Int), i ≤ n ∧ t = .int .i64 i ∧ s = .int .i64 q ∧ 0 ≤ q ∧ q ≤ k + i * 1048577 ∧ Hid (Kept P w wr)) (fun _ t _ => n - (intOf t).toNat)
  case atStart => exact ⟨0, k, Nat.zero_le _, rfl, rfl, hk, by omega, Kept.refl _⟩
  case round =>
    obtain ⟨i, q, hi, rfl, rfl, hq1, hq2, hg⟩ := hrel
    by_cases hlt : i < n
    · obtain ⟨g, Ak, nk, ck, t, rfl, hP, hc0, hc1, hf, hwi, hnk⟩ := (h.kept hg.out) i hlt
      go_wp2_with fail
      refine (markIntS_w P _ _ _ _ _ hwi hnk hq1 (by omega)).mono ?_
      rintro e w1 ⟨rfl, k1⟩
      obtain ⟨g', Ak', nk', ck', t', he, hP', hc0', hc1', hf', _, _⟩ := (h.kept (hg.out.trans k1)) i hlt
      injection he with he
      injection he with he
      subst he
      have hk2 := hid ((hg.out.trans k1).trans (Kept.set w1 g (i * 2 + 1) (.int .i64 (q + nk)) hc1' (.inl ⟨_, _, _, rfl, rfl⟩) hP))
      clear hc0 hc1 hf k1
      go_wp2_with fail
      go_roundw
      case rel => exact ⟨i + 1, q + nk + 1, by omega, by go_num, rfl, by omega, by omega, hk2⟩
      case measure => simp [intOf]; omega
    · obtain rfl : i = n := by omega
      go_wp2_with fail
      go_ret
      exact ⟨⟨q, rfl, hq1⟩, hg.out⟩
theorem markCredits_w (P : Nat → Prop) (A B : Option Addr) (n c m d : Nat) (k : Int) (w : World) (h : WI P w A n) (h' : WH P w B m) (hn : n ≤ 1048576) (hm : m ≤ 1048576) (hk : 0 ≤ k) (hk' : k ≤ 1048576) :
    Calls Try.prog 20 #[crV A n c B m d, .int .i64 k] w fun e w' => (∃ m : Int, e = .returned (.int .i64 m) ∧ 0 ≤ m) ∧ Kept P w w' := by
  have k0 : Kept P w (w.alloc (.cells #[.slice A n c, .slice B m d] 25)) := Kept.of_st ((St.refl w).alloc _)
  have h1 := h.kept k0
  have hb := Blk.new w 25 #[.slice A n c, .slice B m d]
  have q1 := hb.cell_ (i := 1) (v := .slice B m d) rfl
  have HK := hid k0
  clear k0
  go_enter Try.func20, Try.ntmps20
  go_wp2_with fail
  refine (markIntS_w P _ _ _ _ _ h1 hn hk (by omega)).mono ?_
  rintro e w1 ⟨rfl, k1⟩
  have h2 := (h'.kept HK.out).kept k1
  have hx : ∃ u, w1.cell? ⟨w.heap.size, 1, none⟩ = some u ∧ kindEq (.slice B m d) u := k1.ck _ _ q1
  obtain ⟨u, q2, hu⟩ := hx
  obtain rfl := kind_slice hu
  go_wp2_with fail
  refine (markHoldS_w P _ _ _ _ _ h2 hm (by omega) (by omega)).mono ?_
  rintro e w2 ⟨⟨m', rfl, hm'⟩, k2⟩
  go_wp2_with fail
  go_ret
  exact ⟨⟨m', rfl, hm'⟩, (HK.out.trans k1).trans k2⟩
end Go.Proofs.Ytggjfbakekfdhaa

/- Entries and groups: the laws' marks; groups by value. -/
import Derived.Test.YtkhgemgmnchodaaEn1
namespace Go.Proofs.Ytkhgemgmnchodaa
open Go.RowKit Go.Sort
/-- The marks of entries. -/
def emk (k : Int) : Ent := (k, (k + 1, k + 1 + 1), (k + 1 + 1 + 1) % 3 == 0)
def emarks (k : Int) (n : Nat) : List Ent := (List.range n).map fun (i : Nat) => emk (k + 4 * (i : Int))
theorem emarks_len (k : Int) (n : Nat) : (emarks k n).length = n := by simp [emarks]
theorem emarks_at {k : Int} {n i : Nat} (h : i < n) : (emarks k n)[i]? = some (emk (k + 4 * i)) := by simp [emarks, h]
theorem emarks_succ (k : Int) (n : Nat) : emarks k (n + 1) = emarks k n ++ [emk (k + 4 * n)] := by simp [emarks, List.range_succ]
set_option maxHeartbeats 1000000 in
theorem markEntryS_any (A : Option Addr) (n c base : Nat) (k : Int) (es : List Ent) (w : World) (h : OE w base A n c es) (hn : n ≤ 1048576) (hk : 0 ≤ k) (hk' : k ≤ 4611686018427387904) :
    Calls Try.prog 61 #[.slice A n c, .int .i64 k] w fun e w' => e = .returned (.int .i64 (k + 4 * n)) ∧ OE w' base A n c (emarks k n) ∧ w.grownBy w' (blockOf A) := by
  have HL := hid h.1
  go_enter Try.func61, Try.ntmps61
  go_wp2_with fail
  go_loopw [1, 5] (fun s t wr => ∃ i : Nat, i ≤ n ∧ t = .int .i64 i ∧ s = .int .i64 (k + 4 * i) ∧ Hid (OE wr base A n c (emarks k i ++ es.drop i)) ∧ w.grownBy wr (blockOf A)) (fun _ t _ => n - (intOf t).toNat)
  case atStart => exact ⟨0, Nat.zero_le _, rfl, by simp, h, World.grownBy.refl _ _⟩
  case round =>
    obtain ⟨i, hi, rfl, rfl, ho, hg⟩ := hrel
    by_cases hlt : i < n
    · obtain ⟨b, m, t, g, f, rfl, hb, hbl, hx, hea, hfz, hset⟩ := ho.out.at_ hlt
      have z0 := hea.c0
      have z1 := hea.c1
      have z2 := hea.c2
      have z3 := hea.c3
      have y0 := hfz (i * 4)
      have y1 := hfz (i * 4 + 1)
      have y2 := hfz (i * 4 + 2)
      have y3 := hfz (i * 4 + 3)
      obtain ⟨hs1, hs2⟩ := hset (k + 4 * i) (k + 4 * i + 1) (k + 4 * i + 1 + 1) ((k + 4 * i + 1 + 1 + 1) % 3 == 0)
      have HG := hid (grown_trans' hg hs2)
      have HS1 := hid (show OE (setE wr b (i * 4) (k + 4 * i) (k + 4 * i + 1) (k + 4 * i + 1 + 1) ((k + 4 * i + 1 + 1 + 1) % 3 == 0)) base (some ⟨b, 0, none⟩) n c (emarks k (i + 1) ++ es.drop (i + 1)) by
        rw [emarks_succ, ← set_front rfl (emarks_len _ _) (by rw [HL.out]; exact hlt)]; exact hs1.out)
      clear hset hfz hea hs1 hs2 hg
      go_wp2_with fail
      go_roundw
      case rel =>
        refine ⟨i + 1, by omega, by go_num, ?_, HS1, HG.out⟩
        · go_num
      case measure => simp [intOf]; omega
    · obtain rfl : i = n := by omega
      go_wp2_with fail
      go_ret
      refine ⟨rfl, ?_, hg⟩
      have := ho.out
      rwa [List.drop_of_length_le (by rw [HL.out]; omega), List.append_nil] at this
set_option maxHeartbeats 1000000 in
theorem heldEntryS_any (A : Option Addr) (n c : Nat) (k : Int) (w : World) (h : SE w A n c (emarks k n)) (hn : n ≤ 1048576) (hk : 0 ≤ k) (hk' : k ≤ 4611686018427387904) :
    Calls Try.prog 62 #[.slice A n c, .int .i64 k] w fun e w' => e = .returned (.int .i64 (k + 4 * n)) ∧ w = w' := by
  go_enter Try.func62, Try.ntmps62
  go_wp2_with fail
  go_loop [1, 5] (fun s t => ∃ i : Nat, i ≤ n ∧ t = .int .i64 i ∧ s = .int .i64 (k + 4 * i)) (fun _ t => n - (intOf t).toNat)
  case atStart => exact ⟨0, Nat.zero_le _, rfl, by simp⟩
  case round =>
    obtain ⟨i, hi, rfl, rfl⟩ := hrel
    by_cases hlt : i < n
    · obtain ⟨ad, m, t, g, f, rfl, hb, hx, hc0, hc1, hc2, hc3⟩ := h.at_ hlt
      have hx := hx.out
      rw [emarks_at hlt] at hx
      simp only [emk, Option.some.injEq, Prod.mk.injEq] at hx
      obtain ⟨rfl, ⟨rfl, rfl⟩, rfl⟩ := hx
      go_wp2_with fail
      go_round
      case rel => exact ⟨i + 1, by omega, by go_num, by go_num⟩
      case measure => simp [intOf]; omega
    · obtain rfl : i = n := by omega
      go_wp2_with fail
      go_ret
      exact ⟨rfl, rfl⟩
/-- n entries that can be marked. -/
def WE (P : Nat → Prop) (w : World) (A : Option Addr) (n : Nat) : Prop := ∀ k, k < n → ∃ b m t g f, A = some ⟨b, 0, none⟩ ∧ P b ∧ EAt w b (k * 4) m t g f ∧ (∀ j, j < 4 → w.frozen? ⟨b, k * 4 + j, none⟩ = false)
theorem WE.kept {P : Nat → Prop} {w w' : World} {A : Option Addr} {n : Nat} (h : WE P w A n) (k : Kept P w w') : WE P w' A n := by
  intro j hj
  obtain ⟨b, m, t, g, f, h1, h2, h3, h4⟩ := h j hj
  obtain ⟨u0, a0, b0⟩ := k.ck _ _ h3.c0
  obtain ⟨y0, rfl⟩ := kind_int b0
  obtain ⟨u1, a1, b1⟩ := k.ck _ _ h3.c1
  obtain ⟨y1, rfl⟩ := kind_int b1
  obtain ⟨u2, a2, b2⟩ := k.ck _ _ h3.c2
  obtain ⟨y2, rfl⟩ := kind_int b2
  obtain ⟨u3, a3, b3⟩ := k.ck _ _ h3.c3
  obtain ⟨y3, rfl⟩ := kind_bool b3
  refine ⟨b, y0, y1, y2, y3, h1, h2, ⟨a0, a1, a2, a3⟩, fun i hi => ?_⟩
  match i, hi with
  | 0, _ => exact (k.fz _ _ h3.c0).trans (h4 0 (by omega))
  | 1, _ => exact (k.fz _ _ h3.c1).trans (h4 1 (by omega))
  | 2, _ => exact (k.fz _ _ h3.c2).trans (h4 2 (by omega))
  | 3, _ => exact (k.fz _ _ h3.c3).trans (h4 3 (by omega))
  | i + 4, hi => omega
theorem OE.we {P : Nat → Prop} {w : World} {base n c : Nat} {A : Option Addr} {es : List Ent} (h : OE w base A n c es) (hP : ∀ g, base ≤ g → g < w.heap.size → P g) : WE P w A n := by
  intro j hj
  obtain ⟨b, m, t, g, f, h1, h2, h3, _, h4, h5, _⟩ := h.at_ hj
  exact ⟨b, m, t, g, f, h1, hP b h2 h3, h4, fun i _ => h5 _⟩
theorem EAt.kset {P : Nat → Prop} {w : World} {b o : Nat} {m t g : Int} {f : Bool} (h : EAt w b o m t g f) (hP : P b) (m' t' g' : Int) (f' : Bool) : Kept P w (setE w b o m' t' g' f') := by
  have k0 := Kept.set (P := P) w b o (.int .i64 m') h.c0 (.inl ⟨_, _, _, rfl, rfl⟩) hP
  have n1 : (w.setCell ⟨b, o, none⟩ (.int .i64 m')).cell? ⟨b, o + 1, none⟩ = some (.int .i64 t) := (World.cell?_setCell_other w _ _ _ (by simp)).trans h.c1
  have k1 := Kept.set (P := P) _ b (o + 1) (.int .i64 t') n1 (.inl ⟨_, _, _, rfl, rfl⟩) hP
  have n2 : ((w.setCell ⟨b, o, none⟩ (.int .i64 m')).setCell ⟨b, o + 1, none⟩ (.int .i64 t')).cell? ⟨b, o + 2, none⟩ = some (.int .i64 g) := (World.cell?_setCell_other _ _ _ _ (by simp)).trans ((World.cell?_setCell_other w _ _ _ (by simp)).trans h.c2)
  have k2 := Kept.set (P := P) _ b (o + 2) (.int .i64 g') n2 (.inl ⟨_, _, _, rfl, rfl⟩) hP
  have n3 : (((w.setCell ⟨b, o, none⟩ (.int .i64 m')).setCell ⟨b, o + 1, none⟩ (.int .i64 t')).setCell ⟨b, o + 2, none⟩ (.int .i64 g')).cell? ⟨b, o + 3, none⟩ = some (.bool f) := (World.cell?_setCell_other _ _ _ _ (by simp)).trans ((World.cell?_setCell_other _ _ _ _ (by simp)).trans ((World.cell?_setCell_other w _ _ _ (by simp)).trans h.c3))
  have k3 := Kept.set (P := P) _ b (o + 3) (.bool f') n3 (.inr (.inl ⟨_, _, rfl, rfl⟩)) hP
  exact ((k0.trans k1).trans k2).trans k3
set_option maxHeartbeats 1000000 in
theorem markEntryS_w (P : Nat → Prop) (A : Option Addr) (n c : Nat) (k : Int) (w : World) (h : WE P w A n) (hn : n ≤ 1048576) (hk : 0 ≤ k) (hk' : k ≤ 4611686018427387904) :
    Calls Try.prog 61 #[.slice A n c, .int .i64 k] w fun e w' => e = .returned (.int .i64 (k + 4 * n)) ∧ Kept P w w' := by
  go_enter Try.func61, Try.ntmps61
  go_wp2_with fail
  go_loopw [1, 5] (fun s t wr => ∃ i : Nat, i ≤ n ∧ t = .int .i64 i ∧ s = .int .i64 (k + 4 * i) ∧ Hid (Kept P w wr)) (fun _ t _ => n - (intOf t).toNat)
  case atStart => exact ⟨0, Nat.zero_le _, rfl, by simp, Kept.refl _⟩
  case round =>
    obtain ⟨i, hi, rfl, rfl, hg⟩ := hrel
    by_cases hlt : i < n
    · obtain ⟨b, m, t, g, f, rfl, hP, hea, hfz⟩ := (h.kept hg.out) i hlt
      have z0 := hea.c0
      have z1 := hea.c1
      have z2 := hea.c2
      have z3 := hea.c3
      have y0 : wr.frozen? ⟨b, i * 4, none⟩ = false := hfz 0 (by omega)
      have y1 := hfz 1 (by omega)
      have y2 := hfz 2 (by omega)
      have y3 := hfz 3 (by omega)
      have K2 := hid (hg.out.trans (hea.kset hP (k + 4 * i) (k + 4 * i + 1) (k + 4 * i + 1 + 1) ((k + 4 * i + 1 + 1 + 1) % 3 == 0)))
      clear hea hfz
      go_wp2_with fail
      go_roundw
      case rel => exact ⟨i + 1, by omega, by go_num, by go_num, K2⟩
      case measure => simp [intOf]; omega
    · obtain rfl : i = n := by omega
      go_wp2_with fail
      go_ret
      exact ⟨rfl, hg.out⟩
end Go.Proofs.Ytkhgemgmnchodaa

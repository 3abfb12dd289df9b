/- clone of stamps, copyRound. -/
import Derived.Test.YtldclkjknhjbfaaRd9
namespace Go.Proofs.Ytldclkjknhjbfaa
open Go.RowKit Go.Sort
/-- A slice of stamps that a function has made: new. -/
def MadeS (w : World) (ss : List (Int × Int)) (e : Ending) (w' : World) : Prop := ∃ A c, e = .returned (.slice A ss.length c) ∧ OS w' w.heap.size A ss.length c ss ∧ St w w'
theorem cloneStamp_any (A : Option Addr) (n c : Nat) (ss : List (Int × Int)) (w : World) (h : SS w A n c ss) (hn : n ≤ 1048576) :
    Calls Try.prog 83 #[.slice A n c] w (MadeS w ss) := by
  obtain ⟨i0, hi0, hz0, hz1, hz2⟩ := info_parts stampInfo
  have HL := hid h.len
  have HR := hid h.reads
  have HS2 := hid (show (Value.agg #[.int .i64 0, .int .i64 0]).cells.size = 2 from rfl)
  go_enter Try.func83, Try.ntmps83
  go_wp2_with (first
    | (at_make; refine wpList_make_own _ rfl _ _ 23 rfl w.heap.size 45 i0 (.agg #[.int .i64 0, .int .i64 0]) 2 Try.underlying23 hi0 hz0 hz1 _ _ _ n rfl rfl rfl (by rw [hz2]; omega) (by unfold maxLen; omega) (Nat.le_refl _) ?_; intro w1 hown hgrow; have s1 : St w w1 := St.grown (St.refl w) hgrow (by simp); have h1 := hid (HR.out.below s1))
    | (at_builtin; refine wpList_append_rows _ rfl _ _ 23 rfl w.heap.size 45 2 16 (.agg #[.int .i64 0, .int .i64 0]) Try.underlying23 stampInfo rfl (by omega) (some ⟨w.heap.size, 0, none⟩) 0 n [] rfl hown _ A n c (stampCells ss) rfl h1.out (stampCells_one _) (by omega) (by omega) s1.size ?_; intro X a w2 ho2 hg2))
  have s2 : St w w2 := St.grown s1 hg2 (fun k hk => by injection hk with hk; subst hk; exact Nat.le_refl _)
  go_wp2_with fail
  go_ret
  have hl := HL.out
  refine ⟨X, a, ?_, ?_, s2⟩
  · rw [hl]; simp
  · rw [hl]; exact ⟨hl, by simpa using ho2⟩
/-- The result of a copy. -/
def MadeRd (M : Int) (xs : List Int) (ss : List (Int × Int)) (w : World) (e : Ending) (w' : World) : Prop :=
  ∃ A c B d, e = .returned (rdV M A xs.length c B ss.length d) ∧ OI w' w.heap.size 3 A xs.length c xs ∧ OS w' w.heap.size B ss.length d ss ∧ St w w'
set_option maxRecDepth 100000 in
set_option maxHeartbeats 2000000 in
theorem copyRound_any (M : Int) (A B : Option Addr) (n c q d : Nat) (xs : List Int) (ss : List (Int × Int)) (w : World) (h : SL w A n c xs) (h' : SS w B q d ss) (hn : n ≤ 1048576) (hq : q ≤ 1048576) :
    Calls Try.prog 72 #[rdV M A n c B q d] w (MadeRd M xs ss w) := by
  have s0 := ((St.refl w).alloc (.cells #[.int .i64 M, .slice A n c, .slice B q d] 25)).alloc (.cells #[.int .i64 0, .slice none 0 0, .slice none 0 0] 25)
  have K0 := hid ((Blk.new w 25 #[.int .i64 M, .slice A n c, .slice B q d]).alloc (.cells #[.int .i64 0, .slice none 0 0, .slice none 0 0] 25))
  have K1 := hid (blk_second w (.cells #[.int .i64 M, .slice A n c, .slice B q d] 25) 25 #[.int .i64 0, .slice none 0 0, .slice none 0 0])
  have S0 := hid s0
  have I0 := hid (h.st s0)
  have J0 := hid (h'.st s0)
  have HZ := hid (show ((w.alloc (.cells #[.int .i64 M, .slice A n c, .slice B q d] 25)).alloc (.cells #[.int .i64 0, .slice none 0 0, .slice none 0 0] 25)).heap.size = w.heap.size + 2 by rw [World.heap_alloc_size', World.heap_alloc_size'])
  clear s0
  go_enter Try.func72, Try.ntmps72
  go_wp2_with fail
  generalize (w.alloc (.cells #[.int .i64 M, .slice A n c, .slice B q d] 25)).alloc (.cells #[.int .i64 0, .slice none 0 0, .slice none 0 0] 25) = w0 at K0 K1 S0 I0 J0 HZ ⊢
  have K0 := hid (K0.out.dr (w' := w0.drew) ⟨1, rfl⟩)
  have K1 := hid (K1.out.dr (w' := w0.drew) ⟨1, rfl⟩)
  have S0 := hid S0.out.drew
  have I0 := hid (I0.out.dr (w' := w0.drew) ⟨1, rfl⟩)
  have J0 := hid (J0.out.dr (w' := w0.drew) ⟨1, rfl⟩)
  have HZ := hid (show w0.drew.heap.size = w.heap.size + 2 from HZ.out)
  have u0 := K0.out.cell_ (i := 0) (v := .int .i64 M) rfl
  have u1 := K0.out.cell_ (i := 1) (v := .slice A n c) rfl
  have u2 := K0.out.cell_ (i := 2) (v := .slice B q d) rfl
  go_region_held3 (fun w' => w'.cell? ⟨w.heap.size, 0, none⟩ = some (.int .i64 M) ∧ w'.cell? ⟨w.heap.size, 1, none⟩ = some (.slice A n c) ∧ w'.cell? ⟨w.heap.size, 2, none⟩ = some (.slice B q d)) (first | with_reducible exact ⟨u0, u1, u2⟩ | with_reducible exact ⟨v0, v1, v2⟩ | with_reducible exact ⟨t0, t1, t2⟩ | exact ⟨f0, f1, f2⟩)
    (first
      | (go_at_call 51; (with_reducible refine (cloneInt_any A n c xs _ I0.out.ri (by omega)).mono ?_); rintro e w5 ⟨A5, c5, rfl, o5, s5⟩; have K5 := hid (K0.out.below s5 K0.out.lt); have L5 := hid (K1.out.below s5 K1.out.lt); have J5 := hid (J0.out.st s5); have S5 := hid (S0.out.trans s5); have v0 := K5.out.cell_ (i := 0) (v := .int .i64 M) rfl; have v1 := K5.out.cell_ (i := 1) (v := .slice A n c) rfl; have v2 := K5.out.cell_ (i := 2) (v := .slice B q d) rfl)
      | (go_at_call 83; (with_reducible refine (cloneStamp_any B q d ss _ J5.out hq).mono ?_); rintro e w6 ⟨B6, d6, rfl, p6, s6⟩; have K6 := hid (K5.out.below s6 K5.out.lt); have L6 := hid (L5.out.below s6 L5.out.lt); have S6 := hid (S5.out.trans s6); have o6 := own_below o5 s6; have t0 := K6.out.cell_ (i := 0) (v := .int .i64 M) rfl; have t1 := K6.out.cell_ (i := 1) (v := .slice A n c) rfl; have t2 := K6.out.cell_ (i := 2) (v := .slice B q d) rfl; have y0 := L6.out.cell_ (i := 0) (v := .int .i64 0) rfl; have y1 := L6.out.cell_ (i := 1) (v := .slice none 0 0) rfl; have y2 := L6.out.cell_ (i := 2) (v := .slice none 0 0) rfl; have x0 := L6.out.frozen 0; have x1 := L6.out.frozen 1; have x2 := L6.out.frozen 2; have H6 := hid (raFin (base := w.heap.size + 2) M L6.out (OI.less o6 (Nat.le_of_eq HZ.out.symm)) (p6.less (Nat.le_trans (Nat.le_of_eq HZ.out.symm) s5.size)) S6.out (Nat.le_succ _) (Nat.lt_succ_self _) rfl); have F6 := hid (((K6.out.far (p := ⟨w.heap.size + 1, 0, none⟩) (by simp) (.int .i64 M)).far (p := ⟨w.heap.size + 1, 1, none⟩) (by simp) (.slice A5 xs.length c5)).far (p := ⟨w.heap.size + 1, 2, none⟩) (by simp) (.slice B6 ss.length d6)); have f0 := F6.out.cell_ (i := 0) (v := .int .i64 M) rfl; have f1 := F6.out.cell_ (i := 1) (v := .slice A n c) rfl; have f2 := F6.out.cell_ (i := 2) (v := .slice B q d) rfl))
  have HE := H6.out
  have e0 := HE.out.1.cell_ (i := 0) (v := .int .i64 M) rfl
  have e1 := HE.out.1.cell_ (i := 1) (v := .slice A5 xs.length c5) rfl
  have e2 := HE.out.1.cell_ (i := 2) (v := .slice B6 ss.length d6) rfl
  go_wp2_with fail
  refine bodyPost_ret (v := .agg #[.int .i64 M, .slice A5 xs.length c5, .slice B6 ss.length d6]) (by simp [results, Try.results72, go_sem, e0, e1, e2]) rfl ?_
  exact ⟨A5, c5, B6, d6, rfl, HE.out.2.1, HE.out.2.2.1, HE.out.2.2.2⟩
end Go.Proofs.Ytldclkjknhjbfaa

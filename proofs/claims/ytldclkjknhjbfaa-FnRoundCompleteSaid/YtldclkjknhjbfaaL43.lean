/- FnRoundComplete returns true. -/
import Derived.Test.YtldclkjknhjbfaaRd15
import Derived.Test.YtldclkjknhjbfaaDrawRd3
import Derived.Test.YtldclkjknhjbfaaSameRd
namespace Go.Proofs.Ytldclkjknhjbfaa
open Go.RowKit Go.Sort
theorem SL.row {w w' : World} {A : Option Addr} {n c R : Nat} {xs : List Int} (h : SL w A n c xs) (hg : w.grownBy w' (some R)) (hA : 0 < n → blockOf A ≠ some R) : SL w' A n c xs := by
  refine ⟨?_, h.nc, h.cm⟩
  rcases Nat.eq_zero_or_pos n with h0 | h0
  · subst h0
    exact ⟨h.ri.1, fun hn => absurd hn (by omega)⟩
  · exact (h.ri.row hg (Nat.le_refl _) (hA h0)).more hg.size
theorem SS.row {w w' : World} {A : Option Addr} {n c R : Nat} {ss : List (Int × Int)} (h : SS w A n c ss) (hg : w.grownBy w' (some R)) (hA : 0 < n → blockOf A ≠ some R) : SS w' A n c ss := by
  refine ⟨h.len, h.nc, h.cm, fun hn => ?_⟩
  obtain ⟨ad, rfl, h2, h3⟩ := h.rd hn
  have hne : ad.block ≠ R := fun e => hA hn (by rw [← e]; rfl)
  refine ⟨ad, rfl, Nat.lt_of_lt_of_le h2 hg.size, fun k hk => ?_⟩
  obtain ⟨t, g, h4, h5, h6⟩ := h3 k hk
  refine ⟨t, g, (World.cell?_of_block (w := w) (hg.block _ (by rw [block_of_add]; exact h2) ?_)).trans h4, (World.cell?_of_block (w := w) (hg.block _ (by rw [block_of_add]; exact h2) ?_)).trans h5, h6⟩
  · rw [block_of_add]; exact fun e => hne (by simpa using e)
  · rw [block_of_add]; exact fun e => hne (by simpa using e)
theorem SL.far {w : World} {A : Option Addr} {n c R : Nat} {xs : List Int} (h : SL w A n c xs) (hR : w.heap.size ≤ R) : 0 < n → blockOf A ≠ some R := by
  intro hn
  obtain ⟨ad, rfl, hb, _⟩ := h.ri.2 hn
  intro e
  have : ad.block = R := by simpa [blockOf] using e
  omega
theorem SS.far {w : World} {A : Option Addr} {n c R : Nat} {ss : List (Int × Int)} (h : SS w A n c ss) (hR : w.heap.size ≤ R) : 0 < n → blockOf A ≠ some R := by
  intro hn
  obtain ⟨ad, rfl, hb, _⟩ := h.rd hn
  intro e
  have : ad.block = R := by simpa [blockOf] using e
  omega
theorem rd_set3 {W : World} {b : Nat} {v0 v1 v2 : Value} (M : Int) (A : Option Addr) (n c : Nat) (B : Option Addr) (q d : Nat) (hk : Blk W b 25 #[v0, v1, v2]) {W' : World} (hW : W' = ((W.setCell ⟨b, 0, none⟩ (.int .i64 M)).setCell ⟨b, 1, none⟩ (.slice A n c)).setCell ⟨b, 2, none⟩ (.slice B q d)) :
    Blk W' b 25 #[.int .i64 M, .slice A n c, .slice B q d] ∧ W.grownBy W' (some b) := by
  subst hW
  exact ⟨((hk.set_ 0 _).set_ 1 _).set_ 2 _, grown_trans' (grown_trans' (World.grownBy_set W b 0 _) (World.grownBy_set _ b 1 _)) (World.grownBy_set _ b 2 _)⟩
/-- The round that is being filled, in its block. -/
structure LY (w6 W : World) (b : Nat) (M : Int) (A : Option Addr) (n c : Nat) (B : Option Addr) (q d : Nat) (xs : List Int) (ss ps : List (Int × Int)) (k : Nat) : Prop where
  kb : Blk W b 25 #[.int .i64 M, .slice A n c, .slice B q d]
  i : RdRd W M A n c B q d xs ps
  na : 0 < n → blockOf A ≠ some b
  nb : 0 < q → blockOf B ≠ some b
  f : Filled M xs ss k ps
  s : St w6 W
  eb : b = w6.heap.size
theorem LY.st {w6 W W' : World} {b : Nat} {M : Int} {A : Option Addr} {n c : Nat} {B : Option Addr} {q d : Nat} {xs : List Int} {ss ps : List (Int × Int)} {k : Nat} (h : LY w6 W b M A n c B q d xs ss ps k) (s : St W W') : LY w6 W' b M A n c B q d xs ss ps k :=
  ⟨h.kb.st s, h.i.st s, h.na, h.nb, h.f, h.s.trans s, h.eb⟩
/-- Behind a further stamp: a new round stands in a block of its own, then in the filled one's. -/
theorem LY.next {w6 W W1 W2 : World} {b bz k0 : Nat} {M : Int} {A : Option Addr} {n c : Nat} {B : Option Addr} {q d : Nat} {xs : List Int} {ss ps : List (Int × Int)} {k : Nat} (h : LY w6 W b M A n c B q d xs ss ps k)
    {A' : Option Addr} {n' c' : Nat} {B' : Option Addr} {q' d' : Nat} {ps' : List (Int × Int)} (i : RdRd W M A' n' c' B' q' d' xs ps') (f : Filled M xs ss k0 ps') (ha : 0 < n' → blockOf A' ≠ some b) (hb : 0 < q' → blockOf B' ≠ some b) (ha' : 0 < n' → blockOf A' ≠ some bz) (hb' : 0 < q' → blockOf B' ≠ some bz)
    {v0 v1 v2 : Value} (hz : Blk W bz 25 #[v0, v1, v2]) (hbz : b < bz) (h1 : W1 = ((W.setCell ⟨bz, 0, none⟩ (.int .i64 M)).setCell ⟨bz, 1, none⟩ (.slice A' n' c')).setCell ⟨bz, 2, none⟩ (.slice B' q' d'))
    (h2 : W2 = ((W1.setCell ⟨b, 0, none⟩ (.int .i64 M)).setCell ⟨b, 1, none⟩ (.slice A' n' c')).setCell ⟨b, 2, none⟩ (.slice B' q' d')) :
    (Blk W1 b 25 #[.int .i64 M, .slice A n c, .slice B q d] ∧ Blk W1 bz 25 #[.int .i64 M, .slice A' n' c', .slice B' q' d'] ∧ St w6 W1) ∧ LY w6 W2 b M A' n' c' B' q' d' xs ss ps' k0 := by
  obtain ⟨z1, g1⟩ := rd_set3 M A' n' c' B' q' d' hz h1
  have y1 := h.kb.grown g1 (by intro e; injection e with e; omega)
  obtain ⟨y2, g2⟩ := rd_set3 M A' n' c' B' q' d' y1 h2
  have hh := h.eb
  have s1 := St.grown h.s g1 (fun k hk => by injection hk with hk; omega)
  refine ⟨⟨y1, z1, s1⟩, y2, ⟨(i.sl.row g1 ha').row g2 ha, (i.sh.row g1 hb').row g2 hb⟩, ha, hb, f, ?_, h.eb⟩
  exact St.grown s1 g2 (fun k hk => by injection hk with hk; omega)
theorem LY.fin {w6 W1 W2 : World} {b k0 : Nat} {v0 v1 v2 : Value} {M : Int} {xs : List Int} {ss : List (Int × Int)} (hk : Blk W1 b 25 #[v0, v1, v2]) (hs : St w6 W1) (he : b = w6.heap.size)
    {A' : Option Addr} {n' c' : Nat} {B' : Option Addr} {q' d' : Nat} {ps' : List (Int × Int)} (i : RdRd W1 M A' n' c' B' q' d' xs ps') (f : Filled M xs ss k0 ps') (ha : 0 < n' → blockOf A' ≠ some b) (hb : 0 < q' → blockOf B' ≠ some b)
    (h2 : W2 = ((W1.setCell ⟨b, 0, none⟩ (.int .i64 M)).setCell ⟨b, 1, none⟩ (.slice A' n' c')).setCell ⟨b, 2, none⟩ (.slice B' q' d')) : LY w6 W2 b M A' n' c' B' q' d' xs ss ps' k0 := by
  obtain ⟨y2, g2⟩ := rd_set3 M A' n' c' B' q' d' hk h2
  exact ⟨y2, ⟨i.sl.row g2 ha, i.sh.row g2 hb⟩, ha, hb, f, St.grown hs g2 (fun k hk => by injection hk with hk; omega), he⟩
set_option maxRecDepth 100000 in
set_option maxHeartbeats 4000000 in
theorem walkRoundComplete (A : Option Addr) (n c : Nat) (bs : List Nat) {w : World} (h : RB w w.heap.size A n bs) (hnc : n ≤ c ∧ c ≤ maxLen) (A' : Option Addr) (n' c' : Nat) (bs' : List Nat) (_ : RB w w.heap.size A' n' bs') (_ : n' ≤ c' ∧ c' ≤ maxLen) :
    Calls Try.prog 15 #[.slice A n c, .slice A' n' c'] w fun e w' => e = .returned (.bool true) ∧ Below w.heap.size w w' := by
  obtain ⟨hnc, hcm⟩ := hnc
  have HCM := hid hcm
  clear hcm
  by_cases hn : 1048576 < n
  · have hn : (1048576 : Int) < (n : Int) := by omega
    go_enter Try.func15, Try.ntmps15
    go_wp2_with fail
    go_ret
    exact ⟨rfl, Below.refl _ _⟩
  by_cases hn' : 1048576 < n'
  · have hn : ¬ (1048576 : Int) < (n : Int) := by omega
    have hn' : (1048576 : Int) < (n' : Int) := by omega
    go_enter Try.func15, Try.ntmps15
    go_wp2_with fail
    go_ret
    exact ⟨rfl, Below.refl _ _⟩
  have hni : ¬ (1048576 : Int) < (n : Int) := by omega
  have hni' : ¬ (1048576 : Int) < (n' : Int) := by omega
  go_enter Try.func15, Try.ntmps15
  go_wp2_with fail
  refine (DrawRoundMissing_any _ _ _ _ _ h (by omega) hnc HCM.out).mono ?_
  rintro e w1 ⟨M, A1, n1, c1, B1, q1, d1, xs, ss, rfl, i1, f1, hn1, hq1, s1⟩
  have a1 := (St.refl w1).alloc (.cells #[.int .i64 M, .slice A1 n1 c1, .slice B1 q1 d1] 25)
  have K2 := Blk.new w1 25 #[.int .i64 M, .slice A1 n1 c1, .slice B1 q1 d1]
  have x0 := K2.cell_ (i := 0) (v := .int .i64 M) rfl
  have x1 := K2.cell_ (i := 1) (v := .slice A1 n1 c1) rfl
  have x2 := K2.cell_ (i := 2) (v := .slice B1 q1 d1) rfl
  have I := hid (i1.st a1)
  have S := hid (s1.trans a1)
  have F := hid f1
  obtain ⟨va, hva⟩ : ∃ v, rdValid M xs ss = v := ⟨_, rfl⟩
  obtain ⟨ms, hms⟩ : ∃ b, rdMiss M xs ss = b := ⟨_, rfl⟩
  have HVA := hid hva
  have HM := hid hms
  have HL5 := hid (show ms.length ≤ 5 by rw [← hms]; exact rdMiss_le M xs ss)
  clear a1 K2 i1 s1 f1 hva hms
  go_wp2_with fail
  generalize w1.alloc (.cells #[.int .i64 M, .slice A1 n1 c1, .slice B1 q1 d1] 25) = w2 at x0 x1 x2 I S ⊢
  refine (RoundMissing_r I.out F.out).mono ?_
  rintro e w3 ⟨A3, n3, c3, rfl, o3, s3⟩
  rw [HM.out] at o3
  have O3 := hid o3.sl
  replace I := hid (I.out.st s3)
  replace S := hid (S.out.st s3)
  replace x0 := s3.cell x0
  replace x1 := s3.cell x1
  replace x2 := s3.cell x2
  clear o3 s3
  go_wp2_with fail
  refine (specRoundMissing_r I.out F.out).mono ?_
  rintro e w4 ⟨A4, n4, c4, rfl, o4, s4⟩
  rw [HM.out] at o4
  have O4 := hid o4
  replace I := hid (I.out.st s4)
  replace S := hid (S.out.st s4)
  replace O3 := hid (O3.out.st s4)
  replace x0 := s4.cell x0
  replace x1 := s4.cell x1
  replace x2 := s4.cell x2
  clear o4 s4
  go_wp2_with fail
  refine (sameInts_same O3.out O4.out (by have := HL5.out; omega)).mono ?_
  rintro e w5 ⟨rfl, s5⟩
  replace I := hid (I.out.st s5)
  replace S := hid (S.out.st s5)
  replace O3 := hid (O3.out.st s5)
  replace O4 := hid (O4.out.st s5)
  replace x0 := s5.cell x0
  replace x1 := s5.cell x1
  replace x2 := s5.cell x2
  clear s5
  go_wp2_with fail
  refine (specRoundValid_r I.out F.out).mono ?_
  rintro e w6 ⟨rfl, s6⟩
  replace I := hid (I.out.st s6)
  replace S := hid (S.out.st s6)
  replace O3 := hid (O3.out.st s6)
  replace O4 := hid (O4.out.st s6)
  replace x0 := s6.cell x0
  replace x1 := s6.cell x1
  replace x2 := s6.cell x2
  clear s6
  rw [HVA.out]
  cases va
  · go_wp2_with fail
    refine (sameInts_same O3.out O4.out (by have := HL5.out; omega)).mono ?_
    rintro e w7 ⟨rfl, s7⟩
    replace S := hid (S.out.st s7)
    go_wp2_with fail
    go_ret
    exact ⟨rfl, S.out⟩
  have HL3 := hid O3.out.len
  have hn3 : n3 ≤ 5 := by have := HL3.out; have := HL5.out; omega
  have r0 := x0
  have r1 := x1
  have r2 := x2
  have a7 := (St.refl w6).alloc (.cells #[.int .i64 M, .slice A1 n1 c1, .slice B1 q1 d1] 25)
  have LY7 := hid (show LY w6 (w6.alloc (.cells #[.int .i64 M, .slice A1 n1 c1, .slice B1 q1 d1] 25)) w6.heap.size M A1 n1 c1 B1 q1 d1 xs ss ss 0 from
    ⟨Blk.new w6 _ _, I.out.st a7, I.out.sl.far (Nat.le_refl _), I.out.sh.far (Nat.le_refl _), Filled.zero HVA.out, a7, rfl⟩)
  have S6 := S
  have I6 := I
  have O6 := O3
  have X6 := hid (And.intro x0 (And.intro x1 x2))
  replace I := hid (I.out.st a7)
  replace S := hid (S.out.st a7)
  replace O3 := hid (O3.out.st a7)
  replace x0 := a7.cell x0
  replace x1 := a7.cell x1
  replace x2 := a7.cell x2
  clear a7 O4
  go_wp2_with fail
  clear r0 r1 r2 x0 x1 x2
  generalize w6.alloc (.cells #[.int .i64 M, .slice A1 n1 c1, .slice B1 q1 d1] 25) = w7 at I S O3 LY7 ⊢
  obtain ⟨by_, hby⟩ : ∃ b, w6.heap.size = b := ⟨_, rfl⟩
  rw [hby] at LY7 ⊢
  have HBY := hid hby
  clear hby
  go_loopw [9] (fun i wr => ∃ (k : Nat) (Ak : Option Addr) (nk ck : Nat) (Bk : Option Addr) (qk dk : Nat) (ps : List (Int × Int)), k ≤ n3 ∧ i = .int .i64 (k : Int) ∧ Hid (LY w6 wr by_ M Ak nk ck Bk qk dk xs ss ps k)) (fun i _ => n3 - (intOf i).toNat)
  case atStart => exact ⟨0, A1, n1, c1, B1, q1, d1, ss, Nat.zero_le _, rfl, LY7⟩
  case round =>
    obtain ⟨k, Ak, nk, ck, Bk, qk, dk, ps, hk, rfl, hy⟩ := hrel
    by_cases hlt : k < n3
    · have hki : (k : Int) < (n3 : Int) := by omega
      have hki0 : (0 : Int) ≤ (k : Int) := by omega
      obtain ⟨ad, gk, rfl, hb6, hx6, hc6⟩ := O6.out.ri.at_ hlt
      have HC6 := hid hc6
      have hc := hy.out.s.cell hc6
      clear hc6
      have FP := hid (show FitRd xs ps from ⟨F.out.n, by have h1 := hy.out.f.l; have h2 := I.out.sh.len; omega⟩)
      have HBW := hid (show by_ < wr.heap.size from hy.out.kb.lt)
      obtain ⟨τ, hτ⟩ : ∃ τ, ((n' : Int) + (k : Int)).tmod 9 = τ := ⟨_, rfl⟩
      have hτ0 : 0 ≤ τ ∧ τ ≤ 8 := by rw [← hτ, Int.tmod_eq_emod_of_nonneg (by omega)]; omega
      have hw1 : IntKind.i64.wrap ((n' : Int) + (k : Int)) = (n' : Int) + (k : Int) := by rw [IntKind.wrap_i64] <;> omega
      have hw2 : IntKind.i64.wrap τ = τ := by rw [IntKind.wrap_i64] <;> omega
      have hw3 : IntKind.i64.wrap (1 + τ) = 1 + τ := by rw [IntKind.wrap_i64] <;> omega
      obtain ⟨ps', hps⟩ : ∃ v, raSs M xs ps (1 + τ, gk) = v := ⟨_, rfl⟩
      have HN := hid (Filled.next hy.out.f HVA.out (by rw [HM.out]; exact hx6.out) (1 + τ) ⟨by omega, by omega⟩)
      rw [hps] at HN
      have HP := hid hps
      clear hps
      have y0 := hy.out.kb.cell_ (i := 0) (v := .int .i64 M) rfl
      have y1 := hy.out.kb.cell_ (i := 1) (v := .slice Ak nk ck) rfl
      have y2 := hy.out.kb.cell_ (i := 2) (v := .slice Bk qk dk) rfl
      have sA := (Dr.st ⟨1, rfl⟩ : St wr (wr.drewN 1)).alloc (.cells #[.int .i64 0, .slice none 0 0, .slice none 0 0] 25)
      have KZ := hid (show Blk ((wr.drewN 1).alloc (.cells #[.int .i64 0, .slice none 0 0, .slice none 0 0] 25)) wr.heap.size 25 #[.int .i64 0, .slice none 0 0, .slice none 0 0] from Blk.new (wr.drewN 1) 25 #[.int .i64 0, .slice none 0 0, .slice none 0 0])
      go_wp2_with fail
      refine wp_region_held_drew (S := (fun w' => w'.cell? ⟨by_, 0, none⟩ = some (.int .i64 M) ∧ w'.cell? ⟨by_, 1, none⟩ = some (.slice Ak nk ck) ∧ w'.cell? ⟨by_, 2, none⟩ = some (.slice Bk qk dk) ∧ w'.cell? (ad.add k) = some (.int .i64 gk))) (by kernel_rfl) ?_ (fun hH0 => ?_)
      · exact ⟨y0, y1, y2, hc⟩
      refine wpAnyH_take (i := 0) (oi := ⟨some 48, _, _, _, _, _⟩) (v := ?_) rfl (by kernel_rfl) (by kernel_rfl) (by kernel_rfl) (fun _ _ _ h => h) (Or.inl ⟨by rfl, ?_⟩) (by assumption) ?_
      rotate_left
      · (intro w hSw; (try dsimp only at hSw); go_simp; (try with_reducible rfl))
      (try simp only [Act.put, List.setIfInBounds_toArray, List.set_cons_zero, List.set_cons_succ])
      refine wpAnyH_take (i := 1) (oi := ⟨some 49, _, _, _, _, _⟩) (v := ?_) rfl (by kernel_rfl) (by kernel_rfl) (by kernel_rfl) (fun _ _ _ h => h) (Or.inl ⟨by rfl, ?_⟩) (by assumption) ?_
      rotate_left
      · (intro w hSw; (try dsimp only at hSw); go_simp; (try with_reducible rfl))
      (try simp only [Act.put, List.setIfInBounds_toArray, List.set_cons_zero, List.set_cons_succ])
      refine wpAnyH_take (i := 2) (oi := ⟨some 50, _, _, _, _, _⟩) (v := ?_) rfl (by kernel_rfl) (by kernel_rfl) (by kernel_rfl) (fun _ _ _ h => h) (Or.inl ⟨by rfl, ?_⟩) (by assumption) ?_
      rotate_left
      · (intro w hSw; (try dsimp only at hSw); go_simp; (try with_reducible rfl))
      (try simp only [Act.put, List.setIfInBounds_toArray, List.set_cons_zero, List.set_cons_succ])
      refine wpAnyH_take (i := 3) (oi := ⟨some 51, _, _, _, _, _⟩) (v := ?_) rfl (by kernel_rfl) (by kernel_rfl) (by kernel_rfl) (fun _ _ _ h => h) (Or.inl ⟨by rfl, ?_⟩) (by assumption) ?_
      rotate_left
      · (intro w hSw; (try dsimp only at hSw); go_simp; (try with_reducible rfl))
      (try simp only [Act.put, List.setIfInBounds_toArray, List.set_cons_zero, List.set_cons_succ])
      refine wpAnyH_take (i := 4) (oi := ⟨some 52, _, _, _, _, _⟩) (v := ?_) rfl (by kernel_rfl) (by kernel_rfl) (by kernel_rfl) (fun _ _ _ h => h) (Or.inl ⟨by rfl, ?_⟩) (by assumption) ?_
      rotate_left
      · (intro w hSw; (try dsimp only at hSw); go_simp; (try with_reducible rfl))
      (try simp only [Act.put, List.setIfInBounds_toArray, List.set_cons_zero, List.set_cons_succ])
      refine wpAnyH_take (i := 5) (oi := ⟨some 53, _, _, _, _, _⟩) (v := ?_) rfl (by kernel_rfl) (by kernel_rfl) (by kernel_rfl) (fun _ _ _ h => h) (Or.inl ⟨by rfl, ?_⟩) (by assumption) ?_
      rotate_left
      · (intro w hSw; (try dsimp only at hSw); go_simp; (try with_reducible rfl))
      (try simp only [Act.put, List.setIfInBounds_toArray, List.set_cons_zero, List.set_cons_succ])
      refine wpAnyH_take (i := 6) (oi := ⟨some 54, _, _, _, _, _⟩) (v := ?_) rfl (by kernel_rfl) (by kernel_rfl) (by kernel_rfl) (fun _ _ _ h => h) (Or.inl ⟨by rfl, ?_⟩) (by assumption) ?_
      rotate_left
      · (intro w hSw; (try dsimp only at hSw); go_simp; (try with_reducible rfl))
      (try simp only [Act.put, List.setIfInBounds_toArray, List.set_cons_zero, List.set_cons_succ])
      refine wpAnyH_take (i := 7) (oi := ⟨some 55, _, _, _, _, _⟩) (v := ?_) rfl (by kernel_rfl) (by kernel_rfl) (by kernel_rfl) (fun _ _ _ h => h) (Or.inl ⟨by rfl, ?_⟩) (by assumption) ?_
      rotate_left
      · (intro w hSw; (try dsimp only at hSw); go_simp; (try with_reducible rfl))
      (try simp only [Act.put, List.setIfInBounds_toArray, List.set_cons_zero, List.set_cons_succ])
      refine wpAnyH_take (i := 8) (oi := ⟨some 56, _, _, _, _, _⟩) (v := ?_) rfl (by kernel_rfl) (by kernel_rfl) (by kernel_rfl) (fun _ _ _ h => h) (Or.inl ⟨by rfl, ?_⟩) (by assumption) ?_
      rotate_left
      · (intro w hSw; (try dsimp only at hSw); go_simp; (try with_reducible rfl))
      (try simp only [Act.put, List.setIfInBounds_toArray, List.set_cons_zero, List.set_cons_succ])
      refine wpAnyH_take (i := 9) (oi := ⟨some 57, _, _, _, _, _⟩) (v := ?_) rfl (by kernel_rfl) (by kernel_rfl) (by kernel_rfl) (fun _ _ _ h => h) (Or.inl ⟨by rfl, ?_⟩) (by assumption) ?_
      rotate_left
      · (intro w hSw; (try dsimp only at hSw); go_simp; (try with_reducible rfl))
      (try simp only [Act.put, List.setIfInBounds_toArray, List.set_cons_zero, List.set_cons_succ])
      refine wpAnyH_take (i := 10) (oi := ⟨some 58, _, _, _, _, _⟩) (v := ?_) rfl (by kernel_rfl) (by kernel_rfl) (by kernel_rfl) (fun _ _ _ h => h) (Or.inl ⟨by rfl, ?_⟩) (by assumption) ?_
      rotate_left
      · (intro w hSw; (try dsimp only at hSw); go_simp; (try with_reducible rfl))
      (try simp only [Act.put, List.setIfInBounds_toArray, List.set_cons_zero, List.set_cons_succ])
      refine wpAnyH_take (i := 11) (oi := ⟨some 59, _, _, _, _, _⟩) (v := ?_) rfl (by kernel_rfl) (by kernel_rfl) (by kernel_rfl) (fun _ _ _ h => h) (Or.inl ⟨by rfl, ?_⟩) (by assumption) ?_
      rotate_left
      · (intro w hSw; (try dsimp only at hSw); go_simp; (try with_reducible rfl))
      (try simp only [Act.put, List.setIfInBounds_toArray, List.set_cons_zero, List.set_cons_succ])
      refine wpAnyH_ready (rs := [12, 16]) (by kernel_rfl) (by simp) ?_
      refine AllReadyH.cons (o := ⟨some 60, _, _, _, _, _⟩) rfl (fun K hK => ?_) ?_
      · skip
        go_simp
        (go_at_call 37; refine (RoundAdd_r (1 + τ) gk (hy.out.i.st (Dr.st ⟨1, rfl⟩)) FP.out).mono ?_; rintro e w9 ⟨A9, n9, c9, B9, q9, d9, rfl, o9, s9⟩; rw [HN.out.2.1, HN.out.2.2.1, HP.out] at o9; rw [HN.out.2.1, HN.out.1]; have sB := St.trans (Dr.st ⟨1, rfl⟩ : St wr (wr.drewN 1)) s9; have hao := fun g hg => (o9.oi.lt g hg); have hbo := fun g hg => (o9.oh.lt g hg); have a9 := (St.refl w9).alloc (.cells #[.int .i64 0, .slice none 0 0, .slice none 0 0] 25); have b9 := (St.refl w9).alloc (.cells #[.int .i64 M, .slice A9 n9 c9, .slice B9 q9 d9] 25); have K9 := hid (Blk.new w9 25 #[.int .i64 0, .slice none 0 0, .slice none 0 0]); have z0 := K9.out.cell_ (i := 0) (v := .int .i64 0) rfl; have z1 := K9.out.cell_ (i := 1) (v := .slice none 0 0) rfl; have z2 := K9.out.cell_ (i := 2) (v := .slice none 0 0) rfl; have f0 := K9.out.frozen 0; have f1 := K9.out.frozen 1; have f2 := K9.out.frozen 2; have NX := hid (And.intro (And.intro (hy.out.kb.st (sB.trans b9)) (And.intro (Blk.new w9 25 #[.int .i64 M, .slice A9 n9 c9, .slice B9 q9 d9]) (hy.out.s.trans (sB.trans b9)))) (LY.fin (hy.out.kb.st (sB.trans b9)) (hy.out.s.trans (sB.trans b9)) hy.out.eb (o9.rd.st b9) HN.out.2.2.2 (fun _ e => by have h1 : wr.heap.size ≤ by_ := (hao _ e).1; have h2 := HBW.out; omega) (fun _ e => by have h1 : wr.heap.size ≤ by_ := (hbo _ e).1; have h2 := HBW.out; omega) rfl)))
        (first | (refine hK.out _ _ ?_ (fun hH1 => ?_)) | (go_wp2_with fail; refine hK.out _ _ ?_ (fun hH1 => ?_)))
        · exact ⟨sB.cell y0, sB.cell y1, sB.cell y2, sB.cell hc⟩
        clear hK K hH0
        (try simp only [Act.put, List.setIfInBounds_toArray, List.set_cons_zero, List.set_cons_succ])
        refine wpAnyH_take (i := 13) (oi := ⟨some 47, _, _, _, _, _⟩) (v := ?_) rfl (by kernel_rfl) (by kernel_rfl) (by kernel_rfl) (fun _ _ _ h => h) (Or.inl ⟨by rfl, ?_⟩) (by assumption) ?_
        rotate_left
        · (intro w hSw; (try dsimp only at hSw); go_simp; (try with_reducible rfl))
        (try simp only [Act.put, List.setIfInBounds_toArray, List.set_cons_zero, List.set_cons_succ])
        refine wpAnyH_take (i := 14) (oi := ⟨some 61, _, _, _, _, _⟩) (v := ?_) rfl (by kernel_rfl) (by kernel_rfl) (by kernel_rfl) (fun _ _ _ h => h) (Or.inl ⟨by rfl, ?_⟩) (by assumption) ?_
        rotate_left
        · (intro w hSw; (try dsimp only at hSw); go_simp; (try with_reducible rfl))
        (try simp only [Act.put, List.setIfInBounds_toArray, List.set_cons_zero, List.set_cons_succ])
        refine wpAnyH_take (i := 15) (oi := ⟨some 62, _, _, _, _, _⟩) (v := ?_) rfl (by kernel_rfl) (by kernel_rfl) (by kernel_rfl) (fun _ _ _ h => h) (Or.inl ⟨by rfl, ?_⟩) (by assumption) ?_
        rotate_left
        · (intro w hSw; (try dsimp only at hSw); go_simp; (try with_reducible rfl))
        (try simp only [Act.put, List.setIfInBounds_toArray, List.set_cons_zero, List.set_cons_succ])
        refine wpAnyH_ready (rs := [16]) (by kernel_rfl) (by simp) ?_
        refine AllReadyH.cons (o := ⟨some 10, _, _, _, _, _⟩) rfl (fun K hK => ?_) AllReadyH.nil
        go_simp
        (first | (refine hK.out _ _ ?_ (fun hH2 => ?_)) | (go_wp2_with fail; refine hK.out _ _ ?_ (fun hH2 => ?_)))
        · exact ⟨(sB.trans a9).cell y0, (sB.trans a9).cell y1, (sB.trans a9).cell y2, (sB.trans a9).cell hc⟩
        clear hK K hH1
        (try simp only [Act.put, List.setIfInBounds_toArray, List.set_cons_zero, List.set_cons_succ])
        refine wpAnyH_ready (rs := [17]) (by kernel_rfl) (by simp) ?_
        refine AllReadyH.cons (o := ⟨none, _, _, _, _, _⟩) rfl (fun K hK => ?_) AllReadyH.nil
        go_simp
        (first | (refine hK.out _ _ ?_ (fun hH3 => ?_)) | (go_wp2_with fail; refine hK.out _ _ ?_ (fun hH3 => ?_)))
        · exact ⟨NX.out.1.1.cell_ (i := 0) (v := .int .i64 M) rfl, NX.out.1.1.cell_ (i := 1) (v := .slice Ak nk ck) rfl, NX.out.1.1.cell_ (i := 2) (v := .slice Bk qk dk) rfl, NX.out.1.2.2.cell HC6.out⟩
        clear hK K hH2
        (try simp only [Act.put, List.setIfInBounds_toArray, List.set_cons_zero, List.set_cons_succ])
        refine wpAnyH_take (i := 18) (oi := ⟨some 11, _, _, _, _, _⟩) (v := ?_) rfl (by kernel_rfl) (by kernel_rfl) (by kernel_rfl) (fun _ _ _ h => h) (Or.inl ⟨by rfl, ?_⟩) (by assumption) ?_
        rotate_left
        · (intro w hSw; (try dsimp only at hSw); go_simp; (try with_reducible rfl))
        (try simp only [Act.put, List.setIfInBounds_toArray, List.set_cons_zero, List.set_cons_succ])
        refine wpAnyH_done (by kernel_rfl) ?_ _
        clear hH3
        have v0 := NX.out.1.1.cell_ (i := 0) (v := .int .i64 M) rfl
        have v1 := NX.out.1.1.cell_ (i := 1) (v := .slice Ak nk ck) rfl
        have v2 := NX.out.1.1.cell_ (i := 2) (v := .slice Bk qk dk) rfl
        have g0 := NX.out.1.1.frozen 0
        have g1 := NX.out.1.1.frozen 1
        have g2 := NX.out.1.1.frozen 2
        have u0 := NX.out.1.2.1.cell_ (i := 0) (v := .int .i64 M) rfl
        have u1 := NX.out.1.2.1.cell_ (i := 1) (v := .slice A9 n9 c9) rfl
        have u2 := NX.out.1.2.1.cell_ (i := 2) (v := .slice B9 q9 d9) rfl
        clear y0 y1 y2 hc z0 z1 z2 f0 f1 f2
        go_wp2_with fail
        go_roundw
        case rel => exact ⟨k + 1, A9, n9, c9, B9, q9, d9, ps', by omega, by go_num, hid NX.out.2⟩
        case measure => simp [intOf]; omega
      refine AllReadyH.cons (o := ⟨some 10, _, _, _, _, _⟩) rfl (fun K hK => ?_) ?_
      · skip
        go_simp
        (first | (refine hK.out _ _ ?_ (fun hH1 => ?_)) | (go_wp2_with fail; refine hK.out _ _ ?_ (fun hH1 => ?_)))
        · exact ⟨sA.cell y0, sA.cell y1, sA.cell y2, sA.cell hc⟩
        clear hK K hH0
        (try simp only [Act.put, List.setIfInBounds_toArray, List.set_cons_zero, List.set_cons_succ])
        refine wpAnyH_ready (rs := [12]) (by kernel_rfl) (by simp) ?_
        refine AllReadyH.cons (o := ⟨some 60, _, _, _, _, _⟩) rfl (fun K hK => ?_) AllReadyH.nil
        go_simp
        (go_at_call 37; refine (RoundAdd_r (1 + τ) gk (hy.out.i.st sA) FP.out).mono ?_; rintro e w9 ⟨A9, n9, c9, B9, q9, d9, rfl, o9, s9⟩; rw [HN.out.2.1, HN.out.2.2.1, HP.out] at o9; rw [HN.out.2.1, HN.out.1]; have L9 := hid (hy.out.st (sA.trans s9)); have K9 := hid (KZ.out.st s9); have z0 := K9.out.cell_ (i := 0) (v := .int .i64 0) rfl; have z1 := K9.out.cell_ (i := 1) (v := .slice none 0 0) rfl; have z2 := K9.out.cell_ (i := 2) (v := .slice none 0 0) rfl; have f0 := K9.out.frozen 0; have f1 := K9.out.frozen 1; have f2 := K9.out.frozen 2; have hao := fun g hg => (o9.oi.lt g hg).1; have hbo := fun g hg => (o9.oh.lt g hg).1; have NX := hid (LY.next L9.out o9.rd HN.out.2.2.2 (fun _ e => by have h1 := hao _ e; have h2 := HBW.out; rw [World.heap_alloc_size'] at h1; have h1 : wr.heap.size + 1 ≤ by_ := h1; omega) (fun _ e => by have h1 := hbo _ e; have h2 := HBW.out; rw [World.heap_alloc_size'] at h1; have h1 : wr.heap.size + 1 ≤ by_ := h1; omega) (fun _ e => by have h1 := hao _ e; rw [World.heap_alloc_size'] at h1; have h1 : wr.heap.size + 1 ≤ wr.heap.size := h1; omega) (fun _ e => by have h1 := hbo _ e; rw [World.heap_alloc_size'] at h1; have h1 : wr.heap.size + 1 ≤ wr.heap.size := h1; omega) K9.out HBW.out rfl rfl))
        (first | (refine hK.out _ _ ?_ (fun hH2 => ?_)) | (go_wp2_with fail; refine hK.out _ _ ?_ (fun hH2 => ?_)))
        · exact ⟨(sA.trans s9).cell y0, (sA.trans s9).cell y1, (sA.trans s9).cell y2, (sA.trans s9).cell hc⟩
        clear hK K hH1
        (try simp only [Act.put, List.setIfInBounds_toArray, List.set_cons_zero, List.set_cons_succ])
        refine wpAnyH_take (i := 13) (oi := ⟨some 47, _, _, _, _, _⟩) (v := ?_) rfl (by kernel_rfl) (by kernel_rfl) (by kernel_rfl) (fun _ _ _ h => h) (Or.inl ⟨by rfl, ?_⟩) (by assumption) ?_
        rotate_left
        · (intro w hSw; (try dsimp only at hSw); go_simp; (try with_reducible rfl))
        (try simp only [Act.put, List.setIfInBounds_toArray, List.set_cons_zero, List.set_cons_succ])
        refine wpAnyH_take (i := 14) (oi := ⟨some 61, _, _, _, _, _⟩) (v := ?_) rfl (by kernel_rfl) (by kernel_rfl) (by kernel_rfl) (fun _ _ _ h => h) (Or.inl ⟨by rfl, ?_⟩) (by assumption) ?_
        rotate_left
        · (intro w hSw; (try dsimp only at hSw); go_simp; (try with_reducible rfl))
        (try simp only [Act.put, List.setIfInBounds_toArray, List.set_cons_zero, List.set_cons_succ])
        refine wpAnyH_take (i := 15) (oi := ⟨some 62, _, _, _, _, _⟩) (v := ?_) rfl (by kernel_rfl) (by kernel_rfl) (by kernel_rfl) (fun _ _ _ h => h) (Or.inl ⟨by rfl, ?_⟩) (by assumption) ?_
        rotate_left
        · (intro w hSw; (try dsimp only at hSw); go_simp; (try with_reducible rfl))
        (try simp only [Act.put, List.setIfInBounds_toArray, List.set_cons_zero, List.set_cons_succ])
        refine wpAnyH_ready (rs := [17]) (by kernel_rfl) (by simp) ?_
        refine AllReadyH.cons (o := ⟨none, _, _, _, _, _⟩) rfl (fun K hK => ?_) AllReadyH.nil
        go_simp
        (first | (refine hK.out _ _ ?_ (fun hH3 => ?_)) | (go_wp2_with fail; refine hK.out _ _ ?_ (fun hH3 => ?_)))
        · exact ⟨NX.out.1.1.cell_ (i := 0) (v := .int .i64 M) rfl, NX.out.1.1.cell_ (i := 1) (v := .slice Ak nk ck) rfl, NX.out.1.1.cell_ (i := 2) (v := .slice Bk qk dk) rfl, NX.out.1.2.2.cell HC6.out⟩
        clear hK K hH2
        (try simp only [Act.put, List.setIfInBounds_toArray, List.set_cons_zero, List.set_cons_succ])
        refine wpAnyH_take (i := 18) (oi := ⟨some 11, _, _, _, _, _⟩) (v := ?_) rfl (by kernel_rfl) (by kernel_rfl) (by kernel_rfl) (fun _ _ _ h => h) (Or.inl ⟨by rfl, ?_⟩) (by assumption) ?_
        rotate_left
        · (intro w hSw; (try dsimp only at hSw); go_simp; (try with_reducible rfl))
        (try simp only [Act.put, List.setIfInBounds_toArray, List.set_cons_zero, List.set_cons_succ])
        refine wpAnyH_done (by kernel_rfl) ?_ _
        clear hH3
        have v0 := NX.out.1.1.cell_ (i := 0) (v := .int .i64 M) rfl
        have v1 := NX.out.1.1.cell_ (i := 1) (v := .slice Ak nk ck) rfl
        have v2 := NX.out.1.1.cell_ (i := 2) (v := .slice Bk qk dk) rfl
        have g0 := NX.out.1.1.frozen 0
        have g1 := NX.out.1.1.frozen 1
        have g2 := NX.out.1.1.frozen 2
        have u0 := NX.out.1.2.1.cell_ (i := 0) (v := .int .i64 M) rfl
        have u1 := NX.out.1.2.1.cell_ (i := 1) (v := .slice A9 n9 c9) rfl
        have u2 := NX.out.1.2.1.cell_ (i := 2) (v := .slice B9 q9 d9) rfl
        clear y0 y1 y2 hc z0 z1 z2 f0 f1 f2
        go_wp2_with fail
        go_roundw
        case rel => exact ⟨k + 1, A9, n9, c9, B9, q9, d9, ps', by omega, by go_num, hid NX.out.2⟩
        case measure => simp [intOf]; omega
      exact AllReadyH.nil
    · obtain rfl : k = n3 := by omega
      have hfin := hid (hy.out.f.final HVA.out (by rw [HM.out, HL3.out]))
      obtain ⟨⟨vt, vg⟩, hv⟩ : ∃ v, rfV M xs ps = v := ⟨_, rfl⟩
      have HV := hid hv
      clear hv
      rw [HV.out] at hfin
      have y0 := hy.out.kb.cell_ (i := 0) (v := .int .i64 M) rfl
      have y1 := hy.out.kb.cell_ (i := 1) (v := .slice Ak nk ck) rfl
      have y2 := hy.out.kb.cell_ (i := 2) (v := .slice Bk qk dk) rfl
      have FP := hid (show FitRd xs ps from ⟨F.out.n, by have h1 := hy.out.f.l; have h2 := I.out.sh.len; omega⟩)
      go_wp2_with fail
      refine (RoundFinal_any M Ak Bk nk ck qk dk xs ps _ hy.out.i.sl hy.out.i.sh (hy.out.i.n_ FP.out)).mono ?_
      rintro e wx ⟨rfl, sx⟩
      rw [HV.out, hfin.out.1]
      have ax := sx.alloc (.cells #[.int .i64 vt, .int .i64 vg] 45)
      have sy := hy.out.s.trans ax
      have x1 := sy.cell X6.out.2.1
      have PX := Blk.new wx 45 #[.int .i64 vt, .int .i64 vg]
      have v0 := PX.cell_ (i := 0) (v := .int .i64 vt) rfl
      have v1 := PX.cell_ (i := 1) (v := .int .i64 vg) rfl
      have SZ := hid (S6.out.trans sy)
      have IX := hid (I6.out.sl.st sy)
      clear sx ax PX y0 y1 y2 sy
      go_wp2_with fail
      refine (hasInt_any _ _ _ _ _ _ _ IX.out.ri (by have := I6.out.sl.len; have := F.out.n; omega)).mono ?_
      rintro e wz ⟨rfl, rfl⟩
      rw [hfin.out.2]
      go_wp2_with fail
      go_ret
      exact ⟨rfl, SZ.out⟩
end Go.Proofs.Ytldclkjknhjbfaa

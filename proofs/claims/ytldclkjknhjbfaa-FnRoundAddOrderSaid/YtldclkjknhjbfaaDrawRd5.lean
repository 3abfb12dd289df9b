/- DrawRoundAdd. -/
import Derived.Test.YtldclkjknhjbfaaDrawRd4
import Derived.Test.YtldclkjknhjbfaaRd9
namespace Go.Proofs.Ytldclkjknhjbfaa
open Go.RowKit Go.Sort
/-- A round and a stamp that were drawn. -/
def DrawnRA (w : World) (e : Ending) (w' : World) : Prop :=
  ∃ (M : Int) (A : Option Addr) (n c : Nat) (B : Option Addr) (q d : Nat) (xs : List Int) (ss : List (Int × Int)) (t g : Int), e = .returned (.tuple #[rdV M A n c B q d, .agg #[.int .i64 t, .int .i64 g]]) ∧ RdRd w' M A n c B q d xs ss ∧ FitRd xs ss ∧ n ≤ 6 ∧ q ≤ 7 ∧ St w w'
theorem byte_no2 (t : Int) : ∀ (j : Nat) (x : Int), (#[Value.int .i64 t, .int .i64 0] : Array Value)[j]? ≠ some (.int .u8 x) := by intro j x; rcases j with _ | _ | j <;> simp
set_option maxRecDepth 100000 in
set_option maxHeartbeats 2000000 in
theorem DrawRoundAdd_any (A : Option Addr) (n c : Nat) (bs : List Nat) (w : World) (h : RB w w.heap.size A n bs) (hn : n ≤ 1048576) (hnc : n ≤ c) (hc : c ≤ maxLen) :
    Calls Try.prog 36 #[.slice A n c] w (DrawnRA w) := by
  have S0 := hid (((St.refl w).alloc (.cells #[.int .i64 0, .slice none 0 0, .slice none 0 0] 25)).alloc (.cells #[.int .i64 0, .int .i64 0] 45))
  have K0 := hid ((Blk.new w 25 #[.int .i64 0, .slice none 0 0, .slice none 0 0]).alloc (.cells #[.int .i64 0, .int .i64 0] 45))
  have K1 := hid (blk_second w (.cells #[.int .i64 0, .slice none 0 0, .slice none 0 0] 25) 45 #[.int .i64 0, .int .i64 0])
  have h0 := (h.below S0.out).more S0.out.size
  have z0 := K1.out.lt
  go_enter Try.func36, Try.ntmps36
  go_wp2_with fail
  generalize (w.alloc (.cells #[.int .i64 0, .slice none 0 0, .slice none 0 0] 25)).alloc (.cells #[.int .i64 0, .int .i64 0] 45) = w0 at S0 K0 K1 h0 z0 ⊢
  refine (l6Open_any _ _ _ _ _ h0 hn hnc hc).mono ?_
  rintro e w1 ⟨rfl, hr1, b1⟩
  have z1 : w0.heap.size < w1.heap.size := hr1.lt
  have b1 : St w0 w1 := b1
  have S1 := hid (S0.out.trans b1)
  have K01 := hid (K0.out.below b1 K0.out.lt)
  have K11 := hid (K1.out.below b1 K1.out.lt)
  clear b1 S0 K0 K1
  go_wp2_with fail
  refine (l91Round_any _ _ _ hr1 (by omega)).mono ?_
  rintro e w2 ⟨M, A2, n2, c2, B2, q2, d2, xs, ss, rfl, o2, p2, hn2, hq2, hr2, hg2⟩
  generalize hR : w0.heap.size = R at z0 z1 hr1 hr2 hg2 ⊢
  have a2 := (St.refl w2).alloc (.cells #[.int .i64 M, .slice A2 n2 c2, .slice B2 q2 d2] 25)
  have hz2 := hg2.size
  have D3 := hid (show DA w (w2.alloc (.cells #[.int .i64 M, .slice A2 n2 c2, .slice B2 q2 d2] 25)) R _ w2.heap.size #[.int .i64 0, .slice none 0 0, .slice none 0 0] #[.int .i64 0, .int .i64 0] M A2 n2 c2 xs B2 q2 d2 ss from
    ⟨(K01.out.grown hg2 (by intro e; injection e with e; omega)).alloc _, (K11.out.grown hg2 (by intro e; injection e with e; omega)).alloc _, Blk.new _ _ _, own_below (OI.less o2 (by omega)) a2, (p2.less (by omega)).st a2, hr2.alloc _, (St.grown S1.out hg2 (fun k hk => by injection hk with hk; omega)).trans a2, by omega, by omega, fun k hk => by have := (o2.lt k hk).1; omega, fun k hk => by have := (p2.lt k hk).1; omega⟩)
  clear o2 p2 hr1 hr2 hg2 a2 K01 K11 S1 hR
  go_wp2_with fail
  generalize w2.alloc (.cells #[.int .i64 M, .slice A2 n2 c2, .slice B2 q2 d2] 25) = w3 at D3 ⊢
  have D4 := hid (D3.out.dr (W' := w3.drew) ⟨1, rfl⟩)
  have nb0 : ∀ (j : Nat) (x : Int), (#[Value.int .i64 0, .slice none 0 0, .slice none 0 0] : Array Value)[j]? ≠ some (.int .u8 x) := by intro j x; rcases j with _ | _ | _ | j <;> simp
  have nb1 : ∀ (j : Nat) (x : Int), (#[Value.int .i64 M, .slice none 0 0, .slice none 0 0] : Array Value)[j]? ≠ some (.int .u8 x) := by intro j x; rcases j with _ | _ | _ | j <;> simp
  have nb2 : ∀ (j : Nat) (x : Int), (#[Value.int .i64 M, .slice A2 n2 c2, .slice none 0 0] : Array Value)[j]? ≠ some (.int .u8 x) := by intro j x; rcases j with _ | _ | _ | j <;> simp
  have nb3 : ∀ (j : Nat) (x : Int), (#[Value.int .i64 0, .int .i64 0] : Array Value)[j]? ≠ some (.int .u8 x) := by intro j x; rcases j with _ | _ | j <;> simp
  have u0 := D4.out.kx.cell_ (i := 0) (v := .int .i64 M) rfl
  have u1 := D4.out.kx.cell_ (i := 1) (v := .slice A2 n2 c2) rfl
  have u2 := D4.out.kx.cell_ (i := 2) (v := .slice B2 q2 d2) rfl
  have NB0 := hid nb0
  have NB1 := hid nb1
  have NB2 := hid nb2
  have NB3 := hid nb3
  clear nb0 nb1 nb2 nb3
  go_wp2_with fail
  refine wp_region_any (by kernel_rfl) ?_
  (try (change wpAny _ _ _ _ _ _ _ (World.drew _)))
  refine wpAny_take (i := 1) (v := ?_) rfl (by kernel_rfl) (by kernel_rfl) (by kernel_rfl) (fun _ _ _ h => h) (Or.inl ⟨by rfl, ?_⟩) ?_
  rotate_left
  · (intro wq; go_simp; (try with_reducible rfl))
  refine wpAny_ready (rs := [0, 2]) (by kernel_rfl) (by simp) ?_
  refine AllReady.cons rfl (fun K hK => ?_) ?_
  · go_simp
    (first | (refine hK _ _ ?_; clear hK K) | skip)
    refine wpAny_ready (rs := [2]) (by kernel_rfl) (by simp) ?_
    refine AllReady.cons rfl (fun K hK => ?_) ?_
    · go_simp; go_wp2_with ((go_at_call 71; (with_reducible refine (l91Stamp_any _ _ _ D4.out.r (by omega)).mono ?_); rintro e w5 ⟨t, g, rfl, hr5, hg5⟩; have D5 := hid (D4.out.grown hg5 hr5); have v0 := D5.out.kx.cell_ (i := 0) (v := .int .i64 M) rfl; have v1 := D5.out.kx.cell_ (i := 1) (v := .slice A2 n2 c2) rfl; have v2 := D5.out.kx.cell_ (i := 2) (v := .slice B2 q2 d2) rfl; have y0 := D5.out.k0.cell_ (i := 0) (v := .int .i64 0) rfl; have y1 := D5.out.k0.cell_ (i := 1) (v := .slice none 0 0) rfl; have y2 := D5.out.k0.cell_ (i := 2) (v := .slice none 0 0) rfl; have f0 := D5.out.k0.frozen 0; have f1 := D5.out.k0.frozen 1; have f2 := D5.out.k0.frozen 2; have D6 := hid (((D5.out.set0 NB0.out 0 (.int .i64 M)).set0 NB1.out 1 (.slice A2 n2 c2)).set0 NB2.out 2 (.slice B2 q2 d2)); have y3 := D6.out.k1.cell_ (i := 0) (v := .int .i64 0) rfl; have y4 := D6.out.k1.cell_ (i := 1) (v := .int .i64 0) rfl; have f3 := D6.out.k1.frozen 0; have f4 := D6.out.k1.frozen 1; have D7 := hid ((D6.out.set1 NB3.out 0 (.int .i64 t)).set1 (byte_no2 t) 1 (.int .i64 g)); have e0 := D7.out.k0.cell_ (i := 0) (v := .int .i64 M) rfl; have e1 := D7.out.k0.cell_ (i := 1) (v := .slice A2 n2 c2) rfl; have e2 := D7.out.k0.cell_ (i := 2) (v := .slice B2 q2 d2) rfl; have e3 := D7.out.k1.cell_ (i := 0) (v := .int .i64 t) rfl; have e4 := D7.out.k1.cell_ (i := 1) (v := .int .i64 g) rfl))
      (first | (refine hK _ _ ?_; clear hK K) | skip)
      refine wpAny_ready (rs := [3]) (by kernel_rfl) (by simp) ?_
      refine AllReady.cons rfl (fun K hK => ?_) ?_
      · go_simp
        (first | (refine hK _ _ ?_; clear hK K) | skip)
        refine wpAny_ready (rs := [4]) (by kernel_rfl) (by simp) ?_
        refine AllReady.cons rfl (fun K hK => ?_) ?_
        · go_simp
          (first | (refine hK _ _ ?_; clear hK K) | skip)
          refine wpAny_done (by kernel_rfl) ?_ _
          clear v0 v1 v2 y0 y1 y2 y3 y4 f0 f1 f2 f3 f4
          go_wp2_with fail
          refine bodyPost_ret (v := .tuple #[.agg #[.int .i64 M, .slice A2 n2 c2, .slice B2 q2 d2], .agg #[.int .i64 t, .int .i64 g]]) (by simp [results, Try.results36, go_sem, e0, e1, e2, e3, e4]) rfl ?_
          exact ⟨M, A2, n2, c2, B2, q2, d2, xs, ss, t, g, rfl, ⟨D7.out.oa.sl, D7.out.ob.ss⟩, ⟨by have := D7.out.oa.len; omega, by have := D7.out.ob.1; omega⟩, hn2, hq2, D7.out.s⟩
        exact AllReady.nil
      exact AllReady.nil
    exact AllReady.nil
  refine AllReady.cons rfl (fun K hK => ?_) ?_
  · go_simp; go_wp2_with ((go_at_call 71; (with_reducible refine (l91Stamp_any _ _ _ D4.out.r (by omega)).mono ?_); rintro e w5 ⟨t, g, rfl, hr5, hg5⟩; have D5 := hid (D4.out.grown hg5 hr5); have v0 := D5.out.kx.cell_ (i := 0) (v := .int .i64 M) rfl; have v1 := D5.out.kx.cell_ (i := 1) (v := .slice A2 n2 c2) rfl; have v2 := D5.out.kx.cell_ (i := 2) (v := .slice B2 q2 d2) rfl; have y0 := D5.out.k0.cell_ (i := 0) (v := .int .i64 0) rfl; have y1 := D5.out.k0.cell_ (i := 1) (v := .slice none 0 0) rfl; have y2 := D5.out.k0.cell_ (i := 2) (v := .slice none 0 0) rfl; have f0 := D5.out.k0.frozen 0; have f1 := D5.out.k0.frozen 1; have f2 := D5.out.k0.frozen 2; have D6 := hid (((D5.out.set0 NB0.out 0 (.int .i64 M)).set0 NB1.out 1 (.slice A2 n2 c2)).set0 NB2.out 2 (.slice B2 q2 d2)); have y3 := D6.out.k1.cell_ (i := 0) (v := .int .i64 0) rfl; have y4 := D6.out.k1.cell_ (i := 1) (v := .int .i64 0) rfl; have f3 := D6.out.k1.frozen 0; have f4 := D6.out.k1.frozen 1; have D7 := hid ((D6.out.set1 NB3.out 0 (.int .i64 t)).set1 (byte_no2 t) 1 (.int .i64 g)); have e0 := D7.out.k0.cell_ (i := 0) (v := .int .i64 M) rfl; have e1 := D7.out.k0.cell_ (i := 1) (v := .slice A2 n2 c2) rfl; have e2 := D7.out.k0.cell_ (i := 2) (v := .slice B2 q2 d2) rfl; have e3 := D7.out.k1.cell_ (i := 0) (v := .int .i64 t) rfl; have e4 := D7.out.k1.cell_ (i := 1) (v := .int .i64 g) rfl))
    (first | (refine hK _ _ ?_; clear hK K) | skip)
    refine wpAny_ready (rs := [0]) (by kernel_rfl) (by simp) ?_
    refine AllReady.cons rfl (fun K hK => ?_) ?_
    · go_simp
      (first | (refine hK _ _ ?_; clear hK K) | skip)
      refine wpAny_ready (rs := [3]) (by kernel_rfl) (by simp) ?_
      refine AllReady.cons rfl (fun K hK => ?_) ?_
      · go_simp
        (first | (refine hK _ _ ?_; clear hK K) | skip)
        refine wpAny_ready (rs := [4]) (by kernel_rfl) (by simp) ?_
        refine AllReady.cons rfl (fun K hK => ?_) ?_
        · go_simp
          (first | (refine hK _ _ ?_; clear hK K) | skip)
          refine wpAny_done (by kernel_rfl) ?_ _
          clear v0 v1 v2 y0 y1 y2 y3 y4 f0 f1 f2 f3 f4
          go_wp2_with fail
          refine bodyPost_ret (v := .tuple #[.agg #[.int .i64 M, .slice A2 n2 c2, .slice B2 q2 d2], .agg #[.int .i64 t, .int .i64 g]]) (by simp [results, Try.results36, go_sem, e0, e1, e2, e3, e4]) rfl ?_
          exact ⟨M, A2, n2, c2, B2, q2, d2, xs, ss, t, g, rfl, ⟨D7.out.oa.sl, D7.out.ob.ss⟩, ⟨by have := D7.out.oa.len; omega, by have := D7.out.ob.1; omega⟩, hn2, hq2, D7.out.s⟩
        exact AllReady.nil
      exact AllReady.nil
    exact AllReady.nil
  exact AllReady.nil
end Go.Proofs.Ytldclkjknhjbfaa

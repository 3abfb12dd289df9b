/- A set with a further group; the first sender that waits (the program). -/
import Derived.Test.YtggjfbakekfdhaaCr12
import Derived.Test.YtggjfbakekfdhaaAppR
namespace Go.Proofs.Ytggjfbakekfdhaa
open Go.RowKit
theorem withClosure_any (A : Option Addr) (n c b1 b2 : Nat) (xs : List Int) (g i : Int) (w : World) (h : SL w A n c xs) (hn : n ≤ 1048576)
    (h1 : Blk w b1 22 #[.slice A n c]) (h2 : Blk w b2 3 #[.int .i64 g]) :
    Calls Try.prog 75 #[.int .i64 i, .pointer (some ⟨b2, 0, none⟩), .pointer (some ⟨b1, 0, none⟩)] w fun e w' => e = .returned (.bool (i == g || has xs i)) ∧ St w w' := by
  have q1 := h1.cell_ (i := 0) (v := .slice A n c) rfl
  have q2 := h2.cell_ (i := 0) (v := .int .i64 g) rfl
  cases hg : (i == g)
  · go_enter Try.func75, Try.ntmps75
    go_wp2_with fail
    refine (hasSet_any _ _ _ _ _ _ _ h.ri (by omega)).mono ?_
    rintro e w1 ⟨rfl, rfl⟩
    go_wp2_with fail
    go_ret
    exact ⟨ret_bool (by rw [Bool.false_or]), St.refl _⟩
  · go_enter Try.func75, Try.ntmps75
    go_wp2_with fail
    go_ret
    exact ⟨ret_bool (by rw [Bool.true_or]), St.refl _⟩
theorem pickWith_any (p q : Addr) (f : Int → Bool) (w : World) (hcall : ∀ (i : Nat) (W : World), i < 5 → St w W → Calls Try.prog 75 #[.int .i64 (i : Int), .pointer (some p), .pointer (some q)] W fun e w' => e = .returned (.bool (f i)) ∧ St W w') :
    Calls Try.prog 74 #[.func (.func 75) #[] #[.pointer (some p), .pointer (some q)]] w (MadeI w (pickedC f 5)) := by
  have HC := hid hcall
  clear hcall
  have O0 := hid (OI.lit (w := w) (e := 3))
  have S0 := hid ((St.refl w).alloc (.cells #[] 3))
  go_enter Try.func74, Try.ntmps74
  go_wp2_with fail
  generalize w.alloc (.cells #[] 3) = w1 at O0 S0 ⊢
  go_loopw [3, 6] (fun v i wr => ∃ (k nl a : Nat) (X : Option Addr), k ≤ 5 ∧ i = .int .i64 (k : Int) ∧ v = .slice X nl a ∧ nl ≤ k ∧ Hid (OI wr w.heap.size 3 X nl a (pickedC f k)) ∧ Hid (St w wr)) (fun _ i _ => 5 - (intOf i).toNat)
  case atStart => exact ⟨0, 0, 0, _, Nat.zero_le _, rfl, rfl, Nat.le_refl _, O0, S0⟩
  case round =>
    obtain ⟨k, nl, a, X, hk, rfl, rfl, hnl, hol, hst⟩ := hrel
    by_cases hlt : k < 5
    · have hi : (k : Int) < 5 := by omega
      go_wp2_with fail
      refine (HC.out k _ hlt hst.out).mono ?_
      rintro e w2 ⟨rfl, s2⟩
      have o2 := hid (own_below hol.out s2)
      have S2 := hid (hst.out.trans s2)
      have hle := S2.out.le
      clear s2
      cases hf : f k
      · have HP := hid (show pickedC f (k + 1) = pickedC f k by rw [pickedC_succ, hf]; simp)
        have o3 : Hid (OI w2 w.heap.size 3 X nl a (pickedC f (k + 1))) := by rw [HP.out]; exact o2
        clear hf
        go_wp2_with fail
        go_roundw
        case rel => exact ⟨k + 1, nl, _, _, by omega, by go_num, rfl, by omega, o3, S2⟩
        case measure => simp [intOf]; omega
      · have HP := hid (show pickedC f (k + 1) = pickedC f k ++ [(k : Int)] by rw [pickedC_succ, hf]; simp)
        clear hf
        go_wp2_with (at_builtin; refine wpList_append_int _ rfl _ _ 22 rfl w.heap.size 3 Try.underlying22 intInfo _ _ _ _ (k : Int) rfl o2.out rfl (by omega) hle ?_; intro X2 a2 w3 ho3 hg3)
        have o3 : Hid (OI w3 w.heap.size 3 X2 (nl + 1) a2 (pickedC f (k + 1))) := by rw [HP.out]; exact ho3
        have hXb : ∀ g, blockOf X = some g → w.heap.size ≤ g := fun g hg => (OI.lt o2.out g hg).1
        have S3 := hid (S2.out.grown hg3 (fun k hk => hXb k hk))
        go_roundw
        case rel => exact ⟨k + 1, nl + 1, _, _, by omega, by go_num, rfl, by omega, o3, S3⟩
        case measure => simp [intOf]; omega
    · obtain rfl : k = 5 := by omega
      go_wp2_with fail
      go_ret
      have e2 := hol.out.len
      refine ⟨X, a, ?_, ?_, hst.out⟩
      · rw [e2]; rfl
      · rw [e2]; exact hol.out
set_option maxHeartbeats 1000000 in
theorem with_any (A : Option Addr) (n c : Nat) (xs : List Int) (g : Int) (w : World) (h : SL w A n c xs) (hn : n ≤ 1048576) :
    Calls Try.prog 63 #[.slice A n c, .int .i64 g] w (MadeI w (insC xs g)) := by
  have s0 := ((St.refl w).alloc (.cells #[.slice A n c] 22)).alloc (.cells #[.int .i64 g] 3)
  have K0 := hid ((Blk.new w 22 #[.slice A n c]).alloc (.cells #[.int .i64 g] 3))
  have K1 := hid (show Blk ((w.alloc (.cells #[.slice A n c] 22)).alloc (.cells #[.int .i64 g] 3)) (w.heap.size + 1) 3 #[.int .i64 g] by
    have := Blk.new (w.alloc (.cells #[.slice A n c] 22)) 3 #[.int .i64 g]
    rwa [World.heap_alloc_size'] at this)
  have S0 := hid s0
  have H0 := hid (h.st s0)
  clear s0 h
  go_enter Try.func63, Try.ntmps63
  go_wp2_with fail
  generalize (w.alloc (.cells #[.slice A n c] 22)).alloc (.cells #[.int .i64 g] 3) = w0 at *
  refine (pickWith_any _ _ (fun x => x == g || has xs x) w0 (fun i W _ s => withClosure_any A n c _ _ xs g i W (H0.out.st s) hn (K0.out.st s) (K1.out.st s))).mono ?_
  rintro e w1 ⟨X, a, rfl, o1, s1⟩
  go_wp2_with fail
  go_ret
  exact ⟨X, a, rfl, OI.less o1 S0.out.le, S0.out.trans s1⟩
/-- The first sender from j on that waits for the group, as a list begins with it. -/
def WtP (hs : List (List Int × Int)) (g : Int) (j : Nat) (p : Option Addr) (w : World) (base : Nat) : Prop :=
  (p = none ∧ ∀ i x, j ≤ i → hs[i]? = some x → x.2 ≠ g) ∨
  ∃ k b q x, j ≤ k ∧ hs[k]? = some x ∧ x.2 = g ∧ (∀ i y, j ≤ i → i < k → hs[i]? = some y → y.2 ≠ g) ∧ p = some ⟨b, 0, none⟩ ∧ base ≤ b ∧ Blk w b 76 #[.int .i64 (k : Int), .pointer q]
theorem WtP.st {hs : List (List Int × Int)} {g : Int} {j base : Nat} {p : Option Addr} {w w' : World} (h : WtP hs g j p w base) (s : St w w') : WtP hs g j p w' base := by
  rcases h with h | ⟨k, b, q, x, h1, h2, h3, h4, h5, h6, h7⟩
  · exact .inl h
  · exact .inr ⟨k, b, q, x, h1, h2, h3, h4, h5, h6, h7.st s⟩
theorem WtP.skip {hs : List (List Int × Int)} {g : Int} {j base : Nat} {p : Option Addr} {w : World} {y : List Int × Int} (h : WtP hs g (j + 1) p w base) (hy : hs[j]? = some y) (hne : y.2 ≠ g) : WtP hs g j p w base := by
  rcases h with ⟨h1, h2⟩ | ⟨k, b, q, x, h1, h2, h3, h4, h5⟩
  · refine .inl ⟨h1, fun i x hi hx => ?_⟩
    by_cases e : i = j
    · subst e; rw [hy] at hx; injection hx with hx; subst hx; exact hne
    · exact h2 i x (by omega) hx
  · refine .inr ⟨k, b, q, x, by omega, h2, h3, fun i z hi hk hz => ?_, h5⟩
    by_cases e : i = j
    · subst e; rw [hy] at hz; injection hz with hz; subst hz; exact hne
    · exact h4 i z (by omega) hk hz
/-- What waiters returns. -/
def WtEnd (hs : List (List Int × Int)) (g : Int) (w : World) (e : Ending) (w' : World) : Prop :=
  ((waitIdx hs g = none ∧ e = .returned (.pointer none)) ∨ ∃ k b q x, waitIdx hs g = some k ∧ hs[k]? = some x ∧ x.2 = g ∧ e = .returned (.pointer (some ⟨b, 0, none⟩)) ∧ w.heap.size ≤ b ∧ Blk w' b 76 #[.int .i64 (k : Int), .pointer q]) ∧ St w w'
theorem WtP.fin {hs : List (List Int × Int)} {g : Int} {p : Option Addr} {w w' : World} (h : WtP hs g 0 p w' w.heap.size) (s : St w w') : WtEnd hs g w (.returned (.pointer p)) w' := by
  refine ⟨?_, s⟩
  rcases h with ⟨rfl, h2⟩ | ⟨k, b, q, x, _, h2, h3, h4, rfl, h6, h7⟩
  · refine .inl ⟨wait_none.2 fun x hx => ?_, rfl⟩
    obtain ⟨i, hi⟩ := List.getElem?_of_mem hx
    exact h2 i x (Nat.zero_le _) hi
  · refine .inr ⟨k, b, q, x, wait_some.2 ⟨x, h2, h3, fun y hy => ?_⟩, h2, h3, rfl, h6, h7⟩
    obtain ⟨i, hi⟩ := List.getElem?_of_mem hy
    have hlt : i < k := by have := (List.getElem?_eq_some_iff.1 hi).1; rw [List.length_take] at this; omega
    rw [List.getElem?_take_of_lt hlt] at hi
    exact h4 i y (Nat.zero_le _) hlt hi
set_option maxHeartbeats 2000000 in
theorem waiters_any (A B : Option Addr) (n c m d : Nat) (hs : List (List Int × Int)) (g : Int) (w : World) (h : SH w B m d hs) (hm : m ≤ 1048576) :
    Calls Try.prog 67 #[crV A n c B m d, .int .i64 g] w (WtEnd hs g w) := by
  have HL := hid h.len
  have s0 := (St.refl w).alloc (.cells #[.slice A n c, .slice B m d] 25)
  have K0 := hid (Blk.new w 25 #[.slice A n c, .slice B m d])
  have H0 := hid (h.st s0)
  have S0 := hid s0
  have q1 : IntKind.i64.wrap ((m : Int) - 1) = (m : Int) - 1 := IntWalk.i64_in _ (by omega)
  clear s0 h
  go_enter Try.func67, Try.ntmps67
  go_wp2_with fail
  generalize w.alloc (.cells _ 25) = w0 at *
  have k0 := K0.out.cell_ (i := 0) (v := .slice A n c) rfl
  have k1 := K0.out.cell_ (i := 1) (v := .slice B m d) rfl
  go_wp2_with fail
  go_loopw [5, 6] (fun v i wr => ∃ (j : Nat) (p : Option Addr), j ≤ m ∧ i = .int .i64 ((j : Int) - 1) ∧ v = .pointer p ∧ Hid (WtP hs g j p wr w.heap.size) ∧ Hid (St w0 wr)) (fun _ i _ => (intOf i + 1).toNat)
  case atStart => exact ⟨m, none, Nat.le_refl _, rfl, rfl, hid (.inl ⟨rfl, fun i x hi hx => by have := (List.getElem?_eq_some_iff.1 hx).1; have := HL.out; omega⟩), St.refl _⟩
  case round =>
    obtain ⟨wa, rfl⟩ : ∃ wo : World, wo = wr := ⟨_, rfl⟩
    obtain ⟨j, p, hj, rfl, rfl, HP, S⟩ := hrel
    clear k0 k1 q1
    have K1 := hid (K0.out.st S.out)
    have k0 := K1.out.cell_ (i := 0) (v := .slice A n c) rfl
    have k1 := K1.out.cell_ (i := 1) (v := .slice B m d) rfl
    by_cases hlt : 0 < j
    · have hj0 : (0 : Int) ≤ (j : Int) - 1 := by omega
      have hj1 : (j : Int) - 1 < (m : Int) := by omega
      obtain ⟨i, rfl⟩ : ∃ i : Nat, j = i + 1 := ⟨j - 1, by omega⟩
      obtain ⟨ad, Ak, nk, ck, xs, t, rfl, hb1, c0, c1, hx, hsl⟩ := (H0.out.st S.out).at_ (k := i) (by omega)
      have e1 : (((i + 1 : Nat) : Int) - 1) = (i : Int) := by omega
      have e2 : (((i + 1 : Nat) : Int) - 1).toNat = i := by omega
      rw [e1] at hj0 hj1 ⊢
      have q2 : IntKind.i64.wrap ((i : Int) - 1) = (i : Int) - 1 := IntWalk.i64_in _ (by omega)
      cases ht : (t == g)
      · have HN := hid (HP.out.skip hx.out (show t ≠ g by simpa using ht))
        go_wp2_with fail
        go_roundw
        case rel => exact ⟨i, p, by omega, by go_num, rfl, HN, S⟩
        case measure => first | (simp [intOf]; done) | (simp [intOf]; omega)
      · obtain rfl : t = g := by simpa using ht
        have sa := (St.refl wa).alloc (.cells #[.int .i64 (i : Int), .pointer p] 76)
        have HN : Hid (WtP hs t i (some ⟨wa.heap.size, 0, none⟩) (wa.alloc (.cells #[.int .i64 (i : Int), .pointer p] 76)) w.heap.size) :=
          .inr ⟨i, wa.heap.size, p, _, Nat.le_refl _, hx.out, rfl, fun z y h1 h2 => by omega, rfl, by have := S0.out.le; have := S.out.le; omega, Blk.new _ _ _⟩
        have S2 := hid (S.out.trans sa)
        go_wp2_with fail
        go_roundw
        case rel => exact ⟨i, _, by omega, by go_num, rfl, HN, S2⟩
        case measure => first | (simp [intOf]; done) | (simp [intOf]; omega)
    · obtain rfl : j = 0 := by omega
      have hj0 : ¬ (0 : Int) ≤ ((0 : Nat) : Int) - 1 := by omega
      go_wp2_with fail
      go_ret
      exact HP.out.fin (S0.out.trans S.out)
set_option maxRecDepth 100000 in
set_option maxHeartbeats 4000000 in
theorem copyCredits_any (A B : Option Addr) (n c m d : Nat) (fs : List Int) (hs : List (List Int × Int)) (w : World) (h : RdCr w A n c B m d fs hs) (f : FitCr fs hs) :
    Calls Try.prog 62 #[crV A n c B m d] w fun e w' => ∃ A' c' B' d', e = .returned (crV A' n c' B' m d') ∧ CrS w' w.heap.size A' n c' B' m d' fs hs ∧ St w w' := by
  have hn : n ≤ 1048576 := by have := h.sl.len; have := f.n; omega
  have hm : m ≤ 1048576 := by have := h.sh.len; have := f.m; omega
  have HL := hid h.sh.len
  have HLn := hid h.sl.len
  have F := hid f
  have H := hid h
  have s0 := ((St.refl w).alloc (.cells #[.slice A n c, .slice B m d] 25)).alloc (.cells #[.slice none 0 0, .slice none 0 0] 25)
  have K0 := hid ((Blk.new w 25 #[.slice A n c, .slice B m d]).alloc (.cells #[.slice none 0 0, .slice none 0 0] 25))
  have L0 := hid (show Blk ((w.alloc (.cells #[.slice A n c, .slice B m d] 25)).alloc (.cells #[.slice none 0 0, .slice none 0 0] 25)) (w.heap.size + 1) 25 #[.slice none 0 0, .slice none 0 0] by
    have := Blk.new (w.alloc (.cells #[.slice A n c, .slice B m d] 25)) 25 #[.slice none 0 0, .slice none 0 0]
    rwa [World.heap_alloc_size'] at this)
  have S0 := hid s0
  clear h f s0
  go_enter Try.func62, Try.ntmps62
  go_wp2_with fail
  generalize (w.alloc (.cells _ 25)).alloc (.cells _ 25) = w0 at *
  have k0 := K0.out.cell_ (i := 0) (v := .slice A n c) rfl
  have k1 := K0.out.cell_ (i := 1) (v := .slice B m d) rfl
  go_wp2_with fail
  refine (cloneInt_any A n c fs _ (H.out.st S0.out).sl.ri hn).mono ?_
  rintro e w3 ⟨A1, c1, rfl, o3, s3⟩
  rw [HLn.out] at o3 ⊢
  have HG3 := hid (show w.heap.size + 1 < w3.heap.size by have := (L0.out.st s3).lt; exact this)
  replace K0 := hid (K0.out.st s3)
  replace L0 := hid (L0.out.st s3)
  replace k0 := s3.cell k0
  replace k1 := s3.cell k1
  have S3 := hid (S0.out.trans s3)
  have C3 := hid (CrS.nil (OI.less o3 S0.out.le))
  have t3 := (St.refl w3).alloc (.cells #[.slice A1 n c1, .slice none 0 0] 25)
  have G4 := hid (Blk.new w3 25 #[.slice A1 n c1, .slice none 0 0])
  replace K0 := hid (K0.out.st t3)
  replace L0 := hid (L0.out.st t3)
  replace S3 := hid (S3.out.st t3)
  replace C3 := hid (C3.out.st t3)
  clear o3 s3 S0 t3 k0 k1
  have k0 := K0.out.cell_ (i := 0) (v := .slice A n c) rfl
  have k1 := K0.out.cell_ (i := 1) (v := .slice B m d) rfl
  go_wp2_with fail
  generalize w3.alloc (.cells #[.slice A1 n c1, .slice none 0 0] 25) = w4 at *
  clear k0 k1
  go_loopw [13] (fun i wr => ∃ (k a : Nat) (X : Option Addr), k ≤ m ∧ i = .int .i64 (k : Int) ∧ Hid (Blk wr w.heap.size 25 #[.slice A n c, .slice B m d]) ∧ Hid (Blk wr (w.heap.size + 1) 25 #[.slice none 0 0, .slice none 0 0]) ∧ Hid (Blk wr w3.heap.size 25 #[.slice A1 n c1, .slice X k a]) ∧
    Hid (CrS wr w.heap.size A1 n c1 X k a fs (hs.take k)) ∧ Hid (St w wr)) (fun i _ => m - (intOf i).toNat)
  case atStart => exact ⟨0, 0, none, Nat.zero_le _, rfl, K0, L0, G4, C3, S3⟩
  case round =>
    obtain ⟨wa, rfl⟩ : ∃ wo : World, wo = wr := ⟨_, rfl⟩
    clear K0 L0 G4 C3 S3
    obtain ⟨k, a, X, hk, rfl, K, L, G, Cc, S⟩ := hrel
    have hki : (0 : Int) ≤ (k : Int) := by omega
    by_cases hlt : k < m
    · have hki2 : (k : Int) < (m : Int) := by omega
      obtain ⟨ad, Ak, nk, ck, xs, t, rfl, hb1, c0, c1', hx, hsl⟩ := (H.out.sh.st S.out).at_ hlt
      have HX := hid hx.out
      have hnk : nk ≤ 1048576 := by have h8 := F.out.h2 _ (List.mem_of_getElem? hx.out); rw [hsl.len] at h8; exact h8
      have sa := (St.refl wa).alloc (.cells #[.slice Ak nk ck, .int .i64 t] 38)
      have P := hid (Blk.new wa 38 #[.slice Ak nk ck, .int .i64 t])
      have R := hid (hsl.st sa)
      have HNK := hid hsl.len
      have HXB := hid (show ∀ g, blockOf X = some g → g < wa.heap.size from fun g hg => (Cc.out.bB hg).2)
      replace K := hid (K.out.st sa)
      replace L := hid (L.out.st sa)
      replace G := hid (G.out.st sa)
      replace Cc := hid (Cc.out.st sa)
      replace S := hid (S.out.st sa)
      clear hsl hx sa
      go_wp2_with fail
      generalize wa.alloc (.cells #[.slice Ak nk ck, .int .i64 t] 38) = w1 at *
      have sd : St w1 w1.drew := Dr.st ⟨1, rfl⟩
      replace P := hid (P.out.st sd)
      replace R := hid (R.out.st sd)
      replace K := hid (K.out.st sd)
      replace L := hid (L.out.st sd)
      replace G := hid (G.out.st sd)
      replace Cc := hid (Cc.out.st sd)
      replace S := hid (S.out.st sd)
      have hPG : wa.heap.size ≠ w3.heap.size := fun e => Blk.ne_ P.out G.out (by decide) e
      clear sd c0 c1'
      have p0 := P.out.cell_ (i := 0) (v := .slice Ak nk ck) rfl
      have p1 := P.out.cell_ (i := 1) (v := .int .i64 t) rfl
      have g1 := G.out.cell_ (i := 1) (v := .slice X k a) rfl
      refine wp_region_held_drew (S := (fun w' => w'.cell? ⟨wa.heap.size, 0, none⟩ = some (.slice Ak nk ck) ∧ w'.cell? ⟨wa.heap.size, 1, none⟩ = some (.int .i64 t))) (by kernel_rfl) ?_ (fun hH0 => ?_)
      · exact ⟨p0, p1⟩
      refine wpAnyH_take (i := 0) (oi := ⟨some 17, _, _, _, _, _⟩) (v := ?_) rfl (by kernel_rfl) (by kernel_rfl) (by kernel_rfl) (fun _ _ _ h => h) (Or.inl ⟨by rfl, ?_⟩) (by assumption) ?_
      rotate_left
      · (intro w hSw; (try dsimp only at hSw); go_simp; (try with_reducible rfl))
      (try simp only [Act.put, List.setIfInBounds_toArray, List.set_cons_zero, List.set_cons_succ])
      refine wpAnyH_take (i := 2) (oi := ⟨some 19, _, _, _, _, _⟩) (v := ?_) rfl (by kernel_rfl) (by kernel_rfl) (by kernel_rfl) (fun _ _ _ h => h) (Or.inl ⟨by rfl, ?_⟩) (by assumption) ?_
      rotate_left
      · (intro w hSw; (try dsimp only at hSw); go_simp; (try with_reducible rfl))
      (try simp only [Act.put, List.setIfInBounds_toArray, List.set_cons_zero, List.set_cons_succ])
      refine wpAnyH_take (i := 3) (oi := ⟨some 20, _, _, _, _, _⟩) (v := ?_) rfl (by kernel_rfl) (by kernel_rfl) (by kernel_rfl) (fun _ _ _ h => h) (Or.inl ⟨by rfl, ?_⟩) (by assumption) ?_
      rotate_left
      · (intro w hSw; (try dsimp only at hSw); go_simp; (try with_reducible rfl))
      (try simp only [Act.put, List.setIfInBounds_toArray, List.set_cons_zero, List.set_cons_succ])
      refine wpAnyH_take (i := 5) (oi := ⟨some 22, _, _, _, _, _⟩) (v := ?_) rfl (by kernel_rfl) (by kernel_rfl) (by kernel_rfl) (fun _ _ _ h => h) (Or.inl ⟨by rfl, ?_⟩) (by assumption) ?_
      rotate_left
      · (intro w hSw; (try dsimp only at hSw); go_simp; (try with_reducible rfl))
      (try simp only [Act.put, List.setIfInBounds_toArray, List.set_cons_zero, List.set_cons_succ])
      refine wpAnyH_take (i := 6) (oi := ⟨some 23, _, _, _, _, _⟩) (v := ?_) rfl (by kernel_rfl) (by kernel_rfl) (by kernel_rfl) (fun _ _ _ h => h) (Or.inl ⟨by rfl, ?_⟩) (by assumption) ?_
      rotate_left
      · (intro w hSw; (try dsimp only at hSw); go_simp; (try with_reducible rfl))
      (try simp only [Act.put, List.setIfInBounds_toArray, List.set_cons_zero, List.set_cons_succ])
      refine wpAnyH_ready (rs := [1, 4]) (by kernel_rfl) (by simp) ?_
      refine AllReadyH.cons (o := ⟨some 18, _, _, _, _, _⟩) rfl (fun K hK => ?_) ?_
      · skip
        go_simp
        (first | (refine hK.out _ _ ?_ (fun hH1 => ?_)) | (go_wp2_with fail; refine hK.out _ _ ?_ (fun hH1 => ?_)))
        · first | exact ⟨p0, p1⟩ | exact ⟨s5.cell p0, s5.cell p1⟩ | exact ⟨s6.cell p0, s6.cell p1⟩
        clear hK K hH0
        (try simp only [Act.put, List.setIfInBounds_toArray, List.set_cons_zero, List.set_cons_succ])
        refine wpAnyH_ready (rs := [4]) (by kernel_rfl) (by simp) ?_
        refine AllReadyH.cons (o := ⟨some 21, _, _, _, _, _⟩) rfl (fun K hK => ?_) AllReadyH.nil
        go_simp
        (go_at_call 46; refine (cloneInt_any Ak nk ck xs _ R.out.ri hnk).mono ?_; rintro e w5 ⟨A5, c5, rfl, o5, s5⟩; rw [HNK.out] at o5 ⊢; have s6 := s5.alloc (.cells #[.slice A5 nk c5, .int .i64 t] 38); have C6 := hid (Cc.out.st s6); have G6 := hid (G.out.st s6); have O6 := hid (OI.less (OI.st o5 ((St.refl w5).alloc (.cells #[.slice A5 nk c5, .int .i64 t] 38))) (show w.heap.size ≤ w1.drew.heap.size from S.out.le)); have HZ5 := hid (show w.heap.size ≤ (w5.alloc (.cells #[.slice A5 nk c5, .int .i64 t] 38)).heap.size from (S.out.trans s6).le); have NE6 := hid (show ∀ g, blockOf A5 = some g → blockOf A1 ≠ some g from fun g hg hA => by have h7 := (OI.lt o5 g hg).1; have h8 := (Cc.out.bA hA).2; omega); obtain ⟨vs, r1, r2, r3⟩ := C6.out.ro; have r1 := hid r1; have r3 := hid r3; have g5 := s5.cell g1; have g6 := s6.cell g1)
        (first | (refine hK.out _ _ ?_ (fun hH2 => ?_)) | (go_wp2_with fail; refine hK.out _ _ ?_ (fun hH2 => ?_)))
        · exact ⟨s5.cell p0, s5.cell p1⟩
        clear hK K hH1
        (try simp only [Act.put, List.setIfInBounds_toArray, List.set_cons_zero, List.set_cons_succ])
        refine wpAnyH_take (i := 7) (oi := ⟨some 24, _, _, _, _, _⟩) (v := ?_) rfl (by kernel_rfl) (by kernel_rfl) (by kernel_rfl) (fun _ _ _ h => h) (Or.inl ⟨by rfl, ?_⟩) (by assumption) ?_
        rotate_left
        · (intro w hSw; (try dsimp only at hSw); go_simp; (try with_reducible rfl))
        (try simp only [Act.put, List.setIfInBounds_toArray, List.set_cons_zero, List.set_cons_succ])
        refine wpAnyH_ready (rs := [8]) (by kernel_rfl) (by simp) ?_
        refine AllReadyH.cons (o := ⟨some 25, _, _, _, _, _⟩) rfl (fun K hK => ?_) AllReadyH.nil
        go_simp
        (first | (refine hK.out _ _ ?_ (fun hH3 => ?_)) | (go_wp2_with fail; refine hK.out _ _ ?_ (fun hH3 => ?_)))
        · exact ⟨s6.cell p0, s6.cell p1⟩
        clear hK K hH2
        (try simp only [Act.put, List.setIfInBounds_toArray, List.set_cons_zero, List.set_cons_succ])
        refine wpAnyH_ready (rs := [9]) (by kernel_rfl) (by simp) ?_
        refine AllReadyH.cons (o := ⟨some 26, _, _, _, _, _⟩) rfl (fun K hK => ?_) AllReadyH.nil
        (refine step_append_rows _ (by rfl) (.tmp 18) (.tmp 25) 23 (by rfl) w.heap.size 38 2 32 (.agg #[.slice none 0 0, .int .i64 0]) Try.underlying23 holdInfo rfl (by omega) X k a (holdCells vs) (by rfl) r1.out _ (some ⟨w5.heap.size, 0, none⟩) 1 1 [.slice A5 nk c5, .int .i64 t] (by rfl) (Reads.one w5 _ #[.slice A5 nk c5, .int .i64 t] 2 rfl) (hold_one _ _ _ _) (by omega) (by omega) HZ5.out ?_; intro X3 a3 w7 o7 g7; have P7 := hid ((P.out.st s6).grown g7 (fun e => absurd (HXB.out _ e.symm) (Nat.lt_irrefl _))); have G7 := hid (G6.out.grown g7 (fun e => (C6.out.apart G6.out (by decide) (by decide)).2 e.symm)); have g71 := G7.out.cell_ (i := 1) (v := .slice X k a) rfl; have f71 := G7.out.frozen 1)
        (first | (refine hK.out _ _ ?_ (fun hH4 => ?_)) | (go_wp2_with fail; refine hK.out _ _ ?_ (fun hH4 => ?_)))
        · exact ⟨P7.out.cell_ (i := 0) (v := .slice Ak nk ck) rfl, P7.out.cell_ (i := 1) (v := .int .i64 t) rfl⟩
        clear hK K hH3
        (try simp only [Act.put, List.setIfInBounds_toArray, List.set_cons_zero, List.set_cons_succ])
        refine wpAnyH_take (i := 10) (oi := ⟨some 27, _, _, _, _, _⟩) (v := ?_) rfl (by kernel_rfl) (by kernel_rfl) (by kernel_rfl) (fun _ _ _ h => h) (Or.inl ⟨by rfl, ?_⟩) (by assumption) ?_
        rotate_left
        · (intro w hSw; (try dsimp only at hSw); go_simp; (try with_reducible rfl))
        (try simp only [Act.put, List.setIfInBounds_toArray, List.set_cons_zero, List.set_cons_succ])
        refine wpAnyH_ready (rs := [11]) (by kernel_rfl) (by simp) ?_
        refine AllReadyH.cons (o := ⟨none, _, _, _, _, _⟩) rfl (fun K hK => ?_) AllReadyH.nil
        go_simp
        (first | (refine hK.out _ _ ?_ (fun hH5 => ?_)) | (go_wp2_with fail; refine hK.out _ _ ?_ (fun hH5 => ?_)))
        · exact ⟨(P7.out.far (p := ⟨w3.heap.size, 1, none⟩) hPG _).cell_ (i := 0) (v := .slice Ak nk ck) rfl, (P7.out.far (p := ⟨w3.heap.size, 1, none⟩) hPG _).cell_ (i := 1) (v := .int .i64 t) rfl⟩
        clear hK K hH4
        (try simp only [Act.put, List.setIfInBounds_toArray, List.set_cons_zero, List.set_cons_succ])
        refine wpAnyH_done (by kernel_rfl) ?_ _
        clear hH5
        have bX : ∀ g, blockOf X = some g → w.heap.size ≤ g := fun g hg => (C6.out.bB hg).1
        have C7 := hid (C6.out.push r2 r3.out r1.out o7 g7 O6.out NE6.out)
        have S7 := hid ((S.out.trans s6).grown g7 bX)
        have K7 := hid ((K.out.st s6).grown g7 (fun e => (C6.out.apart (K.out.st s6) (by decide) (by decide)).2 e.symm))
        have L7 := hid ((L.out.st s6).grown g7 (fun e => (C6.out.apart (L.out.st s6) (by decide) (by decide)).2 e.symm))
        have C8 := hid (C7.out.blk G7.out (by decide) (by decide) (World.grownBy_set w7 w3.heap.size 1 (.slice X3 (k + 1) a3)))
        have hG := HG3.out
        have S8 := hid (S7.out.setCell (p := ⟨w3.heap.size, 1, none⟩) (show w.heap.size ≤ w3.heap.size by omega) (.slice X3 (k + 1) a3))
        have G8 := hid (G7.out.set_ 1 (.slice X3 (k + 1) a3))
        have K8 := hid (K7.out.far (p := ⟨w3.heap.size, 1, none⟩) (show w.heap.size ≠ w3.heap.size by omega) (.slice X3 (k + 1) a3))
        have L8 := hid (L7.out.far (p := ⟨w3.heap.size, 1, none⟩) (show w.heap.size + 1 ≠ w3.heap.size by omega) (.slice X3 (k + 1) a3))
        rw [← take_snoc HX.out] at C8
        clear C7 S7 K7 L7 C6 G6 o7 g7
        go_wp2_with fail
        go_roundw
        case rel => exact ⟨k + 1, _, _, by omega, by go_num, K8, L8, G8, C8, S8⟩
        case measure => simp [intOf]; omega
      refine AllReadyH.cons (o := ⟨some 21, _, _, _, _, _⟩) rfl (fun K hK => ?_) ?_
      · skip
        go_simp
        (go_at_call 46; refine (cloneInt_any Ak nk ck xs _ R.out.ri hnk).mono ?_; rintro e w5 ⟨A5, c5, rfl, o5, s5⟩; rw [HNK.out] at o5 ⊢; have s6 := s5.alloc (.cells #[.slice A5 nk c5, .int .i64 t] 38); have C6 := hid (Cc.out.st s6); have G6 := hid (G.out.st s6); have O6 := hid (OI.less (OI.st o5 ((St.refl w5).alloc (.cells #[.slice A5 nk c5, .int .i64 t] 38))) (show w.heap.size ≤ w1.drew.heap.size from S.out.le)); have HZ5 := hid (show w.heap.size ≤ (w5.alloc (.cells #[.slice A5 nk c5, .int .i64 t] 38)).heap.size from (S.out.trans s6).le); have NE6 := hid (show ∀ g, blockOf A5 = some g → blockOf A1 ≠ some g from fun g hg hA => by have h7 := (OI.lt o5 g hg).1; have h8 := (Cc.out.bA hA).2; omega); obtain ⟨vs, r1, r2, r3⟩ := C6.out.ro; have r1 := hid r1; have r3 := hid r3; have g5 := s5.cell g1; have g6 := s6.cell g1)
        (first | (refine hK.out _ _ ?_ (fun hH1 => ?_)) | (go_wp2_with fail; refine hK.out _ _ ?_ (fun hH1 => ?_)))
        · exact ⟨s5.cell p0, s5.cell p1⟩
        clear hK K hH0
        (try simp only [Act.put, List.setIfInBounds_toArray, List.set_cons_zero, List.set_cons_succ])
        refine wpAnyH_take (i := 7) (oi := ⟨some 24, _, _, _, _, _⟩) (v := ?_) rfl (by kernel_rfl) (by kernel_rfl) (by kernel_rfl) (fun _ _ _ h => h) (Or.inl ⟨by rfl, ?_⟩) (by assumption) ?_
        rotate_left
        · (intro w hSw; (try dsimp only at hSw); go_simp; (try with_reducible rfl))
        (try simp only [Act.put, List.setIfInBounds_toArray, List.set_cons_zero, List.set_cons_succ])
        refine wpAnyH_ready (rs := [1, 8]) (by kernel_rfl) (by simp) ?_
        refine AllReadyH.cons (o := ⟨some 18, _, _, _, _, _⟩) rfl (fun K hK => ?_) ?_
        · skip
          go_simp
          (first | (refine hK.out _ _ ?_ (fun hH2 => ?_)) | (go_wp2_with fail; refine hK.out _ _ ?_ (fun hH2 => ?_)))
          · first | exact ⟨p0, p1⟩ | exact ⟨s5.cell p0, s5.cell p1⟩ | exact ⟨s6.cell p0, s6.cell p1⟩
          clear hK K hH1
          (try simp only [Act.put, List.setIfInBounds_toArray, List.set_cons_zero, List.set_cons_succ])
          refine wpAnyH_ready (rs := [8]) (by kernel_rfl) (by simp) ?_
          refine AllReadyH.cons (o := ⟨some 25, _, _, _, _, _⟩) rfl (fun K hK => ?_) AllReadyH.nil
          go_simp
          (first | (refine hK.out _ _ ?_ (fun hH3 => ?_)) | (go_wp2_with fail; refine hK.out _ _ ?_ (fun hH3 => ?_)))
          · exact ⟨s6.cell p0, s6.cell p1⟩
          clear hK K hH2
          (try simp only [Act.put, List.setIfInBounds_toArray, List.set_cons_zero, List.set_cons_succ])
          refine wpAnyH_ready (rs := [9]) (by kernel_rfl) (by simp) ?_
          refine AllReadyH.cons (o := ⟨some 26, _, _, _, _, _⟩) rfl (fun K hK => ?_) AllReadyH.nil
          (refine step_append_rows _ (by rfl) (.tmp 18) (.tmp 25) 23 (by rfl) w.heap.size 38 2 32 (.agg #[.slice none 0 0, .int .i64 0]) Try.underlying23 holdInfo rfl (by omega) X k a (holdCells vs) (by rfl) r1.out _ (some ⟨w5.heap.size, 0, none⟩) 1 1 [.slice A5 nk c5, .int .i64 t] (by rfl) (Reads.one w5 _ #[.slice A5 nk c5, .int .i64 t] 2 rfl) (hold_one _ _ _ _) (by omega) (by omega) HZ5.out ?_; intro X3 a3 w7 o7 g7; have P7 := hid ((P.out.st s6).grown g7 (fun e => absurd (HXB.out _ e.symm) (Nat.lt_irrefl _))); have G7 := hid (G6.out.grown g7 (fun e => (C6.out.apart G6.out (by decide) (by decide)).2 e.symm)); have g71 := G7.out.cell_ (i := 1) (v := .slice X k a) rfl; have f71 := G7.out.frozen 1)
          (first | (refine hK.out _ _ ?_ (fun hH4 => ?_)) | (go_wp2_with fail; refine hK.out _ _ ?_ (fun hH4 => ?_)))
          · exact ⟨P7.out.cell_ (i := 0) (v := .slice Ak nk ck) rfl, P7.out.cell_ (i := 1) (v := .int .i64 t) rfl⟩
          clear hK K hH3
          (try simp only [Act.put, List.setIfInBounds_toArray, List.set_cons_zero, List.set_cons_succ])
          refine wpAnyH_take (i := 10) (oi := ⟨some 27, _, _, _, _, _⟩) (v := ?_) rfl (by kernel_rfl) (by kernel_rfl) (by kernel_rfl) (fun _ _ _ h => h) (Or.inl ⟨by rfl, ?_⟩) (by assumption) ?_
          rotate_left
          · (intro w hSw; (try dsimp only at hSw); go_simp; (try with_reducible rfl))
          (try simp only [Act.put, List.setIfInBounds_toArray, List.set_cons_zero, List.set_cons_succ])
          refine wpAnyH_ready (rs := [11]) (by kernel_rfl) (by simp) ?_
          refine AllReadyH.cons (o := ⟨none, _, _, _, _, _⟩) rfl (fun K hK => ?_) AllReadyH.nil
          go_simp
          (first | (refine hK.out _ _ ?_ (fun hH5 => ?_)) | (go_wp2_with fail; refine hK.out _ _ ?_ (fun hH5 => ?_)))
          · exact ⟨(P7.out.far (p := ⟨w3.heap.size, 1, none⟩) hPG _).cell_ (i := 0) (v := .slice Ak nk ck) rfl, (P7.out.far (p := ⟨w3.heap.size, 1, none⟩) hPG _).cell_ (i := 1) (v := .int .i64 t) rfl⟩
          clear hK K hH4
          (try simp only [Act.put, List.setIfInBounds_toArray, List.set_cons_zero, List.set_cons_succ])
          refine wpAnyH_done (by kernel_rfl) ?_ _
          clear hH5
          have bX : ∀ g, blockOf X = some g → w.heap.size ≤ g := fun g hg => (C6.out.bB hg).1
          have C7 := hid (C6.out.push r2 r3.out r1.out o7 g7 O6.out NE6.out)
          have S7 := hid ((S.out.trans s6).grown g7 bX)
          have K7 := hid ((K.out.st s6).grown g7 (fun e => (C6.out.apart (K.out.st s6) (by decide) (by decide)).2 e.symm))
          have L7 := hid ((L.out.st s6).grown g7 (fun e => (C6.out.apart (L.out.st s6) (by decide) (by decide)).2 e.symm))
          have C8 := hid (C7.out.blk G7.out (by decide) (by decide) (World.grownBy_set w7 w3.heap.size 1 (.slice X3 (k + 1) a3)))
          have hG := HG3.out
          have S8 := hid (S7.out.setCell (p := ⟨w3.heap.size, 1, none⟩) (show w.heap.size ≤ w3.heap.size by omega) (.slice X3 (k + 1) a3))
          have G8 := hid (G7.out.set_ 1 (.slice X3 (k + 1) a3))
          have K8 := hid (K7.out.far (p := ⟨w3.heap.size, 1, none⟩) (show w.heap.size ≠ w3.heap.size by omega) (.slice X3 (k + 1) a3))
          have L8 := hid (L7.out.far (p := ⟨w3.heap.size, 1, none⟩) (show w.heap.size + 1 ≠ w3.heap.size by omega) (.slice X3 (k + 1) a3))
          rw [← take_snoc HX.out] at C8
          clear C7 S7 K7 L7 C6 G6 o7 g7
          go_wp2_with fail
          go_roundw
          case rel => exact ⟨k + 1, _, _, by omega, by go_num, K8, L8, G8, C8, S8⟩
          case measure => simp [intOf]; omega
        refine AllReadyH.cons (o := ⟨some 25, _, _, _, _, _⟩) rfl (fun K hK => ?_) ?_
        · skip
          go_simp
          (first | (refine hK.out _ _ ?_ (fun hH2 => ?_)) | (go_wp2_with fail; refine hK.out _ _ ?_ (fun hH2 => ?_)))
          · exact ⟨s6.cell p0, s6.cell p1⟩
          clear hK K hH1
          (try simp only [Act.put, List.setIfInBounds_toArray, List.set_cons_zero, List.set_cons_succ])
          refine wpAnyH_ready (rs := [1]) (by kernel_rfl) (by simp) ?_
          refine AllReadyH.cons (o := ⟨some 18, _, _, _, _, _⟩) rfl (fun K hK => ?_) AllReadyH.nil
          go_simp
          (first | (refine hK.out _ _ ?_ (fun hH3 => ?_)) | (go_wp2_with fail; refine hK.out _ _ ?_ (fun hH3 => ?_)))
          · first | exact ⟨p0, p1⟩ | exact ⟨s5.cell p0, s5.cell p1⟩ | exact ⟨s6.cell p0, s6.cell p1⟩
          clear hK K hH2
          (try simp only [Act.put, List.setIfInBounds_toArray, List.set_cons_zero, List.set_cons_succ])
          refine wpAnyH_ready (rs := [9]) (by kernel_rfl) (by simp) ?_
          refine AllReadyH.cons (o := ⟨some 26, _, _, _, _, _⟩) rfl (fun K hK => ?_) AllReadyH.nil
          (refine step_append_rows _ (by rfl) (.tmp 18) (.tmp 25) 23 (by rfl) w.heap.size 38 2 32 (.agg #[.slice none 0 0, .int .i64 0]) Try.underlying23 holdInfo rfl (by omega) X k a (holdCells vs) (by rfl) r1.out _ (some ⟨w5.heap.size, 0, none⟩) 1 1 [.slice A5 nk c5, .int .i64 t] (by rfl) (Reads.one w5 _ #[.slice A5 nk c5, .int .i64 t] 2 rfl) (hold_one _ _ _ _) (by omega) (by omega) HZ5.out ?_; intro X3 a3 w7 o7 g7; have P7 := hid ((P.out.st s6).grown g7 (fun e => absurd (HXB.out _ e.symm) (Nat.lt_irrefl _))); have G7 := hid (G6.out.grown g7 (fun e => (C6.out.apart G6.out (by decide) (by decide)).2 e.symm)); have g71 := G7.out.cell_ (i := 1) (v := .slice X k a) rfl; have f71 := G7.out.frozen 1)
          (first | (refine hK.out _ _ ?_ (fun hH4 => ?_)) | (go_wp2_with fail; refine hK.out _ _ ?_ (fun hH4 => ?_)))
          · exact ⟨P7.out.cell_ (i := 0) (v := .slice Ak nk ck) rfl, P7.out.cell_ (i := 1) (v := .int .i64 t) rfl⟩
          clear hK K hH3
          (try simp only [Act.put, List.setIfInBounds_toArray, List.set_cons_zero, List.set_cons_succ])
          refine wpAnyH_take (i := 10) (oi := ⟨some 27, _, _, _, _, _⟩) (v := ?_) rfl (by kernel_rfl) (by kernel_rfl) (by kernel_rfl) (fun _ _ _ h => h) (Or.inl ⟨by rfl, ?_⟩) (by assumption) ?_
          rotate_left
          · (intro w hSw; (try dsimp only at hSw); go_simp; (try with_reducible rfl))
          (try simp only [Act.put, List.setIfInBounds_toArray, List.set_cons_zero, List.set_cons_succ])
          refine wpAnyH_ready (rs := [11]) (by kernel_rfl) (by simp) ?_
          refine AllReadyH.cons (o := ⟨none, _, _, _, _, _⟩) rfl (fun K hK => ?_) AllReadyH.nil
          go_simp
          (first | (refine hK.out _ _ ?_ (fun hH5 => ?_)) | (go_wp2_with fail; refine hK.out _ _ ?_ (fun hH5 => ?_)))
          · exact ⟨(P7.out.far (p := ⟨w3.heap.size, 1, none⟩) hPG _).cell_ (i := 0) (v := .slice Ak nk ck) rfl, (P7.out.far (p := ⟨w3.heap.size, 1, none⟩) hPG _).cell_ (i := 1) (v := .int .i64 t) rfl⟩
          clear hK K hH4
          (try simp only [Act.put, List.setIfInBounds_toArray, List.set_cons_zero, List.set_cons_succ])
          refine wpAnyH_done (by kernel_rfl) ?_ _
          clear hH5
          have bX : ∀ g, blockOf X = some g → w.heap.size ≤ g := fun g hg => (C6.out.bB hg).1
          have C7 := hid (C6.out.push r2 r3.out r1.out o7 g7 O6.out NE6.out)
          have S7 := hid ((S.out.trans s6).grown g7 bX)
          have K7 := hid ((K.out.st s6).grown g7 (fun e => (C6.out.apart (K.out.st s6) (by decide) (by decide)).2 e.symm))
          have L7 := hid ((L.out.st s6).grown g7 (fun e => (C6.out.apart (L.out.st s6) (by decide) (by decide)).2 e.symm))
          have C8 := hid (C7.out.blk G7.out (by decide) (by decide) (World.grownBy_set w7 w3.heap.size 1 (.slice X3 (k + 1) a3)))
          have hG := HG3.out
          have S8 := hid (S7.out.setCell (p := ⟨w3.heap.size, 1, none⟩) (show w.heap.size ≤ w3.heap.size by omega) (.slice X3 (k + 1) a3))
          have G8 := hid (G7.out.set_ 1 (.slice X3 (k + 1) a3))
          have K8 := hid (K7.out.far (p := ⟨w3.heap.size, 1, none⟩) (show w.heap.size ≠ w3.heap.size by omega) (.slice X3 (k + 1) a3))
          have L8 := hid (L7.out.far (p := ⟨w3.heap.size, 1, none⟩) (show w.heap.size + 1 ≠ w3.heap.size by omega) (.slice X3 (k + 1) a3))
          rw [← take_snoc HX.out] at C8
          clear C7 S7 K7 L7 C6 G6 o7 g7
          go_wp2_with fail
          go_roundw
          case rel => exact ⟨k + 1, _, _, by omega, by go_num, K8, L8, G8, C8, S8⟩
          case measure => simp [intOf]; omega
        exact AllReadyH.nil
      exact AllReadyH.nil
    · obtain rfl : k = m := by omega
      have g0 := G.out.cell_ (i := 0) (v := .slice A1 n c1) rfl
      have g1 := G.out.cell_ (i := 1) (v := .slice X k a) rfl
      have frr0 := L.out.frozen 0
      have frr1 := L.out.frozen 1
      have qrr0 := L.out.cell_ (i := 0) (v := .slice none 0 0) rfl
      have qrr1 := L.out.cell_ (i := 1) (v := .slice none 0 0) rfl
      have Fr := ((L.out.set_ 0 (.slice A1 n c1)).set_ 1 (.slice X k a))
      have r0 := Fr.cell_ (i := 0) (v := .slice A1 n c1) rfl
      have r1 := Fr.cell_ (i := 1) (v := .slice X k a) rfl
      have S9 := hid ((S.out.setCell (p := ⟨w.heap.size + 1, 0, none⟩) (by first | (simp; done) | omega | (simp; omega)) (.slice A1 n c1)).setCell (p := ⟨w.heap.size + 1, 1, none⟩) (by first | (simp; done) | omega | (simp; omega)) (.slice X k a))
      clear Fr
      have C9 := hid ((Cc.out.blk L.out (by decide) (by decide) (World.grownBy_set wa (w.heap.size + 1) 0 (.slice A1 n c1))).blk (L.out.set_ 0 (.slice A1 n c1)) (by decide) (by decide) (World.grownBy_set _ (w.heap.size + 1) 1 (.slice X k a)))
      rw [List.take_of_length_le (by rw [HL.out]; omega)] at C9
      go_wp2_with fail
      refine bodyPost_ret (v := crV A1 n c1 X k a) (by simp [results, Try.results62, go_sem, r0, r1]) rfl ⟨_, _, _, _, rfl, C9.out, S9.out⟩
end Go.Proofs.Ytggjfbakekfdhaa

/- The drawing of traces: l92Traces and what draws through it. -/
import Derived.Test.YtfdgbbapbpflcaaDrawTr
import Derived.Test.YtfdgbbapbpflcaaAppZ
import Derived.Test.YtfdgbbapbpflcaaLinks
import Derived.Deep.Cut
namespace Go.Proofs.Ytfdgbbapbpflcaa
open Go.RowKit
theorem Rd.alloc' {w : World} {R M : Nat} (h : Rd w R M) (o : Obj) : Rd (w.alloc o) R M := h.below ((St.refl w).alloc o) h.lt
theorem own_row {w w' : World} {base : Nat} {e : TypeId} {size n R : Nat} {v : Value} {xs : List Value} (h : w.ownsRow base e size v n xs) (hg : w.grownBy w' (some R)) (hR : R < base) : w'.ownsRow base e size v n xs := by
  refine World.ownsRow.kept h hg ?_
  cases hb : v.ownBlock with
  | none => exact .inl rfl
  | some g => right; intro e; injection e with e; have := (World.ownsRow.lt h g hb).1; omega
theorem OLL.row {w w' : World} {base e1 e n c R : Nat} {A : Option Addr} {xss : List (List Int)} (h : OLL w base e1 e A n c xss) (hg : w.grownBy w' (some R)) (hR : R < base) : OLL w' base e1 e A n c xss := by
  obtain ⟨h1, hs, h2, h3⟩ := h
  refine ⟨h1, hs, own_row h2 hg hR, fun k hk => ?_⟩
  obtain ⟨Ak, nk, ck, xs, h4, h5, h6⟩ := h3 k hk
  exact ⟨Ak, nk, ck, xs, h4, h5, own_row h6 hg hR⟩
theorem OLL.st {w w' : World} {base e1 e n c : Nat} {A : Option Addr} {xss : List (List Int)} (h : OLL w base e1 e A n c xss) (s : St w w') : OLL w' base e1 e A n c xss := by
  obtain ⟨h1, hs, h2, h3⟩ := h
  refine ⟨h1, hs, own_below h2 s, fun k hk => ?_⟩
  obtain ⟨Ak, nk, ck, xs, h4, h5, h6⟩ := h3 k hk
  exact ⟨Ak, nk, ck, xs, h4, h5, own_below h6 s⟩
theorem OLL.mk_push {W W' : World} {base e1 e n c : Nat} {A : Option Addr} {xss : List (List Int)} {hs : List Value} (hlen : xss.length = n) (hrow : W.ownsRow base e1 1 (.slice A n c) n hs)
    (hin : ∀ k, k < n → ∃ Ak nk ck xs, hs[k]? = some (.slice Ak nk ck) ∧ xss[k]? = some xs ∧ OI W base e Ak nk ck xs) {At : Option Addr} {nt ct : Nat} {t : List Int} (o : OI W base e At nt ct t) (hg : W.grownBy W' (blockOf A)) (hne : e1 ≠ e)
    {X : Option Addr} {a : Nat} (hr : W'.ownsRow base e1 1 (.slice X (n + 1) a) (n + 1) (hs ++ [.slice At nt ct])) : OLL W' base e1 e X (n + 1) a (xss ++ [t]) := by
  have hl : hs.length = n := by have := hrow.1; omega
  refine ⟨by rw [List.length_append, hlen]; rfl, _, hr, fun k hk => ?_⟩
  by_cases he : k = n
  · subst he
    refine ⟨At, nt, ct, t, ?_, ?_, OI.grown o hg (fun q hq => own_own_ne hrow o hne q hq)⟩
    · rw [List.getElem?_append_right (by omega), hl]; simp
    · rw [List.getElem?_append_right (by omega), hlen]; simp
  · obtain ⟨Ak, nk, ck, xs, h4, h5, h6⟩ := hin k (by omega)
    refine ⟨Ak, nk, ck, xs, ?_, ?_, OI.grown h6 hg (fun q hq => own_own_ne hrow h6 hne q hq)⟩
    · rw [List.getElem?_append_left (by omega)]; exact h4
    · rw [List.getElem?_append_left (by omega)]; exact h5
theorem OLL.mk_nils {W W' : World} {base e1 e n c m : Nat} {A : Option Addr} {xss : List (List Int)} {hs : List Value} (hlen : xss.length = n) (hrow : W.ownsRow base e1 1 (.slice A n c) n hs)
    (hin : ∀ k, k < n → ∃ Ak nk ck xs, hs[k]? = some (.slice Ak nk ck) ∧ xss[k]? = some xs ∧ OI W base e Ak nk ck xs) (hg : W.grownBy W' (blockOf A)) (hne : e1 ≠ e)
    {X : Option Addr} {a : Nat} (hr : W'.ownsRow base e1 1 (.slice X (n + m) a) (n + m) (hs ++ List.replicate m (.slice none 0 0))) : OLL W' base e1 e X (n + m) a (xss ++ List.replicate m []) := by
  have hl : hs.length = n := by have := hrow.1; omega
  refine ⟨by rw [List.length_append, hlen, List.length_replicate], _, hr, fun k hk => ?_⟩
  by_cases he : k < n
  · obtain ⟨Ak, nk, ck, xs, h4, h5, h6⟩ := hin k he
    refine ⟨Ak, nk, ck, xs, ?_, ?_, OI.grown h6 hg (fun q hq => own_own_ne hrow h6 hne q hq)⟩
    · rw [List.getElem?_append_left (by omega)]; exact h4
    · rw [List.getElem?_append_left (by omega)]; exact h5
  · refine ⟨none, 0, 0, [], ?_, ?_, World.ownsRow_nil _ _ _ _⟩
    · rw [List.getElem?_append_right (by omega), hl, List.getElem?_replicate, if_pos (by omega)]
    · rw [List.getElem?_append_right (by omega), hlen, List.getElem?_replicate, if_pos (by omega)]
/-- Traces that a drawing function returns. -/
def DrawnLL (w : World) (R M : Nat) (e : Ending) (w' : World) : Prop :=
  ∃ A n c xss, e = .returned (.slice A n c) ∧ SLL w' A n c xss ∧ n ≤ 12 ∧ (∀ xs ∈ xss, xs.length ≤ 10) ∧ Rd w' R M ∧ w.grownBy w' (some R)
set_option maxRecDepth 100000 in
set_option maxHeartbeats 4000000 in
theorem l92Traces_any (R M : Nat) (w : World) (hr : Rd w R M) (hM : M ≤ 1099511626000) :
    Calls Try.prog 51 #[.pointer (some ⟨R, 0, none⟩)] w (DrawnLL w R (M + 100)) := by
  have hRlt := hr.lt
  go_enter Try.func51, Try.ntmps51
  go_wp2_with fail
  refine (l92Order_any _ _ _ hr (by omega)).mono ?_
  rintro e w1 ⟨Ao, no, co, xo, rfl, oo, hno, hr1, hg1⟩
  have HG1 := hid hg1
  have HR1 := hid (show R < w1.heap.size from hr1.lt)
  have HAO := hid (show blockOf Ao ≠ some R from fun e => by have := (oo.lt _ e).1; omega)
  have ORI := hid oo.ri
  have r2 := hr1.alloc' (.cells #[] 22)
  have g2 := World.grownBy_alloc w1 (.cells #[] 22) (some R)
  have HO := hid (show OLL (w1.alloc (.cells #[] 22)) w1.heap.size 22 3 (some ⟨w1.heap.size, 0, none⟩) 0 0 [] from ⟨rfl, [], row_lit w1 _ 1, fun k hk => by omega⟩)
  clear oo hr1 hg1 hr
  go_wp2_with fail
  generalize w1.alloc (.cells #[] 22) = w2 at r2 g2 HO ⊢
  refine (pick_any _ _ _ _ r2 (by omega) (by omega) (by omega)).mono ?_
  rintro e w3 ⟨p, rfl, hp, hr3, hg3⟩
  have hp1 := hp.1
  have hp2 := hp.2.1 (by omega)
  have HO3 := hid (HO.out.row hg3 HR1.out)
  have GG3 := hid (grown_trans' g2 hg3)
  have RD3 := hid hr3
  clear hp hr3 hg3 r2 g2 HO
  go_wp2_with fail
  go_loopw [4, 6] (fun v i wr => ∃ (k a : Nat) (X : Option Addr) (xss : List (List Int)), k ≤ 5 ∧ i = .int .i64 (k : Int) ∧ v = .slice X k a ∧ Hid (OLL wr w1.heap.size 22 3 X k a xss) ∧ Hid (∀ xs ∈ xss, xs.length ≤ 10) ∧ Hid (Rd wr R (M + 24 + 12 * k)) ∧ Hid (w1.grownBy wr (some R))) (fun _ i _ => 6 - (intOf i).toNat)
  case atStart => exact ⟨0, 0, _, [], by omega, rfl, rfl, HO3, hid (fun xs hx => by simp at hx), RD3, GG3⟩
  case round =>
    obtain ⟨k, a, X, xss, hk, rfl, rfl, OL, LL, RD, GG⟩ := hrel
    by_cases hlt : (k : Int) < p
    · have hk4 : k ≤ 4 := by omega
      have RI2 := ORI.out.row GG.out (Nat.le_refl _) HAO.out
      go_wp2_with fail
      refine (l92Trace_any _ _ _ _ _ _ _ _ RD.out (by omega) RI2 (by omega) GG.out.size HAO.out).mono ?_
      rintro e w4 ⟨At, nt, ct, t, rfl, ot, hnt, hr4, hg4⟩
      have hnt10 : t.length ≤ 10 := by have := ot.len; omega
      have OT := hid (OI.less ot GG.out.size)
      have OL0 := OL
      have OL := hid (OL.out.row hg4 HR1.out)
      have RD := hid hr4
      have HB4 := hid (fun q hq => (ot.lt q hq).1)
      have GG := hid (grown_trans' GG.out hg4)
      have TT := hid hg4
      clear ot hr4 hg4 RI2
      by_cases hn1 : 1 < nt
      · have hni : (1 : Int) < (nt : Int) := by omega
        go_wp2_with fail
        refine (pick_any _ _ _ _ RD.out (by omega) (by omega) (by omega)).mono ?_
        rintro e w5 ⟨x, rfl, _, hr5, hg5⟩
        have OT := hid (OI.row OT.out hg5 HR1.out)
        have OL := hid (OL.out.row hg5 HR1.out)
        have RD := hid hr5
        have GG := hid (grown_trans' GG.out hg5)
        have TT5 := hid hg5
        clear hr5 hg5
        cases h0 : (x == 0)
        · have a9 := (St.refl w5).alloc (.cells #[.slice At nt ct] 22)
          obtain ⟨hlen, hs, hrow, hin⟩ := OL.out
          have HIN := hid hin
          have HLN := hid hlen
          have HROW := hid hrow
          have OT2 := hid (OI.st OT.out a9)
          have HROW2 := hid (own_below hrow a9)
          have HIN2 := hid (show ∀ q, q < k → ∃ Ak nk ck xs, hs[q]? = some (.slice Ak nk ck) ∧ xss[q]? = some xs ∧ OI (w5.alloc (.cells #[.slice At nt ct] 22)) w1.heap.size 3 Ak nk ck xs from fun q hq => by
            obtain ⟨Ak, nk, ck, xs, e1, e2, e3⟩ := HIN.out q hq
            exact ⟨Ak, nk, ck, xs, e1, e2, OI.st e3 a9⟩)
          have RO := hid (Reads.one w5 22 #[.slice At nt ct] 1 rfl)
          have RD2 := hid (RD.out.alloc' (.cells #[.slice At nt ct] 22))
          have GG2 := hid (grown_alloc GG.out (.cells #[.slice At nt ct] 22))
          have hz9 := Nat.le_trans GG.out.size a9.le
          clear a9 hlen hin hrow
          go_wp2_with (at_builtin; refine wpList_append_rows _ rfl _ _ 29 rfl w1.heap.size 22 1 24 (.slice none 0 0) Try.underlying29 sliceInfo rfl (by omega) X k a hs rfl HROW2.out _ _ 1 1 _ rfl RO.out (by intro u hu; simp at hu; subst hu; rfl) (by omega) (by omega) hz9 ?_; intro X9 a9 w9 o9 g9)
          have hbX := fun q hq => (World.ownsRow.lt HROW2.out q (by rw [ownBlock_slice]; exact hq)).1
          have OL9 := hid (OLL.mk_push HLN.out HROW2.out HIN2.out OT2.out g9 (by decide) o9)
          have RD9 := hid (RD2.out.grown g9 (fun q hq => Nat.lt_of_lt_of_le HR1.out (hbX q hq)))
          have GG9 := hid (grown_new GG2.out g9 hbX)
          have LL9 := hid (show ∀ xs ∈ xss ++ [t], xs.length ≤ 10 from fun xs hx => by
            rcases List.mem_append.1 hx with h | h
            · exact LL.out xs h
            · rw [List.mem_singleton] at h
              subst h
              exact hnt10)
          clear o9 g9 hbX
          go_roundw
          case rel => exact ⟨k + 1, a9, X9, _, by omega, by go_num, rfl, OL9, LL9, hid (RD9.out.le (by omega)), GG9⟩
          case measure => simp [intOf]; omega
        · go_wp2_with fail
          refine (pick_any _ _ _ _ RD.out (by omega) (by omega) (by omega)).mono ?_
          rintro e w6 ⟨y, rfl, hp, hr6, hg6⟩
          have hy1 := hp.1
          have hy2 := hp.2.1 (by omega)
          have OT := hid (OI.row OT.out hg6 HR1.out)
          have OL := hid (OL.out.row hg6 HR1.out)
          have RD := hid hr6
          have GG := hid (grown_trans' GG.out hg6)
          have TT6 := hid hg6
          clear hp hr6 hg6
          obtain ⟨y, rfl⟩ := Int.eq_ofNat_of_zero_le hy1
          obtain ⟨g, u, rfl, hb, hgl, hx, hc, hfz, hset⟩ := OI.at_ OT.out (k := y) (by omega)
          obtain ⟨g', u', he, hb', hgl', hx', hc', hfz', hset'⟩ := OI.at_ OT.out (k := y + 1) (by omega)
          obtain rfl : g = g' := by injection he with he; injection he
          obtain ⟨s1, s2⟩ := hset u'
          obtain ⟨g', u2, he2, hb2, hgl2, hx2, hc2, hfz2, hset2⟩ := OI.at_ s1.out (k := y + 1) (by omega)
          obtain rfl : g = g' := by injection he2 with he2; injection he2
          obtain ⟨s3, s4⟩ := hset2 u
          have HT8 := hid s3.out
          have TT8 := hid (grown_new (grown_new (grown_trans' (grown_trans' TT.out TT5.out) TT6.out) s2 (fun q hq => by injection hq with hq; rw [← hq]; exact HB4.out g rfl)) s4 (fun q hq => by injection hq with hq; rw [← hq]; exact HB4.out g rfl))
          have OL8 := hid (OL0.out.row TT8.out HR1.out)
          have RD8 := hid ((RD.out.grown s2 (fun q hq => by injection hq with hq; have := HR1.out; omega)).grown s4 (fun q hq => by injection hq with hq; have := HR1.out; omega))
          have GG8 := hid (grown_new (grown_new GG.out s2 (fun q hq => by injection hq with hq; omega)) s4 (fun q hq => by injection hq with hq; omega))
          have hbound : ((t.set y u').set (y + 1) u).length ≤ 10 := by simpa using hnt10
          have hy0 : (0 : Int) ≤ (y : Int) := hy1
          clear s1 s2 s3 s4 hset hset' hset2 he2 hx hx' hx2 OT OL RD GG
          go_upto_region 13 with (fail)
          generalize (w6.setCell ⟨g, y, none⟩ (.int .i64 u')).setCell ⟨g, y + 1, none⟩ (.int .i64 u) = w8 at HT8 OL8 RD8 GG8 TT8 ⊢
          clear hc hc' hc2 hfz hfz' hfz2
          have a9 := (St.refl w8).alloc (.cells #[.slice (some ⟨g, 0, none⟩) nt ct] 22)
          obtain ⟨hlen, hs, hrow, hin⟩ := OL8.out
          have HIN := hid hin
          have HLN := hid hlen
          have HROW := hid hrow
          have OT2 := hid (OI.st HT8.out a9)
          have HROW2 := hid (own_below hrow a9)
          have HIN2 := hid (show ∀ q, q < k → ∃ Ak nk ck xs, hs[q]? = some (.slice Ak nk ck) ∧ xss[q]? = some xs ∧ OI (w8.alloc (.cells #[.slice (some ⟨g, 0, none⟩) nt ct] 22)) w1.heap.size 3 Ak nk ck xs from fun q hq => by
            obtain ⟨Ak, nk, ck, xs, e1, e2, e3⟩ := HIN.out q hq
            exact ⟨Ak, nk, ck, xs, e1, e2, OI.st e3 a9⟩)
          have RO := hid (Reads.one w8 22 #[.slice (some ⟨g, 0, none⟩) nt ct] 1 rfl)
          have RD2 := hid (RD8.out.alloc' (.cells #[.slice (some ⟨g, 0, none⟩) nt ct] 22))
          have GG2 := hid (grown_alloc GG8.out (.cells #[.slice (some ⟨g, 0, none⟩) nt ct] 22))
          have hz9 := Nat.le_trans GG8.out.size a9.le
          clear a9 hlen hin hrow
          go_wp2_with (at_builtin; refine wpList_append_rows _ rfl _ _ 29 rfl w1.heap.size 22 1 24 (.slice none 0 0) Try.underlying29 sliceInfo rfl (by omega) X k a hs rfl HROW2.out _ _ 1 1 _ rfl RO.out (by intro u hu; simp at hu; subst hu; rfl) (by omega) (by omega) hz9 ?_; intro X9 a9 w9 o9 g9)
          have hbX := fun q hq => (World.ownsRow.lt HROW2.out q (by rw [ownBlock_slice]; exact hq)).1
          have OL9 := hid (OLL.mk_push HLN.out HROW2.out HIN2.out OT2.out g9 (by decide) o9)
          have RD9 := hid (RD2.out.grown g9 (fun q hq => Nat.lt_of_lt_of_le HR1.out (hbX q hq)))
          have GG9 := hid (grown_new GG2.out g9 hbX)
          have LL9 := hid (show ∀ xs ∈ xss ++ [((t.set y u').set (y + 1) u)], xs.length ≤ 10 from fun xs hx => by
            rcases List.mem_append.1 hx with h | h
            · exact LL.out xs h
            · rw [List.mem_singleton] at h
              subst h
              exact hbound)
          clear o9 g9 hbX
          go_roundw
          case rel => exact ⟨k + 1, a9, X9, _, by omega, by go_num, rfl, OL9, LL9, hid (RD9.out.le (by omega)), GG9⟩
          case measure => simp [intOf]; omega
      · have hni : ¬ (1 : Int) < (nt : Int) := by omega
        have a9 := (St.refl w4).alloc (.cells #[.slice At nt ct] 22)
        obtain ⟨hlen, hs, hrow, hin⟩ := OL.out
        have HIN := hid hin
        have HLN := hid hlen
        have HROW := hid hrow
        have OT2 := hid (OI.st OT.out a9)
        have HROW2 := hid (own_below hrow a9)
        have HIN2 := hid (show ∀ q, q < k → ∃ Ak nk ck xs, hs[q]? = some (.slice Ak nk ck) ∧ xss[q]? = some xs ∧ OI (w4.alloc (.cells #[.slice At nt ct] 22)) w1.heap.size 3 Ak nk ck xs from fun q hq => by
          obtain ⟨Ak, nk, ck, xs, e1, e2, e3⟩ := HIN.out q hq
          exact ⟨Ak, nk, ck, xs, e1, e2, OI.st e3 a9⟩)
        have RO := hid (Reads.one w4 22 #[.slice At nt ct] 1 rfl)
        have RD2 := hid (RD.out.alloc' (.cells #[.slice At nt ct] 22))
        have GG2 := hid (grown_alloc GG.out (.cells #[.slice At nt ct] 22))
        have hz9 := Nat.le_trans GG.out.size a9.le
        clear a9 hlen hin hrow
        go_wp2_with (at_builtin; refine wpList_append_rows _ rfl _ _ 29 rfl w1.heap.size 22 1 24 (.slice none 0 0) Try.underlying29 sliceInfo rfl (by omega) X k a hs rfl HROW2.out _ _ 1 1 _ rfl RO.out (by intro u hu; simp at hu; subst hu; rfl) (by omega) (by omega) hz9 ?_; intro X9 a9 w9 o9 g9)
        have hbX := fun q hq => (World.ownsRow.lt HROW2.out q (by rw [ownBlock_slice]; exact hq)).1
        have OL9 := hid (OLL.mk_push HLN.out HROW2.out HIN2.out OT2.out g9 (by decide) o9)
        have RD9 := hid (RD2.out.grown g9 (fun q hq => Nat.lt_of_lt_of_le HR1.out (hbX q hq)))
        have GG9 := hid (grown_new GG2.out g9 hbX)
        have LL9 := hid (show ∀ xs ∈ xss ++ [t], xs.length ≤ 10 from fun xs hx => by
          rcases List.mem_append.1 hx with h | h
          · exact LL.out xs h
          · rw [List.mem_singleton] at h
            subst h
            exact hnt10)
        clear o9 g9 hbX
        go_roundw
        case rel => exact ⟨k + 1, a9, X9, _, by omega, by go_num, rfl, OL9, LL9, hid (RD9.out.le (by omega)), GG9⟩
        case measure => simp [intOf]; omega
    · go_wp2_with fail
      refine (pick_any _ _ _ _ RD.out (by omega) (by omega) (by omega)).mono ?_
      rintro e w5 ⟨x, rfl, _, hr5, hg5⟩
      have OL := hid (OL.out.row hg5 HR1.out)
      have RD := hid hr5
      have GG := hid (grown_trans' GG.out hg5)
      clear hr5 hg5
      cases h0 : (x == 0)
      · cases h1 : (x == 1)
        · cases h2 : (x == 2)
          · go_wp2_with fail
            go_ret
            exact ⟨X, k, a, xss, rfl, OL.out.sll, by omega, LL.out, RD.out.le (by omega), grown_trans' HG1.out GG.out⟩
          · obtain ⟨hlen, hs, hrow, hin⟩ := OL.out
            have HLN := hid hlen
            have HROW := hid hrow
            have HIN := hid hin
            have hz9 := GG.out.size
            clear hlen hrow hin
            go_wp2_with (at_builtin; refine wpList_append_nils _ rfl _ _ 29 3 rfl w1.heap.size 22 .i64 .i64 Try.underlying29 Try.underlying3 sliceInfo X k a hs rfl HROW.out 6 rfl (by omega) (by omega) hz9 ?_; intro X9 a9 w9 o9 g9)
            have hbX := fun q hq => (World.ownsRow.lt HROW.out q (by rw [ownBlock_slice]; exact hq)).1
            have OL9 := hid (OLL.mk_nils HLN.out HROW.out HIN.out g9 (by decide) o9)
            have RD9 := hid (RD.out.grown g9 (fun q hq => Nat.lt_of_lt_of_le HR1.out (hbX q hq)))
            have GG9 := hid (grown_new GG.out g9 hbX)
            go_ret
            refine ⟨X9, k + 6, a9, _, rfl, OL9.out.sll, by omega, fun xs hx => ?_, RD9.out.le (by omega), grown_trans' HG1.out GG9.out⟩
            rcases List.mem_append.1 hx with h | h
            · exact LL.out xs h
            · rw [List.eq_of_mem_replicate h]; simp
        · go_wp2_with fail
          refine (pick_any _ _ _ _ RD.out (by omega) (by omega) (by omega)).mono ?_
          rintro e w6 ⟨y, rfl, hp, hr6, hg6⟩
          have hy1 := hp.1
          have hy2 := hp.2.1 (by omega)
          have a6 := (St.refl w6).alloc (.cells #[.int .i64 (y - 1)] 3)
          have OL := hid (show OLL (w6.alloc (.cells #[.int .i64 (y - 1)] 3)) w1.heap.size 22 3 X k a xss from (OL.out.row hg6 HR1.out).st a6)
          have RD := hid (hr6.alloc' (.cells #[.int .i64 (y - 1)] 3))
          have OT := hid (OI.less (show OI (w6.alloc (.cells #[.int .i64 (y - 1)] 3)) w6.heap.size 3 (some ⟨w6.heap.size, 0, none⟩) 1 1 [y - 1] from World.ownsRow_lit w6 #[.int .i64 (y - 1)] 1 (Nat.le_refl _) (by simp [maxLen]) rfl) (show w1.heap.size ≤ w6.heap.size from (grown_trans' GG.out hg6).size))
          have GG := hid (grown_alloc (grown_trans' GG.out hg6) (.cells #[.int .i64 (y - 1)] 3))
          clear hp hr6 hg6 a6
          have a9 := (St.refl (w6.alloc (.cells #[.int .i64 (y - 1)] 3))).alloc (.cells #[.slice (some ⟨w6.heap.size, 0, none⟩) 1 1] 22)
          obtain ⟨hlen, hs, hrow, hin⟩ := OL.out
          have HIN := hid hin
          have HLN := hid hlen
          have HROW := hid hrow
          have OT2 := hid (OI.st OT.out a9)
          have HROW2 := hid (own_below hrow a9)
          have HIN2 := hid (show ∀ q, q < k → ∃ Ak nk ck xs, hs[q]? = some (.slice Ak nk ck) ∧ xss[q]? = some xs ∧ OI ((w6.alloc (.cells #[.int .i64 (y - 1)] 3)).alloc (.cells #[.slice (some ⟨w6.heap.size, 0, none⟩) 1 1] 22)) w1.heap.size 3 Ak nk ck xs from fun q hq => by
            obtain ⟨Ak, nk, ck, xs, e1, e2, e3⟩ := HIN.out q hq
            exact ⟨Ak, nk, ck, xs, e1, e2, OI.st e3 a9⟩)
          have RO := hid (Reads.one (w6.alloc (.cells #[.int .i64 (y - 1)] 3)) 22 #[.slice (some ⟨w6.heap.size, 0, none⟩) 1 1] 1 rfl)
          rw [World.heap_alloc_size'] at RO
          have RD2 := hid (RD.out.alloc' (.cells #[.slice (some ⟨w6.heap.size, 0, none⟩) 1 1] 22))
          have GG2 := hid (grown_alloc GG.out (.cells #[.slice (some ⟨w6.heap.size, 0, none⟩) 1 1] 22))
          have hz9 := Nat.le_trans GG.out.size a9.le
          clear a9 hlen hin hrow
          go_wp2_with (at_builtin; refine wpList_append_rows _ rfl _ _ 29 rfl w1.heap.size 22 1 24 (.slice none 0 0) Try.underlying29 sliceInfo rfl (by omega) X k a hs rfl HROW2.out _ _ 1 1 _ rfl RO.out (by intro u hu; simp at hu; subst hu; rfl) (by omega) (by omega) hz9 ?_; intro X9 a9 w9 o9 g9)
          have hbX := fun q hq => (World.ownsRow.lt HROW2.out q (by rw [ownBlock_slice]; exact hq)).1
          have OL9 := hid (OLL.mk_push HLN.out HROW2.out HIN2.out OT2.out g9 (by decide) o9)
          have RD9 := hid (RD2.out.grown g9 (fun q hq => Nat.lt_of_lt_of_le HR1.out (hbX q hq)))
          have GG9 := hid (grown_new GG2.out g9 hbX)
          have LL9 := hid (show ∀ xs ∈ xss ++ [[y - 1]], xs.length ≤ 10 from fun xs hx => by
            rcases List.mem_append.1 hx with h | h
            · exact LL.out xs h
            · rw [List.mem_singleton] at h
              subst h
              exact by simp)
          clear o9 g9 hbX
          go_ret
          exact ⟨X9, k + 1, a9, _, rfl, OL9.out.sll, by omega, LL9.out, RD9.out.le (by omega), grown_trans' HG1.out GG9.out⟩
      · have a6 := (St.refl w5).alloc (.cells #[.int .i64 3, .int .i64 3] 3)
        have OT := hid (OI.less (show OI (w5.alloc (.cells #[.int .i64 3, .int .i64 3] 3)) w5.heap.size 3 (some ⟨w5.heap.size, 0, none⟩) 2 2 [3, 3] from World.ownsRow_lit w5 #[.int .i64 3, .int .i64 3] 2 (Nat.le_refl _) (by simp [maxLen]) rfl) (show w1.heap.size ≤ w5.heap.size from GG.out.size))
        have OL := hid (OL.out.st a6)
        have RD := hid (RD.out.alloc' (.cells #[.int .i64 3, .int .i64 3] 3))
        have GG := hid (grown_alloc GG.out (.cells #[.int .i64 3, .int .i64 3] 3))
        clear a6
        have a9 := (St.refl (w5.alloc (.cells #[.int .i64 3, .int .i64 3] 3))).alloc (.cells #[.slice (some ⟨w5.heap.size, 0, none⟩) 2 2] 22)
        obtain ⟨hlen, hs, hrow, hin⟩ := OL.out
        have HIN := hid hin
        have HLN := hid hlen
        have HROW := hid hrow
        have OT2 := hid (OI.st OT.out a9)
        have HROW2 := hid (own_below hrow a9)
        have HIN2 := hid (show ∀ q, q < k → ∃ Ak nk ck xs, hs[q]? = some (.slice Ak nk ck) ∧ xss[q]? = some xs ∧ OI ((w5.alloc (.cells #[.int .i64 3, .int .i64 3] 3)).alloc (.cells #[.slice (some ⟨w5.heap.size, 0, none⟩) 2 2] 22)) w1.heap.size 3 Ak nk ck xs from fun q hq => by
          obtain ⟨Ak, nk, ck, xs, e1, e2, e3⟩ := HIN.out q hq
          exact ⟨Ak, nk, ck, xs, e1, e2, OI.st e3 a9⟩)
        have RO := hid (Reads.one (w5.alloc (.cells #[.int .i64 3, .int .i64 3] 3)) 22 #[.slice (some ⟨w5.heap.size, 0, none⟩) 2 2] 1 rfl)
        rw [World.heap_alloc_size'] at RO
        have RD2 := hid (RD.out.alloc' (.cells #[.slice (some ⟨w5.heap.size, 0, none⟩) 2 2] 22))
        have GG2 := hid (grown_alloc GG.out (.cells #[.slice (some ⟨w5.heap.size, 0, none⟩) 2 2] 22))
        have hz9 := Nat.le_trans GG.out.size a9.le
        clear a9 hlen hin hrow
        go_wp2_with (at_builtin; refine wpList_append_rows _ rfl _ _ 29 rfl w1.heap.size 22 1 24 (.slice none 0 0) Try.underlying29 sliceInfo rfl (by omega) X k a hs rfl HROW2.out _ _ 1 1 _ rfl RO.out (by intro u hu; simp at hu; subst hu; rfl) (by omega) (by omega) hz9 ?_; intro X9 a9 w9 o9 g9)
        have hbX := fun q hq => (World.ownsRow.lt HROW2.out q (by rw [ownBlock_slice]; exact hq)).1
        have OL9 := hid (OLL.mk_push HLN.out HROW2.out HIN2.out OT2.out g9 (by decide) o9)
        have RD9 := hid (RD2.out.grown g9 (fun q hq => Nat.lt_of_lt_of_le HR1.out (hbX q hq)))
        have GG9 := hid (grown_new GG2.out g9 hbX)
        have LL9 := hid (show ∀ xs ∈ xss ++ [[3, 3]], xs.length ≤ 10 from fun xs hx => by
          rcases List.mem_append.1 hx with h | h
          · exact LL.out xs h
          · rw [List.mem_singleton] at h
            subst h
            exact by simp)
        clear o9 g9 hbX
        go_ret
        exact ⟨X9, k + 1, a9, _, rfl, OL9.out.sll, by omega, LL9.out, RD9.out.le (by omega), grown_trans' HG1.out GG9.out⟩
end Go.Proofs.Ytfdgbbapbpflcaa

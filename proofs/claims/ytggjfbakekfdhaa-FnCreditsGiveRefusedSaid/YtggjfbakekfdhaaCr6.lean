/- Sizes of credits that came in; their copies. -/
import Derived.Test.YtggjfbakekfdhaaCr5
import Derived.Test.YtggjfbakekfdhaaCr3
namespace Go.Proofs.Ytggjfbakekfdhaa
open Go.RowKit

/-- What is left of a size behind some lists, or -1. -/
def szL : Int → List (List Int) → Int
  | left, [] => left
  | left, xs :: t => if szM left xs.length < 0 then -1 else szL (szM left xs.length) t
def szLL (left : Int) (xss : List (List Int)) : Int := if left - xss.length < 0 then -1 else szL (left - xss.length) xss
theorem szM_le {left : Int} {n : Nat} (h : 0 ≤ szM left n) : szM left n = left - n ∧ (n : Int) ≤ left := by
  unfold szM at h ⊢
  split at h
  · omega
  · rename_i h1; rw [if_neg h1]; omega
theorem szL_bound : ∀ (xss : List (List Int)) (left : Int), 0 ≤ szL left xss → (∀ xs ∈ xss, (xs.length : Int) ≤ left) ∧ szL left xss ≤ left
  | [], left, _ => ⟨by simp, by simp [szL]⟩
  | xs :: t, left, h => by
    unfold szL at h ⊢
    split at h
    · omega
    · rename_i h1
      rw [if_neg h1]
      obtain ⟨h2, h3⟩ := szM_le (left := left) (n := xs.length) (by omega)
      obtain ⟨h4, h5⟩ := szL_bound t _ h
      refine ⟨fun ys hy => ?_, by omega⟩
      rcases List.mem_cons.1 hy with rfl | hy
      · exact h3
      · have := h4 ys hy; omega
theorem szLL_bound {left : Int} {xss : List (List Int)} (h : 0 ≤ szLL left xss) : (xss.length : Int) ≤ left ∧ ∀ xs ∈ xss, (xs.length : Int) ≤ left := by
  unfold szLL at h
  split at h
  · omega
  · obtain ⟨h1, _⟩ := szL_bound xss _ h
    exact ⟨by omega, fun xs hx => by have := h1 xs hx; omega⟩
theorem szL_drop {xss : List (List Int)} {k : Nat} {xs : List Int} (h : xss[k]? = some xs) (left : Int) : szL left (xss.drop k) = if szM left xs.length < 0 then -1 else szL (szM left xs.length) (xss.drop (k + 1)) := by
  obtain ⟨h1, h2⟩ := List.getElem?_eq_some_iff.1 h
  rw [List.drop_eq_getElem_cons h1, h2]
  rfl
theorem szM_ge (left : Int) (n : Nat) (h : 0 ≤ left) : -1 ≤ szM left n ∧ szM left n ≤ left := by unfold szM; split <;> omega

def szHS (left : Int) (hs : List (List Int × Int)) : Int := if left - hs.length < 0 then -1 else szL (left - hs.length) (hs.map Prod.fst)
theorem szHS_bound {left : Int} {hs : List (List Int × Int)} (h : 0 ≤ szHS left hs) : (hs.length : Int) ≤ left ∧ (∀ x ∈ hs, (x.1.length : Int) ≤ left) ∧ szHS left hs ≤ left := by
  unfold szHS at h ⊢
  split at h
  · omega
  · rename_i h1
    rw [if_neg h1]
    obtain ⟨h2, h3⟩ := szL_bound _ _ h
    refine ⟨by omega, fun x hx => ?_, by omega⟩
    have := h2 x.1 (List.mem_map.2 ⟨x, hx, rfl⟩)
    omega
theorem szHold_any (A : Option Addr) (n c : Nat) (t left : Int) (w : World) (hl : 0 ≤ left) (hl' : left ≤ 1048576) (hn : n ≤ 9223372036854775807) :
    Calls Try.prog 71 #[.agg #[.slice A n c, .int .i64 t], .int .i64 left] w fun e w' => e = .returned (.int .i64 (szM left n)) ∧ St w w' := by
  have s0 := (St.refl w).alloc (.cells #[.slice A n c, .int .i64 t] 83)
  have hge := szM_ge left n hl
  by_cases hs : szM left n < 0
  · go_enter Try.func71, Try.ntmps71
    go_wp2_with fail
    refine (szIntS_any _ _ _ _ _ hl hl' hn).mono ?_
    rintro e w1 ⟨rfl, rfl⟩
    go_wp2_with fail
    go_ret
    exact ⟨ret_int (by omega), s0⟩
  · go_enter Try.func71, Try.ntmps71
    go_wp2_with fail
    refine (szIntS_any _ _ _ _ _ hl hl' hn).mono ?_
    rintro e w1 ⟨rfl, rfl⟩
    go_wp2_with fail
    go_ret
    exact ⟨rfl, s0⟩
set_option maxHeartbeats 400000 in
theorem szHoldS_any (A : Option Addr) (n c : Nat) (hs : List (List Int × Int)) (left : Int) (w : World) (h : SH w A n c hs) (hl : 0 ≤ left) (hl' : left ≤ 1048576) :
    Calls Try.prog 56 #[.slice A n c, .int .i64 left] w fun e w' => e = .returned (.int .i64 (szHS left hs)) ∧ St w w' := by
  have HL := hid h.len
  have hcm := h.cm
  have hnc := h.nc
  unfold maxLen at hcm
  have hdef := hid (show szHS left hs = if left - hs.length < 0 then -1 else szL (left - hs.length) (hs.map Prod.fst) from rfl)
  rw [HL.out] at hdef
  by_cases hneg : left - n < 0
  · rw [if_pos hneg] at hdef
    go_enter Try.func56, Try.ntmps56
    go_wp2_with fail
    go_ret
    exact ⟨ret_int hdef.out.symm, St.refl _⟩
  · rw [if_neg hneg] at hdef
    go_enter Try.func56, Try.ntmps56
    go_wp2_with fail
    go_loopw [1, 5] (fun l i wr => ∃ (k : Nat) (q : Int), k ≤ n ∧ i = .int .i64 k ∧ l = .int .i64 q ∧ 0 ≤ q ∧ q ≤ 1048576 ∧ Hid (szHS left hs = szL q ((hs.map Prod.fst).drop k)) ∧ St w wr) (fun _ i _ => n - (intOf i).toNat)
    case atStart => exact ⟨0, _, Nat.zero_le _, rfl, rfl, by omega, by omega, hdef, St.refl _⟩
    case round =>
      obtain ⟨k, q, hk, rfl, rfl, hq, hq', hno, hst⟩ := hrel
      have h := h.st hst
      by_cases hlt : k < n
      · obtain ⟨ad, Ak, nk, ck, xs, t, rfl, hb1, hc1, hc2, hx, hsk⟩ := h.at_ hlt
        have hm := hid (hno.out.trans (szL_drop (k := k) (xs := xs) (by rw [List.getElem?_map, hx.out]; rfl) q))
        rw [hsk.len] at hm
        have hckm := hsk.cm
        have hckn := hsk.nc
        unfold maxLen at hckm
        go_wp2_with fail
        refine (szHold_any _ _ _ _ _ _ hq hq' (by omega)).mono ?_
        rintro e w1 ⟨rfl, s1⟩
        have hge := szM_ge q nk hq
        by_cases hs : szM q nk < 0
        · rw [if_pos hs] at hm
          go_wp2_with fail
          go_ret
          exact ⟨ret_int hm.out.symm, hst.trans s1⟩
        · rw [if_neg hs] at hm
          go_wp2_with fail
          go_roundw
          case rel => exact ⟨k + 1, _, by omega, by go_num, rfl, by omega, by omega, hm, hst.trans s1⟩
          case measure => simp [intOf]; omega
      · obtain rfl : k = n := by omega
        have hm := hid (hno.out.trans (show szL q ((hs.map Prod.fst).drop k) = q by rw [List.drop_of_length_le (by rw [List.length_map, HL.out]; omega)]; rfl))
        go_wp2_with fail
        go_ret
        exact ⟨ret_int hm.out.symm, hst⟩
def szC (left : Int) (fs : List Int) (hs : List (List Int × Int)) : Int := if szM left fs.length < 0 then -1 else szHS (szM left fs.length) hs
theorem szC_bound {left : Int} {fs : List Int} {hs : List (List Int × Int)} (h : 0 ≤ szC left fs hs) : (fs.length : Int) ≤ left ∧ (hs.length : Int) ≤ left ∧ ∀ x ∈ hs, (x.1.length : Int) ≤ left := by
  unfold szC at h
  split at h
  · omega
  · obtain ⟨h2, h3⟩ := szM_le (left := left) (n := fs.length) (by omega)
    obtain ⟨h4, h5, _⟩ := szHS_bound h
    exact ⟨h3, by omega, fun x hx => by have := h5 x hx; omega⟩
theorem szL_ge : ∀ (xss : List (List Int)) (left : Int), 0 ≤ left → -1 ≤ szL left xss ∧ szL left xss ≤ left
  | [], left, h => by simp [szL]; omega
  | xs :: t, left, h => by
    unfold szL
    have := szM_ge left xs.length h
    split
    · omega
    · have := szL_ge t (szM left xs.length) (by omega)
      omega
theorem szHS_ge (left : Int) (hs : List (List Int × Int)) (h : 0 ≤ left) : -1 ≤ szHS left hs ∧ szHS left hs ≤ left := by
  unfold szHS
  split
  · omega
  · have := szL_ge (hs.map Prod.fst) (left - hs.length) (by omega)
    omega
set_option maxHeartbeats 400000 in
theorem szCredits_any (A B : Option Addr) (n c m d : Nat) (fs : List Int) (hs : List (List Int × Int)) (left : Int) (w : World) (h : SL w A n c fs) (h' : SH w B m d hs) (hl : 0 ≤ left) (hl' : left ≤ 1048576) :
    Calls Try.prog 27 #[crV A n c B m d, .int .i64 left] w fun e w' => e = .returned (.int .i64 (szC left fs hs)) ∧ St w w' := by
  have s0 := (St.refl w).alloc (.cells #[.slice A n c, .slice B m d] 44)
  have HB := hid ((Blk.new w 44 #[.slice A n c, .slice B m d]).cell_ (i := 1) (v := .slice B m d) rfl)
  have h1' := h'.st s0
  have hdef := hid (show szC left fs hs = if szM left fs.length < 0 then -1 else szHS (szM left fs.length) hs from rfl)
  rw [h.len] at hdef
  have hcm := h.cm
  have hnc := h.nc
  unfold maxLen at hcm
  have hge := szM_ge left n hl
  by_cases hs1 : szM left n < 0
  · rw [if_pos hs1] at hdef
    go_enter Try.func27, Try.ntmps27
    go_wp2_with fail
    refine (szIntS_any _ _ _ _ _ hl hl' (by omega)).mono ?_
    rintro e w1 ⟨rfl, rfl⟩
    go_wp2_with fail
    go_ret
    exact ⟨ret_int hdef.out.symm, s0⟩
  rw [if_neg hs1] at hdef
  have hge2 := szHS_ge (szM left n) hs (by omega)
  have hb := HB.out
  go_enter Try.func27, Try.ntmps27
  go_wp2_with fail
  refine (szIntS_any _ _ _ _ _ hl hl' (by omega)).mono ?_
  rintro e w1 ⟨rfl, rfl⟩
  go_wp2_with fail
  refine (szHoldS_any _ _ _ _ _ _ h1' (by omega) (by omega)).mono ?_
  rintro e w1 ⟨rfl, s1⟩
  by_cases hs2 : szHS (szM left n) hs < 0
  · go_wp2_with fail
    go_ret
    exact ⟨ret_int (by rw [hdef.out]; omega), s0.trans s1⟩
  · go_wp2_with fail
    go_ret
    exact ⟨ret_int hdef.out.symm, s0.trans s1⟩
/-- Holds of the call's own, each with a list of its own. -/
def OHL (w : World) (base : Nat) (A : Option Addr) (n c : Nat) (hs : List (List Int × Int)) : Prop :=
  hs.length = n ∧ ∃ vs : List (Value × Int), w.ownsRow base 38 2 (.slice A n c) n (holdCells vs) ∧ ∀ k, k < n → ∃ Ak nk ck xs t, vs[k]? = some (.slice Ak nk ck, t) ∧ hs[k]? = some (xs, t) ∧ OI w base 3 Ak nk ck xs
theorem OHL.sh {w : World} {base n c : Nat} {A : Option Addr} {hs : List (List Int × Int)} (h : OHL w base A n c hs) : SH w A n c hs := by
  obtain ⟨h1, vs, h2, h3⟩ := h
  refine ⟨h1, (own_cap' h2).1, (own_cap' h2).2, fun hn => ?_⟩
  obtain ⟨ad, h4, h5, h6⟩ := (Reads.of_own h2).2 hn
  refine ⟨ad, h4, h5, fun k hk => ?_⟩
  obtain ⟨Ak, nk, ck, xs, t, h7, h8, h9⟩ := h3 k hk
  obtain ⟨h10, h11⟩ := holdCells_at vs k _ t h7
  exact ⟨Ak, nk, ck, xs, t, h6 _ _ h10, h6 _ _ h11, h8, h9.sl⟩
theorem OHL.grown {w w' : World} {base n c : Nat} {A : Option Addr} {hs : List (List Int × Int)} {row : Option Nat} (h : OHL w base A n c hs) (hg : w.grownBy w' row) (hr : ∀ g, row = some g → g < base) : OHL w' base A n c hs := by
  obtain ⟨h1, vs, h2, h3⟩ := h
  refine ⟨h1, vs, World.ownsRow.kept h2 hg ?_, fun k hk => ?_⟩
  · cases row with
    | none =>
      by_cases ho : (Value.slice A n c).ownBlock = none
      · exact .inl ho
      · exact .inr ho
    | some g => right; intro e; have := (World.ownsRow.lt h2 _ e).1; have := hr g rfl; omega
  · obtain ⟨Ak, nk, ck, xs, t, h4, h5, h6⟩ := h3 k hk
    exact ⟨Ak, nk, ck, xs, t, h4, h5, h6.grown hg fun g hg hA => by have := (h6.lt g hA).1; have := hr g hg; omega⟩
theorem OHL.less {w : World} {base base' n c : Nat} {A : Option Addr} {hs : List (List Int × Int)} (h : OHL w base A n c hs) (hb : base' ≤ base) : OHL w base' A n c hs := by
  obtain ⟨h1, vs, h2, h3⟩ := h
  refine ⟨h1, vs, OI_less_row h2 hb, fun k hk => ?_⟩
  obtain ⟨Ak, nk, ck, xs, t, h4, h5, h6⟩ := h3 k hk
  exact ⟨Ak, nk, ck, xs, t, h4, h5, h6.less hb⟩
set_option maxHeartbeats 2000000 in
theorem toHold_any (A : Option Addr) (n c : Nat) (xs : List Int) (t : Int) (w : World) (h : SL w A n c xs) (hn : n ≤ 1048576) :
    Calls Try.prog 72 #[.agg #[.slice A n c, .int .i64 t]] w fun e w' => ∃ A' c', e = .returned (.agg #[.slice A' n c', .int .i64 t]) ∧ OI w' w.heap.size 3 A' n c' xs ∧ St w w' := by
  have s0 := (((St.refl w).alloc (.cells #[.slice A n c, .int .i64 t] 83)).alloc (.cells #[.slice none 0 0, .int .i64 0] 38)).alloc (.cells #[.slice none 0 0, .int .i64 0] 38)
  have h1 := h.st s0
  have b1 := Blk.new w 83 #[.slice A n c, .int .i64 t]
  have b2 := Blk.new (w.alloc (.cells #[.slice A n c, .int .i64 t] 83)) 38 #[.slice none 0 0, .int .i64 0]
  have b3 := Blk.new ((w.alloc (.cells #[.slice A n c, .int .i64 t] 83)).alloc (.cells #[.slice none 0 0, .int .i64 0] 38)) 38 #[.slice none 0 0, .int .i64 0]
  have e1 : (w.alloc (.cells #[.slice A n c, .int .i64 t] 83)).heap.size = w.heap.size + 1 := by simp
  have e2 : ((w.alloc (.cells #[.slice A n c, .int .i64 t] 83)).alloc (.cells #[.slice none 0 0, .int .i64 0] 38)).heap.size = w.heap.size + 1 + 1 := by simp
  rw [e1] at b2
  rw [e2] at b3
  have HB1 := hid ((b1.alloc (.cells #[.slice none 0 0, .int .i64 0] 38)).alloc (.cells #[.slice none 0 0, .int .i64 0] 38))
  have HB2 := hid (b2.alloc (.cells #[.slice none 0 0, .int .i64 0] 38))
  have HB3 := hid b3
  have HS := hid s0
  have HE := hid (show (((w.alloc (.cells #[.slice A n c, .int .i64 t] 83)).alloc (.cells #[.slice none 0 0, .int .i64 0] 38)).alloc (.cells #[.slice none 0 0, .int .i64 0] 38)).heap.size = w.heap.size + 3 by simp)
  clear b1 b2 b3 e1 e2 s0
  have ri := h1.ri
  go_enter Try.func72, Try.ntmps72
  go_wp2_with fail
  generalize ((w.alloc (.cells #[.slice A n c, .int .i64 t] 83)).alloc (.cells #[.slice none 0 0, .int .i64 0] 38)).alloc (.cells #[.slice none 0 0, .int .i64 0] 38) = W at HB1 HB2 HB3 HS HE ri ⊢
  refine (toIntS_any _ _ _ _ _ _ ri hn (Nat.le_refl _)).mono ?_
  rintro e w1 ⟨rfl, o1, b1, z1⟩
  have c1 := HB1.out.below b1 HB1.out.lt
  have c2 := HB2.out.below b1 HB2.out.lt
  have c3 := HB3.out.below b1 HB3.out.lt
  have st1 := hid (HS.out.trans b1)
  have z := HE.out
  clear HB1 HB2 HB3 ri HS HE b1 z1
  have hf30 := c3.frozen 0
  have hc11 := c1.cell_ (i := 1) (v := .int .i64 t) rfl
  have hc31 := c3.cell_ (i := 1) (v := .int .i64 0) rfl
  have hf31' := c3.frozen 1
  have hc20 := c2.cell_ (i := 0) (v := .slice none 0 0) rfl
  have hc21 := c2.cell_ (i := 1) (v := .int .i64 0) rfl
  have hf20 := c2.frozen 0
  have hf21 := c2.frozen 1
  have hc30 := c3.cell_ (i := 0) (v := .slice none 0 0) rfl
  have d1 := c1.far (p := ⟨w.heap.size + 1 + 1, 0, none⟩) (by simp; omega) (.slice (some ⟨W.heap.size, 0, none⟩) n n)
  have d2 := c2.far (p := ⟨w.heap.size + 1 + 1, 0, none⟩) (by simp) (.slice (some ⟨W.heap.size, 0, none⟩) n n)
  have d3 := c3.set_ 0 (.slice (some ⟨W.heap.size, 0, none⟩) n n)
  have hd1 := d1.cell_ (i := 1) (v := .int .i64 t) rfl
  have hf31 := d3.frozen 1
  have e2 := d2.far (p := ⟨w.heap.size + 1 + 1, 1, none⟩) (by simp) (.int .i64 t)
  have e3 := d3.set_ 1 (.int .i64 t)
  have he0 := e3.cell_ (i := 0) (v := .slice (some ⟨W.heap.size, 0, none⟩) n n) rfl
  have he1 := e3.cell_ (i := 1) (v := .int .i64 t) rfl
  have hg0 := e2.frozen 0
  have hg1 := e2.frozen 1
  have f2 := (e2.set_ 0 (.slice (some ⟨W.heap.size, 0, none⟩) n n)).set_ 1 (.int .i64 t)
  have f0 := f2.cell_ (i := 0) (v := .slice (some ⟨W.heap.size, 0, none⟩) n n) rfl
  have f1 := f2.cell_ (i := 1) (v := .int .i64 t) rfl
  have S4 := hid ((((st1.out.setCell (p := ⟨w.heap.size + 1 + 1, 0, none⟩) (by simp; omega) (.slice (some ⟨W.heap.size, 0, none⟩) n n)).setCell (p := ⟨w.heap.size + 1 + 1, 1, none⟩) (by simp; omega) (.int .i64 t)).setCell (p := ⟨w.heap.size + 1, 0, none⟩) (by simp) (.slice (some ⟨W.heap.size, 0, none⟩) n n)).setCell (p := ⟨w.heap.size + 1, 1, none⟩) (by simp) (.int .i64 t))
  have hne : ∀ q, q < W.heap.size → ∀ g, some q = some g → blockOf (some ⟨W.heap.size, 0, none⟩) ≠ some g := fun q hq g hg hA => by injection hg with hg; have := (o1.lt g hA).1; omega
  have O4 := hid ((((o1.grown (World.grownBy_set w1 (w.heap.size + 1 + 1) 0 (.slice (some ⟨W.heap.size, 0, none⟩) n n)) (hne _ (by omega))).grown (World.grownBy_set _ (w.heap.size + 1 + 1) 1 (.int .i64 t)) (hne _ (by omega))).grown (World.grownBy_set _ (w.heap.size + 1) 0 (.slice (some ⟨W.heap.size, 0, none⟩) n n)) (hne _ (by omega))).grown (World.grownBy_set _ (w.heap.size + 1) 1 (.int .i64 t)) (hne _ (by omega)))
  have HZ := hid z
  have O5 := hid (O4.out.less (show w.heap.size ≤ W.heap.size by omega))
  clear c1 c2 c3 d1 d2 d3 e2 e3 f2 hne z O4 o1 st1
  go_wp2_with fail
  refine bodyPost_ret (v := .agg #[.slice (some ⟨W.heap.size, 0, none⟩) n n, .int .i64 t]) (by simp [results, Try.results72, go_sem, f0, f1]) rfl ?_
  exact ⟨_, _, rfl, O5.out, S4.out⟩
theorem made_holds (v : Value) (t : Int) (n : Nat) : (madeCells #[v, .int .i64 t] (n * 2)).toList = holdCells (List.replicate n (v, t)) := by
  apply List.ext_getElem?
  intro j
  by_cases hj : j < n * 2
  · obtain ⟨h1, h2⟩ := holdCells_at (List.replicate n (v, t)) (j / 2) v t (by rw [List.getElem?_replicate, if_pos (by omega)])
    rcases Nat.mod_two_eq_zero_or_one j with h | h
    · have e : j / 2 * 2 = j := by omega
      rw [e] at h1
      rw [h1]
      simp [madeCells, hj, h]
    · have e : j / 2 * 2 + 1 = j := by omega
      rw [e] at h2
      rw [h2]
      simp [madeCells, hj, h]
  · have l1 : (madeCells #[v, .int .i64 t] (n * 2)).toList.length = n * 2 := by simp [madeCells]
    have l2 : (holdCells (List.replicate n (v, t))).length = n * 2 := by rw [holdCells_len, List.length_replicate]
    rw [List.getElem?_eq_none (by omega), List.getElem?_eq_none (by omega)]
theorem holdCells_set2 (v : Value) (u : Int) : ∀ (vs : List (Value × Int)) (k : Nat), ((holdCells vs).set (k * 2) v).set (k * 2 + 1) (.int .i64 u) = holdCells (vs.set k (v, u))
  | [], k => by simp [holdCells]
  | t :: r, 0 => by simp [holdCells]
  | t :: r, k + 1 => by
    have e : (k + 1) * 2 + 1 = (k * 2 + 1) + 2 := by omega
    have e' : (k + 1) * 2 = (k * 2) + 2 := by omega
    have hc : ∀ (t : Value × Int) (r : List (Value × Int)), holdCells (t :: r) = t.1 :: .int .i64 t.2 :: holdCells r := fun _ _ => rfl
    rw [e, e', hc, List.set_cons_succ, List.set_cons_succ, List.set_cons_succ, List.set_cons_succ, holdCells_set2 v u r k, List.set_cons_succ, hc]
set_option maxHeartbeats 2000000 in
theorem toHoldS_any (A : Option Addr) (n c : Nat) (hs : List (List Int × Int)) (w : World) (h : SH w A n c hs) (hn : n ≤ 1048576) (hn2 : ∀ x ∈ hs, x.1.length ≤ 1048576) :
    Calls Try.prog 59 #[.slice A n c] w fun e w' => ∃ A' c', e = .returned (.slice A' n c') ∧ OHL w' w.heap.size A' n c' hs ∧ St w w' := by
  obtain ⟨i0, hi0, hz0, hz1, hz2⟩ := info_parts holdInfo
  have HL := hid h.len
  have HN2 := hid hn2
  clear hn2
  go_enter Try.func59, Try.ntmps59
  go_wp2_with (at_make; refine wpList_make_full _ rfl _ _ 23 rfl w.heap.size 38 i0 (.agg #[.slice none 0 0, .int .i64 0]) 2 Try.underlying23 hi0 hz0 hz1 _ _ _ _ n rfl rfl rfl rfl (by rw [hz2]; omega) (by unfold maxLen; omega) (Nat.le_refl _) ?_; intro w1 hown hgrow)
  have hsz : w.heap.size < w1.heap.size := (World.ownsRow.lt hown _ rfl).2
  have hbel : St w w1 := (Below.refl w.heap.size w).grown hgrow (Nat.le_refl _) (by simp)
  have ho := hown
  rw [show Value.cells (.agg #[.slice none 0 0, .int .i64 0]) = #[.slice none 0 0, .int .i64 0] from rfl, made_holds] at ho
  clear hown hgrow
  have HO := hid ho
  clear ho
  go_loopw [4] (fun t wr => ∃ (i : Nat) (vs : List (Value × Int)), i ≤ n ∧ t = .int .i64 i ∧ Hid (vs.length = n) ∧ Hid (wr.ownsRow w.heap.size 38 2 (.slice (some ⟨w.heap.size, 0, none⟩) n n) n (holdCells vs)) ∧ Hid (∀ k, k < i → ∃ Ak nk ck xs t, vs[k]? = some (.slice Ak nk ck, t) ∧ hs[k]? = some (xs, t) ∧ OI wr (w.heap.size + 1) 3 Ak nk ck xs) ∧ St w wr ∧ w.heap.size < wr.heap.size) (fun t _ => n - (intOf t).toNat)
  case atStart => exact ⟨0, List.replicate n (.slice none 0 0, 0), Nat.zero_le _, rfl, by simp [Hid], HO, fun k hk => by omega, hbel, hsz⟩
  case round =>
    obtain ⟨i, vs, hi, rfl, hvl, ho, hin, hbw, hsw⟩ := hrel
    have h := h.st hbw
    by_cases hlt : i < n
    · obtain ⟨ad, Ak, nk, ck, xs, t, rfl, hb1, hc1, hc2, hx, hsk⟩ := h.at_ hlt
      have hnk : nk ≤ 1048576 := by have := HN2.out _ (List.mem_of_getElem? hx.out); rw [hsk.len] at this; exact this
      go_wp2_with fail
      refine (toHold_any _ _ _ _ _ _ hsk hnk).mono ?_
      rintro e w2 ⟨A2, c2, rfl, o2, b2⟩
      have ho2 := own_below ho.out b2
      have hl2 := hvl.out
      obtain ⟨hq1, hq2⟩ := holdCells_at vs i (vs[i]'(by omega)).1 (vs[i]'(by omega)).2 (by simp [hl2, hlt])
      have hcc := (ho2.cellAt (i * 2) (by omega)).trans hq1
      have hcc1 := (ho2.cellAt (i * 2 + 1) (by omega)).trans hq2
      have hfz := ho2.frozenAt (i * 2)
      have hfz1 := ho2.frozenAt (i * 2 + 1)
      obtain ⟨hs1, hs2⟩ := ho2.stored (i * 2) (.slice A2 nk c2)
      obtain ⟨hs3, hs4⟩ := hs1.stored (i * 2 + 1) (.int .i64 t)
      rw [holdCells_set2] at hs3
      have hin2 : Hid (∀ k, k < i + 1 → ∃ Ak' nk' ck' xs' t', (vs.set i (.slice A2 nk c2, t))[k]? = some (.slice Ak' nk' ck', t') ∧ hs[k]? = some (xs', t') ∧ OI ((w2.setCell ⟨w.heap.size, i * 2, none⟩ (.slice A2 nk c2)).setCell ⟨w.heap.size, i * 2 + 1, none⟩ (.int .i64 t)) (w.heap.size + 1) 3 Ak' nk' ck' xs') := by
        intro k hk
        by_cases hki : k = i
        · subst hki
          have o2' := o2.less (show w.heap.size + 1 ≤ wr.heap.size by omega)
          refine ⟨_, _, _, xs, t, by rw [List.getElem?_set_self (by omega)], hx.out, (o2'.grown hs2 fun k hk hA => ?_).grown hs4 fun k hk hA => ?_⟩
          · have := (o2'.lt k hA).1
            injection hk with hk
            omega
          · have := (o2'.lt k hA).1
            injection hk with hk
            omega
        · obtain ⟨Ak', nk', ck', xs', t', h1, h2, h3⟩ := hin.out k (by omega)
          have h4 := h3.below b2 (fun g hg => (h3.lt g hg).2)
          refine ⟨Ak', nk', ck', xs', t', by rw [List.getElem?_set_ne (by omega)]; exact h1, h2, (h4.grown hs2 fun k hk hA => ?_).grown hs4 fun k hk hA => ?_⟩
          · have := (h3.lt k hA).1
            injection hk with hk
            omega
          · have := (h3.lt k hA).1
            injection hk with hk
            omega
      have hs3 := hid hs3
      have hle := hid (show (vs.set i (Value.slice A2 nk c2, t)).length = n by rw [List.length_set]; exact hvl.out)
      have HB3 := hid (((hbw.trans b2).setCell (p := ⟨w.heap.size, i * 2, none⟩) (Nat.le_refl _) (.slice A2 nk c2)).setCell (p := ⟨w.heap.size, i * 2 + 1, none⟩) (Nat.le_refl _) (.int .i64 t))
      have HZ3 := hid (show w.heap.size < ((w2.setCell ⟨w.heap.size, i * 2, none⟩ (.slice A2 nk c2)).setCell ⟨w.heap.size, i * 2 + 1, none⟩ (.int .i64 t)).heap.size by have := b2.le; simp [World.setCell]; omega)
      clear ho2 hs1 hs2 hs4 hq1 hq2 o2 b2
      go_wp2_with fail
      go_roundw
      case rel => exact ⟨i + 1, _, by omega, by go_num, hle, hs3, hin2, HB3.out, HZ3.out⟩
      case measure => simp [intOf]; omega
    · obtain rfl : i = n := by omega
      go_wp2_with fail
      go_ret
      exact ⟨_, _, rfl, ⟨HL.out, vs, ho.out, fun k hk => by obtain ⟨Ak', nk', ck', xs', t', h1, h2, h3⟩ := hin.out k hk; exact ⟨Ak', nk', ck', xs', t', h1, h2, h3.less (by omega)⟩⟩, hbw⟩
set_option maxHeartbeats 2000000 in
theorem toCredits_any (A B : Option Addr) (n c m d : Nat) (fs : List Int) (hs : List (List Int × Int)) (w : World) (h : SL w A n c fs) (h' : SH w B m d hs) (hn : n ≤ 1048576) (hm : m ≤ 1048576) (hn2 : ∀ x ∈ hs, x.1.length ≤ 1048576) :
    Calls Try.prog 29 #[crV A n c B m d] w fun e w' => ∃ A' c' B' d', e = .returned (crV A' n c' B' m d') ∧ OI w' w.heap.size 3 A' n c' fs ∧ OHL w' w.heap.size B' m d' hs ∧ St w w' := by
  have s0 := (((St.refl w).alloc (.cells #[.slice A n c, .slice B m d] 44)).alloc (.cells #[.slice none 0 0, .slice none 0 0] 25)).alloc (.cells #[.slice none 0 0, .slice none 0 0] 25)
  have h1 := h.st s0
  have b1 := Blk.new w 44 #[.slice A n c, .slice B m d]
  have b2 := Blk.new (w.alloc (.cells #[.slice A n c, .slice B m d] 44)) 25 #[.slice none 0 0, .slice none 0 0]
  have b3 := Blk.new ((w.alloc (.cells #[.slice A n c, .slice B m d] 44)).alloc (.cells #[.slice none 0 0, .slice none 0 0] 25)) 25 #[.slice none 0 0, .slice none 0 0]
  have e1 : (w.alloc (.cells #[.slice A n c, .slice B m d] 44)).heap.size = w.heap.size + 1 := by simp
  have e2 : ((w.alloc (.cells #[.slice A n c, .slice B m d] 44)).alloc (.cells #[.slice none 0 0, .slice none 0 0] 25)).heap.size = w.heap.size + 1 + 1 := by simp
  rw [e1] at b2
  rw [e2] at b3
  have HB1 := hid ((b1.alloc (.cells #[.slice none 0 0, .slice none 0 0] 25)).alloc (.cells #[.slice none 0 0, .slice none 0 0] 25))
  have HB2 := hid (b2.alloc (.cells #[.slice none 0 0, .slice none 0 0] 25))
  have HB3 := hid b3
  have HS := hid s0
  have HE := hid (show (((w.alloc (.cells #[.slice A n c, .slice B m d] 44)).alloc (.cells #[.slice none 0 0, .slice none 0 0] 25)).alloc (.cells #[.slice none 0 0, .slice none 0 0] 25)).heap.size = w.heap.size + 3 by simp)
  have HN2 := hid hn2
  clear b1 b2 b3 e1 e2 s0 hn2
  have ri := h1.ri
  go_enter Try.func29, Try.ntmps29
  go_wp2_with fail
  generalize ((w.alloc (.cells #[.slice A n c, .slice B m d] 44)).alloc (.cells #[.slice none 0 0, .slice none 0 0] 25)).alloc (.cells #[.slice none 0 0, .slice none 0 0] 25) = W at HB1 HB2 HB3 HS HE ri ⊢
  refine (toIntS_any _ _ _ _ _ _ ri hn (Nat.le_refl _)).mono ?_
  rintro e w1 ⟨rfl, o1, b1, z1⟩
  have c1 := HB1.out.below b1 HB1.out.lt
  have c2 := HB2.out.below b1 HB2.out.lt
  have c3 := HB3.out.below b1 HB3.out.lt
  have st1 := hid (HS.out.trans b1)
  have z := HE.out
  clear HB1 HB2 HB3 ri HS HE b1
  have hf30 := c3.frozen 0
  have hc30 := c3.cell_ (i := 0) (v := .slice none 0 0) rfl
  have hc11 := c1.cell_ (i := 1) (v := .slice B m d) rfl
  have D1 := hid (c1.far (p := ⟨w.heap.size + 1 + 1, 0, none⟩) (by simp; omega) (.slice (some ⟨W.heap.size, 0, none⟩) n n))
  have D2 := hid (c2.far (p := ⟨w.heap.size + 1 + 1, 0, none⟩) (by simp) (.slice (some ⟨W.heap.size, 0, none⟩) n n))
  have D3 := hid (c3.set_ 0 (.slice (some ⟨W.heap.size, 0, none⟩) n n))
  have hd1 := D1.out.cell_ (i := 1) (v := .slice B m d) rfl
  have S1 := hid (st1.out.setCell (p := ⟨w.heap.size + 1 + 1, 0, none⟩) (by simp; omega) (.slice (some ⟨W.heap.size, 0, none⟩) n n))
  have hne : ∀ q, q < W.heap.size → ∀ g, some q = some g → blockOf (some ⟨W.heap.size, 0, none⟩) ≠ some g := fun q hq g hg hA => by injection hg with hg; have := (o1.lt g hA).1; omega
  have O1 := hid (o1.grown (World.grownBy_set w1 (w.heap.size + 1 + 1) 0 (.slice (some ⟨W.heap.size, 0, none⟩) n n)) (hne _ (by omega)))
  have Z1 := hid (show W.heap.size < (w1.setCell ⟨w.heap.size + 1 + 1, 0, none⟩ (.slice (some ⟨W.heap.size, 0, none⟩) n n)).heap.size by simp [World.setCell]; omega)
  have HNE := hid hne
  have HZ := hid z
  clear c1 c2 c3 z o1 z1 hne st1
  go_wp2_with fail
  generalize w1.setCell ⟨w.heap.size + 1 + 1, 0, none⟩ (.slice (some ⟨W.heap.size, 0, none⟩) n n) = W2 at D1 D2 D3 hd1 S1 O1 Z1 ⊢
  refine (toHoldS_any _ _ _ _ _ (h'.st S1.out) hm HN2.out).mono ?_
  rintro e w3 ⟨B3, d3, rfl, o3, s3⟩
  have z := HZ.out
  have c2 := D2.out.below s3 D2.out.lt
  have c3 := D3.out.below s3 D3.out.lt
  have O3 := O1.out.below s3 (fun g hg => (O1.out.lt g hg).2)
  have S3 := S1.out.trans s3
  have z1 := Z1.out
  have hf31 := c3.frozen 1
  have hc31 := c3.cell_ (i := 1) (v := .slice none 0 0) rfl
  have e2 := c2.far (p := ⟨w.heap.size + 1 + 1, 1, none⟩) (by simp) (.slice B3 m d3)
  have e3 := c3.set_ 1 (.slice B3 m d3)
  have he0 := e3.cell_ (i := 0) (v := .slice (some ⟨W.heap.size, 0, none⟩) n n) rfl
  have he1 := e3.cell_ (i := 1) (v := .slice B3 m d3) rfl
  have hg0 := e2.frozen 0
  have hg1 := e2.frozen 1
  have hc20 := c2.cell_ (i := 0) (v := .slice none 0 0) rfl
  have hc21 := c2.cell_ (i := 1) (v := .slice none 0 0) rfl
  have hf20 := c2.frozen 0
  have hf21 := c2.frozen 1
  have hc30' := c3.cell_ (i := 0) (v := .slice (some ⟨W.heap.size, 0, none⟩) n n) rfl
  have f2 := (e2.set_ 0 (.slice (some ⟨W.heap.size, 0, none⟩) n n)).set_ 1 (.slice B3 m d3)
  have f0 := f2.cell_ (i := 0) (v := .slice (some ⟨W.heap.size, 0, none⟩) n n) rfl
  have f1 := f2.cell_ (i := 1) (v := .slice B3 m d3) rfl
  have S4 := hid (((S3.setCell (p := ⟨w.heap.size + 1 + 1, 1, none⟩) (by simp; omega) (.slice B3 m d3)).setCell (p := ⟨w.heap.size + 1, 0, none⟩) (by simp) (.slice (some ⟨W.heap.size, 0, none⟩) n n)).setCell (p := ⟨w.heap.size + 1, 1, none⟩) (by simp) (.slice B3 m d3))
  have O4 := hid ((((O3.grown (World.grownBy_set w3 (w.heap.size + 1 + 1) 1 (.slice B3 m d3)) (HNE.out _ (by omega))).grown (World.grownBy_set _ (w.heap.size + 1) 0 (.slice (some ⟨W.heap.size, 0, none⟩) n n)) (HNE.out _ (by omega))).grown (World.grownBy_set _ (w.heap.size + 1) 1 (.slice B3 m d3)) (HNE.out _ (by omega))).less (show w.heap.size ≤ W.heap.size by omega))
  have P4 := hid ((((o3.grown (World.grownBy_set w3 (w.heap.size + 1 + 1) 1 (.slice B3 m d3)) (fun g hg => by injection hg with hg; omega)).grown (World.grownBy_set _ (w.heap.size + 1) 0 (.slice (some ⟨W.heap.size, 0, none⟩) n n)) (fun g hg => by injection hg with hg; omega)).grown (World.grownBy_set _ (w.heap.size + 1) 1 (.slice B3 m d3)) (fun g hg => by injection hg with hg; omega)).less (show w.heap.size ≤ W2.heap.size by omega))
  clear c2 c3 e2 e3 f2 z z1 O3 S3 s3 o3 hd1
  go_wp2_with fail
  refine bodyPost_ret (v := crV (some ⟨W.heap.size, 0, none⟩) n n B3 m d3) (by simp [results, Try.results29, go_sem, f0, f1]) rfl ?_
  exact ⟨_, _, _, _, rfl, O4.out, P4.out, S4.out⟩
end Go.Proofs.Ytggjfbakekfdhaa

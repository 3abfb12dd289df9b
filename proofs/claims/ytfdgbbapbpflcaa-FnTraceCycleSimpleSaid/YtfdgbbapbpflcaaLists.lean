/- Slices of slices of ints: what they read as; their copies, sizes, comparison. -/
import Derived.Test.YtfdgbbapbpflcaaInts
namespace Go.Proofs.Ytfdgbbapbpflcaa
open Go.RowKit

/-- A slice of slices of ints that can be read. -/
structure SLL (w : World) (A : Option Addr) (n c : Nat) (xss : List (List Int)) : Prop where
  len : xss.length = n
  nc : n ≤ c
  cm : c ≤ maxLen
  rd : 0 < n → ∃ ad, A = some ad ∧ ad.block < w.heap.size ∧ ∀ k, k < n → ∃ Ak nk ck xs, w.cell? (ad.add k) = some (.slice Ak nk ck) ∧ xss[k]? = some xs ∧ SL w Ak nk ck xs
section
variable {w w' : World} {n c : Nat} {A : Option Addr} {xss : List (List Int)}
theorem SLL.at_ {k : Nat} (h : SLL w A n c xss) (hk : k < n) : ∃ ad Ak nk ck xs, A = some ad ∧ ad.block < w.heap.size ∧ w.cell? (ad.add k) = some (.slice Ak nk ck) ∧ Hid (xss[k]? = some xs) ∧ SL w Ak nk ck xs := by
  obtain ⟨ad, h1, h2, h3⟩ := h.rd (by omega)
  obtain ⟨Ak, nk, ck, xs, h4, h5, h6⟩ := h3 k hk
  exact ⟨ad, Ak, nk, ck, xs, h1, h2, h4, h5, h6⟩
theorem SLL.st (h : SLL w A n c xss) (hs : St w w') : SLL w' A n c xss := by
  refine ⟨h.len, h.nc, h.cm, fun hn => ?_⟩
  obtain ⟨ad, h1, h2, h3⟩ := h.rd hn
  refine ⟨ad, h1, Nat.lt_of_lt_of_le h2 hs.size, fun k hk => ?_⟩
  obtain ⟨Ak, nk, ck, xs, h4, h5, h6⟩ := h3 k hk
  exact ⟨Ak, nk, ck, xs, (hs.below.cell (by rw [block_of_add]; exact h2)).trans h4, h5, h6.st hs⟩
theorem SLL.dr (h : SLL w A n c xss) (hs : Dr w w') : SLL w' A n c xss := h.st hs.st
theorem SLL.none_ : SLL w none 0 0 [] := ⟨rfl, Nat.le_refl _, by simp [maxLen], fun h => absurd h (by omega)⟩
end
/-- A slice of slices that the call owns, the inner ones too: their blocks lie from 'base' on. -/
def OLL (w : World) (base : Nat) (e1 e : TypeId) (A : Option Addr) (n c : Nat) (xss : List (List Int)) : Prop :=
  xss.length = n ∧ ∃ hs : List Value, w.ownsRow base e1 1 (.slice A n c) n hs ∧ ∀ k, k < n → ∃ Ak nk ck xs, hs[k]? = some (.slice Ak nk ck) ∧ xss[k]? = some xs ∧ OI w base e Ak nk ck xs
theorem own_cap {w : World} {base : Nat} {e : TypeId} {size n c : Nat} {A : Option Addr} {hs : List Value} (h : w.ownsRow base e size (.slice A n c) n hs) : n ≤ c ∧ c ≤ maxLen := by
  rcases h.2 with ⟨h1, h2⟩ | ⟨g, cap, cur, h1, _, _, h2, h3, _⟩
  · injection h1 with h3 h4 h5
    subst h3 h4 h5
    exact ⟨Nat.le_refl _, by simp [maxLen]⟩
  · injection h1 with h4 h5 h6
    subst h4 h6
    exact ⟨h2, h3⟩
theorem OLL.sll {w : World} {base e1 e n c : Nat} {A : Option Addr} {xss : List (List Int)} (h : OLL w base e1 e A n c xss) : SLL w A n c xss := by
  obtain ⟨h1, hs, h2, h3⟩ := h
  refine ⟨h1, (own_cap h2).1, (own_cap h2).2, fun hn => ?_⟩
  obtain ⟨ad, h4, h5, h6⟩ := (Reads.of_own h2).2 hn
  refine ⟨ad, h4, h5, fun k hk => ?_⟩
  obtain ⟨Ak, nk, ck, xs, h7, h8, h9⟩ := h3 k hk
  exact ⟨Ak, nk, ck, xs, h6 k _ h7, h8, h9.sl⟩

theorem sliceInfo : (Try.prog.info? 22).map (fun i => (i.zero, i.size, i.bytes)) = some (some (.slice none 0 0), 1, 24) := by kernel_rfl
theorem toIntSS_any (A : Option Addr) (n c : Nat) (xss : List (List Int)) (w : World) (h : SLL w A n c xss) (hn : n ≤ 1048576) (hn2 : ∀ xs ∈ xss, xs.length ≤ 1048576) :
    Calls Try.prog 26 #[.slice A n c] w fun e w' => e = .returned (.slice (some ⟨w.heap.size, 0, none⟩) n n) ∧ OLL w' w.heap.size 22 3 (some ⟨w.heap.size, 0, none⟩) n n xss ∧ Below w.heap.size w w' ∧ w.heap.size < w'.heap.size := by
  obtain ⟨i0, hi0, hz0, hz1, hz2⟩ := info_parts sliceInfo
  have HL := hid h.len
  have HN2 := hid hn2
  clear hn2
  go_enter Try.func26, Try.ntmps26
  go_wp2_with (at_make; refine wpList_make_full _ rfl _ _ 29 rfl w.heap.size 22 i0 (.slice none 0 0) 1 Try.underlying29 hi0 hz0 hz1 _ _ _ _ n rfl rfl rfl rfl (by rw [hz2]; omega) (by unfold maxLen; omega) (Nat.le_refl _) ?_; intro w1 hown hgrow)
  have hsz : w.heap.size < w1.heap.size := (World.ownsRow.lt hown _ rfl).2
  have hbel := (Below.refl w.heap.size w).grown hgrow (Nat.le_refl _) (by simp)
  have ho := hown
  rw [Nat.mul_one, show Value.cells (.slice none 0 0) = #[.slice none 0 0] from rfl, toList_madeCells_one] at ho
  clear hown hgrow
  have HO := hid ho
  clear ho
  go_loopw [4] (fun t wr => ∃ (i : Nat) (hs : List Value), i ≤ n ∧ t = .int .i64 i ∧ Hid (hs.length = i) ∧ Hid (wr.ownsRow w.heap.size 22 1 (.slice (some ⟨w.heap.size, 0, none⟩) n n) n (hs ++ (List.replicate n (.slice none 0 0)).drop i)) ∧ Hid (∀ k, k < i → ∃ Ak nk ck xs, hs[k]? = some (.slice Ak nk ck) ∧ xss[k]? = some xs ∧ OI wr (w.heap.size + 1) 3 Ak nk ck xs) ∧ Below w.heap.size w wr ∧ w.heap.size < wr.heap.size) (fun t _ => n - (intOf t).toNat)
  case atStart => exact ⟨0, [], Nat.zero_le _, rfl, rfl, HO, fun k hk => by omega, hbel, hsz⟩
  case round =>
    obtain ⟨i, hs, hi, rfl, hsl, ho, hin, hbw, hsw⟩ := hrel
    rename_i wr
    have h := h.st hbw
    by_cases hlt : i < n
    · obtain ⟨ad, Ak, nk, ck, xs, rfl, hb1, hc, hx, hsk⟩ := h.at_ hlt
      have hnk : nk ≤ 1048576 := by have := HN2.out xs (List.mem_of_getElem? hx.out); rw [hsk.len] at this; exact this
      go_wp2_with fail
      refine (toIntS_any _ _ _ _ _ _ hsk.ri hnk (Nat.le_refl _)).mono ?_
      rintro e w2 ⟨rfl, o2, b2, s2⟩
      have ho2 : w2.ownsRow w.heap.size 22 1 (.slice (some ⟨w.heap.size, 0, none⟩) n n) n (hs ++ (List.replicate n (.slice none 0 0)).drop i) := by
        refine ho.out.kept (row := none) ⟨b2.os, b2.tape, b2.output, b2.size, fun k hk _ => b2.block k hk⟩ ?_
        right; simp [Value.ownBlock]
      have hcc := ho2.cellAt i (by omega)
      have hcd : (hs ++ (List.replicate n (Value.slice none 0 0)).drop i)[i]? = some (.slice none 0 0) := by
        have := hsl.out
        rw [List.getElem?_append_right (by omega), this, Nat.sub_self, List.getElem?_drop, List.getElem?_replicate]
        simp [hlt]
      rw [hcd] at hcc
      have hfz := ho2.frozenAt i
      obtain ⟨hs1, hs2⟩ := ho2.stored i (.slice (some ⟨wr.heap.size, 0, none⟩) nk nk)
      have hs1 := hid hs1
      have hin2 : Hid (∀ k, k < i + 1 → ∃ Ak' nk' ck' xs', (hs ++ [.slice (some ⟨wr.heap.size, 0, none⟩) nk nk])[k]? = some (.slice Ak' nk' ck') ∧ xss[k]? = some xs' ∧ OI (w2.setCell ⟨w.heap.size, i, none⟩ (.slice (some ⟨wr.heap.size, 0, none⟩) nk nk)) (w.heap.size + 1) 3 Ak' nk' ck' xs') := by
        intro k hk
        by_cases hki : k = i
        · subst hki
          refine ⟨_, _, _, xs, by rw [List.getElem?_append_right (by rw [hsl.out]; omega), hsl.out]; simp, hx.out, (o2.less (by omega)).grown hs2 fun k hk hA => ?_⟩
          have := (o2.lt k hA).1
          injection hk with hk
          omega
        · obtain ⟨Ak', nk', ck', xs', h1, h2, h3⟩ := hin.out k (by omega)
          have h4 := h3.below b2 (fun g hg => (h3.lt g hg).2)
          refine ⟨Ak', nk', ck', xs', by rw [List.getElem?_append_left (by rw [hsl.out]; omega)]; exact h1, h2, h4.grown hs2 fun k hk hA => ?_⟩
          have := (h3.lt k hA).1
          injection hk with hk
          omega
      have hle := hid (show (hs ++ [Value.slice (some ⟨wr.heap.size, 0, none⟩) nk nk]).length = i + 1 by rw [List.length_append, hsl.out]; rfl)
      have hfr := hid (set_front (xs := hs ++ (List.replicate n (Value.slice none 0 0)).drop i) (u := .slice (some ⟨wr.heap.size, 0, none⟩) nk nk) rfl hsl.out (by rw [List.length_replicate]; exact hlt))
      have hb3 := (hbw.trans (b2.mono (by omega))).setCell (p := ⟨w.heap.size, i, none⟩) (Nat.le_refl _) (.slice (some ⟨wr.heap.size, 0, none⟩) nk nk)
      have hz3 : w.heap.size < (w2.setCell ⟨w.heap.size, i, none⟩ (.slice (some ⟨wr.heap.size, 0, none⟩) nk nk)).heap.size := by simp [World.setCell]; omega
      have HB3 := hid hb3
      have HZ3 := hid hz3
      clear ho2 hs2 hcd hb3 hz3 o2 b2
      go_wp2_with fail
      go_roundw
      case rel => exact ⟨i + 1, _, by omega, by go_num, hle, by have h1 := hs1.out; rw [hfr.out] at h1; exact h1, hin2, HB3.out, HZ3.out⟩
      case measure => simp [intOf]; omega
    · obtain rfl : i = n := by omega
      go_wp2_with fail
      go_ret
      refine ⟨rfl, ⟨HL.out, hs, ?_, fun k hk => ?_⟩, hbw, hsw⟩
      · have := ho.out
        rwa [List.drop_of_length_le (by rw [List.length_replicate]; omega), List.append_nil] at this
      · obtain ⟨Ak', nk', ck', xs', h1, h2, h3⟩ := hin.out k hk
        exact ⟨Ak', nk', ck', xs', h1, h2, h3.less (by omega)⟩

/-- What is left of a size behind some lists, or -1. -/
def szL : Int → List (List Int) → Int
  | left, [] => left
  | left, xs :: t => if szM left xs.length < 0 then -1 else szL (szM left xs.length) t
def szLL (left : Int) (xss : List (List Int)) : Int := if left - xss.length < 0 then -1 else szL (left - xss.length) xss
theorem szM_le {left : Int} {n : Nat} (h : 0 ≤ szM left n) : szM left n = left - n ∧ (n : Int) ≤ left := by
  unfold szM at h ⊢
  split at h
  · omega
  · rename_i h1; rw [if_neg h1]; omega
theorem szL_bound : ∀ (xss : List (List Int)) (left : Int), 0 ≤ szL left xss → (∀ xs ∈ xss, (xs.length : Int) ≤ left) ∧ szL left xss ≤ left
  | [], left, _ => ⟨by simp, by simp [szL]⟩
  | xs :: t, left, h => by
    unfold szL at h ⊢
    split at h
    · omega
    · rename_i h1
      rw [if_neg h1]
      obtain ⟨h2, h3⟩ := szM_le (left := left) (n := xs.length) (by omega)
      obtain ⟨h4, h5⟩ := szL_bound t _ h
      refine ⟨fun ys hy => ?_, by omega⟩
      rcases List.mem_cons.1 hy with rfl | hy
      · exact h3
      · have := h4 ys hy; omega
theorem szLL_bound {left : Int} {xss : List (List Int)} (h : 0 ≤ szLL left xss) : (xss.length : Int) ≤ left ∧ ∀ xs ∈ xss, (xs.length : Int) ≤ left := by
  unfold szLL at h
  split at h
  · omega
  · obtain ⟨h1, _⟩ := szL_bound xss _ h
    exact ⟨by omega, fun xs hx => by have := h1 xs hx; omega⟩
theorem szL_drop {xss : List (List Int)} {k : Nat} {xs : List Int} (h : xss[k]? = some xs) (left : Int) : szL left (xss.drop k) = if szM left xs.length < 0 then -1 else szL (szM left xs.length) (xss.drop (k + 1)) := by
  obtain ⟨h1, h2⟩ := List.getElem?_eq_some_iff.1 h
  rw [List.drop_eq_getElem_cons h1, h2]
  rfl
theorem szM_ge (left : Int) (n : Nat) (h : 0 ≤ left) : -1 ≤ szM left n ∧ szM left n ≤ left := by unfold szM; split <;> omega
set_option maxHeartbeats 400000 in
theorem szIntSS_any (A : Option Addr) (n c : Nat) (xss : List (List Int)) (left : Int) (w : World) (h : SLL w A n c xss) (hl : 0 ≤ left) (hl' : left ≤ 1048576) :
    Calls Try.prog 24 #[.slice A n c, .int .i64 left] w fun e w' => e = .returned (.int .i64 (szLL left xss)) ∧ w = w' := by
  have HL := hid h.len
  have hcm := h.cm
  have hnc := h.nc
  unfold maxLen at hcm
  have hdef := hid (show szLL left xss = if left - xss.length < 0 then -1 else szL (left - xss.length) xss from rfl)
  rw [HL.out] at hdef
  by_cases hneg : left - n < 0
  · rw [if_pos hneg] at hdef
    go_enter Try.func24, Try.ntmps24
    go_wp2_with fail
    go_ret
    exact ⟨ret_int hdef.out.symm, rfl⟩
  · rw [if_neg hneg] at hdef
    go_enter Try.func24, Try.ntmps24
    go_wp2_with fail
    go_loop [1, 5] (fun l i => ∃ (k : Nat) (q : Int), k ≤ n ∧ i = .int .i64 k ∧ l = .int .i64 q ∧ 0 ≤ q ∧ q ≤ 1048576 ∧ Hid (szLL left xss = szL q (xss.drop k))) (fun _ i => n - (intOf i).toNat)
    case atStart => exact ⟨0, _, Nat.zero_le _, rfl, rfl, by omega, by omega, hdef⟩
    case round =>
      obtain ⟨k, q, hk, rfl, rfl, hq, hq', hno⟩ := hrel
      by_cases hlt : k < n
      · obtain ⟨ad, Ak, nk, ck, xs, rfl, hb1, hc, hx, hsk⟩ := h.at_ hlt
        have hm := hid (hno.out.trans (szL_drop hx.out q))
        rw [hsk.len] at hm
        have hckm := hsk.cm
        have hckn := hsk.nc
        unfold maxLen at hckm
        go_wp2_with fail
        refine (szIntS_any _ _ _ _ _ hq hq' (by omega)).mono ?_
        rintro e w1 ⟨rfl, rfl⟩
        have hge := szM_ge q nk hq
        by_cases hs : szM q nk < 0
        · rw [if_pos hs] at hm
          go_wp2_with fail
          go_ret
          exact ⟨ret_int hm.out.symm, rfl⟩
        · rw [if_neg hs] at hm
          go_wp2_with fail
          go_round
          case rel => exact ⟨k + 1, _, by omega, by go_num, rfl, by omega, by omega, hm⟩
          case measure => simp [intOf]; omega
      · obtain rfl : k = n := by omega
        have hm := hid (hno.out.trans (show szL q (xss.drop k) = q by rw [List.drop_of_length_le (by rw [HL.out]; omega)]; rfl))
        go_wp2_with fail
        go_ret
        exact ⟨ret_int hm.out.symm, rfl⟩

theorem eqI_refl' (xs : List Int) : eqI xs xs = true := by simp [eqI]
def eqLL (xss yss : List (List Int)) : Bool := decide (xss = yss)
theorem eqLL_refl (xss : List (List Int)) : eqLL xss xss = true := by simp [eqLL]
theorem eqIntS_same (A A' : Option Addr) (n c n' c' B : Nat) (xs : List Int) (w : World) (h : RI w B A n xs) (h' : RI w B A' n' xs) (hn : n ≤ 140737488351232) :
    Calls Try.prog 22 #[.slice A n c, .slice A' n' c'] w fun e w' => e = .returned (.bool true) ∧ Dr w w' :=
  (eqIntS_any A A' n c n' c' B xs xs w h h' hn).mono fun _ _ ⟨a, b⟩ => ⟨by rw [a, eqI_refl'], b⟩
/-- Of two slices that read alike: true. -/
theorem eqIntSS_same (A A' : Option Addr) (n c n' c' : Nat) (xss : List (List Int)) (w : World) (h : SLL w A n c xss) (h' : SLL w A' n' c' xss) (hn : n ≤ 1048576) (hn2 : ∀ xs ∈ xss, xs.length ≤ 1048576) :
    Calls Try.prog 28 #[.slice A n c, .slice A' n' c'] w fun e w' => e = .returned (.bool true) ∧ Dr w w' := by
  obtain rfl : n = n' := h.len.symm.trans h'.len
  have HN2 := hid hn2
  clear hn2
  go_enter Try.func28, Try.ntmps28
  go_wp2_with fail
  go_loopw [5] (fun i wr => ∃ k : Nat, k ≤ n ∧ i = .int .i64 k ∧ Dr w wr) (fun i _ => n - (intOf i).toNat)
  case atStart => exact ⟨0, Nat.zero_le _, rfl, Dr.refl _⟩
  case round =>
    obtain ⟨k, hk, rfl, hd⟩ := hrel
    have h := h.dr hd
    have h' := h'.dr hd
    by_cases hlt : k < n
    · obtain ⟨ad, Ak, nk, ck, xs, rfl, hb1, hc, hx, hsk⟩ := h.at_ hlt
      obtain ⟨ad', Ak', nk', ck', xs', rfl, hb1', hc', hx', hsk'⟩ := h'.at_ hlt
      obtain rfl : xs = xs' := by have h1 := hx.out; rw [hx'.out] at h1; injection h1 with h1; exact h1.symm
      have hnk : nk ≤ 1048576 := by have := HN2.out xs (List.mem_of_getElem? hx.out); rw [hsk.len] at this; exact this
      go_wp2_with fail
      go_quiet ((go_at_call 22; exact quiet_dr (eqIntS_same _ _ _ _ _ _ _ _ _ (Reads.drewN hsk.ri _) (Reads.drewN hsk'.ri _) (by omega))))
      go_wp2_with fail
      go_roundw
      case rel => exact ⟨k + 1, by omega, by go_num, hd.more _⟩
      case measure => simp [intOf]; omega
    · obtain rfl : k = n := by omega
      go_wp2_with fail
      go_ret
      exact ⟨rfl, hd⟩
end Go.Proofs.Ytfdgbbapbpflcaa

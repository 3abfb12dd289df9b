/- The library's heap over the queue: Init, Pop. -/
import Derived.Test.YtkhgemgmnchodaaHeap2
namespace Go.Proofs.Ytkhgemgmnchodaa
open Go.RowKit Go.Sort
set_option maxRecDepth 100000 in
set_option maxHeartbeats 600000 in
theorem qPop_any (w : World) (q base b n c k : Nat) (es : List Ent) (h : QS w q base b n c es) (hk : k + 1 = n) (hn : n ≤ 1000) :
    Calls Try.prog 91 #[.pointer (some ⟨q, 0, none⟩)] w fun e w' => e = .returned (.iface 34 (.agg (entA es[k]!))) ∧ QS w' q base b k c (es.take k) ∧ w.grownBy w' (some q) := by
  have H := hid h
  have hkn : k < n := by omega
  obtain ⟨b', m, t, g, f, e, hb, hlt, hx, E1, fz, _⟩ := h.o.at_ hkn
  injection e with e; injection e with e; subst e
  obtain ⟨e0, e1, e2, e3⟩ := E1
  have c0 := h.cell
  have HG := hid (hx_get hx.out)
  have hw : IntKind.i64.wrap ((n : Int) - 1) = (k : Int) := (IntWalk.i64_in _ (by omega)).trans (by omega)
  have hk0 : (0 : Int) ≤ (k : Int) := by omega
  have hkn' : (k : Int) < (n : Int) := by omega
  have hkc : (k : Int) ≤ (c : Int) := by have := h.o.cap.1; omega
  have HK := hid hk
  have hXq : w.heap.size ≠ q := by have := h.k.lt; omega
  rw [HG.out]
  clear h fz hx hk HG
  go_enter Try.func91, Try.ntmps91
  go_upto_region 3 with (fail)
  have sa := (St.refl w).alloc (.cells (entA (m, (t, g), f)) 34)
  have Q1 := hid (H.out.st sa)
  have B1 := hid (Blk.new w 34 (entA (m, (t, g), f)))
  have G1 := hid (World.grownBy_alloc w (.cells (entA (m, (t, g), f)) 34) (some q))
  generalize w.alloc (.cells _ 34) = w1 at *
  generalize w.heap.size = X at *
  clear c0 e0 e1 e2 e3 sa
  have c0 := Q1.out.cell
  have f0 := Q1.out.k.frozen 0
  have B2 := hid (B1.out.far (p := ⟨q, 0, none⟩) hXq (.slice (some ⟨b, 0, none⟩) k c))
  have K2 := hid (Q1.out.k.set_ 0 (.slice (some ⟨b, 0, none⟩) k c))
  have O2 := hid ((Q1.out.o.front (k := k) (by omega) (by omega)).grown (World.grownBy_set w1 q 0 (.slice (some ⟨b, 0, none⟩) k c)) (fun g hg hA => by injection hg with hg; injection hA with hA; exact Q1.out.ne (by simp at hA; omega)))
  have G2 := hid (grown_trans' G1.out (World.grownBy_set w1 q 0 (.slice (some ⟨b, 0, none⟩) k c)))
  go_upto_region 4 with (fail)
  generalize w1.setCell _ _ = w2 at *
  have e0 := B2.out.cell_ (i := 0) (v := .int .i64 m) rfl
  have e1 := B2.out.cell_ (i := 1) (v := .int .i64 t) rfl
  have e2 := B2.out.cell_ (i := 2) (v := .int .i64 g) rfl
  have e3 := B2.out.cell_ (i := 3) (v := .bool f) rfl
  clear c0 f0
  go_wp2_with fail
  go_ret
  exact ⟨rfl, ⟨K2.out, O2.out⟩, G2.out⟩
set_option maxRecDepth 100000 in
set_option maxHeartbeats 600000 in
theorem heapInit_any (w : World) (q base b n c : Nat) (es : List Ent) (h : QS w q base b n c es) (hn : n ≤ 1000) :
    Calls Try.prog 65 #[.iface 84 (.pointer (some ⟨q, 0, none⟩))] w fun e w' => e = .returned (.tuple #[]) ∧ QS w' q base b n c (initL ltE n (n / 2) es) ∧ w.grownBy w' (some b) := by
  have eN : ∀ args w, (callFunc 88 args).run Try.prog w = .ok (.enter 88 args) w := fun _ _ => by rfl
  have mN := find_meth "Len" 88 false (by kernel_rfl) w q _ h.cell 213
  simp only [Nat.reduceAdd, Bool.false_eq_true, if_false] at mN
  have H := hid h
  clear h
  obtain ⟨N2, hN2⟩ : ∃ N2, N2 = n / 2 := ⟨_, rfl⟩
  have hq : IntKind.i64.wrap ((n : Int).tdiv 2) = (N2 : Int) := (IntWalk.i64_in _ (by rw [Int.tdiv_eq_ediv_of_nonneg (by omega)]; omega)).trans (by rw [Int.tdiv_eq_ediv_of_nonneg (by omega)]; omega)
  have HN2 := hid hN2
  rw [← hN2]
  have hq1 : IntKind.i64.wrap ((N2 : Int) - 1) = (N2 : Int) - 1 := IntWalk.i64_in _ (by omega)
  have hN2n : 2 * N2 ≤ n := by omega
  clear hN2
  go_enter Try.func65, Try.ntmps65
  go_wp2_with fail
  refine (qLen_any _ _ _ _).mono ?_
  rintro e w1 ⟨rfl, rfl⟩
  go_wp2_with fail
  go_loopw [3] (fun v wr => ∃ (k : Nat) (xs : List Ent), v = .int .i64 ((k : Int) - 1) ∧ k ≤ N2 ∧ Hid (QS wr q base b n c xs) ∧ Hid (initL ltE n N2 es = initL ltE n k xs) ∧ Hid (w.grownBy wr (some b))) (fun v _ => (intOf v + 1).toNat)
  case atStart => exact ⟨N2, es, by have := HN2.out; congr 1; omega, Nat.le_refl _, H, rfl, World.grownBy.refl _ _⟩
  case round =>
    obtain ⟨wa, rfl⟩ : ∃ wo : World, wo = wr := ⟨_, rfl⟩
    obtain ⟨k, xs, rfl, hk, Q, E, G⟩ := hrel
    cases k with
    | zero =>
      go_wp2_with fail
      go_end0
      exact ⟨rfl, by rw [E.out]; exact Q.out, G.out⟩
    | succ k =>
      have e1 : ((k + 1 : Nat) : Int) - 1 = (k : Int) := by omega
      rw [e1]
      have hk0 : (0 : Int) ≤ (k : Int) := by omega
      go_wp2_with fail
      refine (heapDown_any _ q base b n c xs k n Q.out (Nat.le_refl _) hn (by omega)).mono ?_
      rintro e w2 ⟨⟨r, rfl⟩, Q2, G2⟩
      have Q2 := hid Q2
      have G2 := hid (grown_trans' G.out G2)
      have hk1 : IntKind.i64.wrap ((k : Int) - 1) = (k : Int) - 1 := IntWalk.i64_in _ (by omega)
      go_wp2_with fail
      go_roundw
      case rel => exact ⟨k, _, rfl, by omega, Q2, E.out, G2⟩
      case measure =>
        simp [intOf]
        try omega
theorem find_pop (w : World) (q : Nat) (v : Value) (h : w.cell? ⟨q, 0, none⟩ = some v) : Sem.run Try.prog (method 214 84 (.pointer (some ⟨q, 0, none⟩)) "Pop") w = .ok (91, .pointer (some ⟨q, 0, none⟩)) w := by
  have := find_meth "Pop" 91 true (by kernel_rfl) w q v h 213
  simpa using this
set_option maxRecDepth 100000 in
set_option maxHeartbeats 600000 in
theorem heapPop_any (w : World) (q base b n c k : Nat) (x : Ent) (rest : List Ent) (h : QS w q base b n c (x :: rest)) (hk : k + 1 = n) (hn : n ≤ 1000) (hp : ∀ p, HpAt ltE (x :: rest) (rest.length + 1) p) :
    Calls Try.prog 66 #[.iface 84 (.pointer (some ⟨q, 0, none⟩))] w fun e w' => e = .returned (.iface 34 (.agg (entA x))) ∧ QS w' q base b k c ((popL ltE (x :: rest)).take k) ∧ ∃ w1, w.grownBy w1 (some b) ∧ w1.grownBy w' (some q) := by
  have eN : ∀ args w, (callFunc 88 args).run Try.prog w = .ok (.enter 88 args) w := fun _ _ => by rfl
  have eS : ∀ args w, (callFunc 90 args).run Try.prog w = .ok (.enter 90 args) w := fun _ _ => by rfl
  have eP : ∀ args w, (callFunc 91 args).run Try.prog w = .ok (.enter 91 args) w := fun _ _ => by rfl
  have mN := find_meth "Len" 88 false (by kernel_rfl) w q _ h.cell 213
  have mS := find_meth "Swap" 90 false (by kernel_rfl) w q _ h.cell 213
  simp only [Nat.reduceAdd, Bool.false_eq_true, if_false] at mN mS
  have H := hid h
  have hw : IntKind.i64.wrap ((n : Int) - 1) = (k : Int) := (IntWalk.i64_in _ (by omega)).trans (by omega)
  have hlen := h.o.1
  simp only [List.length_cons] at hlen
  have hrl : rest.length = k := by omega
  have HPO := hid (pop_ok ltS_SLt hp)
  have HPD := hid (show popL ltE (x :: rest) = downL ltE k (swapL (x :: rest) 0 k) 0 k by unfold popL; simp only [List.length_cons, Nat.add_sub_cancel, hrl])
  have HK := hid hk
  have hkn : k < n := by omega
  have hkn2 : k ≤ n := by omega
  have hn0 : 0 < n := by omega
  rw [hrl] at HPO
  have HRL := hid hrl
  clear h hp hlen hrl hk
  go_enter Try.func66, Try.ntmps66
  go_wp2_with fail
  refine (qLen_any _ _ _ _).mono ?_
  rintro e w1 ⟨rfl, rfl⟩
  go_wp2_with fail
  refine (qSwap_any _ _ _ 0 k base (x :: rest) _ H.out.o hn0 hkn).mono ?_
  rintro e w2 ⟨rfl, o2, g2⟩
  have Q2 := hid (H.out.put o2 g2)
  have G2 := hid g2
  clear o2 g2 mN mS
  go_wp2_with fail
  refine (heapDown_any _ q base b n c _ 0 k Q2.out hkn2 hn (by omega)).mono ?_
  rintro e w3 ⟨⟨r, rfl⟩, Q3, G3⟩
  rw [← HPD.out] at Q3
  have Q3 := hid Q3
  have G3 := hid (grown_trans' G2.out G3)
  have mP := find_pop _ _ _ Q3.out.cell
  go_wp2_with fail
  refine (qPop_any _ q base b n c k _ Q3.out HK.out hn).mono ?_
  rintro e w4 ⟨rfl, Q4, G4⟩
  have hx : (popL ltE (x :: rest))[k]! = x := by
    have h1 := HPO.out.1
    rw [h1]
    exact hx_get (by rw [List.getElem?_append_right (by rw [List.length_take]; omega), List.length_take, popL_len, List.length_cons, HRL.out, Nat.min_eq_left (by omega)]; simp)
  rw [hx]
  have Q4 := hid Q4
  go_wp2_with fail
  go_ret
  exact ⟨rfl, Q4.out, _, G3.out, G4⟩
end Go.Proofs.Ytkhgemgmnchodaa

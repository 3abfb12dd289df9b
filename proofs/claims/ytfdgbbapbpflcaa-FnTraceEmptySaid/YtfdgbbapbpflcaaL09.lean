/- FnTraceEmpty returns true. -/
import Derived.Test.YtfdgbbapbpflcaaTrL2
namespace Go.Proofs.Ytfdgbbapbpflcaa
open Go.RowKit
theorem nil_short : ∀ xs ∈ [([] : List Int), []], xs.length ≤ 1048576 := by
  intro xs hx
  simp at hx
  subst hx
  simp
set_option maxRecDepth 100000 in
set_option maxHeartbeats 4000000 in
theorem walkTraceEmpty (A : Option Addr) (n c : Nat) (bs : List Nat) {w : World} (h : RB w w.heap.size A n bs) (hnc : n ≤ c ∧ c ≤ maxLen) :
    Calls Try.prog 7 #[.slice A n c] w fun e w' => e = .returned (.bool true) ∧ Below w.heap.size w w' := by
  obtain ⟨hnc, hcm⟩ := hnc
  have HCM := hid hcm
  clear hcm
  by_cases hn : 1048576 < n
  · have hn : (1048576 : Int) < (n : Int) := by omega
    go_enter Try.func7, Try.ntmps7
    go_wp2_with fail
    go_ret
    exact ⟨rfl, Below.refl _ _⟩
  have hni : ¬ (1048576 : Int) < (n : Int) := by omega
  go_enter Try.func7, Try.ntmps7
  go_wp2_with fail
  refine (DrawTraceFollows_any _ _ _ _ _ h (by omega) hnc HCM.out).mono ?_
  rintro e w1 ⟨A1, n1, c1, xs, A2, n2, c2, ys, rfl, h1, h2, hn1, hn2, s1⟩
  have X := hid h1
  have Y := hid h2
  have S := hid s1
  have HYL := hid h2.len
  clear h1 h2 s1
  obtain ⟨f, hf⟩ : ∃ b, follows xs ys = b := ⟨_, rfl⟩
  have HF := hid hf
  clear hf
  go_wp2_with fail
  refine (TraceFollows_any _ _ _ _ _ _ _ _ _ _ X.out.ri Y.out.ri (by omega) (by omega) X.out.nc X.out.cm (Nat.le_refl _)).mono ?_
  rintro e w2 ⟨rfl, b2⟩
  rw [HF.out]
  have s2 : St w1 w2 := b2
  replace X := hid (X.out.st s2)
  replace Y := hid (Y.out.st s2)
  replace S := hid (S.out.st s2)
  clear b2 s2
  go_wp2_with fail
  refine (specTraceFollows_any _ _ _ _ _ _ _ _ _ _ X.out.ri Y.out.ri (by omega) (by omega) X.out.nc Y.out.nc).mono ?_
  rintro e w3 ⟨rfl, d3⟩
  rw [HF.out]
  have s3 := d3.st
  replace Y := hid (Y.out.st s3)
  replace S := hid (S.out.st s3)
  clear d3 s3 X HF
  have hoo : (f == f) = true := by simp
  have hon : (f != f) = false := by simp
  have a3 := (((St.refl w3).alloc (.cells #[] 3)).alloc (.cells #[] 3)).alloc (.cells #[.slice (some ⟨w3.heap.size, 0, none⟩) 0 0, .slice (some ⟨w3.heap.size + 1, 0, none⟩) 0 0] 22)
  have e1 := (OI.lit (w := w3) (e := 3)).st (((St.refl _).alloc (.cells #[] 3)).alloc (.cells #[.slice (some ⟨w3.heap.size, 0, none⟩) 0 0, .slice (some ⟨w3.heap.size + 1, 0, none⟩) 0 0] 22))
  have e2 := (OI.lit (w := w3.alloc (.cells #[] 3)) (e := 3)).st ((St.refl _).alloc (.cells #[.slice (some ⟨w3.heap.size, 0, none⟩) 0 0, .slice (some ⟨w3.heap.size + 1, 0, none⟩) 0 0] 22))
  have k3 := Blk.new ((w3.alloc (.cells #[] 3)).alloc (.cells #[] 3)) 22 #[.slice (some ⟨w3.heap.size, 0, none⟩) 0 0, .slice (some ⟨w3.heap.size + 1, 0, none⟩) 0 0]
  rw [World.heap_alloc_size'] at e2
  rw [World.heap_alloc_size', World.heap_alloc_size'] at k3
  have E := hid (SLL.two k3 e1.sl e2.sl)
  replace Y := hid (Y.out.st a3)
  replace S := hid (S.out.st a3)
  clear a3 e1 e2 k3
  go_wp2_with fail
  generalize ((w3.alloc (.cells #[] 3)).alloc (.cells #[] 3)).alloc (.cells #[.slice (some ⟨w3.heap.size, 0, none⟩) 0 0, .slice (some ⟨w3.heap.size + 1, 0, none⟩) 0 0] 22) = w4 at Y S E ⊢
  refine (TraceOrder_any _ _ _ _ _ E.out (by omega) nil_short).mono ?_
  rintro e w5 ⟨A5, n5, c5, rfl, o5, s5⟩
  rw [empty_order.1]
  rw [empty_order.2] at o5
  have hn5 : n5 = 0 := by have := o5.len; simpa using this.symm
  subst hn5
  have a5 := (St.refl w5).alloc (.cells #[.slice A2 n2 c2] 22)
  replace Y := hid (Y.out.st s5)
  replace S := hid (S.out.st s5)
  have k5 := Blk.new w5 22 #[.slice A2 n2 c2]
  have U := hid (SLL.one k5 (Y.out.st a5))
  have t5 := a5
  replace Y := hid (Y.out.st a5)
  replace S := hid (S.out.st a5)
  obtain ⟨ok, hok⟩ : ∃ b, isTr ys = b := ⟨_, rfl⟩
  have HOK := hid hok
  clear s5 o5 t5 k5 hok E
  go_wp2_with fail
  generalize w5.alloc (.cells #[.slice A2 n2 c2] 22) = w6 at Y S U ⊢
  refine (TraceOrder_any _ _ _ _ _ U.out (by omega) (fun xs hx => by rw [List.mem_singleton] at hx; subst hx; have := HYL.out; omega)).mono ?_
  rintro e w7 ⟨A7, n7, c7, rfl, o7, s7⟩
  rw [one_order.1, HOK.out]
  have O := hid o7.sl
  replace Y := hid (Y.out.st s7)
  replace S := hid (S.out.st s7)
  clear o7 s7 U a5
  have e7 := hid (OI.lit (w := w7) (e := 3)).sl
  have a7 := (St.refl w7).alloc (.cells #[] 3)
  replace Y := hid (Y.out.st a7)
  replace S := hid (S.out.st a7)
  replace O := hid (O.out.st a7)
  clear a7
  have hoo2 : (ok == ok) = true := by simp
  go_wp2_with fail
  generalize w7.alloc (.cells #[] 3) = w8 at Y S O e7 ⊢
  refine (TraceFollows_any _ _ _ _ _ _ _ _ _ _ e7.out.ri Y.out.ri (by omega) (by omega) e7.out.nc e7.out.cm (Nat.le_refl _)).mono ?_
  rintro e w9 ⟨rfl, b9⟩
  rw [follows_nil, HOK.out]
  have s9 : St w8 w9 := b9
  replace Y := hid (Y.out.st s9)
  replace S := hid (S.out.st s9)
  replace O := hid (O.out.st s9)
  clear s9 b9 e7
  cases ok
  · go_wp2_with fail
    go_ret
    exact ⟨rfl, S.out⟩
  rw [one_order.2 HOK.out] at O
  go_wp2_with fail
  refine (sameInts_same O.out Y.out (by have := HYL.out; omega)).mono ?_
  rintro e w10 ⟨rfl, s10⟩
  go_wp2_with fail
  go_ret
  exact ⟨rfl, S.out.trans s10⟩
end Go.Proofs.Ytfdgbbapbpflcaa

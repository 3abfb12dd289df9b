/- The queue's methods; the library's heap over them. -/
import Derived.Test.YtkhgemgmnchodaaEnts
import Derived.Test.YtkhgemgmnchodaaHeapL
import Derived.Test.YtkhgemgmnchodaaStV
import Derived.Deep.DeepCutAuto
import Derived.RegionTactic
import Derived.Deep.RegionHeld3
namespace Go.Proofs.Ytkhgemgmnchodaa
open Go.RowKit Go.Sort
/-- How the queue's methods are found: the value's, the receiver loaded; the pointer's. -/
theorem find_meth (nm : String) (f : Nat) (b : Bool) (hf : (Array.find? (fun x => x.name == nm) Try.t84.methods).map (fun m => (m.path.toList, m.func)) = some ([], some (f, b))) (w : World) (q : Nat) (v : Value) (h : w.cell? ⟨q, 0, none⟩ = some v) (k : Nat) :
    Sem.run Try.prog (method (k + 1) 84 (.pointer (some ⟨q, 0, none⟩)) nm) w = .ok (f, if b = true then .pointer (some ⟨q, 0, none⟩) else v) w := by
  cases he : Array.find? (fun x => x.name == nm) Try.t84.methods with
  | none => rw [he] at hf; simp at hf
  | some m =>
    rw [he] at hf
    simp only [Option.map_some, Option.some.injEq, Prod.mk.injEq] at hf
    obtain ⟨h1, h2⟩ := hf
    have h3 : m.path = #[] := by cases hm : m.path; rw [hm] at h1; simp at h1; rw [h1]
    rw [method]
    simp only [go_sem]
    simp [he, h2, h3, go_sem]
    have hu : ∀ w, Sem.run Try.prog (underlying 84) w = .ok (.pointer 82) w := fun _ => by kernel_rfl
    have ha : ∀ w, Sem.run Try.prog (isAgg 82) w = .ok false w := fun _ => by kernel_rfl
    have hc : ∀ (t u : Value) (w : World), (∃ s s', t = .string s ∧ u = .string s') → Sem.run Try.prog (Builtin.ssaWrapNilChk_ #[84] 84 #[.pointer (some ⟨q, 0, none⟩), t, u]) w = .ok (.pointer (some ⟨q, 0, none⟩)) w := by
      rintro t u w ⟨s, s', rfl, rfl⟩
      rfl
    have hs : ∀ s s' w, Sem.run Try.prog (Builtin.ssaWrapNilChk_ #[84] 84 #[.pointer (some ⟨q, 0, none⟩), strVal s, strVal s']) w = .ok (.pointer (some ⟨q, 0, none⟩)) w := fun s s' w => hc _ _ w ⟨_, _, rfl, rfl⟩
    cases b
    · simp [receiverAt, follow, Place.get, go_sem, h, hu, ha, hs]
    · simp [receiverAt, follow, Place.get, go_sem, hu]
theorem OE.front {w : World} {base n c k : Nat} {A : Option Addr} {es : List Ent} (h : OE w base A n c es) (hk : k ≤ n) (hn : 0 < n) : OE w base A k c (es.take k) := by
  obtain ⟨h1, h2, h3⟩ := h
  refine ⟨by rw [List.length_take]; omega, by rw [entCells_len, List.length_take]; congr 1; omega, ?_⟩
  rcases h3 with ⟨_, h5⟩ | ⟨g, cap, cur, e, q1, q2, q3, q4, q5, q6⟩
  · omega
  · injection e with e1 e2 e3
    subst e1 e3
    exact .inr ⟨g, _, cur, rfl, q1, q2, by omega, q4, q5, by rw [← entCells_take, ← q6, List.take_take]; congr 1; omega⟩
theorem hx_get {es : List Ent} {k : Nat} {e : Ent} (h : es[k]? = some e) : es[k]! = e := by
  rw [List.getElem!_eq_getElem?_getD, h]; rfl
theorem qLen_any (A : Option Addr) (n c : Nat) (w : World) : Calls Try.prog 88 #[.slice A n c] w fun e w' => e = .returned (.int .i64 (n : Int)) ∧ w = w' := by
  go_enter Try.func88, Try.ntmps88
  go_wp2_with fail
  go_ret
  exact ⟨rfl, rfl⟩
set_option maxRecDepth 100000 in
set_option maxHeartbeats 1000000 in
theorem qLess_any (A : Option Addr) (n c i j : Nat) (es : List Ent) (w : World) (h : SE w A n c es) (hi : i < n) (hj : j < n) :
    Calls Try.prog 89 #[.slice A n c, .int .i64 (i : Int), .int .i64 (j : Int)] w fun e w' => e = .returned (.bool (ltE es[i]! es[j]!)) ∧ St w w' := by
  obtain ⟨ad, m1, t1, g1, f1, rfl, hb1, hx, _, c1, c2, _⟩ := h.at_ hi
  obtain ⟨ad', m2, t2, g2, f2, e, _, hy, _, d1, d2, _⟩ := h.at_ hj
  injection e with e
  subst e
  have hL := hid (show ltE es[i]! es[j]! = ltS (t1, g1) (t2, g2) by rw [hx_get hx.out, hx_get hy.out]; rfl)
  rw [hL.out]
  have hi0 : (0 : Int) ≤ (i : Int) := by omega
  have hj0 : (0 : Int) ≤ (j : Int) := by omega
  have hin : (i : Int) < (n : Int) := by omega
  have hjn : (j : Int) < (n : Int) := by omega
  clear h hx hy hL
  go_enter Try.func89, Try.ntmps89
  go_wp2_with fail
  refine wp_region_held_drew (S := (fun w' => w'.cell? ⟨(ad.add (i * 4)).block, (ad.add (i * 4)).off + 1, none⟩ = some (.int .i64 t1) ∧ w'.cell? ⟨(ad.add (i * 4)).block, (ad.add (i * 4)).off + 1 + 1, none⟩ = some (.int .i64 g1) ∧ w'.cell? ⟨(ad.add (j * 4)).block, (ad.add (j * 4)).off + 1, none⟩ = some (.int .i64 t2) ∧ w'.cell? ⟨(ad.add (j * 4)).block, (ad.add (j * 4)).off + 1 + 1, none⟩ = some (.int .i64 g2))) (by kernel_rfl) ?_ (fun hH0 => ?_)
  · exact ⟨c1, c2, d1, d2⟩
  refine wpAnyH_take (i := 0) (oi := ⟨some 7, _, _, _, _, _⟩) (v := ?_) rfl (by kernel_rfl) (by kernel_rfl) (by kernel_rfl) (fun _ _ _ h => h) (Or.inl ⟨by rfl, ?_⟩) (by assumption) ?_
  rotate_left
  · (intro w hSw; (try dsimp only at hSw); go_simp; (try with_reducible rfl))
  (try simp only [Act.put, List.setIfInBounds_toArray, List.set_cons_zero, List.set_cons_succ])
  refine wpAnyH_take (i := 1) (oi := ⟨some 8, _, _, _, _, _⟩) (v := ?_) rfl (by kernel_rfl) (by kernel_rfl) (by kernel_rfl) (fun _ _ _ h => h) (Or.inl ⟨by rfl, ?_⟩) (by assumption) ?_
  rotate_left
  · (intro w hSw; (try dsimp only at hSw); go_simp; (try with_reducible rfl))
  (try simp only [Act.put, List.setIfInBounds_toArray, List.set_cons_zero, List.set_cons_succ])
  refine wpAnyH_take (i := 2) (oi := ⟨some 9, _, _, _, _, _⟩) (v := ?_) rfl (by kernel_rfl) (by kernel_rfl) (by kernel_rfl) (fun _ _ _ h => h) (Or.inl ⟨by rfl, ?_⟩) (by assumption) ?_
  rotate_left
  · (intro w hSw; (try dsimp only at hSw); go_simp; (try with_reducible rfl))
  (try simp only [Act.put, List.setIfInBounds_toArray, List.set_cons_zero, List.set_cons_succ])
  refine wpAnyH_take (i := 3) (oi := ⟨some 10, _, _, _, _, _⟩) (v := ?_) rfl (by kernel_rfl) (by kernel_rfl) (by kernel_rfl) (fun _ _ _ h => h) (Or.inl ⟨by rfl, ?_⟩) (by assumption) ?_
  rotate_left
  · (intro w hSw; (try dsimp only at hSw); go_simp; (try with_reducible rfl))
  (try simp only [Act.put, List.setIfInBounds_toArray, List.set_cons_zero, List.set_cons_succ])
  refine wpAnyH_take (i := 4) (oi := ⟨some 11, _, _, _, _, _⟩) (v := ?_) rfl (by kernel_rfl) (by kernel_rfl) (by kernel_rfl) (fun _ _ _ h => h) (Or.inl ⟨by rfl, ?_⟩) (by assumption) ?_
  rotate_left
  · (intro w hSw; (try dsimp only at hSw); go_simp; (try with_reducible rfl))
  (try simp only [Act.put, List.setIfInBounds_toArray, List.set_cons_zero, List.set_cons_succ])
  refine wpAnyH_take (i := 5) (oi := ⟨some 12, _, _, _, _, _⟩) (v := ?_) rfl (by kernel_rfl) (by kernel_rfl) (by kernel_rfl) (fun _ _ _ h => h) (Or.inl ⟨by rfl, ?_⟩) (by assumption) ?_
  rotate_left
  · (intro w hSw; (try dsimp only at hSw); go_simp; (try with_reducible rfl))
  (try simp only [Act.put, List.setIfInBounds_toArray, List.set_cons_zero, List.set_cons_succ])
  refine wpAnyH_take (i := 6) (oi := ⟨some 13, _, _, _, _, _⟩) (v := ?_) rfl (by kernel_rfl) (by kernel_rfl) (by kernel_rfl) (fun _ _ _ h => h) (Or.inl ⟨by rfl, ?_⟩) (by assumption) ?_
  rotate_left
  · (intro w hSw; (try dsimp only at hSw); go_simp; (try with_reducible rfl))
  (try simp only [Act.put, List.setIfInBounds_toArray, List.set_cons_zero, List.set_cons_succ])
  refine wpAnyH_take (i := 7) (oi := ⟨some 14, _, _, _, _, _⟩) (v := ?_) rfl (by kernel_rfl) (by kernel_rfl) (by kernel_rfl) (fun _ _ _ h => h) (Or.inl ⟨by rfl, ?_⟩) (by assumption) ?_
  rotate_left
  · (intro w hSw; (try dsimp only at hSw); go_simp; (try with_reducible rfl))
  (try simp only [Act.put, List.setIfInBounds_toArray, List.set_cons_zero, List.set_cons_succ])
  refine wpAnyH_take (i := 8) (oi := ⟨some 15, _, _, _, _, _⟩) (v := ?_) rfl (by kernel_rfl) (by kernel_rfl) (by kernel_rfl) (fun _ _ _ h => h) (Or.inl ⟨by rfl, ?_⟩) (by assumption) ?_
  rotate_left
  · (intro w hSw; (try dsimp only at hSw); go_simp; (try with_reducible rfl))
  (try simp only [Act.put, List.setIfInBounds_toArray, List.set_cons_zero, List.set_cons_succ])
  refine wpAnyH_take (i := 9) (oi := ⟨some 16, _, _, _, _, _⟩) (v := ?_) rfl (by kernel_rfl) (by kernel_rfl) (by kernel_rfl) (fun _ _ _ h => h) (Or.inl ⟨by rfl, ?_⟩) (by assumption) ?_
  rotate_left
  · (intro w hSw; (try dsimp only at hSw); go_simp; (try with_reducible rfl))
  (try simp only [Act.put, List.setIfInBounds_toArray, List.set_cons_zero, List.set_cons_succ])
  refine wpAnyH_ready (rs := [10]) (by kernel_rfl) (by simp) ?_
  refine AllReadyH.cons (o := ⟨some 17, _, _, _, _, _⟩) rfl (fun K hK => ?_) AllReadyH.nil
  go_simp
  (go_at_call 41; refine (less_any _ _ _ _ _).mono ?_; rintro e wx ⟨rfl, s9⟩; have U9 := (Dr.st ⟨1, rfl⟩ : St w (w.drewN 1)).trans s9)
  (first | (refine hK.out _ _ ?_ (fun hH1 => ?_)) | (go_wp2_with fail; refine hK.out _ _ ?_ (fun hH1 => ?_)))
  · exact ⟨U9.cell c1, U9.cell c2, U9.cell d1, U9.cell d2⟩
  clear hK K hH0
  (try simp only [Act.put, List.setIfInBounds_toArray, List.set_cons_zero, List.set_cons_succ])
  refine wpAnyH_take (i := 11) (oi := ⟨some 6, _, _, _, _, _⟩) (v := ?_) rfl (by kernel_rfl) (by kernel_rfl) (by kernel_rfl) (fun _ _ _ h => h) (Or.inl ⟨by rfl, ?_⟩) (by assumption) ?_
  rotate_left
  · (intro w hSw; (try dsimp only at hSw); go_simp; (try with_reducible rfl))
  (try simp only [Act.put, List.setIfInBounds_toArray, List.set_cons_zero, List.set_cons_succ])
  refine wpAnyH_done (by kernel_rfl) ?_ _
  clear hH1
  go_wp2_with fail
  go_ret
  exact ⟨rfl, U9⟩
theorem cell_again {w : World} {p p' : Addr} {u v : Value} (h : w.cell? p' = some u) (hp : w.cell? p = some v) : (w.setCell p u).cell? p' = some u := by
  by_cases e : p' = p
  · subst e; first | exact World.cell?_setCell_same _ hp | exact World.cell?_setCell_same _ _ hp | exact World.cell?_setCell_same _ _ _ hp
  · exact (World.cell?_setCell_other w p p' u (fun h => e (by first | exact h | exact h.symm))).trans h
theorem cell_off {w : World} {b o o' : Nat} {u v : Value} (h : w.cell? ⟨b, o', none⟩ = some u) (hne : o ≠ o') : (w.setCell ⟨b, o, none⟩ v).cell? ⟨b, o', none⟩ = some u :=
  (World.cell?_setCell_other w _ _ v (fun e => by first | (injection e with _ e; exact hne e) | (injection e with _ e; exact hne e.symm))).trans h
set_option maxRecDepth 100000 in
set_option maxHeartbeats 1000000 in
theorem qSwap_any (b n c i j base : Nat) (es : List Ent) (w : World) (h : OE w base (some ⟨b, 0, none⟩) n c es) (hi : i < n) (hj : j < n) :
    Calls Try.prog 90 #[.slice (some ⟨b, 0, none⟩) n c, .int .i64 (i : Int), .int .i64 (j : Int)] w fun e w' => e = .returned (.tuple #[]) ∧ OE w' base (some ⟨b, 0, none⟩) n c (swapL es i j) ∧ w.grownBy w' (some b) := by
  obtain ⟨b', m1, t1, g1, f1, e, hb, hlt, hx, E1, fz, up⟩ := h.at_ hi
  injection e with e; injection e with e; subst e
  obtain ⟨b', m2, t2, g2, f2, e, _, _, hy, E2, _, up2⟩ := h.at_ hj
  injection e with e; injection e with e; subst e
  have hi0 : (0 : Int) ≤ (i : Int) := by omega
  have hj0 : (0 : Int) ≤ (j : Int) := by omega
  have hin : (i : Int) < (n : Int) := by omega
  have hjn : (j : Int) < (n : Int) := by omega
  obtain ⟨x0, x1, x2, x3⟩ := E1
  obtain ⟨y0, y1, y2, y3⟩ := E2
  have fi0 := fz (i * 4)
  have fi1 := fz (i * 4 + 1)
  have fi2 := fz (i * 4 + 2)
  have fi3 := fz (i * 4 + 3)
  have fj0 := fz (j * 4)
  have fj1 := fz (j * 4 + 1)
  have fj2 := fz (j * 4 + 2)
  have fj3 := fz (j * 4 + 3)
  go_enter Try.func90, Try.ntmps90
  go_wp2_with fail
  have s0 := cell_again y0 x0
  have s1 := cell_again (cell_off (v := (.int .i64 m2)) y1 (show i * 4 ≠ j * 4 + 1 by omega)) (cell_off (v := (.int .i64 m2)) x1 (show i * 4 ≠ i * 4 + 1 by omega))
  have s2 := cell_again (cell_off (v := (.int .i64 t2)) (cell_off (v := (.int .i64 m2)) y2 (show i * 4 ≠ j * 4 + 2 by omega)) (show i * 4 + 1 ≠ j * 4 + 2 by omega)) (cell_off (v := (.int .i64 t2)) (cell_off (v := (.int .i64 m2)) x2 (show i * 4 ≠ i * 4 + 2 by omega)) (show i * 4 + 1 ≠ i * 4 + 2 by omega))
  have s3 := cell_again (cell_off (v := (.int .i64 g2)) (cell_off (v := (.int .i64 t2)) (cell_off (v := (.int .i64 m2)) y3 (show i * 4 ≠ j * 4 + 3 by omega)) (show i * 4 + 1 ≠ j * 4 + 3 by omega)) (show i * 4 + 2 ≠ j * 4 + 3 by omega)) (cell_off (v := (.int .i64 g2)) (cell_off (v := (.int .i64 t2)) (cell_off (v := (.int .i64 m2)) x3 (show i * 4 ≠ i * 4 + 3 by omega)) (show i * 4 + 1 ≠ i * 4 + 3 by omega)) (show i * 4 + 2 ≠ i * 4 + 3 by omega))
  go_region
  all_goals
    obtain ⟨o1, g1_⟩ := up m2 t2 g2 f2
    obtain ⟨b', _, _, _, _, e, _, _, _, _, _, up3⟩ := o1.out.at_ hj
    injection e with e; injection e with e; subst e
    obtain ⟨o2, g2_⟩ := up3 m1 t1 g1 f1
    go_end0
    refine ⟨rfl, ?_, grown_dr (grown_trans' g1_ g2_) ⟨1, rfl⟩⟩
    have e1 : swapL es i j = (es.set i (m2, (t2, g2), f2)).set j (m1, (t1, g1), f1) := by unfold swapL; rw [hx_get hx.out, hx_get hy.out]
    rw [e1]
    exact o2.out.dr ⟨1, rfl⟩
end Go.Proofs.Ytkhgemgmnchodaa

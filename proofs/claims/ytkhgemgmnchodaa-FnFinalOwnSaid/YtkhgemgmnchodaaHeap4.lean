/- Entries sorted by the library's heap. -/
import Derived.Test.YtkhgemgmnchodaaHeap3
import Derived.Test.YtkhgemgmnchodaaGr3
namespace Go.Proofs.Ytkhgemgmnchodaa
open Go.RowKit Go.Sort
abbrev eZ_ : Value := .agg #[.int .i64 0, .int .i64 0, .int .i64 0, .bool false]
theorem st_rows {w W W1 W2 : World} {b q : Nat} (s : St w W) (g1 : W.grownBy W1 (some b)) (g2 : W1.grownBy W2 (some q)) (hb : w.heap.size ≤ b) (hq : w.heap.size ≤ q) : St w W2 :=
  (s.grown g1 (fun k hk => by injection hk with hk; omega)).grown g2 (fun k hk => by injection hk with hk; omega)
theorem outL_step {k : Nat} {x : Ent} {rest : List Ent} : outL ltE (k + 1) (x :: rest) = x :: outL ltE k ((popL ltE (x :: rest)).take rest.length) := rfl
def lenS : Value → Nat
  | .slice _ n _ => n
  | _ => 0
set_option maxRecDepth 100000 in
set_option maxHeartbeats 1000000 in
theorem sorted_any (A : Option Addr) (n c : Nat) (es : List Ent) (w : World) (h : SE w A n c es) (hn : n ≤ 1000) (hn0 : 0 < n) :
    Calls Try.prog 42 #[.slice A n c] w fun e w' => ∃ X a, e = .returned (.slice X n a) ∧ OE w' w.heap.size X n a (sortL ltE es) ∧ St w w' := by
  have HLen := hid h.len
  go_enter Try.func42, Try.ntmps42
  go_wp2_with fail
  refine (cloneEntry_any A n c es _ h (by omega)).mono ?_
  rintro e w1 ⟨A1, c1, rfl, o1, s1⟩
  obtain ⟨b, _, _, _, _, rfl, hbl, _⟩ := o1.at_ (k := 0) (by rw [HLen.out]; exact hn0)
  have sa := (St.refl w1).alloc (.cells #[.slice (some ⟨b, 0, none⟩) n c1] 82)
  have hne : b < w1.heap.size := (o1.lt b rfl).2
  have Q1 := hid (show QS (w1.alloc (.cells #[.slice (some ⟨b, 0, none⟩) n c1] 82)) w1.heap.size w.heap.size b n c1 es from ⟨Blk.new w1 _ _, by have := o1.st sa; rw [HLen.out] at this; exact this⟩)
  have S1 := hid (s1.trans sa)
  have hqw : w.heap.size ≤ w1.heap.size := s1.le
  rw [HLen.out]
  clear o1 s1 sa h
  go_upto_region 2 with (fail)
  generalize w1.alloc (.cells _ 82) = w2 at *
  generalize w1.heap.size = q at *
  go_wp2_with fail
  refine (heapInit_any _ q w.heap.size b n c1 es Q1.out hn).mono ?_
  rintro e w3 ⟨rfl, Q3, G3⟩
  have hbw := (Q1.out.o.lt b rfl).1
  have S3 := S1.out.grown G3 (fun k hk => by injection hk with hk; omega)
  have sa := (St.refl w3).alloc (.cells #[] 34)
  have Q4 := hid (Q3.st sa)
  have S4 := hid (S3.trans sa)
  have O4 := hid (show OE (w3.alloc (.cells #[] 34)) w3.heap.size (some ⟨w3.heap.size, 0, none⟩) 0 0 [] from ⟨rfl, row_lit w3 34 4⟩)
  have hq3 : q < w3.heap.size := Q3.k.lt
  have hb3 : b < w3.heap.size := (Q3.o.lt b rfl).2
  obtain ⟨hpm, hph⟩ := init_ok (n := n) ltS_SLt (n / 2) es (by have := HLen.out; omega) (fun p hp c hc hlt => by omega)
  have HPH := hid hph
  have HSO := hid (show sortL ltE es = [] ++ outL ltE n (initL ltE n (n / 2) es) by unfold sortL; rw [HLen.out]; rfl)
  clear hpm hph Q3 G3 S3 sa Q1 S1
  go_wp2_with fail
  generalize w3.alloc (.cells _ 34) = w4 at *
  generalize w3.heap.size = bs at *
  go_loopw [4] (fun v wr => ∃ (k u a : Nat) (X : Option Addr) (xs ys : List Ent), v = .slice X u a ∧ u + k = n ∧ Hid (QS wr q w.heap.size b k c1 xs) ∧ Hid (∀ p, HpAt ltE xs k p) ∧ Hid (OE wr bs X u a ys) ∧ Hid (sortL ltE es = ys ++ outL ltE k xs) ∧ Hid (St w wr) ∧ bs ≤ wr.heap.size) (fun v _ => n - lenS v)
  case atStart => exact ⟨n, 0, 0, _, _, [], rfl, by omega, Q4, HPH, O4, HSO, S4, Nat.le_of_lt (O4.out.lt _ rfl).2⟩
  case round =>
    obtain ⟨wa, rfl⟩ : ∃ wo : World, wo = wr := ⟨_, rfl⟩
    obtain ⟨k, u, a, X, xs, ys, rfl, huk, Q, HP, O, HS, S, hbs⟩ := hrel
    have c0 := Q.out.cell
    cases k with
    | zero =>
      have hxl := Q.out.o.1
      obtain rfl : xs = [] := List.eq_nil_of_length_eq_zero hxl
      obtain rfl : u = n := by omega
      go_wp2_with fail
      go_ret
      have h9 := HS.out
      simp only [outL, List.append_nil] at h9
      exact ⟨_, _, rfl, by rw [h9]; exact O.out.less (by omega), S.out⟩
    | succ k =>
      have hki : (0 : Int) < ((k + 1 : Nat) : Int) := by omega
      have hxl := Q.out.o.1
      obtain ⟨x, rest, rfl⟩ : ∃ x rest, xs = x :: rest := by cases xs with | nil => simp at hxl | cons x rest => exact ⟨x, rest, rfl⟩
      simp only [List.length_cons, Nat.add_right_cancel_iff] at hxl
      obtain ⟨m, ⟨t, g⟩, f⟩ := x
      have HRL := hid hxl
      clear hxl
      go_wp2_with fail
      refine (heapPop_any _ q w.heap.size b (k + 1) c1 k _ rest Q.out rfl (by omega) (by rw [HRL.out]; exact HP.out)).mono ?_
      rintro e w5 ⟨rfl, Q5, w5', G5, G5'⟩
      obtain ⟨_, _, hp3⟩ := pop_ok (x := (m, (t, g), f)) (xs := rest) ltS_SLt (by rw [HRL.out]; exact HP.out)
      rw [HRL.out] at hp3
      have S5 := st_rows S.out G5 G5' hbw hqw
      have O5 := (O.out.grown G5 (fun g hg hA => by injection hg with hg; have := (O.out.lt g hA).1; omega)).grown G5' (fun g hg hA => by injection hg with hg; have := (O.out.lt g hA).1; omega)
      have sa := (St.refl w5).alloc (.cells (entA (m, (t, g), f)) 34)
      have B6 := hid (Blk.new w5 34 (entA (m, (t, g), f)))
      have Q6 := hid (Q5.st sa)
      have S6 := hid (S5.trans sa)
      have O6 := hid (O5.st sa)
      have HP6 := hid hp3
      have HS6 := hid (HS.out.trans (show ys ++ outL ltE (k + 1) ((m, (t, g), f) :: rest) = (ys ++ [(m, (t, g), f)]) ++ outL ltE k ((popL ltE ((m, (t, g), f) :: rest)).take k) by rw [outL_step, HRL.out, List.append_assoc]; rfl))
      have hbs6 : bs ≤ w5.heap.size := Nat.le_trans hbs (Nat.le_trans G5.size G5'.size)
      have hta : ∀ w, Sem.run Try.prog (Instr.typeAssert (.iface 34 (.agg (entA (m, (t, g), f)))) 20 34 true) w = .ok (.tuple #[.agg (entA (m, (t, g), f)), .bool true]) w := fun _ => by rfl
      clear c0 Q5 G5 G5' S5 O5 sa hp3 Q O S HP HS
      go_upto_region 6 with (fail)
      generalize w5.alloc (.cells _ 34) = w6 at *
      have e0 := B6.out.cell_ (i := 0) (v := .int .i64 m) rfl
      have e1 := B6.out.cell_ (i := 1) (v := .int .i64 t) rfl
      have e2 := B6.out.cell_ (i := 2) (v := .int .i64 g) rfl
      have e3 := B6.out.cell_ (i := 3) (v := .bool f) rfl
      have sb := (St.refl w6).alloc (.cells (entA (m, (t, g), f)) 34)
      have O7 := O6.out.st sb
      have Q7 := hid (Q6.out.st sb)
      have S7 := hid (S6.out.trans sb)
      have hbs7 := hid (show bs ≤ (w6.alloc (.cells (entA (m, (t, g), f)) 34)).heap.size from Nat.le_trans (Nat.le_trans hbs6 (by have := B6.out.lt; omega)) sb.le)
      have O7 := hid O7
      clear Q6 S6 O6 sb hbs6
      go_wp2_with (at_builtin; refine wpList_append_rows _ rfl _ _ 23 rfl bs 34 4 32 eZ_ Try.underlying23 entInfo rfl (by omega) X u a (entCells ys) (by rfl) O7.out.2 _ (some ⟨w6.heap.size, 0, none⟩) 1 1 (entCells [(m, (t, g), f)]) (by rfl) (Reads.one w6 34 (entA (m, (t, g), f)) 4 rfl) (entCells_one _) (by omega) (by omega) hbs7.out ?_; intro Y a' w8 ho8 hg8; rw [← entCells_app] at ho8)
      have O8 := hid (show OE w8 bs Y (u + 1) a' (ys ++ [(m, (t, g), f)]) from ⟨by rw [List.length_append, O7.out.1]; rfl, ho8⟩)
      have hX : ∀ k, blockOf X = some k → bs ≤ k := fun k hk => (O7.out.lt k hk).1
      have Q8 := hid (show QS w8 q w.heap.size b k c1 _ from ⟨Q7.out.k.grown hg8 (fun e => by have := hX _ (by first | exact e | exact e.symm); omega), Q7.out.o.grown hg8 (fun k hk hA => by have := hX k hk; injection hA with hA; simp at hA; omega)⟩)
      have S8 := hid (S7.out.grown hg8 (fun k hk => by have := hX k hk; omega))
      have hbs8 : bs ≤ w8.heap.size := Nat.le_trans hbs7.out hg8.size
      clear ho8 hg8 e0 e1 e2 e3 B6
      go_wp2_with fail
      go_roundw
      case rel => exact ⟨k, u + 1, a', Y, _, _, rfl, by omega, Q8, HP6, O8, HS6, S8, hbs8⟩
      case measure => simp [lenS]; omega
end Go.Proofs.Ytkhgemgmnchodaa

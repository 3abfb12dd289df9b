/- What the laws on proposing hold of a proposal's result. -/
import Derived.Test.YtfepegellpegdaaSameGr
import Derived.Test.YtfepegellpegdaaPropL
import Derived.Test.YtfepegellpegdaaGr13
import Derived.Test.YtfepegellpegdaaGr14
namespace Go.Proofs.Ytfepegellpegdaa
open Go.RowKit Go.Sort
/-- A group and a stamp that a proposal returned, in the law's own blocks. -/
structure PO (W : World) (b : Nat) (I K : Int) (A : Option Addr) (n c : Nat) (B : Option Addr) (m d : Nat) (t g : Int) (ps ds : List Ent) : Prop where
  k : Blk W b 25 (grC I K A n c B m d)
  i : SE W A n c ps
  j : SE W B m d ds
  s : Blk W (b + 1) 29 #[.int .i64 t, .int .i64 g]
section
variable {W W' : World} {b n c m d : Nat} {I K t g : Int} {A B : Option Addr} {ps ds : List Ent}
theorem PO.st (h : PO W b I K A n c B m d t g ps ds) (s : St W W') : PO W' b I K A n c B m d t g ps ds := ⟨h.k.st s, h.i.st s, h.j.st s, h.s.st s⟩
theorem PO.new {base : Nat} (h : OwGr W base I K A n c B m d ps ds) :
    PO ((W.alloc (.cells (grC I K A n c B m d) 25)).alloc (.cells #[.int .i64 t, .int .i64 g] 29)) W.heap.size I K A n c B m d t g ps ds :=
  have a := ((St.refl W).alloc (.cells (grC I K A n c B m d) 25)).alloc (.cells #[.int .i64 t, .int .i64 g] 29)
  ⟨(Blk.new W 25 (grC I K A n c B m d)).alloc _, h.oi.se.st a, h.oh.se.st a, blk_second W (.cells (grC I K A n c B m d) 25) 29 #[.int .i64 t, .int .i64 g]⟩
end
theorem StampLess_any (t g t' g' : Int) (w : World) : Calls Try.prog 40 #[.agg #[.int .i64 t, .int .i64 g], .agg #[.int .i64 t', .int .i64 g']] w fun e w' => e = .returned (.bool ((stOk (t, g) && stOk (t', g')) && ltS (t, g) (t', g'))) ∧ St w w' := by
  have s0 := ((St.refl w).alloc (.cells #[.int .i64 t, .int .i64 g] 29)).alloc (.cells #[.int .i64 t', .int .i64 g'] 29)
  have K0 := hid ((Blk.new w 29 #[.int .i64 t, .int .i64 g]).alloc (.cells #[.int .i64 t', .int .i64 g'] 29))
  have K1 := hid (blk_second w (.cells #[.int .i64 t, .int .i64 g] 29) 29 #[.int .i64 t', .int .i64 g'])
  have a0 := K0.out.cell_ (i := 0) (v := .int .i64 t) rfl
  have a1 := K0.out.cell_ (i := 1) (v := .int .i64 g) rfl
  have S0 := hid s0
  clear s0
  go_enter Try.func40, Try.ntmps40
  go_wp2_with fail
  refine (StampValid_any _ _ _).mono ?_
  rintro e w1 ⟨rfl, s1⟩
  have K0 := hid (K0.out.below s1 K0.out.lt)
  have K1 := hid (K1.out.below s1 K1.out.lt)
  have S1 := hid (S0.out.trans s1)
  clear a0 a1 s1 S0
  have b0 := K1.out.cell_ (i := 0) (v := .int .i64 t') rfl
  have b1 := K1.out.cell_ (i := 1) (v := .int .i64 g') rfl
  cases h1 : stOk (t, g)
  · go_wp2_with fail
    go_ret
    exact ⟨by rw [h1]; rfl, S1.out⟩
  go_wp2_with fail
  refine (StampValid_any _ _ _).mono ?_
  rintro e w2 ⟨rfl, s2⟩
  have K0 := hid (K0.out.below s2 K0.out.lt)
  have K1 := hid (K1.out.below s2 K1.out.lt)
  have S2 := hid (S1.out.trans s2)
  clear b0 b1 s2 S1
  have a0 := K0.out.cell_ (i := 0) (v := .int .i64 t) rfl
  have a1 := K0.out.cell_ (i := 1) (v := .int .i64 g) rfl
  have b0 := K1.out.cell_ (i := 0) (v := .int .i64 t') rfl
  have b1 := K1.out.cell_ (i := 1) (v := .int .i64 g') rfl
  cases h2 : stOk (t', g')
  · go_wp2_with fail
    go_ret
    exact ⟨by rw [h1, h2]; rfl, S2.out⟩
  go_wp2_with fail
  refine (less_any _ _ _ _ _).mono ?_
  rintro e w3 ⟨rfl, s3⟩
  have S3 := hid (S2.out.trans s3)
  cases h3 : ltS (t, g) (t', g')
  · go_wp2_with fail
    go_ret
    exact ⟨by rw [h1, h2, h3]; rfl, S3.out⟩
  · go_wp2_with fail
    go_ret
    exact ⟨by rw [h1, h2, h3]; rfl, S3.out⟩
theorem StampLess_true (t g t' g' : Int) (w : World) (h1 : stOk (t, g) = true) (h2 : stOk (t', g') = true) (h3 : ltS (t, g) (t', g') = true) : Calls Try.prog 40 #[.agg #[.int .i64 t, .int .i64 g], .agg #[.int .i64 t', .int .i64 g']] w fun e w' => e = .returned (.bool true) ∧ St w w' :=
  (StampLess_any t g t' g' w).mono fun _ _ ⟨a, b⟩ => ⟨by rw [a, h1, h2, h3]; rfl, b⟩
/-- The two results that a law compares. -/
theorem prop_len (g : Grp) (m : Int) : (propM g m).1.pend.length ≤ g.pend.length + 1 ∧ (propM g m).1.done.length ≤ g.done.length := by
  unfold propM
  split
  · unfold propS
    split
    · split <;> simp
    · split <;> simp
  · simp [g0]
end Go.Proofs.Ytfepegellpegdaa

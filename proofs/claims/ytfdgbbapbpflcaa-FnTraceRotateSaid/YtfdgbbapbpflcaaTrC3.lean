/- The reference's search: l21Path, TraceCycle. -/
import Derived.Test.YtfdgbbapbpflcaaTrC2
namespace Go.Proofs.Ytfdgbbapbpflcaa
open Go.RowKit
theorem wpList_append_int' {P : Program} {ops : Array Oper} {rest : List Oper} {o : Oper} {a : Act} {Q : Exit → Act → World → Prop} (W : World) (hgd : o.guard = none) (s x : Operand) (t : TypeId)
    (ho : o.op = .call { callee := .builtin .append, args := #[s, x], argTypes := #[t, t] })
    (base : Nat) (e : TypeId) (ht : P.underlying t = some (.slice e)) (hI : (P.info? e).map (fun i => (i.zero, i.size, i.bytes)) = some (some (.int .i64 0), 1, 8))
    (A : Option Addr) (m c : Nat) (ys : List Int) (y : Int) (hs : a.eval s = .slice A m c) (hown : OI W base e A m c ys) {G : Nat}
    (hx : a.eval x = .slice (some ⟨G, 0, none⟩) 1 1) (hG : G = W.heap.size) (hm : m + 1 ≤ 1099511627776) (hbase : base ≤ W.heap.size)
    (h : ∀ A' c' w', OI w' base e A' (m + 1) c' (ys ++ [y]) → W.grownBy w' (blockOf A) → wpList P ops Q rest (a.put o.dst (.slice A' (m + 1) c')) w') :
    wpList P ops Q (o :: rest) a (W.alloc (.cells #[.int .i64 y] e)) := by
  subst hG
  exact wpList_append_int W hgd s x t ho base e ht hI A m c ys y hs hown hx hm hbase h
theorem ints_cons (x : Nat) (l : List Nat) : ints (x :: l) = (x : Int) :: ints l := rfl
theorem OI.val {w : World} {base n c k x : Nat} {e : TypeId} {A : Option Addr} {os : List Nat} (h : OI w base e A n c (ints os)) (hx : os[k]? = some x) : ∃ g, A = some ⟨g, 0, none⟩ ∧ base ≤ g ∧ g < w.heap.size ∧ w.cell? ⟨g, k, none⟩ = some (.int .i64 (x : Int)) := by
  have hk := (List.getElem?_eq_some_iff.1 hx).1
  have hl := h.len
  rw [ints_len] at hl
  obtain ⟨g, y, h1, h2, h3, h4, h5, _⟩ := h.at_ (k := k) (by omega)
  have := ints_at.2 hx
  rw [h4.out] at this
  injection this with this
  subst this
  exact ⟨g, h1, h2, h3, h5⟩
theorem OI.bval {w : World} {base m : Nat} {e : TypeId} {g : Nat} {b : Nat → Option Nat} (h : OI w base e (some ⟨g, 0, none⟩) 12 12 (befI b)) (hm : m < 12) : w.cell? ⟨g, m, none⟩ = some (.int .i64 (befAt (b m))) ∧ w.frozen? ⟨g, m, none⟩ = false ∧ ∀ x : Nat, OI (w.setCell ⟨g, m, none⟩ (.int .i64 (x : Int))) base e (some ⟨g, 0, none⟩) 12 12 (befI (updB b m x)) := by
  obtain ⟨g', y, h1, h2, h3, h4, h5, h6, h7⟩ := h.at_ (k := m) (by omega)
  injection h1 with h1
  injection h1 with h1
  subst h1
  have := bef_at b hm
  rw [h4.out] at this
  injection this with this
  subst this
  refine ⟨h5, h6, fun x => ?_⟩
  have := (h7 (x : Int)).1.out
  rwa [bef_set b x hm] at this
theorem rep_set (i : Nat) (h : i < 12) : (List.replicate i (-1 : Int) ++ (List.replicate 12 (0 : Int)).drop i).set i (-1) = List.replicate (i + 1) (-1) ++ (List.replicate 12 (0 : Int)).drop (i + 1) := by
  rw [set_front rfl (by simp) (by simpa using h), List.replicate_succ' (n := i)]
set_option maxRecDepth 100000 in
set_option maxHeartbeats 4000000 in
theorem l21Path_any (A : Option Addr) (n0 c0 s : Nat) (xss : List (List Int)) (w : World) (h : SLL w A n0 c0 xss) (hn : n0 ≤ 1048576) (hn2 : ∀ xs ∈ xss, xs.length ≤ 1048576) (hs12 : s < 12) :
    Calls Try.prog 55 #[.slice A n0 c0, .int .i64 (s : Int)] w (BackEnd (cyc (nF xss) s) w) := by
  obtain ⟨i0, hi0, hz0, hz1, hz2⟩ := info_parts intInfo
  have HN2 := hid hn2
  have H := hid h
  clear hn2 h
  go_enter Try.func55, Try.ntmps55
  go_wp2_with (at_make; refine wpList_make_full _ rfl _ _ 22 rfl w.heap.size 3 i0 (.int .i64 0) 1 Try.underlying22 hi0 hz0 hz1 _ _ _ _ 12 rfl rfl rfl rfl (by rw [hz2]; omega) (by unfold maxLen; omega) (Nat.le_refl _) ?_; intro w1 hown hgrow)
  have hsz : w.heap.size < w1.heap.size := (World.ownsRow.lt hown _ rfl).2
  have hbel : St w w1 := (Below.refl w.heap.size w).grown hgrow (Nat.le_refl _) (by simp)
  have ho : OI w1 w.heap.size 3 (some ⟨w.heap.size, 0, none⟩) 12 12 (List.replicate 12 0) := by
    have h2 := hown
    rw [Nat.mul_one, show Value.cells (.int .i64 0) = #[.int .i64 0] from rfl, toList_madeCells_one, ← List.map_replicate] at h2
    exact h2
  clear hown hgrow
  have HO := hid ho
  clear ho
  go_loopw [6] (fun t wr => ∃ i : Nat, i ≤ 12 ∧ t = .int .i64 (i : Int) ∧ Hid (OI wr w.heap.size 3 (some ⟨w.heap.size, 0, none⟩) 12 12 (List.replicate i (-1) ++ (List.replicate 12 0).drop i)) ∧ Hid (St w wr) ∧ w.heap.size < wr.heap.size) (fun t _ => 12 - (intOf t).toNat)
  case atStart => exact ⟨0, Nat.zero_le _, rfl, HO, hid hbel, hsz⟩
  case round =>
    obtain ⟨wa, rfl⟩ : ∃ wo : World, wo = wr := ⟨_, rfl⟩
    obtain ⟨i, hi, rfl, ho, hst, hsw⟩ := hrel
    by_cases hlt : i < 12
    · obtain ⟨g, x', he, hb, hgl, hx', hc', hfz, hset⟩ := ho.out.at_ hlt
      obtain rfl : w.heap.size = g := by injection he with he; injection he
      clear he
      obtain ⟨hs1, hs2⟩ := hset (-1)
      rw [rep_set i hlt] at hs1
      clear hset
      have hli : (i : Int) < 12 := by omega
      go_wp2_with fail
      go_roundw
      case rel => exact ⟨i + 1, by omega, by go_num, hs1, hid (hst.out.setCell (Nat.le_refl _) _), by simpa [World.setCell] using hsw⟩
      case measure => simp [intOf]; omega
    · obtain rfl : i = 12 := by omega
      have h12 : ¬ (12 : Int) < 12 := by omega
      have HB0 := hid (show OI wa w.heap.size 3 (some ⟨w.heap.size, 0, none⟩) 12 12 (befI (fun _ => none)) from ho.out)
      have a2 := (St.refl wa).alloc (.cells #[.int .i64 (s : Int)] 3)
      have HB := hid (OI.st HB0.out a2)
      have HLN := hid (show OI (wa.alloc (.cells #[.int .i64 (s : Int)] 3)) (w.heap.size + 1) 3 (some ⟨wa.heap.size, 0, none⟩) 1 1 (ints [s]) from OI.less (OI.lit1 (w := wa) (x := (s : Int))) hsw)
      have HS := hid (hst.out.trans a2)
      clear a2 ho hst HB0
      go_wp2_with fail
      generalize wa.alloc (.cells #[.int .i64 (s : Int)] 3) = w2 at *
      go_loopw [7, 8] (fun v t wr => ∃ (i n c : Nat) (X : Option Addr) (line : List Nat) (bef : Nat → Option Nat) (lev : Nat → Nat), i ≤ n ∧ n ≤ 12 ∧ t = .int .i64 (i : Int) ∧ v = .slice X n c ∧ Hid (OI wr (w.heap.size + 1) 3 X n c (ints line)) ∧ Hid (OI wr w.heap.size 3 (some ⟨w.heap.size, 0, none⟩) 12 12 (befI bef)) ∧ Hid (OuS (nF xss) s (13 - i) i line bef lev) ∧ Hid (St w wr)) (fun _ t _ => 13 - (intOf t).toNat)
      case atStart => exact ⟨0, 1, 1, _, [s], fun _ => none, fun _ => 0, by omega, by omega, rfl, rfl, HLN, HB, hid (OuS.start hs12), HS⟩
      case round =>
        obtain ⟨wb, rfl⟩ : ∃ wo : World, wo = wr := ⟨_, rfl⟩
        clear HLN HB HS
        obtain ⟨i, n, c, X, line, bef, lev, hin, hn12, rfl, rfl, hln, hb, ho, hst⟩ := hrel
        have HLEN := hid (show line.length = n by have := hln.out.len; rwa [ints_len] at this)
        by_cases hlt : i < n
        · obtain ⟨x, hx⟩ : ∃ x, line[i]? = some x := ⟨_, List.getElem?_eq_getElem (by rw [HLEN.out]; exact hlt)⟩
          have HX := hid hx
          have HO1 := hid (show OuS (nF xss) s ((12 - i) + 1) i line bef lev by have := ho.out; rwa [show 13 - i = (12 - i) + 1 by omega] at this)
          have HI := hid (HO1.out.in_ hx)
          clear ho hx
          go_wp2_with fail
          go_loopw [7, 9] (fun v t wr => ∃ (j n c : Nat) (X : Option Addr) (line' : List Nat) (bef' : Nat → Option Nat) (lev' : Nat → Nat), j ≤ 12 ∧ i < n ∧ n ≤ 12 ∧ t = .int .i64 (j : Int) ∧ v = .slice X n c ∧ Hid (OI wr (w.heap.size + 1) 3 X n c (ints line')) ∧ Hid (OI wr w.heap.size 3 (some ⟨w.heap.size, 0, none⟩) 12 12 (befI bef')) ∧ Hid (InS (nF xss) s i x j line bef line' bef' lev') ∧ Hid (St w wr)) (fun _ t _ => 12 - (intOf t).toNat)
          case atStart => exact ⟨0, n, c, X, line, bef, lev, by omega, hlt, hn12, rfl, rfl, hln, hb, HI, hst⟩
          case round =>
            obtain ⟨wc, rfl⟩ : ∃ wo : World, wo = wr := ⟨_, rfl⟩
            clear hln hb HI hst
            obtain ⟨j, n2, c2, X2, line2, bef2, lev2, hj, hin2, hn2, rfl, rfl, hln, hb, hi2, hst⟩ := hrel
            have HLEN2 := hid (show line2.length = n2 by have := hln.out.len; rwa [ints_len] at this)
            by_cases hj12 : j < 12
            · have hji : (j : Int) < 12 := by omega
              obtain ⟨gl, rfl, hgl, hgl2, hcx⟩ := hln.out.val hi2.out.bp.at_
              have HT := hid (H.out.st hst.out)
              have hii0 : (0 : Int) ≤ (i : Int) := by omega
              have hii1 : (i : Int) < (n2 : Int) := by omega
              go_wp2_with fail
              refine (l21Next_any _ _ _ _ _ _ _ HT.out hn HN2.out).mono ?_
              rintro e w3 ⟨rfl, rfl⟩
              have hne : nextLL xss (x : Int) (j : Int) = nF xss x j := rfl
              rw [hne]
              clear hne
              cases hN : nF xss x j
              · have HI3 := hid (hi2.out.no hj12 hN)
                clear hN
                go_wp2_with fail
                go_roundw
                case rel => exact ⟨j + 1, n2, c2, _, line2, bef2, lev2, by omega, hin2, hn2, by go_num, rfl, hln, hb, HI3, hst⟩
                case measure => simp [intOf]; omega
              · have HNN := hid hN
                clear hN
                by_cases hjs : j = s
                · have HC := hid (HO1.out.hit HX.out (hi2.out.hit hj12 HNN.out hjs))
                  subst hjs
                  have HX2 := hid (List.mem_of_getElem? hi2.out.bp.at_)
                  have HLV := hid (show lev2 x < 13 by have := hi2.out.bi.lev12 HX2.out; omega)
                  have BI2 := hid hi2.out.bi
                  have a3 := (St.refl wc).alloc (.cells #[] 3)
                  have HE := hid (OI.less (OI.lit (w := wc) (e := 3)) hst.out.le)
                  have HB3 := hid (OI.st hb.out a3)
                  have hcx := a3.cell hcx
                  have HS3 := hid (hst.out.trans a3)
                  have HC2 := hid (show cyc (nF xss) j = back bef2 j 13 x ++ [] by rw [List.append_nil]; exact HC.out)
                  clear a3 hln hb hst hi2 HLEN2 HT
                  go_wp2_with fail
                  go_loopg [10, 11] 13 (fun k v t wr => ∃ (y m a : Nat) (X : Option Addr) (acc : List Nat), m + k = 13 ∧ t = .int .i64 (y : Int) ∧ v = .slice X m a ∧ Hid (OI wr w.heap.size 3 X m a (ints acc)) ∧ Hid (OI wr w.heap.size 3 (some ⟨w.heap.size, 0, none⟩) 12 12 (befI bef2)) ∧ Hid (y ∈ line2 ∧ lev2 y < k) ∧ Hid (cyc (nF xss) j = back bef2 j k y ++ acc) ∧ Hid (St w wr))
                  case atStart => exact ⟨x, 0, 0, _, [], by omega, rfl, rfl, HE, HB3, hid ⟨HX2.out, HLV.out⟩, HC2, HS3⟩
                  case round =>
                    obtain ⟨wd, rfl⟩ : ∃ wo : World, wo = wr := ⟨_, rfl⟩
                    clear HE HB3 HC2 HS3 hcx
                    obtain ⟨y, m, a, X, acc, hmk, rfl, rfl, hac, hb, hy, hcy, hst⟩ := hrel
                    have HYM := hid hy.out.1
                    have hyk := hy.out.2
                    obtain ⟨k', rfl⟩ : ∃ k', gk = k' + 1 := ⟨gk - 1, by omega⟩
                    by_cases hyj : y = j
                    · subst hyj
                      have HCY := hid (show cyc (nF xss) y = y :: acc by have := hcy.out; rwa [back_self] at this)
                      have hx1 : St wd (wd.alloc (.cells #[.int .i64 (y : Int)] 3)) := (St.refl wd).alloc _
                      have HAC := hid (OI.st hac.out hx1)
                      have HS1 := hid (hst.out.trans hx1)
                      have hle := hst.out.le
                      clear hx1 hac
                      go_wp2_with (at_builtin; go_loud (refine wpList_append_src _ rfl _ _ 22 rfl w.heap.size 3 Try.underlying22 intInfo _ 1 1 [(y : Int)] rfl (OI.less (OI.lit1 (w := wd) (x := (y : Int))) hle) _ X m a (ints acc) rfl HAC.out.ri (by omega) HS1.out.le ?_); intro X4 a4 w4 o4 g4)
                      go_ret
                      refine ⟨_, _, _, rfl, ?_, St.grown HS1.out g4 (fun q hq => by simp [blockOf] at hq; omega)⟩
                      rw [HCY.out, ints_cons]
                      exact o4
                    · have hyi : ((y : Int) == (j : Int)) = false := by simp; omega
                      obtain ⟨z, hz1, hz2, hz3, hz4⟩ := BI2.out.bf y HYM.out hyj
                      have hy12 := BI2.out.lt y HYM.out
                      have HBS := hid (back_step (n := k') hyj hz1)
                      have HCY := hid (show cyc (nF xss) j = back bef2 j k' z ++ (y :: acc) by have := hcy.out; rwa [HBS.out, List.append_assoc] at this)
                      have HZM := hid (show z ∈ line2 ∧ lev2 z < k' from ⟨hz2, by omega⟩)
                      have hx1 : St wd (wd.alloc (.cells #[.int .i64 (y : Int)] 3)) := (St.refl wd).alloc _
                      have HAC := hid (OI.st hac.out hx1)
                      have HB1 := hid (OI.st hb.out hx1)
                      have HS1 := hid (hst.out.trans hx1)
                      have HBZ := hid hz1
                      have hle := hst.out.le
                      have hy0 : (0 : Int) ≤ (y : Int) := by omega
                      have hy1 : (y : Int) < 12 := by omega
                      have hlt0 := (hb.out.lt w.heap.size rfl).2
                      clear hz1 hz2 hz3 hz4 hcy hx1 hac hb hy
                      go_wp2_with (at_builtin; go_loud (refine wpList_append_src _ rfl _ _ 22 rfl wd.heap.size 3 Try.underlying22 intInfo _ 1 1 [(y : Int)] rfl (OI.lit1 (w := wd) (x := (y : Int))) _ X m a (ints acc) rfl HAC.out.ri (by omega) (by simp) ?_); intro X4 a4 w4 o4 g4; go_loud (have O4 := hid (OI.less o4 hle)); go_loud (have HB4 := hid (HB1.out.grown g4 (fun q hq hA => by simp [blockOf] at hq hA; omega))); have S4 := hid (St.grown HS1.out g4 (fun q hq => by simp [blockOf] at hq; omega)); have hcz := (HB4.out.bval hy12).1; rw [HBZ.out] at hcz; change w4.cell? ⟨w.heap.size, y, none⟩ = some (.int .i64 (z : Int)) at hcz)
                      go_roundg k'
                      case measure => omega
                      case rel => exact ⟨z, 1 + m, a4, _, y :: acc, by omega, rfl, rfl, O4, HB4, HZM, HCY, S4⟩
                · have hjsi : ((j : Int) == (s : Int)) = false := by simp; omega
                  obtain ⟨hbv, hbf, hbs⟩ := hb.out.bval hj12
                  have HBS := hid hbs
                  have hj0 : (0 : Int) ≤ (j : Int) := by omega
                  cases hbj : bef2 j with
                  | some y =>
                    have HI3 := hid (hi2.out.old hj12 HNN.out hjs hbj)
                    rw [hbj] at hbv
                    change wc.cell? ⟨w.heap.size, j, none⟩ = some (.int .i64 (y : Int)) at hbv
                    have hyn : ¬ (y : Int) < 0 := by omega
                    clear hbj hbs
                    go_wp2_with fail
                    go_roundw
                    case rel => exact ⟨j + 1, n2, c2, _, line2, bef2, lev2, by omega, hin2, hn2, by go_num, rfl, hln, hb, HI3, hst⟩
                    case measure => simp [intOf]; omega
                  | none =>
                    have HI3 := hid (hi2.out.new hj12 HNN.out hjs hbj)
                    rw [hbj] at hbv
                    change wc.cell? ⟨w.heap.size, j, none⟩ = some (.int .i64 (-1)) at hbv
                    have HB3 := hid (HBS.out x)
                    have HL3 := hid (hln.out.grown (World.grownBy_set wc w.heap.size j (.int .i64 (x : Int))) (fun q hq hA => by injection hq with hq; have := (hln.out.lt q hA).1; omega))
                    have HS3 := hid (hst.out.setCell (p := ⟨w.heap.size, j, none⟩) (Nat.le_refl _) (.int .i64 (x : Int)))
                    have hnn : n2 + 1 ≤ 12 := by have := HI3.out.len; rw [List.length_append, HLEN2.out] at this; simpa using this
                    have hsz := HS3.out.le
                    have hgsz : w.heap.size + 1 ≤ (wc.setCell ⟨w.heap.size, j, none⟩ (.int .i64 (x : Int))).heap.size := by simp; omega
                    clear hbj hbs
                    go_wp2_with (at_builtin; refine wpList_append_int' _ rfl _ _ 22 rfl (w.heap.size + 1) 3 Try.underlying22 intInfo _ _ _ _ (j : Int) rfl HL3.out rfl (by simp) (by omega) hgsz ?_; intro X4 a4 w4 o4 g4)
                    have O4 := hid (show OI w4 (w.heap.size + 1) 3 X4 (n2 + 1) a4 (ints (line2 ++ [j])) by rw [TOEnd_ints_snoc]; exact o4)
                    have HB4 := hid (HB3.out.grown g4 (fun q hq hA => by have := (HL3.out.lt q hq).1; simp [blockOf] at hA; omega))
                    have S4 := hid (St.grown HS3.out g4 (fun q hq => by have := (HL3.out.lt q hq).1; omega))
                    go_roundw
                    case rel => exact ⟨j + 1, n2 + 1, a4, X4, line2 ++ [j], updB bef2 j x, _, by omega, by omega, hnn, by go_num, rfl, O4, HB4, HI3, S4⟩
                    case measure => simp [intOf]; omega
            · obtain rfl : j = 12 := by omega
              have hji : ¬ (12 : Int) < 12 := by omega
              have HO3 := hid (show OuS (nF xss) s (13 - (i + 1)) (i + 1) line2 bef2 lev2 by have := HO1.out.next HX.out hi2.out; rwa [show 12 - i = 13 - (i + 1) by omega] at this)
              go_wp2_with fail
              go_roundw
              case rel => exact ⟨i + 1, n2, c2, _, line2, bef2, lev2, by omega, hn2, by go_num, rfl, hln, hb, HO3, hst⟩
              case measure => simp [intOf]; omega
        · have hlti : ¬ (i : Int) < (n : Int) := by omega
          have HN := hid (ho.out.none_ (by rw [HLEN.out]; omega))
          go_wp2_with fail
          go_ret
          refine ⟨_, _, _, rfl, ?_, hst.out.alloc _⟩
          rw [HN.out]
          exact OI.less (OI.lit (w := wb) (e := 3)) hst.out.le
end Go.Proofs.Ytfdgbbapbpflcaa

/- FnGroupStamp returns true. -/
import Derived.Test.YtfepegellpegdaaLawGr
import Derived.Test.YtfepegellpegdaaGr7
namespace Go.Proofs.Ytfepegellpegdaa
open Go.RowKit Go.Sort
theorem any_succ {p : Ent → Bool} {l : List Ent} {j : Nat} {y : Ent} (h : l[j]? = some y) : (l.take (j + 1)).any p = ((l.take j).any p || p y) := by
  rw [take_snoc h, List.any_append]; simp
theorem stamp_found {g : Grp} (v : GrV g) (x : Int) (mt : Ent → Bool) (hmt : mt = fun y => y.1 == x && y == (stampG g x).getD e0) : (g.pend.any mt || g.done.any mt) = (stampG g x).isSome := by
  subst hmt
  rcases v.stamp_cases x with ⟨e, h1, h2, h3⟩ | ⟨e, h1, h2, h3, _⟩ | ⟨h1, h2, h3⟩
  · rw [h1]
    simp only [Option.getD_some, Option.isSome_some, Bool.or_eq_true, List.any_eq_true]
    exact .inl ⟨e, h3, by simp [h2]⟩
  · rw [h1]
    simp only [Option.getD_some, Option.isSome_some, Bool.or_eq_true, List.any_eq_true]
    exact .inr ⟨e, h3, by simp [h2]⟩
  · rw [h1]
    simp only [Option.isSome_none, Bool.or_eq_false_iff, List.any_eq_false]
    refine ⟨fun y hy h => ?_, fun y hy h => ?_⟩
    · rw [Bool.and_eq_true, beq_iff_eq] at h
      exact h2 (List.mem_map.2 ⟨y, hy, h.1⟩)
    · rw [Bool.and_eq_true, beq_iff_eq] at h
      exact h3 (List.mem_map.2 ⟨y, hy, h.1⟩)
set_option maxRecDepth 100000 in
set_option maxHeartbeats 2000000 in
theorem walkStamp (A : Option Addr) (n c : Nat) (bs : List Nat) {w : World} (h : RB w w.heap.size A n bs) (hnc : n ≤ c ∧ c ≤ maxLen) :
    Calls Try.prog 6 #[.slice A n c] w fun e w' => e = .returned (.bool true) ∧ Below w.heap.size w w' := by
  obtain ⟨hnc, hcm⟩ := hnc
  have HCM := hid hcm
  clear hcm
  by_cases hn : 1048576 < n
  · have hn : (1048576 : Int) < (n : Int) := by omega
    go_enter Try.func6, Try.ntmps6
    go_wp2_with fail
    go_ret
    exact ⟨rfl, Below.refl _ _⟩
  have hni : ¬ (1048576 : Int) < (n : Int) := by omega
  go_enter Try.func6, Try.ntmps6
  go_wp2_with fail
  refine (DrawGroupStamp_any _ _ _ _ _ h (by omega) hnc HCM.out).mono ?_
  rintro e w1 ⟨I, K, A1, n1, c1, B1, m1, d1, ps, ds, x, rfl, D⟩
  have hn1 := D.n
  have hm1 := D.m
  have X := hid (LG.new (I := I) (K := K) D.i D.j D.s)
  clear D
  go_upto_region 4 with (fail)
  generalize w1.alloc (.cells (grC I K A1 n1 c1 B1 m1 d1) 25) = w2 at *
  generalize w1.heap.size = bx at *
  have q0 := X.out.k.cell_ (i := 0) (v := .int .i64 I) rfl
  have q1 := X.out.k.cell_ (i := 1) (v := .int .i64 K) rfl
  have q2 := X.out.k.cell_ (i := 2) (v := .slice A1 n1 c1) rfl
  have q3 := X.out.k.cell_ (i := 3) (v := .slice B1 m1 d1) rfl
  go_wp2_with fail
  refine (GroupStamp_any _ _ _ _ _ _ _ _ _ _ x _ X.out.i X.out.j (by omega) (by omega)).mono ?_
  rintro e w3 ⟨rfl, s3⟩
  obtain ⟨⟨em, ⟨et, eg⟩, ef⟩, he⟩ : ∃ e, (stampG ⟨I, K, ps, ds⟩ x).getD e0 = e := ⟨_, rfl⟩
  obtain ⟨b, hb⟩ : ∃ b, (stampG ⟨I, K, ps, ds⟩ x).isSome = b := ⟨_, rfl⟩
  have HR : stRes (stampG ⟨I, K, ps, ds⟩ x) = .tuple #[enV em et eg ef, .bool b] := by unfold stRes; rw [he, hb]
  have HE := hid he
  have HB := hid hb
  rw [HR]
  have sa := (St.refl w3).alloc (.cells #[.int .i64 em, .int .i64 et, .int .i64 eg, .bool ef] 31)
  have E1 := hid (Blk.new w3 31 #[.int .i64 em, .int .i64 et, .int .i64 eg, .bool ef])
  have ss := s3.trans sa
  replace X := hid (X.out.st ss)
  replace q0 := ss.cell q0
  replace q1 := ss.cell q1
  replace q2 := ss.cell q2
  replace q3 := ss.cell q3
  clear s3 sa ss he hb
  go_upto_region 5 with (fail)
  generalize w3.alloc (.cells _ 31) = w4 at *
  generalize w3.heap.size = b1 at *
  go_wp2_with fail
  refine (specGroupStamp_any _ _ _ _ _ _ _ _ _ _ x _ X.out.i X.out.j).mono ?_
  rintro e w5 ⟨rfl, s5⟩
  rw [HR]
  clear HR
  have sa := (St.refl w5).alloc (.cells #[.int .i64 em, .int .i64 et, .int .i64 eg, .bool ef] 31)
  have E2 := hid (Blk.new w5 31 #[.int .i64 em, .int .i64 et, .int .i64 eg, .bool ef])
  have ss := s5.trans sa
  replace X := hid (X.out.st ss)
  replace E1 := hid (E1.out.st ss)
  replace q0 := ss.cell q0
  replace q1 := ss.cell q1
  replace q2 := ss.cell q2
  replace q3 := ss.cell q3
  clear s5 sa ss
  go_upto_region 6 with (fail)
  generalize w5.alloc (.cells _ 31) = w6 at *
  generalize w5.heap.size = b2 at *
  have e0 := E1.out.cell_ (i := 0) (v := .int .i64 em) rfl
  have e1 := E1.out.cell_ (i := 1) (v := .int .i64 et) rfl
  have e2 := E1.out.cell_ (i := 2) (v := .int .i64 eg) rfl
  have e3 := E1.out.cell_ (i := 3) (v := .bool ef) rfl
  have k0 := E2.out.cell_ (i := 0) (v := .int .i64 em) rfl
  have k1 := E2.out.cell_ (i := 1) (v := .int .i64 et) rfl
  have k2 := E2.out.cell_ (i := 2) (v := .int .i64 eg) rfl
  have k3 := E2.out.cell_ (i := 3) (v := .bool ef) rfl
  go_wp2_with fail
  refine (specGroupValid_any _ _ _ _ _ _ _ _ _ _ _ X.out.i X.out.j).mono ?_
  rintro e w7 ⟨rfl, s7⟩
  replace X := hid (X.out.st s7)
  replace E1 := hid (E1.out.st s7)
  replace q0 := s7.cell q0
  replace q1 := s7.cell q1
  replace q2 := s7.cell q2
  replace q3 := s7.cell q3
  replace e0 := s7.cell e0
  replace e1 := s7.cell e1
  replace e2 := s7.cell e2
  replace e3 := s7.cell e3
  replace k0 := s7.cell k0
  replace k1 := s7.cell k1
  replace k2 := s7.cell k2
  replace k3 := s7.cell k3
  clear s7
  cases hv : grOk ⟨I, K, ps, ds⟩
  · go_wp2_with fail
    go_ret
    exact ⟨rfl, X.out.s⟩
  obtain ⟨mt, hmt⟩ : ∃ mt : Ent → Bool, mt = fun y => y.1 == x && y == (em, (et, eg), ef) := ⟨_, rfl⟩
  have HFD := hid (stamp_found (grOk_iff.1 hv) x mt (by rw [HE.out]; exact hmt))
  rw [HB.out] at HFD
  have HMT := hid hmt
  clear hv hmt HE HB E2 k0 k1 k2 k3 q0 q1 q2 q3 e0 e1 e2 e3
  have hli := hid X.out.i.len
  have hlj := hid X.out.j.len
  go_wp2_with fail
  go_loopw [9, 10] (fun f v wr => ∃ j : Nat, j ≤ n1 ∧ v = .int .i64 (j : Int) ∧ f = .bool ((ps.take j).any mt) ∧ Hid (Dr w7 wr)) (fun _ v _ => n1 - (intOf v).toNat)
  case atStart => exact ⟨0, Nat.zero_le _, rfl, by simp, Dr.refl _⟩
  case round =>
    obtain ⟨wa, rfl⟩ : ∃ wo : World, wo = wr := ⟨_, rfl⟩
    obtain ⟨j, hj, rfl, rfl, hd⟩ := hrel
    have X2 := hid (X.out.st hd.out.st)
    have E3 := hid (E1.out.dr hd.out)
    have q2 := X2.out.k.cell_ (i := 2) (v := .slice A1 n1 c1) rfl
    have e0 := E3.out.cell_ (i := 0) (v := .int .i64 em) rfl
    have e1 := E3.out.cell_ (i := 1) (v := .int .i64 et) rfl
    have e2 := E3.out.cell_ (i := 2) (v := .int .i64 eg) rfl
    have e3 := E3.out.cell_ (i := 3) (v := .bool ef) rfl
    have hj0 : (0 : Int) ≤ (j : Int) := by omega
    by_cases hlt : j < n1
    · have hji : (j : Int) < (n1 : Int) := by omega
      obtain ⟨ad, m', t', g', f', rfl, _, hy, c0, c1', c2, c3⟩ := X2.out.i.at_ hlt
      have HS := hid (any_succ (p := mt) hy.out)
      have HMV := hid (show mt (m', (t', g'), f') = (m' == x && (m', (t', g'), f') == (em, (et, eg), ef)) by rw [HMT.out])
      obtain ⟨f0, hf0⟩ : ∃ b, ((ps.take j).any mt) = b := ⟨_, rfl⟩
      have HF0 := hid hf0
      rw [hf0]
      clear hf0 hy
      cases f0
      · by_cases h0 : m' = x
        · by_cases h1 : x = em
          · have h1' : m' = em := h0.trans h1
            by_cases h2 : t' = et
            · by_cases h3 : g' = eg
              · by_cases h4 : f' = ef
                · go_wp2_with fail
                  go_quiet (fail)
                  go_wp2_with fail
                  go_roundw
                  case rel => exact ⟨j + 1, by omega, by go_num, by have h9 := HF0.out; rw [HS.out, HMV.out]; rw [h9]; simp [h0, h1, h2, h3, h4], hd.out.trans ⟨_, rfl⟩⟩
                  case measure => simp [intOf]; omega
                · go_wp2_with fail
                  go_quiet (fail)
                  go_wp2_with fail
                  go_roundw
                  case rel => exact ⟨j + 1, by omega, by go_num, by have h9 := HF0.out; rw [HS.out, HMV.out]; rw [h9]; simp [h0, h1, h2, h3, h4], hd.out.trans ⟨_, rfl⟩⟩
                  case measure => simp [intOf]; omega
              · go_wp2_with fail
                go_quiet (fail)
                go_wp2_with fail
                go_roundw
                case rel => exact ⟨j + 1, by omega, by go_num, by have h9 := HF0.out; rw [HS.out, HMV.out]; rw [h9]; simp [h0, h1, h2, h3], hd.out.trans ⟨_, rfl⟩⟩
                case measure => simp [intOf]; omega
            · go_wp2_with fail
              go_quiet (fail)
              go_wp2_with fail
              go_roundw
              case rel => exact ⟨j + 1, by omega, by go_num, by have h9 := HF0.out; rw [HS.out, HMV.out]; rw [h9]; simp [h0, h1, h2], hd.out.trans ⟨_, rfl⟩⟩
              case measure => simp [intOf]; omega
          · have h1' : ¬ m' = em := fun e => h1 (h0.symm.trans e)
            go_wp2_with fail
            go_quiet (fail)
            go_wp2_with fail
            go_roundw
            case rel => exact ⟨j + 1, by omega, by go_num, by have h9 := HF0.out; rw [HS.out, HMV.out]; rw [h9]; simp [h0, h1], hd.out.trans ⟨_, rfl⟩⟩
            case measure => simp [intOf]; omega
        · go_wp2_with fail
          go_quiet (fail)
          go_wp2_with fail
          go_roundw
          case rel => exact ⟨j + 1, by omega, by go_num, by have h9 := HF0.out; rw [HS.out, HMV.out]; rw [h9]; simp [h0], hd.out.trans ⟨_, rfl⟩⟩
          case measure => simp [intOf]; omega
      · go_wp2_with fail
        go_quiet (fail)
        go_wp2_with fail
        go_roundw
        case rel => exact ⟨j + 1, by omega, by go_num, by have h9 := HF0.out; rw [HS.out, HMV.out]; rw [h9]; simp, hd.out.trans ⟨_, rfl⟩⟩
        case measure => simp [intOf]; omega
    · obtain rfl : j = n1 := by omega
      have hji : ¬ ((j : Int) < (j : Int)) := by omega
      obtain ⟨p0, hp0⟩ : ∃ p0, p0 = ps.any mt := ⟨_, rfl⟩
      have HP0 := hid hp0
      have HPA := hid (show (ps.take j).any mt = p0 by rw [List.take_of_length_le (Nat.le_of_eq hli.out)]; exact hp0.symm)
      rw [HPA.out]
      clear hp0 e0 e1 e2 e3
      go_wp2_with fail
      clear q2
      go_loopw [9, 11] (fun f v wr => ∃ j : Nat, j ≤ m1 ∧ v = .int .i64 (j : Int) ∧ f = .bool (p0 || (ds.take j).any mt) ∧ Hid (Dr w7 wr)) (fun _ v _ => m1 - (intOf v).toNat)
      case atStart => exact ⟨0, Nat.zero_le _, rfl, by simp, hd.out⟩
      case round =>
        obtain ⟨wa, rfl⟩ : ∃ wo : World, wo = wr := ⟨_, rfl⟩
        obtain ⟨j, hj, rfl, rfl, hd⟩ := hrel
        have X2 := hid (X.out.st hd.out.st)
        have E3 := hid (E1.out.dr hd.out)
        have q2 := X2.out.k.cell_ (i := 3) (v := .slice B1 m1 d1) rfl
        have e0 := E3.out.cell_ (i := 0) (v := .int .i64 em) rfl
        have e1 := E3.out.cell_ (i := 1) (v := .int .i64 et) rfl
        have e2 := E3.out.cell_ (i := 2) (v := .int .i64 eg) rfl
        have e3 := E3.out.cell_ (i := 3) (v := .bool ef) rfl
        have hj0 : (0 : Int) ≤ (j : Int) := by omega
        by_cases hlt : j < m1
        · have hji : (j : Int) < (m1 : Int) := by omega
          obtain ⟨ad, m', t', g', f', rfl, _, hy, c0, c1', c2, c3⟩ := X2.out.j.at_ hlt
          have HS := hid (any_succ (p := mt) hy.out)
          have HMV := hid (show mt (m', (t', g'), f') = (m' == x && (m', (t', g'), f') == (em, (et, eg), ef)) by rw [HMT.out])
          obtain ⟨f0, hf0⟩ : ∃ b, (p0 || (ds.take j).any mt) = b := ⟨_, rfl⟩
          have HF0 := hid hf0
          rw [hf0]
          clear hf0 hy
          cases f0
          · by_cases h0 : m' = x
            · by_cases h1 : x = em
              · have h1' : m' = em := h0.trans h1
                by_cases h2 : t' = et
                · by_cases h3 : g' = eg
                  · by_cases h4 : f' = ef
                    · go_wp2_with fail
                      go_quiet (fail)
                      go_wp2_with fail
                      go_roundw
                      case rel => exact ⟨j + 1, by omega, by go_num, by have h9 := HF0.out; rw [HS.out, HMV.out]; (try rw [← Bool.or_assoc]); rw [h9]; simp [h0, h1, h2, h3, h4], hd.out.trans ⟨_, rfl⟩⟩
                      case measure => simp [intOf]; omega
                    · go_wp2_with fail
                      go_quiet (fail)
                      go_wp2_with fail
                      go_roundw
                      case rel => exact ⟨j + 1, by omega, by go_num, by have h9 := HF0.out; rw [HS.out, HMV.out]; (try rw [← Bool.or_assoc]); rw [h9]; simp [h0, h1, h2, h3, h4], hd.out.trans ⟨_, rfl⟩⟩
                      case measure => simp [intOf]; omega
                  · go_wp2_with fail
                    go_quiet (fail)
                    go_wp2_with fail
                    go_roundw
                    case rel => exact ⟨j + 1, by omega, by go_num, by have h9 := HF0.out; rw [HS.out, HMV.out]; (try rw [← Bool.or_assoc]); rw [h9]; simp [h0, h1, h2, h3], hd.out.trans ⟨_, rfl⟩⟩
                    case measure => simp [intOf]; omega
                · go_wp2_with fail
                  go_quiet (fail)
                  go_wp2_with fail
                  go_roundw
                  case rel => exact ⟨j + 1, by omega, by go_num, by have h9 := HF0.out; rw [HS.out, HMV.out]; (try rw [← Bool.or_assoc]); rw [h9]; simp [h0, h1, h2], hd.out.trans ⟨_, rfl⟩⟩
                  case measure => simp [intOf]; omega
              · have h1' : ¬ m' = em := fun e => h1 (h0.symm.trans e)
                go_wp2_with fail
                go_quiet (fail)
                go_wp2_with fail
                go_roundw
                case rel => exact ⟨j + 1, by omega, by go_num, by have h9 := HF0.out; rw [HS.out, HMV.out]; (try rw [← Bool.or_assoc]); rw [h9]; simp [h0, h1], hd.out.trans ⟨_, rfl⟩⟩
                case measure => simp [intOf]; omega
            · go_wp2_with fail
              go_quiet (fail)
              go_wp2_with fail
              go_roundw
              case rel => exact ⟨j + 1, by omega, by go_num, by have h9 := HF0.out; rw [HS.out, HMV.out]; (try rw [← Bool.or_assoc]); rw [h9]; simp [h0], hd.out.trans ⟨_, rfl⟩⟩
              case measure => simp [intOf]; omega
          · go_wp2_with fail
            go_quiet (fail)
            go_wp2_with fail
            go_roundw
            case rel => exact ⟨j + 1, by omega, by go_num, by have h9 := HF0.out; rw [HS.out, HMV.out]; (try rw [← Bool.or_assoc]); rw [h9]; simp, hd.out.trans ⟨_, rfl⟩⟩
            case measure => simp [intOf]; omega
        · obtain rfl : j = m1 := by omega
          have hji : ¬ ((j : Int) < (j : Int)) := by omega
          have HALL := hid (show (p0 || (ds.take j).any mt) = b by rw [HP0.out, List.take_of_length_le (Nat.le_of_eq hlj.out)]; exact HFD.out)
          rw [HALL.out]
          go_wp2_with fail
          go_ret
          exact ⟨rfl, X2.out.s⟩
end Go.Proofs.Ytfepegellpegdaa

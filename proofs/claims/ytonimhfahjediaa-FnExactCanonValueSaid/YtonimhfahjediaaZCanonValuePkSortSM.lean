/- The library's stable sort at rows of values: its contract. No condition beyond the sizes named. -/
import Derived.Test.YtonimhfahjediaaZCanonValueWTabM
import Derived.Test.YtonimhfahjediaaZCanonValuePlM
import Derived.Test.YtonimhfahjediaaZCanonValuePkSortI
import Derived.Test.YtonimhfahjediaaZCanonValuePkSortM
import Derived.Test.YtonimhfahjediaaZCanonValuePkSortWM
import Derived.Test.YtonimhfahjediaaZCanonValuePkMarkValueM
import Derived.Test.YtonimhfahjediaaZCanonValueWLastM
import Derived.Test.YtonimhfahjediaaZCanonValuePk3M
section
namespace Go.Proofs.Ytonimhfahjediaa.Pk
open Go.RowKit Go.Proofs.YtonimhfahjediaaW.PrintWords Go.Proofs.YtonimhfahjediaaW.PrintLast Go.Proofs.YtonimhfahjediaaW.PrintMore Go.Proofs.Ytonimhfahjediaa.Pl Go.Proofs.Ytonimhfahjediaa.Ext
set_option linter.unusedVariables false
set_option linter.unusedSimpArgs false
theorem sym_go (fo : Nat → Nat) (w0 : World) (g n cap : Nat) (ok : Nat → Prop) (hg : w0.heap.size ≤ g) (hn : n ≤ 1048576) : ∀ (f : Nat), ∀ (a m b : Nat) (ha : a < m ∧ m < b ∧ b ≤ n ∧ b - a ≤ f) (xs : List (S30 × Nat)) (hs : SmL (xs)) (w : World) (ho : Kd.R (Kd.tag fo k30) 30 w w0.heap.size ok (.slice (some ⟨g, 0, none⟩) n cap) xs) (hb : Below w0.heap.size w0 w), Calls Try.prog 43 #[.slice (some ⟨g, 0, none⟩) n cap, .int .i64 (a : Int), .int .i64 (m : Int), .int .i64 (b : Int), .func (.func 22) #[] #[]] w fun e w' => e = .returned (.tuple #[]) ∧ (SmL (St.symM ltP (z30, 0) f a m b xs)) ∧ Kd.R (Kd.tag fo k30) 30 w' w0.heap.size ok (.slice (some ⟨g, 0, none⟩) n cap) (St.symM ltP (z30, 0) f a m b xs) ∧ Below w0.heap.size w0 w' ∧ Only g w w'
  | 0 => fun a m b ha => by omega
  | f + 1 => fun a m b ha xs hs w ho hb => by
    by_cases h1 : m - a = 1
    · exact sym1_go fo w0 g n cap ok hg hn f a m b ⟨ha.1, ha.2.1, ha.2.2.1⟩ h1 xs hs w ho hb
    · by_cases h2 : b - m = 1
      · exact sym2_go fo w0 g n cap ok hg hn f a m b ⟨ha.1, ha.2.1, ha.2.2.1⟩ h1 h2 xs hs w ho hb
      · exact sym3_go fo w0 g n cap ok hg hn f (sym_go fo w0 g n cap ok hg hn f) a m b ha h1 h2 xs hs w ho hb
set_option maxHeartbeats 8000000 in
set_option maxRecDepth 100000 in
theorem sta_go (fo : Nat → Nat) (w0 : World) (g n cap : Nat) (ok : Nat → Prop) (hg : w0.heap.size ≤ g) (hn : n ≤ 1048576)  (xs : List (S30 × Nat)) (hs : SmL (xs)) (w : World) (ho : Kd.R (Kd.tag fo k30) 30 w w0.heap.size ok (.slice (some ⟨g, 0, none⟩) n cap) xs) (hb : Below w0.heap.size w0 w) :
    Calls Try.prog 38 #[.slice (some ⟨g, 0, none⟩) n cap, .int .i64 (n : Int), .func (.func 22) #[] #[]] w fun e w' => e = .returned (.tuple #[]) ∧ (SmL ((St.stPs ltP (z30, 0) n n 20 (St.stBl ltP (z30, 0) n (n + 1) 0 xs)))) ∧ Kd.R (Kd.tag fo k30) 30 w' w0.heap.size ok (.slice (some ⟨g, 0, none⟩) n cap) ((St.stPs ltP (z30, 0) n n 20 (St.stBl ltP (z30, 0) n (n + 1) 0 xs))) ∧ Below w0.heap.size w0 w' ∧ Only g w w' := by
  have HG := Aside0.mk hg; have HN := Aside0.mk hn; have HS := Aside0.mk hs; have HO := Aside0.mk ho; have HB := Aside0.mk hb
  have HY := Aside0.mk (Only.refl g w)
  clear hg hn hs ho hb
  go_enter Try.func38, Try.ntmps38
  go_wp2
  go_loopg [7, 8] n (fun gq v7 v8 w' => ∃ (f a : Nat) (ys : List (S30 × Nat)), v7 = .int .i64 (a : Int) ∧ v8 = .int .i64 ((a + 20 : Nat) : Int) ∧ Aside0 ((a ≤ n ∧ n - a < f) ∧ gq = n - a ∧ St.stBl ltP (z30, 0) n f a ys = St.stBl ltP (z30, 0) n (n + 1) 0 xs ∧ SmL (ys)) ∧ Aside0 (Kd.R (Kd.tag fo k30) 30 w' w0.heap.size ok (.slice (some ⟨g, 0, none⟩) n cap) ys) ∧ Aside0 (Below w0.heap.size w0 w') ∧ Aside0 (Only g w w'))
  case atStart => exact ⟨n + 1, 0, xs, rfl, rfl, ⟨by omega, rfl, rfl, HS.out⟩, HO, HB, HY⟩
  case round =>
    clear HO HB HY
    obtain ⟨f, a, ys, rfl, rfl, HJ, HO, HB, HY⟩ := hrel
    obtain ⟨f, rfl⟩ : ∃ f', f = f' + 1 := ⟨f - 1, by have := HJ.out.1; omega⟩
    obtain ⟨b, hb_⟩ : ∃ q : Nat, q = a + 20 := ⟨_, rfl⟩
    rw [← hb_]
    have Eb := Aside0.mk hb_
    by_cases d1 : b ≤ n
    · have HD1 := Aside0.mk d1
      have t1 : ((b : Int) ≤ (n : Int)) = True := eq_true (by omega)
      have u1 : decide ((b : Int) ≤ (n : Int)) = true := by simp only [t1]; rfl
      clear d1 hb_
      go_wp2_with (fail)
      refine (ins_go fo w0 g n cap ok HG.out HN.out a b (by have := Eb.out; omega) HD1.out _ HJ.out.2.2.2 _ HO.out HB.out).mono ?_
      rintro e w2 ⟨rfl, hs2, ho2, hb2, hy2⟩
      (try refine ⟨_, rfl, ?_⟩)
      replace HO := Aside0.mk ho2; replace HB := Aside0.mk hb2; replace HY := Aside0.mk (HY.out.trans hy2)
      have HS2 := Aside0.mk hs2
      clear ho2 hb2 hy2 hs2
      have rb : wrap64 ((b : Int) + 20) = ((b + 20 : Nat) : Int) := by have := HD1.out; have := HN.out; unfold wrap64; omega
      go_wp2
      go_roundg (n - b)
      case measure => have := HJ.out; have := HD1.out; have := Eb.out; omega
      case rel => exact ⟨f, b, _, rfl, (by first | rfl | rw [rb] | simp [rb]), ⟨by have := HJ.out.1; have := HD1.out; have := Eb.out; omega, rfl, by have h1 := HJ.out.2.2.1; rw [St.stBl, if_pos (by have := Eb.out; have := HD1.out; omega), ← Eb.out] at h1; exact h1, HS2.out⟩, HO, HB, HY⟩
    · have HD1 := Aside0.mk d1
      have t1 : ((b : Int) ≤ (n : Int)) = False := eq_false (by omega)
      have u1 : decide ((b : Int) ≤ (n : Int)) = false := by simp only [t1]; rfl
      clear d1 hb_
      go_wp2_with (fail)
      refine (ins_go fo w0 g n cap ok HG.out HN.out a n (by have := HJ.out.1; omega) (Nat.le_refl _) _ HJ.out.2.2.2 _ HO.out HB.out).mono ?_
      rintro e w2 ⟨rfl, hs2, ho2, hb2, hy2⟩
      (try refine ⟨_, rfl, ?_⟩)
      replace HO := Aside0.mk ho2; replace HB := Aside0.mk hb2; replace HY := Aside0.mk (HY.out.trans hy2)
      have HS2 := Aside0.mk hs2
      clear ho2 hb2 hy2 hs2
      have HQ : Aside0 (St.insSort ltP (z30, 0) a n ys = St.stBl ltP (z30, 0) n (n + 1) 0 xs) := ⟨by have h1 := HJ.out.2.2.1; rw [St.stBl, if_neg (by have := Eb.out; have := HD1.out; omega)] at h1; exact h1⟩
      obtain ⟨zs, hzs⟩ : ∃ zs, zs = St.insSort ltP (z30, 0) a n ys := ⟨_, rfl⟩
      rw [← hzs] at HO HS2 HQ
      clear hzs t1 u1
      go_wp2
      go_loopg [6, 7, 8, 9] (n - 20) (fun gq v6 v7 v8 v9 w' => ∃ (f k : Nat) (ys : List (S30 × Nat)), v6 = .int .i64 (k : Int) ∧ Aside0 ((0 < k ∧ k ≤ 2 * n + 20 ∧ n < f + k) ∧ gq = n - k ∧ St.stPs ltP (z30, 0) n f k ys = St.stPs ltP (z30, 0) n n 20 zs ∧ SmL (ys)) ∧ Aside0 (Kd.R (Kd.tag fo k30) 30 w' w0.heap.size ok (.slice (some ⟨g, 0, none⟩) n cap) ys) ∧ Aside0 (Below w0.heap.size w0 w') ∧ Aside0 (Only g w w'))
      case atStart => exact ⟨n, 20, zs, rfl, ⟨by omega, rfl, rfl, HS2.out⟩, HO, HB, HY⟩
      case round =>
        clear HO HB HY HS2
        obtain ⟨f, k, ys, rfl, HK, HO, HB, HY⟩ := hrel
        by_cases d1 : k < n
        · obtain ⟨f, rfl⟩ : ∃ f', f = f' + 1 := ⟨f - 1, by have := HK.out.1; omega⟩
          have HD2 := Aside0.mk d1
          have t2 : ((k : Int) < (n : Int)) = True := eq_true (by omega)
          have u2 : decide ((k : Int) < (n : Int)) = true := by simp only [t2]; rfl
          clear d1
          obtain ⟨k2, hk2_⟩ : ∃ q : Nat, q = 2 * k := ⟨_, rfl⟩
          have Ek2 := Aside0.mk hk2_
          clear hk2_
          have r1 : wrap64 (2 * (k : Int)) = (k2 : Int) := by have := Ek2.out; have := HD2.out; have := HN.out; unfold wrap64; omega
          have r1b : wrap64 ((k : Int) * 2) = (k2 : Int) := by have := Ek2.out; have := HD2.out; have := HN.out; unfold wrap64; omega
          go_wp2
          clear t2 u2
          try rw [r1]
          have R1 := Aside0.mk r1; have R1B := Aside0.mk r1b
          clear r1 r1b
          go_loopg [7, 8] n (fun gq v7 v8 w' => ∃ (fm a : Nat) (vs : List (S30 × Nat)), v7 = .int .i64 (a : Int) ∧ v8 = .int .i64 ((a + k2 : Nat) : Int) ∧ Aside0 ((a ≤ n ∧ n - a < fm) ∧ gq = n - a ∧ St.stMg ltP (z30, 0) k n fm a vs = St.stMg ltP (z30, 0) k n (n + 1) 0 ys ∧ SmL (vs)) ∧ Aside0 (Kd.R (Kd.tag fo k30) 30 w' w0.heap.size ok (.slice (some ⟨g, 0, none⟩) n cap) vs) ∧ Aside0 (Below w0.heap.size w0 w') ∧ Aside0 (Only g w w'))
          case atStart => exact ⟨n + 1, 0, ys, rfl, (by rw [Nat.zero_add]), ⟨by omega, rfl, rfl, HK.out.2.2.2⟩, HO, HB, HY⟩
          case round =>
            clear HO HB HY
            obtain ⟨fm, a, vs, rfl, rfl, HJ, HO, HB, HY⟩ := hrel
            obtain ⟨fm, rfl⟩ : ∃ f', fm = f' + 1 := ⟨fm - 1, by have := HJ.out.1; omega⟩
            obtain ⟨b, hb_⟩ : ∃ q : Nat, q = a + k2 := ⟨_, rfl⟩
            rw [← hb_]
            have Eb := Aside0.mk hb_
            obtain ⟨mm, hmm_⟩ : ∃ q : Nat, q = a + k := ⟨_, rfl⟩
            have Emm := Aside0.mk hmm_
            clear hmm_
            have rm : wrap64 ((a : Int) + (k : Int)) = (mm : Int) := by have := Emm.out; have := HJ.out; have := HD2.out; have := HN.out; unfold wrap64; omega
            by_cases d1 : b ≤ n
            · have HD1 := Aside0.mk d1
              have t1 : ((b : Int) ≤ (n : Int)) = True := eq_true (by omega)
              have u1 : decide ((b : Int) ≤ (n : Int)) = true := by simp only [t1]; rfl
              clear d1 hb_
              go_wp2_with (fail)
              refine (sym_go fo w0 g n cap ok HG.out HN.out k2 a mm b (by have := Emm.out; have := Eb.out; have := Ek2.out; have := HK.out.1; have := HD1.out; omega) _ HJ.out.2.2.2 _ HO.out HB.out).mono ?_
              rintro e w2 ⟨rfl, hs2, ho2, hb2, hy2⟩
              (try refine ⟨_, rfl, ?_⟩)
              replace HO := Aside0.mk ho2; replace HB := Aside0.mk hb2; replace HY := Aside0.mk (HY.out.trans hy2)
              have HS2 := Aside0.mk hs2
              clear ho2 hb2 hy2 hs2
              have rb : wrap64 ((b : Int) + (k2 : Int)) = ((b + k2 : Nat) : Int) := by have := HD1.out; have := HN.out; have := Ek2.out; have := HD2.out; unfold wrap64; omega
              go_wp2
              go_roundg (n - b)
              case measure => have := HJ.out; have := HD1.out; have := Eb.out; have := Ek2.out; have := HK.out.1; omega
              case rel => exact ⟨fm, b, _, rfl, (by first | rfl | rw [R1.out, rb] | simp [R1.out, rb]), ⟨by have := HJ.out.1; have := HD1.out; have := Eb.out; have := Ek2.out; have := HK.out.1; omega, rfl, by have h1 := HJ.out.2.2.1; rw [St.stMg, if_pos (by have := Eb.out; have := Ek2.out; have := HD1.out; omega), ← Ek2.out, ← Emm.out, ← Eb.out] at h1; exact h1, HS2.out⟩, HO, HB, HY⟩
            · have HD1 := Aside0.mk d1
              have t1 : ((b : Int) ≤ (n : Int)) = False := eq_false (by omega)
              have u1 : decide ((b : Int) ≤ (n : Int)) = false := by simp only [t1]; rfl
              clear d1 hb_
              by_cases d3 : mm < n
              · have HD3 := Aside0.mk d3
                have t3 : ((mm : Int) < (n : Int)) = True := eq_true (by omega)
                have u3 : decide ((mm : Int) < (n : Int)) = true := by simp only [t3]; rfl
                clear d3
                go_wp2_with (fail)
                refine (sym_go fo w0 g n cap ok HG.out HN.out (n - a) a mm n (by have := Emm.out; have := HK.out.1; have := HD3.out; omega) _ HJ.out.2.2.2 _ HO.out HB.out).mono ?_
                rintro e w2 ⟨rfl, hs2, ho2, hb2, hy2⟩
                (try refine ⟨_, rfl, ?_⟩)
                replace HO := Aside0.mk ho2; replace HB := Aside0.mk hb2; replace HY := Aside0.mk (HY.out.trans hy2)
                have HS2 := Aside0.mk hs2
                clear ho2 hb2 hy2 hs2
                have HQ2 : Aside0 (St.symM ltP (z30, 0) (n - a) a mm n vs = St.stMg ltP (z30, 0) k n (n + 1) 0 ys) := ⟨by have h1 := HJ.out.2.2.1; rw [St.stMg, if_neg (by have := Eb.out; have := Ek2.out; have := HD1.out; omega), if_pos (by have := Emm.out; have := HD3.out; omega), ← Emm.out] at h1; exact h1⟩
                go_wp2
                go_roundg (n - k2)
                case measure => have := HK.out; have := HD2.out; have := Ek2.out; omega
                case rel => exact ⟨f, k2, _, (by first | rfl | rw [R1B.out] | simp [R1B.out]), ⟨by have := HK.out.1; have := HD2.out; have := Ek2.out; omega, rfl, by have h1 := HK.out.2.2.1; rw [St.stPs, if_pos HD2.out, ← Ek2.out, ← HQ2.out] at h1; exact h1, HS2.out⟩, HO, HB, HY⟩
              · have HD3 := Aside0.mk d3
                have t3 : ((mm : Int) < (n : Int)) = False := eq_false (by omega)
                have u3 : decide ((mm : Int) < (n : Int)) = false := by simp only [t3]; rfl
                clear d3
                have HQ2 : Aside0 (vs = St.stMg ltP (z30, 0) k n (n + 1) 0 ys) := ⟨by have h1 := HJ.out.2.2.1; rw [St.stMg, if_neg (by have := Eb.out; have := Ek2.out; have := HD1.out; omega), if_neg (by have := Emm.out; have := HD3.out; omega)] at h1; exact h1⟩
                go_wp2
                go_roundg (n - k2)
                case measure => have := HK.out; have := HD2.out; have := Ek2.out; omega
                case rel => exact ⟨f, k2, _, (by first | rfl | rw [R1B.out] | simp [R1B.out]), ⟨by have := HK.out.1; have := HD2.out; have := Ek2.out; omega, rfl, by have h1 := HK.out.2.2.1; rw [St.stPs, if_pos HD2.out, ← Ek2.out, ← HQ2.out] at h1; exact h1, HJ.out.2.2.2⟩, HO, HB, HY⟩
        · have HD2 := Aside0.mk d1
          have t2 : ((k : Int) < (n : Int)) = False := eq_false (by omega)
          have u2 : decide ((k : Int) < (n : Int)) = false := by simp only [t2]; rfl
          have hz : Aside0 (ys = (St.stPs ltP (z30, 0) n n 20 (St.stBl ltP (z30, 0) n (n + 1) 0 xs))) := ⟨by have h1 := HK.out.2.2.1; rw [HQ.out] at h1; rw [← h1]; cases f with | zero => rfl | succ f => rw [St.stPs, if_neg d1]⟩
          clear d1
          go_wp2
          (first | go_ret | go_end0 | refine bodyPost_ret (results_none rfl _ _ _) rfl ?_ | (try rw [Exit.noGoto_ret]; go_ret))
          exact ⟨rfl, by rw [← hz.out]; exact HK.out.2.2.2, by rw [← hz.out]; exact HO.out, HB.out, HY.out⟩
set_option maxHeartbeats 8000000 in
set_option maxRecDepth 100000 in
theorem ssf_go (fo : Nat → Nat) (w0 : World) (g n cap : Nat) (ok : Nat → Prop) (hg : w0.heap.size ≤ g) (hn : n ≤ 1048576)  (xs : List (S30 × Nat)) (hs : SmL (xs)) (w : World) (ho : Kd.R (Kd.tag fo k30) 30 w w0.heap.size ok (.slice (some ⟨g, 0, none⟩) n cap) xs) (hb : Below w0.heap.size w0 w) :
    Calls Try.prog 28 #[.slice (some ⟨g, 0, none⟩) n cap, .func (.func 22) #[] #[]] w fun e w' => e = .returned (.tuple #[]) ∧ (SmL (St.stable ltP (z30, 0) xs)) ∧ Kd.R (Kd.tag fo k30) 30 w' w0.heap.size ok (.slice (some ⟨g, 0, none⟩) n cap) (St.stable ltP (z30, 0) xs) ∧ Below w0.heap.size w0 w' ∧ Only g w w' := by
  have hl := (Kd.R_reads' ho).1
  have ht := sta_go fo w0 g n cap ok hg hn xs hs w ho hb
  have he : St.stable ltP (z30, 0) xs = (St.stPs ltP (z30, 0) n n 20 (St.stBl ltP (z30, 0) n (n + 1) 0 xs)) := by rw [hl]; rfl
  rw [← he] at ht
  clear he hl
  have HT := Aside0.mk ht
  clear ht ho hb hs hg hn
  go_enter Try.func28, Try.ntmps28
  go_wp2_with (fail)
  refine HT.out.mono ?_
  rintro e w2 ⟨rfl, hs2, ho2, hb2, hy2⟩
  (try refine ⟨_, rfl, ?_⟩)
  try go_wp2
  (first | go_ret | go_end0 | refine bodyPost_ret (results_none rfl _ _ _) rfl ?_ | (try rw [Exit.noGoto_ret]; go_ret))
  exact ⟨rfl, hs2, ho2, hb2, hy2⟩
theorem ins_nil (w : World) : Calls Try.prog 42 #[.slice none 0 0, .int .i64 0, .int .i64 0, .func (.func 22) #[] #[]] w fun e w' => e = .returned (.tuple #[]) ∧ w = w' := by
  go_enter Try.func42, Try.ntmps42
  go_wp2
  go_loopg [8, 9] 0 (fun gq v8 v9 w' => v8 = .int .i64 1 ∧ w = w')
  case atStart => exact ⟨by first | rfl | simp [wrap64] | decide, rfl⟩
  case round =>
    obtain ⟨rfl, rfl⟩ := hrel
    go_wp2
    (first | go_ret | go_end0 | refine bodyPost_ret (results_none rfl _ _ _) rfl ?_ | (try rw [Exit.noGoto_ret]; go_ret))
    exact ⟨rfl, rfl⟩
theorem sta_nil (w : World) : Calls Try.prog 38 #[.slice none 0 0, .int .i64 0, .func (.func 22) #[] #[]] w fun e w' => e = .returned (.tuple #[]) ∧ w = w' := by
  go_enter Try.func38, Try.ntmps38
  go_wp2
  go_loopg [7, 8] 0 (fun gq v7 v8 w' => v7 = .int .i64 0 ∧ v8 = .int .i64 20 ∧ w = w')
  case atStart => exact ⟨rfl, rfl, rfl⟩
  case round =>
    obtain ⟨rfl, rfl, rfl⟩ := hrel
    go_wp2_with (fail)
    refine (ins_nil _).mono ?_
    rintro e w2 ⟨rfl, rfl⟩
    (try refine ⟨_, rfl, ?_⟩)
    try go_wp2
    go_loopg [6, 7, 8, 9] 0 (fun gq v6 v7 v8 v9 w' => v6 = .int .i64 20 ∧ w = w')
    case atStart => exact ⟨rfl, rfl⟩
    case round =>
      obtain ⟨rfl, rfl⟩ := hrel
      go_wp2
      (first | go_ret | go_end0 | refine bodyPost_ret (results_none rfl _ _ _) rfl ?_ | (try rw [Exit.noGoto_ret]; go_ret))
      exact ⟨rfl, rfl⟩
theorem ssf_nil (w : World) : Calls Try.prog 28 #[.slice none 0 0, .func (.func 22) #[] #[]] w fun e w' => e = .returned (.tuple #[]) ∧ w = w' := by
  go_enter Try.func28, Try.ntmps28
  go_wp2_with (fail)
  refine (sta_nil _).mono ?_
  rintro e w2 ⟨rfl, rfl⟩
  (try refine ⟨_, rfl, ?_⟩)
  try go_wp2
  (first | go_ret | go_end0 | refine bodyPost_ret (results_none rfl _ _ _) rfl ?_ | (try rw [Exit.noGoto_ret]; go_ret))
  exact ⟨rfl, rfl⟩
theorem stable_nil : St.stable ltP (z30, 0) [] = [] := List.length_eq_zero_iff.1 (St.stable_ok ltP (z30, 0) ltP_ord []).1.length_eq
theorem ssf_R (fo : Nat → Nat) (w0 : World) (ok : Nat → Prop) {Ar : Option Addr} {n cap : Nat} (xs : List (S30 × Nat)) (hn : xs.length ≤ 1048576) (hs : SmL (xs)) (w : World) (ho : Kd.R (Kd.tag fo k30) 30 w w0.heap.size ok (.slice Ar n cap) xs) (hb : Below w0.heap.size w0 w) :
    Calls Try.prog 28 #[.slice Ar n cap, .func (.func 22) #[] #[]] w fun e w' => e = .returned (.tuple #[]) ∧ Kd.R (Kd.tag fo k30) 30 w' w0.heap.size ok (.slice Ar n cap) (St.stable ltP (z30, 0) xs) ∧ Below w0.heap.size w0 w' ∧ w.heap.size ≤ w'.heap.size ∧ ∀ k, some k ≠ (Value.slice Ar n cap).ownBlock → k < w.heap.size → w'.heap[k]? = w.heap[k]? := by
  have hl := (Kd.R_reads' ho).1
  obtain ⟨inner, hown⟩ := Kd.R_own ho
  rcases hown.2 with ⟨hv, hz⟩ | ⟨g, cap', cur, hv, hg, _⟩
  · injection hv with h1 h2 h3
    subst h1 h2 h3
    have : xs = [] := List.length_eq_zero_iff.1 hl.symm
    subst this
    refine (ssf_nil w).mono ?_
    rintro e w' ⟨rfl, rfl⟩
    exact ⟨rfl, by rw [stable_nil]; exact ho, hb, Nat.le_refl _, fun _ _ _ => rfl⟩
  · injection hv with h1 h2 h3
    subst h1 h3
    refine (ssf_go fo w0 g n _ ok hg (by omega) xs hs w ho hb).mono ?_
    rintro e w' ⟨rfl, _, ho2, hb2, hy⟩
    exact ⟨rfl, ho2, hb2, hy.1, fun k hk hlt => hy.2 k hlt (fun e => hk (by rw [e]; simp [Value.ownBlock]))⟩
open Classical in
/-- The sort of a row whose elements are small, and that is not too long; none else. -/
noncomputable def srt (xs : List S30) : Option (List S30) := if (∀ x ∈ xs, SmValue x) ∧ xs.length ≤ 1048576 then some (St.stable ltT z30 xs) else none
theorem srt_some {xs ys : List S30} (h : srt xs = some ys) : (∀ x ∈ xs, SmValue x) ∧ xs.length ≤ 1048576 ∧ ys = St.stable ltT z30 xs := by
  unfold srt at h
  by_cases c : (∀ x ∈ xs, SmValue x) ∧ xs.length ≤ 1048576
  · rw [if_pos c] at h
    exact ⟨c.1, c.2, (Option.some.inj h).symm⟩
  · rw [if_neg c] at h
    cases h
theorem srt_eq {xs : List S30} (h1 : ∀ x ∈ xs, SmValue x) (h2 : xs.length ≤ 1048576) : srt xs = some (St.stable ltT z30 xs) := by unfold srt; rw [if_pos ⟨h1, h2⟩]
end Go.Proofs.Ytonimhfahjediaa.Pk
end
section
namespace Go.Proofs.Ytonimhfahjediaa.Pk
open Go.RowKit Go.Proofs.YtonimhfahjediaaW.PrintWords Go.Proofs.YtonimhfahjediaaW.PrintLast Go.Proofs.Ytonimhfahjediaa.Pl Go.Proofs.Ytonimhfahjediaa.Ext
set_option linter.unusedVariables false
set_option linter.unusedSimpArgs false
/-- A row that is read, whose elements are made (their blocks, and the row's own, are ok). -/
def Sl {α : Type} (d : Kd α) (w : World) (base : Nat) (ok : Nat → Prop) (v : Value) (xs : List α) : Prop :=
  ∃ (A : Option Addr) (c : Nat), v = .slice A xs.length c ∧ xs.length ≤ c ∧ (∀ ad, A = some ad → ok ad.block ∧ ad.block < w.heap.size) ∧ ReadsRow (fun x cs => d.M w base ok x cs) d.sz w A xs.length xs
section
variable {α : Type} {d : Kd α} {e : Nat} {w w1 : World} {base : Nat} {ok ok' : Nat → Prop} {v u : Value} {xs : List α}
theorem Sl_of_R (h : d.R e w base ok v xs) : Sl d w base ok v xs := by
  have hlt := Kd.R_lt h
  obtain ⟨hok, hown⟩ := h
  obtain ⟨A, c, he, hl, hr⟩ := OwnRow.reads hown
  subst he
  exact ⟨A, c, rfl, hl, fun ad ha => by subst ha; exact ⟨hok _ (by simp [Value.ownBlock]), hlt _ (by simp [Value.ownBlock])⟩, hr.imp_ (Below.refl _ _) (fun _ _ hp => d.M_mono (fun _ hk => hk.1) hp)⟩
theorem Sl_mono (h : Sl d w base ok v xs) (hok : ∀ k, ok k → ok' k) : Sl d w base ok' v xs := by
  obtain ⟨A, c, he, hl, hA, hr⟩ := h
  exact ⟨A, c, he, hl, fun ad ha => ⟨hok _ (hA ad ha).1, (hA ad ha).2⟩, hr.imp_ (Below.refl _ _) (fun _ _ hp => d.M_mono hok hp)⟩
theorem Sl_bound (h : Sl d w base ok v xs) : Sl d w base (fun k => ok k ∧ k < w.heap.size) v xs := by
  obtain ⟨A, c, he, hl, hA, hr⟩ := h
  exact ⟨A, c, he, hl, fun ad ha => ⟨hA ad ha, (hA ad ha).2⟩, hr.imp_ (Below.refl _ _) (fun _ _ hp => d.M_mono (fun _ hk => ⟨hk.1, hk.2.2.1⟩) (d.M_bound hp))⟩
theorem Sl_step (h : Sl d w base ok v xs) (hs : w.heap.size ≤ w1.heap.size) (hm : ∀ k, ok k → k < w.heap.size → w1.heap[k]? = w.heap[k]?) : Sl d w1 base ok v xs := by
  obtain ⟨A, c, he, hl, hA, hr⟩ := h
  refine ⟨A, c, he, hl, fun ad ha => ⟨(hA ad ha).1, Nat.lt_of_lt_of_le (hA ad ha).2 hs⟩, hr.1, hr.2.1, fun hn => ?_⟩
  obtain ⟨ad, ha, hc⟩ := hr.2.2 hn
  refine ⟨ad, ha, fun j p hj => ?_⟩
  obtain ⟨cs, h1, h2, h3⟩ := hc j p hj
  refine ⟨cs, h1, Kd.M_step h2 hm, fun i u hu => ?_⟩
  refine (World.cell?_of_block (w := w) (w' := w1) ?_).trans (h3 i u hu)
  rw [add_block]
  exact hm _ (hA ad ha).1 (hA ad ha).2
theorem Sl_below (h : Sl d w base ok v xs) (hb : Below w.heap.size w w1) : Sl d w1 base ok v xs := Sl_step h hb.size (fun k _ hk => hb.block k hk)
theorem Sl_drew (h : Sl d w base ok v xs) : Sl d w.drew base ok v xs := Sl_below h (below_drew1 (Below.refl _ _))
theorem Sl_grown (h : Sl d w base ok v xs) {row : Option Nat} (hg : w.grownBy w1 row) (hok : ∀ k, ok k → some k ≠ row) : Sl d w1 base ok v xs := Sl_step h hg.size (fun k ho hk => hg.block k hk (hok k ho))
/-- A block that is new is none of ours. -/
theorem Sl_new (h : Sl d w base ok v xs) (hs : w.heap.size ≤ w1.heap.size) (hm : ∀ k, k < w.heap.size → w1.heap[k]? = w.heap[k]?) (hu : ∀ b, u.ownBlock = some b → w.heap.size ≤ b) : Sl d w1 base (fun k => ok k ∧ some k ≠ u.ownBlock) v xs :=
  Sl_mono (Sl_step (Sl_bound h) hs (fun k _ hk => hm k hk)) (fun k hk => ⟨hk.1, fun e => by have := hu k e.symm; omega⟩)
/-- The row that is appended to has turned: what was apart from it stays so. -/
theorem Sl_turned (h : Sl d w base (fun k => ok k ∧ some k ≠ u.ownBlock) v xs) {u1 : Value} (hg : w.grownBy w1 u.ownBlock) (hat : u1.ownBlock = u.ownBlock ∨ ∃ b, u1.ownBlock = some b ∧ w.heap.size ≤ b) : Sl d w1 base (fun k => ok k ∧ some k ≠ u1.ownBlock) v xs :=
  Sl_mono (Sl_grown (Sl_bound h) hg (fun _ hk => hk.1.2)) (fun k hk => ⟨hk.1.1, by
    rcases hat with hat | ⟨b, hb, hle⟩
    · rw [hat]; exact hk.1.2
    · rw [hb]
      intro e
      injection e with e
      have := hk.2
      omega⟩)
theorem Sl_form (h : Sl d w base ok v xs) : ∃ A c, v = .slice A xs.length c ∧ xs.length ≤ c ∧ ReadsRow (fun x cs => d.M w base ok x cs) d.sz w A xs.length xs := by
  obtain ⟨A, c, he, hl, _, hr⟩ := h
  exact ⟨A, c, he, hl, hr⟩
variable {A : Option Addr} {n c m : Nat}
theorem Sl_rows (h : Sl d w base ok (.slice A n c) xs) : n = xs.length ∧ n ≤ c ∧ ReadsRow (fun x cs => d.M w base ok x cs) d.sz w A n xs := by
  obtain ⟨A', c', he, hl, _, hr⟩ := h
  injection he with h1 h2 h3
  subst h1 h2 h3
  exact ⟨rfl, hl, hr⟩
theorem Sl_take (h : Sl d w base ok (.slice A n c) xs) (hm : m ≤ n) : Sl d w base ok (.slice A m c) (xs.take m) := by
  obtain ⟨A', c', he, hl, hA, hr⟩ := h
  injection he with h1 h2 h3
  subst h1 h2 h3
  have hlm : (xs.take m).length = m := by rw [List.length_take]; omega
  refine ⟨A, c, by rw [hlm], by omega, hA, rfl, by rw [hlm]; have := hr.2.1; omega, fun hp => ?_⟩
  obtain ⟨ad, ha, hc⟩ := hr.2.2 (by omega)
  refine ⟨ad, ha, fun j p hj => hc j p ?_⟩
  rw [List.getElem?_take] at hj
  split at hj
  · exact hj
  · cases hj
theorem Sl_drop (h : Sl d w base ok (.slice A n c) xs) (hm : m ≤ n) : Sl d w base ok (.slice (if c = m then A else A.map (·.add (m * d.sz))) (n - m) (c - m)) (xs.drop m) := by
  obtain ⟨A', c', he, hl, hA, hr⟩ := h
  injection he with h1 h2 h3
  subst h1 h2 h3
  have hlm : (xs.drop m).length = xs.length - m := List.length_drop
  refine ⟨_, c - m, by rw [hlm], by omega, fun ad ha => ?_, rfl, by rw [hlm]; have := hr.2.1; omega, fun hp => ?_⟩
  · by_cases hc : c = m
    · rw [if_pos hc] at ha
      exact hA ad ha
    · rw [if_neg hc] at ha
      obtain ⟨a0, ha0, rfl⟩ := Option.map_eq_some_iff.1 ha
      rw [add_block]
      exact hA a0 ha0
  · rw [hlm] at hp
    obtain ⟨ad, rfl, hcell⟩ := hr.2.2 (by omega)
    rw [if_neg (by omega)]
    refine ⟨ad.add (m * d.sz), rfl, fun j p hj => ?_⟩
    rw [List.getElem?_drop] at hj
    obtain ⟨cs, h1, h2, h3⟩ := hcell (m + j) p hj
    refine ⟨cs, h1, h2, fun i u hu => ?_⟩
    rw [add_add, show m * d.sz + (j * d.sz + i) = (m + j) * d.sz + i by rw [Nat.add_mul]; omega]
    exact h3 i u hu
/-- The first element of a row that isn't empty. -/
theorem Sl_head {x : α} {r : List α} (h : Sl d w base ok (.slice A n c) (x :: r)) : ∃ ad cs, A = some ad ∧ cs.length = d.sz ∧ d.M w base ok x cs ∧ ∀ i u, cs[i]? = some u → w.cell? (ad.add i) = some u := by
  obtain ⟨hn, _, hr⟩ := Sl_rows h
  obtain ⟨ad, ha, hc⟩ := hr.2.2 (by rw [hn]; simp)
  obtain ⟨cs, h1, h2, h3⟩ := hc 0 x rfl
  exact ⟨ad, cs, ha, h1, h2, fun i u hu => by have := h3 i u hu; rwa [Nat.zero_mul, Nat.zero_add] at this⟩
end
/-- The merge of two rows: where neither comes first, the first row's element does. -/
def mg : List (S30 × Nat) → List (S30 × Nat) → List (S30 × Nat)
  | [], b => b
  | x :: a, [] => x :: a
  | x :: a, y :: b => if cmT y.1 x.1 < 0 then y :: mg (x :: a) b else x :: mg a (y :: b)
termination_by a b => a.length + b.length
theorem mg_nil (a : List (S30 × Nat)) : mg a [] = a := by cases a <;> simp [mg]
theorem mg_nil' (b : List (S30 × Nat)) : mg [] b = b := by simp [mg]
theorem mg_yes {x y : S30 × Nat} {a b : List (S30 × Nat)} (h : cmT y.1 x.1 < 0) : mg (x :: a) (y :: b) = y :: mg (x :: a) b := by rw [mg, if_pos h]
theorem mg_no {x y : S30 × Nat} {a b : List (S30 × Nat)} (h : ¬ cmT y.1 x.1 < 0) : mg (x :: a) (y :: b) = x :: mg a (y :: b) := by rw [mg, if_neg h]
theorem mg_ok : ∀ (n : Nat) (a b : List (S30 × Nat)), a.length + b.length ≤ n → List.Perm (mg a b) (a ++ b) ∧ (St.Asc ltP a → St.Asc ltP b → St.Asc ltP (mg a b))
  | _, [], b, _ => by rw [mg_nil']; exact ⟨List.Perm.refl _, fun _ h => h⟩
  | _, x :: a, [], _ => by rw [mg_nil, List.append_nil]; exact ⟨List.Perm.refl _, fun h _ => h⟩
  | 0, x :: a, y :: b, h => by simp at h
  | n + 1, x :: a, y :: b, h => by
    simp only [List.length_cons] at h
    by_cases c : cmT y.1 x.1 < 0
    · rw [mg_yes c]
      obtain ⟨h1, h2⟩ := mg_ok n (x :: a) b (by simp only [List.length_cons]; omega)
      refine ⟨(List.Perm.cons y h1).trans List.perm_middle.symm, fun hA hB => ?_⟩
      have hB' := List.pairwise_cons.1 hB
      have hA' := List.pairwise_cons.1 hA
      refine List.pairwise_cons.2 ⟨fun z hz => ?_, h2 hA hB'.2⟩
      have hyx : ltP x y = false := ltP_ord.asymm y x (by simp [ltP, ltT, c])
      rcases List.mem_append.1 (h1.mem_iff.1 hz) with hz | hz
      · rcases List.mem_cons.1 hz with rfl | hz
        · exact hyx
        · exact ltP_ord.trans y x z hyx (hA'.1 z hz)
      · exact hB'.1 z hz
    · rw [mg_no c]
      obtain ⟨h1, h2⟩ := mg_ok n a (y :: b) (by simp only [List.length_cons]; omega)
      refine ⟨List.Perm.cons x h1, fun hA hB => ?_⟩
      have hB' := List.pairwise_cons.1 hB
      have hA' := List.pairwise_cons.1 hA
      refine List.pairwise_cons.2 ⟨fun z hz => ?_, h2 hA'.2 hB⟩
      have hyx : ltP y x = false := by simp [ltP, ltT]; omega
      rcases List.mem_append.1 (h1.mem_iff.1 hz) with hz | hz
      · exact hA'.1 z hz
      · rcases List.mem_cons.1 hz with rfl | hz
        · exact hyx
        · exact ltP_ord.trans x y z hyx (hB'.1 z hz)
end Go.Proofs.Ytonimhfahjediaa.Pk
end
section
namespace Go.Proofs.Ytonimhfahjediaa.Pk
open Go.RowKit Go.Proofs.YtonimhfahjediaaW.PrintWords Go.Proofs.YtonimhfahjediaaW.PrintLast Go.Proofs.YtonimhfahjediaaW.PrintMore Go.Proofs.Ytonimhfahjediaa.Pl Go.Proofs.Ytonimhfahjediaa.Ext
set_option linter.unusedVariables false
set_option linter.unusedSimpArgs false
theorem specCmp_ev (x y : S30) (hx : SmValue x) (hy : SmValue y) : Ev (fun k => spec_CompareValues.f k x.f0 x.f1 x.f2 x.f3 y.f0 y.f1 y.f2 y.f3) (cmT x y) := by
  obtain ⟨r, ⟨K1, h1⟩, ⟨K2, h2⟩⟩ := CompareValues_same_ x y hx hy
  obtain ⟨K3, h3⟩ := CompareValues_ev x y hx hy
  have e : r = cmT x y := Option.some.inj ((h2 (max K2 K3) (Nat.le_max_left _ _)).symm.trans (h3 (max K2 K3) (Nat.le_max_right _ _)))
  exact ⟨K1, fun k hk => by rw [h1 k hk, e]⟩
theorem cut_h (Ar : Option Addr) (n c h : Nat) (hh : h ≤ n) (hc : n ≤ c) : ∀ W : World, (Instr.slice 28 (.slice Ar n c) none (some (.int .i64 (h : Int))) none).run Try.prog W = .ok (.slice Ar h c) W := by
  obtain ⟨i0, hi0, _, hsz, _⟩ := info_parts info30
  have := cut_to (P := Try.prog) 28 30 .i64 Try.underlying28 hi0 Ar n c (h : Int) (by omega) (by omega) hc
  simpa using this
theorem cut_d (fo : Nat → Nat) (Ar : Option Addr) (n c m : Nat) (hm : m ≤ n) : ∃ Ar' c', (∀ (w : World) (base : Nat) (ok : Nat → Prop) (xs : List (S30 × Nat)), Sl (Kd.tag fo k30) w base ok (.slice Ar n c) xs → Sl (Kd.tag fo k30) w base ok (.slice Ar' (n - m) c') (xs.drop m)) ∧ ∀ W : World, (Instr.slice 28 (.slice Ar n c) (some (.int .i64 (m : Int))) none none).run Try.prog W = .ok (.slice Ar' (n - m) c') W := by
  obtain ⟨i0, hi0, _, hsz, _⟩ := info_parts info30
  have hc := cut_from (P := Try.prog) 28 30 .i64 Try.underlying28 hi0 4 hsz Ar n c (m : Int) (by omega) (by omega)
  simp only [Int.toNat_natCast] at hc
  exact ⟨_, _, fun _ _ _ _ h => Sl_drop h hm, hc⟩
theorem cut_1 (fo : Nat → Nat) (Ar : Option Addr) (n c : Nat) (hm : 1 ≤ n) : ∃ Ar' c', (∀ (w : World) (base : Nat) (ok : Nat → Prop) (xs : List (S30 × Nat)), Sl (Kd.tag fo k30) w base ok (.slice Ar n c) xs → Sl (Kd.tag fo k30) w base ok (.slice Ar' (n - 1) c') (xs.drop 1)) ∧ ∀ W : World, (Instr.slice 28 (.slice Ar n c) (some (.int .i64 1)) none none).run Try.prog W = .ok (.slice Ar' (n - 1) c') W := by
  obtain ⟨A', c', h1, h2⟩ := cut_d fo Ar n c 1 hm
  exact ⟨A', c', h1, h2⟩
theorem own_hat {w W : World} {v v1 : Value} (h : ∀ k, v.ownBlock = some k → w.heap.size ≤ k) (hs : w.heap.size ≤ W.heap.size) (hat : v1.ownBlock = v.ownBlock ∨ ∃ b, v1.ownBlock = some b ∧ W.heap.size ≤ b) : ∀ k, v1.ownBlock = some k → w.heap.size ≤ k := by
  rcases hat with hat | ⟨b, hb, hle⟩
  · rw [hat]; exact h
  · intro k hk
    rw [hb] at hk
    injection hk with hk
    omega
theorem own_new {w W : World} {v : Value} (hs : w.heap.size ≤ W.heap.size) (hat : ∃ b, v.ownBlock = some b ∧ W.heap.size ≤ b) : (∀ k, v.ownBlock = some k → W.heap.size ≤ k) ∧ ∀ k, v.ownBlock = some k → w.heap.size ≤ k := by
  obtain ⟨b, hb, hle⟩ := hat
  refine ⟨fun k hk => ?_, fun k hk => ?_⟩ <;> (rw [hb] at hk; injection hk with hk; omega)
theorem l5_small (fo : Nat → Nat) (w0 : World) (ok : Nat → Prop) (xs : List (S30 × Nat)) (h2 : xs.length < 2) (v : Value) (w : World) (ho : Kd.R (Kd.tag fo k30) 30 w w0.heap.size ok v xs) : Calls Try.prog 26 #[v] w fun e w' => e = .returned v ∧ w = w' := by
  obtain ⟨Ar, c, rfl⟩ := Kd.R_slice ho
  clear ho
  obtain ⟨n, hn⟩ : ∃ n, n = xs.length := ⟨_, rfl⟩
  rw [← hn] at h2 ⊢
  have r1 : ((n : Int) < 2) = True := eq_true (by omega)
  have r2 : decide ((n : Int) < 2) = true := by simp only [r1]; rfl
  clear hn h2
  go_enter Try.func26, Try.ntmps26
  go_wp2
  go_ret
  exact ⟨rfl, rfl⟩
def tabL5.T7 : Bool × List (List Nat × List Nat) := (true, [([], []), ([0], [0]), ([1], [1]), ([], []), ([3], [3]), ([4], [4]), ([2, 5], [2, 5]), ([6], [6])])
def tabL5.B7 : List Nat := [0, 1, 3, 0, 8, 24, 63, 127]
theorem tabL5.tab7 : rtab .any (opsOf Try.f26 7) = tabL5.T7 := by kernel_rfl
theorem tabL5.bits7 : waitsOk tabL5.T7.2 tabL5.B7 = true := by kernel_rfl
set_option maxHeartbeats 8000000 in
set_option maxRecDepth 100000 in
theorem l5_big (fo : Nat → Nat) (w0 : World) (ok : Nat → Prop) (m : Nat) (ih : ∀ (xs : List (S30 × Nat)), xs.length ≤ m → xs.length ≤ 1048576 → (SmL (xs)) → ∀ (v : Value) (w : World), Kd.R (Kd.tag fo k30) 30 w w0.heap.size ok v xs → Below w0.heap.size w0 w → (∀ k, w.heap.size ≤ k → ok k) → Calls Try.prog 26 #[v] w fun e w' => ∃ v' ys, e = .returned v' ∧ Kd.R (Kd.tag fo k30) 30 w' w0.heap.size ok v' ys ∧ (List.Perm ys xs ∧ St.Asc ltP ys) ∧ Below w.heap.size w w') (xs : List (S30 × Nat)) (hm : xs.length ≤ m + 1) (h2 : 2 ≤ xs.length) (hn : xs.length ≤ 1048576) (hs : SmL (xs)) (v : Value) (w : World) (ho : Kd.R (Kd.tag fo k30) 30 w w0.heap.size ok v xs) (hb : Below w0.heap.size w0 w) (hf : ∀ k, w.heap.size ≤ k → ok k) :
    Calls Try.prog 26 #[v] w fun e w' => ∃ v' ys, e = .returned v' ∧ Kd.R (Kd.tag fo k30) 30 w' w0.heap.size ok v' ys ∧ (List.Perm ys xs ∧ St.Asc ltP ys) ∧ Below w.heap.size w w' := by
  have SX := Aside0.mk (Sl_of_R ho)
  have hroom := (fun (A : Option Addr) (n c : Nat) (e : v = .slice A n c) => (Kd.R_reads' (e ▸ ho)).2.1)
  obtain ⟨Ar, c, rfl⟩ := Kd.R_slice ho
  replace hroom := hroom _ _ _ rfl
  obtain ⟨n, hn_⟩ : ∃ n, n = xs.length := ⟨_, rfl⟩
  rw [← hn_] at SX hroom ⊢
  have HRM := Aside0.mk hroom; have EN := Aside0.mk hn_; have IH := Aside0.mk ih; have HM := Aside0.mk hm; have H2 := Aside0.mk h2; have HN := Aside0.mk hn; have HS := Aside0.mk hs; have HB := Aside0.mk hb; have HF := Aside0.mk hf; have HW := Aside0.mk (Below.refl w.heap.size w)
  clear hroom hn_ ih hm h2 hn hs hb hf ho
  obtain ⟨h, hh_⟩ : ∃ q : Nat, q = n / 2 := ⟨_, rfl⟩
  have Eh := Aside0.mk hh_
  clear hh_
  have HH : Aside0 (0 < h ∧ h < n ∧ n = xs.length ∧ h ≤ m ∧ n - h ≤ m ∧ n ≤ 1048576) := ⟨by have := Eh.out; have := H2.out; have := HM.out; have := EN.out; have := HN.out; omega⟩
  have hcut1 := cut_h Ar n c h (by have := HH.out; omega) HRM.out
  obtain ⟨A2, c2, hS2, hcut2⟩ := cut_d fo Ar n c h (by have := HH.out; omega)
  have HS2 := Aside0.mk hS2
  clear hS2
  obtain ⟨n2, hn2⟩ : ∃ q, q = n - h := ⟨_, rfl⟩
  rw [← hn2] at HS2 hcut2
  have EN2 := Aside0.mk hn2
  clear hn2
  have r1 : ((n : Int) < 2) = False := eq_false (by have := H2.out; have := EN.out; omega)
  have r2 : decide ((n : Int) < 2) = false := by simp only [r1]; rfl
  have r3 : wrap64 ((n : Int) / 2) = (h : Int) := by have := Eh.out; have := HH.out; unfold wrap64; omega
  go_enter Try.func26, Try.ntmps26
  go_upto_region 3 with (fail)
  clear r1 r2
  go_wp2_with (first | ((with_reducible refine gate_dst (N := 10) rfl ?_); refine Kd.R_lit (Kd.tag fo k30) (w0 := w0) w0.heap.size 30 ?hg (N := 10) ?hd (xs := ([] : List (S30 × Nat))) (inner := []) (ok := ok) (okp := fun _ => False) ?hr ?hp (fun _ hk => hk.elim) (HF.out _ (below_size HW.out)) HB.out (below_size HB.out) (by simp) ?_; (case hd => rfl); (case hg => rfl); (case hr => first | (go_simp; done) | (go_simp; rfl)); (case hp => exact (Reps.none _ _)); intro v10 w10 ho hb hg hat; have hn := own_new (below_size HW.out) hat; replace SX := Aside0.mk (Sl_new SX.out hg.size (fun k hk => hg.block k hk (by simp)) hn.1); have HO := Aside0.mk ho; have G := Aside0.mk hn.2; replace HW := Aside0.mk (pw_below_grown HW.out none (below_size HW.out) hg (fun _ q => nomatch q)); replace HB := Aside0.mk hb; clear ho hb hg hat hn) | ((with_reducible refine gate_builtin (b := .append) (xs := #[.tmp 10, .tmp 15]) rfl ?_); at_builtin; have hR_ := Sl_rows (Sl_take SX.out (m := h) (by have := HH.out; omega)); refine Kd.R_append_rows (Kd.tag fo k30) (w0 := w0) w0.heap.size rfl (.tmp 10) (.tmp 15) 28 30 (.agg #[(.int .i64 0), (.int .i64 0), (.slice none 0 0), (.slice none 0 0)]) 64 rfl Try.underlying28 info30 rfl (by show 0 < 4; decide) (by omega) _ ([] : List (S30 × Nat)) (xs.take h) Ar h c ok _ rfl rfl HO.out hR_.2.2 (fun _ _ h => h) (fun _ hk => hk) (fun k hk => HF.out k (Nat.le_trans (below_size HW.out) hk)) HB.out (below_size HB.out) (by have := HH.out; have := EN2.out; simp only [List.length_nil]; omega) ?_; intro v16 w16 ho hb hg hat; clear hR_; replace SX := Aside0.mk (Sl_turned SX.out hg hat); replace HO := Aside0.mk ho; replace HB := Aside0.mk hb; have G_ := Aside0.mk (own_hat G.out (below_size HW.out) hat); replace HW := Aside0.mk (pw_below_grown HW.out _ (below_size HW.out) hg G.out); clear G; have G := G_; clear G_ ho hb hg hat))
  rw [List.nil_append] at HO
  replace SX := Aside0.mk (Sl_mono SX.out (fun k hk => hk.1))
  refine (IH.out (xs.take h) (by have := HH.out; rw [List.length_take]; omega) (by have := HH.out; rw [List.length_take]; omega) (fun x hx => HS.out x (List.mem_of_mem_take hx)) v16 _ HO.out HB.out (fun k hk => HF.out k (Nat.le_trans (below_size HW.out) hk))).mono ?_
  rintro e w17 ⟨v17, la0, rfl, ho2, pa, hb2⟩
  (try refine ⟨_, rfl, ?_⟩)
  have SA := Aside0.mk (Sl_of_R ho2)
  replace SX := Aside0.mk (Sl_below SX.out hb2)
  replace HB := Aside0.mk (below_step HB.out hb2)
  replace HW := Aside0.mk (below_step HW.out hb2)
  clear HO G ho2 hb2 hcut1
  go_wp2_with (first | ((with_reducible refine gate_dst (N := 18) rfl ?_); refine Kd.R_lit (Kd.tag fo k30) (w0 := w0) w0.heap.size 30 ?hg (N := 18) ?hd (xs := ([] : List (S30 × Nat))) (inner := []) (ok := ok) (okp := fun _ => False) ?hr ?hp (fun _ hk => hk.elim) (HF.out _ (below_size HW.out)) HB.out (below_size HB.out) (by simp) ?_; (case hd => rfl); (case hg => rfl); (case hr => first | (go_simp; done) | (go_simp; rfl)); (case hp => exact (Reps.none _ _)); intro v18 w18 ho hb hg hat; have hn := own_new (below_size HW.out) hat; replace SX := Aside0.mk (Sl_new SX.out hg.size (fun k hk => hg.block k hk (by simp)) hn.1); replace SA := Aside0.mk (Sl_new SA.out hg.size (fun k hk => hg.block k hk (by simp)) hn.1); have HO := Aside0.mk ho; have G := Aside0.mk hn.2; replace HW := Aside0.mk (pw_below_grown HW.out none (below_size HW.out) hg (fun _ q => nomatch q)); replace HB := Aside0.mk hb; clear ho hb hg hat hn) | ((with_reducible refine gate_builtin (b := .append) (xs := #[.tmp 18, .tmp 23]) rfl ?_); at_builtin; have hR_ := Sl_rows (HS2.out _ _ _ _ SX.out); refine Kd.R_append_rows (Kd.tag fo k30) (w0 := w0) w0.heap.size rfl (.tmp 18) (.tmp 23) 28 30 (.agg #[(.int .i64 0), (.int .i64 0), (.slice none 0 0), (.slice none 0 0)]) 64 rfl Try.underlying28 info30 rfl (by show 0 < 4; decide) (by omega) _ ([] : List (S30 × Nat)) (xs.drop h) A2 n2 c2 ok _ rfl rfl HO.out hR_.2.2 (fun _ _ h => h) (fun _ hk => hk) (fun k hk => HF.out k (Nat.le_trans (below_size HW.out) hk)) HB.out (below_size HB.out) (by have := HH.out; have := EN2.out; simp only [List.length_nil]; omega) ?_; intro v24 w24 ho hb hg hat; clear hR_; replace SX := Aside0.mk (Sl_turned SX.out hg hat); replace SA := Aside0.mk (Sl_turned SA.out hg hat); replace HO := Aside0.mk ho; replace HB := Aside0.mk hb; have G_ := Aside0.mk (own_hat G.out (below_size HW.out) hat); replace HW := Aside0.mk (pw_below_grown HW.out _ (below_size HW.out) hg G.out); clear G; have G := G_; clear G_ ho hb hg hat))
  rw [List.nil_append] at HO
  replace SX := Aside0.mk (Sl_mono SX.out (fun k hk => hk.1)); replace SA := Aside0.mk (Sl_mono SA.out (fun k hk => hk.1))
  refine (IH.out (xs.drop h) (by have := HH.out; rw [List.length_drop]; omega) (by have := HH.out; rw [List.length_drop]; omega) (fun x hx => HS.out x (List.mem_of_mem_drop hx)) v24 _ HO.out HB.out (fun k hk => HF.out k (Nat.le_trans (below_size HW.out) hk))).mono ?_
  rintro e w25 ⟨v25, lb0, rfl, ho2, pb, hb2⟩
  (try refine ⟨_, rfl, ?_⟩)
  have SB := Aside0.mk (Sl_of_R ho2)
  replace SA := Aside0.mk (Sl_below SA.out hb2)
  replace HB := Aside0.mk (below_step HB.out hb2)
  replace HW := Aside0.mk (below_step HW.out hb2)
  clear HO G ho2 hb2 hcut2 HS2 SX
  have l1 := pa.1.length_eq; have l2 := pb.1.length_eq
  have s1 : SmL (la0) := fun x hx => HS.out x (List.mem_of_mem_take (pa.1.mem_iff.1 hx))
  have s2 : SmL (lb0) := fun x hx => HS.out x (List.mem_of_mem_drop (pb.1.mem_iff.1 hx))
  have hm := mg_ok _ la0 lb0 (Nat.le_refl _)
  have HPA : Aside0 (List.Perm (mg la0 lb0) xs ∧ St.Asc ltP (mg la0 lb0)) := ⟨⟨hm.1.trans (by have := List.Perm.append pa.1 pb.1; rwa [List.take_append_drop] at this), hm.2 pa.2 pb.2⟩⟩
  clear hm pa pb
  rw [List.length_take] at l1; rw [List.length_drop] at l2
  obtain ⟨Aa0, ca0, rfl, _, _⟩ := Sl_form SA.out
  obtain ⟨Ab0, cb0, rfl, _, _⟩ := Sl_form SB.out
  obtain ⟨p0, hp0⟩ : ∃ q, q = la0.length := ⟨_, rfl⟩
  obtain ⟨q0, hq0⟩ : ∃ q, q = lb0.length := ⟨_, rfl⟩
  rw [← hp0] at SA ⊢; rw [← hq0] at SB ⊢
  have HL0 : Aside0 (p0 = la0.length ∧ q0 = lb0.length ∧ la0.length + lb0.length = xs.length ∧ (SmL (la0)) ∧ (SmL (lb0))  ∧ True) := ⟨⟨hp0, hq0, by have := HH.out; omega, s1, s2, trivial⟩⟩
  clear l1 l2 s1 s2 hp0 hq0 r3
  go_wp2_with (first | ((with_reducible refine gate_dst (N := 26) rfl ?_); refine Kd.R_lit (Kd.tag fo k30) (w0 := w0) w0.heap.size 30 ?hg (N := 26) ?hd (xs := ([] : List (S30 × Nat))) (inner := []) (ok := ok) (okp := fun _ => False) ?hr ?hp (fun _ hk => hk.elim) (HF.out _ (below_size HW.out)) HB.out (below_size HB.out) (by simp) ?_; (case hd => rfl); (case hg => rfl); (case hr => first | (go_simp; done) | (go_simp; rfl)); (case hp => exact (Reps.none _ _)); intro v26 w26 ho hb hg hat; have hn := own_new (below_size HW.out) hat; replace SA := Aside0.mk (Sl_new SA.out hg.size (fun k hk => hg.block k hk (by simp)) hn.1); replace SB := Aside0.mk (Sl_new SB.out hg.size (fun k hk => hg.block k hk (by simp)) hn.1); have HO := Aside0.mk ho; have G := Aside0.mk hn.2; replace HW := Aside0.mk (pw_below_grown HW.out none (below_size HW.out) hg (fun _ q => nomatch q)); replace HB := Aside0.mk hb; clear ho hb hg hat hn))
  go_loopg [3, 4, 5] (p0 + q0) (fun gq v3 v4 v5 w' => ∃ (Aa : Option Addr) (p ca : Nat) (Ab : Option Addr) (q cb : Nat) (la lb acc : List (S30 × Nat)), v3 = .slice Aa p ca ∧ v4 = .slice Ab q cb ∧ Aside0 (gq = p + q ∧ p = la.length ∧ q = lb.length ∧ acc.length + (la.length + lb.length) = xs.length ∧ (SmL (la)) ∧ (SmL (lb)) ∧ acc ++ mg la lb = mg la0 lb0) ∧ Aside0 (Sl (Kd.tag fo k30) w' w0.heap.size (fun k => ok k ∧ some k ≠ v5.ownBlock) (.slice Aa p ca) la) ∧ Aside0 (Sl (Kd.tag fo k30) w' w0.heap.size (fun k => ok k ∧ some k ≠ v5.ownBlock) (.slice Ab q cb) lb) ∧ Aside0 (Kd.R (Kd.tag fo k30) 30 w' w0.heap.size ok v5 acc) ∧ Aside0 (∀ k, v5.ownBlock = some k → w.heap.size ≤ k) ∧ Aside0 (Below w0.heap.size w0 w') ∧ Aside0 (Below w.heap.size w w'))
  case atStart => exact ⟨Aa0, p0, ca0, Ab0, q0, cb0, la0, lb0, [], rfl, rfl, ⟨⟨rfl, HL0.out.1, HL0.out.2.1, by have := HL0.out.2.2.1; simp only [List.length_nil]; omega, HL0.out.2.2.2.1, HL0.out.2.2.2.2.1, by rw [List.nil_append]⟩⟩, SA, SB, HO, G, HB, HW⟩
  case round =>
    clear SA SB HO G HB HW HL0
    obtain ⟨Aa, p, ca, Ab, q, cb, la, lb, acc, rfl, rfl, HI, SA, SB, HO, G, HB, HW⟩ := hrel
    by_cases d1 : 0 < p
    · have HD1 := Aside0.mk d1
      have r1 : (0 < (p : Int)) = True := eq_true (by omega)
      have r1b : decide (0 < (p : Int)) = true := by simp only [r1]; rfl
      have r1c : (0 < p) = True := eq_true (by omega)
      have r1d : decide (0 < p) = true := by simp only [r1c]; rfl
      clear d1
      by_cases d2 : 0 < q
      · have HD2 := Aside0.mk d2
        have r2 : (0 < (q : Int)) = True := eq_true (by omega)
        have r2b : decide (0 < (q : Int)) = true := by simp only [r2]; rfl
        have r2c : (0 < q) = True := eq_true (by omega)
        have r2d : decide (0 < q) = true := by simp only [r2c]; rfl
        clear d2
        go_wp2_with (fail)
        clear r1 r1b r1d r2 r2b r2d
        replace SA := Aside0.mk (Sl_drew SA.out); replace SB := Aside0.mk (Sl_drew SB.out); replace HO := Aside0.mk (Kd.R_drew HO.out); replace HB := Aside0.mk (below_drew1 HB.out); replace HW := Aside0.mk (below_drew1 HW.out)
        obtain ⟨x, ra, hla⟩ : ∃ x ra, la = x :: ra := List.exists_cons_of_length_pos (by have := HI.out.2.1; have := HD1.out; omega)
        obtain ⟨y, rb, hlb⟩ : ∃ x ra, lb = x :: ra := List.exists_cons_of_length_pos (by have := HI.out.2.2.1; have := HD2.out; omega)
        subst hla hlb
        obtain ⟨ad, cx, rfl, lcx, MX, hx⟩ := Sl_head SA.out
        obtain ⟨be, cy, rfl, lcy, MY, hy⟩ := Sl_head SB.out
        have hMX := Aside0.mk MX; have hMY := Aside0.mk MY
        obtain ⟨va2, va3, rfl, ga2, ga3⟩ := k30_openM MX
        obtain ⟨vb2, vb3, rfl, gb2, gb3⟩ := k30_openM MY
        obtain ⟨Aa2, ca2, rfl⟩ := Kd.R_slice ga2
        obtain ⟨Aa3, ca3, rfl⟩ := Kd.R_slice (Kd.S_R ga3)
        obtain ⟨Ab2, cb2, rfl⟩ := Kd.R_slice gb2
        obtain ⟨Ab3, cb3, rfl⟩ := Kd.R_slice (Kd.S_R gb3)
        have GA2 := Aside0.mk (Kd.R_reads' ga2).2; have GA3 := Aside0.mk (Kd.R_reads' (Kd.S_R ga3)).2; have GB2 := Aside0.mk (Kd.R_reads' gb2).2; have GB3 := Aside0.mk (Kd.R_reads' (Kd.S_R gb3)).2
        have e0 : World.cell? wr.drew be = some (.int .i64 y.1.f0) := hy 0 _ rfl
        have e1 : World.cell? wr.drew ⟨be.block, be.off + 1, none⟩ = some (.int .i64 y.1.f1) := hy 1 _ rfl
        have e2 : World.cell? wr.drew ⟨be.block, be.off + 2, none⟩ = some (.slice Ab2 y.1.f2.length cb2) := hy 2 _ rfl
        have e3 : World.cell? wr.drew ⟨be.block, be.off + 3, none⟩ = some (.slice Ab3 y.1.f3.length cb3) := hy 3 _ rfl
        have e4 : World.cell? wr.drew ad = some (.int .i64 x.1.f0) := hx 0 _ rfl
        have e5 : World.cell? wr.drew ⟨ad.block, ad.off + 1, none⟩ = some (.int .i64 x.1.f1) := hx 1 _ rfl
        have e6 : World.cell? wr.drew ⟨ad.block, ad.off + 2, none⟩ = some (.slice Aa2 x.1.f2.length ca2) := hx 2 _ rfl
        have e7 : World.cell? wr.drew ⟨ad.block, ad.off + 3, none⟩ = some (.slice Aa3 x.1.f3.length ca3) := hx 3 _ rfl
        have PC := Aside0.mk (And.intro e0 (And.intro e1 (And.intro e2 (And.intro e3 (And.intro e4 (And.intro e5 (And.intro e6 e7)))))))
        clear lcx lcy hx hy MX MY ga2 ga3 gb2 gb3 e0 e1 e2 e3 e4 e5 e6 e7
        obtain ⟨KC, hKC⟩ := (specCmp_ev y.1 x.1 (HI.out.2.2.2.2.2.1 y List.mem_cons_self) (HI.out.2.2.2.2.1 x List.mem_cons_self)).rounds
        have HC := Aside0.mk hKC
        clear hKC
        by_cases e2 : cmT y.1 x.1 < 0
        · have r7 : (cmT y.1 x.1 < 0) = True := eq_true e2
          have r8 : decide (cmT y.1 x.1 < 0) = true := by simp only [r7]; rfl
          have HE2 := Aside0.mk e2
          clear e2
          obtain ⟨A3, c3, hS3, hcut3⟩ := cut_1 fo (some be) q cb (by have := HD1.out; have := HD2.out; omega)
          have HS3 := Aside0.mk hS3
          obtain ⟨n3, hn3⟩ : ∃ z, z = q - 1 := ⟨_, rfl⟩
          rw [← hn3] at HS3 hcut3
          have EN3 := Aside0.mk hn3
          clear hn3 hS3
          refine start_ (n := 8) (S := fun w' => World.cell? w' be = some (.int .i64 y.1.f0) ∧ World.cell? w' ⟨be.block, be.off + 1, none⟩ = some (.int .i64 y.1.f1) ∧ World.cell? w' ⟨be.block, be.off + 2, none⟩ = some (.slice Ab2 y.1.f2.length cb2) ∧ World.cell? w' ⟨be.block, be.off + 3, none⟩ = some (.slice Ab3 y.1.f3.length cb3) ∧ World.cell? w' ad = some (.int .i64 x.1.f0) ∧ World.cell? w' ⟨ad.block, ad.off + 1, none⟩ = some (.int .i64 x.1.f1) ∧ World.cell? w' ⟨ad.block, ad.off + 2, none⟩ = some (.slice Aa2 x.1.f2.length ca2) ∧ World.cell? w' ⟨ad.block, ad.off + 3, none⟩ = some (.slice Aa3 x.1.f3.length ca3)) (ds := []) #[false, false, false, false, false, false, false, false] (by kernel_rfl) rfl rfl PC.out (fun hHeld => ?_); refine with_tabW tabL5.tab7 tabL5.bits7 (fun HT_ HW_ => ?_)
          generalize wr.drew = w1 at SA SB HO HB HW PC hMX hMY GA2 GA3 GB2 GB3 hHeld ⊢
          refine pure_ (i := 0) (N := some 35) (v := ?_) (a' := ?_) #[true, false, false, false, false, false, false, false] rfl rfl (any_of HT_.out (by kernel_rfl)) (fun _ _ _ h => h) (Or.inl ⟨by rfl, ?_⟩) ?_ ?_
          rotate_left
          · intro w'
            go_simp
            try with_reducible rfl
          rotate_left
          · simp only [Act.put, List.setIfInBounds_toArray, List.set_cons_zero, List.set_cons_succ, i64_w, i32_w]
            rfl
          refine pure_ (i := 1) (N := some 36) (v := ?_) (a' := ?_) #[true, true, false, false, false, false, false, false] rfl rfl (any_of HT_.out (by kernel_rfl)) (fun _ _ _ h => h) (Or.inl ⟨by rfl, ?_⟩) ?_ ?_
          rotate_left
          · intro w'
            go_simp
            try with_reducible rfl
          rotate_left
          · simp only [Act.put, List.setIfInBounds_toArray, List.set_cons_zero, List.set_cons_succ, i64_w, i32_w]
            rfl
          refine take_ (i := 2) (N := some 37) (v := ?_) (a' := ?_) #[true, true, true, false, false, false, false, false] rfl rfl (take_ofW HT_.out HW_.out (by kernel_rfl)) (fun _ _ _ h => h) (Or.inl ⟨by rfl, ?_⟩) hHeld ?_ ?_
          rotate_left
          · rintro w' ⟨s0, s1, s2, s3, s4, s5, s6, s7⟩
            go_simp
            with_reducible rfl
          rotate_left
          · simp only [Act.put, List.setIfInBounds_toArray, List.set_cons_zero, List.set_cons_succ, i64_w, i32_w]
            rfl
          refine pure_ (i := 3) (N := some 38) (v := ?_) (a' := ?_) #[true, true, true, true, false, false, false, false] rfl rfl (any_of HT_.out (by kernel_rfl)) (fun _ _ _ h => h) (Or.inl ⟨by rfl, ?_⟩) ?_ ?_
          rotate_left
          · intro w'
            go_simp
            try with_reducible rfl
          rotate_left
          · simp only [Act.put, List.setIfInBounds_toArray, List.set_cons_zero, List.set_cons_succ, i64_w, i32_w]
            rfl
          refine pure_ (i := 4) (N := some 39) (v := ?_) (a' := ?_) #[true, true, true, true, true, false, false, false] rfl rfl (any_of HT_.out (by kernel_rfl)) (fun _ _ _ h => h) (Or.inl ⟨by rfl, ?_⟩) ?_ ?_
          rotate_left
          · intro w'
            go_simp
            try with_reducible rfl
          rotate_left
          · simp only [Act.put, List.setIfInBounds_toArray, List.set_cons_zero, List.set_cons_succ, i64_w, i32_w]
            rfl
          refine take_ (i := 5) (N := some 40) (v := ?_) (a' := ?_) #[true, true, true, true, true, true, false, false] rfl rfl (take_ofW HT_.out HW_.out (by kernel_rfl)) (fun _ _ _ h => h) (Or.inl ⟨by rfl, ?_⟩) hHeld ?_ ?_
          rotate_left
          · rintro w' ⟨s0, s1, s2, s3, s4, s5, s6, s7⟩
            go_simp
            with_reducible rfl
          rotate_left
          · simp only [Act.put, List.setIfInBounds_toArray, List.set_cons_zero, List.set_cons_succ, i64_w, i32_w]
            rfl
          refine one_ (i := 6) (N := some 41) #[true, true, true, true, true, true, true, false] rfl rfl (one_of HT_.out (by kernel_rfl)) (by decide) (fun K hK => ?_)
          refine goes_ Try.func19 (by kernel_rfl) rfl #[.agg #[.int .i64 y.1.f0, .int .i64 y.1.f1, .slice Ab2 y.1.f2.length cb2, .slice Ab3 y.1.f3.length cb3], .agg #[.int .i64 x.1.f0, .int .i64 x.1.f1, .slice Aa2 x.1.f2.length ca2, .slice Aa3 x.1.f3.length ca3]] (by rfl) rfl rfl (by (try simp only [List.map_toArray, List.map_cons, List.map_nil]); first | done | rfl | (simp only [List.length_drop, List.length_take]; rfl)) ?_
          refine (spec_CompareValues.calls KC y.1.f0 y.1.f1 Ab2 cb2 y.1.f2 Ab3 cb3 y.1.f3 x.1.f0 x.1.f1 Aa2 ca2 x.1.f2 Aa3 ca3 x.1.f3 _ _ GB2.out.2 GB2.out.1 GB3.out.2 GB3.out.1 GA2.out.2 GA2.out.1 GA3.out.2 GA3.out.1 HC.out).mono ?_
          rintro e w2 ⟨rfl, hd⟩
          refine ⟨_, rfl, ?_⟩
          try replace hd := Drawn0.below hd
          replace HO := Aside0.mk (Kd.R_below HO.out hd); replace SA := Aside0.mk (Sl_below SA.out hd); replace SB := Aside0.mk (Sl_below SB.out hd); replace hMX := Aside0.mk (Kd.M_below hMX.out hd); replace hMY := Aside0.mk (Kd.M_below hMY.out hd)
          replace HB := Aside0.mk (below_step HB.out hd); replace HW := Aside0.mk (below_step HW.out hd)
          replace PC := Aside0.mk (show World.cell? w2 be = some (.int .i64 y.1.f0) ∧ World.cell? w2 ⟨be.block, be.off + 1, none⟩ = some (.int .i64 y.1.f1) ∧ World.cell? w2 ⟨be.block, be.off + 2, none⟩ = some (.slice Ab2 y.1.f2.length cb2) ∧ World.cell? w2 ⟨be.block, be.off + 3, none⟩ = some (.slice Ab3 y.1.f3.length cb3) ∧ World.cell? w2 ad = some (.int .i64 x.1.f0) ∧ World.cell? w2 ⟨ad.block, ad.off + 1, none⟩ = some (.int .i64 x.1.f1) ∧ World.cell? w2 ⟨ad.block, ad.off + 2, none⟩ = some (.slice Aa2 x.1.f2.length ca2) ∧ World.cell? w2 ⟨ad.block, ad.off + 3, none⟩ = some (.slice Aa3 x.1.f3.length ca3) from ⟨pw_cell_below hd PC.out.1, pw_cell_below hd PC.out.2.1, pw_cell_below hd PC.out.2.2.1, pw_cell_below hd PC.out.2.2.2.1, pw_cell_below hd PC.out.2.2.2.2.1, pw_cell_below hd PC.out.2.2.2.2.2.1, pw_cell_below hd PC.out.2.2.2.2.2.2.1, pw_cell_below hd PC.out.2.2.2.2.2.2.2⟩)
          clear hd
          refine hK.out _ _ PC.out (fun hHeld => ?_)
          clear hK K
          refine norm_ (a' := ?_) ?_ ?_
          rotate_left
          · show Act.put _ (some 41) _ = _
            simp only [Act.put, List.setIfInBounds_toArray, List.set_cons_zero, List.set_cons_succ, i64_w, i32_w]
            rfl
          refine pure_ (i := 7) (N := some 42) (v := ?_) (a' := ?_) #[true, true, true, true, true, true, true, true] rfl rfl (any_of HT_.out (by kernel_rfl)) (fun _ _ _ h => h) (Or.inl ⟨by rfl, ?_⟩) ?_ ?_
          rotate_left
          · intro w'
            go_simp
            try with_reducible rfl
          rotate_left
          · simp only [Act.put, List.setIfInBounds_toArray, List.set_cons_zero, List.set_cons_succ, i64_w, i32_w]
            rfl
          refine done_ (done_of HT_.out (by kernel_rfl)) ?_
          clear HT_ HW_
          clear hHeld GA2 GA3 GB2 GB3 HC
          obtain ⟨e0, e1, e2, e3, e4, e5, e6, e7⟩ := PC.out
          clear PC
          go_wp2_with (first | ((with_reducible refine gate_builtin (b := .append) (xs := #[.tmp 43, .tmp 47]) rfl ?_); at_builtin; refine Kd.R_append (Kd.tag fo k30) (w0 := w0) w0.heap.size rfl (.tmp 43) (.tmp 47) 28 30 (.agg #[(.int .i64 0), (.int .i64 0), (.slice none 0 0), (.slice none 0 0)]) 64 rfl Try.underlying28 info30 rfl (by show 0 < 4; decide) (by omega) _ acc y [.int .i64 y.1.f0, .int .i64 y.1.f1, .slice Ab2 y.1.f2.length cb2, .slice Ab3 y.1.f3.length cb3] ok _ rfl rfl hMY.out (fun _ hk => hk) (fun k hk => HF.out k (Nat.le_trans (below_size HW.out) hk)) HO.out HB.out (below_size HB.out) (by have := HI.out.2.2.2.1; simp only [List.length_cons] at this; have := HN.out; omega) ?_; intro v48 w48 ho hb hg hat; replace SA := Aside0.mk (Sl_turned SA.out hg hat); replace SB := Aside0.mk (Sl_turned SB.out hg hat); replace HO := Aside0.mk ho; replace HB := Aside0.mk hb; have G_ := Aside0.mk (own_hat G.out (below_size HW.out) hat); replace HW := Aside0.mk (pw_below_grown HW.out _ (below_size HW.out) hg G.out); clear G; have G := G_; clear G_ ho hb hg hat e0 e1 e2 e3 e4 e5 e6 e7))
          go_roundg (p + n3)
          case measure => have := HI.out.1; have := EN3.out; have := HD1.out; have := HD2.out; omega
          case rel => exact ⟨some ad, p, ca, A3, n3, c3, x :: ra, rb, acc ++ [y], rfl, rfl, ⟨⟨rfl, HI.out.2.1, by have := HI.out.2.2.1; rw [List.length_cons] at this; have := EN3.out; omega, by have := HI.out.2.2.2.1; simp only [List.length_cons, List.length_append, List.length_nil] at this ⊢; omega, HI.out.2.2.2.2.1, fun z hz => HI.out.2.2.2.2.2.1 z (List.mem_cons_of_mem _ hz), by have h1 := HI.out.2.2.2.2.2.2; rw [mg_yes (by have := HE2.out; omega)] at h1; rw [List.append_assoc]; exact h1⟩⟩, SA, Aside0.mk (HS3.out _ _ _ _ SB.out), HO, G, HB, HW⟩
        · have r7 : (cmT y.1 x.1 < 0) = False := eq_false e2
          have r8 : decide (cmT y.1 x.1 < 0) = false := by simp only [r7]; rfl
          have HE2 := Aside0.mk e2
          clear e2
          obtain ⟨A3, c3, hS3, hcut3⟩ := cut_1 fo (some ad) p ca (by have := HD1.out; have := HD2.out; omega)
          have HS3 := Aside0.mk hS3
          obtain ⟨n3, hn3⟩ : ∃ z, z = p - 1 := ⟨_, rfl⟩
          rw [← hn3] at HS3 hcut3
          have EN3 := Aside0.mk hn3
          clear hn3 hS3
          refine start_ (n := 8) (S := fun w' => World.cell? w' be = some (.int .i64 y.1.f0) ∧ World.cell? w' ⟨be.block, be.off + 1, none⟩ = some (.int .i64 y.1.f1) ∧ World.cell? w' ⟨be.block, be.off + 2, none⟩ = some (.slice Ab2 y.1.f2.length cb2) ∧ World.cell? w' ⟨be.block, be.off + 3, none⟩ = some (.slice Ab3 y.1.f3.length cb3) ∧ World.cell? w' ad = some (.int .i64 x.1.f0) ∧ World.cell? w' ⟨ad.block, ad.off + 1, none⟩ = some (.int .i64 x.1.f1) ∧ World.cell? w' ⟨ad.block, ad.off + 2, none⟩ = some (.slice Aa2 x.1.f2.length ca2) ∧ World.cell? w' ⟨ad.block, ad.off + 3, none⟩ = some (.slice Aa3 x.1.f3.length ca3)) (ds := []) #[false, false, false, false, false, false, false, false] (by kernel_rfl) rfl rfl PC.out (fun hHeld => ?_); refine with_tabW tabL5.tab7 tabL5.bits7 (fun HT_ HW_ => ?_)
          generalize wr.drew = w1 at SA SB HO HB HW PC hMX hMY GA2 GA3 GB2 GB3 hHeld ⊢
          refine pure_ (i := 0) (N := some 35) (v := ?_) (a' := ?_) #[true, false, false, false, false, false, false, false] rfl rfl (any_of HT_.out (by kernel_rfl)) (fun _ _ _ h => h) (Or.inl ⟨by rfl, ?_⟩) ?_ ?_
          rotate_left
          · intro w'
            go_simp
            try with_reducible rfl
          rotate_left
          · simp only [Act.put, List.setIfInBounds_toArray, List.set_cons_zero, List.set_cons_succ, i64_w, i32_w]
            rfl
          refine pure_ (i := 1) (N := some 36) (v := ?_) (a' := ?_) #[true, true, false, false, false, false, false, false] rfl rfl (any_of HT_.out (by kernel_rfl)) (fun _ _ _ h => h) (Or.inl ⟨by rfl, ?_⟩) ?_ ?_
          rotate_left
          · intro w'
            go_simp
            try with_reducible rfl
          rotate_left
          · simp only [Act.put, List.setIfInBounds_toArray, List.set_cons_zero, List.set_cons_succ, i64_w, i32_w]
            rfl
          refine take_ (i := 2) (N := some 37) (v := ?_) (a' := ?_) #[true, true, true, false, false, false, false, false] rfl rfl (take_ofW HT_.out HW_.out (by kernel_rfl)) (fun _ _ _ h => h) (Or.inl ⟨by rfl, ?_⟩) hHeld ?_ ?_
          rotate_left
          · rintro w' ⟨s0, s1, s2, s3, s4, s5, s6, s7⟩
            go_simp
            with_reducible rfl
          rotate_left
          · simp only [Act.put, List.setIfInBounds_toArray, List.set_cons_zero, List.set_cons_succ, i64_w, i32_w]
            rfl
          refine pure_ (i := 3) (N := some 38) (v := ?_) (a' := ?_) #[true, true, true, true, false, false, false, false] rfl rfl (any_of HT_.out (by kernel_rfl)) (fun _ _ _ h => h) (Or.inl ⟨by rfl, ?_⟩) ?_ ?_
          rotate_left
          · intro w'
            go_simp
            try with_reducible rfl
          rotate_left
          · simp only [Act.put, List.setIfInBounds_toArray, List.set_cons_zero, List.set_cons_succ, i64_w, i32_w]
            rfl
          refine pure_ (i := 4) (N := some 39) (v := ?_) (a' := ?_) #[true, true, true, true, true, false, false, false] rfl rfl (any_of HT_.out (by kernel_rfl)) (fun _ _ _ h => h) (Or.inl ⟨by rfl, ?_⟩) ?_ ?_
          rotate_left
          · intro w'
            go_simp
            try with_reducible rfl
          rotate_left
          · simp only [Act.put, List.setIfInBounds_toArray, List.set_cons_zero, List.set_cons_succ, i64_w, i32_w]
            rfl
          refine take_ (i := 5) (N := some 40) (v := ?_) (a' := ?_) #[true, true, true, true, true, true, false, false] rfl rfl (take_ofW HT_.out HW_.out (by kernel_rfl)) (fun _ _ _ h => h) (Or.inl ⟨by rfl, ?_⟩) hHeld ?_ ?_
          rotate_left
          · rintro w' ⟨s0, s1, s2, s3, s4, s5, s6, s7⟩
            go_simp
            with_reducible rfl
          rotate_left
          · simp only [Act.put, List.setIfInBounds_toArray, List.set_cons_zero, List.set_cons_succ, i64_w, i32_w]
            rfl
          refine one_ (i := 6) (N := some 41) #[true, true, true, true, true, true, true, false] rfl rfl (one_of HT_.out (by kernel_rfl)) (by decide) (fun K hK => ?_)
          refine goes_ Try.func19 (by kernel_rfl) rfl #[.agg #[.int .i64 y.1.f0, .int .i64 y.1.f1, .slice Ab2 y.1.f2.length cb2, .slice Ab3 y.1.f3.length cb3], .agg #[.int .i64 x.1.f0, .int .i64 x.1.f1, .slice Aa2 x.1.f2.length ca2, .slice Aa3 x.1.f3.length ca3]] (by rfl) rfl rfl (by (try simp only [List.map_toArray, List.map_cons, List.map_nil]); first | done | rfl | (simp only [List.length_drop, List.length_take]; rfl)) ?_
          refine (spec_CompareValues.calls KC y.1.f0 y.1.f1 Ab2 cb2 y.1.f2 Ab3 cb3 y.1.f3 x.1.f0 x.1.f1 Aa2 ca2 x.1.f2 Aa3 ca3 x.1.f3 _ _ GB2.out.2 GB2.out.1 GB3.out.2 GB3.out.1 GA2.out.2 GA2.out.1 GA3.out.2 GA3.out.1 HC.out).mono ?_
          rintro e w2 ⟨rfl, hd⟩
          refine ⟨_, rfl, ?_⟩
          try replace hd := Drawn0.below hd
          replace HO := Aside0.mk (Kd.R_below HO.out hd); replace SA := Aside0.mk (Sl_below SA.out hd); replace SB := Aside0.mk (Sl_below SB.out hd); replace hMX := Aside0.mk (Kd.M_below hMX.out hd); replace hMY := Aside0.mk (Kd.M_below hMY.out hd)
          replace HB := Aside0.mk (below_step HB.out hd); replace HW := Aside0.mk (below_step HW.out hd)
          replace PC := Aside0.mk (show World.cell? w2 be = some (.int .i64 y.1.f0) ∧ World.cell? w2 ⟨be.block, be.off + 1, none⟩ = some (.int .i64 y.1.f1) ∧ World.cell? w2 ⟨be.block, be.off + 2, none⟩ = some (.slice Ab2 y.1.f2.length cb2) ∧ World.cell? w2 ⟨be.block, be.off + 3, none⟩ = some (.slice Ab3 y.1.f3.length cb3) ∧ World.cell? w2 ad = some (.int .i64 x.1.f0) ∧ World.cell? w2 ⟨ad.block, ad.off + 1, none⟩ = some (.int .i64 x.1.f1) ∧ World.cell? w2 ⟨ad.block, ad.off + 2, none⟩ = some (.slice Aa2 x.1.f2.length ca2) ∧ World.cell? w2 ⟨ad.block, ad.off + 3, none⟩ = some (.slice Aa3 x.1.f3.length ca3) from ⟨pw_cell_below hd PC.out.1, pw_cell_below hd PC.out.2.1, pw_cell_below hd PC.out.2.2.1, pw_cell_below hd PC.out.2.2.2.1, pw_cell_below hd PC.out.2.2.2.2.1, pw_cell_below hd PC.out.2.2.2.2.2.1, pw_cell_below hd PC.out.2.2.2.2.2.2.1, pw_cell_below hd PC.out.2.2.2.2.2.2.2⟩)
          clear hd
          refine hK.out _ _ PC.out (fun hHeld => ?_)
          clear hK K
          refine norm_ (a' := ?_) ?_ ?_
          rotate_left
          · show Act.put _ (some 41) _ = _
            simp only [Act.put, List.setIfInBounds_toArray, List.set_cons_zero, List.set_cons_succ, i64_w, i32_w]
            rfl
          refine pure_ (i := 7) (N := some 42) (v := ?_) (a' := ?_) #[true, true, true, true, true, true, true, true] rfl rfl (any_of HT_.out (by kernel_rfl)) (fun _ _ _ h => h) (Or.inl ⟨by rfl, ?_⟩) ?_ ?_
          rotate_left
          · intro w'
            go_simp
            try with_reducible rfl
          rotate_left
          · simp only [Act.put, List.setIfInBounds_toArray, List.set_cons_zero, List.set_cons_succ, i64_w, i32_w]
            rfl
          refine done_ (done_of HT_.out (by kernel_rfl)) ?_
          clear HT_ HW_
          clear hHeld GA2 GA3 GB2 GB3 HC
          obtain ⟨e0, e1, e2, e3, e4, e5, e6, e7⟩ := PC.out
          clear PC
          go_wp2_with (first | ((with_reducible refine gate_builtin (b := .append) (xs := #[.tmp 51, .tmp 55]) rfl ?_); at_builtin; refine Kd.R_append (Kd.tag fo k30) (w0 := w0) w0.heap.size rfl (.tmp 51) (.tmp 55) 28 30 (.agg #[(.int .i64 0), (.int .i64 0), (.slice none 0 0), (.slice none 0 0)]) 64 rfl Try.underlying28 info30 rfl (by show 0 < 4; decide) (by omega) _ acc x [.int .i64 x.1.f0, .int .i64 x.1.f1, .slice Aa2 x.1.f2.length ca2, .slice Aa3 x.1.f3.length ca3] ok _ rfl rfl hMX.out (fun _ hk => hk) (fun k hk => HF.out k (Nat.le_trans (below_size HW.out) hk)) HO.out HB.out (below_size HB.out) (by have := HI.out.2.2.2.1; simp only [List.length_cons] at this; have := HN.out; omega) ?_; intro v56 w56 ho hb hg hat; replace SA := Aside0.mk (Sl_turned SA.out hg hat); replace SB := Aside0.mk (Sl_turned SB.out hg hat); replace HO := Aside0.mk ho; replace HB := Aside0.mk hb; have G_ := Aside0.mk (own_hat G.out (below_size HW.out) hat); replace HW := Aside0.mk (pw_below_grown HW.out _ (below_size HW.out) hg G.out); clear G; have G := G_; clear G_ ho hb hg hat e0 e1 e2 e3 e4 e5 e6 e7))
          go_roundg (n3 + q)
          case measure => have := HI.out.1; have := EN3.out; have := HD1.out; have := HD2.out; omega
          case rel => exact ⟨A3, n3, c3, some be, q, cb, ra, y :: rb, acc ++ [x], rfl, rfl, ⟨⟨rfl, by have := HI.out.2.1; rw [List.length_cons] at this; have := EN3.out; omega, HI.out.2.2.1, by have := HI.out.2.2.2.1; simp only [List.length_cons, List.length_append, List.length_nil] at this ⊢; omega, fun z hz => HI.out.2.2.2.2.1 z (List.mem_cons_of_mem _ hz), HI.out.2.2.2.2.2.1, by have h1 := HI.out.2.2.2.2.2.2; rw [mg_no (by have := HE2.out; omega)] at h1; rw [List.append_assoc]; exact h1⟩⟩, Aside0.mk (HS3.out _ _ _ _ SA.out), SB, HO, G, HB, HW⟩
      · have r2 : (0 < (q : Int)) = False := eq_false (by omega)
        have r2b : decide (0 < (q : Int)) = false := by simp only [r2]; rfl
        have r2c : (0 < q) = False := eq_false (by omega)
        have r2d : decide (0 < q) = false := by simp only [r2c]; rfl
        have hz : Aside0 (lb = []) := ⟨List.length_eq_zero_iff.1 (by have := HI.out.2.2.1; omega)⟩
        clear d2
        go_wp2_with (first | ((with_reducible refine gate_builtin (b := .append) (xs := #[.tmp 59, .tmp 60]) rfl ?_); at_builtin; have hR_ := Sl_rows (SA.out); refine Kd.R_append_rows (Kd.tag fo k30) (w0 := w0) w0.heap.size rfl (.tmp 59) (.tmp 60) 28 30 (.agg #[(.int .i64 0), (.int .i64 0), (.slice none 0 0), (.slice none 0 0)]) 64 rfl Try.underlying28 info30 rfl (by show 0 < 4; decide) (by omega) _ acc (la) Aa p ca ok _ rfl rfl HO.out hR_.2.2 (fun _ _ h => h) (fun _ hk => hk) (fun k hk => HF.out k (Nat.le_trans (below_size HW.out) hk)) HB.out (below_size HB.out) (by have := HI.out.2.2.2.1; have := HI.out.2.1; have := HN.out; omega) ?_; intro v61 w61 ho hb hg hat; clear hR_; replace SB := Aside0.mk (Sl_turned SB.out hg hat); replace HO := Aside0.mk ho; replace HB := Aside0.mk hb; have G_ := Aside0.mk (own_hat G.out (below_size HW.out) hat); replace HW := Aside0.mk (pw_below_grown HW.out _ (below_size HW.out) hg G.out); clear G; have G := G_; clear G_ ho hb hg hat) | ((with_reducible refine gate_builtin (b := .append) (xs := #[.tmp 61, .tmp 62]) rfl ?_); at_builtin; have hR_ := Sl_rows (SB.out); refine Kd.R_append_rows (Kd.tag fo k30) (w0 := w0) w0.heap.size rfl (.tmp 61) (.tmp 62) 28 30 (.agg #[(.int .i64 0), (.int .i64 0), (.slice none 0 0), (.slice none 0 0)]) 64 rfl Try.underlying28 info30 rfl (by show 0 < 4; decide) (by omega) _ (acc ++ la) (lb) Ab q cb ok _ rfl rfl HO.out hR_.2.2 (fun _ _ h => h) (fun _ hk => hk) (fun k hk => HF.out k (Nat.le_trans (below_size HW.out) hk)) HB.out (below_size HB.out) (by have := HI.out.2.2.2.1; have := HI.out.2.2.1; have := HN.out; rw [List.length_append]; omega) ?_; intro v63 w63 ho hb hg hat; clear hR_; skip; replace HO := Aside0.mk ho; replace HB := Aside0.mk hb; have G_ := Aside0.mk (own_hat G.out (below_size HW.out) hat); replace HW := Aside0.mk (pw_below_grown HW.out _ (below_size HW.out) hg G.out); clear G; have G := G_; clear G_ ho hb hg hat))
        (first | go_ret | go_end0 | refine bodyPost_ret (results_none rfl _ _ _) rfl ?_)
        have hfin : acc ++ la ++ lb = mg la0 lb0 := by rw [← HI.out.2.2.2.2.2.2, List.append_assoc, hz.out, mg_nil, List.append_nil]
        exact ⟨_, _, rfl, by rw [← hfin]; exact HO.out, HPA.out, HW.out⟩
    · have r1 : (0 < (p : Int)) = False := eq_false (by omega)
      have r1b : decide (0 < (p : Int)) = false := by simp only [r1]; rfl
      have r1c : (0 < p) = False := eq_false (by omega)
      have r1d : decide (0 < p) = false := by simp only [r1c]; rfl
      have hz : Aside0 (la = []) := ⟨List.length_eq_zero_iff.1 (by have := HI.out.2.1; omega)⟩
      clear d1
      go_wp2_with (first | ((with_reducible refine gate_builtin (b := .append) (xs := #[.tmp 59, .tmp 60]) rfl ?_); at_builtin; have hR_ := Sl_rows (SA.out); refine Kd.R_append_rows (Kd.tag fo k30) (w0 := w0) w0.heap.size rfl (.tmp 59) (.tmp 60) 28 30 (.agg #[(.int .i64 0), (.int .i64 0), (.slice none 0 0), (.slice none 0 0)]) 64 rfl Try.underlying28 info30 rfl (by show 0 < 4; decide) (by omega) _ acc (la) Aa p ca ok _ rfl rfl HO.out hR_.2.2 (fun _ _ h => h) (fun _ hk => hk) (fun k hk => HF.out k (Nat.le_trans (below_size HW.out) hk)) HB.out (below_size HB.out) (by have := HI.out.2.2.2.1; have := HI.out.2.1; have := HN.out; omega) ?_; intro v61 w61 ho hb hg hat; clear hR_; replace SB := Aside0.mk (Sl_turned SB.out hg hat); replace HO := Aside0.mk ho; replace HB := Aside0.mk hb; have G_ := Aside0.mk (own_hat G.out (below_size HW.out) hat); replace HW := Aside0.mk (pw_below_grown HW.out _ (below_size HW.out) hg G.out); clear G; have G := G_; clear G_ ho hb hg hat) | ((with_reducible refine gate_builtin (b := .append) (xs := #[.tmp 61, .tmp 62]) rfl ?_); at_builtin; have hR_ := Sl_rows (SB.out); refine Kd.R_append_rows (Kd.tag fo k30) (w0 := w0) w0.heap.size rfl (.tmp 61) (.tmp 62) 28 30 (.agg #[(.int .i64 0), (.int .i64 0), (.slice none 0 0), (.slice none 0 0)]) 64 rfl Try.underlying28 info30 rfl (by show 0 < 4; decide) (by omega) _ (acc ++ la) (lb) Ab q cb ok _ rfl rfl HO.out hR_.2.2 (fun _ _ h => h) (fun _ hk => hk) (fun k hk => HF.out k (Nat.le_trans (below_size HW.out) hk)) HB.out (below_size HB.out) (by have := HI.out.2.2.2.1; have := HI.out.2.2.1; have := HN.out; rw [List.length_append]; omega) ?_; intro v63 w63 ho hb hg hat; clear hR_; skip; replace HO := Aside0.mk ho; replace HB := Aside0.mk hb; have G_ := Aside0.mk (own_hat G.out (below_size HW.out) hat); replace HW := Aside0.mk (pw_below_grown HW.out _ (below_size HW.out) hg G.out); clear G; have G := G_; clear G_ ho hb hg hat))
      (first | go_ret | go_end0 | refine bodyPost_ret (results_none rfl _ _ _) rfl ?_)
      have hfin : acc ++ la ++ lb = mg la0 lb0 := by rw [← HI.out.2.2.2.2.2.2, List.append_assoc, hz.out, mg_nil', List.nil_append]
      exact ⟨_, _, rfl, by rw [← hfin]; exact HO.out, HPA.out, HW.out⟩
theorem asc_short {xs : List (S30 × Nat)} (h : xs.length < 2) : St.Asc ltP xs := by
  match xs, h with
  | [], _ => simp [St.Asc]
  | [x], _ => simp [St.Asc]
theorem l5_go (fo : Nat → Nat) (w0 : World) (ok : Nat → Prop) : ∀ (m : Nat), ∀ (xs : List (S30 × Nat)), xs.length ≤ m → xs.length ≤ 1048576 → (SmL (xs)) → ∀ (v : Value) (w : World), Kd.R (Kd.tag fo k30) 30 w w0.heap.size ok v xs → Below w0.heap.size w0 w → (∀ k, w.heap.size ≤ k → ok k) → Calls Try.prog 26 #[v] w fun e w' => ∃ v' ys, e = .returned v' ∧ Kd.R (Kd.tag fo k30) 30 w' w0.heap.size ok v' ys ∧ (List.Perm ys xs ∧ St.Asc ltP ys) ∧ Below w.heap.size w w'
  | 0, xs, hm, hn, hs, v, w, ho, hb, hf => by
    refine (l5_small fo w0 ok xs (by omega) v w ho).mono ?_
    rintro e w' ⟨rfl, rfl⟩
    exact ⟨v, xs, rfl, ho, ⟨List.Perm.refl _, asc_short (by omega)⟩, Below.refl _ _⟩
  | m + 1, xs, hm, hn, hs, v, w, ho, hb, hf => by
    by_cases h2 : xs.length < 2
    · refine (l5_small fo w0 ok xs h2 v w ho).mono ?_
      rintro e w' ⟨rfl, rfl⟩
      exact ⟨v, xs, rfl, ho, ⟨List.Perm.refl _, asc_short h2⟩, Below.refl _ _⟩
    · exact l5_big fo w0 ok m (fun xs hm hn hs v w ho hb hf => l5_go fo w0 ok m xs hm hn hs v w ho hb hf) xs hm (by omega) hn hs v w ho hb hf
theorem zip_sm {xs : List S30} (hs : ∀ x ∈ xs, SmValue x) : ∀ x ∈ xs.zipIdx, SmValue x.1 := fun x hx => hs _ (List.fst_mem_of_mem_zipIdx hx)
theorem l5_S (w0 : World) (ok : Nat → Prop) (xs : List S30) (hn : xs.length ≤ 1048576) (hs : ∀ x ∈ xs, SmValue x) (v : Value) (w : World) (ho : Kd.S k30 30 w w0.heap.size ok v xs) (hb : Below w0.heap.size w0 w) (hf : ∀ k, w.heap.size ≤ k → ok k) :
    Calls Try.prog 26 #[v] w fun e w' => ∃ v', e = .returned v' ∧ Kd.S k30 30 w' w0.heap.size ok v' (St.stable ltT z30 xs) ∧ Below w.heap.size w w' := by
  obtain ⟨fo, ho⟩ := ho
  refine (l5_go fo w0 ok xs.zipIdx.length xs.zipIdx (Nat.le_refl _) (by rw [List.length_zipIdx]; exact hn) (zip_sm hs) v w ho hb hf).mono ?_
  rintro e w' ⟨v', ys, rfl, h1, h2, h3⟩
  exact ⟨v', rfl, by rw [← sorted_fst h2.1 h2.2]; exact S_perm h2.1 h1, h3⟩
theorem ssf_S (w0 : World) (ok : Nat → Prop) {Ar : Option Addr} {n cap : Nat} (xs : List S30) (hn : xs.length ≤ 1048576) (hs : ∀ x ∈ xs, SmValue x) (w : World) (ho : Kd.S k30 30 w w0.heap.size ok (.slice Ar n cap) xs) (hb : Below w0.heap.size w0 w) :
    Calls Try.prog 28 #[.slice Ar n cap, .func (.func 22) #[] #[]] w fun e w' => e = .returned (.tuple #[]) ∧ Kd.S k30 30 w' w0.heap.size ok (.slice Ar n cap) (St.stable ltT z30 xs) ∧ Below w0.heap.size w0 w' ∧ w.heap.size ≤ w'.heap.size ∧ ∀ k, some k ≠ (Value.slice Ar n cap).ownBlock → k < w.heap.size → w'.heap[k]? = w.heap[k]? := by
  obtain ⟨fo, ho⟩ := ho
  refine (ssf_R fo w0 ok xs.zipIdx (by rw [List.length_zipIdx]; exact hn) (zip_sm hs) w ho hb).mono ?_
  rintro e w' ⟨rfl, h1, h2⟩
  have hk := St.stable_ok ltP (z30, 0) ltP_ord xs.zipIdx
  exact ⟨rfl, by rw [← sorted_fst hk.1 hk.2]; exact S_perm hk.1 h1, h2⟩
end Go.Proofs.Ytonimhfahjediaa.Pk
end

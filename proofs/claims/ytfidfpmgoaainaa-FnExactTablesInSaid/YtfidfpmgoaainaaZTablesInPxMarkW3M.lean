/- What markTermS, markType and markTerm do with rows of the form that they are given. No condition beyond the sizes named. -/
import Derived.Test.YtfidfpmgoaainaaZTablesInWLastM
import Derived.Test.YtfidfpmgoaainaaZTablesInPxFTypeM
import Derived.Test.YtfidfpmgoaainaaZTablesInPx8M
import Derived.Test.YtfidfpmgoaainaaZTablesInWWords
import Derived.Test.YtfidfpmgoaainaaZTablesInPx1M
import Derived.StringKeys
import Derived.Sort.Walk0
section
namespace Go.Proofs.Ytfidfpmgoaainaa.Px
open Go.RowKit Go.Proofs.YtfidfpmgoaainaaW.PrintWords Go.Proofs.YtfidfpmgoaainaaW.PrintLast Go.Proofs.Ytfidfpmgoaainaa.Pl Go.Proofs.Ytfidfpmgoaainaa.Ext
set_option linter.unusedVariables false
set_option linter.unusedSimpArgs false
theorem shE_open {S : Nat → Prop} {w : World} {x : S36} {g j : Nat} (h : ShE S w x g j) : NumAt S w g j ∧ StrAt S w g (j + 1) ∧ NumAt S w g (j + 2) ∧ NumAt S w g (j + 3) ∧ (∃ A c, w.cell? ⟨g, j + 4, none⟩ = some (.slice A x.f3.f1.length c) ∧ ShL S w A x.f3.f1.length) ∧ (∃ A c, w.cell? ⟨g, j + 5, none⟩ = some (.slice A x.f3.f2.length c) ∧ ShTS S w x.f3.f2 A 0) ∧ (∃ A c, w.cell? ⟨g, j + 6, none⟩ = some (.slice A x.f4.length c) ∧ ShL S w A x.f4.length) ∧ (∃ A c, w.cell? ⟨g, j + 7, none⟩ = some (.slice A x.f5.length c) ∧ ShES S w x.f5 A 0) := by
  obtain ⟨_, _, _, ⟨_, _, _⟩, _, _⟩ := x
  rw [ShE] at h
  exact h
/-- All rows inside are short. -/
inductive LnType : S33 → Prop
  | mk {x : S33} : x.f1.length ≤ 1048576 → x.f2.length ≤ 1048576 → (∀ y ∈ x.f2, LnType y) → LnType x
theorem lnType_all {x : S33} (h : LnType x) : x.f1.length ≤ 1048576 ∧ x.f2.length ≤ 1048576 ∧ ∀ y ∈ x.f2, LnType y := by cases h; exact ⟨by assumption, by assumption, by assumption⟩
theorem goTS_in : ∀ x : S33, LnType x → GoTS x.f2 := by
  refine indTypeI fun x ih hx => ?_
  exact goTS_step x.f2 (lnType_all hx).2.1 (fun y hy => ⟨(lnType_all ((lnType_all hx).2.2 y hy)).1, ih y hy ((lnType_all hx).2.2 y hy)⟩)
theorem lnType_of : ∀ x : S33, SmType x → LnType x := by
  refine indTypeI fun x ih hx => ?_
  exact LnType.mk hx.p1.1 hx.p2.1 (fun y hy => ih y hy (hx.p2.2 y hy))
theorem goTS_sm (x : S33) (h : SmType x) : GoTS x.f2 := goTS_in x (lnType_of x h)
/-- markTermS. -/
def GoES (xs : List S36) : Prop := ∀ (a : Int) (A : Option Addr) (c : Nat) (S : Nat → Prop) (w : World), 0 ≤ a → a + cnTermS xs ≤ 4611686018427387000 → ShES S w xs A 0 →
    Calls Try.prog 47 #[.slice A xs.length c, .int .i64 a] w fun e w' => e = .returned (.int .i64 (a + cnTermS xs)) ∧ Sw S w w'
theorem GoES.go {xs : List S36} (h : GoES xs) (a : Int) (A : Option Addr) (c : Nat) (S : Nat → Prop) (w : World) (h0 : 0 ≤ a) (h1 : a + cnTermS xs ≤ 4611686018427387000) (h2 : ShES S w xs A 0) :
    Calls Try.prog 47 #[.slice A xs.length c, .int .i64 a] w fun e w' => e = .returned (.int .i64 (a + cnTermS xs)) ∧ Sw S w w' := h a A c S w h0 h1 h2
set_option maxHeartbeats 8000000 in
set_option maxRecDepth 100000 in
theorem goES_step (xs : List S36) (hn : xs.length ≤ 1048576) (hx : ∀ y ∈ xs, y.f3.f1.length ≤ 1048576 ∧ GoTS y.f3.f2 ∧ y.f4.length ≤ 1048576 ∧ GoES y.f5) : GoES xs := by
  intro a A c S w h0 hb hsh
  have HSH := Aside0.mk hsh
  have HX := Aside0.mk hx
  have HA := Aside0.mk (And.intro h0 (And.intro hb hn))
  clear hsh h0 hb hn hx
  go_enter Try.func47, Try.ntmps47
  go_wp2
  go_loopg [1, 5] xs.length (fun kq v1 v5 w' => ∃ (b i : Int), v1 = .int .i64 b ∧ v5 = .int .i64 i ∧ Aside0 (0 ≤ i ∧ i + kq = xs.length ∧ b = a + cnTermS (xs.take i.toNat)) ∧ Aside0 (Sw S w w'))
  case atStart => exact ⟨a, 0, rfl, rfl, ⟨by omega, by omega, by simp [cnTermS]⟩, ⟨Sw.refl S w⟩⟩
  case round =>
    obtain ⟨b, i, rfl, rfl, HI, HW⟩ := hrel
    by_cases hlt : i < (xs.length : Int)
    · have hd : decide (i < (xs.length : Int)) = true := decide_eq_true hlt
      have hi0 : (0 ≤ i) = True := eq_true HI.out.1
      have hi1 : (i < (xs.length : Int)) = True := eq_true hlt
      have HLT := Aside0.mk (show i.toNat < xs.length by have := HI.out.1; omega)
      obtain ⟨g, eA, h1⟩ := HSH.out.at_ i.toNat HLT.out
      subst eA
      rw [Nat.zero_add] at h1
      generalize hxe : xs.getD i.toNat z36 = x at h1
      have HXL := Aside0.mk (HX.out x (by rw [← hxe]; exact mem_getD xs z36 _ HLT.out))
      have HE := Aside0.mk (show b + cnTerm x ≤ a + cnTermS xs ∧ b = a + cnTermS (xs.take i.toNat) ∧ 0 ≤ b ∧ 0 ≤ a ∧ a + cnTermS xs ≤ 4611686018427387000 ∧ cnTermS (xs.take (i.toNat + 1)) = cnTermS (xs.take i.toNat) + cnTerm x ∧ cnTerm x = 4 + x.f3.f1.length + cnTypeS x.f3.f2 + x.f4.length + cnTermS x.f5 by
        have e1 := cnTermS_take xs i.toNat HLT.out
        have e2 := cnTermS_take_le xs (i.toNat + 1)
        rw [hxe] at e1
        have := HI.out; have := HA.out
        refine ⟨by omega, by omega, by omega, by omega, by omega, e1, cnTerm_eq x⟩)
      have HW4 := Aside0.mk (show wrap64 (wrap64 (wrap64 (wrap64 (b + 1) + 1) + 1) + 1) = b + 4 ∧ wrap64 (b + 1) = b + 1 by have := HE.out; have e1 : wrap64 (b + 1) = b + 1 := w64 (by omega) (by omega); have e2 : wrap64 (b + 1 + 1) = b + 2 := (w64 (by omega) (by omega)).trans (by omega); have e3 : wrap64 (b + 2 + 1) = b + 3 := (w64 (by omega) (by omega)).trans (by omega); have e4 : wrap64 (b + 3 + 1) = b + 4 := (w64 (by omega) (by omega)).trans (by omega); rw [e1, e2, e3, e4]; exact ⟨rfl, rfl⟩)
      obtain ⟨q0, q1, q2, q3, ⟨A4, c4, q4, g4⟩, ⟨A5, c5, q5, g5⟩, ⟨A6, c6, q6, g6⟩, A7, c7, q7, g7⟩ := shE_open h1
      have Q0 := Aside0.mk q0; have Q1 := Aside0.mk q1; have Q2 := Aside0.mk q2; have Q3 := Aside0.mk q3; have Q4 := Aside0.mk q4; have G4 := Aside0.mk g4; have Q5 := Aside0.mk q5; have G5 := Aside0.mk g5; have Q6 := Aside0.mk q6; have G6 := Aside0.mk g6; have Q7 := Aside0.mk q7; have G7 := Aside0.mk g7
      have P0 := Aside0.mk (Q0.out.step (S' := S) (fun _ h => h) HW.out)
      obtain ⟨n0, hn0⟩ := P0.out.2.1
      have hx : wr.cell? ⟨g, i.toNat * 8, none⟩ = some (.int .i64 n0) := hn0
      have hf : wr.frozen? ⟨g, i.toNat * 8, none⟩ = false := P0.out.2.2
      have HN0 := Aside0.mk hn0
      clear h1 q0 q1 q2 q3 q4 g4 q5 g5 q6 g6 q7 g7 hn0 hxe hlt
      go_wp2_with (first
        | ((with_reducible refine gate_store (t := 3) (p := 16) rfl ?_)
           refine store_event (t := 3) (p := 16) (v := ?vo_w1) (w1 := (wr.setCell ⟨g, i.toNat * 8, none⟩ (.int .i64 b))) ?hg ?ho ?hn ?hr ?_; (case ho => rfl); (case hg => rfl); (case hn => rfl); (case hr => first | (go_simp; done) | (go_simp; rfl)); intro w1 hw
           have HW2 := Aside0.mk (show Sw S w w1 by rw [hw]; exact HW.out.then_ (Sw.set_num HN0.out P0.out.1 _))
           clear hw hx hf HW P0 HN0
           have HW := HW2
           clear HW2
)
        | ((with_reducible refine gate_callee (f := 48) rfl ?_)
           refine goesL_ (some 22) rfl rfl Try.func48 (by kernel_rfl) rfl #[.int .i64 (wrap64 (b + 1))] rfl (by (try simp only [List.map_toArray, List.map_cons, List.map_nil]); first | done | rfl) ?_
           (with_reducible refine (markText_own (wrap64 (b + 1)) (by rw [HW4.out.2]; have := HE.out; omega) _).mono ?_)
           rintro e w2 ⟨rfl, hb⟩
           refine ⟨_, rfl, ?_⟩
           have HW2 := Aside0.mk (HW.out.below hb)
           clear HW hb
           have HW := HW2
           clear HW2
           have P0 := Aside0.mk (Q1.out.step (S' := S) (fun _ h => h) HW.out)
           obtain ⟨n0, hn0⟩ := P0.out.2.1
           have hx : w2.cell? ⟨g, i.toNat * 8 + 1, none⟩ = some (.string n0) := hn0
           have hf : w2.frozen? ⟨g, i.toNat * 8 + 1, none⟩ = false := P0.out.2.2
           have HN0 := Aside0.mk hn0
           clear hn0)
        | ((with_reducible refine gate_store (t := 9) (p := 24) rfl ?_)
           refine store_event (t := 9) (p := 24) (v := ?vo_w3) (w1 := (w2.setCell ⟨g, i.toNat * 8 + 1, none⟩ (.string (mt (wrap64 (b + 1)))))) ?hg ?ho ?hn ?hr ?_; (case ho => rfl); (case hg => rfl); (case hn => rfl); (case hr => first | (go_simp; done) | (go_simp; rfl)); intro w3 hw
           have HW2 := Aside0.mk (show Sw S w w3 by rw [hw]; exact HW.out.then_ (Sw.set_str HN0.out P0.out.1 _))
           clear hw hx hf HW P0 HN0
           have HW := HW2
           clear HW2
           have P0 := Aside0.mk (Q2.out.step (S' := S) (fun _ h => h) HW.out)
           obtain ⟨n0, hn0⟩ := P0.out.2.1
           have hx : w3.cell? ⟨g, i.toNat * 8 + 2, none⟩ = some (.int .i64 n0) := hn0
           have hf : w3.frozen? ⟨g, i.toNat * 8 + 2, none⟩ = false := P0.out.2.2
           have HN0 := Aside0.mk hn0
           clear hn0)
        | ((with_reducible refine gate_store (t := 3) (p := 31) rfl ?_)
           refine store_event (t := 3) (p := 31) (v := ?vo_w4) (w1 := (w3.setCell ⟨g, i.toNat * 8 + 2, none⟩ (.int .i64 (wrap64 (wrap64 (b + 1) + 1))))) ?hg ?ho ?hn ?hr ?_; (case ho => rfl); (case hg => rfl); (case hn => rfl); (case hr => first | (go_simp; done) | (go_simp; rfl)); intro w4 hw
           have HW2 := Aside0.mk (show Sw S w w4 by rw [hw]; exact HW.out.then_ (Sw.set_num HN0.out P0.out.1 _))
           clear hw hx hf HW P0 HN0
           have HW := HW2
           clear HW2
           have P0 := Aside0.mk (Q3.out.step (S' := S) (fun _ h => h) HW.out)
           obtain ⟨n0, hn0⟩ := P0.out.2.1
           have hx : w4.cell? ⟨g, i.toNat * 8 + 3, none⟩ = some (.int .i64 n0) := hn0
           have hf : w4.frozen? ⟨g, i.toNat * 8 + 3, none⟩ = false := P0.out.2.2
           have HN0 := Aside0.mk hn0
           clear hn0)
        | ((with_reducible refine gate_store (t := 3) (p := 39) rfl ?_)
           refine store_event (t := 3) (p := 39) (v := ?vo_w5) (w1 := (w4.setCell ⟨g, i.toNat * 8 + 3, none⟩ (.int .i64 (wrap64 (wrap64 (wrap64 (b + 1) + 1) + 1))))) ?hg ?ho ?hn ?hr ?_; (case ho => rfl); (case hg => rfl); (case hn => rfl); (case hr => first | (go_simp; done) | (go_simp; rfl)); intro w5 hw
           have HW2 := Aside0.mk (show Sw S w w5 by rw [hw]; exact HW.out.then_ (Sw.set_num HN0.out P0.out.1 _))
           clear hw hx hf HW P0 HN0
           have HW := HW2
           clear HW2
           have hx : w5.cell? ⟨g, i.toNat * 8 + 4, none⟩ = some (.slice A4 x.f3.f1.length c4) := HW.out.row _ _ _ _ Q4.out)
        | ((with_reducible refine gate_callee (f := 16) rfl ?_)
           refine goesL_ (some 49) rfl rfl Try.func16 (by kernel_rfl) rfl #[.slice A4 x.f3.f1.length c4, .int .i64 (wrap64 (wrap64 (wrap64 (wrap64 (b + 1) + 1) + 1) + 1))] rfl (by (try simp only [List.map_toArray, List.map_cons, List.map_nil]); first | done | rfl) ?_
           (with_reducible refine (GoL.go (goL x.f3.f1.length HXL.out.1) (wrap64 (wrap64 (wrap64 (wrap64 (b + 1) + 1) + 1) + 1)) A4 c4 S _ (by rw [HW4.out.1]; have := HE.out; omega) (by rw [HW4.out.1]; have := HE.out; omega) (G4.out.step (fun _ h => h) HW.out)).mono ?_)
           rintro e w6 ⟨rfl, hb⟩
           refine ⟨_, rfl, ?_⟩
           have HW2 := Aside0.mk (HW.out.then_ hb)
           clear hb hx HW
           have HW := HW2
           clear HW2
           have hx : w6.cell? ⟨g, i.toNat * 8 + 5, none⟩ = some (.slice A5 x.f3.f2.length c5) := HW.out.row _ _ _ _ Q5.out)
        | ((with_reducible refine gate_callee (f := 73) rfl ?_)
           refine goesL_ (some 57) rfl rfl Try.func73 (by kernel_rfl) rfl #[.slice A5 x.f3.f2.length c5, .int .i64 (wrap64 (wrap64 (wrap64 (wrap64 (b + 1) + 1) + 1) + 1) + (x.f3.f1.length : Nat))] rfl (by (try simp only [List.map_toArray, List.map_cons, List.map_nil]); first | done | rfl) ?_
           (with_reducible refine (GoTS.go HXL.out.2.1 (wrap64 (wrap64 (wrap64 (wrap64 (b + 1) + 1) + 1) + 1) + (x.f3.f1.length : Nat)) A5 c5 S _ (by rw [HW4.out.1]; have := HE.out; omega) (by rw [HW4.out.1]; have := HE.out; omega) (G5.out.step (fun _ h => h) HW.out)).mono ?_)
           rintro e w7 ⟨rfl, hb⟩
           refine ⟨_, rfl, ?_⟩
           have HW2 := Aside0.mk (HW.out.then_ hb)
           clear hb hx HW
           have HW := HW2
           clear HW2
           have hx : w7.cell? ⟨g, i.toNat * 8 + 6, none⟩ = some (.slice A6 x.f4.length c6) := HW.out.row _ _ _ _ Q6.out)
        | ((with_reducible refine gate_callee (f := 16) rfl ?_)
           refine goesL_ (some 64) rfl rfl Try.func16 (by kernel_rfl) rfl #[.slice A6 x.f4.length c6, .int .i64 (wrap64 (wrap64 (wrap64 (wrap64 (b + 1) + 1) + 1) + 1) + (x.f3.f1.length : Nat) + (cnTypeS x.f3.f2 : Nat))] rfl (by (try simp only [List.map_toArray, List.map_cons, List.map_nil]); first | done | rfl) ?_
           (with_reducible refine (GoL.go (goL x.f4.length HXL.out.2.2.1) (wrap64 (wrap64 (wrap64 (wrap64 (b + 1) + 1) + 1) + 1) + (x.f3.f1.length : Nat) + (cnTypeS x.f3.f2 : Nat)) A6 c6 S _ (by rw [HW4.out.1]; have := HE.out; omega) (by rw [HW4.out.1]; have := HE.out; omega) (G6.out.step (fun _ h => h) HW.out)).mono ?_)
           rintro e w8 ⟨rfl, hb⟩
           refine ⟨_, rfl, ?_⟩
           have HW2 := Aside0.mk (HW.out.then_ hb)
           clear hb hx HW
           have HW := HW2
           clear HW2
           have hx : w8.cell? ⟨g, i.toNat * 8 + 7, none⟩ = some (.slice A7 x.f5.length c7) := HW.out.row _ _ _ _ Q7.out)
        | ((with_reducible refine gate_callee (f := 47) rfl ?_)
           refine goesL_ (some 71) rfl rfl Try.func47 (by kernel_rfl) rfl #[.slice A7 x.f5.length c7, .int .i64 (wrap64 (wrap64 (wrap64 (wrap64 (b + 1) + 1) + 1) + 1) + (x.f3.f1.length : Nat) + (cnTypeS x.f3.f2 : Nat) + (x.f4.length : Nat))] rfl (by (try simp only [List.map_toArray, List.map_cons, List.map_nil]); first | done | rfl) ?_
           (with_reducible refine (GoES.go HXL.out.2.2.2 (wrap64 (wrap64 (wrap64 (wrap64 (b + 1) + 1) + 1) + 1) + (x.f3.f1.length : Nat) + (cnTypeS x.f3.f2 : Nat) + (x.f4.length : Nat)) A7 c7 S _ (by rw [HW4.out.1]; have := HE.out; omega) (by rw [HW4.out.1]; have := HE.out; omega) (G7.out.step (fun _ h => h) HW.out)).mono ?_)
           rintro e w9 ⟨rfl, hb⟩
           refine ⟨_, rfl, ?_⟩
           have HW2 := Aside0.mk (HW.out.then_ hb)
           clear hb hx HW
           have HW := HW2
           clear HW2
))
      obtain ⟨k1, rfl⟩ : ∃ m, gk = m + 1 := ⟨gk - 1, by have := HI.out; have := HLT.out; omega⟩
      go_roundg k1
      case measure => omega
      case rel =>
        have hz : i.toNat + 1 = (wrap64 (i + 1)).toNat := by have := HI.out; have := HLT.out; have := HA.out; unfold wrap64; omega
        have hw1 : wrap64 (i + 1) = i + 1 := by have := HI.out; have := HLT.out; have := HA.out; unfold wrap64; omega
        refine ⟨wrap64 (wrap64 (wrap64 (wrap64 (b + 1) + 1) + 1) + 1) + (x.f3.f1.length : Nat) + (cnTypeS x.f3.f2 : Nat) + (x.f4.length : Nat) + (cnTermS x.f5 : Nat), wrap64 (i + 1), rfl, rfl, ⟨by have := HI.out; omega, by have := HI.out; have := HLT.out; omega, ?_⟩, HW⟩
        rw [← hz, HE.out.2.2.2.2.2.1, HE.out.2.2.2.2.2.2, HW4.out.1]; have := HE.out; omega
    · have hd : decide (i < (xs.length : Int)) = false := decide_eq_false hlt
      have HT := Aside0.mk (show i.toNat = xs.length by have := HI.out; omega)
      clear hlt
      go_wp2
      go_ret
      refine ⟨?_, HW.out⟩
      rw [HI.out.2.2, HT.out, List.take_of_length_le (Nat.le_refl _)]
      rfl
theorem goES_in : ∀ x : S36, SmTerm x → GoES x.f5 := by
  refine indTermI fun x ih hx => ?_
  exact goES_step x.f5 hx.p5.1 (fun y hy => ⟨(hx.p5.2 y hy).p3.p1.1, goTS_sm y.f3 (hx.p5.2 y hy).p3, (hx.p5.2 y hy).p4.1, ih y hy (hx.p5.2 y hy)⟩)
set_option maxHeartbeats 8000000 in
set_option maxRecDepth 100000 in
/-- markType. -/
theorem goT (x : S33) (hx : SmType x) (m a : Int) (A1 A2 : Option Addr) (c1 c2 : Nat) (S : Nat → Prop) (w : World) (h0 : 0 ≤ a) (h1 : a + cnType x ≤ 4611686018427387000) (g1 : ShL S w A1 x.f1.length) (g2 : ShTS S w x.f2 A2 0) :
    Calls Try.prog 46 #[.agg #[.int .i64 m, .slice A1 x.f1.length c1, .slice A2 x.f2.length c2], .int .i64 a] w fun e w' => e = .returned (.int .i64 (a + x.f1.length + cnTypeS x.f2)) ∧ Sw S w w' := by
  have HX := Aside0.mk hx
  have HA := Aside0.mk (And.intro h0 (And.intro h1 (cnType_eq x)))
  have G1 := Aside0.mk g1; have G2 := Aside0.mk g2
  have hu36 := Try.underlying33
  clear hx h0 h1 g1 g2
  go_enter Try.func46, Try.ntmps46
  go_wp2_with (first
    | ((with_reducible refine gate_dst (N := 2) rfl ?_); refine box_event ?hg (N := 2) ?hd (cs := #[.int .i64 m, .slice A1 x.f1.length c1, .slice A2 x.f2.length c2]) (t := 33) ?hr ?_; (case hd => rfl); (case hg => rfl); (case hr => first | (go_simp; done) | (go_simp; rfl)); intro gb hg w1 hbox hb
       have HW := Aside0.mk (Sw.of_below S hb)
       have K2 := Aside0.mk ((blk_cell hbox 2).trans rfl : w1.cell? ⟨gb, 2, none⟩ = some (.slice A2 x.f2.length c2))
       have hx : w1.cell? ⟨gb, 1, none⟩ = some (.slice A1 x.f1.length c1) := (blk_cell hbox 1).trans rfl
       clear hg hbox hb)
    | ((with_reducible refine gate_callee (f := 16) rfl ?_)
       refine goesL_ (some 8) rfl rfl Try.func16 (by kernel_rfl) rfl #[.slice A1 x.f1.length c1, .int .i64 a] rfl (by (try simp only [List.map_toArray, List.map_cons, List.map_nil]); first | done | rfl) ?_
       (with_reducible refine (GoL.go (goL x.f1.length HX.out.p1.1) a A1 c1 S _ (by have := HA.out; omega) (by have := HA.out; omega) (G1.out.step (fun _ h => h) HW.out)).mono ?_)
       rintro e w2 ⟨rfl, hb⟩
       refine ⟨_, rfl, ?_⟩
       have hy : w2.cell? ⟨gb, 2, none⟩ = some (.slice A2 x.f2.length c2) := hb.row _ _ _ _ K2.out
       have HW2 := Aside0.mk (HW.out.then_ hb)
       clear hb hx HW)
    | ((with_reducible refine gate_callee (f := 73) rfl ?_)
       refine goesL_ (some 12) rfl rfl Try.func73 (by kernel_rfl) rfl #[.slice A2 x.f2.length c2, .int .i64 (a + (x.f1.length : Nat))] rfl (by (try simp only [List.map_toArray, List.map_cons, List.map_nil]); first | done | rfl) ?_
       (with_reducible refine (GoTS.go (goTS_sm x HX.out) (a + (x.f1.length : Nat)) A2 c2 S _ (by have := HA.out; omega) (by have := HA.out; omega) (G2.out.step (fun _ h => h) HW2.out)).mono ?_)
       rintro e w3 ⟨rfl, hb⟩
       refine ⟨_, rfl, ?_⟩
       have HW3 := Aside0.mk (HW2.out.then_ hb)
       clear hb hy HW2))
  go_ret
  exact ⟨rfl, HW3.out⟩
set_option maxHeartbeats 8000000 in
set_option maxRecDepth 100000 in
/-- markTerm. -/
theorem goE (x : S36) (hx : SmTerm x) (a : Int) (A4 A5 A6 A7 : Option Addr) (c4 c5 c6 c7 : Nat) (S : Nat → Prop) (w : World) (h0 : 0 ≤ a) (h1 : a + cnTerm x ≤ 4611686018427387000) (g4 : ShL S w A4 x.f3.f1.length) (g5 : ShTS S w x.f3.f2 A5 0) (g6 : ShL S w A6 x.f4.length) (g7 : ShES S w x.f5 A7 0) :
    Calls Try.prog 15 #[.agg #[.int .i64 x.f0, .string x.f1, .int .i64 x.f2, .int .i64 x.f3.f0, .slice A4 x.f3.f1.length c4, .slice A5 x.f3.f2.length c5, .slice A6 x.f4.length c6, .slice A7 x.f5.length c7], .int .i64 a] w fun e w' => ∃ r : Int, 0 ≤ r ∧ e = .returned (.int .i64 r) ∧ Sw S w w' := by
  have HX := Aside0.mk hx
  have HA := Aside0.mk (And.intro h0 (And.intro h1 (And.intro (cnTerm_eq x) (cnType_eq x.f3))))
  have G4 := Aside0.mk g4; have G5 := Aside0.mk g5; have G6 := Aside0.mk g6; have G7 := Aside0.mk g7
  have hu36 := Try.underlying36
  clear hx h0 h1 g4 g5 g6 g7
  go_enter Try.func15, Try.ntmps15
  go_wp2_with (first
    | ((with_reducible refine gate_dst (N := 2) rfl ?_); refine box_event ?hg (N := 2) ?hd (cs := #[.int .i64 x.f0, .string x.f1, .int .i64 x.f2, .int .i64 x.f3.f0, .slice A4 x.f3.f1.length c4, .slice A5 x.f3.f2.length c5, .slice A6 x.f4.length c6, .slice A7 x.f5.length c7]) (t := 36) ?hr ?_; (case hd => rfl); (case hg => rfl); (case hr => first | (go_simp; done) | (go_simp; rfl)); intro gb hg w1 hbox hb
       have HW := Aside0.mk (Sw.of_below S hb)
       have K6 := Aside0.mk ((blk_cell hbox 6).trans rfl : w1.cell? ⟨gb, 6, none⟩ = some (.slice A6 x.f4.length c6))
       have K7 := Aside0.mk ((blk_cell hbox 7).trans rfl : w1.cell? ⟨gb, 7, none⟩ = some (.slice A7 x.f5.length c7))
       have hx3 : w1.cell? ⟨gb, 3, none⟩ = some (.int .i64 x.f3.f0) := (blk_cell hbox 3).trans rfl
       have hx4 : w1.cell? ⟨gb, 4, none⟩ = some (.slice A4 x.f3.f1.length c4) := (blk_cell hbox 4).trans rfl
       have hx5 : w1.cell? ⟨gb, 5, none⟩ = some (.slice A5 x.f3.f2.length c5) := (blk_cell hbox 5).trans rfl
       clear hg hbox hb)
    | ((with_reducible refine gate_callee (f := 46) rfl ?_)
       refine goesL_ (some 8) rfl rfl Try.func46 (by kernel_rfl) rfl #[.agg #[.int .i64 x.f3.f0, .slice A4 x.f3.f1.length c4, .slice A5 x.f3.f2.length c5], .int .i64 a] rfl (by (try simp only [List.map_toArray, List.map_cons, List.map_nil]); first | done | rfl) ?_
       (with_reducible refine (goT x.f3 HX.out.p3 x.f3.f0 a A4 A5 c4 c5 S _ (by have := HA.out; omega) (by have := HA.out; omega) (G4.out.step (fun _ h => h) HW.out) (G5.out.step (fun _ h => h) HW.out)).mono ?_)
       rintro e w2 ⟨rfl, hb⟩
       refine ⟨_, rfl, ?_⟩
       have hy : w2.cell? ⟨gb, 6, none⟩ = some (.slice A6 x.f4.length c6) := hb.row _ _ _ _ K6.out
       have K72 := Aside0.mk (hb.row _ _ _ _ K7.out)
       have HW2 := Aside0.mk (HW.out.then_ hb)
       clear hb hx3 hx4 hx5 HW K6 K7)
    | ((with_reducible refine gate_callee (f := 16) rfl ?_)
       refine goesL_ (some 12) rfl rfl Try.func16 (by kernel_rfl) rfl #[.slice A6 x.f4.length c6, .int .i64 (a + (x.f3.f1.length : Nat) + (cnTypeS x.f3.f2 : Nat))] rfl (by (try simp only [List.map_toArray, List.map_cons, List.map_nil]); first | done | rfl) ?_
       (with_reducible refine (GoL.go (goL x.f4.length HX.out.p4.1) (a + (x.f3.f1.length : Nat) + (cnTypeS x.f3.f2 : Nat)) A6 c6 S _ (by have := HA.out; omega) (by have := HA.out; omega) (G6.out.step (fun _ h => h) HW2.out)).mono ?_)
       rintro e w3 ⟨rfl, hb⟩
       refine ⟨_, rfl, ?_⟩
       have hz : w3.cell? ⟨gb, 7, none⟩ = some (.slice A7 x.f5.length c7) := hb.row _ _ _ _ K72.out
       have HW3 := Aside0.mk (HW2.out.then_ hb)
       clear hb hy HW2 K72)
    | ((with_reducible refine gate_callee (f := 47) rfl ?_)
       refine goesL_ (some 16) rfl rfl Try.func47 (by kernel_rfl) rfl #[.slice A7 x.f5.length c7, .int .i64 (a + (x.f3.f1.length : Nat) + (cnTypeS x.f3.f2 : Nat) + (x.f4.length : Nat))] rfl (by (try simp only [List.map_toArray, List.map_cons, List.map_nil]); first | done | rfl) ?_
       (with_reducible refine (GoES.go (goES_in x HX.out) (a + (x.f3.f1.length : Nat) + (cnTypeS x.f3.f2 : Nat) + (x.f4.length : Nat)) A7 c7 S _ (by have := HA.out; omega) (by have := HA.out; omega) (G7.out.step (fun _ h => h) HW3.out)).mono ?_)
       rintro e w4 ⟨rfl, hb⟩
       refine ⟨_, rfl, ?_⟩
       have HW4 := Aside0.mk (HW3.out.then_ hb)
       clear hb hz HW3))
  go_ret
  exact ⟨_, by have := HA.out; omega, rfl, HW4.out⟩
theorem cnType_cv : ∀ x : S25, cnType (cvType x) ≤ wtType x + 1 := by
  refine indTypeL fun x ih => ?_
  rw [cnType_eq, cvType_eq, wtType_eq]
  have hL : ∀ l : List S25, (∀ y ∈ l, cnType (cvType y) ≤ wtType y + 1) → cnTypeS (l.map cvType) ≤ l.length + (l.map wtType).sum := by
    intro l
    induction l with
    | nil => intro _; simp [cnTypeS]
    | cons y r ih2 =>
      intro h
      have h1 := h y (List.mem_cons_self ..)
      have h2 := ih2 (fun z hz => h z (List.mem_cons_of_mem _ hz))
      simp only [List.map_cons, cnTypeS, List.sum_cons, List.length_cons] at h2 ⊢
      omega
  have := hL x.f2 ih
  dsimp only
  rw [cvTypeS_map, wtTypeS_sum]
  unfold wts
  omega
theorem cnTerm_cv : ∀ x : S28, cnTerm (cvTerm x) ≤ 4 * (wtTerm x + 1) := by
  refine indTermL fun x ih => ?_
  have h3 := cnType_cv x.f3
  rw [cnType_eq] at h3
  rw [cnTerm_eq, cvTerm_eq, wtTerm_eq]
  have hL : ∀ l : List S28, (∀ y ∈ l, cnTerm (cvTerm y) ≤ 4 * (wtTerm y + 1)) → cnTermS (l.map cvTerm) ≤ 4 * (l.length + (l.map wtTerm).sum) := by
    intro l
    induction l with
    | nil => intro _; simp [cnTermS]
    | cons y r ih2 =>
      intro h
      have h1 := h y (List.mem_cons_self ..)
      have h2 := ih2 (fun z hz => h z (List.mem_cons_of_mem _ hz))
      simp only [List.map_cons, cnTermS, List.sum_cons, List.length_cons] at h2 ⊢
      omega
  have := hL x.f5 ih
  dsimp only
  rw [cvTermS_map, wtTermS_sum]
  unfold wts
  omega

end Go.Proofs.Ytfidfpmgoaainaa.Px
end
section
namespace Go.Proofs.Ytfidfpmgoaainaa.Px
open Go.RowKit Go.Proofs.Ytfidfpmgoaainaa.Ext Go.Proofs.YtfidfpmgoaainaaW.PrintWords Go.Proofs.YtfidfpmgoaainaaW.PrintLast Go.Proofs.YtfidfpmgoaainaaW.PrintMore
attribute [local go_sem] max2_int min2_int max_two min_two max_three min_three max_four min_four   -- for this text's walks alone
set_option linter.unusedVariables false
set_option linter.unusedSimpArgs false

-- NOT PRINTED: function 3 (laws_FnExactIsClosed)

/-! ### spec_TablesIn: function 18 -/
mutual
def spec_TablesIn.j0 : Nat → List ByteArray → Int → ByteArray → Int → Int → List ByteArray → List (S33) → List ByteArray → List (S36) → Option (List ByteArray)
  | 0, _, _, _, _, _, _, _, _, _ => none
  | k + 1, x3, x284000, x284001, x284002, x284003, x284004, x284005, x284006, x284007 => spec_TablesIn.l0 k x3 0 x284000 x284001 x284002 x284003 x284004 x284005 x284006 x284007
def spec_TablesIn.l0 : Nat → List ByteArray → Int → Int → ByteArray → Int → Int → List ByteArray → List (S33) → List ByteArray → List (S36) → Option (List ByteArray)
  | 0, _, _, _, _, _, _, _, _, _, _ => none
  | k + 1, x3, x4, x284000, x284001, x284002, x284003, x284004, x284005, x284006, x284007 => if x4 < (x284007.length : Int) then (if 0 ≤ x4 then ((spec_TablesIn.f k ((rd_T36 x284007 x4).f0) ((rd_T36 x284007 x4).f1) ((rd_T36 x284007 x4).f2) ((rd_T36 x284007 x4).f3.f0) ((rd_T36 x284007 x4).f3.f1) ((rd_T36 x284007 x4).f3.f2) ((rd_T36 x284007 x4).f4) ((rd_T36 x284007 x4).f5)).bind fun t291 => ((spec_UniteNames.f k x3 t291).bind fun t294 => (spec_TablesIn.l0 k t294 (wrap64 (x4 + 1)) x284000 x284001 x284002 x284003 x284004 x284005 x284006 x284007))) else (none)) else (some x3)
def spec_TablesIn.f : Nat → Int → ByteArray → Int → Int → List ByteArray → List (S33) → List ByteArray → List (S36) → Option (List ByteArray)
  | 0, _, _, _, _, _, _, _, _ => none
  | k + 1, a0_0, a0_1, a0_2, a0_3, l0_4, l0_5, l0_6, l0_7 => (some (([] : List ByteArray) : List ByteArray)).bind fun y284 => (if a0_0 = 12 then (if y284.length < 8796093022208 then (spec_TablesIn.j0 k (y284 ++ [a0_1]) a0_0 a0_1 a0_2 a0_3 l0_4 l0_5 l0_6 l0_7) else (none)) else (spec_TablesIn.j0 k y284 a0_0 a0_1 a0_2 a0_3 l0_4 l0_5 l0_6 l0_7))
end
set_option maxHeartbeats 8000000 in
set_option maxRecDepth 100000 in
theorem spec_TablesIn.calls (k : Nat) : ∀ (a0_0 : Int) (a0_1 : ByteArray) (a0_2 : Int) (a0_3 : Int) (A0_4 : Option Addr) (c0_4 : Nat) (l0_4 : List ByteArray) (A0_5 : Option Addr) (c0_5 : Nat) (l0_5 : List (S33)) (A0_6 : Option Addr) (c0_6 : Nat) (l0_6 : List ByteArray) (A0_7 : Option Addr) (c0_7 : Nat) (l0_7 : List (S36)) (r : List ByteArray) (w : World) (hr0_4 : Kd.C Kd.string w A0_4 l0_4.length l0_4) (hc0_4 : l0_4.length ≤ c0_4) (hr0_5 : Kd.C k33 w A0_5 l0_5.length l0_5) (hc0_5 : l0_5.length ≤ c0_5) (hr0_6 : Kd.C Kd.string w A0_6 l0_6.length l0_6) (hc0_6 : l0_6.length ≤ c0_6) (hr0_7 : Kd.C k36 w A0_7 l0_7.length l0_7) (hc0_7 : l0_7.length ≤ c0_7) (h : spec_TablesIn.f k a0_0 a0_1 a0_2 a0_3 l0_4 l0_5 l0_6 l0_7 = some r),
    Calls Try.prog 18 #[.agg #[.int .i64 a0_0, .string a0_1, .int .i64 a0_2, .int .i64 a0_3, .slice A0_4 l0_4.length c0_4, .slice A0_5 l0_5.length c0_5, .slice A0_6 l0_6.length c0_6, .slice A0_7 l0_7.length c0_7]] w fun e w' => ∃ v0_ : Value, e = .returned (v0_) ∧ Kd.R Kd.string 9 w' w.heap.size (fun _ => True) v0_ r ∧ Below w.heap.size w w' := by
  induction k using Nat.strongRecOn with
  | _ k ih =>
  intro a0_0 a0_1 a0_2 a0_3 A0_4 c0_4 l0_4 A0_5 c0_5 l0_5 A0_6 c0_6 l0_6 A0_7 c0_7 l0_7 r w hr0_4 hc0_4 hr0_5 hc0_5 hr0_6 hc0_6 hr0_7 hc0_7 h
  cases k with
  | zero => exact absurd h (by simp [spec_TablesIn.f])
  | succ k =>
  simp only [spec_TablesIn.f] at h
  have hu36 := Try.underlying36
  have HR0_4 := Aside0.mk hr0_4
  have HC0_4 := Aside0.mk hc0_4
  clear hr0_4 hc0_4
  have HR0_5 := Aside0.mk hr0_5
  have HC0_5 := Aside0.mk hc0_5
  clear hr0_5 hc0_5
  have HR0_6 := Aside0.mk hr0_6
  have HC0_6 := Aside0.mk hc0_6
  clear hr0_6 hc0_6
  have HR0_7 := Aside0.mk hr0_7
  have HC0_7 := Aside0.mk hc0_7
  clear hr0_7 hc0_7
  have HB := Aside0.mk (Below.refl w.heap.size w)
  have H : ((some (([] : List ByteArray) : List ByteArray)).bind fun y284 => (if a0_0 = 12 then (if y284.length < 8796093022208 then (spec_TablesIn.j0 k (y284 ++ [a0_1]) a0_0 a0_1 a0_2 a0_3 l0_4 l0_5 l0_6 l0_7) else (none)) else (spec_TablesIn.j0 k y284 a0_0 a0_1 a0_2 a0_3 l0_4 l0_5 l0_6 l0_7))) = some r := h
  clear h
  obtain ⟨y284, hy284⟩ : ∃ y_ : List ByteArray, y_ = (([] : List ByteArray)) := ⟨_, rfl⟩
  replace H : (if a0_0 = 12 then (if y284.length < 8796093022208 then (spec_TablesIn.j0 k (y284 ++ [a0_1]) a0_0 a0_1 a0_2 a0_3 l0_4 l0_5 l0_6 l0_7) else (none)) else (spec_TablesIn.j0 k y284 a0_0 a0_1 a0_2 a0_3 l0_4 l0_5 l0_6 l0_7)) = some r := by first | (rw [hy284]; with_reducible exact H) | (have H2_ := (Option.bind_some _ _).symm.trans H; rw [hy284]; with_reducible exact H2_) | (have H2_ := (Option.bind_some _ _).symm.trans H; with_reducible exact H2_) | with_reducible exact H | (rw [hy284]; exact H) | exact H
  have Ny284 := Aside0.mk hy284
  clear hy284
  have HC2 := Aside0.mk H
  clear H
  go_enter Try.func18, Try.ntmps18
  go_upto_if 8 with (first | ((with_reducible refine gate_dst (N := 1) rfl ?_); refine box_event ?hg (N := 1) ?hd (cs := #[.int .i64 a0_0, .string a0_1, .int .i64 a0_2, .int .i64 a0_3, .slice A0_4 l0_4.length c0_4, .slice A0_5 l0_5.length c0_5, .slice A0_6 l0_6.length c0_6, .slice A0_7 l0_7.length c0_7]) (t := 36) ?hr ?_; (case hd => rfl); (case hg => rfl); (case hr => first | (go_simp; done) | (go_simp; rfl)); intro gb283 hg w3 hbox hb; have n0_ := Aside0.mk (below_step (by repeat (first | (with_reducible first | exact HB.out | apply below_alloc | apply pw_below_drewN | apply below_drew1) | exact HB.out)) hb); have n1_ := Aside0.mk (hbox); have n2_ := Aside0.mk ((by rw [hg]; exact (below_size (by repeat (first | (with_reducible first | exact HB.out | apply below_alloc | apply pw_below_drewN | apply below_drew1) | exact HB.out))) : w.heap.size ≤ gb283)); have n3_ := Aside0.mk ((by rw [hg]; exact (below_size (by repeat (first | (with_reducible first | exact HB.out | apply below_alloc | apply pw_below_drewN | apply below_drew1) | exact HB.out))) : w.heap.size ≤ gb283)); clear HB; have HB := n0_; have BK283 := n1_; have GW283 := n2_; have GE283 := n3_; clear n0_ n1_ n2_ n3_; clear hb hbox hg) | ((with_reducible refine gate_dst (N := 5) rfl ?_); refine Kd.R_lit Kd.string _ 9 ?hg (N := 5) ?hd (xs := ([] : List ByteArray)) (inner := []) (ok := fun _ => True) (okp := fun _ => True) ?hr ?hp (fun _ hk => hk) trivial (Below.refl _ _) (Nat.le_refl _) (by simp) ?_; (case hd => rfl); (case hg => rfl); (case hr => first | (go_simp; done) | (go_simp; rfl)); (case hp => exact (Reps.none _ _)); intro v285 w4 ho5 hb hg_ hnew_; clear hg_ hnew_; (first | rw [← Ny284.out] at ho5 | (simp only [Int.reduceToNat] at ho5; rw [← Ny284.out] at ho5)); have n0_ := Aside0.mk (Kd.R_lower ho5 (below_size (by repeat (first | (with_reducible first | exact HB.out | apply below_alloc | apply pw_below_drewN | apply below_drew1 | refine below_set ?_ GE283.out) | exact HB.out)))); have n1_ := Aside0.mk (blk_below (g := gb283) (o := .cells #[.int .i64 a0_0, .string a0_1, .int .i64 a0_2, .int .i64 a0_3, .slice A0_4 l0_4.length c0_4, .slice A0_5 l0_5.length c0_5, .slice A0_6 l0_6.length c0_6, .slice A0_7 l0_7.length c0_7] 36 (0, 0)) (by (with_reducible repeat (first | refine blk_drewN ?_ _ | refine blk_drew ?_ | refine blk_alloc ?_ _)); exact BK283.out) hb); have n2_ := Aside0.mk (below_step (by repeat (first | (with_reducible first | exact HB.out | apply below_alloc | apply pw_below_drewN | apply below_drew1 | refine below_set ?_ GE283.out) | exact HB.out)) hb); clear BK283; clear HB; have HO286 := n0_; have BK283 := n1_; have HB := n2_; clear n0_ n1_ n2_; clear hb ho5; have hcz6_0 : w4.cell? ⟨gb283, 0, none⟩ = some (.int .i64 a0_0) := (blk_cell BK283.out 0).trans rfl; have hcz6_1 : w4.cell? ⟨gb283, 1, none⟩ = some (.string a0_1) := (blk_cell BK283.out 1).trans rfl; have hcz6_2 : w4.cell? ⟨gb283, 2, none⟩ = some (.int .i64 a0_2) := (blk_cell BK283.out 2).trans rfl; have hcz6_3 : w4.cell? ⟨gb283, 3, none⟩ = some (.int .i64 a0_3) := (blk_cell BK283.out 3).trans rfl; have hcz6_4 : w4.cell? ⟨gb283, 4, none⟩ = some (.slice A0_4 l0_4.length c0_4) := (blk_cell BK283.out 4).trans rfl; have hcz6_5 : w4.cell? ⟨gb283, 5, none⟩ = some (.slice A0_5 l0_5.length c0_5) := (blk_cell BK283.out 5).trans rfl; have hcz6_6 : w4.cell? ⟨gb283, 6, none⟩ = some (.slice A0_6 l0_6.length c0_6) := (blk_cell BK283.out 6).trans rfl; have hcz6_7 : w4.cell? ⟨gb283, 7, none⟩ = some (.slice A0_7 l0_7.length c0_7) := (blk_cell BK283.out 7).trans rfl; have hfz6_0 := blk_frozen BK283.out 0; have hfz6_1 := blk_frozen BK283.out 1; have hfz6_2 := blk_frozen BK283.out 2; have hfz6_3 := blk_frozen BK283.out 3; have hfz6_4 := blk_frozen BK283.out 4; have hfz6_5 := blk_frozen BK283.out 5; have hfz6_6 := blk_frozen BK283.out 6; have hfz6_7 := blk_frozen BK283.out 7))
  (try simp only [Act.put, List.setIfInBounds_toArray, List.set_cons_zero, List.set_cons_succ])
  go_cut [3] (fun v3 wc => ∃ (kq : Nat) (x3_1 : List ByteArray), Aside0 (spec_TablesIn.j0 kq x3_1 a0_0 a0_1 a0_2 a0_3 l0_4 l0_5 l0_6 l0_7 = some r) ∧ Aside0 (kq ≤ k) ∧ Aside0 (Kd.R Kd.string 9 wc w.heap.size (fun _ => True) v3 x3_1) ∧ Aside0 (wc.heap[gb283]? = some (.cells #[.int .i64 a0_0, .string a0_1, .int .i64 a0_2, .int .i64 a0_3, (.slice A0_4 l0_4.length c0_4), (.slice A0_5 l0_5.length c0_5), (.slice A0_6 l0_6.length c0_6), (.slice A0_7 l0_7.length c0_7)] 36 (0, 0))) ∧ Aside0 (Below w.heap.size w wc))
  case first =>
    have H := HC2.out
    clear HC2
    by_cases c7 : a0_0 = 12
    · rw [if_pos c7] at H
      have c7b0 : (a0_0 == 12) = true := beq_iff_eq.mpr c7
      have c7b1 : (a0_0 != 12) = false := bne_eq_false_iff_eq.mpr c7
      clear c7
      (first | rw [c7b0] | (simp only [i64_w, i32_w]; rw [c7b0]) | (rw [c7b1]; (try simp only [Bool.not_true, Bool.not_false])) | skip)
      by_cases c8 : y284.length < 8796093022208
      · rw [if_pos c8] at H
        have LMc8 := Aside0.mk c8
        clear c8
        obtain ⟨y287, hy287⟩ : ∃ y_ : List ByteArray, y_ = (y284 ++ [a0_1]) := ⟨_, rfl⟩
        replace H : (spec_TablesIn.j0 k y287 a0_0 a0_1 a0_2 a0_3 l0_4 l0_5 l0_6 l0_7) = some r := by first | (rw [hy287]; with_reducible exact H) | (have H2_ := (Option.bind_some _ _).symm.trans H; rw [hy287]; with_reducible exact H2_) | (have H2_ := (Option.bind_some _ _).symm.trans H; with_reducible exact H2_) | with_reducible exact H | (rw [hy287]; exact H) | exact H
        have Ny287 := Aside0.mk hy287
        clear hy287
        have H' := Aside0.mk H
        clear H
        have hcz9_0 : w4.cell? ⟨gb283, 0, none⟩ = some (.int .i64 a0_0) := (blk_cell BK283.out 0).trans rfl
        have hcz9_1 : w4.cell? ⟨gb283, 1, none⟩ = some (.string a0_1) := (blk_cell BK283.out 1).trans rfl
        have hcz9_2 : w4.cell? ⟨gb283, 2, none⟩ = some (.int .i64 a0_2) := (blk_cell BK283.out 2).trans rfl
        have hcz9_3 : w4.cell? ⟨gb283, 3, none⟩ = some (.int .i64 a0_3) := (blk_cell BK283.out 3).trans rfl
        have hcz9_4 : w4.cell? ⟨gb283, 4, none⟩ = some (.slice A0_4 l0_4.length c0_4) := (blk_cell BK283.out 4).trans rfl
        have hcz9_5 : w4.cell? ⟨gb283, 5, none⟩ = some (.slice A0_5 l0_5.length c0_5) := (blk_cell BK283.out 5).trans rfl
        have hcz9_6 : w4.cell? ⟨gb283, 6, none⟩ = some (.slice A0_6 l0_6.length c0_6) := (blk_cell BK283.out 6).trans rfl
        have hcz9_7 : w4.cell? ⟨gb283, 7, none⟩ = some (.slice A0_7 l0_7.length c0_7) := (blk_cell BK283.out 7).trans rfl
        have hfz9_0 := blk_frozen BK283.out 0
        have hfz9_1 := blk_frozen BK283.out 1
        have hfz9_2 := blk_frozen BK283.out 2
        have hfz9_3 := blk_frozen BK283.out 3
        have hfz9_4 := blk_frozen BK283.out 4
        have hfz9_5 := blk_frozen BK283.out 5
        have hfz9_6 := blk_frozen BK283.out 6
        have hfz9_7 := blk_frozen BK283.out 7
        go_wp2_with (first | ((with_reducible refine gate_builtin (b := .append) (xs := #[.tmp 9, .tmp 12]) rfl ?_); at_builtin; refine Kd.R_append Kd.string (w0 := w) w.heap.size rfl (.tmp 9) (.tmp 12) 22 9 (.string ⟨#[]⟩) 16 rfl Try.underlying22 info9 rfl (by decide) (by omega) v285 y284 a0_1 [.string a0_1] (fun _ => True) (fun _ => False) rfl rfl ?aP (fun _ hk => hk.elim) ?aF ?aO ?aB ?aS ?aL ?_; (case aP => exact rfl); (case aB => exact (by repeat (first | (with_reducible first | exact HB.out | apply below_alloc | apply pw_below_drewN | apply below_drew1 | refine below_set ?_ GE283.out) | exact HB.out))); (case aF => exact (fun _ _ => trivial)); (case aO => exact (by (with_reducible repeat (first | apply Kd.R_alloc | apply Kd.R_drewN | apply Kd.R_drew)); exact HO286.out)); (case aS => exact (below_size (by repeat (first | (with_reducible first | exact HB.out | apply below_alloc | apply pw_below_drewN | apply below_drew1 | refine below_set ?_ GE283.out) | exact HB.out)))); (case aL => have := LMc8.out; omega); intro v288 w10 ho hb hg hat; rw [← Ny287.out] at ho; have n0_ := Aside0.mk (blk_grown (g := gb283) (o := .cells #[.int .i64 a0_0, .string a0_1, .int .i64 a0_2, .int .i64 a0_3, .slice A0_4 l0_4.length c0_4, .slice A0_5 l0_5.length c0_5, .slice A0_6 l0_6.length c0_6, .slice A0_7 l0_7.length c0_7] 36 (0, 0)) (by (with_reducible repeat (first | refine blk_drewN ?_ _ | refine blk_drew ?_ | refine blk_alloc ?_ _)); exact BK283.out) hg (Kd.R_ne HO286.out BK283.out (by decide))); have n1_ := Aside0.mk (hb); have n2_ := Aside0.mk (ho); clear BK283; clear HB; clear HO286; have BK283 := n0_; have HB := n1_; have HO289 := n2_; clear n0_ n1_ n2_; clear ho hb hg hat))
        go_meet
        case rel => exact ⟨_, (y287), H', ⟨by first | omega | exact Nat.le_refl _⟩, ⟨by (with_reducible repeat (first | apply Kd.R_alloc | apply Kd.R_drewN | apply Kd.R_drew)); exact HO289.out⟩, ⟨by (with_reducible repeat (first | refine blk_drewN ?_ _ | refine blk_drew ?_ | refine blk_alloc ?_ _)); exact BK283.out⟩, ⟨by repeat (first | (with_reducible first | exact HB.out | apply below_alloc | apply pw_below_drewN | apply below_drew1 | refine below_set ?_ GE283.out) | exact HB.out)⟩⟩
      · rw [if_neg c8] at H
        exact absurd H (by simp)
    · rw [if_neg c7] at H
      have c7b0 : (a0_0 == 12) = false := beq_eq_false_iff_ne.mpr c7
      have c7b1 : (a0_0 != 12) = true := bne_iff_ne.mpr c7
      (first | rw [c7b0] | (simp only [i64_w, i32_w]; rw [c7b0]) | (rw [c7b1]; (try simp only [Bool.not_true, Bool.not_false])) | skip)
      have H' := Aside0.mk H
      clear H
      go_wp2
      go_meet
      case rel => exact ⟨_, (y284), H', ⟨by first | omega | exact Nat.le_refl _⟩, ⟨by (with_reducible repeat (first | apply Kd.R_alloc | apply Kd.R_drewN | apply Kd.R_drew)); exact HO286.out⟩, ⟨by (with_reducible repeat (first | refine blk_drewN ?_ _ | refine blk_drew ?_ | refine blk_alloc ?_ _)); exact BK283.out⟩, ⟨by repeat (first | (with_reducible first | exact HB.out | apply below_alloc | apply pw_below_drewN | apply below_drew1 | refine below_set ?_ GE283.out) | exact HB.out)⟩⟩
  case rest =>
    clear HC2
    try clear c1
    try clear p2
    try clear c7
    try clear c7b0
    try clear c7b1
    try clear c8
    try clear hcz6_0
    try clear hcz6_1
    try clear hcz6_2
    try clear hcz6_3
    try clear hcz6_4
    try clear hcz6_5
    try clear hcz6_6
    try clear hcz6_7
    try clear hcz9_0
    try clear hcz9_1
    try clear hcz9_2
    try clear hcz9_3
    try clear hcz9_4
    try clear hcz9_5
    try clear hcz9_6
    try clear hcz9_7
    try clear hfz6_0
    try clear hfz6_1
    try clear hfz6_2
    try clear hfz6_3
    try clear hfz6_4
    try clear hfz6_5
    try clear hfz6_6
    try clear hfz6_7
    try clear hfz9_0
    try clear hfz9_1
    try clear hfz9_2
    try clear hfz9_3
    try clear hfz9_4
    try clear hfz9_5
    try clear hfz9_6
    try clear hfz9_7
    obtain ⟨kq, x3_1, HA, HJ1, HO_3, BK283, HB⟩ := hcut
    cases kq with
    | zero => exact absurd HA.out (by simp [spec_TablesIn.j0])
    | succ kj1 =>
      have H := HA.out
      clear HA
      simp only [spec_TablesIn.j0] at H
      have H' := Aside0.mk H
      clear H
      go_wp2
      go_loopg [3, 4] kj1 (fun kq v3 v4 w' => ∃ (x3_2 : List ByteArray) (x4_2 : Int), v4 = .int .i64 x4_2 ∧ Aside0 (spec_TablesIn.l0 kq x3_2 x4_2 a0_0 a0_1 a0_2 a0_3 l0_4 l0_5 l0_6 l0_7 = some r) ∧ Aside0 (kq ≤ kj1) ∧ Aside0 (Kd.R Kd.string 9 w' w.heap.size (fun _ => True) v3 x3_2) ∧ Aside0 (w'.heap[gb283]? = some (.cells #[.int .i64 a0_0, .string a0_1, .int .i64 a0_2, .int .i64 a0_3, (.slice A0_4 l0_4.length c0_4), (.slice A0_5 l0_5.length c0_5), (.slice A0_6 l0_6.length c0_6), (.slice A0_7 l0_7.length c0_7)] 36 (0, 0))) ∧ Aside0 (Below w.heap.size w w'))
      case atStart => exact ⟨(x3_1), (0), (by first | rfl | (simp; done) | (simp [i64_w, i32_w]; done) | (simp [*]; done)), H', ⟨Nat.le_refl _⟩, ⟨by (with_reducible repeat (first | apply Kd.R_alloc | apply Kd.R_drewN | apply Kd.R_drew)); exact HO_3.out⟩, ⟨by (with_reducible repeat (first | refine blk_drewN ?_ _ | refine blk_drew ?_ | refine blk_alloc ?_ _)); exact BK283.out⟩, ⟨by repeat (first | (with_reducible first | exact HB.out | apply below_alloc | apply pw_below_drewN | apply below_drew1 | refine below_set ?_ GE283.out) | exact HB.out)⟩⟩
      case round =>
        clear H'
        try clear c1
        try clear p2
        try clear c7
        try clear c7b0
        try clear c7b1
        try clear c8
        try clear hcz6_0
        try clear hcz6_1
        try clear hcz6_2
        try clear hcz6_3
        try clear hcz6_4
        try clear hcz6_5
        try clear hcz6_6
        try clear hcz6_7
        try clear hcz9_0
        try clear hcz9_1
        try clear hcz9_2
        try clear hcz9_3
        try clear hcz9_4
        try clear hcz9_5
        try clear hcz9_6
        try clear hcz9_7
        try clear hfz6_0
        try clear hfz6_1
        try clear hfz6_2
        try clear hfz6_3
        try clear hfz6_4
        try clear hfz6_5
        try clear hfz6_6
        try clear hfz6_7
        try clear hfz9_0
        try clear hfz9_1
        try clear hfz9_2
        try clear hfz9_3
        try clear hfz9_4
        try clear hfz9_5
        try clear hfz9_6
        try clear hfz9_7
        try clear p2
        obtain ⟨x3_2, x4_2, rfl, HA, HK2, HO_3, BK283, HB⟩ := hrel
        cases gk with
        | zero => exact absurd HA.out (by simp [spec_TablesIn.l0])
        | succ k2 =>
          have H := HA.out
          clear HA
          simp only [spec_TablesIn.l0] at H
          by_cases c11 : x4_2 < (l0_7.length : Int)
          · rw [if_pos c11] at H
            have c11b0 : decide (x4_2 < (l0_7.length : Int)) = true := decide_eq_true c11
            clear c11
            by_cases c12 : 0 ≤ x4_2
            · rw [if_pos c12] at H
              have c12b0 : decide (0 ≤ x4_2) = true := decide_eq_true c12
              clear c12
              replace H := Option.bind_eq_some_iff.mp H
              obtain ⟨t291, A130, H⟩ := H
              replace H : ((spec_UniteNames.f k2 x3_2 t291).bind fun t294 => (spec_TablesIn.l0 k2 t294 (wrap64 (x4_2 + 1)) a0_0 a0_1 a0_2 a0_3 l0_4 l0_5 l0_6 l0_7)) = some r := H
              have A13 := Aside0.mk A130
              clear A130
              replace H := Option.bind_eq_some_iff.mp H
              obtain ⟨t294, A140, H⟩ := H
              replace H : (spec_TablesIn.l0 k2 t294 (wrap64 (x4_2 + 1)) a0_0 a0_1 a0_2 a0_3 l0_4 l0_5 l0_6 l0_7) = some r := H
              have A14 := Aside0.mk A140
              clear A140
              have H' := Aside0.mk H
              clear H
              have hcz15_0 : wr.cell? ⟨gb283, 0, none⟩ = some (.int .i64 a0_0) := (blk_cell BK283.out 0).trans rfl
              have hcz15_1 : wr.cell? ⟨gb283, 1, none⟩ = some (.string a0_1) := (blk_cell BK283.out 1).trans rfl
              have hcz15_2 : wr.cell? ⟨gb283, 2, none⟩ = some (.int .i64 a0_2) := (blk_cell BK283.out 2).trans rfl
              have hcz15_3 : wr.cell? ⟨gb283, 3, none⟩ = some (.int .i64 a0_3) := (blk_cell BK283.out 3).trans rfl
              have hcz15_4 : wr.cell? ⟨gb283, 4, none⟩ = some (.slice A0_4 l0_4.length c0_4) := (blk_cell BK283.out 4).trans rfl
              have hcz15_5 : wr.cell? ⟨gb283, 5, none⟩ = some (.slice A0_5 l0_5.length c0_5) := (blk_cell BK283.out 5).trans rfl
              have hcz15_6 : wr.cell? ⟨gb283, 6, none⟩ = some (.slice A0_6 l0_6.length c0_6) := (blk_cell BK283.out 6).trans rfl
              have hcz15_7 : wr.cell? ⟨gb283, 7, none⟩ = some (.slice A0_7 l0_7.length c0_7) := (blk_cell BK283.out 7).trans rfl
              have hfz15_0 := blk_frozen BK283.out 0
              have hfz15_1 := blk_frozen BK283.out 1
              have hfz15_2 := blk_frozen BK283.out 2
              have hfz15_3 := blk_frozen BK283.out 3
              have hfz15_4 := blk_frozen BK283.out 4
              have hfz15_5 := blk_frozen BK283.out 5
              have hfz15_6 := blk_frozen BK283.out 6
              have hfz15_7 := blk_frozen BK283.out 7
              have p290 : 0 ≤ (x4_2 : Int) := of_decide_eq_true (by first | (with_reducible assumption) | assumption)
              have q290 : x4_2 < (l0_7.length : Int) := of_decide_eq_true (by first | (with_reducible assumption) | assumption)
              obtain ⟨ad290, A290_4, c290_4, A290_5, c290_5, A290_6, c290_6, A290_7, c290_7, e290, hx290_0, hx290_1, hx290_2, hx290_3, hx290_4, hx290_5, hx290_6, hx290_7, hl290_4, hi290_4, hl290_5, hi290_5, hl290_6, hi290_6, hl290_7, hi290_7⟩ := at_T36 HR0_7.out x4_2 p290 q290
              cases e290
              replace hx290_0 := (HB.out.cell (World.block_lt_of_cell? w _ hx290_0)).trans hx290_0
              replace hx290_1 := (HB.out.cell (World.block_lt_of_cell? w _ hx290_1)).trans hx290_1
              replace hx290_2 := (HB.out.cell (World.block_lt_of_cell? w _ hx290_2)).trans hx290_2
              replace hx290_3 := (HB.out.cell (World.block_lt_of_cell? w _ hx290_3)).trans hx290_3
              replace hx290_4 := (HB.out.cell (World.block_lt_of_cell? w _ hx290_4)).trans hx290_4
              replace hx290_5 := (HB.out.cell (World.block_lt_of_cell? w _ hx290_5)).trans hx290_5
              replace hx290_6 := (HB.out.cell (World.block_lt_of_cell? w _ hx290_6)).trans hx290_6
              replace hx290_7 := (HB.out.cell (World.block_lt_of_cell? w _ hx290_7)).trans hx290_7
              have HR290_4 := Aside0.mk hi290_4
              have HC290_4 := Aside0.mk hl290_4
              clear hi290_4 hl290_4
              have HR290_5 := Aside0.mk hi290_5
              have HC290_5 := Aside0.mk hl290_5
              clear hi290_5 hl290_5
              have HR290_6 := Aside0.mk hi290_6
              have HC290_6 := Aside0.mk hl290_6
              clear hi290_6 hl290_6
              have HR290_7 := Aside0.mk hi290_7
              have HC290_7 := Aside0.mk hl290_7
              clear hi290_7 hl290_7
              replace p290 := eq_true p290
              replace q290 := eq_true q290
              go_wp2_with (first | ((with_reducible refine gate_callee (f := 18) rfl ?_); refine goesL_ (some 27) rfl rfl Try.func18 (by kernel_rfl) rfl #[.agg #[.int .i64 ((rd_T36 l0_7 x4_2).f0), .string ((rd_T36 l0_7 x4_2).f1), .int .i64 ((rd_T36 l0_7 x4_2).f2), .int .i64 ((rd_T36 l0_7 x4_2).f3.f0), .slice A290_4 ((rd_T36 l0_7 x4_2).f3.f1).length c290_4, .slice A290_5 ((rd_T36 l0_7 x4_2).f3.f2).length c290_5, .slice A290_6 ((rd_T36 l0_7 x4_2).f4).length c290_6, .slice A290_7 ((rd_T36 l0_7 x4_2).f5).length c290_7]] rfl (by (try simp only [List.map_toArray, List.map_cons, List.map_nil]); first | done | rfl | (simp only [List.length_drop, List.length_take]; rfl)) ?_; (with_reducible refine (ih k2 (by have := HJ1.out; have := HK2.out; omega) ((rd_T36 l0_7 x4_2).f0) ((rd_T36 l0_7 x4_2).f1) ((rd_T36 l0_7 x4_2).f2) ((rd_T36 l0_7 x4_2).f3.f0) _ _ ((rd_T36 l0_7 x4_2).f3.f1) _ _ ((rd_T36 l0_7 x4_2).f3.f2) _ _ ((rd_T36 l0_7 x4_2).f4) _ _ ((rd_T36 l0_7 x4_2).f5) t291 _ ?side1 ?side2 ?side3 ?side4 ?side5 ?side6 ?side7 ?side8 A13.out).mono ?_); (case side1 => repeat (first | exact (Kd.C_below HR290_4.out HB.out) | (with_reducible refine Kd.C_alloc ?_ _) | (with_reducible refine Kd.C_drewN ?_ _) | (with_reducible refine Kd.C_drew ?_))); (case side2 => exact HC290_4.out); (case side3 => repeat (first | exact (Kd.C_below HR290_5.out HB.out) | (with_reducible refine Kd.C_alloc ?_ _) | (with_reducible refine Kd.C_drewN ?_ _) | (with_reducible refine Kd.C_drew ?_))); (case side4 => exact HC290_5.out); (case side5 => repeat (first | exact (Kd.C_below HR290_6.out HB.out) | (with_reducible refine Kd.C_alloc ?_ _) | (with_reducible refine Kd.C_drewN ?_ _) | (with_reducible refine Kd.C_drew ?_))); (case side6 => exact HC290_6.out); (case side7 => repeat (first | exact (Kd.C_below HR290_7.out HB.out) | (with_reducible refine Kd.C_alloc ?_ _) | (with_reducible refine Kd.C_drewN ?_ _) | (with_reducible refine Kd.C_drew ?_))); (case side8 => exact HC290_7.out); rintro e w16 ⟨v292, rfl, ho0, hb⟩; refine ⟨_, rfl, ?_⟩; have n0_ := Aside0.mk (Kd.R_elder' (by (with_reducible repeat (first | apply Kd.R_alloc | apply Kd.R_drewN | apply Kd.R_drew)); exact HO_3.out) (Kd.R_base ho0) hb); have n1_ := Aside0.mk (Kd.R_lower (Kd.R_new' ho0 (Kd.R_lt (by (with_reducible repeat (first | apply Kd.R_alloc | apply Kd.R_drewN | apply Kd.R_drew)); exact HO_3.out))) (below_size (by repeat (first | (with_reducible first | exact HB.out | apply below_alloc | apply pw_below_drewN | apply below_drew1 | refine below_set ?_ GE283.out) | exact HB.out)))); have n2_ := Aside0.mk (blk_below (g := gb283) (o := .cells #[.int .i64 a0_0, .string a0_1, .int .i64 a0_2, .int .i64 a0_3, .slice A0_4 l0_4.length c0_4, .slice A0_5 l0_5.length c0_5, .slice A0_6 l0_6.length c0_6, .slice (some ad290) l0_7.length c0_7] 36 (0, 0)) (by (with_reducible repeat (first | refine blk_drewN ?_ _ | refine blk_drew ?_ | refine blk_alloc ?_ _)); exact BK283.out) hb); have n3_ := Aside0.mk (below_step (by repeat (first | (with_reducible first | exact HB.out | apply below_alloc | apply pw_below_drewN | apply below_drew1 | refine below_set ?_ GE283.out) | exact HB.out)) hb); clear HO_3; clear BK283; clear HB; have HO_3 := n0_; have HO293 := n1_; have BK283 := n2_; have HB := n3_; clear n0_ n1_ n2_ n3_; (try clear hb); (try clear hb2); (try clear hk); (try clear hi); (try clear ho0); obtain ⟨Ao17, co17, eo17⟩ := Kd.R_slice HO_3.out; subst eo17; obtain ⟨Ao18, co18, eo18⟩ := Kd.R_slice HO293.out; subst eo18) | ((with_reducible refine gate_callee (f := 44) rfl ?_); refine goesL_ (some 28) rfl rfl Try.func44 (by kernel_rfl) rfl #[.slice Ao17 x3_2.length co17, .slice Ao18 t291.length co18] rfl (by (try simp only [List.map_toArray, List.map_cons, List.map_nil]); first | done | rfl | (simp only [List.length_drop, List.length_take]; rfl)) ?_; (with_reducible refine (spec_UniteNames.calls k2 _ _ x3_2 _ _ t291 t294 _ ?side1 ?side2 ?side3 ?side4 A14.out).mono ?_); (case side1 => repeat (first | exact (Kd.R_reads' HO_3.out).2.2 | (with_reducible refine Kd.C_alloc ?_ _) | (with_reducible refine Kd.C_drewN ?_ _) | (with_reducible refine Kd.C_drew ?_))); (case side2 => exact (Kd.R_reads' HO_3.out).2.1); (case side3 => repeat (first | exact (Kd.R_reads' HO293.out).2.2 | (with_reducible refine Kd.C_alloc ?_ _) | (with_reducible refine Kd.C_drewN ?_ _) | (with_reducible refine Kd.C_drew ?_))); (case side4 => exact (Kd.R_reads' HO293.out).2.1); rintro e w19 ⟨v295, rfl, ho0, hb⟩; refine ⟨_, rfl, ?_⟩; have n0_ := Aside0.mk (Kd.R_elder' (by (with_reducible repeat (first | apply Kd.R_alloc | apply Kd.R_drewN | apply Kd.R_drew)); exact HO_3.out) (Kd.R_base ho0) hb); have n1_ := Aside0.mk (Kd.R_elder' (by (with_reducible repeat (first | apply Kd.R_alloc | apply Kd.R_drewN | apply Kd.R_drew)); exact HO293.out) (Kd.R_base ho0) hb); have n2_ := Aside0.mk (Kd.R_lower (Kd.R_new' (Kd.R_new' ho0 (Kd.R_lt (by (with_reducible repeat (first | apply Kd.R_alloc | apply Kd.R_drewN | apply Kd.R_drew)); exact HO_3.out))) (Kd.R_lt (by (with_reducible repeat (first | apply Kd.R_alloc | apply Kd.R_drewN | apply Kd.R_drew)); exact HO293.out))) (below_size (by repeat (first | (with_reducible first | exact HB.out | apply below_alloc | apply pw_below_drewN | apply below_drew1 | refine below_set ?_ GE283.out) | exact HB.out)))); have n3_ := Aside0.mk (blk_below (g := gb283) (o := .cells #[.int .i64 a0_0, .string a0_1, .int .i64 a0_2, .int .i64 a0_3, .slice A0_4 l0_4.length c0_4, .slice A0_5 l0_5.length c0_5, .slice A0_6 l0_6.length c0_6, .slice (some ad290) l0_7.length c0_7] 36 (0, 0)) (by (with_reducible repeat (first | refine blk_drewN ?_ _ | refine blk_drew ?_ | refine blk_alloc ?_ _)); exact BK283.out) hb); have n4_ := Aside0.mk (below_step (by repeat (first | (with_reducible first | exact HB.out | apply below_alloc | apply pw_below_drewN | apply below_drew1 | refine below_set ?_ GE283.out) | exact HB.out)) hb); clear HO_3; clear HO293; clear BK283; clear HB; have HO_3 := n0_; have HO293 := n1_; have HO296 := n2_; have BK283 := n3_; have HB := n4_; clear n0_ n1_ n2_ n3_ n4_; (try clear hb); (try clear hb2); (try clear hk); (try clear hi); (try clear ho0)))
              go_roundg k2
              case measure => have := HJ1.out; have := HK2.out; omega
              case rel => exact ⟨(t294), (wrap64 (x4_2 + 1)), (by first | rfl | (simp; done) | (simp [i64_w, i32_w]; done) | (simp [*]; done)), H', ⟨by have := HJ1.out; have := HK2.out; omega⟩, ⟨by (with_reducible repeat (first | apply Kd.R_alloc | apply Kd.R_drewN | apply Kd.R_drew)); exact Kd.R_mono HO296.out (fun _ hk => trivial)⟩, ⟨by (with_reducible repeat (first | refine blk_drewN ?_ _ | refine blk_drew ?_ | refine blk_alloc ?_ _)); exact BK283.out⟩, ⟨by repeat (first | (with_reducible first | exact HB.out | apply below_alloc | apply pw_below_drewN | apply below_drew1 | refine below_set ?_ GE283.out) | exact HB.out)⟩⟩
            · rw [if_neg c12] at H
              exact absurd H (by simp)
          · rw [if_neg c11] at H
            have c11b0 : decide (x4_2 < (l0_7.length : Int)) = false := decide_eq_false c11
            clear c11
            obtain rfl := Option.some.inj H
            have hcz20_0 : wr.cell? ⟨gb283, 0, none⟩ = some (.int .i64 a0_0) := (blk_cell BK283.out 0).trans rfl
            have hcz20_1 : wr.cell? ⟨gb283, 1, none⟩ = some (.string a0_1) := (blk_cell BK283.out 1).trans rfl
            have hcz20_2 : wr.cell? ⟨gb283, 2, none⟩ = some (.int .i64 a0_2) := (blk_cell BK283.out 2).trans rfl
            have hcz20_3 : wr.cell? ⟨gb283, 3, none⟩ = some (.int .i64 a0_3) := (blk_cell BK283.out 3).trans rfl
            have hcz20_4 : wr.cell? ⟨gb283, 4, none⟩ = some (.slice A0_4 l0_4.length c0_4) := (blk_cell BK283.out 4).trans rfl
            have hcz20_5 : wr.cell? ⟨gb283, 5, none⟩ = some (.slice A0_5 l0_5.length c0_5) := (blk_cell BK283.out 5).trans rfl
            have hcz20_6 : wr.cell? ⟨gb283, 6, none⟩ = some (.slice A0_6 l0_6.length c0_6) := (blk_cell BK283.out 6).trans rfl
            have hcz20_7 : wr.cell? ⟨gb283, 7, none⟩ = some (.slice A0_7 l0_7.length c0_7) := (blk_cell BK283.out 7).trans rfl
            have hfz20_0 := blk_frozen BK283.out 0
            have hfz20_1 := blk_frozen BK283.out 1
            have hfz20_2 := blk_frozen BK283.out 2
            have hfz20_3 := blk_frozen BK283.out 3
            have hfz20_4 := blk_frozen BK283.out 4
            have hfz20_5 := blk_frozen BK283.out 5
            have hfz20_6 := blk_frozen BK283.out 6
            have hfz20_7 := blk_frozen BK283.out 7
            go_wp2
            go_ret
            exact ⟨_, by first | rfl | (simp [errW_none, errW_some] <;> rfl) | (simp [*, errW_none, errW_some] <;> rfl), by (with_reducible repeat (first | apply Kd.R_alloc | apply Kd.R_drewN | apply Kd.R_drew)); exact HO_3.out, by repeat (first | (with_reducible first | exact HB.out | apply below_alloc | apply pw_below_drewN | apply below_drew1 | refine below_set ?_ GE283.out) | exact HB.out)⟩

/-- A state of type 86 at block g of W; what its slices lead to came in by w0. -/
def IsS86 (w0 W : World) (g : Nat) (f0 : List Int) (f1 : Int) (f2 : Int) : Prop := ∃ A0 c0, W.heap[g]? = some (.cells #[.slice A0 f0.length c0, .int .i64 f1, .int .i64 f2] 86 (0, 0)) ∧ w0.heap.size ≤ g ∧ Kd.C (Kd.int .u8) w0 A0 f0.length f0
theorem IsS86.grown {w0 W : World} {g : Nat} {f0 : List Int} {f1 : Int} {f2 : Int} {W1 : World} {row : Option Nat} (h : IsS86 w0 W g f0 f1 f2) (hw : W.grownBy W1 row) (hne : some g ≠ row) : IsS86 w0 W1 g f0 f1 f2 := by
  obtain ⟨A0, c0, hb, hg, hr0⟩ := h
  exact ⟨A0, c0, blk_grown hb hw hne, hg, hr0⟩
theorem IsS86.kept {w0 W : World} {g : Nat} {f0 : List Int} {f1 : Int} {f2 : Int} {W1 : World} {S : Nat → Prop} (h : IsS86 w0 W g f0 f1 f2) (hk : Kept W W1 S) (hne : ¬ S g) : IsS86 w0 W1 g f0 f1 f2 := by
  obtain ⟨A0, c0, hb, hg, hr0⟩ := h
  exact ⟨A0, c0, blk_kept hb hk hne, hg, hr0⟩
theorem IsS86.below {w0 W : World} {g : Nat} {f0 : List Int} {f1 : Int} {f2 : Int} {W1 : World} (h : IsS86 w0 W g f0 f1 f2) (hw : Below W.heap.size W W1) : IsS86 w0 W1 g f0 f1 f2 := h.grown (grown_of_below hw none) (by simp)
theorem IsS86.alloc {w0 W : World} {g : Nat} {f0 : List Int} {f1 : Int} {f2 : Int} (h : IsS86 w0 W g f0 f1 f2) (o : Obj) : IsS86 w0 (W.alloc o) g f0 f1 f2 := h.below (below_alloc (Below.refl _ _) o)
theorem IsS86.drewN {w0 W : World} {g : Nat} {f0 : List Int} {f1 : Int} {f2 : Int} (h : IsS86 w0 W g f0 f1 f2) (m : Nat) : IsS86 w0 (W.drewN m) g f0 f1 f2 := h
theorem IsS86.drew {w0 W : World} {g : Nat} {f0 : List Int} {f1 : Int} {f2 : Int} (h : IsS86 w0 W g f0 f1 f2) : IsS86 w0 W.drew g f0 f1 f2 := h
theorem IsS86.at_ {w0 W : World} {g : Nat} {f0 : List Int} {f1 : Int} {f2 : Int} {w' : World} {m : Nat} (hq : W.drewN m = w') (h : IsS86 w0 W g f0 f1 f2) : IsS86 w0 w' g f0 f1 f2 := by subst hq; exact IsS86.drewN h m
theorem IsS86.apart {w0 W : World} {g : Nat} {f0 : List Int} {f1 : Int} {f2 : Int} {α : Type} {d : Kd α} {e : Nat} {base : Nat} {ok : Nat → Prop} {v : Value} {xs : List α} (h : IsS86 w0 W g f0 f1 f2) (ho : d.R e W base ok v xs) (ht : ∀ q, q ∈ e :: d.E → q ≠ 86) : d.R e W base (fun k => ok k ∧ k ≠ g) v xs := by
  obtain ⟨A0, c0, hb, hg, hr0⟩ := h
  exact Kd.R_types ho hb ht
theorem IsS86.own_ne {w0 W : World} {g : Nat} {f0 : List Int} {f1 : Int} {f2 : Int} {α : Type} {d : Kd α} {e : Nat} {base : Nat} {ok : Nat → Prop} {v : Value} {xs : List α} (h : IsS86 w0 W g f0 f1 f2) (ho : d.R e W base ok v xs) (ht : e ≠ 86) : some g ≠ v.ownBlock := by
  obtain ⟨A0, c0, hb, hg, hr0⟩ := h
  exact Kd.R_ne ho hb ht
theorem IsS86.lt {w0 W : World} {g : Nat} {f0 : List Int} {f1 : Int} {f2 : Int} (h : IsS86 w0 W g f0 f1 f2) : g < W.heap.size := by
  obtain ⟨A0, c0, hb, hg, hr0⟩ := h
  exact blk_lt hb
end Go.Proofs.Ytfidfpmgoaainaa.Px
end
section
namespace Go.Proofs.Ytfidfpmgoaainaa.Sm
open Go.RowKit Go.Proofs.YtfidfpmgoaainaaW.PrintWords Go.Proofs.Ytfidfpmgoaainaa.Ext
set_option linter.unusedVariables false
/-- How the elements of a type stand in memory, and how they read. -/
structure El (P : Program) (e : TypeId) (α : Type) where
  enc : α → Value
  lit : α → Lit
  ok : α → Prop
  zero : α
  into : ∀ x, ok x → plainElem (H := Unit) P e (enc x) = some (.lit (lit x), [])
  inv : ∀ v z, plainElem (H := Unit) P e v = some z → ∃ x, v = enc x ∧ z = (.lit (lit x), []) ∧ ok x
  inj : ∀ x y, lit x = lit y → x = y
  zok : ok zero
  zrun : ∀ w, (zeroValue e).run P w = .ok (enc zero) w
def elInt {P : Program} {e : TypeId} (he : P.underlying e = some (.int .i64)) (hz : ∀ w, (zeroValue e).run P w = .ok (.int .i64 0) w) : El P e Int where
  enc := .int .i64
  lit := .int .i64
  ok := fun x => (Lit.int .i64 x).wf = true
  zero := 0
  into := fun x hx => plainElem_int he hx
  inv := fun v z h => plainElem_int_inv he h
  inj := fun x y h => by injection h
  zok := by decide
  zrun := hz
section
variable {P : Program} {k e : TypeId} {α : Type} {E : El P e α}
/-- Block b is a map of at most n entries, from string (type k), that reads as_ f. -/
def SMap (E : El P e α) (k : TypeId) (W : World) (b n : Nat) (f : ByteArray → α) : Prop :=
  ∃ D : DataW Unit, W.ownsMap P k (plainElem P e) b n D ∧ Maps.IsMap D ∧ ∀ s : ByteArray, D.atKey (.string s.data.toList) (.lit (E.lit E.zero)) = .lit (E.lit (f s))
def put (f : ByteArray → α) (s : ByteArray) (v : α) : ByteArray → α := fun x => if x = s then v else f x
theorem SMap.kept {W W' : World} {b n : Nat} {f : ByteArray → α} (h : SMap E k W b n f) {row : Option Nat} (hg : W.grownBy W' row) (hne : some b ≠ row) : SMap E k W' b n f := by
  obtain ⟨D, h1, h2, h3⟩ := h
  exact ⟨D, h1.kept hg hne, h2, h3⟩
theorem SMap.lt {W : World} {b n : Nat} {f : ByteArray → α} (h : SMap E k W b n f) : b < W.heap.size := by
  obtain ⟨D, h1, _⟩ := h
  exact h1.lt
theorem SMap.at {W W' : World} {b n : Nat} {f : ByteArray → α} (h : SMap E k W b n f) (hb : W'.heap[b]? = W.heap[b]?) : SMap E k W' b n f := by
  obtain ⟨D, ⟨es, c, h1, h5⟩, h2, h3⟩ := h
  exact ⟨D, ⟨es, c, hb.trans h1, h5⟩, h2, h3⟩
theorem SMap.below {W W' : World} {b n : Nat} {f : ByteArray → α} (h : SMap E k W b n f) (hb : Below W.heap.size W W') : SMap E k W' b n f := h.at (hb.block _ h.lt)
theorem SMap.mono {W : World} {b n m : Nat} {f : ByteArray → α} (h : SMap E k W b n f) (hn : n ≤ m) : SMap E k W b m f := by
  obtain ⟨D, h1, h2, h3⟩ := h
  exact ⟨D, h1.mono hn, h2, h3⟩
theorem SMap.congr {W : World} {b n : Nat} {f g : ByteArray → α} (h : SMap E k W b n f) (hfg : ∀ s, f s = g s) : SMap E k W b n g := (funext hfg : f = g) ▸ h
theorem toList_inj {a b : ByteArray} (h : a.data.toList = b.data.toList) : a = b := by
  cases a; cases b
  simp only [ByteArray.mk.injEq]
  exact Array.toList_inj.1 h
theorem SMap.put_ {W : World} {b n : Nat} {f : ByteArray → α} {t : TypeId} (h : SMap E k W b n f) (ht : P.underlying t = some (.map k e)) (hk : P.underlying k = some .string) (hn : n < maxLen) (s : ByteArray) (hs : s.size ≤ maxLen) (v : α) (hv : E.ok v) :
    ∃ w', (Instr.mapUpdate t (.map (some b)) (.string s) (E.enc v)).run P W = .ok () w' ∧ SMap E k w' b (n + 1) (put f s v) ∧ W.grownBy w' (some b) := by
  obtain ⟨D, h1, h2, h3⟩ := h
  obtain ⟨w', hrun, r1, r2⟩ := h1.update (Maps.string_keyed hk) ht hn (WideMaps.keyOf_string_mk hk hs) (E.into v hv)
  refine ⟨w', hrun, ⟨_, r1, h2.put _ _, fun x => ?_⟩, r2⟩
  unfold put
  by_cases hx : x = s
  · subst hx
    rw [if_pos rfl]
    exact Maps.atKey_put_same h2 (by simp [WideAt.IsKeyLit]) _ _
  · rw [if_neg hx, Maps.atKey_put_other (fun hl => hx (toList_inj (by injection hl)))]
    exact h3 x
theorem SMap.get_ {W : World} {b n : Nat} {f : ByteArray → α} {t : TypeId} (h : SMap E k W b n f) (ht : P.underlying t = some (.map k e)) (hk : P.underlying k = some .string) (s : ByteArray) (hs : s.size ≤ maxLen) :
    (Instr.lookup t (.map (some b)) (.string s) false).run P W = .ok (E.enc (f s)) W ∧ E.ok (f s) := by
  obtain ⟨D, h1, h2, h3⟩ := h
  obtain ⟨v, ps, hrun, hR⟩ := h1.lookup (Maps.string_keyed hk) ht (E.zrun W) (E.into E.zero E.zok) (WideMaps.keyOf_string_mk hk hs)
  rw [h3 s] at hR
  obtain ⟨x, rfl, hz, hx⟩ := E.inv _ _ hR
  simp only [Prod.mk.injEq] at hz
  have : E.lit (f s) = E.lit x := by have := hz.1; injection this
  obtain rfl := E.inj _ _ this
  exact ⟨hrun, hx⟩
end
section
variable {P : Program} {k e : TypeId} {α : Type} {E : El P e α} {ops : Array Oper} {Q : Exit → Act → World → Prop}
theorem smake_event {rest : List Oper} {o : Oper} {a : Act} {W : World} (hg : o.guard = none) {t : TypeId} (hop : o.op = .makeMap t none) (E : El P e α) (k : TypeId)
    (h : ∀ gm w2, gm = W.heap.size → SMap E k w2 gm 0 (fun _ => E.zero) → Below W.heap.size W w2 → wpList P ops Q rest (a.put o.dst (.map (some gm))) w2) : wpList P ops Q (o :: rest) a W := by
  refine wpList_plain hg fun K hK => ?_
  unfold Oper.wp
  simp only [execOp, hop]
  simp [run_makeMap, Result.andThen]
  exact hK _ _ (h _ _ rfl ⟨.map [], World.ownsMap_made W P k _, Maps.isMap_empty, fun c => rfl⟩ (below_alloc (Below.refl _ _) _))
theorem sput_event {rest : List Oper} {o : Oper} {a : Act} {W : World} (hg : o.guard = none) {t : TypeId} {m x v : Operand} (hop : o.op = .mapUpdate t m x v) (ht : P.underlying t = some (.map k e)) (hk : P.underlying k = some .string)
    {b n : Nat} {f : ByteArray → α} (hm : a.eval m = .map (some b)) (hown : SMap E k W b n f) (hn : n < maxLen) (key : ByteArray) (val : α) (hx : a.eval x = .string key) (hv : a.eval v = E.enc val) (hkey : key.size ≤ maxLen) (hval : E.ok val)
    (h : ∀ w2, SMap E k w2 b (n + 1) (put f key val) → W.grownBy w2 (some b) → wpList P ops Q rest (a.put o.dst undef) w2) : wpList P ops Q (o :: rest) a W := by
  refine wpList_plain hg fun K' hK' => ?_
  obtain ⟨w', hrun, r1, r2⟩ := hown.put_ ht hk hn key hkey val hval
  unfold Oper.wp
  simp [execOp, hop, hm, hx, hv, hrun, Result.andThen]
  exact hK' _ _ (h w' r1 r2)
theorem sget_event {rest : List Oper} {o : Oper} {a : Act} {W : World} (hg : o.guard = none) {t : TypeId} {m x : Operand} (hop : o.op = .lookup t m x false) (ht : P.underlying t = some (.map k e)) (hk : P.underlying k = some .string)
    {b n : Nat} {f : ByteArray → α} (hm : a.eval m = .map (some b)) (hown : SMap E k W b n f) (key : ByteArray) (hx : a.eval x = .string key) (hkey : key.size ≤ maxLen)
    (h : wpList P ops Q rest (a.put o.dst (E.enc (f key))) W) : wpList P ops Q (o :: rest) a W := by
  refine wpList_plain hg fun K' hK' => ?_
  obtain ⟨hrun, _⟩ := hown.get_ ht hk key hkey
  unfold Oper.wp
  simp [execOp, hop, hm, hx, hrun, Result.andThen]
  exact hK' _ _ h
end
end Go.Proofs.Ytfidfpmgoaainaa.Sm
end
section
namespace Go.Proofs.Ytfidfpmgoaainaa.Px
open Go.RowKit Go.Proofs.YtfidfpmgoaainaaW.PrintWords Go.Proofs.YtfidfpmgoaainaaW.PrintLast Go.Proofs.Ytfidfpmgoaainaa.Pl Go.Proofs.Ytfidfpmgoaainaa.Ext
set_option linter.unusedVariables false
set_option linter.unusedSimpArgs false
def hasB (l : List ByteArray) (s : ByteArray) : Bool := l.any (fun x => decide (x = s))
def uni (out : List ByteArray) : List ByteArray → List ByteArray
  | [] => out
  | s :: r => if hasB out s = true then uni out r else uni (out ++ [s]) r
theorem tl (s : ByteArray) : s.toList = s.data.toList := Lib.toList_data s
theorem drop_at (out : List ByteArray) (j : Nat) (h : j < out.length) : out.drop j = out.getD j ByteArray.empty :: out.drop (j + 1) := by
  rw [List.drop_eq_getElem_cons h, List.getD_eq_getElem?_getD, List.getElem?_eq_getElem h]
  rfl
theorem hasB_iff (l : List ByteArray) (s : ByteArray) : hasB l s = true ↔ s ∈ l := by
  unfold hasB
  rw [List.any_eq_true]
  constructor
  · rintro ⟨x, hx, h⟩
    rw [decide_eq_true_eq] at h
    exact h ▸ hx
  · intro h
    exact ⟨s, h, decide_eq_true rfl⟩
/-- Is the name found from a place on? -/
theorem idx_ev (xs : List ByteArray) (hx : xs.length ≤ 2097152) (s : ByteArray) : ∃ t : Int, Ev (fun k => spec_IndexOf.f k xs s) t ∧ (t < 0 ↔ hasB xs s = false) := by
  suffices h : ∀ (m i : Nat), i + m = xs.length → ∃ t : Int, Ev (fun k => spec_IndexOf.l0 k xs s (i : Int)) t ∧ (t < 0 ↔ hasB (xs.drop i) s = false) by
    obtain ⟨t, h1, h2⟩ := h xs.length 0 (by omega)
    exact ⟨t, h1, by simpa using h2⟩
  intro m
  induction m with
  | zero =>
    intro i hi
    refine ⟨-1, Ev.up ?_, ?_⟩
    · simp only [spec_IndexOf.l0]; exact Ev.neg (by omega) (Ev.now _)
    · rw [List.drop_of_length_le (by omega)]; simp [hasB]
  | succ m ih =>
    intro i hi
    obtain ⟨t, h1, h2⟩ := ih (i + 1) (by omega)
    rw [drop_at xs i (by omega)]
    by_cases hc : (rdOf ByteArray.empty xs (i : Int)).toList = s.toList
    · refine ⟨(i : Int), Ev.up ?_, ?_⟩
      · simp only [spec_IndexOf.l0]; exact Ev.pos (by omega) (Ev.pos (by omega) (Ev.pos hc (Ev.now _)))
      · rw [rdOf_str, tl, tl] at hc
        have := Sm.toList_inj hc
        constructor
        · intro h; omega
        · intro h
          have h' : hasB (xs.getD i ByteArray.empty :: xs.drop (i + 1)) s = true := (hasB_iff _ _).2 (by rw [this]; exact List.mem_cons_self ..)
          rw [h'] at h
          cases h
    · refine ⟨t, Ev.up ?_, ?_⟩
      · simp only [spec_IndexOf.l0]
        refine Ev.pos (by omega) (Ev.pos (by omega) (Ev.neg hc ?_))
        rw [w1 (n := xs.length) (by omega) (by unfold maxLen; omega)]; exact h1
      · rw [h2]
        have hne : ¬ xs.getD i ByteArray.empty = s := fun h => hc (by rw [rdOf_str, h])
        have e : hasB (xs.getD i ByteArray.empty :: xs.drop (i + 1)) s = hasB (xs.drop (i + 1)) s := by unfold hasB; rw [List.any_cons, decide_eq_false hne, Bool.false_or]
        rw [e]
theorem uni_len : ∀ (l acc : List ByteArray), (uni acc l).length ≤ acc.length + l.length
  | [], acc => by simp [uni]
  | s :: r, acc => by
    unfold uni
    split
    · have := uni_len r acc; simp; omega
    · have := uni_len r (acc ++ [s]); simp at this ⊢; omega
theorem uni_append : ∀ (a b acc : List ByteArray), uni acc (a ++ b) = uni (uni acc a) b
  | [], b, acc => rfl
  | s :: r, b, acc => by
    by_cases h : hasB acc s = true
    · have e1 : uni acc (s :: (r ++ b)) = uni acc (r ++ b) := by rw [uni, if_pos h]
      have e2 : uni acc (s :: r) = uni acc r := by rw [uni, if_pos h]
      rw [List.cons_append, e1, e2]
      exact uni_append r b acc
    · have e1 : uni acc (s :: (r ++ b)) = uni (acc ++ [s]) (r ++ b) := by rw [uni, if_neg h]
      have e2 : uni acc (s :: r) = uni (acc ++ [s]) r := by rw [uni, if_neg h]
      rw [List.cons_append, e1, e2]
      exact uni_append r b (acc ++ [s])
theorem uni_nodup : ∀ (l acc : List ByteArray), acc.Nodup → (uni acc l).Nodup
  | [], acc, h => h
  | s :: r, acc, h => by
    unfold uni
    split
    · exact uni_nodup r acc h
    · rename_i hs
      refine uni_nodup r _ (List.nodup_append.2 ⟨h, List.pairwise_singleton _ _, ?_⟩)
      intro a ha b hb
      rw [List.mem_singleton.1 hb]
      intro e
      exact hs ((hasB_iff acc s).2 (e ▸ ha))
theorem unite_l1 (b : List ByteArray) (hb : b.length ≤ 2097152) : ∀ (m i : Nat) (acc : List ByteArray), i + m = b.length → acc.length + m ≤ 2097152 → acc.length + m ≤ 2097152 → Ev (fun k => spec_UniteNames.l1 k b acc (i : Int)) (uni acc (b.drop i)) := by
  intro m
  induction m with
  | zero =>
    intro i acc hi _ _
    refine Ev.up ?_
    simp only [spec_UniteNames.l1]
    rw [List.drop_of_length_le (by omega)]
    exact Ev.neg (by omega) (Ev.now _)
  | succ m ih =>
    intro i acc hi hl hl2
    refine Ev.up ?_
    simp only [spec_UniteNames.l1, w1 (show i < b.length by omega) (by unfold maxLen; omega), rdOf_str]
    obtain ⟨t, h1, h2⟩ := idx_ev acc (by omega) (b.getD i ByteArray.empty)
    refine Ev.pos (by omega) (Ev.pos (by omega) (Ev.bind h1 ?_))
    rw [drop_at b i (by omega)]
    unfold uni
    by_cases hc : hasB acc (b.getD i ByteArray.empty) = true
    · rw [if_pos hc]
      refine Ev.neg (fun h => by rw [h2.1 h] at hc; cases hc) (ih (i + 1) acc (by omega) (by omega) (by omega))
    · rw [if_neg hc]
      refine Ev.pos (h2.2 (by simpa using hc)) (Ev.pos (by omega) (ih (i + 1) _ (by omega) (by simp; omega) (by simp; omega)))
theorem spec_UniteNames_ev (a b : List ByteArray) (hl : a.length + b.length ≤ 2097152) : Ev (fun k => spec_UniteNames.f k a b) (uni [] (a ++ b)) := by
  suffices h : ∀ (m i : Nat) (acc : List ByteArray), i + m = a.length → acc.length ≤ i → Ev (fun k => spec_UniteNames.l0 k a b acc (i : Int)) (uni acc (a.drop i ++ b)) by
    simp only [spec_UniteNames.f]
    simpa using h a.length 0 [] (by omega) (Nat.le_refl _)
  intro m
  induction m with
  | zero =>
    intro i acc hi ha
    refine Ev.up ?_
    simp only [spec_UniteNames.l0]
    rw [List.drop_of_length_le (by omega), List.nil_append]
    refine Ev.neg (by omega) ?_
    have := unite_l1 b (by omega) b.length 0 acc (by omega) (by omega) (by omega)
    simpa using this
  | succ m ih =>
    intro i acc hi ha
    refine Ev.up ?_
    simp only [spec_UniteNames.l0, w1 (show i < a.length by omega) (by unfold maxLen; omega), rdOf_str]
    obtain ⟨t, h1, h2⟩ := idx_ev acc (by omega) (a.getD i ByteArray.empty)
    refine Ev.pos (by omega) (Ev.pos (by omega) (Ev.bind h1 ?_))
    rw [drop_at a i (by omega), List.cons_append]
    unfold uni
    by_cases hc : hasB acc (a.getD i ByteArray.empty) = true
    · rw [if_pos hc]
      refine Ev.neg (fun h => by rw [h2.1 h] at hc; cases hc) (ih (i + 1) acc (by omega) (by omega))
    · rw [if_neg hc]
      refine Ev.pos (h2.2 (by simpa using hc)) (Ev.pos (by omega) (ih (i + 1) _ (by omega) (by simp; omega)))

end Go.Proofs.Ytfidfpmgoaainaa.Px
end

/- The family Schema of mirrored types: the weight of a value, its copy, and what the laws' own helpers come to. No condition. -/
import Derived.Test.YtcgdaeaaimkhdaaZEmptyDBPyFValueM
import Derived.Test.YtcgdaeaaimkhdaaZEmptyDBPy7M
import Derived.Test.YtcgdaeaaimkhdaaZEmptyDBPy6M
import Derived.Test.YtcgdaeaaimkhdaaZEmptyDBWTabM
import Derived.Test.YtcgdaeaaimkhdaaZEmptyDBWLastM
import Derived.Test.YtcgdaeaaimkhdaaZEmptyDBPy10M
import Derived.Test.YtcgdaeaaimkhdaaZEmptyDBPy12M
section
namespace Go.Proofs.Ytcgdaeaaimkhdaa.Py
open Go.RowKit Go.Proofs.YtcgdaeaaimkhdaaW.PrintWords Go.Proofs.Ytcgdaeaaimkhdaa.Pl
set_option linter.unusedVariables false
set_option linter.unusedSimpArgs false
def wtSchema : S38 → Nat
  | ⟨x0⟩ => (x0.length + wtTableDeclS x0)
def cvSchema : S38 → S43
  | ⟨x0⟩ => ⟨(cvTableDeclS x0)⟩
theorem wtSchema_eq (x : S38) : wtSchema x = (x.f0.length + wtTableDeclS x.f0) := by cases x; simp only [wtSchema]
theorem cvSchema_eq (x : S38) : cvSchema x = ⟨(cvTableDeclS x.f0)⟩ := by cases x; simp only [cvSchema]
def SmSchema (x : S43) : Prop := ((x.f0.length ≤ 1048576 ∧ ∀ y ∈ x.f0, SmTableDecl y))
theorem SmSchema.p0 {x : S43} (h : SmSchema x) : (x.f0.length ≤ 1048576 ∧ ∀ y ∈ x.f0, SmTableDecl y) := h
theorem smSchema_of (x : S38) (hw : W38 x) (hw2 : wtSchema x ≤ 1048576) : SmSchema (cvSchema x) := by
  have hb := hw2
  rw [wtSchema_eq] at hb
  rw [cvSchema_eq]
  exact ⟨by (try dsimp only); rw [cvTableDeclS_map, List.length_map]; omega, fun z hz => by
      (try dsimp only at hz)
      rw [cvTableDeclS_map] at hz
      obtain ⟨y, hy, rfl⟩ := List.mem_map.1 hz
      exact smTableDecl_of y (hw.2 y hy) (by have := sum_le_of_mem wtTableDecl hy; rw [← wtTableDeclS_sum] at this; omega)⟩
theorem szSchema_ev : ∀ x : S38, W38 x → ∀ left : Int, 0 ≤ left → left ≤ 1048576 → Ev (fun k => laws_szSchema.f k (x.f0) left) (cut (wtSchema x) left) := by
  intro x hw left h0 hl
  simp only [laws_szSchema.f]
  rw [wtSchema_eq]
  have hb0 : (0 : Int) ≤ left ∧ left ≤ 1048576 := ⟨h0, hl⟩
  refine Ev.bind (szTableDeclS_of x.f0 hw.1 (fun y hy => szTableDecl_ev y (hw.2 y hy)) _ hb0.1 hb0.2) ?_
  by_cases hc0 : cut ((x.f0.length + wtTableDeclS x.f0)) left < 0
  · refine Ev.pos hc0 (Ev.const ?_)
    have hn : cut ((x.f0.length + wtTableDeclS x.f0)) left < 0 := hc0
    have hv := cut_neg.1 hn; unfold cut; rw [if_neg hv]
  refine Ev.neg hc0 ?_
  have hb1 : (0 : Int) ≤ cut ((x.f0.length + wtTableDeclS x.f0)) left ∧ cut ((x.f0.length + wtTableDeclS x.f0)) left ≤ 1048576 := ⟨by omega, by have := cut_le (n := (x.f0.length + wtTableDeclS x.f0)) h0; omega⟩
  exact Ev.const rfl
theorem toSchema_ev : ∀ x : S38, wtSchema x ≤ 1048576 → Ev (fun k => laws_toSchema.f k (x.f0)) (cvSchema x).f0 := by
  intro x hw2
  simp only [laws_toSchema.f]
  have hb := hw2
  rw [wtSchema_eq] at hb
  refine Ev.bind (toTableDeclS_of x.f0 (by omega) (fun y hy => toTableDecl_ev y (by have := sum_le_of_mem wtTableDecl hy; rw [← wtTableDeclS_sum] at this; omega))) ?_
  exact Ev.const (by rw [cvSchema_eq])
theorem eqSchema_ev : ∀ x : S43, SmSchema x → Ev (fun k => laws_eqSchema.f k (x.f0) (x.f0)) true := by
  intro x hs
  simp only [laws_eqSchema.f]
  refine Ev.bind (eqTableDeclS_of x.f0 hs.p0.1 (fun y hy => eqTableDecl_ev y (hs.p0.2 y hy))) (Ev.pos (by simp) ?_)
  exact Ev.now _
end Go.Proofs.Ytcgdaeaaimkhdaa.Py
end
section
namespace Go.Proofs.Ytcgdaeaaimkhdaa.Py
open Go.RowKit Go.Proofs.YtcgdaeaaimkhdaaW.PrintWords Go.Proofs.YtcgdaeaaimkhdaaW.PrintLast Go.Proofs.Ytcgdaeaaimkhdaa.Pl Go.Proofs.Ytcgdaeaaimkhdaa.Ext
set_option linter.unusedVariables false
set_option linter.unusedSimpArgs false
mutual
def cnType : S29 → Nat
  | ⟨x0, x1, x2⟩ => 1 + x1.length + cnTypeS x2
def cnTypeS : List S29 → Nat
  | [] => 0
  | x :: r => cnType x + cnTypeS r
end
mutual
noncomputable def mkType : S29 → Int → S29
  | ⟨x0, x1, x2⟩, a => ⟨a, mtS (a + 1) x1.length, mkTypeS x2 (a + 1 + (x1.length : Nat))⟩
noncomputable def mkTypeS : List S29 → Int → List S29
  | [], _ => []
  | x :: r, a => mkType x a :: mkTypeS r (a + cnType x)
end
theorem cnType_eq (x : S29) : cnType x = 1 + x.f1.length + cnTypeS x.f2 := by cases x; simp only [cnType]
theorem mkType_eq (x : S29) (a : Int) : mkType x a = ⟨a, mtS (a + 1) x.f1.length, mkTypeS x.f2 (a + 1 + (x.f1.length : Nat))⟩ := by cases x; simp only [mkType]
theorem mkTypeS_length : ∀ (xs : List S29) (a : Int), (mkTypeS xs a).length = xs.length
  | [], _ => rfl
  | x :: r, a => by simp [mkTypeS, mkTypeS_length r]
theorem cnTypeS_append : ∀ xs ys : List S29, cnTypeS (xs ++ ys) = cnTypeS xs + cnTypeS ys
  | [], ys => by simp [cnTypeS]
  | x :: r, ys => by simp only [List.cons_append, cnTypeS, cnTypeS_append r ys]; omega
theorem mkTypeS_append : ∀ (xs ys : List S29) (a : Int), mkTypeS (xs ++ ys) a = mkTypeS xs a ++ mkTypeS ys (a + cnTypeS xs)
  | [], ys, a => by simp [mkTypeS, cnTypeS]
  | x :: r, ys, a => by
    simp only [List.cons_append, mkTypeS, mkTypeS_append r ys, cnTypeS]
    rw [show a + cnType x + (cnTypeS r : Int) = a + ((cnType x + cnTypeS r : Nat) : Int) by omega]
theorem cnTypeS_take (xs : List S29) (i : Nat) (h : i < xs.length) : cnTypeS (xs.take (i + 1)) = cnTypeS (xs.take i) + cnType (xs.getD i z29) := by
  rw [List.take_succ_eq_append_getElem h, cnTypeS_append]
  simp [cnTypeS, List.getD_eq_getElem?_getD, h]
theorem cnTypeS_take_le (xs : List S29) (i : Nat) : cnTypeS (xs.take i) ≤ cnTypeS xs := by
  have := cnTypeS_append (xs.take i) (xs.drop i)
  rw [List.take_append_drop] at this
  omega
theorem mkTypeS_step (xs : List S29) (i : Nat) (h : i < xs.length) (a : Int) : (mkTypeS (xs.take i) a ++ xs.drop i).set i (mkType (xs.getD i z29) (a + cnTypeS (xs.take i))) = mkTypeS (xs.take (i + 1)) a ++ xs.drop (i + 1) := by
  have hl : (mkTypeS (xs.take i) a).length = i := by rw [mkTypeS_length, List.length_take]; omega
  rw [List.set_append, if_neg (by omega), hl, Nat.sub_self, List.drop_eq_getElem_cons h, List.set_cons_zero, List.take_succ_eq_append_getElem h, mkTypeS_append]
  simp [mkTypeS, List.getD_eq_getElem?_getD, h]
theorem mkTypeS_at (xs : List S29) (i : Nat) (h : i < xs.length) (a : Int) : (mkTypeS (xs.take i) a ++ xs.drop i).getD i z29 = xs.getD i z29 := by
  have hl : (mkTypeS (xs.take i) a).length = i := by rw [mkTypeS_length, List.length_take]; omega
  rw [List.getD_eq_getElem?_getD, List.getElem?_append_right (by omega), hl, Nat.sub_self, List.getElem?_drop, Nat.add_zero, List.getD_eq_getElem?_getD]
theorem mkTypeS_len (xs : List S29) (i : Nat) (a : Int) : (mkTypeS (xs.take i) a ++ xs.drop i).length = xs.length := by
  rw [List.length_append, mkTypeS_length, List.length_take, List.length_drop]; omega
/-- What markTypeS does with the row xs. -/
def MarksTypeS (xs : List S29) : Prop :=
  ∀ (a : Int) (v : Value) (ok : Nat → Prop) (w0 w : World), 0 ≤ a → a + cnTypeS xs ≤ 4611686018427387000 → Below w0.heap.size w0 w → Kd.S k29 29 w w0.heap.size ok v xs →
    Calls Try.prog 70 #[v, .int .i64 a] w fun e w' => e = .returned (.int .i64 (a + cnTypeS xs)) ∧ Kd.S k29 29 w' w0.heap.size ok v (mkTypeS xs a) ∧ Below w0.heap.size w0 w' ∧ Kept w w' ok
theorem MarksTypeS.go {xs : List S29} (h : MarksTypeS xs) (a : Int) (v : Value) (ok : Nat → Prop) (w0 w : World) (h0 : 0 ≤ a) (hb : a + cnTypeS xs ≤ 4611686018427387000) (hB : Below w0.heap.size w0 w) (ho : Kd.S k29 29 w w0.heap.size ok v xs) :
    Calls Try.prog 70 #[v, .int .i64 a] w fun e w' => e = .returned (.int .i64 (a + cnTypeS xs)) ∧ Kd.S k29 29 w' w0.heap.size ok v (mkTypeS xs a) ∧ Below w0.heap.size w0 w' ∧ Kept w w' ok := h a v ok w0 w h0 hb hB ho
set_option maxHeartbeats 8000000 in
set_option maxRecDepth 100000 in
theorem marksTypeS_step (xs : List S29) (hn : xs.length ≤ 1048576) (hx : ∀ y ∈ xs, y.f1.length ≤ 1048576 ∧ MarksTypeS y.f2) : MarksTypeS xs := by
  intro a v ok w0 w h0 hb hB ho
  have HO := Aside0.mk ho
  have HB := Aside0.mk hB
  have HK := Aside0.mk (Kept.refl w ok)
  have HX := Aside0.mk hx
  have HA := Aside0.mk (And.intro h0 (And.intro hb hn))
  clear ho hB hx h0 hb hn
  go_enter Try.func70, Try.ntmps70
  go_wp2
  go_loopg [1, 5] xs.length (fun kq v1 v5 w' => ∃ (b i : Int) (L : List S29), v1 = .int .i64 b ∧ v5 = .int .i64 i ∧ Aside0 (0 ≤ i ∧ i + kq = xs.length ∧ b = a + cnTypeS (xs.take i.toNat)) ∧ Aside0 (L = mkTypeS (xs.take i.toNat) a ++ xs.drop i.toNat) ∧ Aside0 (Kd.S k29 29 w' w0.heap.size ok v L) ∧ Aside0 (Below w0.heap.size w0 w') ∧ Aside0 (Kept w w' ok))
  case atStart => exact ⟨a, 0, xs, rfl, rfl, ⟨by omega, by omega, by simp [cnTypeS]⟩, ⟨by simp [mkTypeS]⟩, HO, HB, HK⟩
  case round =>
    clear HO HB HK
    obtain ⟨b, i, L, rfl, rfl, HI, HLE, HO, HB, HK⟩ := hrel
    obtain ⟨Ao, co, eo⟩ := Kd.S_slice HO.out
    have hlen : L.length = xs.length := by rw [HLE.out]; exact mkTypeS_len xs i.toNat a
    rw [hlen] at eo
    have HL := Aside0.mk hlen
    clear hlen
    subst eo
    by_cases hlt : i < (xs.length : Int)
    · have hd : decide (i < (xs.length : Int)) = true := decide_eq_true hlt
      have hi0 : (0 ≤ i) = True := eq_true HI.out.1
      have hi1 : (i < (xs.length : Int)) = True := eq_true hlt
      have HLT := Aside0.mk (show i.toNat < xs.length by have := HI.out.1; omega)
      obtain ⟨g, cap, eg, gb, gl, HG⟩ := Kd.S_form HO.out (by rw [HL.out]; have := HLT.out; omega)
      rw [HL.out] at eg
      injection eg with ea _ ec
      subst ea ec
      have GB := Aside0.mk gb
      clear gb gl HG
      obtain ⟨oki, c, hcl, hM, hcc, hfr, hoki, hH⟩ := Kd.S_elem HO.out z29 i HI.out.1 (by exact hlt)
      rw [HLE.out, mkTypeS_at xs i.toNat HLT.out a] at hM
      generalize hxe : xs.getD i.toNat z29 = x at hM
      have HXE := Aside0.mk hxe
      have hxm : x ∈ xs := by rw [← hxe]; exact mem_getD xs z29 _ HLT.out
      have HXL := Aside0.mk (HX.out x hxm)
      clear hxe hxm
      obtain ⟨v1, v2, o1, o2, rfl, s1, s2, d12, g1, g2⟩ := k29_openA hM
      have HH := Aside0.mk hH
      have H1 := Aside0.mk g1
      have HS1 := Aside0.mk s1
      have H2 := Aside0.mk g2
      have HS2 := Aside0.mk s2
      have HD := Aside0.mk d12
      have HOK := Aside0.mk (show ok g from (Kd.S_R HO.out).1 g rfl)
      have HOI := Aside0.mk hoki
      have HLT2 := Aside0.mk hlt
      have HE := Aside0.mk (show b + cnType x ≤ a + cnTypeS xs ∧ b = a + cnTypeS (xs.take i.toNat) ∧ 0 ≤ b ∧ 0 ≤ a ∧ a + cnTypeS xs ≤ 4611686018427387000 by
        have e1 := cnTypeS_take xs i.toNat HLT.out
        have e2 := cnTypeS_take_le xs (i.toNat + 1)
        rw [HXE.out] at e1
        have := HI.out; have := HA.out
        refine ⟨by omega, by omega, by omega, by omega, by omega⟩)
      have HW1 := Aside0.mk (show wrap64 (b + 1) = b + 1 by have := HE.out; have := cnType_eq x; unfold wrap64; omega)
      clear hcl hM hcc hfr hoki hH hlt HO s1 g1 s2 g2 d12
      have hx : wr.cell? ⟨g, i.toNat * 3, none⟩ = some (.int .i64 x.f0) := (Ow.H_cells HH.out HI.out.1 HLT2.out).1 0 _ rfl
      have hf : wr.frozen? ⟨g, i.toNat * 3, none⟩ = false := (Ow.H_cells HH.out HI.out.1 HLT2.out).2 0
      go_wp2_with (first
        | ((with_reducible refine gate_store (t := 3) (p := 16) rfl ?_)
           refine store_event (t := 3) (p := 16) (v := ?vo_w3) (w1 := (wr.setCell ⟨g, i.toNat * 3, none⟩ (.int .i64 b))) ?hg ?ho ?hn ?hr ?_; (case ho => rfl); (case hg => rfl); (case hn => rfl); (case hr => first | (go_simp; done) | (go_simp; rfl)); intro w3 hw
           have hseg := Kd.H_seg HH.out HI.out.1 HLT2.out (seg := [.int .i64 b]) (j := 0) (show 0 + 1 ≤ 3 by decide) (fun q hq => by rw [List.mem_singleton.1 hq]; rfl)
           have hg : wr.grownBy w3 (some g) := by rw [hw]; exact hseg.2
           have n0 := (show Kd.H k29 29 w3 w0.heap.size ok (.slice (some ⟨g, 0, none⟩) xs.length co) L i oki [.int .i64 b, v1, v2] by rw [hw]; exact hseg.1)
           have n1 := Kd.R_grown H1.out hg (fun k hk e => (HOI.out k (HS1.out k hk)).2 (by injection e))
           have n2 := Kd.S_grown H2.out hg (fun k hk e => (HOI.out k (HS2.out k hk)).2 (by injection e))
           have n3 := (show Below w0.heap.size w0 w3 by rw [hw]; exact below_set HB.out GB.out)
           have n4 := Kept.of_grown hg HK.out (fun k e => .inl (by injection e with e; exact e ▸ HOK.out))
           clear HH H1 H2 HB HK
           (try clear hx)
           (try clear hf)
           have HH := Aside0.mk n0; have H1 := Aside0.mk n1; have H2 := Aside0.mk n2; have HB := Aside0.mk n3; have HK := Aside0.mk n4
           clear n0 n1 n2 n3 n4
           clear hw hg hseg
           have hx : w3.cell? ⟨g, i.toNat * 3 + 1, none⟩ = some (v1) := (Ow.H_cells HH.out HI.out.1 HLT2.out).1 1 _ rfl)
        | ((with_reducible refine gate_callee (f := 55) rfl ?_)
           refine goesL_ (some 25) rfl rfl Try.func55 (by kernel_rfl) rfl #[v1, .int .i64 (wrap64 (b + 1))] rfl (by (try simp only [List.map_toArray, List.map_cons, List.map_nil]); first | done | rfl) ?_
           (with_reducible refine (markStringS_own x.f1 HXL.out.1 (wrap64 (b + 1)) (by rw [HW1.out]; have := HE.out; omega) (by rw [HW1.out]; have := HE.out; have := cnType_eq x; omega) v1 o1 w0 _ HB.out H1.out).mono ?_)
           rintro e w4 ⟨rfl, hr, hb, hk⟩
           refine ⟨_, rfl, ?_⟩
           have n0 := Kd.H_kept HH.out hk (fun k hk hn h1 => hn (HS1.out k h1))
           have n1 := hr
           have n2 := Kd.S_kept H2.out hk (fun k hk h1 => HD.out k h1 hk)
           have n3 := hb
           have n4 := HK.out.then_ hk (fun k h1 => .inl (HOI.out k (HS1.out k h1)).1)
           clear HH H1 H2 HB HK
           (try clear hx)
           (try clear hf)
           have HH := Aside0.mk n0; have H1 := Aside0.mk n1; have H2 := Aside0.mk n2; have HB := Aside0.mk n3; have HK := Aside0.mk n4
           clear n0 n1 n2 n3 n4
           clear hr hb hk
           have hx : w4.cell? ⟨g, i.toNat * 3 + 2, none⟩ = some (v2) := (Ow.H_cells HH.out HI.out.1 HLT2.out).1 2 _ rfl)
        | ((with_reducible refine gate_callee (f := 70) rfl ?_)
           refine goesL_ (some 32) rfl rfl Try.func70 (by kernel_rfl) rfl #[v2, .int .i64 (wrap64 (b + 1) + (x.f1.length : Nat))] rfl (by (try simp only [List.map_toArray, List.map_cons, List.map_nil]); first | done | rfl) ?_
           (with_reducible refine (MarksTypeS.go HXL.out.2 (wrap64 (b + 1) + (x.f1.length : Nat)) v2 o2 w0 _ (by rw [HW1.out]; have := HE.out; omega) (by rw [HW1.out]; have := HE.out; have := cnType_eq x; omega) HB.out H2.out).mono ?_)
           rintro e w5 ⟨rfl, hr, hb, hk⟩
           refine ⟨_, rfl, ?_⟩
           have n0 := Kd.H_kept HH.out hk (fun k hk hn h1 => hn (HS2.out k h1))
           have n1 := Kd.R_kept H1.out hk (fun k hk h1 => HD.out k hk h1)
           have n2 := hr
           have n3 := hb
           have n4 := HK.out.then_ hk (fun k h1 => .inl (HOI.out k (HS2.out k h1)).1)
           clear HH H1 H2 HB HK
           (try clear hx)
           (try clear hf)
           have HH := Aside0.mk n0; have H1 := Aside0.mk n1; have H2 := Aside0.mk n2; have HB := Aside0.mk n3; have HK := Aside0.mk n4
           clear n0 n1 n2 n3 n4
           clear hr hb hk))
      obtain ⟨k1, rfl⟩ : ∃ m, gk = m + 1 := ⟨gk - 1, by have := HI.out; have := HLT2.out; omega⟩
      go_roundg k1
      case measure => omega
      case rel =>
        have hM2 := k29_mkA _ w0.heap.size oki (⟨b, mtS (wrap64 (b + 1)) x.f1.length, mkTypeS x.f2 (wrap64 (b + 1) + (x.f1.length : Nat))⟩ : S29) (Kd.R_mono H1.out HS1.out) (Kd.S_mono H2.out (fun k hk => ⟨HS2.out k hk, fun e => HD.out k (H1.out.1 k e.symm) hk⟩))
        have hS := Kd.H_back HH.out hM2 (fun _ hk => hk)
        have hz : i.toNat + 1 = (wrap64 (i + 1)).toNat := by have := HI.out; have := HLT2.out; have := HA.out; unfold wrap64; omega
        have hw1 : wrap64 (i + 1) = i + 1 := by have := HI.out; have := HLT2.out; have := HA.out; unfold wrap64; omega
        refine ⟨wrap64 (b + 1) + (x.f1.length : Nat) + (cnTypeS x.f2 : Nat), wrap64 (i + 1), _, rfl, rfl, ⟨by omega, ?_, ?_⟩, ⟨?_⟩, ⟨hS⟩, HB, HK⟩
        · have := HI.out; have := HLT2.out; omega
        · rw [← hz, cnTypeS_take xs i.toNat HLT.out, HXE.out, cnType_eq]; (try simp only [HW1.out]); have := HE.out; omega
        · rw [← hz, ← mkTypeS_step xs i.toNat HLT.out a, HXE.out, mkType_eq, ← HE.out.2.1, HLE.out]; (try simp only [HW1.out])
    · have hd : decide (i < (xs.length : Int)) = false := decide_eq_false hlt
      have HT := Aside0.mk (show i.toNat = xs.length by have := HI.out; omega)
      clear hlt
      go_wp2
      go_ret
      refine ⟨?_, ?_, HB.out, HK.out⟩
      · rw [HI.out.2.2, HT.out, List.take_of_length_le (Nat.le_refl _)]
        rfl
      · have := HO.out
        rw [HLE.out, HT.out, List.take_of_length_le (Nat.le_refl _), List.drop_of_length_le (Nat.le_refl _), List.append_nil] at this
        exact this
/-- All rows inside are short. -/
inductive LnType : S29 → Prop
  | mk {x : S29} : x.f1.length ≤ 1048576 → x.f2.length ≤ 1048576 → (∀ y ∈ x.f2, LnType y) → LnType x
theorem LnType.all {x : S29} (h : LnType x) : x.f1.length ≤ 1048576 ∧ x.f2.length ≤ 1048576 ∧ ∀ y ∈ x.f2, LnType y := by cases h; exact ⟨by assumption, by assumption, by assumption⟩
theorem marksType_in : ∀ x : S29, LnType x → MarksTypeS x.f2 := by
  refine indTypeI fun x ih hx => ?_
  exact marksTypeS_step x.f2 hx.all.2.1 (fun y hy => ⟨(hx.all.2.2 y hy).all.1, ih y hy (hx.all.2.2 y hy)⟩)
theorem marksTypeS (xs : List S29) (hn : xs.length ≤ 1048576) (hx : ∀ y ∈ xs, LnType y) : MarksTypeS xs := marksTypeS_step xs hn (fun y hy => ⟨(hx y hy).all.1, marksType_in y (hx y hy)⟩)
theorem lnType_of : ∀ x : S29, SmType x → LnType x := by
  refine indTypeI fun x ih hx => ?_
  exact LnType.mk hx.p1.1 hx.p2.1 (fun y hy => ih y hy (hx.p2.2 y hy))
theorem cnType_cv : ∀ x : S25, cnType (cvType x) ≤ 1 * (wtType x + 1) := by
  refine indTypeL fun x ih => ?_
  rw [cnType_eq, cvType_eq, wtType_eq]
  have hL : ∀ l : List S25, (∀ y ∈ l, cnType (cvType y) ≤ 1 * (wtType y + 1)) → cnTypeS (l.map cvType) ≤ 1 * (l.length + (l.map wtType).sum) := by
    intro l
    induction l with
    | nil => intro _; simp [cnTypeS]
    | cons y r ih2 =>
      intro h
      have h1 := h y (List.mem_cons_self ..)
      have h2 := ih2 (fun z hz => h z (List.mem_cons_of_mem _ hz))
      simp only [List.map_cons, cnTypeS, List.sum_cons, List.length_cons] at h2 ⊢
      omega
  have := hL x.f2 ih
  (try dsimp only)
  rw [cvTypeS_map, wtTypeS_sum]
  unfold wts
  omega
end Go.Proofs.Ytcgdaeaaimkhdaa.Py
end
section
namespace Go.Proofs.Ytcgdaeaaimkhdaa.Py
open Go.RowKit Go.Proofs.YtcgdaeaaimkhdaaW.PrintWords Go.Proofs.YtcgdaeaaimkhdaaW.PrintLast Go.Proofs.Ytcgdaeaaimkhdaa.Pl Go.Proofs.Ytcgdaeaaimkhdaa.Ext
set_option linter.unusedVariables false
set_option linter.unusedSimpArgs false
def cnTableDecl (x : S102) : Nat := 2 + x.f1.f1.length + cnTypeS x.f1.f2
noncomputable def mkTableDecl (x : S102) (a : Int) : S102 := ⟨mt (a), ⟨a + 1, mtS (a + 2) x.f1.f1.length, mkTypeS x.f1.f2 (a + 2 + (x.f1.f1.length : Nat))⟩⟩
def cnTableDeclS : List S102 → Nat
  | [] => 0
  | x :: r => cnTableDecl x + cnTableDeclS r
noncomputable def mkTableDeclS : List S102 → Int → List S102
  | [], _ => []
  | x :: r, a => mkTableDecl x a :: mkTableDeclS r (a + cnTableDecl x)
theorem cnTableDecl_eq (x : S102) : cnTableDecl x = 2 + x.f1.f1.length + cnTypeS x.f1.f2 := rfl
theorem mkTableDecl_eq (x : S102) (a : Int) : mkTableDecl x a = ⟨mt (a), ⟨a + 1, mtS (a + 2) x.f1.f1.length, mkTypeS x.f1.f2 (a + 2 + (x.f1.f1.length : Nat))⟩⟩ := rfl
theorem mkTableDeclS_length : ∀ (xs : List S102) (a : Int), (mkTableDeclS xs a).length = xs.length
  | [], _ => rfl
  | x :: r, a => by simp [mkTableDeclS, mkTableDeclS_length r]
theorem cnTableDeclS_append : ∀ xs ys : List S102, cnTableDeclS (xs ++ ys) = cnTableDeclS xs + cnTableDeclS ys
  | [], ys => by simp [cnTableDeclS]
  | x :: r, ys => by simp only [List.cons_append, cnTableDeclS, cnTableDeclS_append r ys]; omega
theorem mkTableDeclS_append : ∀ (xs ys : List S102) (a : Int), mkTableDeclS (xs ++ ys) a = mkTableDeclS xs a ++ mkTableDeclS ys (a + cnTableDeclS xs)
  | [], ys, a => by simp [mkTableDeclS, cnTableDeclS]
  | x :: r, ys, a => by
    simp only [List.cons_append, mkTableDeclS, mkTableDeclS_append r ys, cnTableDeclS]
    rw [show a + cnTableDecl x + (cnTableDeclS r : Int) = a + ((cnTableDecl x + cnTableDeclS r : Nat) : Int) by omega]
theorem cnTableDeclS_take (xs : List S102) (i : Nat) (h : i < xs.length) : cnTableDeclS (xs.take (i + 1)) = cnTableDeclS (xs.take i) + cnTableDecl (xs.getD i z102) := by
  rw [List.take_succ_eq_append_getElem h, cnTableDeclS_append]
  simp [cnTableDeclS, List.getD_eq_getElem?_getD, h]
theorem cnTableDeclS_take_le (xs : List S102) (i : Nat) : cnTableDeclS (xs.take i) ≤ cnTableDeclS xs := by
  have := cnTableDeclS_append (xs.take i) (xs.drop i)
  rw [List.take_append_drop] at this
  omega
theorem mkTableDeclS_step (xs : List S102) (i : Nat) (h : i < xs.length) (a : Int) : (mkTableDeclS (xs.take i) a ++ xs.drop i).set i (mkTableDecl (xs.getD i z102) (a + cnTableDeclS (xs.take i))) = mkTableDeclS (xs.take (i + 1)) a ++ xs.drop (i + 1) := by
  have hl : (mkTableDeclS (xs.take i) a).length = i := by rw [mkTableDeclS_length, List.length_take]; omega
  rw [List.set_append, if_neg (by omega), hl, Nat.sub_self, List.drop_eq_getElem_cons h, List.set_cons_zero, List.take_succ_eq_append_getElem h, mkTableDeclS_append]
  simp [mkTableDeclS, List.getD_eq_getElem?_getD, h]
theorem mkTableDeclS_at (xs : List S102) (i : Nat) (h : i < xs.length) (a : Int) : (mkTableDeclS (xs.take i) a ++ xs.drop i).getD i z102 = xs.getD i z102 := by
  have hl : (mkTableDeclS (xs.take i) a).length = i := by rw [mkTableDeclS_length, List.length_take]; omega
  rw [List.getD_eq_getElem?_getD, List.getElem?_append_right (by omega), hl, Nat.sub_self, List.getElem?_drop, Nat.add_zero, List.getD_eq_getElem?_getD]
theorem mkTableDeclS_len (xs : List S102) (i : Nat) (a : Int) : (mkTableDeclS (xs.take i) a ++ xs.drop i).length = xs.length := by
  rw [List.length_append, mkTableDeclS_length, List.length_take, List.length_drop]; omega
/-- What markTableDeclS does with the row xs. -/
def MarksTableDeclS (xs : List S102) : Prop :=
  ∀ (a : Int) (v : Value) (ok : Nat → Prop) (w0 w : World), 0 ≤ a → a + cnTableDeclS xs ≤ 4611686018427387000 → Below w0.heap.size w0 w → Kd.S k102 102 w w0.heap.size ok v xs →
    Calls Try.prog 75 #[v, .int .i64 a] w fun e w' => e = .returned (.int .i64 (a + cnTableDeclS xs)) ∧ Kd.S k102 102 w' w0.heap.size ok v (mkTableDeclS xs a) ∧ Below w0.heap.size w0 w' ∧ Kept w w' ok
theorem MarksTableDeclS.go {xs : List S102} (h : MarksTableDeclS xs) (a : Int) (v : Value) (ok : Nat → Prop) (w0 w : World) (h0 : 0 ≤ a) (hb : a + cnTableDeclS xs ≤ 4611686018427387000) (hB : Below w0.heap.size w0 w) (ho : Kd.S k102 102 w w0.heap.size ok v xs) :
    Calls Try.prog 75 #[v, .int .i64 a] w fun e w' => e = .returned (.int .i64 (a + cnTableDeclS xs)) ∧ Kd.S k102 102 w' w0.heap.size ok v (mkTableDeclS xs a) ∧ Below w0.heap.size w0 w' ∧ Kept w w' ok := h a v ok w0 w h0 hb hB ho
set_option maxHeartbeats 8000000 in
set_option maxRecDepth 100000 in
theorem marksTableDeclS_step (xs : List S102) (hn : xs.length ≤ 1048576) (hx : ∀ y ∈ xs, y.f1.f1.length ≤ 1048576 ∧ MarksTypeS y.f1.f2) : MarksTableDeclS xs := by
  intro a v ok w0 w h0 hb hB ho
  have HO := Aside0.mk ho
  have HB := Aside0.mk hB
  have HK := Aside0.mk (Kept.refl w ok)
  have HX := Aside0.mk hx
  have HA := Aside0.mk (And.intro h0 (And.intro hb hn))
  clear ho hB hx h0 hb hn
  go_enter Try.func75, Try.ntmps75
  go_wp2
  go_loopg [1, 5] xs.length (fun kq v1 v5 w' => ∃ (b i : Int) (L : List S102), v1 = .int .i64 b ∧ v5 = .int .i64 i ∧ Aside0 (0 ≤ i ∧ i + kq = xs.length ∧ b = a + cnTableDeclS (xs.take i.toNat)) ∧ Aside0 (L = mkTableDeclS (xs.take i.toNat) a ++ xs.drop i.toNat) ∧ Aside0 (Kd.S k102 102 w' w0.heap.size ok v L) ∧ Aside0 (Below w0.heap.size w0 w') ∧ Aside0 (Kept w w' ok))
  case atStart => exact ⟨a, 0, xs, rfl, rfl, ⟨by omega, by omega, by simp [cnTableDeclS]⟩, ⟨by simp [mkTableDeclS]⟩, HO, HB, HK⟩
  case round =>
    clear HO HB HK
    obtain ⟨b, i, L, rfl, rfl, HI, HLE, HO, HB, HK⟩ := hrel
    obtain ⟨Ao, co, eo⟩ := Kd.S_slice HO.out
    have hlen : L.length = xs.length := by rw [HLE.out]; exact mkTableDeclS_len xs i.toNat a
    rw [hlen] at eo
    have HL := Aside0.mk hlen
    clear hlen
    subst eo
    by_cases hlt : i < (xs.length : Int)
    · have hd : decide (i < (xs.length : Int)) = true := decide_eq_true hlt
      have hi0 : (0 ≤ i) = True := eq_true HI.out.1
      have hi1 : (i < (xs.length : Int)) = True := eq_true hlt
      have HLT := Aside0.mk (show i.toNat < xs.length by have := HI.out.1; omega)
      obtain ⟨g, cap, eg, gb, gl, HG⟩ := Kd.S_form HO.out (by rw [HL.out]; have := HLT.out; omega)
      rw [HL.out] at eg
      injection eg with ea _ ec
      subst ea ec
      have GB := Aside0.mk gb
      clear gb gl HG
      obtain ⟨oki, c, hcl, hM, hcc, hfr, hoki, hH⟩ := Kd.S_elem HO.out z102 i HI.out.1 (by exact hlt)
      rw [HLE.out, mkTableDeclS_at xs i.toNat HLT.out a] at hM
      generalize hxe : xs.getD i.toNat z102 = x at hM
      have HXE := Aside0.mk hxe
      have hxm : x ∈ xs := by rw [← hxe]; exact mem_getD xs z102 _ HLT.out
      have HXL := Aside0.mk (HX.out x hxm)
      clear hxe hxm
      obtain ⟨v2, v3, o2, o3, rfl, s2, s3, d12, g2, g3⟩ := k102_openA hM
      have HH := Aside0.mk hH
      have H2 := Aside0.mk g2
      have HS2 := Aside0.mk s2
      have H3 := Aside0.mk g3
      have HS3 := Aside0.mk s3
      have HD := Aside0.mk d12
      have HOK := Aside0.mk (show ok g from (Kd.S_R HO.out).1 g rfl)
      have HOI := Aside0.mk hoki
      have HLT2 := Aside0.mk hlt
      have HE := Aside0.mk (show b + cnTableDecl x ≤ a + cnTableDeclS xs ∧ b = a + cnTableDeclS (xs.take i.toNat) ∧ 0 ≤ b ∧ 0 ≤ a ∧ a + cnTableDeclS xs ≤ 4611686018427387000 by
        have e1 := cnTableDeclS_take xs i.toNat HLT.out
        have e2 := cnTableDeclS_take_le xs (i.toNat + 1)
        rw [HXE.out] at e1
        have := HI.out; have := HA.out
        refine ⟨by omega, by omega, by omega, by omega, by omega⟩)
      have HW1 := Aside0.mk (show wrap64 (b + 1) = b + 1 by have := HE.out; have := cnTableDecl_eq x; unfold wrap64; omega)
      have HW2 := Aside0.mk (show wrap64 (wrap64 (b + 1) + 1) = b + 2 by rw [HW1.out]; have := HE.out; have := cnTableDecl_eq x; unfold wrap64; omega)
      have HV2 := Aside0.mk (show wrap64 (b + 1 + 1) = b + 2 by have := HE.out; have := cnTableDecl_eq x; unfold wrap64; omega)
      clear hcl hM hcc hfr hoki hH hlt HO s2 g2 s3 g3 d12
      go_wp2_with (first
        | ((with_reducible refine gate_callee (f := 101) rfl ?_)
           refine goesL_ (some 15) rfl rfl Try.func101 (by kernel_rfl) rfl #[.int .i64 b] rfl (by (try simp only [List.map_toArray, List.map_cons, List.map_nil]); first | done | rfl) ?_
           (with_reducible refine (markText_own (b) (by have := HE.out; have := cnTableDecl_eq x; omega) _).mono ?_)
           rintro e w3 ⟨rfl, hb⟩
           refine ⟨_, rfl, ?_⟩
           have n0 := Kd.H_below HH.out hb
           have n1 := Kd.R_below H2.out hb
           have n2 := Kd.S_below H3.out hb
           have n3 := below_step HB.out hb
           have n4 := Kept.below HK.out hb
           clear HH H2 H3 HB HK
           (try clear hx)
           (try clear hf)
           have HH := Aside0.mk n0; have H2 := Aside0.mk n1; have H3 := Aside0.mk n2; have HB := Aside0.mk n3; have HK := Aside0.mk n4
           clear n0 n1 n2 n3 n4
           clear hb
           have hx : w3.cell? ⟨g, i.toNat * 4, none⟩ = some (.string x.f0) := (Ow.H_cells HH.out HI.out.1 HLT2.out).1 0 _ rfl
           have hf : w3.frozen? ⟨g, i.toNat * 4, none⟩ = false := (Ow.H_cells HH.out HI.out.1 HLT2.out).2 0)
        | ((with_reducible refine gate_store (t := 9) (p := 17) rfl ?_)
           refine store_event (t := 9) (p := 17) (v := ?vo_w4) (w1 := (w3.setCell ⟨g, i.toNat * 4, none⟩ (.string (mt (b))))) ?hg ?ho ?hn ?hr ?_; (case ho => rfl); (case hg => rfl); (case hn => rfl); (case hr => first | (go_simp; done) | (go_simp; rfl)); intro w4 hw
           have hseg := Kd.H_seg HH.out HI.out.1 HLT2.out (seg := [.string (mt (b))]) (j := 0) (show 0 + 1 ≤ 4 by decide) (fun q hq => by rw [List.mem_singleton.1 hq]; rfl)
           have hg : w3.grownBy w4 (some g) := by rw [hw]; exact hseg.2
           have n0 := (show Kd.H k102 102 w4 w0.heap.size ok (.slice (some ⟨g, 0, none⟩) xs.length co) L i oki [.string (mt (b)), .int .i64 x.f1.f0, v2, v3] by rw [hw]; exact hseg.1)
           have n1 := Kd.R_grown H2.out hg (fun k hk e => (HOI.out k (HS2.out k hk)).2 (by injection e))
           have n2 := Kd.S_grown H3.out hg (fun k hk e => (HOI.out k (HS3.out k hk)).2 (by injection e))
           have n3 := (show Below w0.heap.size w0 w4 by rw [hw]; exact below_set HB.out GB.out)
           have n4 := Kept.of_grown hg HK.out (fun k e => .inl (by injection e with e; exact e ▸ HOK.out))
           clear HH H2 H3 HB HK
           (try clear hx)
           (try clear hf)
           have HH := Aside0.mk n0; have H2 := Aside0.mk n1; have H3 := Aside0.mk n2; have HB := Aside0.mk n3; have HK := Aside0.mk n4
           clear n0 n1 n2 n3 n4
           clear hw hg hseg
           have hx : w4.cell? ⟨g, i.toNat * 4 + 1, none⟩ = some (.int .i64 x.f1.f0) := (Ow.H_cells HH.out HI.out.1 HLT2.out).1 1 _ rfl
           have hf : w4.frozen? ⟨g, i.toNat * 4 + 1, none⟩ = false := (Ow.H_cells HH.out HI.out.1 HLT2.out).2 1)
        | ((with_reducible refine gate_store (t := 3) (p := 25) rfl ?_)
           refine store_event (t := 3) (p := 25) (v := ?vo_w5) (w1 := (w4.setCell ⟨g, i.toNat * 4 + 1, none⟩ (.int .i64 (wrap64 (b + 1))))) ?hg ?ho ?hn ?hr ?_; (case ho => rfl); (case hg => rfl); (case hn => rfl); (case hr => first | (go_simp; done) | (go_simp; rfl)); intro w5 hw
           have hseg := Kd.H_seg HH.out HI.out.1 HLT2.out (seg := [.int .i64 (wrap64 (b + 1))]) (j := 1) (show 1 + 1 ≤ 4 by decide) (fun q hq => by rw [List.mem_singleton.1 hq]; rfl)
           have hg : w4.grownBy w5 (some g) := by rw [hw]; exact hseg.2
           have n0 := (show Kd.H k102 102 w5 w0.heap.size ok (.slice (some ⟨g, 0, none⟩) xs.length co) L i oki [.string (mt (b)), .int .i64 (wrap64 (b + 1)), v2, v3] by rw [hw]; exact hseg.1)
           have n1 := Kd.R_grown H2.out hg (fun k hk e => (HOI.out k (HS2.out k hk)).2 (by injection e))
           have n2 := Kd.S_grown H3.out hg (fun k hk e => (HOI.out k (HS3.out k hk)).2 (by injection e))
           have n3 := (show Below w0.heap.size w0 w5 by rw [hw]; exact below_set HB.out GB.out)
           have n4 := Kept.of_grown hg HK.out (fun k e => .inl (by injection e with e; exact e ▸ HOK.out))
           clear HH H2 H3 HB HK
           (try clear hx)
           (try clear hf)
           have HH := Aside0.mk n0; have H2 := Aside0.mk n1; have H3 := Aside0.mk n2; have HB := Aside0.mk n3; have HK := Aside0.mk n4
           clear n0 n1 n2 n3 n4
           clear hw hg hseg
           have hx : w5.cell? ⟨g, i.toNat * 4 + 2, none⟩ = some (v2) := (Ow.H_cells HH.out HI.out.1 HLT2.out).1 2 _ rfl)
        | ((with_reducible refine gate_callee (f := 55) rfl ?_)
           refine goesL_ (some 35) rfl rfl Try.func55 (by kernel_rfl) rfl #[v2, .int .i64 (wrap64 (wrap64 (b + 1) + 1))] rfl (by (try simp only [List.map_toArray, List.map_cons, List.map_nil]); first | done | rfl) ?_
           (with_reducible refine (markStringS_own x.f1.f1 HXL.out.1 (wrap64 (wrap64 (b + 1) + 1)) (by rw [HW2.out]; have := HE.out; omega) (by rw [HW2.out]; have := HE.out; have := cnTableDecl_eq x; omega) v2 o2 w0 _ HB.out H2.out).mono ?_)
           rintro e w6 ⟨rfl, hr, hb, hk⟩
           refine ⟨_, rfl, ?_⟩
           have n0 := Kd.H_kept HH.out hk (fun k hk hn h1 => hn (HS2.out k h1))
           have n1 := hr
           have n2 := Kd.S_kept H3.out hk (fun k hk h1 => HD.out k h1 hk)
           have n3 := hb
           have n4 := HK.out.then_ hk (fun k h1 => .inl (HOI.out k (HS2.out k h1)).1)
           clear HH H2 H3 HB HK
           (try clear hx)
           (try clear hf)
           have HH := Aside0.mk n0; have H2 := Aside0.mk n1; have H3 := Aside0.mk n2; have HB := Aside0.mk n3; have HK := Aside0.mk n4
           clear n0 n1 n2 n3 n4
           clear hr hb hk
           have hx : w6.cell? ⟨g, i.toNat * 4 + 3, none⟩ = some (v3) := (Ow.H_cells HH.out HI.out.1 HLT2.out).1 3 _ rfl)
        | ((with_reducible refine gate_callee (f := 70) rfl ?_)
           refine goesL_ (some 43) rfl rfl Try.func70 (by kernel_rfl) rfl #[v3, .int .i64 (wrap64 (wrap64 (b + 1) + 1) + (x.f1.f1.length : Nat))] rfl (by (try simp only [List.map_toArray, List.map_cons, List.map_nil]); first | done | rfl) ?_
           (with_reducible refine (MarksTypeS.go HXL.out.2 (wrap64 (wrap64 (b + 1) + 1) + (x.f1.f1.length : Nat)) v3 o3 w0 _ (by rw [HW2.out]; have := HE.out; omega) (by rw [HW2.out]; have := HE.out; have := cnTableDecl_eq x; omega) HB.out H3.out).mono ?_)
           rintro e w7 ⟨rfl, hr, hb, hk⟩
           refine ⟨_, rfl, ?_⟩
           have n0 := Kd.H_kept HH.out hk (fun k hk hn h1 => hn (HS3.out k h1))
           have n1 := Kd.R_kept H2.out hk (fun k hk h1 => HD.out k hk h1)
           have n2 := hr
           have n3 := hb
           have n4 := HK.out.then_ hk (fun k h1 => .inl (HOI.out k (HS3.out k h1)).1)
           clear HH H2 H3 HB HK
           (try clear hx)
           (try clear hf)
           have HH := Aside0.mk n0; have H2 := Aside0.mk n1; have H3 := Aside0.mk n2; have HB := Aside0.mk n3; have HK := Aside0.mk n4
           clear n0 n1 n2 n3 n4
           clear hr hb hk))
      obtain ⟨k1, rfl⟩ : ∃ m, gk = m + 1 := ⟨gk - 1, by have := HI.out; have := HLT2.out; omega⟩
      go_roundg k1
      case measure => omega
      case rel =>
        have hM2 := k102_mkA _ w0.heap.size oki (⟨mt (b), ⟨wrap64 (b + 1), mtS (wrap64 (wrap64 (b + 1) + 1)) x.f1.f1.length, mkTypeS x.f1.f2 (wrap64 (wrap64 (b + 1) + 1) + (x.f1.f1.length : Nat))⟩⟩ : S102) (Kd.R_mono H2.out HS2.out) (Kd.S_mono H3.out (fun k hk => ⟨HS3.out k hk, fun e => HD.out k (H2.out.1 k e.symm) hk⟩))
        have hS := Kd.H_back HH.out hM2 (fun _ hk => hk)
        have hz : i.toNat + 1 = (wrap64 (i + 1)).toNat := by have := HI.out; have := HLT2.out; have := HA.out; unfold wrap64; omega
        have hw1 : wrap64 (i + 1) = i + 1 := by have := HI.out; have := HLT2.out; have := HA.out; unfold wrap64; omega
        refine ⟨wrap64 (wrap64 (b + 1) + 1) + (x.f1.f1.length : Nat) + (cnTypeS x.f1.f2 : Nat), wrap64 (i + 1), _, rfl, rfl, ⟨by omega, ?_, ?_⟩, ⟨?_⟩, ⟨hS⟩, HB, HK⟩
        · have := HI.out; have := HLT2.out; omega
        · rw [← hz, cnTableDeclS_take xs i.toNat HLT.out, HXE.out, cnTableDecl_eq]; (try simp only [HW1.out, HV2.out]); have := HE.out; omega
        · rw [← hz, ← mkTableDeclS_step xs i.toNat HLT.out a, HXE.out, mkTableDecl_eq, ← HE.out.2.1, HLE.out]; (try simp only [HW1.out, HV2.out])
    · have hd : decide (i < (xs.length : Int)) = false := decide_eq_false hlt
      have HT := Aside0.mk (show i.toNat = xs.length by have := HI.out; omega)
      clear hlt
      go_wp2
      go_ret
      refine ⟨?_, ?_, HB.out, HK.out⟩
      · rw [HI.out.2.2, HT.out, List.take_of_length_le (Nat.le_refl _)]
        rfl
      · have := HO.out
        rw [HLE.out, HT.out, List.take_of_length_le (Nat.le_refl _), List.drop_of_length_le (Nat.le_refl _), List.append_nil] at this
        exact this
/-- All rows inside are short. -/
def LnTableDecl (x : S102) : Prop := x.f1.f1.length ≤ 1048576 ∧ x.f1.f2.length ≤ 1048576 ∧ ∀ y ∈ x.f1.f2, LnType y
theorem marksTableDeclS (xs : List S102) (hn : xs.length ≤ 1048576) (hx : ∀ y ∈ xs, LnTableDecl y) : MarksTableDeclS xs := marksTableDeclS_step xs hn (fun y hy => ⟨(hx y hy).1, marksTypeS y.f1.f2 (hx y hy).2.1 (hx y hy).2.2⟩)
end Go.Proofs.Ytcgdaeaaimkhdaa.Py
end
section
namespace Go.Proofs.Ytcgdaeaaimkhdaa.Py
open Go.RowKit Go.Proofs.YtcgdaeaaimkhdaaW.PrintWords Go.Proofs.YtcgdaeaaimkhdaaW.PrintLast Go.Proofs.Ytcgdaeaaimkhdaa.Pl Go.Proofs.Ytcgdaeaaimkhdaa.Ext
set_option linter.unusedVariables false
set_option linter.unusedSimpArgs false
theorem lnTableDecl_of (x : S102) (h : SmTableDecl x) : LnTableDecl x := ⟨h.p1.p1.1, h.p1.p2.1, fun y hy => lnType_of y (h.p1.p2.2 y hy)⟩
theorem cnTableDeclS_cv : ∀ l : List S136, cnTableDeclS (cvTableDeclS l) ≤ 2 * l.length + wtTableDeclS l
  | [] => by simp [cvTableDeclS, cnTableDeclS]
  | x :: r => by
    have h1 := cnTableDeclS_cv r
    have h2 := cnType_cv x.f1
    have h3 := cnType_eq (cvType x.f1)
    simp only [cvTableDeclS, cnTableDeclS, wtTableDeclS, List.length_cons]
    rw [cnTableDecl_eq, cvTableDecl_eq, wtTableDecl_eq]
    dsimp only
    omega

end Go.Proofs.Ytcgdaeaaimkhdaa.Py
end
section
namespace Go.Proofs.Ytcgdaeaaimkhdaa.Py
open Go.RowKit Go.Proofs.YtcgdaeaaimkhdaaW.PrintWords Go.Proofs.YtcgdaeaaimkhdaaW.PrintLast Go.Proofs.Ytcgdaeaaimkhdaa.Pl Go.Proofs.Ytcgdaeaaimkhdaa.Ext
set_option linter.unusedVariables false
set_option linter.unusedSimpArgs false
set_option maxHeartbeats 8000000 in
set_option maxRecDepth 100000 in
theorem markDB_own (x : S50) (hm0 : MarksTableDataS x.f0) (a : Int) (h0 : 0 ≤ a) (hb : a + (cnTableDataS x.f0 : Nat) ≤ 4611686018427387000) (v0 : Value) (o0 : Nat → Prop) (w0 w : World) (hB : Below w0.heap.size w0 w) (g0 : Kd.S k107 107 w w0.heap.size o0 v0 x.f0) (u0 : ∀ k, o0 k → k < w.heap.size) :
    Calls Try.prog 28 #[.agg #[v0], .int .i64 a] w fun e w' => e = .returned (.int .i64 (a + (cnTableDataS x.f0 : Nat))) ∧ Kd.S k107 107 w' w0.heap.size o0 v0 (mkTableDataS x.f0 (a)) ∧ Below w0.heap.size w0 w' ∧ Kept w w' (fun k => o0 k) := by
  have HB := Aside0.mk hB; have HK := Aside0.mk (Kept.refl w (fun k => o0 k)); have HA := Aside0.mk (And.intro h0 hb)
  have H0 := Aside0.mk g0; have HU0 := Aside0.mk u0
  have HL0 := Aside0.mk hm0
  clear hB h0 hb g0 u0 hm0
  go_enter Try.func28, Try.ntmps28
  go_wp2_with (first
    | ((with_reducible refine gate_dst (N := 2) rfl ?_)
       refine box_event ?hg (N := 2) ?hd (cs := #[v0]) (t := 50) ?hr ?_; (case hd => rfl); (case hg => rfl); (case hr => first | (go_simp; done) | (go_simp; rfl))
       intro gb hg w1 hbox hb
       have HG := Aside0.mk (show ∀ k, k < w.heap.size → k ≠ gb from fun k h e => by omega)
       have HG2 := Aside0.mk (show w0.heap.size ≤ gb by rw [hg]; exact HB.out.size)
       have n0 := hbox
       have n1 := Kd.S_below H0.out hb
       have n2 := below_step HB.out hb
       have n3 := Kept.below HK.out hb
       clear H0 HB HK
       (try clear hx)
       have BK := Aside0.mk n0; have H0 := Aside0.mk n1; have HB := Aside0.mk n2; have HK := Aside0.mk n3
       clear n0 n1 n2 n3
       clear hbox hb hg
       have hx : w1.cell? ⟨gb, 0, none⟩ = some v0 := (blk_cell BK.out 0).trans rfl)
    | ((with_reducible refine gate_callee (f := 77) rfl ?_)
       refine goesL_ (some 8) rfl rfl Try.func77 (by kernel_rfl) rfl #[v0, .int .i64 a] rfl (by (try simp only [List.map_toArray, List.map_cons, List.map_nil]); first | done | rfl) ?_
       (with_reducible refine (MarksTableDataS.go HL0.out (a) v0 o0 w0 _ (by have := HA.out; omega) (by have := HA.out; omega) HB.out H0.out).mono ?_)
       rintro e w2 ⟨rfl, hr, hb, hk⟩
       refine ⟨_, rfl, ?_⟩
       have n0 := blk_kept BK.out hk (fun h1 => HG.out _ (HU0.out _ h1) rfl)
       have n1 := hr
       have n2 := hb
       have n3 := HK.out.then_ hk (fun k h1 => .inl (h1))
       clear BK H0 HB HK
       (try clear hx)
       have BK := Aside0.mk n0; have H0 := Aside0.mk n1; have HB := Aside0.mk n2; have HK := Aside0.mk n3
       clear n0 n1 n2 n3
       clear hr hb hk))
  go_ret
  exact ⟨rfl, H0.out, HB.out, HK.out⟩

end Go.Proofs.Ytcgdaeaaimkhdaa.Py
end
section
namespace Go.Proofs.Ytcgdaeaaimkhdaa.Py
open Go.RowKit Go.Proofs.YtcgdaeaaimkhdaaW.PrintWords Go.Proofs.YtcgdaeaaimkhdaaW.PrintLast Go.Proofs.Ytcgdaeaaimkhdaa.Pl Go.Proofs.Ytcgdaeaaimkhdaa.Ext
set_option linter.unusedVariables false
set_option linter.unusedSimpArgs false
set_option maxHeartbeats 8000000 in
set_option maxRecDepth 100000 in
theorem markSchema_own (x : S43) (hm0 : MarksTableDeclS x.f0) (a : Int) (h0 : 0 ≤ a) (hb : a + (cnTableDeclS x.f0 : Nat) ≤ 4611686018427387000) (v0 : Value) (o0 : Nat → Prop) (w0 w : World) (hB : Below w0.heap.size w0 w) (g0 : Kd.S k102 102 w w0.heap.size o0 v0 x.f0) (u0 : ∀ k, o0 k → k < w.heap.size) :
    Calls Try.prog 24 #[.agg #[v0], .int .i64 a] w fun e w' => e = .returned (.int .i64 (a + (cnTableDeclS x.f0 : Nat))) ∧ Kd.S k102 102 w' w0.heap.size o0 v0 (mkTableDeclS x.f0 (a)) ∧ Below w0.heap.size w0 w' ∧ Kept w w' (fun k => o0 k) := by
  have HB := Aside0.mk hB; have HK := Aside0.mk (Kept.refl w (fun k => o0 k)); have HA := Aside0.mk (And.intro h0 hb)
  have H0 := Aside0.mk g0; have HU0 := Aside0.mk u0
  have HL0 := Aside0.mk hm0
  clear hB h0 hb g0 u0 hm0
  go_enter Try.func24, Try.ntmps24
  go_wp2_with (first
    | ((with_reducible refine gate_dst (N := 2) rfl ?_)
       refine box_event ?hg (N := 2) ?hd (cs := #[v0]) (t := 43) ?hr ?_; (case hd => rfl); (case hg => rfl); (case hr => first | (go_simp; done) | (go_simp; rfl))
       intro gb hg w1 hbox hb
       have HG := Aside0.mk (show ∀ k, k < w.heap.size → k ≠ gb from fun k h e => by omega)
       have HG2 := Aside0.mk (show w0.heap.size ≤ gb by rw [hg]; exact HB.out.size)
       have n0 := hbox
       have n1 := Kd.S_below H0.out hb
       have n2 := below_step HB.out hb
       have n3 := Kept.below HK.out hb
       clear H0 HB HK
       (try clear hx)
       have BK := Aside0.mk n0; have H0 := Aside0.mk n1; have HB := Aside0.mk n2; have HK := Aside0.mk n3
       clear n0 n1 n2 n3
       clear hbox hb hg
       have hx : w1.cell? ⟨gb, 0, none⟩ = some v0 := (blk_cell BK.out 0).trans rfl)
    | ((with_reducible refine gate_callee (f := 75) rfl ?_)
       refine goesL_ (some 8) rfl rfl Try.func75 (by kernel_rfl) rfl #[v0, .int .i64 a] rfl (by (try simp only [List.map_toArray, List.map_cons, List.map_nil]); first | done | rfl) ?_
       (with_reducible refine (MarksTableDeclS.go HL0.out (a) v0 o0 w0 _ (by have := HA.out; omega) (by have := HA.out; omega) HB.out H0.out).mono ?_)
       rintro e w2 ⟨rfl, hr, hb, hk⟩
       refine ⟨_, rfl, ?_⟩
       have n0 := blk_kept BK.out hk (fun h1 => HG.out _ (HU0.out _ h1) rfl)
       have n1 := hr
       have n2 := hb
       have n3 := HK.out.then_ hk (fun k h1 => .inl (h1))
       clear BK H0 HB HK
       (try clear hx)
       have BK := Aside0.mk n0; have H0 := Aside0.mk n1; have HB := Aside0.mk n2; have HK := Aside0.mk n3
       clear n0 n1 n2 n3
       clear hr hb hk))
  go_ret
  exact ⟨rfl, H0.out, HB.out, HK.out⟩

end Go.Proofs.Ytcgdaeaaimkhdaa.Py
end
section
namespace Go.Proofs.Ytcgdaeaaimkhdaa.Py
open Go.RowKit Go.Proofs.YtcgdaeaaimkhdaaW.PrintWords Go.Proofs.YtcgdaeaaimkhdaaW.PrintLast Go.Proofs.YtcgdaeaaimkhdaaW.PrintMore Go.Proofs.Ytcgdaeaaimkhdaa.Pl Go.Proofs.Ytcgdaeaaimkhdaa.Ext
set_option linter.unusedVariables false
set_option linter.unusedSimpArgs false
set_option maxHeartbeats 8000000 in
set_option maxRecDepth 100000 in
theorem FnExactEmptyDB_walk (x0 : S38) (y0 : S43) (r : S50) (left0 : Int) (m0 : Int) (m1 : Int)
    (p0 : ∃ k, laws_szSchema.f k (x0.f0) 1048576 = some left0)
    (p1 : decide (left0 < 0) = false)
    (p2 : ∃ k, laws_toSchema.f k (x0.f0) = some (y0.f0))
    (p3 : ∃ k, spec_EmptyDB.f k (y0.f0) = some (r.f0))
    (p4 : ∃ k, impl_EmptyDB.f k (y0.f0) = some (r.f0))
    (p5 : ∃ k, laws_eqDB.f k (r.f0) (r.f0) = some true)
    (p6 : ∃ k, laws_eqSchema.f k (y0.f0) (y0.f0) = some true)
    (p7 : MarksTableDeclS y0.f0)
    (p8 : (1 + (cnTableDeclS y0.f0 : Nat) : Int) ≤ 4611686018427387000)
    (p9 : m0 = 1 + (cnTableDeclS y0.f0 : Nat))
    (p10 : decide (m0 < 0) = false)
    (p11 : MarksTableDataS r.f0)
    (p12 : (1 + (cnTableDataS r.f0 : Nat) : Int) ≤ 4611686018427387000)
    (p13 : m1 = 1 + (cnTableDataS r.f0 : Nat))
    (p14 : decide (m1 < 0) = false)
    (p15 : ∃ k, laws_heldDB.f k (mkTableDataS r.f0 (1)) 1 = some m1)
    (W : World) {A0f0 : Option Addr} {c0f0 : Nat} (hHA0f0 : Kd.C k136 W A0f0 x0.f0.length x0.f0) (kHA0f0 : x0.f0.length ≤ c0f0) :
    Calls Try.prog 5 #[.agg #[.slice A0f0 x0.f0.length c0f0]] W fun e w' => e = .returned (.bool true) ∧ Below W.heap.size W w' := by
  have HA0f0 := Aside0.mk hHA0f0
  clear hHA0f0
  have Hp9 := Aside0.mk p9
  clear p9
  have Hp13 := Aside0.mk p13
  clear p13
  have HB := Aside0.mk (Below.refl W.heap.size W)
  have HZ := Aside0.mk (Nat.le_refl W.heap.size)
  have HZ0 := Aside0.mk (Nat.le_refl W.heap.size)
  go_enter Try.func5, Try.ntmps5
  go_wp2_with (first
    | ((with_reducible refine gate_dst (N := 1) rfl ?_)
       refine box_event ?hg (N := 1) ?hd (cs := #[.slice A0f0 x0.f0.length c0f0]) (t := 38) ?hr ?_; (case hd => rfl); (case hg => rfl); (case hr => first | (go_simp; done) | (go_simp; rfl))
       intro gb1 hg w1 hbox hb
       have Lgb1 := Aside0.mk (show W.heap.size ≤ gb1 by rw [hg]; exact HZ.out)
       have n1 := below_step HB.out hb
       have n2 := Nat.le_trans HZ.out hb.size
       clear HB HZ
       have HB := Aside0.mk n1
       have HZ := Aside0.mk n2
       clear n1 n2
       have BK1 := Aside0.mk hbox
       replace HZ := Aside0.mk (show gb1 + 1 ≤ w1.heap.size from blk_lt hbox)
       clear hbox hb hg
       have hx1_0 : w1.cell? ⟨gb1, 0, none⟩ = some (.slice A0f0 x0.f0.length c0f0) := (blk_cell BK1.out 0).trans rfl)
    | ((with_reducible refine gate_callee (f := 19) rfl ?_)
       refine goesL_ (some 13) rfl rfl Try.func19 (by kernel_rfl) rfl #[.agg #[.slice A0f0 x0.f0.length c0f0], .int .i64 1048576] rfl (by (try simp only [List.map_toArray, List.map_cons, List.map_nil]); first | done | rfl) ?_
       have hh := p0
       obtain ⟨kq3, eq3⟩ := hh
       (with_reducible refine (laws_szSchema.calls kq3 _ _ (x0.f0) 1048576 left0 _ (Kd.C_below HA0f0.out HB.out) kHA0f0 eq3).mono ?_)
       rintro e w2 ⟨rfl, hb⟩
       refine ⟨_, rfl, ?_⟩
       clear hx1_0
       have n1 := blk_below BK1.out hb
       have n2 := below_step HB.out hb
       have n3 := Nat.le_trans HZ.out hb.size
       clear BK1 HB HZ
       have BK1 := Aside0.mk n1
       have HB := Aside0.mk n2
       have HZ := Aside0.mk n3
       clear n1 n2 n3
       clear hb
       have hx1_0 : w2.cell? ⟨gb1, 0, none⟩ = some (.slice A0f0 x0.f0.length c0f0) := (blk_cell BK1.out 0).trans rfl)
    | ((with_reducible refine gate_callee (f := 21) rfl ?_)
       refine goesL_ (some 17) rfl rfl Try.func21 (by kernel_rfl) rfl #[.agg #[.slice A0f0 x0.f0.length c0f0]] rfl (by (try simp only [List.map_toArray, List.map_cons, List.map_nil]); first | done | rfl) ?_
       have hh := p2
       obtain ⟨kq5, eq5⟩ := hh
       (with_reducible refine (laws_toSchema.calls kq5 _ _ (x0.f0) (y0.f0) _ (Kd.C_below HA0f0.out HB.out) kHA0f0 eq5).mono ?_)
       rintro e w4 ⟨u0, rfl, ho0, hb⟩
       refine ⟨_, rfl, ?_⟩
       clear hx1_0
       obtain ⟨n7, en7⟩ : ∃ n, n = w2.heap.size := ⟨_, rfl⟩
       obtain ⟨n8, en8⟩ : ∃ n, n = w4.heap.size := ⟨_, rfl⟩
       have En7 := Aside0.mk en7; have En8 := Aside0.mk en8
       clear en7 en8
       have Hq6f0 := Aside0.mk (Ow.S_iv (base := W.heap.size) ho0 En7.out En8.out (by have := HZ.out; have := Lgb1.out; have := En7.out; omega))
       clear ho0
       obtain ⟨Aq6f0, cq6f0, ea⟩ := Kd.S_slice Hq6f0.out
       subst ea
       have Ln7 := Aside0.mk (show (gb1 + 1) ≤ n7 ∧ n7 ≤ n8 by have := HZ.out; have := hb.size; have := En7.out; have := En8.out; omega)
       have n1 := blk_below BK1.out hb
       have n2 := below_step HB.out hb
       have n3 := Nat.le_trans HZ.out hb.size
       clear BK1 HB HZ
       have BK1 := Aside0.mk n1
       have HB := Aside0.mk n2
       have HZ := Aside0.mk n3
       clear n1 n2 n3
       replace HZ := Aside0.mk (show n8 ≤ w4.heap.size by have := En8.out; omega)
       clear hb)
    | ((with_reducible refine gate_callee (f := 25) rfl ?_)
       refine goesL_ (some 18) rfl rfl Try.func25 (by kernel_rfl) rfl #[.agg #[.slice Aq6f0 y0.f0.length cq6f0]] rfl (by (try simp only [List.map_toArray, List.map_cons, List.map_nil]); first | done | rfl) ?_
       have hh := p3
       obtain ⟨kq10, eq10⟩ := hh
       (with_reducible refine (spec_EmptyDB.calls kq10 _ _ (y0.f0) (r.f0) _ (Kd.S_reads' Hq6f0.out).2.2 (Kd.S_reads' Hq6f0.out).2.1 eq10).mono ?_)
       rintro e w9 ⟨u0, rfl, ho0, hb⟩
       refine ⟨_, rfl, ?_⟩
       obtain ⟨n12, en12⟩ : ∃ n, n = w4.heap.size := ⟨_, rfl⟩
       obtain ⟨n13, en13⟩ : ∃ n, n = w9.heap.size := ⟨_, rfl⟩
       have En12 := Aside0.mk en12; have En13 := Aside0.mk en13
       clear en12 en13
       have Hq11f0 := Aside0.mk (Ow.S_iv (base := W.heap.size) ho0 En12.out En13.out (by have := HZ.out; have := Lgb1.out; have := Ln7.out; have := En12.out; omega))
       clear ho0
       obtain ⟨Aq11f0, cq11f0, ea⟩ := Kd.S_slice Hq11f0.out
       subst ea
       have Ln12 := Aside0.mk (show n8 ≤ n12 ∧ n12 ≤ n13 by have := HZ.out; have := hb.size; have := En12.out; have := En13.out; omega)
       have n1 := Kd.S_below Hq6f0.out hb
       have n2 := blk_below BK1.out hb
       have n3 := below_step HB.out hb
       have n4 := Nat.le_trans HZ.out hb.size
       clear Hq6f0 BK1 HB HZ
       have Hq6f0 := Aside0.mk n1
       have BK1 := Aside0.mk n2
       have HB := Aside0.mk n3
       have HZ := Aside0.mk n4
       clear n1 n2 n3 n4
       replace HZ := Aside0.mk (show n13 ≤ w9.heap.size by have := En13.out; omega)
       clear hb)
    | ((with_reducible refine gate_dst (N := 4) rfl ?_)
       refine box_event ?hg (N := 4) ?hd (cs := #[.slice none 0 0]) (t := 50) ?hr ?_; (case hd => rfl); (case hg => rfl); (case hr => first | (go_simp; done) | (go_simp; rfl))
       intro gb4 hg w14 hbox hbA
       have HBA := Aside0.mk hbA; have HGA := Aside0.mk hg; have HXA := Aside0.mk hbox
       clear hbA hg hbox
       have hx4_0 : w14.cell? ⟨gb4, 0, none⟩ = some (.slice none 0 0) := (blk_cell HXA.out 0).trans rfl
       have hf4_0 := blk_frozen HXA.out 0)
    | ((with_reducible refine gate_store (t := 50) (p := 4) rfl ?_)
       refine store_event (t := 50) (p := 4) (v := ?vo_w15) (w1 := (w14.setCell ⟨gb4, 0, none⟩ (.slice Aq11f0 r.f0.length cq11f0))) ?hg ?ho ?hn ?hr ?_; (case ho => rfl); (case hg => rfl); (case hn => rfl); (case hr => first | (go_simp; done) | (go_simp; rfl)); intro w15 hw
       have hb : Below w9.heap.size w9 w15 := by rw [hw]; exact below_set (HBA.out) (Nat.le_of_eq HGA.out.symm)
       have hbox : w15.heap[gb4]? = some (.cells #[.slice Aq11f0 r.f0.length cq11f0] 50 (0, 0)) := by rw [hw]; exact blk_put (cs := #[.slice none 0 0]) (HXA.out) 0 (.slice Aq11f0 r.f0.length cq11f0) rfl
       have Lgb4 := Aside0.mk (show n13 ≤ gb4 by rw [HGA.out]; exact HZ.out)
       clear hw HBA HGA HXA hx4_0 hf4_0
       have n1 := Kd.S_below Hq11f0.out hb
       have n2 := blk_below BK1.out hb
       have n3 := below_step HB.out hb
       have n4 := Nat.le_trans HZ.out hb.size
       clear Hq11f0 BK1 HB HZ
       have Hq11f0 := Aside0.mk n1
       have BK1 := Aside0.mk n2
       have HB := Aside0.mk n3
       have HZ := Aside0.mk n4
       clear n1 n2 n3 n4
       have BK4 := Aside0.mk hbox
       replace HZ := Aside0.mk (show gb4 + 1 ≤ w15.heap.size from blk_lt hbox)
       clear hbox hb
       have hx1_0 : w15.cell? ⟨gb1, 0, none⟩ = some (.slice A0f0 x0.f0.length c0f0) := (blk_cell BK1.out 0).trans rfl)
    | ((with_reducible refine gate_callee (f := 21) rfl ?_)
       refine goesL_ (some 20) rfl rfl Try.func21 (by kernel_rfl) rfl #[.agg #[.slice A0f0 x0.f0.length c0f0]] rfl (by (try simp only [List.map_toArray, List.map_cons, List.map_nil]); first | done | rfl) ?_
       have hh := p2
       obtain ⟨kq17, eq17⟩ := hh
       (with_reducible refine (laws_toSchema.calls kq17 _ _ (x0.f0) (y0.f0) _ (Kd.C_below HA0f0.out HB.out) kHA0f0 eq17).mono ?_)
       rintro e w16 ⟨u0, rfl, ho0, hb⟩
       refine ⟨_, rfl, ?_⟩
       clear hx1_0
       obtain ⟨n19, en19⟩ : ∃ n, n = w15.heap.size := ⟨_, rfl⟩
       obtain ⟨n20, en20⟩ : ∃ n, n = w16.heap.size := ⟨_, rfl⟩
       have En19 := Aside0.mk en19; have En20 := Aside0.mk en20
       clear en19 en20
       have Hq18f0 := Aside0.mk (Ow.S_iv (base := W.heap.size) ho0 En19.out En20.out (by have := HZ.out; have := Lgb1.out; have := Ln7.out; have := Ln12.out; have := Lgb4.out; have := En19.out; omega))
       clear ho0
       obtain ⟨Aq18f0, cq18f0, ea⟩ := Kd.S_slice Hq18f0.out
       subst ea
       have Ln19 := Aside0.mk (show (gb4 + 1) ≤ n19 ∧ n19 ≤ n20 by have := HZ.out; have := hb.size; have := En19.out; have := En20.out; omega)
       have n1 := Kd.S_below Hq11f0.out hb
       have n2 := blk_below BK1.out hb
       have n3 := blk_below BK4.out hb
       have n4 := below_step HB.out hb
       have n5 := Nat.le_trans HZ.out hb.size
       clear Hq11f0 BK1 BK4 HB HZ
       have Hq11f0 := Aside0.mk n1
       have BK1 := Aside0.mk n2
       have BK4 := Aside0.mk n3
       have HB := Aside0.mk n4
       have HZ := Aside0.mk n5
       clear n1 n2 n3 n4 n5
       replace HZ := Aside0.mk (show n20 ≤ w16.heap.size by have := En20.out; omega)
       clear hb)
    | ((with_reducible refine gate_dst (N := 5) rfl ?_)
       refine box_event ?hg (N := 5) ?hd (cs := #[.slice none 0 0]) (t := 43) ?hr ?_; (case hd => rfl); (case hg => rfl); (case hr => first | (go_simp; done) | (go_simp; rfl))
       intro gb5 hg w21 hbox hbA
       have HBA := Aside0.mk hbA; have HGA := Aside0.mk hg; have HXA := Aside0.mk hbox
       clear hbA hg hbox
       have hx5_0 : w21.cell? ⟨gb5, 0, none⟩ = some (.slice none 0 0) := (blk_cell HXA.out 0).trans rfl
       have hf5_0 := blk_frozen HXA.out 0)
    | ((with_reducible refine gate_store (t := 43) (p := 5) rfl ?_)
       refine store_event (t := 43) (p := 5) (v := ?vo_w22) (w1 := (w21.setCell ⟨gb5, 0, none⟩ (.slice Aq18f0 y0.f0.length cq18f0))) ?hg ?ho ?hn ?hr ?_; (case ho => rfl); (case hg => rfl); (case hn => rfl); (case hr => first | (go_simp; done) | (go_simp; rfl)); intro w22 hw
       have hb : Below w16.heap.size w16 w22 := by rw [hw]; exact below_set (HBA.out) (Nat.le_of_eq HGA.out.symm)
       have hbox : w22.heap[gb5]? = some (.cells #[.slice Aq18f0 y0.f0.length cq18f0] 43 (0, 0)) := by rw [hw]; exact blk_put (cs := #[.slice none 0 0]) (HXA.out) 0 (.slice Aq18f0 y0.f0.length cq18f0) rfl
       have Lgb5 := Aside0.mk (show n20 ≤ gb5 by rw [HGA.out]; exact HZ.out)
       clear hw HBA HGA HXA hx5_0 hf5_0
       have n1 := Kd.S_below Hq11f0.out hb
       have n2 := Kd.S_below Hq18f0.out hb
       have n3 := blk_below BK1.out hb
       have n4 := blk_below BK4.out hb
       have n5 := below_step HB.out hb
       have n6 := Nat.le_trans HZ.out hb.size
       clear Hq11f0 Hq18f0 BK1 BK4 HB HZ
       have Hq11f0 := Aside0.mk n1
       have Hq18f0 := Aside0.mk n2
       have BK1 := Aside0.mk n3
       have BK4 := Aside0.mk n4
       have HB := Aside0.mk n5
       have HZ := Aside0.mk n6
       clear n1 n2 n3 n4 n5 n6
       have BK5 := Aside0.mk hbox
       replace HZ := Aside0.mk (show gb5 + 1 ≤ w22.heap.size from blk_lt hbox)
       clear hbox hb
       have hx5_0 : w22.cell? ⟨gb5, 0, none⟩ = some (.slice Aq18f0 y0.f0.length cq18f0) := (blk_cell BK5.out 0).trans rfl)
    | ((with_reducible refine gate_callee (f := 26) rfl ?_)
       refine goesL_ (some 22) rfl rfl Try.func26 (by kernel_rfl) rfl #[.agg #[.slice Aq18f0 y0.f0.length cq18f0]] rfl (by (try simp only [List.map_toArray, List.map_cons, List.map_nil]); first | done | rfl) ?_
       have hh := p4
       obtain ⟨kq24, eq24⟩ := hh
       (with_reducible refine (impl_EmptyDB.calls kq24 _ _ (y0.f0) (r.f0) _ (Kd.S_reads' Hq18f0.out).2.2 (Kd.S_reads' Hq18f0.out).2.1 eq24).mono ?_)
       rintro e w23 ⟨u0, rfl, ho0, hb⟩
       refine ⟨_, rfl, ?_⟩
       clear hx5_0
       obtain ⟨n26, en26⟩ : ∃ n, n = w22.heap.size := ⟨_, rfl⟩
       obtain ⟨n27, en27⟩ : ∃ n, n = w23.heap.size := ⟨_, rfl⟩
       have En26 := Aside0.mk en26; have En27 := Aside0.mk en27
       clear en26 en27
       have Hq25f0 := Aside0.mk (Ow.S_iv (base := W.heap.size) ho0 En26.out En27.out (by have := HZ.out; have := Lgb1.out; have := Ln7.out; have := Ln12.out; have := Lgb4.out; have := Ln19.out; have := Lgb5.out; have := En26.out; omega))
       clear ho0
       obtain ⟨Aq25f0, cq25f0, ea⟩ := Kd.S_slice Hq25f0.out
       subst ea
       have Ln26 := Aside0.mk (show (gb5 + 1) ≤ n26 ∧ n26 ≤ n27 by have := HZ.out; have := hb.size; have := En26.out; have := En27.out; omega)
       have n1 := Kd.S_below Hq11f0.out hb
       have n2 := Kd.S_below Hq18f0.out hb
       have n3 := blk_below BK1.out hb
       have n4 := blk_below BK4.out hb
       have n5 := blk_below BK5.out hb
       have n6 := below_step HB.out hb
       have n7 := Nat.le_trans HZ.out hb.size
       clear Hq11f0 Hq18f0 BK1 BK4 BK5 HB HZ
       have Hq11f0 := Aside0.mk n1
       have Hq18f0 := Aside0.mk n2
       have BK1 := Aside0.mk n3
       have BK4 := Aside0.mk n4
       have BK5 := Aside0.mk n5
       have HB := Aside0.mk n6
       have HZ := Aside0.mk n7
       clear n1 n2 n3 n4 n5 n6 n7
       replace HZ := Aside0.mk (show n27 ≤ w23.heap.size by have := En27.out; omega)
       clear hb)
    | ((with_reducible refine gate_dst (N := 6) rfl ?_)
       refine box_event ?hg (N := 6) ?hd (cs := #[.slice none 0 0]) (t := 50) ?hr ?_; (case hd => rfl); (case hg => rfl); (case hr => first | (go_simp; done) | (go_simp; rfl))
       intro gb6 hg w28 hbox hbA
       have HBA := Aside0.mk hbA; have HGA := Aside0.mk hg; have HXA := Aside0.mk hbox
       clear hbA hg hbox
       have hx6_0 : w28.cell? ⟨gb6, 0, none⟩ = some (.slice none 0 0) := (blk_cell HXA.out 0).trans rfl
       have hf6_0 := blk_frozen HXA.out 0)
    | ((with_reducible refine gate_store (t := 50) (p := 6) rfl ?_)
       refine store_event (t := 50) (p := 6) (v := ?vo_w29) (w1 := (w28.setCell ⟨gb6, 0, none⟩ (.slice Aq25f0 r.f0.length cq25f0))) ?hg ?ho ?hn ?hr ?_; (case ho => rfl); (case hg => rfl); (case hn => rfl); (case hr => first | (go_simp; done) | (go_simp; rfl)); intro w29 hw
       have hb : Below w23.heap.size w23 w29 := by rw [hw]; exact below_set (HBA.out) (Nat.le_of_eq HGA.out.symm)
       have hbox : w29.heap[gb6]? = some (.cells #[.slice Aq25f0 r.f0.length cq25f0] 50 (0, 0)) := by rw [hw]; exact blk_put (cs := #[.slice none 0 0]) (HXA.out) 0 (.slice Aq25f0 r.f0.length cq25f0) rfl
       have Lgb6 := Aside0.mk (show n27 ≤ gb6 by rw [HGA.out]; exact HZ.out)
       clear hw HBA HGA HXA hx6_0 hf6_0
       have n1 := Kd.S_below Hq11f0.out hb
       have n2 := Kd.S_below Hq18f0.out hb
       have n3 := Kd.S_below Hq25f0.out hb
       have n4 := blk_below BK1.out hb
       have n5 := blk_below BK4.out hb
       have n6 := blk_below BK5.out hb
       have n7 := below_step HB.out hb
       have n8 := Nat.le_trans HZ.out hb.size
       clear Hq11f0 Hq18f0 Hq25f0 BK1 BK4 BK5 HB HZ
       have Hq11f0 := Aside0.mk n1
       have Hq18f0 := Aside0.mk n2
       have Hq25f0 := Aside0.mk n3
       have BK1 := Aside0.mk n4
       have BK4 := Aside0.mk n5
       have BK5 := Aside0.mk n6
       have HB := Aside0.mk n7
       have HZ := Aside0.mk n8
       clear n1 n2 n3 n4 n5 n6 n7 n8
       have BK6 := Aside0.mk hbox
       replace HZ := Aside0.mk (show gb6 + 1 ≤ w29.heap.size from blk_lt hbox)
       clear hbox hb
       have hx6_0 : w29.cell? ⟨gb6, 0, none⟩ = some (.slice Aq25f0 r.f0.length cq25f0) := (blk_cell BK6.out 0).trans rfl
       have hx4_0 : w29.cell? ⟨gb4, 0, none⟩ = some (.slice Aq11f0 r.f0.length cq11f0) := (blk_cell BK4.out 0).trans rfl)
    | ((with_reducible refine gate_callee (f := 27) rfl ?_)
       refine goesL_ (some 25) rfl rfl Try.func27 (by kernel_rfl) rfl #[.agg #[.slice Aq25f0 r.f0.length cq25f0], .agg #[.slice Aq11f0 r.f0.length cq11f0]] rfl (by (try simp only [List.map_toArray, List.map_cons, List.map_nil]); first | done | rfl) ?_
       have hh := p5
       obtain ⟨kq31, eq31⟩ := hh
       (with_reducible refine (laws_eqDB.calls kq31 _ _ (r.f0) _ _ (r.f0) true _ (Kd.S_reads' Hq25f0.out).2.2 (Kd.S_reads' Hq25f0.out).2.1 (Kd.S_reads' Hq11f0.out).2.2 (Kd.S_reads' Hq11f0.out).2.1 eq31).mono ?_)
       rintro e w30 ⟨rfl, hb⟩
       refine ⟨_, rfl, ?_⟩
       clear hx6_0 hx4_0
       have n1 := Kd.S_below Hq11f0.out hb
       have n2 := Kd.S_below Hq18f0.out hb
       have n3 := Kd.S_below Hq25f0.out hb
       have n4 := blk_below BK1.out hb
       have n5 := blk_below BK4.out hb
       have n6 := blk_below BK5.out hb
       have n7 := blk_below BK6.out hb
       have n8 := below_step HB.out hb
       have n9 := Nat.le_trans HZ.out hb.size
       clear Hq11f0 Hq18f0 Hq25f0 BK1 BK4 BK5 BK6 HB HZ
       have Hq11f0 := Aside0.mk n1
       have Hq18f0 := Aside0.mk n2
       have Hq25f0 := Aside0.mk n3
       have BK1 := Aside0.mk n4
       have BK4 := Aside0.mk n5
       have BK5 := Aside0.mk n6
       have BK6 := Aside0.mk n7
       have HB := Aside0.mk n8
       have HZ := Aside0.mk n9
       clear n1 n2 n3 n4 n5 n6 n7 n8 n9
       clear hb
       have hx5_0 : w30.cell? ⟨gb5, 0, none⟩ = some (.slice Aq18f0 y0.f0.length cq18f0) := (blk_cell BK5.out 0).trans rfl
       have hx1_0 : w30.cell? ⟨gb1, 0, none⟩ = some (.slice A0f0 x0.f0.length c0f0) := (blk_cell BK1.out 0).trans rfl))
  replace Hq11f0 := Aside0.mk (Kd.S_drew Hq11f0.out)
  replace Hq18f0 := Aside0.mk (Kd.S_drew Hq18f0.out)
  replace Hq25f0 := Aside0.mk (Kd.S_drew Hq25f0.out)
  replace BK1 := Aside0.mk (blk_drew BK1.out)
  replace BK4 := Aside0.mk (blk_drew BK4.out)
  replace BK5 := Aside0.mk (blk_drew BK5.out)
  replace BK6 := Aside0.mk (blk_drew BK6.out)
  replace HB := Aside0.mk (below_drew1 HB.out)
  replace HZ : Aside0 ((gb6 + 1) ≤ w30.drew.heap.size) := HZ
  refine start_ (n := 5) (S := fun w' => w'.cell? ⟨gb5, 0, none⟩ = some (.slice Aq18f0 y0.f0.length cq18f0) ∧ w'.cell? ⟨gb1, 0, none⟩ = some (.slice A0f0 x0.f0.length c0f0)) (ds := []) #[false, false, false, false, false] (by kernel_rfl) rfl rfl ⟨(blk_cell BK5.out 0).trans rfl, (blk_cell BK1.out 0).trans rfl⟩ (fun hHeld => ?_)
  generalize w30.drew = w32 at Hq11f0 Hq18f0 Hq25f0 BK1 BK4 BK5 BK6 HB HZ hHeld ⊢
  refine take_ (i := 0) (N := some 27) (v := ?_) (a' := ?_) #[true, false, false, false, false] rfl rfl (by kernel_rfl) (fun _ _ _ h => h) (Or.inl ⟨by rfl, ?_⟩) hHeld ?_ ?_
  rotate_left
  · rintro w' ⟨s0, s1⟩
    go_simp
    with_reducible rfl
  rotate_left
  · simp only [Act.put, List.setIfInBounds_toArray, List.set_cons_zero, List.set_cons_succ, i64_w, i32_w]
    rfl
  refine take_ (i := 1) (N := some 28) (v := ?_) (a' := ?_) #[true, true, false, false, false] rfl rfl (by kernel_rfl) (fun _ _ _ h => h) (Or.inl ⟨by rfl, ?_⟩) hHeld ?_ ?_
  rotate_left
  · rintro w' ⟨s0, s1⟩
    go_simp
    with_reducible rfl
  rotate_left
  · simp only [Act.put, List.setIfInBounds_toArray, List.set_cons_zero, List.set_cons_succ, i64_w, i32_w]
    rfl
  have hh := p2
  obtain ⟨kq33, eq33⟩ := hh
  have Eq33 := Aside0.mk eq33
  clear eq33
  refine one_ (i := 2) (N := some 29) #[true, true, true, false, false] rfl rfl (by kernel_rfl) (by decide) (fun K hK => ?_)
  refine goes_ Try.func21 (by kernel_rfl) rfl #[.agg #[.slice A0f0 x0.f0.length c0f0]] (by rfl) rfl rfl (by (try simp only [List.map_toArray, List.map_cons, List.map_nil]); first | done | rfl) ?_
  with_reducible refine (laws_toSchema.calls kq33 _ _ (x0.f0) (y0.f0) _ (Kd.C_below HA0f0.out HB.out) kHA0f0 Eq33.out).mono ?_
  rintro e w36 ⟨u0, rfl, ho0, hb⟩
  refine ⟨_, rfl, ?_⟩
  obtain ⟨n34, en34⟩ : ∃ n, n = w32.heap.size := ⟨_, rfl⟩
  obtain ⟨n35, en35⟩ : ∃ n, n = w36.heap.size := ⟨_, rfl⟩
  have En34 := Aside0.mk en34; have En35 := Aside0.mk en35
  clear en34 en35
  have Hq33f0 := Aside0.mk (Ow.S_iv (base := W.heap.size) ho0 En34.out En35.out (by have := HZ.out; have := Lgb1.out; have := Ln7.out; have := Ln12.out; have := Lgb4.out; have := Ln19.out; have := Lgb5.out; have := Ln26.out; have := Lgb6.out; have := En34.out; omega))
  clear ho0
  obtain ⟨Aq33f0, cq33f0, ea⟩ := Kd.S_slice Hq33f0.out
  subst ea
  have Ln34 := Aside0.mk (show (gb6 + 1) ≤ n34 ∧ n34 ≤ n35 by have := HZ.out; have := hb.size; have := En34.out; have := En35.out; omega)
  have n1 := Kd.S_below Hq11f0.out hb
  have n2 := Kd.S_below Hq18f0.out hb
  have n3 := Kd.S_below Hq25f0.out hb
  have n4 := blk_below BK1.out hb
  have n5 := blk_below BK4.out hb
  have n6 := blk_below BK5.out hb
  have n7 := blk_below BK6.out hb
  have n8 := below_step HB.out hb
  have n9 := Nat.le_trans HZ.out hb.size
  clear Hq11f0 Hq18f0 Hq25f0 BK1 BK4 BK5 BK6 HB HZ
  have Hq11f0 := Aside0.mk n1
  have Hq18f0 := Aside0.mk n2
  have Hq25f0 := Aside0.mk n3
  have BK1 := Aside0.mk n4
  have BK4 := Aside0.mk n5
  have BK5 := Aside0.mk n6
  have BK6 := Aside0.mk n7
  have HB := Aside0.mk n8
  have HZ := Aside0.mk n9
  clear n1 n2 n3 n4 n5 n6 n7 n8 n9
  replace HZ := Aside0.mk (show n35 ≤ w36.heap.size by have := En35.out; omega)
  clear hb
  refine hK.out _ _ ⟨(blk_cell BK5.out 0).trans rfl, (blk_cell BK1.out 0).trans rfl⟩ (fun hHeld => ?_)
  clear hK K
  refine norm_ (a' := ?_) ?_ ?_
  rotate_left
  · show Act.put _ (some 29) _ = _
    simp only [Act.put, List.setIfInBounds_toArray, List.set_cons_zero, List.set_cons_succ, i64_w, i32_w]
    rfl
  have hh := p6
  obtain ⟨kq38, eq38⟩ := hh
  have Eq38 := Aside0.mk eq38
  clear eq38
  refine one_ (i := 3) (N := some 30) #[true, true, true, true, false] rfl rfl (by kernel_rfl) (by decide) (fun K hK => ?_)
  refine goes_ Try.func23 (by kernel_rfl) rfl #[.agg #[.slice Aq18f0 y0.f0.length cq18f0], .agg #[.slice Aq33f0 y0.f0.length cq33f0]] (by rfl) rfl rfl (by (try simp only [List.map_toArray, List.map_cons, List.map_nil]); first | done | rfl) ?_
  with_reducible refine (laws_eqSchema.calls kq38 _ _ (y0.f0) _ _ (y0.f0) true _ (Kd.S_reads' Hq18f0.out).2.2 (Kd.S_reads' Hq18f0.out).2.1 (Kd.S_reads' Hq33f0.out).2.2 (Kd.S_reads' Hq33f0.out).2.1 Eq38.out).mono ?_
  rintro e w37 ⟨rfl, hb⟩
  refine ⟨_, rfl, ?_⟩
  have n1 := Kd.S_below Hq11f0.out hb
  have n2 := Kd.S_below Hq18f0.out hb
  have n3 := Kd.S_below Hq25f0.out hb
  have n4 := blk_below BK1.out hb
  have n5 := blk_below BK4.out hb
  have n6 := blk_below BK5.out hb
  have n7 := blk_below BK6.out hb
  have n8 := below_step HB.out hb
  have n9 := Nat.le_trans HZ.out hb.size
  clear Hq11f0 Hq18f0 Hq25f0 BK1 BK4 BK5 BK6 HB HZ
  have Hq11f0 := Aside0.mk n1
  have Hq18f0 := Aside0.mk n2
  have Hq25f0 := Aside0.mk n3
  have BK1 := Aside0.mk n4
  have BK4 := Aside0.mk n5
  have BK5 := Aside0.mk n6
  have BK6 := Aside0.mk n7
  have HB := Aside0.mk n8
  have HZ := Aside0.mk n9
  clear n1 n2 n3 n4 n5 n6 n7 n8 n9
  clear hb
  refine hK.out _ _ ⟨(blk_cell BK5.out 0).trans rfl, (blk_cell BK1.out 0).trans rfl⟩ (fun hHeld => ?_)
  clear hK K
  refine norm_ (a' := ?_) ?_ ?_
  rotate_left
  · show Act.put _ (some 30) _ = _
    simp only [Act.put, List.setIfInBounds_toArray, List.set_cons_zero, List.set_cons_succ, i64_w, i32_w]
    rfl
  refine pure_ (i := 4) (N := some 31) (v := ?_) (a' := ?_) #[true, true, true, true, true] rfl rfl (by kernel_rfl) (fun _ _ _ h => h) (Or.inl ⟨by rfl, ?_⟩) ?_ ?_
  rotate_left
  · intro w'
    go_simp
    with_reducible rfl
  rotate_left
  · simp only [Act.put, List.setIfInBounds_toArray, List.set_cons_zero, List.set_cons_succ, i64_w, i32_w]
    rfl
  refine done_ (by kernel_rfl) ?_
  clear hHeld
  have hx5_0 : w37.cell? ⟨gb5, 0, none⟩ = some (.slice Aq18f0 y0.f0.length cq18f0) := (blk_cell BK5.out 0).trans rfl
  go_wp2_with (first
    | ((with_reducible refine gate_callee (f := 24) rfl ?_)
       refine goesL_ (some 34) rfl rfl Try.func24 (by kernel_rfl) rfl #[.agg #[.slice Aq18f0 y0.f0.length cq18f0], .int .i64 1] rfl (by (try simp only [List.map_toArray, List.map_cons, List.map_nil]); first | done | rfl) ?_
       (with_reducible refine (markSchema_own y0 p7 1 (by decide) p8 _ (fun k => (True) ∧ n19 ≤ k ∧ k < n20) W _ HB.out Hq18f0.out (fun k hk => by have := HZ.out; have := Lgb1.out; have := Ln7.out; have := Ln12.out; have := Lgb4.out; have := Ln19.out; have := Lgb5.out; have := Ln26.out; have := Lgb6.out; have := Ln34.out; have := hk.2; omega)).mono ?_)
       rintro e w39 ⟨he, hr0, hb2, hk⟩
       obtain rfl : e = .returned (.int .i64 m0) := by rw [he, Hp9.out]
       clear he
       refine ⟨_, rfl, ?_⟩
       clear hx5_0
       clear Hq18f0
       have n1 := Kd.S_kept Hq11f0.out hk (fun k hk h1 => by have := Lgb1.out; have := Ln7.out; have := Ln12.out; have := Lgb4.out; have := Ln19.out; have := Lgb5.out; have := Ln26.out; have := Lgb6.out; have := Ln34.out; have := hk.2; have := h1.2; omega)
       have n2 := Kd.S_kept Hq25f0.out hk (fun k hk h1 => by have := Lgb1.out; have := Ln7.out; have := Ln12.out; have := Lgb4.out; have := Ln19.out; have := Lgb5.out; have := Ln26.out; have := Lgb6.out; have := Ln34.out; have := hk.2; have := h1.2; omega)
       have n3 := blk_kept BK1.out hk (fun h1 => by have := Lgb1.out; have := Ln7.out; have := Ln12.out; have := Lgb4.out; have := Ln19.out; have := Lgb5.out; have := Ln26.out; have := Lgb6.out; have := Ln34.out; have := h1.2; omega)
       have n4 := blk_kept BK4.out hk (fun h1 => by have := Lgb1.out; have := Ln7.out; have := Ln12.out; have := Lgb4.out; have := Ln19.out; have := Lgb5.out; have := Ln26.out; have := Lgb6.out; have := Ln34.out; have := h1.2; omega)
       have n5 := blk_kept BK5.out hk (fun h1 => by have := Lgb1.out; have := Ln7.out; have := Ln12.out; have := Lgb4.out; have := Ln19.out; have := Lgb5.out; have := Ln26.out; have := Lgb6.out; have := Ln34.out; have := h1.2; omega)
       have n6 := blk_kept BK6.out hk (fun h1 => by have := Lgb1.out; have := Ln7.out; have := Ln12.out; have := Lgb4.out; have := Ln19.out; have := Lgb5.out; have := Ln26.out; have := Lgb6.out; have := Ln34.out; have := h1.2; omega)
       have n7 := Nat.le_trans HZ.out hk.1
       clear Hq11f0 Hq25f0 BK1 BK4 BK5 BK6 HZ
       have Hq11f0 := Aside0.mk n1
       have Hq25f0 := Aside0.mk n2
       have BK1 := Aside0.mk n3
       have BK4 := Aside0.mk n4
       have BK5 := Aside0.mk n5
       have BK6 := Aside0.mk n6
       have HZ := Aside0.mk n7
       clear n1 n2 n3 n4 n5 n6 n7
       have n1 := hb2; clear HB; have HB := Aside0.mk n1; clear n1
       have Hq18f0 := Aside0.mk hr0
       clear hb2 hk hr0
       have hx6_0 : w39.cell? ⟨gb6, 0, none⟩ = some (.slice Aq25f0 r.f0.length cq25f0) := (blk_cell BK6.out 0).trans rfl
       have hx4_0 : w39.cell? ⟨gb4, 0, none⟩ = some (.slice Aq11f0 r.f0.length cq11f0) := (blk_cell BK4.out 0).trans rfl)
    | (go_at_call 27
       have hh := p5
       obtain ⟨kq42, eq42⟩ := hh
       (with_reducible refine (laws_eqDB.calls kq42 _ _ (r.f0) _ _ (r.f0) true _ (Kd.S_reads' Hq25f0.out).2.2 (Kd.S_reads' Hq25f0.out).2.1 (Kd.S_reads' Hq11f0.out).2.2 (Kd.S_reads' Hq11f0.out).2.1 eq42).mono ?_)
       rintro e w41 ⟨rfl, hb⟩
       clear hx6_0 hx4_0
       have n1 := Kd.S_below Hq11f0.out hb
       have n2 := Kd.S_below Hq18f0.out hb
       have n3 := Kd.S_below Hq25f0.out hb
       have n4 := blk_below BK1.out hb
       have n5 := blk_below BK4.out hb
       have n6 := blk_below BK5.out hb
       have n7 := blk_below BK6.out hb
       have n8 := below_step HB.out hb
       have n9 := Nat.le_trans HZ.out hb.size
       clear Hq11f0 Hq18f0 Hq25f0 BK1 BK4 BK5 BK6 HB HZ
       have Hq11f0 := Aside0.mk n1
       have Hq18f0 := Aside0.mk n2
       have Hq25f0 := Aside0.mk n3
       have BK1 := Aside0.mk n4
       have BK4 := Aside0.mk n5
       have BK5 := Aside0.mk n6
       have BK6 := Aside0.mk n7
       have HB := Aside0.mk n8
       have HZ := Aside0.mk n9
       clear n1 n2 n3 n4 n5 n6 n7 n8 n9
       clear hb
       have hx6_0 : w41.cell? ⟨gb6, 0, none⟩ = some (.slice Aq25f0 r.f0.length cq25f0) := (blk_cell BK6.out 0).trans rfl)
    | ((with_reducible refine gate_callee (f := 28) rfl ?_)
       refine goesL_ (some 45) rfl rfl Try.func28 (by kernel_rfl) rfl #[.agg #[.slice Aq25f0 r.f0.length cq25f0], .int .i64 1] rfl (by (try simp only [List.map_toArray, List.map_cons, List.map_nil]); first | done | rfl) ?_
       (with_reducible refine (markDB_own r p11 1 (by decide) p12 _ (fun k => (True) ∧ n26 ≤ k ∧ k < n27) W _ HB.out Hq25f0.out (fun k hk => by have := HZ.out; have := Lgb1.out; have := Ln7.out; have := Ln12.out; have := Lgb4.out; have := Ln19.out; have := Lgb5.out; have := Ln26.out; have := Lgb6.out; have := Ln34.out; have := hk.2; omega)).mono ?_)
       rintro e w43 ⟨he, hr0, hb2, hk⟩
       obtain rfl : e = .returned (.int .i64 m1) := by rw [he, Hp13.out]
       clear he
       refine ⟨_, rfl, ?_⟩
       clear hx6_0
       clear Hq25f0
       have n1 := Kd.S_kept Hq11f0.out hk (fun k hk h1 => by have := Lgb1.out; have := Ln7.out; have := Ln12.out; have := Lgb4.out; have := Ln19.out; have := Lgb5.out; have := Ln26.out; have := Lgb6.out; have := Ln34.out; have := hk.2; have := h1.2; omega)
       have n2 := Kd.S_kept Hq18f0.out hk (fun k hk h1 => by have := Lgb1.out; have := Ln7.out; have := Ln12.out; have := Lgb4.out; have := Ln19.out; have := Lgb5.out; have := Ln26.out; have := Lgb6.out; have := Ln34.out; have := hk.2; have := h1.2; omega)
       have n3 := blk_kept BK1.out hk (fun h1 => by have := Lgb1.out; have := Ln7.out; have := Ln12.out; have := Lgb4.out; have := Ln19.out; have := Lgb5.out; have := Ln26.out; have := Lgb6.out; have := Ln34.out; have := h1.2; omega)
       have n4 := blk_kept BK4.out hk (fun h1 => by have := Lgb1.out; have := Ln7.out; have := Ln12.out; have := Lgb4.out; have := Ln19.out; have := Lgb5.out; have := Ln26.out; have := Lgb6.out; have := Ln34.out; have := h1.2; omega)
       have n5 := blk_kept BK5.out hk (fun h1 => by have := Lgb1.out; have := Ln7.out; have := Ln12.out; have := Lgb4.out; have := Ln19.out; have := Lgb5.out; have := Ln26.out; have := Lgb6.out; have := Ln34.out; have := h1.2; omega)
       have n6 := blk_kept BK6.out hk (fun h1 => by have := Lgb1.out; have := Ln7.out; have := Ln12.out; have := Lgb4.out; have := Ln19.out; have := Lgb5.out; have := Ln26.out; have := Lgb6.out; have := Ln34.out; have := h1.2; omega)
       have n7 := Nat.le_trans HZ.out hk.1
       clear Hq11f0 Hq18f0 BK1 BK4 BK5 BK6 HZ
       have Hq11f0 := Aside0.mk n1
       have Hq18f0 := Aside0.mk n2
       have BK1 := Aside0.mk n3
       have BK4 := Aside0.mk n4
       have BK5 := Aside0.mk n5
       have BK6 := Aside0.mk n6
       have HZ := Aside0.mk n7
       clear n1 n2 n3 n4 n5 n6 n7
       have n1 := hb2; clear HB; have HB := Aside0.mk n1; clear n1
       have Hq25f0 := Aside0.mk hr0
       clear hb2 hk hr0
       have hx6_0 : w43.cell? ⟨gb6, 0, none⟩ = some (.slice Aq25f0 r.f0.length cq25f0) := (blk_cell BK6.out 0).trans rfl)
    | ((with_reducible refine gate_callee (f := 29) rfl ?_)
       refine goesL_ (some 48) rfl rfl Try.func29 (by kernel_rfl) rfl #[.agg #[.slice Aq25f0 r.f0.length cq25f0], .int .i64 1] rfl (by (try simp only [List.map_toArray, List.map_cons, List.map_nil]); first | done | rfl) ?_
       have hh := p15
       obtain ⟨kq46, eq46⟩ := hh
       refine calls_of_args (args' := #[.agg #[.slice Aq25f0 (mkTableDataS r.f0 (1)).length cq25f0], .int .i64 1]) (by simp only [mtS_length, mkTableDataS_length]) ?_
       (with_reducible refine (laws_heldDB.calls kq46 _ _ (mkTableDataS r.f0 (1)) 1 m1 _ (by first | exact (Kd.S_reads' Hq25f0.out).2.2 | (rw [mkTableDataS_length]; exact (Kd.S_reads' Hq25f0.out).2.2)) (by first | exact (Kd.S_reads' Hq25f0.out).2.1 | (rw [mkTableDataS_length]; exact (Kd.S_reads' Hq25f0.out).2.1)) eq46).mono ?_)
       rintro e w45 ⟨rfl, hb⟩
       refine ⟨_, rfl, ?_⟩
       clear hx6_0
       have n1 := Kd.S_below Hq11f0.out hb
       have n2 := Kd.S_below Hq18f0.out hb
       have n3 := Kd.S_below Hq25f0.out hb
       have n4 := blk_below BK1.out hb
       have n5 := blk_below BK4.out hb
       have n6 := blk_below BK5.out hb
       have n7 := blk_below BK6.out hb
       have n8 := below_step HB.out hb
       have n9 := Nat.le_trans HZ.out hb.size
       clear Hq11f0 Hq18f0 Hq25f0 BK1 BK4 BK5 BK6 HB HZ
       have Hq11f0 := Aside0.mk n1
       have Hq18f0 := Aside0.mk n2
       have Hq25f0 := Aside0.mk n3
       have BK1 := Aside0.mk n4
       have BK4 := Aside0.mk n5
       have BK5 := Aside0.mk n6
       have BK6 := Aside0.mk n7
       have HB := Aside0.mk n8
       have HZ := Aside0.mk n9
       clear n1 n2 n3 n4 n5 n6 n7 n8 n9
       clear hb
       have hx1_0 : w45.cell? ⟨gb1, 0, none⟩ = some (.slice A0f0 x0.f0.length c0f0) := (blk_cell BK1.out 0).trans rfl)
    | ((with_reducible refine gate_callee (f := 21) rfl ?_)
       refine goesL_ (some 55) rfl rfl Try.func21 (by kernel_rfl) rfl #[.agg #[.slice A0f0 x0.f0.length c0f0]] rfl (by (try simp only [List.map_toArray, List.map_cons, List.map_nil]); first | done | rfl) ?_
       have hh := p2
       obtain ⟨kq48, eq48⟩ := hh
       (with_reducible refine (laws_toSchema.calls kq48 _ _ (x0.f0) (y0.f0) _ (Kd.C_below HA0f0.out HB.out) kHA0f0 eq48).mono ?_)
       rintro e w47 ⟨u0, rfl, ho0, hb⟩
       refine ⟨_, rfl, ?_⟩
       clear hx1_0
       obtain ⟨n50, en50⟩ : ∃ n, n = w45.heap.size := ⟨_, rfl⟩
       obtain ⟨n51, en51⟩ : ∃ n, n = w47.heap.size := ⟨_, rfl⟩
       have En50 := Aside0.mk en50; have En51 := Aside0.mk en51
       clear en50 en51
       have Hq49f0 := Aside0.mk (Ow.S_iv (base := W.heap.size) ho0 En50.out En51.out (by have := HZ.out; have := Lgb1.out; have := Ln7.out; have := Ln12.out; have := Lgb4.out; have := Ln19.out; have := Lgb5.out; have := Ln26.out; have := Lgb6.out; have := Ln34.out; have := En50.out; omega))
       clear ho0
       obtain ⟨Aq49f0, cq49f0, ea⟩ := Kd.S_slice Hq49f0.out
       subst ea
       have Ln50 := Aside0.mk (show n35 ≤ n50 ∧ n50 ≤ n51 by have := HZ.out; have := hb.size; have := En50.out; have := En51.out; omega)
       have n1 := Kd.S_below Hq11f0.out hb
       have n2 := Kd.S_below Hq18f0.out hb
       have n3 := Kd.S_below Hq25f0.out hb
       have n4 := blk_below BK1.out hb
       have n5 := blk_below BK4.out hb
       have n6 := blk_below BK5.out hb
       have n7 := blk_below BK6.out hb
       have n8 := below_step HB.out hb
       have n9 := Nat.le_trans HZ.out hb.size
       clear Hq11f0 Hq18f0 Hq25f0 BK1 BK4 BK5 BK6 HB HZ
       have Hq11f0 := Aside0.mk n1
       have Hq18f0 := Aside0.mk n2
       have Hq25f0 := Aside0.mk n3
       have BK1 := Aside0.mk n4
       have BK4 := Aside0.mk n5
       have BK5 := Aside0.mk n6
       have BK6 := Aside0.mk n7
       have HB := Aside0.mk n8
       have HZ := Aside0.mk n9
       clear n1 n2 n3 n4 n5 n6 n7 n8 n9
       replace HZ := Aside0.mk (show n51 ≤ w47.heap.size by have := En51.out; omega)
       clear hb)
    | ((with_reducible refine gate_callee (f := 26) rfl ?_)
       refine goesL_ (some 56) rfl rfl Try.func26 (by kernel_rfl) rfl #[.agg #[.slice Aq49f0 y0.f0.length cq49f0]] rfl (by (try simp only [List.map_toArray, List.map_cons, List.map_nil]); first | done | rfl) ?_
       have hh := p4
       obtain ⟨kq53, eq53⟩ := hh
       (with_reducible refine (impl_EmptyDB.calls kq53 _ _ (y0.f0) (r.f0) _ (Kd.S_reads' Hq49f0.out).2.2 (Kd.S_reads' Hq49f0.out).2.1 eq53).mono ?_)
       rintro e w52 ⟨u0, rfl, ho0, hb⟩
       refine ⟨_, rfl, ?_⟩
       obtain ⟨n55, en55⟩ : ∃ n, n = w47.heap.size := ⟨_, rfl⟩
       obtain ⟨n56, en56⟩ : ∃ n, n = w52.heap.size := ⟨_, rfl⟩
       have En55 := Aside0.mk en55; have En56 := Aside0.mk en56
       clear en55 en56
       have Hq54f0 := Aside0.mk (Ow.S_iv (base := W.heap.size) ho0 En55.out En56.out (by have := HZ.out; have := Lgb1.out; have := Ln7.out; have := Ln12.out; have := Lgb4.out; have := Ln19.out; have := Lgb5.out; have := Ln26.out; have := Lgb6.out; have := Ln34.out; have := Ln50.out; have := En55.out; omega))
       clear ho0
       obtain ⟨Aq54f0, cq54f0, ea⟩ := Kd.S_slice Hq54f0.out
       subst ea
       have Ln55 := Aside0.mk (show n51 ≤ n55 ∧ n55 ≤ n56 by have := HZ.out; have := hb.size; have := En55.out; have := En56.out; omega)
       have n1 := Kd.S_below Hq11f0.out hb
       have n2 := Kd.S_below Hq18f0.out hb
       have n3 := Kd.S_below Hq25f0.out hb
       have n4 := Kd.S_below Hq49f0.out hb
       have n5 := blk_below BK1.out hb
       have n6 := blk_below BK4.out hb
       have n7 := blk_below BK5.out hb
       have n8 := blk_below BK6.out hb
       have n9 := below_step HB.out hb
       have n10 := Nat.le_trans HZ.out hb.size
       clear Hq11f0 Hq18f0 Hq25f0 Hq49f0 BK1 BK4 BK5 BK6 HB HZ
       have Hq11f0 := Aside0.mk n1
       have Hq18f0 := Aside0.mk n2
       have Hq25f0 := Aside0.mk n3
       have Hq49f0 := Aside0.mk n4
       have BK1 := Aside0.mk n5
       have BK4 := Aside0.mk n6
       have BK5 := Aside0.mk n7
       have BK6 := Aside0.mk n8
       have HB := Aside0.mk n9
       have HZ := Aside0.mk n10
       clear n1 n2 n3 n4 n5 n6 n7 n8 n9 n10
       replace HZ := Aside0.mk (show n56 ≤ w52.heap.size by have := En56.out; omega)
       clear hb)
    | ((with_reducible refine gate_dst (N := 10) rfl ?_)
       refine box_event ?hg (N := 10) ?hd (cs := #[.slice none 0 0]) (t := 50) ?hr ?_; (case hd => rfl); (case hg => rfl); (case hr => first | (go_simp; done) | (go_simp; rfl))
       intro gb10 hg w57 hbox hbA
       have HBA := Aside0.mk hbA; have HGA := Aside0.mk hg; have HXA := Aside0.mk hbox
       clear hbA hg hbox
       have hx10_0 : w57.cell? ⟨gb10, 0, none⟩ = some (.slice none 0 0) := (blk_cell HXA.out 0).trans rfl
       have hf10_0 := blk_frozen HXA.out 0)
    | ((with_reducible refine gate_store (t := 50) (p := 10) rfl ?_)
       refine store_event (t := 50) (p := 10) (v := ?vo_w58) (w1 := (w57.setCell ⟨gb10, 0, none⟩ (.slice Aq54f0 r.f0.length cq54f0))) ?hg ?ho ?hn ?hr ?_; (case ho => rfl); (case hg => rfl); (case hn => rfl); (case hr => first | (go_simp; done) | (go_simp; rfl)); intro w58 hw
       have hb : Below w52.heap.size w52 w58 := by rw [hw]; exact below_set (HBA.out) (Nat.le_of_eq HGA.out.symm)
       have hbox : w58.heap[gb10]? = some (.cells #[.slice Aq54f0 r.f0.length cq54f0] 50 (0, 0)) := by rw [hw]; exact blk_put (cs := #[.slice none 0 0]) (HXA.out) 0 (.slice Aq54f0 r.f0.length cq54f0) rfl
       have Lgb10 := Aside0.mk (show n56 ≤ gb10 by rw [HGA.out]; exact HZ.out)
       clear hw HBA HGA HXA hx10_0 hf10_0
       have n1 := Kd.S_below Hq11f0.out hb
       have n2 := Kd.S_below Hq18f0.out hb
       have n3 := Kd.S_below Hq25f0.out hb
       have n4 := Kd.S_below Hq54f0.out hb
       have n5 := blk_below BK1.out hb
       have n6 := blk_below BK4.out hb
       have n7 := blk_below BK5.out hb
       have n8 := blk_below BK6.out hb
       have n9 := below_step HB.out hb
       have n10 := Nat.le_trans HZ.out hb.size
       clear Hq11f0 Hq18f0 Hq25f0 Hq54f0 BK1 BK4 BK5 BK6 HB HZ
       have Hq11f0 := Aside0.mk n1
       have Hq18f0 := Aside0.mk n2
       have Hq25f0 := Aside0.mk n3
       have Hq54f0 := Aside0.mk n4
       have BK1 := Aside0.mk n5
       have BK4 := Aside0.mk n6
       have BK5 := Aside0.mk n7
       have BK6 := Aside0.mk n8
       have HB := Aside0.mk n9
       have HZ := Aside0.mk n10
       clear n1 n2 n3 n4 n5 n6 n7 n8 n9 n10
       have BK10 := Aside0.mk hbox
       replace HZ := Aside0.mk (show gb10 + 1 ≤ w58.heap.size from blk_lt hbox)
       clear hbox hb
       have hx10_0 : w58.cell? ⟨gb10, 0, none⟩ = some (.slice Aq54f0 r.f0.length cq54f0) := (blk_cell BK10.out 0).trans rfl
       have hx4_0 : w58.cell? ⟨gb4, 0, none⟩ = some (.slice Aq11f0 r.f0.length cq11f0) := (blk_cell BK4.out 0).trans rfl)
    | ((with_reducible refine gate_callee (f := 27) rfl ?_)
       refine goesL_ (some 59) rfl rfl Try.func27 (by kernel_rfl) rfl #[.agg #[.slice Aq54f0 r.f0.length cq54f0], .agg #[.slice Aq11f0 r.f0.length cq11f0]] rfl (by (try simp only [List.map_toArray, List.map_cons, List.map_nil]); first | done | rfl) ?_
       have hh := p5
       obtain ⟨kq60, eq60⟩ := hh
       (with_reducible refine (laws_eqDB.calls kq60 _ _ (r.f0) _ _ (r.f0) true _ (Kd.S_reads' Hq54f0.out).2.2 (Kd.S_reads' Hq54f0.out).2.1 (Kd.S_reads' Hq11f0.out).2.2 (Kd.S_reads' Hq11f0.out).2.1 eq60).mono ?_)
       rintro e w59 ⟨rfl, hb⟩
       refine ⟨_, rfl, ?_⟩
       clear hx10_0 hx4_0
       have n1 := Kd.S_below Hq11f0.out hb
       have n2 := Kd.S_below Hq18f0.out hb
       have n3 := Kd.S_below Hq25f0.out hb
       have n4 := Kd.S_below Hq54f0.out hb
       have n5 := blk_below BK1.out hb
       have n6 := blk_below BK4.out hb
       have n7 := blk_below BK5.out hb
       have n8 := blk_below BK6.out hb
       have n9 := blk_below BK10.out hb
       have n10 := below_step HB.out hb
       have n11 := Nat.le_trans HZ.out hb.size
       clear Hq11f0 Hq18f0 Hq25f0 Hq54f0 BK1 BK4 BK5 BK6 BK10 HB HZ
       have Hq11f0 := Aside0.mk n1
       have Hq18f0 := Aside0.mk n2
       have Hq25f0 := Aside0.mk n3
       have Hq54f0 := Aside0.mk n4
       have BK1 := Aside0.mk n5
       have BK4 := Aside0.mk n6
       have BK5 := Aside0.mk n7
       have BK6 := Aside0.mk n8
       have BK10 := Aside0.mk n9
       have HB := Aside0.mk n10
       have HZ := Aside0.mk n11
       clear n1 n2 n3 n4 n5 n6 n7 n8 n9 n10 n11
       clear hb
       have hx6_0 : w59.cell? ⟨gb6, 0, none⟩ = some (.slice Aq25f0 r.f0.length cq25f0) := (blk_cell BK6.out 0).trans rfl)
    | ((with_reducible refine gate_callee (f := 29) rfl ?_)
       refine goesL_ (some 63) rfl rfl Try.func29 (by kernel_rfl) rfl #[.agg #[.slice Aq25f0 r.f0.length cq25f0], .int .i64 1] rfl (by (try simp only [List.map_toArray, List.map_cons, List.map_nil]); first | done | rfl) ?_
       have hh := p15
       obtain ⟨kq62, eq62⟩ := hh
       refine calls_of_args (args' := #[.agg #[.slice Aq25f0 (mkTableDataS r.f0 (1)).length cq25f0], .int .i64 1]) (by simp only [mtS_length, mkTableDataS_length]) ?_
       (with_reducible refine (laws_heldDB.calls kq62 _ _ (mkTableDataS r.f0 (1)) 1 m1 _ (by first | exact (Kd.S_reads' Hq25f0.out).2.2 | (rw [mkTableDataS_length]; exact (Kd.S_reads' Hq25f0.out).2.2)) (by first | exact (Kd.S_reads' Hq25f0.out).2.1 | (rw [mkTableDataS_length]; exact (Kd.S_reads' Hq25f0.out).2.1)) eq62).mono ?_)
       rintro e w61 ⟨rfl, hb⟩
       refine ⟨_, rfl, ?_⟩
       clear hx6_0
       have n1 := Kd.S_below Hq11f0.out hb
       have n2 := Kd.S_below Hq18f0.out hb
       have n3 := Kd.S_below Hq25f0.out hb
       have n4 := Kd.S_below Hq54f0.out hb
       have n5 := blk_below BK1.out hb
       have n6 := blk_below BK4.out hb
       have n7 := blk_below BK5.out hb
       have n8 := blk_below BK6.out hb
       have n9 := blk_below BK10.out hb
       have n10 := below_step HB.out hb
       have n11 := Nat.le_trans HZ.out hb.size
       clear Hq11f0 Hq18f0 Hq25f0 Hq54f0 BK1 BK4 BK5 BK6 BK10 HB HZ
       have Hq11f0 := Aside0.mk n1
       have Hq18f0 := Aside0.mk n2
       have Hq25f0 := Aside0.mk n3
       have Hq54f0 := Aside0.mk n4
       have BK1 := Aside0.mk n5
       have BK4 := Aside0.mk n6
       have BK5 := Aside0.mk n7
       have BK6 := Aside0.mk n8
       have BK10 := Aside0.mk n9
       have HB := Aside0.mk n10
       have HZ := Aside0.mk n11
       clear n1 n2 n3 n4 n5 n6 n7 n8 n9 n10 n11
       clear hb))
  go_ret
  exact ⟨rfl, HB.out⟩
set_option maxHeartbeats 8000000 in
set_option maxRecDepth 100000 in
theorem FnExactEmptyDB_stop1 (x0 : S38) (y0 : S43) (r : S50) (left0 : Int)
    (p0 : ∃ k, laws_szSchema.f k (x0.f0) 1048576 = some left0)
    (p1 : decide (left0 < 0) = true)
    (W : World) {A0f0 : Option Addr} {c0f0 : Nat} (hHA0f0 : Kd.C k136 W A0f0 x0.f0.length x0.f0) (kHA0f0 : x0.f0.length ≤ c0f0) :
    Calls Try.prog 5 #[.agg #[.slice A0f0 x0.f0.length c0f0]] W fun e w' => e = .returned (.bool true) ∧ Below W.heap.size W w' := by
  have HA0f0 := Aside0.mk hHA0f0
  clear hHA0f0
  have HB := Aside0.mk (Below.refl W.heap.size W)
  have HZ := Aside0.mk (Nat.le_refl W.heap.size)
  have HZ0 := Aside0.mk (Nat.le_refl W.heap.size)
  go_enter Try.func5, Try.ntmps5
  go_wp2_with (first
    | ((with_reducible refine gate_dst (N := 1) rfl ?_)
       refine box_event ?hg (N := 1) ?hd (cs := #[.slice A0f0 x0.f0.length c0f0]) (t := 38) ?hr ?_; (case hd => rfl); (case hg => rfl); (case hr => first | (go_simp; done) | (go_simp; rfl))
       intro gb1 hg w1 hbox hb
       have Lgb1 := Aside0.mk (show W.heap.size ≤ gb1 by rw [hg]; exact HZ.out)
       have n1 := below_step HB.out hb
       have n2 := Nat.le_trans HZ.out hb.size
       clear HB HZ
       have HB := Aside0.mk n1
       have HZ := Aside0.mk n2
       clear n1 n2
       have BK1 := Aside0.mk hbox
       replace HZ := Aside0.mk (show gb1 + 1 ≤ w1.heap.size from blk_lt hbox)
       clear hbox hb hg
       have hx1_0 : w1.cell? ⟨gb1, 0, none⟩ = some (.slice A0f0 x0.f0.length c0f0) := (blk_cell BK1.out 0).trans rfl)
    | ((with_reducible refine gate_callee (f := 19) rfl ?_)
       refine goesL_ (some 13) rfl rfl Try.func19 (by kernel_rfl) rfl #[.agg #[.slice A0f0 x0.f0.length c0f0], .int .i64 1048576] rfl (by (try simp only [List.map_toArray, List.map_cons, List.map_nil]); first | done | rfl) ?_
       have hh := p0
       obtain ⟨kq3, eq3⟩ := hh
       (with_reducible refine (laws_szSchema.calls kq3 _ _ (x0.f0) 1048576 left0 _ (Kd.C_below HA0f0.out HB.out) kHA0f0 eq3).mono ?_)
       rintro e w2 ⟨rfl, hb⟩
       refine ⟨_, rfl, ?_⟩
       clear hx1_0
       have n1 := blk_below BK1.out hb
       have n2 := below_step HB.out hb
       have n3 := Nat.le_trans HZ.out hb.size
       clear BK1 HB HZ
       have BK1 := Aside0.mk n1
       have HB := Aside0.mk n2
       have HZ := Aside0.mk n3
       clear n1 n2 n3
       clear hb
       have hx1_0 : w2.cell? ⟨gb1, 0, none⟩ = some (.slice A0f0 x0.f0.length c0f0) := (blk_cell BK1.out 0).trans rfl))
  go_ret
  exact ⟨rfl, HB.out⟩
end Go.Proofs.Ytcgdaeaaimkhdaa.Py
end

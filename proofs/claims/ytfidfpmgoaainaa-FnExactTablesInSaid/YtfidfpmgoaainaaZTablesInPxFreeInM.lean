/- freeIn: the free variables of a term, with a map of the names that are bound; FreeVars. No condition beyond the sizes named. -/
import Derived.Test.YtfidfpmgoaainaaZTablesInWLastM
import Derived.Test.YtfidfpmgoaainaaZTablesInPx5
import Derived.Test.YtfidfpmgoaainaaZTablesInPx6M
import Derived.Test.YtfidfpmgoaainaaZTablesInPxFTypeM
import Derived.Test.YtfidfpmgoaainaaZTablesInPxMarkW3M
import Derived.Test.YtfidfpmgoaainaaZTablesInPx8M
import Derived.Test.YtfidfpmgoaainaaZTablesInPx1M
import Derived.Test.YtfidfpmgoaainaaZTablesInPx4
import Derived.Laws.EntriesVeiled
section
namespace Go.Proofs.Ytfidfpmgoaainaa.Px
open Go.RowKit Go.Proofs.YtfidfpmgoaainaaW.PrintWords Go.Proofs.YtfidfpmgoaainaaW.PrintLast Go.Proofs.Ytfidfpmgoaainaa.Pl Go.Proofs.Ytfidfpmgoaainaa.Ext
set_option linter.unusedVariables false
set_option linter.unusedSimpArgs false
theorem zeroI (w : World) : (zeroValue 3).run Try.prog w = .ok (.int .i64 0) w := by kernel_rfl
noncomputable def eI : Sm.El Try.prog 3 Int := Sm.elInt Try.underlying3 zeroI
def bindAt (a : Int) (n : Nat) : Int := if a = 10 ∧ n = 2 then 1 else if a = 13 ∧ n = 1 then 0 else -1
mutual
def freeX : S36 → (ByteArray → Int) → List ByteArray → List ByteArray
  | ⟨a, nm, _, _, _, xs⟩, f, acc => if a = 1 then (if f nm = 0 ∧ hasB acc nm = false then acc ++ [nm] else acc) else freeXS xs (bindAt a xs.length) nm 0 f acc
def freeXS : List S36 → Int → ByteArray → Int → (ByteArray → Int) → List ByteArray → List ByteArray
  | [], _, _, _, _, acc => acc
  | x :: r, b, nm, i, f, acc => freeXS r b nm (i + 1) f (freeX x (if i = b then Sm.put f nm (f nm + 1) else f) acc)
end
theorem freeX_eq (x : S36) (f : ByteArray → Int) (acc : List ByteArray) : freeX x f acc = if x.f0 = 1 then (if f x.f1 = 0 ∧ hasB acc x.f1 = false then acc ++ [x.f1] else acc) else freeXS x.f5 (bindAt x.f0 x.f5.length) x.f1 0 f acc := by
  obtain ⟨a, nm, n, t, ls, xs⟩ := x
  rw [freeX]
theorem binds_ev (x : S36) : Ev (fun k => impl_binds.f k x.f0 x.f1 x.f2 x.f3.f0 x.f3.f1 x.f3.f2 x.f4 x.f5) (bindAt x.f0 x.f5.length) := by
  have hj : ∀ b : Bool, (b = true ↔ x.f0 = 10 ∧ x.f5.length = 2) → Ev (fun k => impl_binds.j0 k b x.f0 x.f5) (bindAt x.f0 x.f5.length) := by
    intro b hb
    refine Ev.up ?_
    simp only [impl_binds.j0]
    unfold bindAt
    by_cases h : b = true
    · rw [show (if x.f0 = 10 ∧ x.f5.length = 2 then (1 : Int) else if x.f0 = 13 ∧ x.f5.length = 1 then 0 else -1) = 1 from if_pos (hb.1 h)]; exact Ev.pos h (Ev.now _)
    · rw [show (if x.f0 = 10 ∧ x.f5.length = 2 then (1 : Int) else if x.f0 = 13 ∧ x.f5.length = 1 then 0 else -1) = (if x.f0 = 13 ∧ x.f5.length = 1 then 0 else -1) from if_neg (fun h2 => h (hb.2 h2))]
      refine Ev.neg h ?_
      by_cases h13 : x.f0 = 13
      · refine Ev.pos h13 ?_
        by_cases h1 : x.f5.length = 1
        · rw [show (if x.f0 = 13 ∧ x.f5.length = 1 then (0 : Int) else -1) = 0 from if_pos ⟨h13, h1⟩]; exact Ev.pos (by omega) (Ev.now _)
        · rw [show (if x.f0 = 13 ∧ x.f5.length = 1 then (0 : Int) else -1) = -1 from if_neg (fun h => h1 h.2)]; exact Ev.neg (by omega) (Ev.now _)
      · rw [show (if x.f0 = 13 ∧ x.f5.length = 1 then (0 : Int) else -1) = -1 from if_neg (fun h => h13 h.1)]; exact Ev.neg h13 (Ev.now _)
  simp only [impl_binds.f]
  by_cases h : x.f0 = 10
  · exact Ev.pos h (hj _ (by simp only [beq_iff_eq]; omega))
  · exact Ev.neg h (hj _ (by simp [h]))
theorem contains_ev (xs : List ByteArray) (hx : xs.length ≤ 4194304) (s : ByteArray) : Ev (fun k => slices_Contains_string_string.f k xs s) (hasB xs s) := by
  suffices h : ∀ (m i : Nat), i + m = xs.length → ∃ t : Int, Ev (fun k => slices_Index_string_string.l0 k xs s (xs.length : Int) (i : Int)) t ∧ decide (t ≥ 0) = hasB (xs.drop i) s by
    obtain ⟨t, h1, h2⟩ := h xs.length 0 (by omega)
    simp only [slices_Contains_string_string.f]
    refine Ev.bind (a := t) h1 (Ev.const ?_)
    simpa using h2
  intro m
  induction m with
  | zero =>
    intro i hi
    refine ⟨-1, Ev.up ?_, ?_⟩
    · simp only [slices_Index_string_string.l0]; exact Ev.neg (by omega) (Ev.now _)
    · rw [List.drop_of_length_le (by omega)]; rfl
  | succ m ih =>
    intro i hi
    obtain ⟨t, h1, h2⟩ := ih (i + 1) (by omega)
    rw [drop_at xs i (by omega)]
    by_cases hc : s.toList = (rdOf ByteArray.empty xs (i : Int)).toList
    · refine ⟨(i : Int), Ev.up ?_, ?_⟩
      · simp only [slices_Index_string_string.l0]; exact Ev.pos (by omega) (Ev.pos (by omega) (Ev.pos (by omega) (Ev.pos hc (Ev.now _))))
      · rw [rdOf_str, tl, tl] at hc
        have h' : hasB (xs.getD i ByteArray.empty :: xs.drop (i + 1)) s = true := (hasB_iff _ _).2 (by rw [← Sm.toList_inj hc]; exact List.mem_cons_self ..)
        rw [h']
        exact decide_eq_true (by omega)
    · refine ⟨t, Ev.up ?_, ?_⟩
      · simp only [slices_Index_string_string.l0]
        refine Ev.pos (by omega) (Ev.pos (by omega) (Ev.pos (by omega) (Ev.neg hc ?_)))
        rw [w1 (n := xs.length) (by omega) (by unfold maxLen; omega)]; exact h1
      · have hne : ¬ xs.getD i ByteArray.empty = s := fun h => hc (by rw [rdOf_str, h])
        have e : hasB (xs.getD i ByteArray.empty :: xs.drop (i + 1)) s = hasB (xs.drop (i + 1)) s := by unfold hasB; rw [List.any_cons, decide_eq_false hne, Bool.false_or]
        rw [e]
        exact h2
theorem dropT (xs : List S36) (i : Nat) (h : i < xs.length) : xs.drop i = xs.getD i z36 :: xs.drop (i + 1) := by
  rw [List.drop_eq_getElem_cons h, List.getD_eq_getElem?_getD, List.getElem?_eq_getElem h]
  rfl
mutual
theorem freeX_len : ∀ (x : S36) (f : ByteArray → Int) (acc : List ByteArray), (freeX x f acc).length ≤ acc.length + ndTerm x
  | ⟨a, nm, n, t, ls, xs⟩, f, acc => by
    have h := freeXS_len xs (bindAt a xs.length) nm 0 f acc
    rw [freeX, ndTerm]
    split
    · split
      · simp only [List.length_append, List.length_cons, List.length_nil]; omega
      · omega
    · omega
theorem freeXS_len : ∀ (xs : List S36) (b : Int) (nm : ByteArray) (i : Int) (f : ByteArray → Int) (acc : List ByteArray), (freeXS xs b nm i f acc).length ≤ acc.length + ndTermS xs
  | [], b, nm, i, f, acc => by rw [freeXS]; omega
  | x :: r, b, nm, i, f, acc => by
    have h1 := freeX_len x (if i = b then Sm.put f nm (f nm + 1) else f) acc
    have h2 := freeXS_len r b nm (i + 1) f (freeX x (if i = b then Sm.put f nm (f nm + 1) else f) acc)
    rw [freeXS, ndTermS]
    omega
end
theorem nd_pos (x : S36) : 1 ≤ ndTerm x := by rw [ndTerm_eq]; omega
set_option maxHeartbeats 8000000 in
set_option maxRecDepth 100000 in
theorem freeIn_go : ∀ x : S36, SmTerm x → ∀ (ad0 : Addr) (A4 : Option Addr) (c4 : Nat) (A5 : Option Addr) (c5 : Nat) (A6 : Option Addr) (c6 : Nat) (A7 : Option Addr) (c7 : Nat) (w0 w : World) (bm n : Nat) (f : ByteArray → Int) (v : Value) (acc : List ByteArray),
    Cells w0 ad0 [.int .i64 x.f0, .string x.f1, .int .i64 x.f2, .int .i64 x.f3.f0, .slice A4 x.f3.f1.length c4, .slice A5 x.f3.f2.length c5, .slice A6 x.f4.length c6, .slice A7 x.f5.length c7] →
    Kd.C Kd.string w0 A4 x.f3.f1.length x.f3.f1 → x.f3.f1.length ≤ c4 → Kd.C k33 w0 A5 x.f3.f2.length x.f3.f2 → x.f3.f2.length ≤ c5 → Kd.C Kd.string w0 A6 x.f4.length x.f4 → x.f4.length ≤ c6 → Kd.C k36 w0 A7 x.f5.length x.f5 → x.f5.length ≤ c7 →
    w0.heap.size ≤ bm → Sm.SMap eI 9 w bm n f → n + 4 * ndTerm x ≤ 1000000000 → (∀ s, 0 ≤ f s ∧ f s + ndTerm x ≤ 1000000000) → acc.length + ndTerm x ≤ 4194304 → Kd.R Kd.string 9 w w0.heap.size (fun k => k ≠ bm) v acc → Below w0.heap.size w0 w →
    Calls Try.prog 45 #[.pointer (some ad0), .map (some bm), v] w fun e w' => ∃ v', e = .returned v' ∧ Kd.R Kd.string 9 w' w0.heap.size (fun k => k ≠ bm) v' (freeX x f acc) ∧ (∃ n', n' + 2 ≤ n + 4 * ndTerm x ∧ Sm.SMap eI 9 w' bm n' f) ∧ Below w0.heap.size w0 w' := by
  refine indTermI fun x ih hs => ?_
  intro ad0 A4 c4 A5 c5 A6 c6 A7 c7 w0 w bm n f v acc hp h4 g4 h5 g5 h6 g6 h7 g7 hbm hm hn hf hl ho hb
  have HP := Aside0.mk hp; have H4 := Aside0.mk (And.intro h4 g4); have H5 := Aside0.mk (And.intro h5 g5); have H6 := Aside0.mk (And.intro h6 g6); have H7 := Aside0.mk (And.intro h7 g7)
  have HBM := Aside0.mk hbm; have HM := Aside0.mk hm; have HN := Aside0.mk hn; have HF := Aside0.mk hf; have HL := Aside0.mk hl; have HO := Aside0.mk ho; have HB := Aside0.mk hb
  have HS := Aside0.mk hs
  have HK : Aside0 (x.f1.size ≤ maxLen) := ⟨by have := hs.p1; unfold maxLen; omega⟩
  have HX := Aside0.mk (freeX_eq x f acc)
  have HND := Aside0.mk (nd_pos x)
  have hx0 : w.cell? ad0 = some (.int .i64 x.f0) := pw_cell_below HB.out HP.out.1
  have hx1 : w.cell? ⟨ad0.block, ad0.off + 1, none⟩ = some (.string x.f1) := pw_cell_below HB.out HP.out.2.1
  have hx7 : w.cell? ⟨ad0.block, ad0.off + 7, none⟩ = some (.slice A7 x.f5.length c7) := pw_cell_below HB.out HP.out.2.2.2.2.2.2.2.1
  clear hp h4 g4 h5 g5 h6 g6 h7 g7 hbm hm hn hf hl ho hb hs
  by_cases h1 : x.f0 = 1
  · have c1 : (x.f0 == 1) = true := beq_iff_eq.mpr h1
    have HX2 : Aside0 (freeX x f acc = if f x.f1 = 0 ∧ hasB acc x.f1 = false then acc ++ [x.f1] else acc) := ⟨by rw [HX.out, if_pos h1]⟩
    clear h1 HX ih
    obtain ⟨Av, cv, ev⟩ := Kd.R_slice HO.out
    subst ev
    by_cases hf0 : f x.f1 = 0
    · have cf : (f x.f1 == 0) = true := beq_iff_eq.mpr hf0
      have HF0 := Aside0.mk hf0
      clear hf0
      obtain ⟨K, hK⟩ := contains_ev acc (by have := HL.out; omega) x.f1
      have HC := Aside0.mk (hK K (Nat.le_refl K))
      clear hK
      by_cases hh : hasB acc x.f1 = true
      · rw [hh] at HC
        go_enter Try.func45, Try.ntmps45
        go_wp2_with (first
          | ((with_reducible refine gate_lookup (t := 63) rfl ?_); refine Sm.sget_event (E := eI) rfl rfl Try.underlying63 Try.underlying9 rfl HM.out x.f1 rfl HK.out (?_ : wpList _ _ _ _ (Act.put _ _ (.int .i64 (f x.f1))) _))
          | (go_at_call 50; refine (slices_Contains_string_string.calls K _ _ acc x.f1 true _ (Kd.R_reads' HO.out).2.2 (Kd.R_reads' HO.out).2.1 HC.out).mono ?_; rintro e w2 ⟨rfl, hd⟩; have HB2 := Aside0.mk (below_step HB.out (Drawn0.below hd)); have HO2 := Aside0.mk (Kd.R_below HO.out (Drawn0.below hd)); have HM2 := Aside0.mk (HM.out.below (Drawn0.below hd)); clear hd))
        go_ret
        refine ⟨_, rfl, ?_, ⟨n, by have := HND.out; omega, HM2.out⟩, HB2.out⟩
        rw [HX2.out, if_neg (by rw [hh]; intro h; cases h.2)]
        exact HO2.out
      · replace hh : hasB acc x.f1 = false := by simpa using hh
        rw [hh] at HC
        have HH := Aside0.mk hh
        clear hh
        go_enter Try.func45, Try.ntmps45
        go_wp2_with (first
          | ((with_reducible refine gate_lookup (t := 63) rfl ?_); refine Sm.sget_event (E := eI) rfl rfl Try.underlying63 Try.underlying9 rfl HM.out x.f1 rfl HK.out (?_ : wpList _ _ _ _ (Act.put _ _ (.int .i64 (f x.f1))) _))
          | (go_at_call 50; refine (slices_Contains_string_string.calls K _ _ acc x.f1 false _ (Kd.R_reads' HO.out).2.2 (Kd.R_reads' HO.out).2.1 HC.out).mono ?_; rintro e w2 ⟨rfl, hd⟩; have HB2 := Aside0.mk (below_step HB.out (Drawn0.below hd)); have HO2 := Aside0.mk (Kd.R_below HO.out (Drawn0.below hd)); have HM2 := Aside0.mk (HM.out.below (Drawn0.below hd)); have hy1 : w2.cell? ⟨ad0.block, ad0.off + 1, none⟩ = some (.string x.f1) := pw_cell_below HB2.out HP.out.2.1; clear hd hx0 hx1 hx7)
          | ((with_reducible refine gate_builtin (b := .append) (xs := #[.tmp 29, .tmp 34]) rfl ?_); at_builtin
             refine Kd.R_append Kd.string (w0 := w0) w0.heap.size rfl (.tmp 29) (.tmp 34) 22 9 (.string ⟨#[]⟩) 16 rfl Try.underlying22 info9 rfl (by decide) (by omega) _ acc x.f1 [.string x.f1] (fun k => k ≠ bm) (fun _ => False) rfl rfl ?aP (fun _ hk => hk.elim) ?aF ?aO ?aB ?aS ?aL ?_
             (case aP => exact rfl)
             (case aB => exact HB2.out)
             (case aF => exact (fun k hk e_ => by have := HM2.out.lt; omega))
             (case aO => exact HO2.out)
             (case aS => exact below_size HB2.out)
             (case aL => have := HL.out; omega)
             intro v7 w7 ho hb hg hat
             have HO7 := Aside0.mk ho
             have HM7 := Aside0.mk (HM2.out.kept hg (fun e_ => HO2.out.1 bm e_.symm rfl))
             have HB7 := Aside0.mk hb
             clear ho hb hg hat))
        go_ret
        refine ⟨_, rfl, ?_, ⟨n, by have := HND.out; omega, HM7.out⟩, HB7.out⟩
        rw [HX2.out, if_pos ⟨HF0.out, HH.out⟩]
        exact HO7.out
    · have cf : (f x.f1 == 0) = false := beq_eq_false_iff_ne.mpr hf0
      have HF0 := Aside0.mk hf0
      clear hf0
      go_enter Try.func45, Try.ntmps45
      go_wp2_with ((with_reducible refine gate_lookup (t := 63) rfl ?_); refine Sm.sget_event (E := eI) rfl rfl Try.underlying63 Try.underlying9 rfl HM.out x.f1 rfl HK.out (?_ : wpList _ _ _ _ (Act.put _ _ (.int .i64 (f x.f1))) _))
      go_ret
      refine ⟨_, rfl, ?_, ⟨n, by have := HND.out; omega, HM.out⟩, HB.out⟩
      rw [HX2.out, if_neg (fun h => HF0.out h.1)]
      exact HO.out
  · have c1 : (x.f0 == 1) = false := beq_eq_false_iff_ne.mpr h1
    have HX2 : Aside0 (freeX x f acc = freeXS x.f5 (bindAt x.f0 x.f5.length) x.f1 0 f acc) := ⟨by rw [HX.out, if_neg h1]⟩
    have HNS : Aside0 (ndTerm x = 1 + ndTermS x.f5) := ⟨by rw [ndTerm_eq, ndTermS_sum]⟩
    have HIH := Aside0.mk ih
    obtain ⟨KB, hKB⟩ := binds_ev x
    have HBI := Aside0.mk (hKB KB (Nat.le_refl KB))
    clear h1 HX ih hKB
    obtain ⟨b, hb⟩ : ∃ b, b = bindAt x.f0 x.f5.length := ⟨_, rfl⟩
    rw [← hb] at HX2 HBI
    clear hb
    go_enter Try.func45, Try.ntmps45
    go_wp2
    go_loopg [2, 42] x.f5.length (fun gq v2 v42 w' => ∃ (i : Nat) (acc' : List ByteArray) (n' : Nat), v42 = .int .i64 (i : Int) ∧ Aside0 (i + gq = x.f5.length ∧ n' + 4 * ndTermS (x.f5.drop i) + 4 ≤ n + 4 * ndTerm x ∧ acc'.length + ndTermS (x.f5.drop i) ≤ acc.length + ndTerm x ∧ freeXS (x.f5.drop i) b x.f1 (i : Int) f acc' = freeX x f acc) ∧ Aside0 (Kd.R Kd.string 9 w' w0.heap.size (fun k => k ≠ bm) v2 acc') ∧ Aside0 (Sm.SMap eI 9 w' bm n' f) ∧ Aside0 (Below w0.heap.size w0 w'))
    case atStart => exact ⟨0, acc, n, by first | rfl | simp, ⟨by omega, by rw [List.drop_zero, HNS.out]; omega, by rw [List.drop_zero, HNS.out]; omega, by rw [List.drop_zero, HX2.out]; rfl⟩, HO, HM, HB⟩
    case round =>
      clear HO HM HB hx0 hx1 hx7
      obtain ⟨i, acc', n', rfl, HI, HO, HM, HB⟩ := hrel
      have hx0 : wr.cell? ad0 = some (.int .i64 x.f0) := pw_cell_below HB.out HP.out.1
      have hx1 : wr.cell? ⟨ad0.block, ad0.off + 1, none⟩ = some (.string x.f1) := pw_cell_below HB.out HP.out.2.1
      have hx7 : wr.cell? ⟨ad0.block, ad0.off + 7, none⟩ = some (.slice A7 x.f5.length c7) := pw_cell_below HB.out HP.out.2.2.2.2.2.2.2.1
      by_cases d1 : i < x.f5.length
      · have d2 : (i : Int) < (x.f5.length : Int) := by omega
        have d4 : decide ((i : Int) < (x.f5.length : Int)) = true := decide_eq_true d2
        have d3 := eq_true d2
        have d5 : (0 ≤ (i : Int)) = True := eq_true (by omega)
        have hmem : rd_T36 x.f5 (i : Int) ∈ x.f5 := mem_getD x.f5 z36 i d1
        have hdr : Aside0 (x.f5.drop i = rd_T36 x.f5 (i : Int) :: x.f5.drop (i + 1)) := ⟨dropT x.f5 i d1⟩
        have hnd2 : Aside0 (ndTermS (x.f5.drop i) = ndTerm (rd_T36 x.f5 (i : Int)) + ndTermS (x.f5.drop (i + 1))) := ⟨by rw [hdr.out, ndTermS]⟩
        have hsub : Aside0 (ndTerm (rd_T36 x.f5 (i : Int)) ≤ ndTermS x.f5) := ⟨by rw [ndTermS_sum]; exact sum_le_of_mem ndTerm hmem⟩
        have hpos := Aside0.mk (nd_pos (rd_T36 x.f5 (i : Int)))
        have HY := Aside0.mk (HIH.out _ hmem (HS.out.p5.2 _ hmem))
        have hw1 : Aside0 (wrap64 ((i : Int) + 1) = ((i + 1 : Nat) : Int)) := ⟨w1 d1 (by have := HS.out.p5.1; unfold maxLen; omega)⟩
        obtain ⟨ad, B4, e4, B5, e5, B6, e6, B7, e7, eA, y0, y1, y2, y3, y4, y5, y6, y7, m4, o4, m5, o5, m6, o6, m7, o7⟩ := at_T36 H7.out.1 (i : Int) (by omega) d2
        cases eA
        replace HY := Aside0.mk (HY.out (ad.add (i * 8)) B4 e4 B5 e5 B6 e6 B7 e7 w0)
        replace HY := Aside0.mk (fun w bm n f v acc => HY.out w bm n f v acc (show Cells w0 _ _ from ⟨y0, y1, y2, y3, y4, y5, y6, y7, trivial⟩) o4 m4 o5 m5 o6 m6 o7 m7)
        have D1 := Aside0.mk d1
        clear d1 d2 hmem y0 y1 y2 y3 y4 y5 y6 y7 m4 o4 m5 o5 m6 o6 m7 o7 HIH
        go_upto_if 48 with (go_at_call 72; refine (impl_binds.calls KB ad0 x.f0 x.f1 x.f2 x.f3.f0 _ _ x.f3.f1 _ _ x.f3.f2 _ _ x.f4 _ _ x.f5 b _ (Cells_below HP.out HB.out) (Kd.C_below H4.out.1 HB.out) H4.out.2 (Kd.C_below H5.out.1 HB.out) H5.out.2 (Kd.C_below H6.out.1 HB.out) H6.out.2 (Kd.C_below H7.out.1 HB.out) H7.out.2 HBI.out).mono ?_; rintro e w2 ⟨rfl, hd⟩; have HB2 := Aside0.mk (below_step HB.out (Drawn0.below hd)); have HO2 := Aside0.mk (Kd.R_below HO.out (Drawn0.below hd)); have HM2 := Aside0.mk (HM.out.below (Drawn0.below hd)); have hz1 : w2.cell? ⟨ad0.block, ad0.off + 1, none⟩ = some (.string x.f1) := pw_cell_below HB2.out HP.out.2.1; have hz7 : w2.cell? ⟨ad0.block, ad0.off + 7, none⟩ = some (.slice (some ad) x.f5.length c7) := pw_cell_below HB2.out HP.out.2.2.2.2.2.2.2.1; clear hd hx0 hx1 hx7)
        have hfb := Aside0.mk (HF.out x.f1)
        by_cases hib : (i : Int) = b
        · have cb : ((i : Int) == b) = true := beq_iff_eq.mpr hib
          have HIB := Aside0.mk hib
          have hwa : Aside0 (wrap64 (f x.f1 + 1) = f x.f1 + 1) := ⟨w64 (by have := hfb.out; omega) (by have := hfb.out; omega)⟩
          clear hib
          (first | rw [cb] | (simp only [i64_w, i32_w]; rw [cb]) | skip)
          go_upto_region 10 with (first
            | ((with_reducible refine gate_lookup (t := 63) rfl ?_); refine Sm.sget_event (E := eI) rfl rfl Try.underlying63 Try.underlying9 rfl HM2.out x.f1 rfl HK.out (?_ : wpList _ _ _ _ (Act.put _ _ (.int .i64 (f x.f1))) _))
            | ((with_reducible refine gate_mapUpdate (t := 63) rfl ?_)
               refine Sm.sput_event (E := eI) rfl rfl Try.underlying63 Try.underlying9 rfl HM2.out (by have := HI.out.2.1; have := HN.out; unfold maxLen; omega) x.f1 (wrap64 (f x.f1 + 1)) rfl rfl HK.out (by rw [hwa.out]; exact WalkArith.wf_i64 (by have := hfb.out; omega)) ?_
               intro w3 him hg
               rw [hwa.out] at him
               have HM3 := Aside0.mk him
               have HO3 := Aside0.mk (Kd.R_grown HO2.out hg (fun k hk e_ => hk (by injection e_)))
               have HB3 := Aside0.mk (pw_below_grown HB2.out _ (below_size HB2.out) hg (fun k_ e_ => by injection e_ with e_; rw [← e_]; exact HBM.out))
               have hq1 : w3.cell? ⟨ad0.block, ad0.off + 1, none⟩ = some (.string x.f1) := pw_cell_below HB3.out HP.out.2.1
               have hq7 : w3.cell? ⟨ad0.block, ad0.off + 7, none⟩ = some (.slice (some ad) x.f5.length c7) := pw_cell_below HB3.out HP.out.2.2.2.2.2.2.2.1
               clear him hg hz1 hz7))
          go_upto_region 11 with (go_at_call 45; refine (HY.out w3 bm (n' + 1) (Sm.put f x.f1 (f x.f1 + 1)) _ acc' HBM.out HM3.out ?g1 ?g2 ?g3 HO3.out HB3.out).mono ?_; (case g1 => have := HI.out.2.1; have := HN.out; have := hnd2.out; omega); (case g2 => intro s; have h8 := HF.out s; have h9 := hfb.out; have := HNS.out; have := hsub.out; unfold Sm.put; split <;> omega); (case g3 => have := HI.out.2.2.1; have := HL.out; have := hnd2.out; omega); rintro e w4 ⟨v', rfl, ho, ⟨n2, hn2, hm⟩, hb4⟩; have HO4 := Aside0.mk ho; have HN4 := Aside0.mk hn2; have HM4 := Aside0.mk hm; have HB4 := Aside0.mk hb4; have hr1 : w4.cell? ⟨ad0.block, ad0.off + 1, none⟩ = some (.string x.f1) := pw_cell_below HB4.out HP.out.2.1; clear ho hn2 hm hb4 hq1 hq7)
          have hpu : Aside0 (Sm.put f x.f1 (f x.f1 + 1) x.f1 = f x.f1 + 1) := ⟨by unfold Sm.put; rw [if_pos rfl]⟩
          have hws : Aside0 (wrap64 (f x.f1) = f x.f1) := ⟨by rw [w64 (by have := hfb.out; omega) (by have := hfb.out; omega)]⟩
          go_wp2_with (first
            | ((with_reducible refine gate_lookup (t := 63) rfl ?_); refine Sm.sget_event (E := eI) rfl rfl Try.underlying63 Try.underlying9 rfl HM4.out x.f1 rfl HK.out ?_; rw [hpu.out]; refine (?_ : wpList _ _ _ _ (Act.put _ _ (.int .i64 (f x.f1 + 1))) _))
            | ((with_reducible refine gate_mapUpdate (t := 63) rfl ?_)
               refine Sm.sput_event (E := eI) rfl rfl Try.underlying63 Try.underlying9 rfl HM4.out (by have := HN4.out; have := HI.out.2.1; have := HN.out; have := hnd2.out; unfold maxLen; omega) x.f1 (wrap64 (f x.f1)) rfl rfl HK.out (by rw [hws.out]; exact WalkArith.wf_i64 (by have := hfb.out; omega)) ?_
               intro w5 him hg
               rw [hws.out] at him
               have HM5 : Aside0 (Sm.SMap eI 9 w5 bm (n2 + 1) f) := ⟨him.congr (fun s => by unfold Sm.put; split <;> simp_all)⟩
               have HO5 := Aside0.mk (Kd.R_grown HO4.out hg (fun k hk e_ => hk (by injection e_)))
               have HB5 := Aside0.mk (pw_below_grown HB4.out _ (below_size HB4.out) hg (fun k_ e_ => by injection e_ with e_; rw [← e_]; exact HBM.out))
               clear him hg hr1))
          go_roundg (gk - 1)
          case measure => have := HI.out; have := D1.out; omega
          case rel => exact ⟨i + 1, _, n2 + 1, (by rw [← hw1.out]), ⟨by have := HI.out; have := D1.out; omega, by have := HI.out.2.1; have := HN4.out; have := hnd2.out; omega, by have h1 := freeX_len (rd_T36 x.f5 (i : Int)) (Sm.put f x.f1 (f x.f1 + 1)) acc'; have := HI.out.2.2.1; have := hnd2.out; omega, by rw [← HI.out.2.2.2, hdr.out, freeXS, if_pos HIB.out]; rfl⟩, HO5, HM5, HB5⟩
        · have cb : ((i : Int) == b) = false := beq_eq_false_iff_ne.mpr hib
          have HIB := Aside0.mk hib
          clear hib
          (first | rw [cb] | (simp only [i64_w, i32_w]; rw [cb]) | skip)
          go_wp2_with (go_at_call 45; refine (HY.out w2 bm n' f _ acc' HBM.out HM2.out ?g1 ?g2 ?g3 HO2.out HB2.out).mono ?_; (case g1 => have := HI.out.2.1; have := HN.out; have := hnd2.out; omega); (case g2 => intro s; have h8 := HF.out s; have := HNS.out; have := hsub.out; omega); (case g3 => have := HI.out.2.2.1; have := HL.out; have := hnd2.out; omega); rintro e w4 ⟨v', rfl, ho, ⟨n2, hn2, hm⟩, hb4⟩; have HO4 := Aside0.mk ho; have HN4 := Aside0.mk hn2; have HM4 := Aside0.mk hm; have HB4 := Aside0.mk hb4; clear ho hn2 hm hb4 hz1 hz7)
          go_roundg (gk - 1)
          case measure => have := HI.out; have := D1.out; omega
          case rel => exact ⟨i + 1, _, n2, (by rw [← hw1.out]), ⟨by have := HI.out; have := D1.out; omega, by have := HI.out.2.1; have := HN4.out; have := hnd2.out; omega, by have h1 := freeX_len (rd_T36 x.f5 (i : Int)) f acc'; have := HI.out.2.2.1; have := hnd2.out; omega, by rw [← HI.out.2.2.2, hdr.out, freeXS, if_neg HIB.out]; rfl⟩, HO4, HM4, HB4⟩
      · have d4 : decide ((i : Int) < (x.f5.length : Int)) = false := decide_eq_false (by omega)
        have d5 : ¬ ((i : Int) < (x.f5.length : Int)) := by omega
        have hz : Aside0 (acc' = freeX x f acc ∧ n' + 2 ≤ n + 4 * ndTerm x) := ⟨by have h := HI.out; rw [List.drop_of_length_le (by omega)] at h; exact ⟨h.2.2.2, by have := h.2.1; omega⟩⟩
        clear d1
        go_wp2
        go_ret
        exact ⟨_, rfl, by rw [← hz.out.1]; exact HO.out, ⟨n', hz.out.2, HM.out⟩, HB.out⟩

end Go.Proofs.Ytfidfpmgoaainaa.Px
end
section
namespace Go.Proofs.Ytfidfpmgoaainaa.Px
open Go.RowKit Go.Proofs.YtfidfpmgoaainaaW.PrintWords Go.Proofs.YtfidfpmgoaainaaW.PrintLast Go.Proofs.Ytfidfpmgoaainaa.Pl Go.Proofs.Ytfidfpmgoaainaa.Ext
set_option linter.unusedVariables false
set_option linter.unusedSimpArgs false
open Classical in
noncomputable def impl_FreeVars.f (_k : Nat) (a0_0 : Int) (a0_1 : ByteArray) (a0_2 : Int) (a0_3 : Int) (l0_4 : List ByteArray) (l0_5 : List (S33)) (l0_6 : List ByteArray) (l0_7 : List (S36)) : Option (List ByteArray) :=
  if SmTerm ⟨a0_0, a0_1, a0_2, ⟨a0_3, l0_4, l0_5⟩, l0_6, l0_7⟩ ∧ ndTerm ⟨a0_0, a0_1, a0_2, ⟨a0_3, l0_4, l0_5⟩, l0_6, l0_7⟩ ≤ 1048577 then some (freeX ⟨a0_0, a0_1, a0_2, ⟨a0_3, l0_4, l0_5⟩, l0_6, l0_7⟩ (fun _ => 0) []) else none
set_option maxHeartbeats 4000000 in
set_option maxRecDepth 100000 in
theorem impl_FreeVars.calls (k : Nat) (a0_0 : Int) (a0_1 : ByteArray) (a0_2 : Int) (a0_3 : Int) (A0_4 : Option Addr) (c0_4 : Nat) (l0_4 : List ByteArray) (A0_5 : Option Addr) (c0_5 : Nat) (l0_5 : List (S33)) (A0_6 : Option Addr) (c0_6 : Nat) (l0_6 : List ByteArray) (A0_7 : Option Addr) (c0_7 : Nat) (l0_7 : List (S36)) (r : List ByteArray) (w : World) (hr0_4 : Kd.C Kd.string w A0_4 l0_4.length l0_4) (hc0_4 : l0_4.length ≤ c0_4) (hr0_5 : Kd.C k33 w A0_5 l0_5.length l0_5) (hc0_5 : l0_5.length ≤ c0_5) (hr0_6 : Kd.C Kd.string w A0_6 l0_6.length l0_6) (hc0_6 : l0_6.length ≤ c0_6) (hr0_7 : Kd.C k36 w A0_7 l0_7.length l0_7) (hc0_7 : l0_7.length ≤ c0_7) (h : impl_FreeVars.f k a0_0 a0_1 a0_2 a0_3 l0_4 l0_5 l0_6 l0_7 = some r) :
    Calls Try.prog 13 #[.agg #[.int .i64 a0_0, .string a0_1, .int .i64 a0_2, .int .i64 a0_3, .slice A0_4 l0_4.length c0_4, .slice A0_5 l0_5.length c0_5, .slice A0_6 l0_6.length c0_6, .slice A0_7 l0_7.length c0_7]] w fun e w' => ∃ v0_ : Value, e = .returned (v0_) ∧ Kd.R Kd.string 9 w' w.heap.size (fun _ => True) v0_ r ∧ Below w.heap.size w w' := by
  unfold impl_FreeVars.f at h
  by_cases hc : SmTerm ⟨a0_0, a0_1, a0_2, ⟨a0_3, l0_4, l0_5⟩, l0_6, l0_7⟩ ∧ ndTerm ⟨a0_0, a0_1, a0_2, ⟨a0_3, l0_4, l0_5⟩, l0_6, l0_7⟩ ≤ 1048577
  · rw [if_pos hc] at h
    obtain rfl := Option.some.inj h
    have HG := Aside0.mk (freeIn_go ⟨a0_0, a0_1, a0_2, ⟨a0_3, l0_4, l0_5⟩, l0_6, l0_7⟩ hc.1)
    have HC := Aside0.mk hc.2
    have R4 := Aside0.mk (And.intro hr0_4 hc0_4); have R5 := Aside0.mk (And.intro hr0_5 hc0_5); have R6 := Aside0.mk (And.intro hr0_6 hc0_6); have R7 := Aside0.mk (And.intro hr0_7 hc0_7)
    obtain ⟨X, hX⟩ : ∃ X : S36, X = ⟨a0_0, a0_1, a0_2, ⟨a0_3, l0_4, l0_5⟩, l0_6, l0_7⟩ := ⟨_, rfl⟩
    rw [← hX] at HC ⊢
    have HX := Aside0.mk hX
    clear h hc hr0_4 hc0_4 hr0_5 hc0_5 hr0_6 hc0_6 hr0_7 hc0_7 hX
    have hu36 := Try.underlying36
    go_enter Try.func13, Try.ntmps13
    go_wp2_with (first
      | ((with_reducible refine gate_dst (N := 1) rfl ?_); refine box_event ?hg (N := 1) ?hd (cs := #[.int .i64 a0_0, .string a0_1, .int .i64 a0_2, .int .i64 a0_3, .slice A0_4 l0_4.length c0_4, .slice A0_5 l0_5.length c0_5, .slice A0_6 l0_6.length c0_6, .slice A0_7 l0_7.length c0_7]) (t := 36) ?hr ?_; (case hd => rfl); (case hg => rfl); (case hr => first | (go_simp; done) | (go_simp; rfl)); intro gb hg w1 hbox hb; have HBX := Aside0.mk hbox; have HB1 := Aside0.mk hb; clear hg hbox hb)
      | ((with_reducible refine gate_makeMap (t := 63) rfl ?_); refine Sm.smake_event rfl rfl eI 9 ?_; intro bm w2 hg him hb; have HM := Aside0.mk him; have HGB := Aside0.mk (show w1.heap.size ≤ bm by rw [hg]; exact Nat.le_refl _); have HB2 := Aside0.mk hb; clear hg him hb)
      | ((with_reducible refine gate_dst (N := 4) rfl ?_); refine Kd.R_lit Kd.string (w0 := w1) w1.heap.size 9 ?hg (N := 4) ?hd (xs := ([] : List ByteArray)) (inner := []) (ok := fun k => k ≠ bm) (okp := fun k => k ≠ bm) ?hr ?hp (fun _ hk => hk) (by have := HM.out.lt; omega) HB2.out (below_size HB2.out) (by simp) ?_; (case hd => rfl); (case hg => rfl); (case hr => first | (go_simp; done) | (go_simp; rfl)); (case hp => exact (Reps.none _ _)); intro v3 w3 ho hb hg_ hnew_; have HO := Aside0.mk ho; have HB3 := Aside0.mk hb; have HM3 := Aside0.mk (HM.out.kept hg_ (by simp)); clear ho hb hg_ hnew_)
      | (go_at_call 45
         refine (HG.out ⟨gb, 0, none⟩ A0_4 c0_4 A0_5 c0_5 A0_6 c0_6 A0_7 c0_7 w1 w3 bm 0 (fun _ => 0) v3 [] (Cells_blk HBX.out) (Kd.C_below R4.out.1 HB1.out) R4.out.2 (Kd.C_below R5.out.1 HB1.out) R5.out.2 (Kd.C_below R6.out.1 HB1.out) R6.out.2 (Kd.C_below R7.out.1 HB1.out) R7.out.2 HGB.out HM3.out ?g1 ?g2 ?g3 HO.out HB3.out).mono ?_
         (case g1 => have := HC.out; rw [HX.out] at this; omega)
         (case g2 => intro s; have := HC.out; rw [HX.out] at this; omega)
         (case g3 => have := HC.out; rw [HX.out] at this; rw [List.length_nil]; omega)
         rintro e w4 ⟨v', rfl, ho, _, hb⟩
         rw [← HX.out] at ho
         have HO4 := Aside0.mk (Kd.R_lower (Kd.R_mono (ok' := fun _ => True) ho (fun _ _ => trivial)) (below_size HB1.out))
         have HB4 := Aside0.mk (below_step HB1.out hb)
         clear ho hb))
    go_ret
    exact ⟨_, rfl, HO4.out, HB4.out⟩
  · rw [if_neg hc] at h
    cases h
noncomputable def impl_IsClosed.f (k : Nat) (a0_0 : Int) (a0_1 : ByteArray) (a0_2 : Int) (a0_3 : Int) (l0_4 : List ByteArray) (l0_5 : List (S33)) (l0_6 : List ByteArray) (l0_7 : List (S36)) : Option Bool := (impl_FreeVars.f k a0_0 a0_1 a0_2 a0_3 l0_4 l0_5 l0_6 l0_7).map (fun l => (l.length : Int) == 0)
set_option maxHeartbeats 4000000 in
set_option maxRecDepth 100000 in
theorem impl_IsClosed.calls (k : Nat) (a0_0 : Int) (a0_1 : ByteArray) (a0_2 : Int) (a0_3 : Int) (A0_4 : Option Addr) (c0_4 : Nat) (l0_4 : List ByteArray) (A0_5 : Option Addr) (c0_5 : Nat) (l0_5 : List (S33)) (A0_6 : Option Addr) (c0_6 : Nat) (l0_6 : List ByteArray) (A0_7 : Option Addr) (c0_7 : Nat) (l0_7 : List (S36)) (r : Bool) (w : World) (hr0_4 : Kd.C Kd.string w A0_4 l0_4.length l0_4) (hc0_4 : l0_4.length ≤ c0_4) (hr0_5 : Kd.C k33 w A0_5 l0_5.length l0_5) (hc0_5 : l0_5.length ≤ c0_5) (hr0_6 : Kd.C Kd.string w A0_6 l0_6.length l0_6) (hc0_6 : l0_6.length ≤ c0_6) (hr0_7 : Kd.C k36 w A0_7 l0_7.length l0_7) (hc0_7 : l0_7.length ≤ c0_7) (h : impl_IsClosed.f k a0_0 a0_1 a0_2 a0_3 l0_4 l0_5 l0_6 l0_7 = some r) :
    Calls Try.prog 10 #[.agg #[.int .i64 a0_0, .string a0_1, .int .i64 a0_2, .int .i64 a0_3, .slice A0_4 l0_4.length c0_4, .slice A0_5 l0_5.length c0_5, .slice A0_6 l0_6.length c0_6, .slice A0_7 l0_7.length c0_7]] w fun e w' => e = .returned (.bool r) ∧ Below w.heap.size w w' := by
  unfold impl_IsClosed.f at h
  obtain ⟨l, hl, hr⟩ := Option.map_eq_some_iff.1 h
  have HL := Aside0.mk hl
  have HR := Aside0.mk hr
  have R4 := Aside0.mk (And.intro hr0_4 hc0_4); have R5 := Aside0.mk (And.intro hr0_5 hc0_5); have R6 := Aside0.mk (And.intro hr0_6 hc0_6); have R7 := Aside0.mk (And.intro hr0_7 hc0_7)
  clear h hr hl hr0_4 hc0_4 hr0_5 hc0_5 hr0_6 hc0_6 hr0_7 hc0_7
  have hu36 := Try.underlying36
  go_enter Try.func10, Try.ntmps10
  go_wp2_with (first
    | ((with_reducible refine gate_dst (N := 1) rfl ?_); refine box_event ?hg (N := 1) ?hd (cs := #[.int .i64 a0_0, .string a0_1, .int .i64 a0_2, .int .i64 a0_3, .slice A0_4 l0_4.length c0_4, .slice A0_5 l0_5.length c0_5, .slice A0_6 l0_6.length c0_6, .slice A0_7 l0_7.length c0_7]) (t := 36) ?hr ?_; (case hd => rfl); (case hg => rfl); (case hr => first | (go_simp; done) | (go_simp; rfl)); intro gb hg w1 hbox hb; have hx0 := (blk_cell hbox 0).trans rfl; have hx1 := (blk_cell hbox 1).trans rfl; have hx2 := (blk_cell hbox 2).trans rfl; have hx3 := (blk_cell hbox 3).trans rfl; have hx4 := (blk_cell hbox 4).trans rfl; have hx5 := (blk_cell hbox 5).trans rfl; have hx6 := (blk_cell hbox 6).trans rfl; have hx7 := (blk_cell hbox 7).trans rfl; have HB1 := Aside0.mk hb; clear hg hbox hb)
    | (go_at_call 13
       refine (impl_FreeVars.calls k a0_0 a0_1 a0_2 a0_3 A0_4 c0_4 l0_4 A0_5 c0_5 l0_5 A0_6 c0_6 l0_6 A0_7 c0_7 l0_7 l w1 (Kd.C_below R4.out.1 HB1.out) R4.out.2 (Kd.C_below R5.out.1 HB1.out) R5.out.2 (Kd.C_below R6.out.1 HB1.out) R6.out.2 (Kd.C_below R7.out.1 HB1.out) R7.out.2 HL.out).mono ?_
       rintro e w4 ⟨v', rfl, ho, hb⟩
       obtain ⟨Av, cv, ev⟩ := Kd.R_slice ho
       subst ev
       have HB4 := Aside0.mk (below_step HB1.out hb)
       clear ho hb hx0 hx1 hx2 hx3 hx4 hx5 hx6 hx7))
  go_ret
  exact ⟨by rw [← HR.out]; rfl, HB4.out⟩

end Go.Proofs.Ytfidfpmgoaainaa.Px
end
section
namespace Go.Proofs.Ytfidfpmgoaainaa.Px
open Go.RowKit Go.Proofs.YtfidfpmgoaainaaW.PrintWords Go.Proofs.YtfidfpmgoaainaaW.PrintLast Go.Proofs.Ytfidfpmgoaainaa.Pl Go.Proofs.Ytfidfpmgoaainaa.Ext
set_option linter.unusedVariables false
set_option linter.unusedSimpArgs false
theorem uni_step_t {acc : List ByteArray} {s : ByteArray} (r : List ByteArray) (h : hasB acc s = true) : uni acc (s :: r) = uni acc r := by rw [uni, if_pos h]
theorem uni_step_f {acc : List ByteArray} {s : ByteArray} (r : List ByteArray) (h : ¬ hasB acc s = true) : uni acc (s :: r) = uni (acc ++ [s]) r := by rw [uni, if_neg h]
theorem uni_sub : ∀ (l acc : List ByteArray) (s : ByteArray), s ∈ acc → s ∈ uni acc l
  | [], _, _, h => h
  | t :: r, acc, s, h => by
    by_cases c : hasB acc t = true
    · rw [uni_step_t r c]; exact uni_sub r acc s h
    · rw [uni_step_f r c]; exact uni_sub r _ s (List.mem_append_left _ h)
theorem uni_uni : ∀ (l acc out : List ByteArray), uni out (uni acc l) = uni (uni out acc) l
  | [], acc, out => rfl
  | s :: r, acc, out => by
    by_cases c : hasB acc s = true
    · have h2 : hasB (uni out acc) s = true := by
        have h := (hasB_iff acc s).1 c
        rw [hasB_iff]
        obtain ⟨a, b, e⟩ := List.append_of_mem h
        rw [e, uni_append]
        by_cases d : hasB (uni out a) s = true
        · rw [uni_step_t b d]; exact uni_sub b _ s ((hasB_iff _ _).1 d)
        · rw [uni_step_f b d]; exact uni_sub b _ s (List.mem_append_right _ (List.mem_singleton.2 rfl))
      rw [uni_step_t r c, uni_step_t r h2]
      exact uni_uni r acc out
    · have e : uni (uni out acc) (s :: r) = uni (uni out (acc ++ [s])) r := by rw [uni_append acc [s] out, ← uni_append [s] r (uni out acc)]; rfl
      rw [uni_step_f r c, e]
      exact uni_uni r _ out
theorem uni_nil_append (acc l : List ByteArray) (h : acc.Nodup) : uni [] (acc ++ l) = uni acc l := by
  rw [uni_append]
  congr 1
  suffices g : ∀ (l out : List ByteArray), (out ++ l).Nodup → uni out l = out ++ l by simpa using g acc [] (by simpa using h)
  intro l
  induction l with
  | nil => intro out _; rw [List.append_nil]; rfl
  | cons s r ih =>
    intro out hn
    have hs : ¬ hasB out s = true := by
      rw [hasB_iff]
      intro hm
      exact (List.nodup_append.1 hn).2.2 s hm s (List.mem_cons_self ..) rfl
    rw [uni_step_f r hs, ih (out ++ [s]) (by simpa using hn)]
    simp
end Go.Proofs.Ytfidfpmgoaainaa.Px
end
section
namespace Go.Proofs.Ytfidfpmgoaainaa.Px
open Go.RowKit Go.Proofs.YtfidfpmgoaainaaW.PrintWords Go.Proofs.YtfidfpmgoaainaaW.PrintLast Go.Proofs.YtfidfpmgoaainaaW.PrintMore Go.Proofs.Ytfidfpmgoaainaa.Pl Go.Proofs.Ytfidfpmgoaainaa.Ext
set_option linter.unusedVariables false
set_option linter.unusedSimpArgs false
def tabsFn.T0 : Bool × List (List Nat × List Nat) := (true, [([], []), ([0], [0]), ([1], [1]), ([2], [2]), ([3], [3]), ([4], [4]), ([5], [5]), ([5], [5]), ([7, 5], [5, 7]), ([8, 5], [5, 8]), ([9, 5], [5, 9]), ([6, 10, 5, 5], [5, 6, 10]), ([11, 5], [5, 11]), ([5, 12], [5, 12])])
def tabsFn.B0 : List Nat := [0, 1, 3, 7, 15, 31, 63, 63, 191, 447, 959, 2047, 4095, 8191]
theorem tabsFn.tab0 : rtab .any (opsOf Try.f49 0) = tabsFn.T0 := by kernel_rfl
theorem tabsFn.bits0 : waitsOk tabsFn.T0.2 tabsFn.B0 = true := by kernel_rfl
def tabsFn.T1 : Bool × List (List Nat × List Nat) := (true, [([], []), ([], []), ([1], [1]), ([2], [2]), ([3], [3]), ([4], [4]), ([0, 5], [0, 5]), ([6, 6, 0, 1, 2, 3, 4, 5, 6], [6])])
def tabsFn.B1 : List Nat := [0, 0, 2, 6, 14, 30, 63, 127]
theorem tabsFn.tab1 : rtab .any (opsOf Try.f49 1) = tabsFn.T1 := by kernel_rfl
theorem tabsFn.bits1 : waitsOk tabsFn.T1.2 tabsFn.B1 = true := by kernel_rfl
def tabsFn.T5 : Bool × List (List Nat × List Nat) := (true, [([], []), ([], []), ([1], [1]), ([2], [2]), ([3], [3]), ([], []), ([4, 5], [4, 5]), ([0, 6], [0, 6])])
def tabsFn.B5 : List Nat := [0, 0, 2, 6, 14, 0, 62, 127]
theorem tabsFn.tab5 : rtab .any (opsOf Try.f49 5) = tabsFn.T5 := by kernel_rfl
theorem tabsFn.bits5 : waitsOk tabsFn.T5.2 tabsFn.B5 = true := by kernel_rfl
/-- A call of a function value that is known, with two captured variables. -/
theorem goesC2_ {P : Program} {ops : Array Oper} {Q : Exit → Act → World → Prop} {oi : Oper} {N : Option Tmp} {a : Act} {w : World} {K : Act → World → Prop} {f : FuncId} {fn : Func} {ars : Array Operand} {ts : Array TypeId} {C1 C2 : Value} (t : Tmp) (hv : a.eval (.tmp t) = .func (.func f) #[] #[C1, C2]) (hf : P.funcs[f]? = some fn) (hname : (fn.name == "runtime.NumGoroutine") = false) (hb : fn.body.isSome = true) (args : Array Value)
    (hw : Region.wanted oi (yielded ops a.tmps) = true) (hN : oi.dst = N) (hop : oi.op = .call { callee := .value (.tmp t), args := ars, argTypes := ts }) (hargs : ars.map a.eval ++ #[C1, C2] = args)
    (h : Calls P f args w fun e w' => ∃ v, e = .returned v ∧ K (a.put N v) w') : if Region.wanted oi (yielded ops a.tmps) = true then Oper.wp P oi a w K Q else K (a.put N undef) w := by
  refine call_ f args hw hN ?_ h
  have he := enters_ hf hname hb args w
  unfold execOp
  subst hargs
  simp [hop, resolve, Deferred.ofValue, invoke, hv, he]
def tab1 (a : Int) (nm : ByteArray) (acc : List ByteArray) : List ByteArray := if a = 12 ∧ hasB acc nm = false then acc ++ [nm] else acc
mutual
def tabX : S36 → List ByteArray → List ByteArray
  | ⟨a, nm, _, _, _, xs⟩, acc => tabXS xs (tab1 a nm acc)
def tabXS : List S36 → List ByteArray → List ByteArray
  | [], acc => acc
  | x :: r, acc => tabXS r (tabX x acc)
end
theorem tabX_eq (x : S36) (acc : List ByteArray) : tabX x acc = tabXS x.f5 (tab1 x.f0 x.f1 acc) := by
  obtain ⟨a, nm, n, t, ls, xs⟩ := x
  rw [tabX]
theorem tab1_len (a : Int) (nm : ByteArray) (acc : List ByteArray) : (tab1 a nm acc).length ≤ acc.length + 1 := by
  unfold tab1
  split <;> simp
mutual
theorem tabX_len : ∀ (x : S36) (acc : List ByteArray), (tabX x acc).length ≤ acc.length + ndTerm x
  | ⟨a, nm, n, t, ls, xs⟩, acc => by
    have h1 := tab1_len a nm acc
    have h2 := tabXS_len xs (tab1 a nm acc)
    rw [tabX, ndTerm]
    omega
theorem tabXS_len : ∀ (xs : List S36) (acc : List ByteArray), (tabXS xs acc).length ≤ acc.length + ndTermS xs
  | [], acc => by rw [tabXS]; omega
  | x :: r, acc => by
    have h1 := tabX_len x acc
    have h2 := tabXS_len r (tabX x acc)
    rw [tabXS, ndTermS]
    omega
end
set_option maxHeartbeats 8000000 in
set_option maxRecDepth 100000 in
theorem tabs_go : ∀ x : S36, SmTerm x → ∀ (ad0 : Addr) (A4 : Option Addr) (c4 : Nat) (A5 : Option Addr) (c5 : Nat) (A6 : Option Addr) (c6 : Nat) (A7 : Option Addr) (c7 : Nat) (w0 w : World) (bo bw : Nat) (v : Value) (acc : List ByteArray),
    Cells w0 ad0 [.int .i64 x.f0, .string x.f1, .int .i64 x.f2, .int .i64 x.f3.f0, .slice A4 x.f3.f1.length c4, .slice A5 x.f3.f2.length c5, .slice A6 x.f4.length c6, .slice A7 x.f5.length c7] → Kd.C k36 w0 A7 x.f5.length x.f5 →
    w0.heap.size ≤ bo → bo ≠ bw → acc.length + ndTerm x ≤ 4194304 → w.heap[bo]? = some (.cells #[v] 22 (0, 0)) → w.heap[bw]? = some (.cells #[.func (.func 49) #[] #[.pointer (some ⟨bo, 0, none⟩), .pointer (some ⟨bw, 0, none⟩)]] 67 (0, 0)) → Kd.R Kd.string 9 w w0.heap.size (fun k => k ≠ bo ∧ k ≠ bw) v acc → Below w0.heap.size w0 w →
    Calls Try.prog 49 #[.pointer (some ad0), .pointer (some ⟨bo, 0, none⟩), .pointer (some ⟨bw, 0, none⟩)] w fun e w' => e = .returned (.tuple #[]) ∧ ∃ v', w'.heap[bo]? = some (.cells #[v'] 22 (0, 0)) ∧ w'.heap[bw]? = some (.cells #[.func (.func 49) #[] #[.pointer (some ⟨bo, 0, none⟩), .pointer (some ⟨bw, 0, none⟩)]] 67 (0, 0)) ∧ Kd.R Kd.string 9 w' w0.heap.size (fun k => k ≠ bo ∧ k ≠ bw) v' (tabX x acc) ∧ Below w0.heap.size w0 w' := by
  refine indTermI fun x ih hs => ?_
  intro ad0 A4 c4 A5 c5 A6 c6 A7 c7 w0 w bo bw v acc hp h7 hbo hne hl bo_ bw_ ho hb
  have HP := Aside0.mk hp; have H7 := Aside0.mk h7; have HBO := Aside0.mk hbo; have HNE := Aside0.mk hne; have HL := Aside0.mk hl; have BO := Aside0.mk bo_; have BW := Aside0.mk bw_; have HO := Aside0.mk ho; have HB := Aside0.mk hb; have HS := Aside0.mk hs; have HIH := Aside0.mk ih
  have HND := Aside0.mk (show ndTerm x = 1 + ndTermS x.f5 by rw [ndTerm_eq, ndTermS_sum])
  clear hp h7 hbo hne hl bo_ bw_ ho hb hs ih
  obtain ⟨Av, cv, ev⟩ := Kd.R_slice HO.out
  subst ev
  obtain ⟨B, hB⟩ : ∃ B : Bool, B = (decide (x.f0 = 12) && !hasB acc x.f1) := ⟨_, rfl⟩
  have HBB := Aside0.mk hB
  clear hB
  obtain ⟨KC, hKC⟩ := contains_ev acc (by have := HL.out; omega) x.f1
  have HC := Aside0.mk (hKC KC (Nat.le_refl KC))
  clear hKC
  go_enter Try.func49, Try.ntmps49
  go_upto_region 0 with (fail)
  go_cut [18] (fun v18 wc => v18 = .bool B ∧ Aside0 (wc.heap[bo]? = some (.cells #[.slice Av acc.length cv] 22 (0, 0))) ∧ Aside0 (wc.heap[bw]? = some (.cells #[.func (.func 49) #[] #[.pointer (some ⟨bo, 0, none⟩), .pointer (some ⟨bw, 0, none⟩)]] 67 (0, 0))) ∧ Aside0 (Kd.R Kd.string 9 wc w0.heap.size (fun k => k ≠ bo ∧ k ≠ bw) (.slice Av acc.length cv) acc) ∧ Aside0 (Below w0.heap.size w0 wc))
  case first =>
    by_cases h1 : x.f0 = 12
    · have c1 : (x.f0 == 12) = true := beq_iff_eq.mpr h1
      have HX1 := Aside0.mk h1
      clear h1
      try go_wp2
      replace BO := Aside0.mk (blk_drew BO.out)
      replace BW := Aside0.mk (blk_drew BW.out)
      replace HO := Aside0.mk (Kd.R_drew HO.out)
      replace HB := Aside0.mk (below_drew1 HB.out)
      refine start_ (n := 14) (S := fun w' => w'.cell? ad0 = some (.int .i64 x.f0) ∧ w'.cell? ⟨ad0.block, ad0.off + 1, none⟩ = some (.string x.f1) ∧ w'.cell? ⟨bo, 0, none⟩ = some (.slice Av acc.length cv)) (ds := []) #[false, false, false, false, false, false, false, false, false, false, false, false, false, false] (by kernel_rfl) rfl rfl ⟨pw_cell_below HB.out HP.out.1, pw_cell_below HB.out HP.out.2.1, (blk_cell BO.out 0).trans rfl⟩ (fun hHeld => ?_); refine with_tabW tabsFn.tab0 tabsFn.bits0 (fun HT_ HW_ => ?_)
      generalize w.drew = w1 at BO BW HO HB hHeld ⊢
      refine pure_ (i := 0) (N := some 5) (v := ?_) (a' := ?_) #[true, false, false, false, false, false, false, false, false, false, false, false, false, false] rfl rfl (any_of HT_.out (by kernel_rfl)) (fun _ _ _ h => h) (Or.inl ⟨by rfl, ?_⟩) ?_ ?_
      rotate_left
      · intro w'
        go_simp
        with_reducible rfl
      rotate_left
      · simp only [Act.put, List.setIfInBounds_toArray, List.set_cons_zero, List.set_cons_succ, i64_w, i32_w]
        rfl
      refine pure_ (i := 1) (N := some 6) (v := ?_) (a' := ?_) #[true, true, false, false, false, false, false, false, false, false, false, false, false, false] rfl rfl (any_of HT_.out (by kernel_rfl)) (fun _ _ _ h => h) (Or.inl ⟨by rfl, ?_⟩) ?_ ?_
      rotate_left
      · intro w'
        go_simp
        with_reducible rfl
      rotate_left
      · simp only [Act.put, List.setIfInBounds_toArray, List.set_cons_zero, List.set_cons_succ, i64_w, i32_w]
        rfl
      refine pure_ (i := 2) (N := some 7) (v := ?_) (a' := ?_) #[true, true, true, false, false, false, false, false, false, false, false, false, false, false] rfl rfl (any_of HT_.out (by kernel_rfl)) (fun _ _ _ h => h) (Or.inl ⟨by rfl, ?_⟩) ?_ ?_
      rotate_left
      · intro w'
        go_simp
        with_reducible rfl
      rotate_left
      · simp only [Act.put, List.setIfInBounds_toArray, List.set_cons_zero, List.set_cons_succ, i64_w, i32_w]
        rfl
      refine take_ (i := 3) (N := some 8) (v := ?_) (a' := ?_) #[true, true, true, true, false, false, false, false, false, false, false, false, false, false] rfl rfl (take_ofW HT_.out HW_.out (by kernel_rfl)) (fun _ _ _ h => h) (Or.inl ⟨by rfl, ?_⟩) hHeld ?_ ?_
      rotate_left
      · rintro w' ⟨s0, s1, s2⟩
        go_simp
        with_reducible rfl
      rotate_left
      · simp only [Act.put, List.setIfInBounds_toArray, List.set_cons_zero, List.set_cons_succ, i64_w, i32_w]
        rfl
      refine pure_ (i := 4) (N := some 9) (v := ?_) (a' := ?_) #[true, true, true, true, true, false, false, false, false, false, false, false, false, false] rfl rfl (any_of HT_.out (by kernel_rfl)) (fun _ _ _ h => h) (Or.inl ⟨by rfl, ?_⟩) ?_ ?_
      rotate_left
      · intro w'
        go_simp
        with_reducible rfl
      rotate_left
      · simp only [Act.put, List.setIfInBounds_toArray, List.set_cons_zero, List.set_cons_succ, i64_w, i32_w]
        rfl
      refine pure_ (i := 5) (N := some 10) (v := ?_) (a' := ?_) #[true, true, true, true, true, true, false, false, false, false, false, false, false, false] rfl rfl (any_of HT_.out (by kernel_rfl)) (fun _ _ _ h => h) (Or.inl ⟨by rfl, ?_⟩) ?_ ?_
      rotate_left
      · intro w'
        go_simp
        with_reducible rfl
      rotate_left
      · simp only [Act.put, List.setIfInBounds_toArray, List.set_cons_zero, List.set_cons_succ, i64_w, i32_w]
        rfl
      refine take_ (i := 6) (N := some 11) (v := ?_) (a' := ?_) #[true, true, true, true, true, true, true, false, false, false, false, false, false, false] rfl rfl (take_ofW HT_.out HW_.out (by kernel_rfl)) (fun _ _ _ h => h) (Or.inl ⟨by rfl, ?_⟩) hHeld ?_ ?_
      rotate_left
      · rintro w' ⟨s0, s1, s2⟩
        go_simp
        with_reducible rfl
      rotate_left
      · simp only [Act.put, List.setIfInBounds_toArray, List.set_cons_zero, List.set_cons_succ, i64_w, i32_w]
        rfl
      refine pure_ (i := 7) (N := some 12) (v := ?_) (a' := ?_) #[true, true, true, true, true, true, true, true, false, false, false, false, false, false] rfl rfl (any_of HT_.out (by kernel_rfl)) (fun _ _ _ h => h) (Or.inl ⟨by rfl, ?_⟩) ?_ ?_
      rotate_left
      · intro w'
        go_simp
        with_reducible rfl
      rotate_left
      · simp only [Act.put, List.setIfInBounds_toArray, List.set_cons_zero, List.set_cons_succ, i64_w, i32_w]
        rfl
      refine pure_ (i := 8) (N := some 13) (v := ?_) (a' := ?_) #[true, true, true, true, true, true, true, true, true, false, false, false, false, false] rfl rfl (any_of HT_.out (by kernel_rfl)) (fun _ _ _ h => h) (Or.inl ⟨by rfl, ?_⟩) ?_ ?_
      rotate_left
      · intro w'
        go_simp
        with_reducible rfl
      rotate_left
      · simp only [Act.put, List.setIfInBounds_toArray, List.set_cons_zero, List.set_cons_succ, i64_w, i32_w]
        rfl
      refine pure_ (i := 9) (N := some 14) (v := ?_) (a' := ?_) #[true, true, true, true, true, true, true, true, true, true, false, false, false, false] rfl rfl (any_of HT_.out (by kernel_rfl)) (fun _ _ _ h => h) (Or.inl ⟨by rfl, ?_⟩) ?_ ?_
      rotate_left
      · intro w'
        go_simp
        with_reducible rfl
      rotate_left
      · simp only [Act.put, List.setIfInBounds_toArray, List.set_cons_zero, List.set_cons_succ, i64_w, i32_w]
        rfl
      refine take_ (i := 10) (N := some 15) (v := ?_) (a' := ?_) #[true, true, true, true, true, true, true, true, true, true, true, false, false, false] rfl rfl (take_ofW HT_.out HW_.out (by kernel_rfl)) (fun _ _ _ h => h) (Or.inl ⟨by rfl, ?_⟩) hHeld ?_ ?_
      rotate_left
      · rintro w' ⟨s0, s1, s2⟩
        go_simp
        with_reducible rfl
      rotate_left
      · simp only [Act.put, List.setIfInBounds_toArray, List.set_cons_zero, List.set_cons_succ, i64_w, i32_w]
        rfl
      refine one_ (i := 11) (N := some 16) #[true, true, true, true, true, true, true, true, true, true, true, true, false, false] rfl rfl (one_of HT_.out (by kernel_rfl)) (by decide) (fun K hK => ?_)
      refine goes_ Try.func50 (by kernel_rfl) rfl #[.slice Av acc.length cv, .string x.f1] (by rfl) rfl rfl (by (try simp only [List.map_toArray, List.map_cons, List.map_nil]); first | done | rfl | (simp only [List.length_drop, List.length_take]; rfl)) ?_
      with_reducible refine (slices_Contains_string_string.calls KC _ _ acc x.f1 (hasB acc x.f1) _ (Kd.R_reads' HO.out).2.2 (Kd.R_reads' HO.out).2.1 HC.out).mono ?_
      rintro e w2 ⟨rfl, hd⟩
      refine ⟨_, rfl, ?_⟩
      replace hd := Drawn0.below hd
      replace BO := Aside0.mk (blk_below BO.out hd)
      replace BW := Aside0.mk (blk_below BW.out hd)
      replace HO := Aside0.mk (Kd.R_below HO.out hd)
      replace HB := Aside0.mk (below_step HB.out hd)
      clear hd
      refine hK.out _ _ ⟨pw_cell_below HB.out HP.out.1, pw_cell_below HB.out HP.out.2.1, (blk_cell BO.out 0).trans rfl⟩ (fun hHeld => ?_)
      clear hK K
      refine norm_ (a' := ?_) ?_ ?_
      rotate_left
      · show Act.put _ (some 16) _ = _
        simp only [Act.put, List.setIfInBounds_toArray, List.set_cons_zero, List.set_cons_succ, i64_w, i32_w]
        rfl
      refine pure_ (i := 12) (N := some 17) (v := ?_) (a' := ?_) #[true, true, true, true, true, true, true, true, true, true, true, true, true, false] rfl rfl (any_of HT_.out (by kernel_rfl)) (fun _ _ _ h => h) (Or.inl ⟨by rfl, ?_⟩) ?_ ?_
      rotate_left
      · intro w'
        go_simp
        with_reducible rfl
      rotate_left
      · simp only [Act.put, List.setIfInBounds_toArray, List.set_cons_zero, List.set_cons_succ, i64_w, i32_w]
        rfl
      refine pure_ (i := 13) (N := some 18) (v := ?_) (a' := ?_) #[true, true, true, true, true, true, true, true, true, true, true, true, true, true] rfl rfl (any_of HT_.out (by kernel_rfl)) (fun _ _ _ h => h) (Or.inl ⟨by rfl, ?_⟩) ?_ ?_
      rotate_left
      · intro w'
        go_simp
        with_reducible rfl
      rotate_left
      · simp only [Act.put, List.setIfInBounds_toArray, List.set_cons_zero, List.set_cons_succ, i64_w, i32_w]
        rfl
      refine done_ (done_of HT_.out (by kernel_rfl)) ?_
      clear HT_ HW_
      try go_wp2
      go_meet
      case rel => exact ⟨by rw [HBB.out, decide_eq_true HX1.out, Bool.true_and], BO, BW, HO, HB⟩
    · have c1 : (x.f0 == 12) = false := beq_eq_false_iff_ne.mpr h1
      have HX1 := Aside0.mk h1
      clear h1
      try go_wp2
      replace BO := Aside0.mk (blk_drew BO.out)
      replace BW := Aside0.mk (blk_drew BW.out)
      replace HO := Aside0.mk (Kd.R_drew HO.out)
      replace HB := Aside0.mk (below_drew1 HB.out)
      refine start_ (n := 14) (S := fun w' => w'.cell? ad0 = some (.int .i64 x.f0) ∧ w'.cell? ⟨ad0.block, ad0.off + 1, none⟩ = some (.string x.f1) ∧ w'.cell? ⟨bo, 0, none⟩ = some (.slice Av acc.length cv)) (ds := []) #[false, false, false, false, false, false, false, false, false, false, false, false, false, false] (by kernel_rfl) rfl rfl ⟨pw_cell_below HB.out HP.out.1, pw_cell_below HB.out HP.out.2.1, (blk_cell BO.out 0).trans rfl⟩ (fun hHeld => ?_); refine with_tabW tabsFn.tab0 tabsFn.bits0 (fun HT_ HW_ => ?_)
      generalize w.drew = w1 at BO BW HO HB hHeld ⊢
      refine pure_ (i := 0) (N := some 5) (v := ?_) (a' := ?_) #[true, false, false, false, false, false, false, false, false, false, false, false, false, false] rfl rfl (any_of HT_.out (by kernel_rfl)) (fun _ _ _ h => h) (Or.inl ⟨by rfl, ?_⟩) ?_ ?_
      rotate_left
      · intro w'
        go_simp
        with_reducible rfl
      rotate_left
      · simp only [Act.put, List.setIfInBounds_toArray, List.set_cons_zero, List.set_cons_succ, i64_w, i32_w]
        rfl
      refine pure_ (i := 1) (N := some 6) (v := ?_) (a' := ?_) #[true, true, false, false, false, false, false, false, false, false, false, false, false, false] rfl rfl (any_of HT_.out (by kernel_rfl)) (fun _ _ _ h => h) (Or.inl ⟨by rfl, ?_⟩) ?_ ?_
      rotate_left
      · intro w'
        go_simp
        with_reducible rfl
      rotate_left
      · simp only [Act.put, List.setIfInBounds_toArray, List.set_cons_zero, List.set_cons_succ, i64_w, i32_w]
        rfl
      refine pure_ (i := 2) (N := some 7) (v := ?_) (a' := ?_) #[true, true, true, false, false, false, false, false, false, false, false, false, false, false] rfl rfl (any_of HT_.out (by kernel_rfl)) (fun _ _ _ h => h) (Or.inl ⟨by rfl, ?_⟩) ?_ ?_
      rotate_left
      · intro w'
        go_simp
        with_reducible rfl
      rotate_left
      · simp only [Act.put, List.setIfInBounds_toArray, List.set_cons_zero, List.set_cons_succ, i64_w, i32_w]
        rfl
      refine take_ (i := 3) (N := some 8) (v := ?_) (a' := ?_) #[true, true, true, true, false, false, false, false, false, false, false, false, false, false] rfl rfl (take_ofW HT_.out HW_.out (by kernel_rfl)) (fun _ _ _ h => h) (Or.inl ⟨by rfl, ?_⟩) hHeld ?_ ?_
      rotate_left
      · rintro w' ⟨s0, s1, s2⟩
        go_simp
        with_reducible rfl
      rotate_left
      · simp only [Act.put, List.setIfInBounds_toArray, List.set_cons_zero, List.set_cons_succ, i64_w, i32_w]
        rfl
      refine pure_ (i := 4) (N := some 9) (v := ?_) (a' := ?_) #[true, true, true, true, true, false, false, false, false, false, false, false, false, false] rfl rfl (any_of HT_.out (by kernel_rfl)) (fun _ _ _ h => h) (Or.inl ⟨by rfl, ?_⟩) ?_ ?_
      rotate_left
      · intro w'
        go_simp
        with_reducible rfl
      rotate_left
      · simp only [Act.put, List.setIfInBounds_toArray, List.set_cons_zero, List.set_cons_succ, i64_w, i32_w]
        rfl
      refine pure_ (i := 5) (N := some 10) (v := ?_) (a' := ?_) #[true, true, true, true, true, true, false, false, false, false, false, false, false, false] rfl rfl (any_of HT_.out (by kernel_rfl)) (fun _ _ _ h => h) (Or.inl ⟨by rfl, ?_⟩) ?_ ?_
      rotate_left
      · intro w'
        go_simp
        with_reducible rfl
      rotate_left
      · simp only [Act.put, List.setIfInBounds_toArray, List.set_cons_zero, List.set_cons_succ, i64_w, i32_w]
        rfl
      refine pure_ (i := 6) (N := some 11) (v := undef) (a' := ?_) #[true, true, true, true, true, true, true, false, false, false, false, false, false, false] rfl rfl (any_of HT_.out (by kernel_rfl)) (fun _ _ _ h => h) (Or.inr ⟨by rfl, by rfl⟩) ?_ ?_
      rotate_left
      · simp only [Act.put, List.setIfInBounds_toArray, List.set_cons_zero, List.set_cons_succ, i64_w, i32_w]
        rfl
      refine pure_ (i := 7) (N := some 12) (v := undef) (a' := ?_) #[true, true, true, true, true, true, true, true, false, false, false, false, false, false] rfl rfl (any_of HT_.out (by kernel_rfl)) (fun _ _ _ h => h) (Or.inr ⟨by rfl, by rfl⟩) ?_ ?_
      rotate_left
      · simp only [Act.put, List.setIfInBounds_toArray, List.set_cons_zero, List.set_cons_succ, i64_w, i32_w]
        rfl
      refine pure_ (i := 8) (N := some 13) (v := undef) (a' := ?_) #[true, true, true, true, true, true, true, true, true, false, false, false, false, false] rfl rfl (any_of HT_.out (by kernel_rfl)) (fun _ _ _ h => h) (Or.inr ⟨by rfl, by rfl⟩) ?_ ?_
      rotate_left
      · simp only [Act.put, List.setIfInBounds_toArray, List.set_cons_zero, List.set_cons_succ, i64_w, i32_w]
        rfl
      refine pure_ (i := 9) (N := some 14) (v := undef) (a' := ?_) #[true, true, true, true, true, true, true, true, true, true, false, false, false, false] rfl rfl (any_of HT_.out (by kernel_rfl)) (fun _ _ _ h => h) (Or.inr ⟨by rfl, by rfl⟩) ?_ ?_
      rotate_left
      · simp only [Act.put, List.setIfInBounds_toArray, List.set_cons_zero, List.set_cons_succ, i64_w, i32_w]
        rfl
      refine pure_ (i := 10) (N := some 15) (v := undef) (a' := ?_) #[true, true, true, true, true, true, true, true, true, true, true, false, false, false] rfl rfl (any_of HT_.out (by kernel_rfl)) (fun _ _ _ h => h) (Or.inr ⟨by rfl, by rfl⟩) ?_ ?_
      rotate_left
      · simp only [Act.put, List.setIfInBounds_toArray, List.set_cons_zero, List.set_cons_succ, i64_w, i32_w]
        rfl
      refine pure_ (i := 11) (N := some 16) (v := undef) (a' := ?_) #[true, true, true, true, true, true, true, true, true, true, true, true, false, false] rfl rfl (any_of HT_.out (by kernel_rfl)) (fun _ _ _ h => h) (Or.inr ⟨by rfl, by rfl⟩) ?_ ?_
      rotate_left
      · simp only [Act.put, List.setIfInBounds_toArray, List.set_cons_zero, List.set_cons_succ, i64_w, i32_w]
        rfl
      refine pure_ (i := 12) (N := some 17) (v := undef) (a' := ?_) #[true, true, true, true, true, true, true, true, true, true, true, true, true, false] rfl rfl (any_of HT_.out (by kernel_rfl)) (fun _ _ _ h => h) (Or.inr ⟨by rfl, by rfl⟩) ?_ ?_
      rotate_left
      · simp only [Act.put, List.setIfInBounds_toArray, List.set_cons_zero, List.set_cons_succ, i64_w, i32_w]
        rfl
      refine pure_ (i := 13) (N := some 18) (v := ?_) (a' := ?_) #[true, true, true, true, true, true, true, true, true, true, true, true, true, true] rfl rfl (any_of HT_.out (by kernel_rfl)) (fun _ _ _ h => h) (Or.inl ⟨by rfl, ?_⟩) ?_ ?_
      rotate_left
      · intro w'
        go_simp
        with_reducible rfl
      rotate_left
      · simp only [Act.put, List.setIfInBounds_toArray, List.set_cons_zero, List.set_cons_succ, i64_w, i32_w]
        rfl
      refine done_ (done_of HT_.out (by kernel_rfl)) ?_
      clear HT_ HW_
      try go_wp2
      go_meet
      case rel => exact ⟨by rw [HBB.out, decide_eq_false HX1.out, Bool.false_and], BO, BW, HO, HB⟩
  case rest =>
    clear BO BW HO HB
    obtain ⟨rfl, BO, BW, HO, HB⟩ := hcut
    have HT1 := Aside0.mk (show tab1 x.f0 x.f1 acc = if B = true then acc ++ [x.f1] else acc by rw [HBB.out]; unfold tab1; by_cases h1 : x.f0 = 12 <;> cases h2 : hasB acc x.f1 <;> simp [h1, h2])
    go_upto_if 18 with (fail)
    go_cut [] (fun wc => ∃ v', Aside0 (wc.heap[bo]? = some (.cells #[v'] 22 (0, 0))) ∧ Aside0 (wc.heap[bw]? = some (.cells #[.func (.func 49) #[] #[.pointer (some ⟨bo, 0, none⟩), .pointer (some ⟨bw, 0, none⟩)]] 67 (0, 0))) ∧ Aside0 (Kd.R Kd.string 9 wc w0.heap.size (fun k => k ≠ bo ∧ k ≠ bw) v' (tab1 x.f0 x.f1 acc)) ∧ Aside0 (Below w0.heap.size w0 wc))
    case first =>
      cases B with
      | true =>
        replace HT1 := Aside0.mk (HT1.out.trans (if_pos rfl))
        try go_wp2
        replace BO := Aside0.mk (blk_drew BO.out)
        replace BW := Aside0.mk (blk_drew BW.out)
        replace HO := Aside0.mk (Kd.R_drew HO.out)
        replace HB := Aside0.mk (below_drew1 HB.out)
        refine start_ (n := 8) (S := fun w' => w'.cell? ⟨ad0.block, ad0.off + 1, none⟩ = some (.string x.f1) ∧ w'.cell? ⟨bo, 0, none⟩ = some (.slice Av acc.length cv)) (ds := [7]) #[false, false, false, false, false, false, false, false] (by kernel_rfl) rfl rfl ⟨pw_cell_below HB.out HP.out.2.1, (blk_cell BO.out 0).trans rfl⟩ (fun hHeld => ?_); refine with_tabW tabsFn.tab1 tabsFn.bits1 (fun HT_ HW_ => ?_)
        generalize wc.drew = w3 at BO BW HO HB hHeld ⊢
        refine take_ (i := 0) (N := some 19) (v := ?_) (a' := ?_) #[true, false, false, false, false, false, false, false] rfl rfl (take_ofW HT_.out HW_.out (by kernel_rfl)) (fun _ _ _ h => h) (Or.inl ⟨by rfl, ?_⟩) hHeld ?_ ?_
        rotate_left
        · rintro w' ⟨s0, s1⟩
          go_simp
          with_reducible rfl
        rotate_left
        · simp only [Act.put, List.setIfInBounds_toArray, List.set_cons_zero, List.set_cons_succ, i64_w, i32_w]
          rfl
        refine pure_ (i := 1) (N := some 20) (v := ?_) (a' := ?_) #[true, true, false, false, false, false, false, false] rfl rfl (any_of HT_.out (by kernel_rfl)) (fun _ _ _ h => h) (Or.inl ⟨by rfl, ?_⟩) ?_ ?_
        rotate_left
        · intro w'
          go_simp
          with_reducible rfl
        rotate_left
        · simp only [Act.put, List.setIfInBounds_toArray, List.set_cons_zero, List.set_cons_succ, i64_w, i32_w]
          rfl
        refine pure_ (i := 2) (N := some 21) (v := ?_) (a' := ?_) #[true, true, true, false, false, false, false, false] rfl rfl (any_of HT_.out (by kernel_rfl)) (fun _ _ _ h => h) (Or.inl ⟨by rfl, ?_⟩) ?_ ?_
        rotate_left
        · intro w'
          go_simp
          with_reducible rfl
        rotate_left
        · simp only [Act.put, List.setIfInBounds_toArray, List.set_cons_zero, List.set_cons_succ, i64_w, i32_w]
          rfl
        refine pure_ (i := 3) (N := some 22) (v := ?_) (a' := ?_) #[true, true, true, true, false, false, false, false] rfl rfl (any_of HT_.out (by kernel_rfl)) (fun _ _ _ h => h) (Or.inl ⟨by rfl, ?_⟩) ?_ ?_
        rotate_left
        · intro w'
          go_simp
          with_reducible rfl
        rotate_left
        · simp only [Act.put, List.setIfInBounds_toArray, List.set_cons_zero, List.set_cons_succ, i64_w, i32_w]
          rfl
        refine take_ (i := 4) (N := some 23) (v := ?_) (a' := ?_) #[true, true, true, true, true, false, false, false] rfl rfl (take_ofW HT_.out HW_.out (by kernel_rfl)) (fun _ _ _ h => h) (Or.inl ⟨by rfl, ?_⟩) hHeld ?_ ?_
        rotate_left
        · rintro w' ⟨s0, s1⟩
          go_simp
          with_reducible rfl
        rotate_left
        · simp only [Act.put, List.setIfInBounds_toArray, List.set_cons_zero, List.set_cons_succ, i64_w, i32_w]
          rfl
        refine one_ (i := 5) (N := some 24) #[true, true, true, true, true, true, false, false] rfl rfl (one_of HT_.out (by kernel_rfl)) (by decide) (fun K hK => ?_)
        refine value_ (w1 := ?_) (v := ?_) (by rfl) rfl ?_ ?_
        rotate_left 2
        · go_simp
          constructor
          · rfl
          · rfl
        refine hK.out _ _ ⟨pw_cell_below (below_alloc HB.out _) HP.out.2.1, (blk_cell (blk_alloc BO.out _) 0).trans rfl⟩ (fun hHeld => ?_)
        clear hK K
        refine norm_ (a' := ?_) ?_ ?_
        rotate_left
        · show Act.put _ (some 24) _ = _
          simp only [Act.put, List.setIfInBounds_toArray, List.set_cons_zero, List.set_cons_succ, i64_w, i32_w]
          rfl
        refine one_ (i := 6) (N := some 25) #[true, true, true, true, true, true, true, false] rfl rfl (one_of HT_.out (by kernel_rfl)) (by decide) (fun K hK => ?_)
        refine Kd.R_append_step Kd.string (w0 := w0) w0.heap.size (by rfl) (.tmp 19) (.tmp 24) 22 9 (.string ⟨#[]⟩) 16 rfl Try.underlying22 info9 rfl (by decide) (by omega) (.slice Av acc.length cv) acc x.f1 [.string x.f1] (fun k => k ≠ bo ∧ k ≠ bw) (fun _ => False) rfl rfl ?aP (fun _ hk => hk.elim) ?aF ?aO ?aB ?aS ?aL ?_
        (case aP => exact rfl)
        (case aB => exact HB.out)
        (case aF => exact fun k hk => ⟨fun e_ => by have := blk_lt BO.out; omega, fun e_ => by have := blk_lt BW.out; omega⟩)
        (case aO => exact HO.out)
        (case aS => exact below_size HB.out)
        (case aL => have := HL.out; omega)
        intro v7 w7 ho hb hg hat
        have BO7 := Aside0.mk (blk_grown BO.out hg (Kd.R_away HO.out (fun _ hk => hk.1)))
        have BW7 := Aside0.mk (blk_grown BW.out hg (Kd.R_away HO.out (fun _ hk => hk.2)))
        clear BO BW HO HB
        have BO := BO7
        have BW := BW7
        have HO := Aside0.mk ho
        have HB := Aside0.mk hb
        clear ho hb hg hat BO7 BW7
        obtain ⟨Av7, cv7, ev7⟩ : ∃ A c, v7 = .slice A (acc.length + 1) c := by obtain ⟨A, c, e⟩ := Kd.R_slice HO.out; exact ⟨A, c, by rw [e]; simp⟩
        subst ev7
        refine hK.out _ _ ⟨pw_cell_below HB.out HP.out.2.1, (blk_cell BO.out 0).trans rfl⟩ (fun hHeld => ?_)
        clear hK K
        refine norm_ (a' := ?_) ?_ ?_
        rotate_left
        · show Act.put _ (some 25) _ = _
          simp only [Act.put, List.setIfInBounds_toArray, List.set_cons_zero, List.set_cons_succ, i64_w, i32_w]
          rfl
        refine last_ (i := 7) (N := none) #[true, true, true, true, true, true, true, true] rfl rfl (one_of HT_.out (by kernel_rfl)) (by decide) (fun K hK => ?_)
        have hs42 : w7.cell? ⟨bo, 0, none⟩ = some (.slice Av acc.length cv) := (blk_cell BO.out 0).trans rfl
        have hfs42 := blk_frozen BO.out 0
        refine skip_ (w1 := ?_) (by rfl) rfl ?_ ?_
        rotate_left
        · go_simp
          rfl
        refine hK.out _ _ ?_
        clear hK K
        refine done_ (done_of HT_.out (by kernel_rfl)) ?_
        clear HT_ HW_
        have hne_ := HNE.out
        clear hs42 hfs42
        try go_wp2
        go_meet
        case rel => exact ⟨_, ⟨blk_put (cs := #[.slice Av acc.length cv]) BO.out 0 (.slice Av7 (acc.length + 1) cv7) rfl⟩, ⟨blk_far BW.out (Ne.symm hne_) _⟩, ⟨by rw [HT1.out]; exact Kd.R_mono (Kd.R_far (p := ⟨bo, 0, none⟩) HO.out (fun _ hk => hk.1) (.slice Av7 (acc.length + 1) cv7)) (fun _ hk => hk)⟩, ⟨below_set HB.out HBO.out⟩⟩
      | false =>
        replace HT1 := Aside0.mk (HT1.out.trans (if_neg (by decide)))
        try go_wp2
        go_meet
        case rel => exact ⟨_, BO, BW, ⟨by rw [HT1.out]; exact HO.out⟩, HB⟩
    case rest =>
      clear BO BW HO HB
      obtain ⟨v1, BO, BW, HO, HB⟩ := hcut
      have hx7 : wc.cell? ⟨ad0.block, ad0.off + 7, none⟩ = some (.slice A7 x.f5.length c7) := pw_cell_below HB.out HP.out.2.2.2.2.2.2.2.1
      have HX2 := Aside0.mk (tabX_eq x acc)
      have HLN := Aside0.mk (tab1_len x.f0 x.f1 acc)
      go_wp2
      go_loopg [4, 31] x.f5.length (fun gq v4 v31 w' => ∃ (i : Nat) (acc' : List ByteArray) (v' : Value), v31 = .int .i64 (i : Int) ∧ Aside0 (i + gq = x.f5.length ∧ acc'.length + ndTermS (x.f5.drop i) ≤ 4194304 ∧ tabXS (x.f5.drop i) acc' = tabX x acc) ∧ Aside0 (w'.heap[bo]? = some (.cells #[v'] 22 (0, 0))) ∧ Aside0 (w'.heap[bw]? = some (.cells #[.func (.func 49) #[] #[.pointer (some ⟨bo, 0, none⟩), .pointer (some ⟨bw, 0, none⟩)]] 67 (0, 0))) ∧ Aside0 (Kd.R Kd.string 9 w' w0.heap.size (fun k => k ≠ bo ∧ k ≠ bw) v' acc') ∧ Aside0 (Below w0.heap.size w0 w'))
      case atStart => exact ⟨0, tab1 x.f0 x.f1 acc, v1, by first | rfl | simp, ⟨by omega, by rw [List.drop_zero]; have := HLN.out; have := HL.out; have := HND.out; omega, by rw [List.drop_zero, HX2.out]⟩, BO, BW, HO, HB⟩
      case round =>
        clear BO BW HO HB hx7
        obtain ⟨i, acc', v', rfl, HI, BO, BW, HO, HB⟩ := hrel
        by_cases d1 : i < x.f5.length
        · have d2 : (i : Int) < (x.f5.length : Int) := by omega
          have d4 : decide ((i : Int) < (x.f5.length : Int)) = true := decide_eq_true d2
          have d3 := eq_true d2
          have d5 : (0 ≤ (i : Int)) = True := eq_true (by omega)
          have hmem : rd_T36 x.f5 (i : Int) ∈ x.f5 := mem_getD x.f5 z36 i d1
          have hdr : Aside0 (x.f5.drop i = rd_T36 x.f5 (i : Int) :: x.f5.drop (i + 1)) := ⟨dropT x.f5 i d1⟩
          have hnd2 : Aside0 (ndTermS (x.f5.drop i) = ndTerm (rd_T36 x.f5 (i : Int)) + ndTermS (x.f5.drop (i + 1))) := ⟨by rw [hdr.out, ndTermS]⟩
          have HY := Aside0.mk (HIH.out _ hmem (HS.out.p5.2 _ hmem))
          have hw1 : Aside0 (wrap64 ((i : Int) + 1) = ((i + 1 : Nat) : Int)) := ⟨w1 d1 (by have := HS.out.p5.1; unfold maxLen; omega)⟩
          obtain ⟨ad, B4, e4, B5, e5, B6, e6, B7, e7, eA, y0, y1, y2, y3, y4, y5, y6, y7, m4, o4, m5, o5, m6, o6, m7, o7⟩ := at_T36 H7.out (i : Int) (by omega) d2
          cases eA
          replace HY := Aside0.mk (HY.out (ad.add (i * 8)) B4 e4 B5 e5 B6 e6 B7 e7 w0)
          replace HY := Aside0.mk (fun w bo bw v acc => HY.out w bo bw v acc (show Cells w0 _ _ from ⟨y0, y1, y2, y3, y4, y5, y6, y7, trivial⟩) o7)
          have D1 := Aside0.mk d1
          clear d1 hmem y0 y1 y2 y3 y4 y5 y6 y7 m4 o4 m5 o5 m6 o6 m7 o7
          try go_wp2
          replace BO := Aside0.mk (blk_drew BO.out)
          replace BW := Aside0.mk (blk_drew BW.out)
          replace HO := Aside0.mk (Kd.R_drew HO.out)
          replace HB := Aside0.mk (below_drew1 HB.out)
          refine start_ (n := 8) (S := fun w' => w'.cell? ⟨bw, 0, none⟩ = some (.func (.func 49) #[] #[.pointer (some ⟨bo, 0, none⟩), .pointer (some ⟨bw, 0, none⟩)]) ∧ w'.cell? ⟨ad0.block, ad0.off + 7, none⟩ = some (.slice (some ad) x.f5.length c7)) (ds := []) #[false, false, false, false, false, false, false, false] (by kernel_rfl) rfl rfl ⟨(blk_cell BW.out 0).trans rfl, pw_cell_below HB.out HP.out.2.2.2.2.2.2.2.1⟩ (fun hHeld => ?_); refine with_tabW tabsFn.tab5 tabsFn.bits5 (fun HT_ HW_ => ?_)
          generalize wr.drew = w4 at BO BW HO HB hHeld ⊢
          refine take_ (i := 0) (N := some 34) (v := ?_) (a' := ?_) #[true, false, false, false, false, false, false, false] rfl rfl (take_ofW HT_.out HW_.out (by kernel_rfl)) (fun _ _ _ h => h) (Or.inl ⟨by rfl, ?_⟩) hHeld ?_ ?_
          rotate_left
          · rintro w' ⟨s0, s1⟩
            go_simp
            with_reducible rfl
          rotate_left
          · simp only [Act.put, List.setIfInBounds_toArray, List.set_cons_zero, List.set_cons_succ, i64_w, i32_w]
            rfl
          refine pure_ (i := 1) (N := some 35) (v := ?_) (a' := ?_) #[true, true, false, false, false, false, false, false] rfl rfl (any_of HT_.out (by kernel_rfl)) (fun _ _ _ h => h) (Or.inl ⟨by rfl, ?_⟩) ?_ ?_
          rotate_left
          · intro w'
            go_simp
            with_reducible rfl
          rotate_left
          · simp only [Act.put, List.setIfInBounds_toArray, List.set_cons_zero, List.set_cons_succ, i64_w, i32_w]
            rfl
          refine pure_ (i := 2) (N := some 36) (v := ?_) (a' := ?_) #[true, true, true, false, false, false, false, false] rfl rfl (any_of HT_.out (by kernel_rfl)) (fun _ _ _ h => h) (Or.inl ⟨by rfl, ?_⟩) ?_ ?_
          rotate_left
          · intro w'
            go_simp
            with_reducible rfl
          rotate_left
          · simp only [Act.put, List.setIfInBounds_toArray, List.set_cons_zero, List.set_cons_succ, i64_w, i32_w]
            rfl
          refine pure_ (i := 3) (N := some 37) (v := ?_) (a' := ?_) #[true, true, true, true, false, false, false, false] rfl rfl (any_of HT_.out (by kernel_rfl)) (fun _ _ _ h => h) (Or.inl ⟨by rfl, ?_⟩) ?_ ?_
          rotate_left
          · intro w'
            go_simp
            with_reducible rfl
          rotate_left
          · simp only [Act.put, List.setIfInBounds_toArray, List.set_cons_zero, List.set_cons_succ, i64_w, i32_w]
            rfl
          refine take_ (i := 4) (N := some 38) (v := ?_) (a' := ?_) #[true, true, true, true, true, false, false, false] rfl rfl (take_ofW HT_.out HW_.out (by kernel_rfl)) (fun _ _ _ h => h) (Or.inl ⟨by rfl, ?_⟩) hHeld ?_ ?_
          rotate_left
          · rintro w' ⟨s0, s1⟩
            go_simp
            with_reducible rfl
          rotate_left
          · simp only [Act.put, List.setIfInBounds_toArray, List.set_cons_zero, List.set_cons_succ, i64_w, i32_w]
            rfl
          refine pure_ (i := 5) (N := some 39) (v := ?_) (a' := ?_) #[true, true, true, true, true, true, false, false] rfl rfl (any_of HT_.out (by kernel_rfl)) (fun _ _ _ h => h) (Or.inl ⟨by rfl, ?_⟩) ?_ ?_
          rotate_left
          · intro w'
            go_simp
            with_reducible rfl
          rotate_left
          · simp only [Act.put, List.setIfInBounds_toArray, List.set_cons_zero, List.set_cons_succ, i64_w, i32_w]
            rfl
          refine pure_ (i := 6) (N := some 40) (v := ?_) (a' := ?_) #[true, true, true, true, true, true, true, false] rfl rfl (any_of HT_.out (by kernel_rfl)) (fun _ _ _ h => h) (Or.inl ⟨by rfl, ?_⟩) ?_ ?_
          rotate_left
          · intro w'
            go_simp
            with_reducible rfl
          rotate_left
          · simp only [Act.put, List.setIfInBounds_toArray, List.set_cons_zero, List.set_cons_succ, i64_w, i32_w]
            rfl
          refine one_ (i := 7) (N := some 41) #[true, true, true, true, true, true, true, true] rfl rfl (one_of HT_.out (by kernel_rfl)) (by decide) (fun K hK => ?_)
          refine goesC2_ 34 (by rfl) Try.func49 (by kernel_rfl) rfl #[.pointer (some (ad.add (i * 8))), .pointer (some ⟨bo, 0, none⟩), .pointer (some ⟨bw, 0, none⟩)] (by rfl) rfl rfl (by (try simp only [List.map_toArray, List.map_cons, List.map_nil]); first | done | rfl | (simp only [List.length_drop, List.length_take]; rfl)) ?_
          refine (HY.out w4 bo bw v' acc' HBO.out HNE.out (by have := HI.out.2.1; have := hnd2.out; omega) BO.out BW.out HO.out HB.out).mono ?_
          rintro e w5 ⟨rfl, v5, hbo, hbw, ho, hb⟩
          refine ⟨_, rfl, ?_⟩
          clear BO BW HO HB
          have BO := Aside0.mk hbo
          have BW := Aside0.mk hbw
          have HO := Aside0.mk ho
          have HB := Aside0.mk hb
          clear hbo hbw ho hb
          refine hK.out _ _ ⟨(blk_cell BW.out 0).trans rfl, pw_cell_below HB.out HP.out.2.2.2.2.2.2.2.1⟩ (fun hHeld => ?_)
          clear hK K
          refine norm_ (a' := ?_) ?_ ?_
          rotate_left
          · show Act.put _ (some 41) _ = _
            simp only [Act.put, List.setIfInBounds_toArray, List.set_cons_zero, List.set_cons_succ, i64_w, i32_w]
            rfl
          refine done_ (done_of HT_.out (by kernel_rfl)) ?_
          clear HT_ HW_
          try go_wp2
          go_roundg (gk - 1)
          case measure => have := HI.out; have := D1.out; omega
          case rel => exact ⟨i + 1, _, v5, (by rw [← hw1.out]), ⟨by have := HI.out; have := D1.out; omega, by have h1 := tabX_len (rd_T36 x.f5 (i : Int)) acc'; have := HI.out.2.1; have := hnd2.out; omega, by rw [← HI.out.2.2, hdr.out, tabXS]⟩, BO, BW, HO, HB⟩
        · have d4 : decide ((i : Int) < (x.f5.length : Int)) = false := decide_eq_false (by omega)
          have d5 : ¬ ((i : Int) < (x.f5.length : Int)) := by omega
          have hz : Aside0 (acc' = tabX x acc) := ⟨by have h := HI.out.2.2; rw [List.drop_of_length_le (by omega)] at h; exact h⟩
          clear d1
          go_wp2
          (first | go_ret | go_end0)
          exact ⟨rfl, v', BO.out, BW.out, by rw [← hz.out]; exact HO.out, HB.out⟩
end Go.Proofs.Ytfidfpmgoaainaa.Px
end
section
namespace Go.Proofs.Ytfidfpmgoaainaa.Px
open Go.RowKit Go.Proofs.YtfidfpmgoaainaaW.PrintWords Go.Proofs.YtfidfpmgoaainaaW.PrintLast Go.Proofs.Ytfidfpmgoaainaa.Pl Go.Proofs.Ytfidfpmgoaainaa.Ext
set_option linter.unusedVariables false
set_option linter.unusedSimpArgs false
/-- A call of a function value that is known, with two captured variables, in a plain region. -/
theorem goesV2_ {P : Program} {ops : Array Oper} {Q : Exit → Act → World → Prop} {rest : List Oper} {oi : Oper} {a : Act} {w : World} (t : Tmp) (N : Option Tmp) (hd : oi.dst = N) (hg : oi.guard = none) {f : FuncId} {C1 C2 : Value} (hv : a.eval (.tmp t) = .func (.func f) #[] #[C1, C2]) {fn : Func} {ars : Array Operand} {ts : Array TypeId} (hf : P.funcs[f]? = some fn) (hname : (fn.name == "runtime.NumGoroutine") = false) (hb : fn.body.isSome = true) (args : Array Value)
    (hop : oi.op = .call { callee := .value (.tmp t), args := ars, argTypes := ts }) (hargs : ars.map a.eval ++ #[C1, C2] = args)
    (h : Calls P f args w fun e w' => ∃ v, e = .returned v ∧ wpList P ops Q rest (a.put N v) w') : wpList P ops Q (oi :: rest) a w := by
  refine wpList_plain hg fun K hK => ?_
  have he := enters_ hf hname hb args w
  have hrun : (execOp a.eval oi).run P w = .ok (.enter f args) w := by
    unfold execOp
    subst hargs
    simp [hop, resolve, Deferred.ofValue, invoke, hv, he]
  unfold Oper.wp
  rw [hrun, Oper.upon_enter]
  refine h.mono fun e w'' hh => ?_
  obtain ⟨v, rfl, hk⟩ := hh
  subst hd
  exact hK _ _ hk
open Classical in
noncomputable def impl_TablesIn.f (_k : Nat) (a0_0 : Int) (a0_1 : ByteArray) (a0_2 : Int) (a0_3 : Int) (l0_4 : List ByteArray) (l0_5 : List (S33)) (l0_6 : List ByteArray) (l0_7 : List (S36)) : Option (List ByteArray) :=
  if SmTerm ⟨a0_0, a0_1, a0_2, ⟨a0_3, l0_4, l0_5⟩, l0_6, l0_7⟩ ∧ ndTerm ⟨a0_0, a0_1, a0_2, ⟨a0_3, l0_4, l0_5⟩, l0_6, l0_7⟩ ≤ 1048577 then some (tabX ⟨a0_0, a0_1, a0_2, ⟨a0_3, l0_4, l0_5⟩, l0_6, l0_7⟩ []) else none
set_option maxHeartbeats 4000000 in
set_option maxRecDepth 100000 in
theorem impl_TablesIn.calls (k : Nat) (a0_0 : Int) (a0_1 : ByteArray) (a0_2 : Int) (a0_3 : Int) (A0_4 : Option Addr) (c0_4 : Nat) (l0_4 : List ByteArray) (A0_5 : Option Addr) (c0_5 : Nat) (l0_5 : List (S33)) (A0_6 : Option Addr) (c0_6 : Nat) (l0_6 : List ByteArray) (A0_7 : Option Addr) (c0_7 : Nat) (l0_7 : List (S36)) (r : List ByteArray) (w : World) (hr0_4 : Kd.C Kd.string w A0_4 l0_4.length l0_4) (hc0_4 : l0_4.length ≤ c0_4) (hr0_5 : Kd.C k33 w A0_5 l0_5.length l0_5) (hc0_5 : l0_5.length ≤ c0_5) (hr0_6 : Kd.C Kd.string w A0_6 l0_6.length l0_6) (hc0_6 : l0_6.length ≤ c0_6) (hr0_7 : Kd.C k36 w A0_7 l0_7.length l0_7) (hc0_7 : l0_7.length ≤ c0_7) (h : impl_TablesIn.f k a0_0 a0_1 a0_2 a0_3 l0_4 l0_5 l0_6 l0_7 = some r) :
    Calls Try.prog 19 #[.agg #[.int .i64 a0_0, .string a0_1, .int .i64 a0_2, .int .i64 a0_3, .slice A0_4 l0_4.length c0_4, .slice A0_5 l0_5.length c0_5, .slice A0_6 l0_6.length c0_6, .slice A0_7 l0_7.length c0_7]] w fun e w' => ∃ v0_ : Value, e = .returned (v0_) ∧ Kd.R Kd.string 9 w' w.heap.size (fun _ => True) v0_ r ∧ Below w.heap.size w w' := by
  unfold impl_TablesIn.f at h
  by_cases hc : SmTerm ⟨a0_0, a0_1, a0_2, ⟨a0_3, l0_4, l0_5⟩, l0_6, l0_7⟩ ∧ ndTerm ⟨a0_0, a0_1, a0_2, ⟨a0_3, l0_4, l0_5⟩, l0_6, l0_7⟩ ≤ 1048577
  · rw [if_pos hc] at h
    obtain rfl := Option.some.inj h
    have HG := Aside0.mk (tabs_go ⟨a0_0, a0_1, a0_2, ⟨a0_3, l0_4, l0_5⟩, l0_6, l0_7⟩ hc.1)
    have HC := Aside0.mk hc.2
    have R7 := Aside0.mk (And.intro hr0_7 hc0_7)
    obtain ⟨X, hX⟩ : ∃ X : S36, X = ⟨a0_0, a0_1, a0_2, ⟨a0_3, l0_4, l0_5⟩, l0_6, l0_7⟩ := ⟨_, rfl⟩
    rw [← hX] at HC ⊢
    have HX := Aside0.mk hX
    clear h hc hr0_4 hc0_4 hr0_5 hc0_5 hr0_6 hc0_6 hr0_7 hc0_7 hX
    have hu36 := Try.underlying36
    have hmf : ∀ (fn : Fn) (first cap : Array Value) (w : World), (Instr.makeFunc fn first cap).run Try.prog w = .ok (.func fn first cap) w := fun _ _ _ _ => rfl
    go_enter Try.func19, Try.ntmps19
    go_wp2_with (first
      | ((with_reducible refine gate_dst (N := 1) rfl ?_); refine box_event ?hg (N := 1) ?hd (cs := #[.int .i64 a0_0, .string a0_1, .int .i64 a0_2, .int .i64 a0_3, .slice A0_4 l0_4.length c0_4, .slice A0_5 l0_5.length c0_5, .slice A0_6 l0_6.length c0_6, .slice A0_7 l0_7.length c0_7]) (t := 36) ?hr ?_; (case hd => rfl); (case hg => rfl); (case hr => first | (go_simp; done) | (go_simp; rfl)); intro gb hg w1 hbox hb; have HBX := Aside0.mk hbox; have HB1 := Aside0.mk hb; clear hg hbox hb)
      | ((with_reducible refine gate_dst (N := 5) rfl ?_); refine Kd.R_lit Kd.string (w0 := w1) w1.heap.size 9 ?hg (N := 5) ?hd (xs := ([] : List ByteArray)) (inner := []) (ok := fun _ => True) (okp := fun _ => True) ?hr ?hp (fun _ hk => hk) trivial (Below.refl w1.heap.size w1) (Nat.le_refl _) (by simp) ?_; (case hd => rfl); (case hg => rfl); (case hr => first | (go_simp; done) | (go_simp; rfl)); (case hp => exact (Reps.none _ _)); intro v3 w3 ho hb hg_ hnew_; obtain ⟨Av, cv, ev⟩ : ∃ A c, v3 = .slice A 0 c := Kd.R_slice ho; subst ev; have HO := Aside0.mk ho; have HB3 := Aside0.mk hb; clear ho hb hg_ hnew_)
      | ((with_reducible refine gate_dst (N := 3) rfl ?_); refine box_event ?hg (N := 3) ?hd (cs := #[.slice none 0 0]) (t := 22) ?hr ?_; (case hd => rfl); (case hg => rfl); (case hr => first | (go_simp; done) | (go_simp; rfl)); intro bo hg w4 hbox hb
         have HBO := Aside0.mk (show w3.heap.size ≤ bo by rw [hg]; exact Nat.le_refl _)
         have HXO := Aside0.mk hbox
         have HO4 := Aside0.mk (Kd.R_mono (Kd.R_bound (Kd.R_below HO.out hb)) (ok' := fun k => k < w4.heap.size ∧ k ≠ bo) (fun k hk => ⟨hk.2.2.1, fun e_ => by obtain ⟨q, hq, cells, hcc⟩ := hk.2.2.2; rw [e_, hbox] at hcc; injection hcc with hcc; injection hcc with _ h2; subst h2; revert hq; decide⟩))
         have HB4 := Aside0.mk (below_step HB3.out hb)
         have hx3 : w4.cell? ⟨bo, 0, none⟩ = some (.slice none 0 0) := (blk_cell hbox 0).trans rfl
         have hf3 := blk_frozen hbox 0
         clear hg hbox hb)
      | ((with_reducible refine gate_store (t := 22) (p := 3) rfl ?_)
         refine store_event (t := 22) (p := 3) (v := ?vo_w5) (w1 := (w4.setCell ⟨bo, 0, none⟩ (.slice Av 0 cv))) ?hg ?ho ?hn ?hr ?_; (case ho => rfl); (case hg => rfl); (case hn => rfl); (case hr => first | (go_simp; done) | (go_simp; rfl)); intro w5 hw
         have HXO5 := Aside0.mk (show w5.heap[bo]? = some (.cells #[.slice Av 0 cv] 22 (0, 0)) by rw [hw]; exact blk_put (cs := #[.slice none 0 0]) HXO.out 0 _ rfl)
         have HO5 := Aside0.mk (show Kd.R Kd.string 9 w5 w1.heap.size (fun k => k < w4.heap.size ∧ k ≠ bo) (.slice Av 0 cv) [] by rw [hw]; exact Kd.R_mono (Kd.R_far (p := ⟨bo, 0, none⟩) HO4.out (fun _ hk => hk.2) _) (fun _ hk => hk))
         have HB5 := Aside0.mk (show Below w1.heap.size w1 w5 by rw [hw]; exact below_set HB4.out (Nat.le_trans HB3.out.size HBO.out))
         have HS5 := Aside0.mk (show w4.heap.size = w5.heap.size by rw [hw]; simp [World.setCell])
         clear hw hx3 hf3)
      | ((with_reducible refine gate_dst (N := 4) rfl ?_)
         go_loud (
         refine box_event ?hg (N := 4) ?hd (cs := #[.nilFunc]) (t := 67) ?hr ?_; (case hd => rfl); (case hg => rfl); (case hr => first | (go_simp; done) | (go_simp; rfl)); intro bw hg w6 hbox hb
         have HBW := Aside0.mk (show w5.heap.size ≤ bw by rw [hg]; exact Nat.le_refl _)
         have HXW := Aside0.mk hbox
         have HO6 := Aside0.mk (Kd.R_mono (Kd.R_below HO5.out hb) (ok' := fun k => k ≠ bo ∧ k ≠ bw) (fun k hk => ⟨hk.2, fun e_ => by have := hk.1; rw [HS5.out] at this; rw [e_, hg] at this; exact Nat.lt_irrefl _ this⟩))
         have HXO6 := Aside0.mk (blk_below HXO5.out hb)
         have HB6 := Aside0.mk (below_step HB5.out hb)
         have hx4 : w6.cell? ⟨bw, 0, none⟩ = some .nilFunc := (blk_cell hbox 0).trans rfl
         have hf4 := blk_frozen hbox 0
         clear hg hbox hb))
      | ((with_reducible refine gate_store (t := 67) (p := 4) rfl ?_)
         go_loud (
         refine store_event (t := 67) (p := 4) (v := ?vo_w7) (w1 := (w6.setCell ⟨bw, 0, none⟩ (.func (.func 49) #[] #[.pointer (some ⟨bo, 0, none⟩), .pointer (some ⟨bw, 0, none⟩)]))) ?hg ?ho ?hn ?hr ?_; (case ho => rfl); (case hg => rfl); (case hn => rfl); (case hr => first | (go_simp; done) | (go_simp; rfl)); intro w7 hw
         have HNE := Aside0.mk (show bo ≠ bw by intro e_; have h1 := blk_lt HXO5.out; have h2 := HBW.out; rw [← e_] at h2; omega)
         have HXW7 := Aside0.mk (show w7.heap[bw]? = some (.cells #[.func (.func 49) #[] #[.pointer (some ⟨bo, 0, none⟩), .pointer (some ⟨bw, 0, none⟩)]] 67 (0, 0)) by rw [hw]; exact blk_put (cs := #[.nilFunc]) HXW.out 0 _ rfl)
         have HXO7 := Aside0.mk (show w7.heap[bo]? = some (.cells #[.slice Av 0 cv] 22 (0, 0)) by rw [hw]; exact blk_far HXO6.out HNE.out _)
         have HO7 := Aside0.mk (show Kd.R Kd.string 9 w7 w1.heap.size (fun k => k ≠ bo ∧ k ≠ bw) (.slice Av 0 cv) [] by rw [hw]; exact Kd.R_mono (Kd.R_far (p := ⟨bw, 0, none⟩) HO6.out (fun _ hk => hk.2) _) (fun _ hk => hk))
         have HB7 := Aside0.mk (show Below w1.heap.size w1 w7 by rw [hw]; exact below_set HB6.out (Nat.le_trans HB5.out.size HBW.out))
         have hx7 : w7.cell? ⟨bw, 0, none⟩ = some (.func (.func 49) #[] #[.pointer (some ⟨bo, 0, none⟩), .pointer (some ⟨bw, 0, none⟩)]) := (blk_cell HXW7.out 0).trans rfl
         clear hw hx4 hf4))
      | ((with_reducible refine gate_calleev (t := 7) rfl ?_)
         go_loud (
         refine goesV2_ 7 (some 8) rfl rfl rfl Try.func49 (by kernel_rfl) rfl #[.pointer (some ⟨gb, 0, none⟩), .pointer (some ⟨bo, 0, none⟩), .pointer (some ⟨bw, 0, none⟩)] rfl (by (try simp only [List.map_toArray, List.map_cons, List.map_nil]); first | done | rfl) ?_
         refine (HG.out ⟨gb, 0, none⟩ A0_4 c0_4 A0_5 c0_5 A0_6 c0_6 A0_7 c0_7 w1 w7 bo bw (.slice Av 0 cv) [] (Cells_blk HBX.out) (Kd.C_below R7.out.1 HB1.out) (Nat.le_trans HB3.out.size HBO.out) HNE.out ?g1 HXO7.out HXW7.out HO7.out HB7.out).mono ?_
         (case g1 => have := HC.out; rw [HX.out] at this; rw [List.length_nil]; omega)
         rintro e w8 ⟨rfl, v', hbo, _, ho, hb⟩
         refine ⟨_, rfl, ?_⟩
         rw [← HX.out] at ho
         obtain ⟨A8, c8, e8⟩ := Kd.R_slice ho
         subst e8
         have HO8 := Aside0.mk (Kd.R_lower (Kd.R_mono (ok' := fun _ => True) ho (fun _ _ => trivial)) (below_size HB1.out))
         have HB8 := Aside0.mk (below_step HB1.out hb)
         have hx8 : w8.cell? ⟨bo, 0, none⟩ = some (.slice A8 (tabX X []).length c8) := (blk_cell hbo 0).trans rfl
         clear ho hb hbo hx7)))
    go_ret
    exact ⟨_, rfl, HO8.out, HB8.out⟩
  · rw [if_neg hc] at h
    cases h

end Go.Proofs.Ytfidfpmgoaainaa.Px
end
section
namespace Go.Proofs.Ytfidfpmgoaainaa.Px
open Go.RowKit Go.Proofs.YtfidfpmgoaainaaW.PrintWords Go.Proofs.YtfidfpmgoaainaaW.PrintLast Go.Proofs.Ytfidfpmgoaainaa.Pl Go.Proofs.Ytfidfpmgoaainaa.Ext
set_option linter.unusedVariables false
set_option linter.unusedSimpArgs false
mutual
def stb : S36 → List ByteArray
  | ⟨a, nm, _, _, _, xs⟩ => uni [] ((if a = 12 then [nm] else []) ++ stbS xs)
def stbS : List S36 → List ByteArray
  | [] => []
  | x :: r => stb x ++ stbS r
end
theorem stb_eq (x : S36) : stb x = uni [] ((if x.f0 = 12 then [x.f1] else []) ++ stbS x.f5) := by
  obtain ⟨a, nm, n, t, ls, xs⟩ := x
  rw [stb]
theorem tab1_uni (a : Int) (nm : ByteArray) (acc : List ByteArray) : tab1 a nm acc = uni acc (if a = 12 then [nm] else []) := by
  unfold tab1
  by_cases h1 : a = 12
  · rw [if_pos h1]
    by_cases c : hasB acc nm = true
    · rw [uni_step_t [] c, if_neg (by rw [c]; intro h; cases h.2)]; rfl
    · rw [uni_step_f [] c, if_pos ⟨h1, by simpa using c⟩]; rfl
  · rw [if_neg h1, if_neg (fun h => h1 h.1)]; rfl
mutual
theorem tabX_stb : ∀ (x : S36) (acc : List ByteArray), tabX x acc = uni acc (stb x)
  | ⟨a, nm, n, t, ls, xs⟩, acc => by
    rw [tabX, stb, tabXS_stb xs, tab1_uni, uni_uni, ← uni_append]; rfl
theorem tabXS_stb : ∀ (xs : List S36) (acc : List ByteArray), tabXS xs acc = uni acc (stbS xs)
  | [], acc => by rw [tabXS, stbS]; rfl
  | x :: r, acc => by rw [tabXS, stbS, uni_append, tabXS_stb r, tabX_stb x]
end
theorem tabX_top (x : S36) : tabX x [] = stb x := by
  rw [tabX_stb, stb_eq, uni_uni]; rfl
theorem stb_len (x : S36) : (stb x).length ≤ ndTerm x := by
  have h := tabX_len x []
  rw [tabX_top, List.length_nil] at h
  omega
theorem spec_TablesIn_ev : ∀ x : S36, SmTerm x → ndTerm x ≤ 1048577 → Ev (fun k => spec_TablesIn.f k x.f0 x.f1 x.f2 x.f3.f0 x.f3.f1 x.f3.f2 x.f4 x.f5) (stb x) := by
  refine indTermI fun x ih hs hn => ?_
  have hns : ndTerm x = 1 + ndTermS x.f5 := by rw [ndTerm_eq, ndTermS_sum]
  have hlen := hs.p5.1
  have h : ∀ (m i : Nat) (acc : List ByteArray), i + m = x.f5.length → acc.length + ndTermS (x.f5.drop i) ≤ 1048577 → acc.Nodup → Ev (fun k => spec_TablesIn.l0 k acc (i : Int) x.f0 x.f1 x.f2 x.f3.f0 x.f3.f1 x.f3.f2 x.f4 x.f5) (uni acc (stbS (x.f5.drop i))) := by
    intro m
    induction m with
    | zero =>
      intro i acc hi _ _
      refine Ev.up ?_
      simp only [spec_TablesIn.l0]
      rw [List.drop_of_length_le (by omega), stbS]
      exact Ev.neg (by omega) (Ev.now _)
    | succ m ihm =>
      intro i acc hi hl hd
      refine Ev.up ?_
      simp only [spec_TablesIn.l0, w1' (show i < x.f5.length by omega) hlen]
      have hmem : rd_T36 x.f5 (i : Int) ∈ x.f5 := mem_getD x.f5 z36 i (by omega)
      have hdr : x.f5.drop i = rd_T36 x.f5 (i : Int) :: x.f5.drop (i + 1) := dropT x.f5 i (by omega)
      have hsub : ndTerm (rd_T36 x.f5 (i : Int)) ≤ ndTermS x.f5 := by rw [ndTermS_sum]; exact sum_le_of_mem ndTerm hmem
      rw [hdr] at hl ⊢
      rw [ndTermS] at hl
      have hfl := stb_len (rd_T36 x.f5 (i : Int))
      rw [stbS, uni_append]
      refine Ev.pos (by omega) (Ev.pos (by omega) (Ev.bind (ih _ hmem (hs.p5.2 _ hmem) (by omega)) (Ev.bind (spec_UniteNames_ev acc _ (by omega)) ?_)))
      rw [uni_nil_append _ _ hd]
      have hul := uni_len (stb (rd_T36 x.f5 (i : Int))) acc
      exact ihm (i + 1) _ (by omega) (by omega) (uni_nodup _ _ hd)
  refine Ev.up ?_
  simp only [spec_TablesIn.f]
  rw [stb_eq, uni_append]
  refine Ev.bind (Ev.now _) ?_
  by_cases h1 : x.f0 = 12
  · rw [if_pos h1]
    refine Ev.pos h1 (Ev.pos (by simp) ?_)
    refine Ev.up ?_
    simp only [spec_TablesIn.j0]
    have := h x.f5.length 0 ([] ++ [x.f1]) (by omega) (by rw [List.drop_zero]; simp only [List.nil_append, List.length_cons, List.length_nil]; omega) (by simp)
    rw [show uni [] [x.f1] = [x.f1] from rfl]
    simpa using this
  · rw [if_neg h1]
    refine Ev.neg h1 ?_
    refine Ev.up ?_
    simp only [spec_TablesIn.j0]
    have := h x.f5.length 0 [] (by omega) (by rw [List.drop_zero, List.length_nil]; omega) List.nodup_nil
    rw [show uni [] ([] : List ByteArray) = [] from rfl]
    simpa using this
theorem TablesIn_same (x : S36) (hs : SmTerm x) (hn : ndTerm x ≤ 1048577) : Ev (fun k => impl_TablesIn.f k x.f0 x.f1 x.f2 x.f3.f0 x.f3.f1 x.f3.f2 x.f4 x.f5) (stb x) ∧ Ev (fun k => spec_TablesIn.f k x.f0 x.f1 x.f2 x.f3.f0 x.f3.f1 x.f3.f2 x.f4 x.f5) (stb x) := by
  refine ⟨?_, spec_TablesIn_ev x hs hn⟩
  have : ∀ k, impl_TablesIn.f k x.f0 x.f1 x.f2 x.f3.f0 x.f3.f1 x.f3.f2 x.f4 x.f5 = some (stb x) := by
    intro k
    unfold impl_TablesIn.f
    rw [etaTerm, if_pos ⟨hs, hn⟩, tabX_top]
  simp only [this]
  exact Ev.now _
theorem eqStringS_ev2 (xs : List ByteArray) (hx : xs.length ≤ 2097152) : Ev (fun k => laws_eqStringS.f k xs xs) true := by
  simp only [laws_eqStringS.f]
  refine Ev.pos (by simp) ?_
  exact eq_loop xs.length (fun k i => some true) (fun k i => laws_eqStringS.l0 k xs xs (i : Int)) (fun k i hi => by
    simp only [laws_eqStringS.l0]
    rw [if_pos (by omega), if_pos (by omega), if_pos (by omega), w1 hi (by unfold maxLen; omega)]
    simp) (fun k => by simp only [laws_eqStringS.l0]; rw [if_neg (by omega)]) (fun i hi => Ev.now _) xs.length 0 (by omega)

end Go.Proofs.Ytfidfpmgoaainaa.Px
end

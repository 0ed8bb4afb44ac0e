/- Printed by a program of this session: what functions of the translation come to, each contract as it stands. No condition. -/
import Derived.Test.YtppgalehaiagaaaZIsValidTermPx0M
import Derived.Test.YtppgalehaiagaaaZIsValidTermPx2M
import Derived.Test.YtppgalehaiagaaaZIsValidTermPx5
import Derived.Test.YtppgalehaiagaaaZIsValidTermPx19
namespace Go.Proofs.Ytppgalehaiagaaa.Px
open Go.RowKit Go.Proofs.Ytppgalehaiagaaa.Ext Go.Proofs.YtppgalehaiagaaaW.PrintWords Go.Proofs.YtppgalehaiagaaaW.PrintLast Go.Proofs.YtppgalehaiagaaaW.PrintMore
attribute [local go_sem] max2_int min2_int max_two min_two max_three min_three max_four min_four   -- for this text's walks alone
set_option linter.unusedVariables false
set_option linter.unusedSimpArgs false

/-! ### spec_l7Fields: function 153 -/
mutual
def spec_l7Fields.j0 : Nat → Int → ByteArray → Int → Int → List ByteArray → List (S33) → List ByteArray → List (S36) → Option (Bool)
 | 0, _, _, _, _, _, _, _, _ => none
 | k + 1, x402000, x402001, x402002, x402003, x402004, x402005, x402006, x402007 => if x402000 = 7 then (spec_l7Fields.j1 k true x402000 x402001 x402002 x402003 x402004 x402005 x402006 x402007) else (spec_l7Fields.j1 k (x402000 == 13) x402000 x402001 x402002 x402003 x402004 x402005 x402006 x402007)
def spec_l7Fields.j1 : Nat → Bool → Int → ByteArray → Int → Int → List ByteArray → List (S33) → List ByteArray → List (S36) → Option (Bool)
 | 0, _, _, _, _, _, _, _, _, _ => none
 | k + 1, x3, x402000, x402001, x402002, x402003, x402004, x402005, x402006, x402007 => (spec_IsValidType.f k x402003 x402004 x402005).bind fun t405 => (if x3 = true then (if t405 = true then (spec_l7Fields.j2 k false x402000 x402001 x402002 x402003 x402004 x402005 x402006 x402007) else (spec_l7Fields.j2 k true x402000 x402001 x402002 x402003 x402004 x402005 x402006 x402007)) else (if t405 = true then (spec_l7Fields.j2 k true x402000 x402001 x402002 x402003 x402004 x402005 x402006 x402007) else (if x402003 = 0 then (if (x402004.length : Int) > 0 then (spec_l7Fields.j2 k true x402000 x402001 x402002 x402003 x402004 x402005 x402006 x402007) else (spec_l7Fields.j2 k (decide ((x402005.length : Int) > 0)) x402000 x402001 x402002 x402003 x402004 x402005 x402006 x402007)) else (spec_l7Fields.j2 k true x402000 x402001 x402002 x402003 x402004 x402005 x402006 x402007))))
def spec_l7Fields.j2 : Nat → Bool → Int → ByteArray → Int → Int → List ByteArray → List (S33) → List ByteArray → List (S36) → Option (Bool)
 | 0, _, _, _, _, _, _, _, _, _ => none
 | k + 1, x66, x402000, x402001, x402002, x402003, x402004, x402005, x402006, x402007 => if x66 = true then (some false) else (if x402000 = 5 then ((spec_l3Labels.f k x402006).bind fun t406 => (if t406 = true then (spec_l7Fields.j3 k false x402000 x402001 x402002 x402003 x402004 x402005 x402006 x402007) else (spec_l7Fields.j3 k true x402000 x402001 x402002 x402003 x402004 x402005 x402006 x402007))) else (spec_l7Fields.j3 k (decide ((x402006.length : Int) > 0)) x402000 x402001 x402002 x402003 x402004 x402005 x402006 x402007))
def spec_l7Fields.j3 : Nat → Bool → Int → ByteArray → Int → Int → List ByteArray → List (S33) → List ByteArray → List (S36) → Option (Bool)
 | 0, _, _, _, _, _, _, _, _, _ => none
 | k + 1, x86, x402000, x402001, x402002, x402003, x402004, x402005, x402006, x402007 => if x86 = true then (some false) else (if x402000 = 2 then ((spec_l1In.f x402002 0 999).bind fun t407 => (some t407)) else (if x402000 = 3 then ((spec_l1In.f x402002 0 1).bind fun t408 => (some t408)) else ((spec_l1In.f x402002 0 0).bind fun t409 => (some t409))))
end
def spec_l7Fields.f (k : Nat) (a0_0 : Int) (a0_1 : ByteArray) (a0_2 : Int) (a0_3 : Int) (l0_4 : List ByteArray) (l0_5 : List (S33)) (l0_6 : List ByteArray) (l0_7 : List (S36)) : Option (Bool) := if a0_0 = 4 then ((spec_OpArity.f k a0_1).bind fun t402 => (if t402 = 0 then (some false) else (spec_l7Fields.j0 k a0_0 a0_1 a0_2 a0_3 l0_4 l0_5 l0_6 l0_7))) else ((spec_l7Named.f a0_0).bind fun t403 => ((spec_IsName.f k a0_1).bind fun t404 => (if t403 = true then (if t404 = true then (spec_l7Fields.j0 k a0_0 a0_1 a0_2 a0_3 l0_4 l0_5 l0_6 l0_7) else (some false)) else (if t404 = true then (some false) else (if a0_1.toList = ([] : List UInt8) then (spec_l7Fields.j0 k a0_0 a0_1 a0_2 a0_3 l0_4 l0_5 l0_6 l0_7) else (some false))))))
set_option maxHeartbeats 8000000 in
set_option maxRecDepth 100000 in
theorem spec_l7Fields.calls (k : Nat) (a0_0 : Int) (a0_1 : ByteArray) (a0_2 : Int) (a0_3 : Int) (A0_4 : Option Addr) (c0_4 : Nat) (l0_4 : List ByteArray) (A0_5 : Option Addr) (c0_5 : Nat) (l0_5 : List (S33)) (A0_6 : Option Addr) (c0_6 : Nat) (l0_6 : List ByteArray) (A0_7 : Option Addr) (c0_7 : Nat) (l0_7 : List (S36)) (r : Bool) (w : World) (hr0_4 : Kd.C Kd.string w A0_4 l0_4.length l0_4) (hc0_4 : l0_4.length ≤ c0_4) (hr0_5 : Kd.C k33 w A0_5 l0_5.length l0_5) (hc0_5 : l0_5.length ≤ c0_5) (hr0_6 : Kd.C Kd.string w A0_6 l0_6.length l0_6) (hc0_6 : l0_6.length ≤ c0_6) (hr0_7 : Kd.C k36 w A0_7 l0_7.length l0_7) (hc0_7 : l0_7.length ≤ c0_7) (h : spec_l7Fields.f k a0_0 a0_1 a0_2 a0_3 l0_4 l0_5 l0_6 l0_7 = some r) :
  Calls Try.prog 153 #[.agg #[.int .i64 a0_0, .string a0_1, .int .i64 a0_2, .int .i64 a0_3, .slice A0_4 l0_4.length c0_4, .slice A0_5 l0_5.length c0_5, .slice A0_6 l0_6.length c0_6, .slice A0_7 l0_7.length c0_7]] w fun e w' => e = .returned (.bool r) ∧ Below w.heap.size w w' := by
 have hu36 := Try.underlying36
 have hu33 := Try.underlying33
 have HR0_4 := Aside0.mk hr0_4
 have HC0_4 := Aside0.mk hc0_4
 clear hr0_4 hc0_4
 have HR0_5 := Aside0.mk hr0_5
 have HC0_5 := Aside0.mk hc0_5
 clear hr0_5 hc0_5
 have HR0_6 := Aside0.mk hr0_6
 have HC0_6 := Aside0.mk hc0_6
 clear hr0_6 hc0_6
 have HR0_7 := Aside0.mk hr0_7
 have HC0_7 := Aside0.mk hc0_7
 clear hr0_7 hc0_7
 have HB := Aside0.mk (Below.refl w.heap.size w)
 have H : (if a0_0 = 4 then ((spec_OpArity.f k a0_1).bind fun t402 => (if t402 = 0 then (some false) else (spec_l7Fields.j0 k a0_0 a0_1 a0_2 a0_3 l0_4 l0_5 l0_6 l0_7))) else ((spec_l7Named.f a0_0).bind fun t403 => ((spec_IsName.f k a0_1).bind fun t404 => (if t403 = true then (if t404 = true then (spec_l7Fields.j0 k a0_0 a0_1 a0_2 a0_3 l0_4 l0_5 l0_6 l0_7) else (some false)) else (if t404 = true then (some false) else (if a0_1.toList = ([] : List UInt8) then (spec_l7Fields.j0 k a0_0 a0_1 a0_2 a0_3 l0_4 l0_5 l0_6 l0_7) else (some false))))))) = some r := h
 clear h
 have HC2 := Aside0.mk H
 clear H
 go_enter Try.func153, Try.ntmps153
 go_upto_if 7 with (first | ((with_reducible refine gate_dst (N := 1) rfl ?_); (try (refine gate_guard (by rfl) ?_; dsimp only)); refine box_event ?hg (N := 1) ?hd (cs := #[.int .i64 a0_0, .string a0_1, .int .i64 a0_2, .int .i64 a0_3, .slice A0_4 l0_4.length c0_4, .slice A0_5 l0_5.length c0_5, .slice A0_6 l0_6.length c0_6, .slice A0_7 l0_7.length c0_7]) (t := 36) ?hr ?_; (case hd => rfl); (case hg => rfl); (case hr => first | (go_simp; done) | (go_simp; rfl)); intro gb401 hg w3 hbox hb; have n0_ := Aside0.mk (below_step (by repeat (first | (with_reducible first | exact HB.out | apply below_alloc | apply pw_below_drewN | apply below_drew1) | exact HB.out)) hb); have n1_ := Aside0.mk (hbox); have n2_ := Aside0.mk ((by rw [hg]; exact (below_size (by repeat (first | (with_reducible first | exact HB.out | apply below_alloc | apply pw_below_drewN | apply below_drew1) | exact HB.out))) : w.heap.size ≤ gb401)); have n3_ := Aside0.mk ((by rw [hg]; exact (below_size (by repeat (first | (with_reducible first | exact HB.out | apply below_alloc | apply pw_below_drewN | apply below_drew1) | exact HB.out))) : w.heap.size ≤ gb401)); clear HB; have HB := n0_; have BK401 := n1_; have GW401 := n2_; have GE401 := n3_; clear n0_ n1_ n2_ n3_; clear hb hbox hg; have hcz4_0 : w3.cell? ⟨gb401, 0, none⟩ = some (.int .i64 a0_0) := (blk_cell BK401.out 0).trans rfl; have hcz4_1 : w3.cell? ⟨gb401, 1, none⟩ = some (.string a0_1) := (blk_cell BK401.out 1).trans rfl; have hcz4_2 : w3.cell? ⟨gb401, 2, none⟩ = some (.int .i64 a0_2) := (blk_cell BK401.out 2).trans rfl; have hcz4_3 : w3.cell? ⟨gb401, 3, none⟩ = some (.int .i64 a0_3) := (blk_cell BK401.out 3).trans rfl; have hcz4_4 : w3.cell? ⟨gb401, 4, none⟩ = some (.slice A0_4 l0_4.length c0_4) := (blk_cell BK401.out 4).trans rfl; have hcz4_5 : w3.cell? ⟨gb401, 5, none⟩ = some (.slice A0_5 l0_5.length c0_5) := (blk_cell BK401.out 5).trans rfl; have hcz4_6 : w3.cell? ⟨gb401, 6, none⟩ = some (.slice A0_6 l0_6.length c0_6) := (blk_cell BK401.out 6).trans rfl; have hcz4_7 : w3.cell? ⟨gb401, 7, none⟩ = some (.slice A0_7 l0_7.length c0_7) := (blk_cell BK401.out 7).trans rfl; have hfz4_0 := blk_frozen BK401.out 0; have hfz4_1 := blk_frozen BK401.out 1; have hfz4_2 := blk_frozen BK401.out 2; have hfz4_3 := blk_frozen BK401.out 3; have hfz4_4 := blk_frozen BK401.out 4; have hfz4_5 := blk_frozen BK401.out 5; have hfz4_6 := blk_frozen BK401.out 6; have hfz4_7 := blk_frozen BK401.out 7))
 repeat (go_quiet (first | ((with_reducible refine gate_dst (N := 1) rfl ?_); (try (refine gate_guard (by rfl) ?_; dsimp only)); refine box_event ?hg (N := 1) ?hd (cs := #[.int .i64 a0_0, .string a0_1, .int .i64 a0_2, .int .i64 a0_3, .slice A0_4 l0_4.length c0_4, .slice A0_5 l0_5.length c0_5, .slice A0_6 l0_6.length c0_6, .slice A0_7 l0_7.length c0_7]) (t := 36) ?hr ?_; (case hd => rfl); (case hg => rfl); (case hr => first | (go_simp; done) | (go_simp; rfl)); intro gb401 hg w3 hbox hb; have n0_ := Aside0.mk (below_step (by repeat (first | (with_reducible first | exact HB.out | apply below_alloc | apply pw_below_drewN | apply below_drew1) | exact HB.out)) hb); have n1_ := Aside0.mk (hbox); have n2_ := Aside0.mk ((by rw [hg]; exact (below_size (by repeat (first | (with_reducible first | exact HB.out | apply below_alloc | apply pw_below_drewN | apply below_drew1) | exact HB.out))) : w.heap.size ≤ gb401)); have n3_ := Aside0.mk ((by rw [hg]; exact (below_size (by repeat (first | (with_reducible first | exact HB.out | apply below_alloc | apply pw_below_drewN | apply below_drew1) | exact HB.out))) : w.heap.size ≤ gb401)); clear HB; have HB := n0_; have BK401 := n1_; have GW401 := n2_; have GE401 := n3_; clear n0_ n1_ n2_ n3_; clear hb hbox hg; have hcz4_0 : w3.cell? ⟨gb401, 0, none⟩ = some (.int .i64 a0_0) := (blk_cell BK401.out 0).trans rfl; have hcz4_1 : w3.cell? ⟨gb401, 1, none⟩ = some (.string a0_1) := (blk_cell BK401.out 1).trans rfl; have hcz4_2 : w3.cell? ⟨gb401, 2, none⟩ = some (.int .i64 a0_2) := (blk_cell BK401.out 2).trans rfl; have hcz4_3 : w3.cell? ⟨gb401, 3, none⟩ = some (.int .i64 a0_3) := (blk_cell BK401.out 3).trans rfl; have hcz4_4 : w3.cell? ⟨gb401, 4, none⟩ = some (.slice A0_4 l0_4.length c0_4) := (blk_cell BK401.out 4).trans rfl; have hcz4_5 : w3.cell? ⟨gb401, 5, none⟩ = some (.slice A0_5 l0_5.length c0_5) := (blk_cell BK401.out 5).trans rfl; have hcz4_6 : w3.cell? ⟨gb401, 6, none⟩ = some (.slice A0_6 l0_6.length c0_6) := (blk_cell BK401.out 6).trans rfl; have hcz4_7 : w3.cell? ⟨gb401, 7, none⟩ = some (.slice A0_7 l0_7.length c0_7) := (blk_cell BK401.out 7).trans rfl; have hfz4_0 := blk_frozen BK401.out 0; have hfz4_1 := blk_frozen BK401.out 1; have hfz4_2 := blk_frozen BK401.out 2; have hfz4_3 := blk_frozen BK401.out 3; have hfz4_4 := blk_frozen BK401.out 4; have hfz4_5 := blk_frozen BK401.out 5; have hfz4_6 := blk_frozen BK401.out 6; have hfz4_7 := blk_frozen BK401.out 7)); go_upto_if 7 with (first | ((with_reducible refine gate_dst (N := 1) rfl ?_); (try (refine gate_guard (by rfl) ?_; dsimp only)); refine box_event ?hg (N := 1) ?hd (cs := #[.int .i64 a0_0, .string a0_1, .int .i64 a0_2, .int .i64 a0_3, .slice A0_4 l0_4.length c0_4, .slice A0_5 l0_5.length c0_5, .slice A0_6 l0_6.length c0_6, .slice A0_7 l0_7.length c0_7]) (t := 36) ?hr ?_; (case hd => rfl); (case hg => rfl); (case hr => first | (go_simp; done) | (go_simp; rfl)); intro gb401 hg w3 hbox hb; have n0_ := Aside0.mk (below_step (by repeat (first | (with_reducible first | exact HB.out | apply below_alloc | apply pw_below_drewN | apply below_drew1) | exact HB.out)) hb); have n1_ := Aside0.mk (hbox); have n2_ := Aside0.mk ((by rw [hg]; exact (below_size (by repeat (first | (with_reducible first | exact HB.out | apply below_alloc | apply pw_below_drewN | apply below_drew1) | exact HB.out))) : w.heap.size ≤ gb401)); have n3_ := Aside0.mk ((by rw [hg]; exact (below_size (by repeat (first | (with_reducible first | exact HB.out | apply below_alloc | apply pw_below_drewN | apply below_drew1) | exact HB.out))) : w.heap.size ≤ gb401)); clear HB; have HB := n0_; have BK401 := n1_; have GW401 := n2_; have GE401 := n3_; clear n0_ n1_ n2_ n3_; clear hb hbox hg; have hcz4_0 : w3.cell? ⟨gb401, 0, none⟩ = some (.int .i64 a0_0) := (blk_cell BK401.out 0).trans rfl; have hcz4_1 : w3.cell? ⟨gb401, 1, none⟩ = some (.string a0_1) := (blk_cell BK401.out 1).trans rfl; have hcz4_2 : w3.cell? ⟨gb401, 2, none⟩ = some (.int .i64 a0_2) := (blk_cell BK401.out 2).trans rfl; have hcz4_3 : w3.cell? ⟨gb401, 3, none⟩ = some (.int .i64 a0_3) := (blk_cell BK401.out 3).trans rfl; have hcz4_4 : w3.cell? ⟨gb401, 4, none⟩ = some (.slice A0_4 l0_4.length c0_4) := (blk_cell BK401.out 4).trans rfl; have hcz4_5 : w3.cell? ⟨gb401, 5, none⟩ = some (.slice A0_5 l0_5.length c0_5) := (blk_cell BK401.out 5).trans rfl; have hcz4_6 : w3.cell? ⟨gb401, 6, none⟩ = some (.slice A0_6 l0_6.length c0_6) := (blk_cell BK401.out 6).trans rfl; have hcz4_7 : w3.cell? ⟨gb401, 7, none⟩ = some (.slice A0_7 l0_7.length c0_7) := (blk_cell BK401.out 7).trans rfl; have hfz4_0 := blk_frozen BK401.out 0; have hfz4_1 := blk_frozen BK401.out 1; have hfz4_2 := blk_frozen BK401.out 2; have hfz4_3 := blk_frozen BK401.out 3; have hfz4_4 := blk_frozen BK401.out 4; have hfz4_5 := blk_frozen BK401.out 5; have hfz4_6 := blk_frozen BK401.out 6; have hfz4_7 := blk_frozen BK401.out 7)))
 (try simp only [Act.put, List.setIfInBounds_toArray, List.set_cons_zero, List.set_cons_succ])
 go_cut [] (fun wc => ∃ (kq : Nat), Aside0 (spec_l7Fields.j0 kq a0_0 a0_1 a0_2 a0_3 l0_4 l0_5 l0_6 l0_7 = some r) ∧ Aside0 (kq ≤ k) ∧ Aside0 (wc.heap[gb401]? = some (.cells #[.int .i64 a0_0, .string a0_1, .int .i64 a0_2, .int .i64 a0_3, (.slice A0_4 l0_4.length c0_4), (.slice A0_5 l0_5.length c0_5), (.slice A0_6 l0_6.length c0_6), (.slice A0_7 l0_7.length c0_7)] 36 (0, 0))) ∧ Aside0 (Below w.heap.size w wc))
 case first =>
  have H := HC2.out
  clear HC2
  by_cases c5 : a0_0 = 4
  ·rw [if_pos c5] at H
   have c5b0 : (a0_0 == 4) = true := beq_iff_eq.mpr c5
   have c5b1 : (a0_0 != 4) = false := bne_eq_false_iff_eq.mpr c5
   clear c5
   (first | rw [c5b0] | (simp only [i64_w, i32_w]; rw [c5b0]) | (rw [c5b1]; (try simp only [Bool.not_true, Bool.not_false])) | skip)
   replace H := Option.bind_eq_some_iff.mp H
   obtain ⟨t402, A60, H⟩ := H
   replace H : (if t402 = 0 then (some false) else (spec_l7Fields.j0 k a0_0 a0_1 a0_2 a0_3 l0_4 l0_5 l0_6 l0_7)) = some r := H
   have A6 := Aside0.mk A60
   clear A60
   have HC7 := Aside0.mk H
   clear H
   have hcz8_0 : w3.cell? ⟨gb401, 0, none⟩ = some (.int .i64 a0_0) := (blk_cell BK401.out 0).trans rfl
   have hcz8_1 : w3.cell? ⟨gb401, 1, none⟩ = some (.string a0_1) := (blk_cell BK401.out 1).trans rfl
   have hcz8_2 : w3.cell? ⟨gb401, 2, none⟩ = some (.int .i64 a0_2) := (blk_cell BK401.out 2).trans rfl
   have hcz8_3 : w3.cell? ⟨gb401, 3, none⟩ = some (.int .i64 a0_3) := (blk_cell BK401.out 3).trans rfl
   have hcz8_4 : w3.cell? ⟨gb401, 4, none⟩ = some (.slice A0_4 l0_4.length c0_4) := (blk_cell BK401.out 4).trans rfl
   have hcz8_5 : w3.cell? ⟨gb401, 5, none⟩ = some (.slice A0_5 l0_5.length c0_5) := (blk_cell BK401.out 5).trans rfl
   have hcz8_6 : w3.cell? ⟨gb401, 6, none⟩ = some (.slice A0_6 l0_6.length c0_6) := (blk_cell BK401.out 6).trans rfl
   have hcz8_7 : w3.cell? ⟨gb401, 7, none⟩ = some (.slice A0_7 l0_7.length c0_7) := (blk_cell BK401.out 7).trans rfl
   have hfz8_0 := blk_frozen BK401.out 0
   have hfz8_1 := blk_frozen BK401.out 1
   have hfz8_2 := blk_frozen BK401.out 2
   have hfz8_3 := blk_frozen BK401.out 3
   have hfz8_4 := blk_frozen BK401.out 4
   have hfz8_5 := blk_frozen BK401.out 5
   have hfz8_6 := blk_frozen BK401.out 6
   have hfz8_7 := blk_frozen BK401.out 7
   go_upto_if 11 with (first | (go_at_call 173; (with_reducible refine (spec_OpArity.calls k a0_1 t402 _ A6.out).mono ?_); rintro e w' ⟨rfl, ⟨nd, rfl⟩⟩; (try first | exact ⟨rfl, _, World.drewN_drewN _ _ _⟩ | exact ⟨rfl, _, Eq.trans (World.drewN_drewN _ _ _) (congrArg (World.drewN _) (Nat.add_assoc _ _ _))⟩)))
   repeat (go_quiet (first | (go_at_call 173; (with_reducible refine (spec_OpArity.calls k a0_1 t402 _ A6.out).mono ?_); rintro e w' ⟨rfl, ⟨nd, rfl⟩⟩; (try first | exact ⟨rfl, _, World.drewN_drewN _ _ _⟩ | exact ⟨rfl, _, Eq.trans (World.drewN_drewN _ _ _) (congrArg (World.drewN _) (Nat.add_assoc _ _ _))⟩))); try go_upto_if 11 with (first | (go_at_call 173; (with_reducible refine (spec_OpArity.calls k a0_1 t402 _ A6.out).mono ?_); rintro e w' ⟨rfl, ⟨nd, rfl⟩⟩; (try first | exact ⟨rfl, _, World.drewN_drewN _ _ _⟩ | exact ⟨rfl, _, Eq.trans (World.drewN_drewN _ _ _) (congrArg (World.drewN _) (Nat.add_assoc _ _ _))⟩))))
   have H := HC7.out
   clear HC7
   by_cases c9 : t402 = 0
   ·rw [if_pos c9] at H
    have c9b0 : (t402 == 0) = true := beq_iff_eq.mpr c9
    have c9b1 : (t402 != 0) = false := bne_eq_false_iff_eq.mpr c9
    clear c9
    (first | rw [c9b0] | (simp only [i64_w, i32_w]; rw [c9b0]) | (rw [c9b1]; (try simp only [Bool.not_true, Bool.not_false])) | skip)
    obtain rfl := Option.some.inj H
    go_wp2
    repeat (go_quiet (fail); try go_wp2)
    go_ret
    exact ⟨by first | rfl | (simp [errW_none, errW_some] <;> rfl) | (simp [*, errW_none, errW_some] <;> rfl), by repeat (first | (with_reducible first | exact HB.out | apply below_alloc | apply pw_below_drewN | apply below_drew1 | refine below_set ?_ GE401.out) | exact HB.out)⟩
   ·rw [if_neg c9] at H
    have c9b0 : (t402 == 0) = false := beq_eq_false_iff_ne.mpr c9
    have c9b1 : (t402 != 0) = true := bne_iff_ne.mpr c9
    (first | rw [c9b0] | (simp only [i64_w, i32_w]; rw [c9b0]) | (rw [c9b1]; (try simp only [Bool.not_true, Bool.not_false])) | skip)
    have H' := Aside0.mk H
    clear H
    go_wp2
    repeat (go_quiet (fail); try go_wp2)
    go_meet
    case rel => exact ⟨_, H', ⟨by first | omega | exact Nat.le_refl _⟩, ⟨by (with_reducible repeat (first | refine blk_drewN ?_ _ | refine blk_drew ?_ | refine blk_alloc ?_ _)); exact BK401.out⟩, ⟨by repeat (first | (with_reducible first | exact HB.out | apply below_alloc | apply pw_below_drewN | apply below_drew1 | refine below_set ?_ GE401.out) | exact HB.out)⟩⟩
  ·rw [if_neg c5] at H
   have c5b0 : (a0_0 == 4) = false := beq_eq_false_iff_ne.mpr c5
   have c5b1 : (a0_0 != 4) = true := bne_iff_ne.mpr c5
   (first | rw [c5b0] | (simp only [i64_w, i32_w]; rw [c5b0]) | (rw [c5b1]; (try simp only [Bool.not_true, Bool.not_false])) | skip)
   replace H := Option.bind_eq_some_iff.mp H
   obtain ⟨t403, A100, H⟩ := H
   replace H : ((spec_IsName.f k a0_1).bind fun t404 => (if t403 = true then (if t404 = true then (spec_l7Fields.j0 k a0_0 a0_1 a0_2 a0_3 l0_4 l0_5 l0_6 l0_7) else (some false)) else (if t404 = true then (some false) else (if a0_1.toList = ([] : List UInt8) then (spec_l7Fields.j0 k a0_0 a0_1 a0_2 a0_3 l0_4 l0_5 l0_6 l0_7) else (some false))))) = some r := H
   have A10 := Aside0.mk A100
   clear A100
   replace H := Option.bind_eq_some_iff.mp H
   obtain ⟨t404, A110, H⟩ := H
   replace H : (if t403 = true then (if t404 = true then (spec_l7Fields.j0 k a0_0 a0_1 a0_2 a0_3 l0_4 l0_5 l0_6 l0_7) else (some false)) else (if t404 = true then (some false) else (if a0_1.toList = ([] : List UInt8) then (spec_l7Fields.j0 k a0_0 a0_1 a0_2 a0_3 l0_4 l0_5 l0_6 l0_7) else (some false)))) = some r := H
   have A11 := Aside0.mk A110
   clear A110
   by_cases c12 : t403 = true
   ·subst c12
    have H1 : (if t404 = true then (spec_l7Fields.j0 k a0_0 a0_1 a0_2 a0_3 l0_4 l0_5 l0_6 l0_7) else (some false)) = some r := by rw [if_pos rfl] at H; exact H
    clear H
    have H := H1
    clear H1
    by_cases c13 : t404 = true
    ·subst c13
     have H1 : (spec_l7Fields.j0 k a0_0 a0_1 a0_2 a0_3 l0_4 l0_5 l0_6 l0_7) = some r := by rw [if_pos rfl] at H; exact H
     clear H
     have H := H1
     clear H1
     have H' := Aside0.mk H
     clear H
     have hcz14_0 : w3.cell? ⟨gb401, 0, none⟩ = some (.int .i64 a0_0) := (blk_cell BK401.out 0).trans rfl
     have hcz14_1 : w3.cell? ⟨gb401, 1, none⟩ = some (.string a0_1) := (blk_cell BK401.out 1).trans rfl
     have hcz14_2 : w3.cell? ⟨gb401, 2, none⟩ = some (.int .i64 a0_2) := (blk_cell BK401.out 2).trans rfl
     have hcz14_3 : w3.cell? ⟨gb401, 3, none⟩ = some (.int .i64 a0_3) := (blk_cell BK401.out 3).trans rfl
     have hcz14_4 : w3.cell? ⟨gb401, 4, none⟩ = some (.slice A0_4 l0_4.length c0_4) := (blk_cell BK401.out 4).trans rfl
     have hcz14_5 : w3.cell? ⟨gb401, 5, none⟩ = some (.slice A0_5 l0_5.length c0_5) := (blk_cell BK401.out 5).trans rfl
     have hcz14_6 : w3.cell? ⟨gb401, 6, none⟩ = some (.slice A0_6 l0_6.length c0_6) := (blk_cell BK401.out 6).trans rfl
     have hcz14_7 : w3.cell? ⟨gb401, 7, none⟩ = some (.slice A0_7 l0_7.length c0_7) := (blk_cell BK401.out 7).trans rfl
     have hfz14_0 := blk_frozen BK401.out 0
     have hfz14_1 := blk_frozen BK401.out 1
     have hfz14_2 := blk_frozen BK401.out 2
     have hfz14_3 := blk_frozen BK401.out 3
     have hfz14_4 := blk_frozen BK401.out 4
     have hfz14_5 := blk_frozen BK401.out 5
     have hfz14_6 := blk_frozen BK401.out 6
     have hfz14_7 := blk_frozen BK401.out 7
     go_wp2_with (first | (go_at_call 174; (with_reducible refine (spec_l7Named.calls a0_0 true _ A10.out).mono ?_); rintro e w' ⟨rfl, ⟨nd, rfl⟩⟩; (try first | exact ⟨rfl, _, World.drewN_drewN _ _ _⟩ | exact ⟨rfl, _, Eq.trans (World.drewN_drewN _ _ _) (congrArg (World.drewN _) (Nat.add_assoc _ _ _))⟩)) | (go_at_call 87; (with_reducible refine (spec_IsName.calls k a0_1 true _ A11.out).mono ?_); rintro e w' ⟨rfl, ⟨nd, rfl⟩⟩; (try first | exact ⟨rfl, _, World.drewN_drewN _ _ _⟩ | exact ⟨rfl, _, Eq.trans (World.drewN_drewN _ _ _) (congrArg (World.drewN _) (Nat.add_assoc _ _ _))⟩)))
     repeat (go_quiet (first | (go_at_call 174; (with_reducible refine (spec_l7Named.calls a0_0 true _ A10.out).mono ?_); rintro e w' ⟨rfl, ⟨nd, rfl⟩⟩; (try first | exact ⟨rfl, _, World.drewN_drewN _ _ _⟩ | exact ⟨rfl, _, Eq.trans (World.drewN_drewN _ _ _) (congrArg (World.drewN _) (Nat.add_assoc _ _ _))⟩)) | (go_at_call 87; (with_reducible refine (spec_IsName.calls k a0_1 true _ A11.out).mono ?_); rintro e w' ⟨rfl, ⟨nd, rfl⟩⟩; (try first | exact ⟨rfl, _, World.drewN_drewN _ _ _⟩ | exact ⟨rfl, _, Eq.trans (World.drewN_drewN _ _ _) (congrArg (World.drewN _) (Nat.add_assoc _ _ _))⟩))); try go_wp2_with (first | (go_at_call 174; (with_reducible refine (spec_l7Named.calls a0_0 true _ A10.out).mono ?_); rintro e w' ⟨rfl, ⟨nd, rfl⟩⟩; (try first | exact ⟨rfl, _, World.drewN_drewN _ _ _⟩ | exact ⟨rfl, _, Eq.trans (World.drewN_drewN _ _ _) (congrArg (World.drewN _) (Nat.add_assoc _ _ _))⟩)) | (go_at_call 87; (with_reducible refine (spec_IsName.calls k a0_1 true _ A11.out).mono ?_); rintro e w' ⟨rfl, ⟨nd, rfl⟩⟩; (try first | exact ⟨rfl, _, World.drewN_drewN _ _ _⟩ | exact ⟨rfl, _, Eq.trans (World.drewN_drewN _ _ _) (congrArg (World.drewN _) (Nat.add_assoc _ _ _))⟩))))
     go_meet
     case rel => exact ⟨_, H', ⟨by first | omega | exact Nat.le_refl _⟩, ⟨by (with_reducible repeat (first | refine blk_drewN ?_ _ | refine blk_drew ?_ | refine blk_alloc ?_ _)); exact BK401.out⟩, ⟨by repeat (first | (with_reducible first | exact HB.out | apply below_alloc | apply pw_below_drewN | apply below_drew1 | refine below_set ?_ GE401.out) | exact HB.out)⟩⟩
    ·replace c13 := Bool.eq_false_iff.mpr c13
     subst c13
     have H1 : (some false) = some r := by rw [if_neg (show ¬ (false = true) by decide)] at H; exact H
     clear H
     have H := H1
     clear H1
     obtain rfl := Option.some.inj H
     have hcz15_0 : w3.cell? ⟨gb401, 0, none⟩ = some (.int .i64 a0_0) := (blk_cell BK401.out 0).trans rfl
     have hcz15_1 : w3.cell? ⟨gb401, 1, none⟩ = some (.string a0_1) := (blk_cell BK401.out 1).trans rfl
     have hcz15_2 : w3.cell? ⟨gb401, 2, none⟩ = some (.int .i64 a0_2) := (blk_cell BK401.out 2).trans rfl
     have hcz15_3 : w3.cell? ⟨gb401, 3, none⟩ = some (.int .i64 a0_3) := (blk_cell BK401.out 3).trans rfl
     have hcz15_4 : w3.cell? ⟨gb401, 4, none⟩ = some (.slice A0_4 l0_4.length c0_4) := (blk_cell BK401.out 4).trans rfl
     have hcz15_5 : w3.cell? ⟨gb401, 5, none⟩ = some (.slice A0_5 l0_5.length c0_5) := (blk_cell BK401.out 5).trans rfl
     have hcz15_6 : w3.cell? ⟨gb401, 6, none⟩ = some (.slice A0_6 l0_6.length c0_6) := (blk_cell BK401.out 6).trans rfl
     have hcz15_7 : w3.cell? ⟨gb401, 7, none⟩ = some (.slice A0_7 l0_7.length c0_7) := (blk_cell BK401.out 7).trans rfl
     have hfz15_0 := blk_frozen BK401.out 0
     have hfz15_1 := blk_frozen BK401.out 1
     have hfz15_2 := blk_frozen BK401.out 2
     have hfz15_3 := blk_frozen BK401.out 3
     have hfz15_4 := blk_frozen BK401.out 4
     have hfz15_5 := blk_frozen BK401.out 5
     have hfz15_6 := blk_frozen BK401.out 6
     have hfz15_7 := blk_frozen BK401.out 7
     go_wp2_with (first | (go_at_call 174; (with_reducible refine (spec_l7Named.calls a0_0 true _ A10.out).mono ?_); rintro e w' ⟨rfl, ⟨nd, rfl⟩⟩; (try first | exact ⟨rfl, _, World.drewN_drewN _ _ _⟩ | exact ⟨rfl, _, Eq.trans (World.drewN_drewN _ _ _) (congrArg (World.drewN _) (Nat.add_assoc _ _ _))⟩)) | (go_at_call 87; (with_reducible refine (spec_IsName.calls k a0_1 false _ A11.out).mono ?_); rintro e w' ⟨rfl, ⟨nd, rfl⟩⟩; (try first | exact ⟨rfl, _, World.drewN_drewN _ _ _⟩ | exact ⟨rfl, _, Eq.trans (World.drewN_drewN _ _ _) (congrArg (World.drewN _) (Nat.add_assoc _ _ _))⟩)))
     repeat (go_quiet (first | (go_at_call 174; (with_reducible refine (spec_l7Named.calls a0_0 true _ A10.out).mono ?_); rintro e w' ⟨rfl, ⟨nd, rfl⟩⟩; (try first | exact ⟨rfl, _, World.drewN_drewN _ _ _⟩ | exact ⟨rfl, _, Eq.trans (World.drewN_drewN _ _ _) (congrArg (World.drewN _) (Nat.add_assoc _ _ _))⟩)) | (go_at_call 87; (with_reducible refine (spec_IsName.calls k a0_1 false _ A11.out).mono ?_); rintro e w' ⟨rfl, ⟨nd, rfl⟩⟩; (try first | exact ⟨rfl, _, World.drewN_drewN _ _ _⟩ | exact ⟨rfl, _, Eq.trans (World.drewN_drewN _ _ _) (congrArg (World.drewN _) (Nat.add_assoc _ _ _))⟩))); try go_wp2_with (first | (go_at_call 174; (with_reducible refine (spec_l7Named.calls a0_0 true _ A10.out).mono ?_); rintro e w' ⟨rfl, ⟨nd, rfl⟩⟩; (try first | exact ⟨rfl, _, World.drewN_drewN _ _ _⟩ | exact ⟨rfl, _, Eq.trans (World.drewN_drewN _ _ _) (congrArg (World.drewN _) (Nat.add_assoc _ _ _))⟩)) | (go_at_call 87; (with_reducible refine (spec_IsName.calls k a0_1 false _ A11.out).mono ?_); rintro e w' ⟨rfl, ⟨nd, rfl⟩⟩; (try first | exact ⟨rfl, _, World.drewN_drewN _ _ _⟩ | exact ⟨rfl, _, Eq.trans (World.drewN_drewN _ _ _) (congrArg (World.drewN _) (Nat.add_assoc _ _ _))⟩))))
     go_ret
     exact ⟨by first | rfl | (simp [errW_none, errW_some] <;> rfl) | (simp [*, errW_none, errW_some] <;> rfl), by repeat (first | (with_reducible first | exact HB.out | apply below_alloc | apply pw_below_drewN | apply below_drew1 | refine below_set ?_ GE401.out) | exact HB.out)⟩
   ·replace c12 := Bool.eq_false_iff.mpr c12
    subst c12
    have H1 : (if t404 = true then (some false) else (if a0_1.toList = ([] : List UInt8) then (spec_l7Fields.j0 k a0_0 a0_1 a0_2 a0_3 l0_4 l0_5 l0_6 l0_7) else (some false))) = some r := by rw [if_neg (show ¬ (false = true) by decide)] at H; exact H
    clear H
    have H := H1
    clear H1
    by_cases c16 : t404 = true
    ·subst c16
     have H1 : (some false) = some r := by rw [if_pos rfl] at H; exact H
     clear H
     have H := H1
     clear H1
     obtain rfl := Option.some.inj H
     have hcz17_0 : w3.cell? ⟨gb401, 0, none⟩ = some (.int .i64 a0_0) := (blk_cell BK401.out 0).trans rfl
     have hcz17_1 : w3.cell? ⟨gb401, 1, none⟩ = some (.string a0_1) := (blk_cell BK401.out 1).trans rfl
     have hcz17_2 : w3.cell? ⟨gb401, 2, none⟩ = some (.int .i64 a0_2) := (blk_cell BK401.out 2).trans rfl
     have hcz17_3 : w3.cell? ⟨gb401, 3, none⟩ = some (.int .i64 a0_3) := (blk_cell BK401.out 3).trans rfl
     have hcz17_4 : w3.cell? ⟨gb401, 4, none⟩ = some (.slice A0_4 l0_4.length c0_4) := (blk_cell BK401.out 4).trans rfl
     have hcz17_5 : w3.cell? ⟨gb401, 5, none⟩ = some (.slice A0_5 l0_5.length c0_5) := (blk_cell BK401.out 5).trans rfl
     have hcz17_6 : w3.cell? ⟨gb401, 6, none⟩ = some (.slice A0_6 l0_6.length c0_6) := (blk_cell BK401.out 6).trans rfl
     have hcz17_7 : w3.cell? ⟨gb401, 7, none⟩ = some (.slice A0_7 l0_7.length c0_7) := (blk_cell BK401.out 7).trans rfl
     have hfz17_0 := blk_frozen BK401.out 0
     have hfz17_1 := blk_frozen BK401.out 1
     have hfz17_2 := blk_frozen BK401.out 2
     have hfz17_3 := blk_frozen BK401.out 3
     have hfz17_4 := blk_frozen BK401.out 4
     have hfz17_5 := blk_frozen BK401.out 5
     have hfz17_6 := blk_frozen BK401.out 6
     have hfz17_7 := blk_frozen BK401.out 7
     go_wp2_with (first | (go_at_call 174; (with_reducible refine (spec_l7Named.calls a0_0 false _ A10.out).mono ?_); rintro e w' ⟨rfl, ⟨nd, rfl⟩⟩; (try first | exact ⟨rfl, _, World.drewN_drewN _ _ _⟩ | exact ⟨rfl, _, Eq.trans (World.drewN_drewN _ _ _) (congrArg (World.drewN _) (Nat.add_assoc _ _ _))⟩)) | (go_at_call 87; (with_reducible refine (spec_IsName.calls k a0_1 true _ A11.out).mono ?_); rintro e w' ⟨rfl, ⟨nd, rfl⟩⟩; (try first | exact ⟨rfl, _, World.drewN_drewN _ _ _⟩ | exact ⟨rfl, _, Eq.trans (World.drewN_drewN _ _ _) (congrArg (World.drewN _) (Nat.add_assoc _ _ _))⟩)))
     repeat (go_quiet (first | (go_at_call 174; (with_reducible refine (spec_l7Named.calls a0_0 false _ A10.out).mono ?_); rintro e w' ⟨rfl, ⟨nd, rfl⟩⟩; (try first | exact ⟨rfl, _, World.drewN_drewN _ _ _⟩ | exact ⟨rfl, _, Eq.trans (World.drewN_drewN _ _ _) (congrArg (World.drewN _) (Nat.add_assoc _ _ _))⟩)) | (go_at_call 87; (with_reducible refine (spec_IsName.calls k a0_1 true _ A11.out).mono ?_); rintro e w' ⟨rfl, ⟨nd, rfl⟩⟩; (try first | exact ⟨rfl, _, World.drewN_drewN _ _ _⟩ | exact ⟨rfl, _, Eq.trans (World.drewN_drewN _ _ _) (congrArg (World.drewN _) (Nat.add_assoc _ _ _))⟩))); try go_wp2_with (first | (go_at_call 174; (with_reducible refine (spec_l7Named.calls a0_0 false _ A10.out).mono ?_); rintro e w' ⟨rfl, ⟨nd, rfl⟩⟩; (try first | exact ⟨rfl, _, World.drewN_drewN _ _ _⟩ | exact ⟨rfl, _, Eq.trans (World.drewN_drewN _ _ _) (congrArg (World.drewN _) (Nat.add_assoc _ _ _))⟩)) | (go_at_call 87; (with_reducible refine (spec_IsName.calls k a0_1 true _ A11.out).mono ?_); rintro e w' ⟨rfl, ⟨nd, rfl⟩⟩; (try first | exact ⟨rfl, _, World.drewN_drewN _ _ _⟩ | exact ⟨rfl, _, Eq.trans (World.drewN_drewN _ _ _) (congrArg (World.drewN _) (Nat.add_assoc _ _ _))⟩))))
     go_ret
     exact ⟨by first | rfl | (simp [errW_none, errW_some] <;> rfl) | (simp [*, errW_none, errW_some] <;> rfl), by repeat (first | (with_reducible first | exact HB.out | apply below_alloc | apply pw_below_drewN | apply below_drew1 | refine below_set ?_ GE401.out) | exact HB.out)⟩
    ·replace c16 := Bool.eq_false_iff.mpr c16
     subst c16
     have H1 : (if a0_1.toList = ([] : List UInt8) then (spec_l7Fields.j0 k a0_0 a0_1 a0_2 a0_3 l0_4 l0_5 l0_6 l0_7) else (some false)) = some r := by rw [if_neg (show ¬ (false = true) by decide)] at H; exact H
     clear H
     have H := H1
     clear H1
     have HC18 := Aside0.mk H
     clear H
     have hcz19_0 : w3.cell? ⟨gb401, 0, none⟩ = some (.int .i64 a0_0) := (blk_cell BK401.out 0).trans rfl
     have hcz19_1 : w3.cell? ⟨gb401, 1, none⟩ = some (.string a0_1) := (blk_cell BK401.out 1).trans rfl
     have hcz19_2 : w3.cell? ⟨gb401, 2, none⟩ = some (.int .i64 a0_2) := (blk_cell BK401.out 2).trans rfl
     have hcz19_3 : w3.cell? ⟨gb401, 3, none⟩ = some (.int .i64 a0_3) := (blk_cell BK401.out 3).trans rfl
     have hcz19_4 : w3.cell? ⟨gb401, 4, none⟩ = some (.slice A0_4 l0_4.length c0_4) := (blk_cell BK401.out 4).trans rfl
     have hcz19_5 : w3.cell? ⟨gb401, 5, none⟩ = some (.slice A0_5 l0_5.length c0_5) := (blk_cell BK401.out 5).trans rfl
     have hcz19_6 : w3.cell? ⟨gb401, 6, none⟩ = some (.slice A0_6 l0_6.length c0_6) := (blk_cell BK401.out 6).trans rfl
     have hcz19_7 : w3.cell? ⟨gb401, 7, none⟩ = some (.slice A0_7 l0_7.length c0_7) := (blk_cell BK401.out 7).trans rfl
     have hfz19_0 := blk_frozen BK401.out 0
     have hfz19_1 := blk_frozen BK401.out 1
     have hfz19_2 := blk_frozen BK401.out 2
     have hfz19_3 := blk_frozen BK401.out 3
     have hfz19_4 := blk_frozen BK401.out 4
     have hfz19_5 := blk_frozen BK401.out 5
     have hfz19_6 := blk_frozen BK401.out 6
     have hfz19_7 := blk_frozen BK401.out 7
     go_upto_if 29 with (first | (go_at_call 174; (with_reducible refine (spec_l7Named.calls a0_0 false _ A10.out).mono ?_); rintro e w' ⟨rfl, ⟨nd, rfl⟩⟩; (try first | exact ⟨rfl, _, World.drewN_drewN _ _ _⟩ | exact ⟨rfl, _, Eq.trans (World.drewN_drewN _ _ _) (congrArg (World.drewN _) (Nat.add_assoc _ _ _))⟩)) | (go_at_call 87; (with_reducible refine (spec_IsName.calls k a0_1 false _ A11.out).mono ?_); rintro e w' ⟨rfl, ⟨nd, rfl⟩⟩; (try first | exact ⟨rfl, _, World.drewN_drewN _ _ _⟩ | exact ⟨rfl, _, Eq.trans (World.drewN_drewN _ _ _) (congrArg (World.drewN _) (Nat.add_assoc _ _ _))⟩)))
     repeat (go_quiet (first | (go_at_call 174; (with_reducible refine (spec_l7Named.calls a0_0 false _ A10.out).mono ?_); rintro e w' ⟨rfl, ⟨nd, rfl⟩⟩; (try first | exact ⟨rfl, _, World.drewN_drewN _ _ _⟩ | exact ⟨rfl, _, Eq.trans (World.drewN_drewN _ _ _) (congrArg (World.drewN _) (Nat.add_assoc _ _ _))⟩)) | (go_at_call 87; (with_reducible refine (spec_IsName.calls k a0_1 false _ A11.out).mono ?_); rintro e w' ⟨rfl, ⟨nd, rfl⟩⟩; (try first | exact ⟨rfl, _, World.drewN_drewN _ _ _⟩ | exact ⟨rfl, _, Eq.trans (World.drewN_drewN _ _ _) (congrArg (World.drewN _) (Nat.add_assoc _ _ _))⟩))); try go_upto_if 29 with (first | (go_at_call 174; (with_reducible refine (spec_l7Named.calls a0_0 false _ A10.out).mono ?_); rintro e w' ⟨rfl, ⟨nd, rfl⟩⟩; (try first | exact ⟨rfl, _, World.drewN_drewN _ _ _⟩ | exact ⟨rfl, _, Eq.trans (World.drewN_drewN _ _ _) (congrArg (World.drewN _) (Nat.add_assoc _ _ _))⟩)) | (go_at_call 87; (with_reducible refine (spec_IsName.calls k a0_1 false _ A11.out).mono ?_); rintro e w' ⟨rfl, ⟨nd, rfl⟩⟩; (try first | exact ⟨rfl, _, World.drewN_drewN _ _ _⟩ | exact ⟨rfl, _, Eq.trans (World.drewN_drewN _ _ _) (congrArg (World.drewN _) (Nat.add_assoc _ _ _))⟩))))
     have H := HC18.out
     clear HC18
     by_cases c20 : a0_1.toList = ([] : List UInt8)
     ·rw [if_pos c20] at H
      have c20b0 : (a0_1.toList == ([] : List UInt8)) = true := beq_iff_eq.mpr c20
      have c20e0 : (a0_1.toList).isEmpty = true := by rw [c20]; rfl
      have c20b1 : (a0_1.toList != ([] : List UInt8)) = false := bne_eq_false_iff_eq.mpr c20
      clear c20
      (first | rw [c20b0] | (simp only [i64_w, i32_w]; rw [c20b0]) | (rw [c20b1]; (try simp only [Bool.not_true, Bool.not_false])) | (rw [c20e0]; (try simp only [Bool.not_true, Bool.not_false])) | skip)
      have H' := Aside0.mk H
      clear H
      go_wp2
      repeat (go_quiet (fail); try go_wp2)
      go_meet
      case rel => exact ⟨_, H', ⟨by first | omega | exact Nat.le_refl _⟩, ⟨by (with_reducible repeat (first | refine blk_drewN ?_ _ | refine blk_drew ?_ | refine blk_alloc ?_ _)); exact BK401.out⟩, ⟨by repeat (first | (with_reducible first | exact HB.out | apply below_alloc | apply pw_below_drewN | apply below_drew1 | refine below_set ?_ GE401.out) | exact HB.out)⟩⟩
     ·rw [if_neg c20] at H
      have c20b0 : (a0_1.toList == ([] : List UInt8)) = false := beq_eq_false_iff_ne.mpr c20
      have c20e0 : (a0_1.toList).isEmpty = false := by cases h_ : a0_1.toList with | nil => exact absurd h_ c20 | cons _ _ => rfl
      have c20b1 : (a0_1.toList != ([] : List UInt8)) = true := bne_iff_ne.mpr c20
      (first | rw [c20b0] | (simp only [i64_w, i32_w]; rw [c20b0]) | (rw [c20b1]; (try simp only [Bool.not_true, Bool.not_false])) | (rw [c20e0]; (try simp only [Bool.not_true, Bool.not_false])) | skip)
      obtain rfl := Option.some.inj H
      go_wp2
      repeat (go_quiet (fail); try go_wp2)
      go_ret
      exact ⟨by first | rfl | (simp [errW_none, errW_some] <;> rfl) | (simp [*, errW_none, errW_some] <;> rfl), by repeat (first | (with_reducible first | exact HB.out | apply below_alloc | apply pw_below_drewN | apply below_drew1 | refine below_set ?_ GE401.out) | exact HB.out)⟩
 case rest =>
  clear HC2
  (try clear c1); (try clear c2); (try clear p2); (try clear c5); (try clear c5b0); (try clear c5b1); (try clear c9); (try clear c9b0); (try clear c9b1); (try clear c12); (try clear c13); (try clear c15); (try clear c16); (try clear c20); (try clear c20b0); (try clear c20b1); (try clear hcz14_0); (try clear hcz14_1); (try clear hcz14_2); (try clear hcz14_3); (try clear hcz14_4); (try clear hcz14_5); (try clear hcz14_6); (try clear hcz14_7); (try clear hcz15_0); (try clear hcz15_1); (try clear hcz15_2); (try clear hcz15_3); (try clear hcz15_4); (try clear hcz15_5); (try clear hcz15_6); (try clear hcz15_7); (try clear hcz17_0); (try clear hcz17_1); (try clear hcz17_2); (try clear hcz17_3); (try clear hcz17_4); (try clear hcz17_5); (try clear hcz17_6); (try clear hcz17_7); (try clear hcz19_0); (try clear hcz19_1); (try clear hcz19_2); (try clear hcz19_3); (try clear hcz19_4); (try clear hcz19_5); (try clear hcz19_6); (try clear hcz19_7); (try clear hcz4_0); (try clear hcz4_1); (try clear hcz4_2); (try clear hcz4_3); (try clear hcz4_4); (try clear hcz4_5); (try clear hcz4_6); (try clear hcz4_7); (try clear hcz8_0); (try clear hcz8_1); (try clear hcz8_2); (try clear hcz8_3); (try clear hcz8_4); (try clear hcz8_5); (try clear hcz8_6); (try clear hcz8_7); (try clear hfz14_0); (try clear hfz14_1); (try clear hfz14_2); (try clear hfz14_3); (try clear hfz14_4); (try clear hfz14_5); (try clear hfz14_6); (try clear hfz14_7); (try clear hfz15_0); (try clear hfz15_1); (try clear hfz15_2); (try clear hfz15_3); (try clear hfz15_4); (try clear hfz15_5); (try clear hfz15_6); (try clear hfz15_7); (try clear hfz17_0); (try clear hfz17_1); (try clear hfz17_2); (try clear hfz17_3); (try clear hfz17_4); (try clear hfz17_5); (try clear hfz17_6); (try clear hfz17_7); (try clear hfz19_0); (try clear hfz19_1); (try clear hfz19_2); (try clear hfz19_3); (try clear hfz19_4); (try clear hfz19_5); (try clear hfz19_6); (try clear hfz19_7); (try clear hfz4_0); (try clear hfz4_1); (try clear hfz4_2); (try clear hfz4_3); (try clear hfz4_4); (try clear hfz4_5); (try clear hfz4_6); (try clear hfz4_7); (try clear hfz8_0); (try clear hfz8_1); (try clear hfz8_2); (try clear hfz8_3); (try clear hfz8_4); (try clear hfz8_5); (try clear hfz8_6); (try clear hfz8_7)
  obtain ⟨kq, HA, HJ1, BK401, HB⟩ := hcut
  cases kq with
  | zero => exact absurd HA.out (by simp [spec_l7Fields.j0])
  | succ kj1 =>
   have H := HA.out
   clear HA
   simp only [spec_l7Fields.j0] at H
   have HC21 := Aside0.mk H
   clear H
   go_upto_region 6 with (fail)
   repeat (go_quiet (fail); go_upto_region 6 with (fail))
   go_cut [3] (fun v3 wc => ∃ (kq : Nat) (x3_20 : Bool), v3 = .bool x3_20 ∧ Aside0 (spec_l7Fields.j1 kq x3_20 a0_0 a0_1 a0_2 a0_3 l0_4 l0_5 l0_6 l0_7 = some r) ∧ Aside0 (kq ≤ kj1) ∧ Aside0 (wc.heap[gb401]? = some (.cells #[.int .i64 a0_0, .string a0_1, .int .i64 a0_2, .int .i64 a0_3, (.slice A0_4 l0_4.length c0_4), (.slice A0_5 l0_5.length c0_5), (.slice A0_6 l0_6.length c0_6), (.slice A0_7 l0_7.length c0_7)] 36 (0, 0))) ∧ Aside0 (Below w.heap.size w wc))
   case first =>
    have H := HC21.out
    clear HC21
    by_cases c22 : a0_0 = 7
    ·rw [if_pos c22] at H
     have c22b0 : (a0_0 == 7) = true := beq_iff_eq.mpr c22
     have c22b1 : (a0_0 != 7) = false := bne_eq_false_iff_eq.mpr c22
     clear c22
     (first | rw [c22b0] | (simp only [i64_w, i32_w]; rw [c22b0]) | (rw [c22b1]; (try simp only [Bool.not_true, Bool.not_false])) | skip)
     have H' := Aside0.mk H
     clear H
     have hcz23_0 : wc.cell? ⟨gb401, 0, none⟩ = some (.int .i64 a0_0) := (blk_cell BK401.out 0).trans rfl
     have hcz23_1 : wc.cell? ⟨gb401, 1, none⟩ = some (.string a0_1) := (blk_cell BK401.out 1).trans rfl
     have hcz23_2 : wc.cell? ⟨gb401, 2, none⟩ = some (.int .i64 a0_2) := (blk_cell BK401.out 2).trans rfl
     have hcz23_3 : wc.cell? ⟨gb401, 3, none⟩ = some (.int .i64 a0_3) := (blk_cell BK401.out 3).trans rfl
     have hcz23_4 : wc.cell? ⟨gb401, 4, none⟩ = some (.slice A0_4 l0_4.length c0_4) := (blk_cell BK401.out 4).trans rfl
     have hcz23_5 : wc.cell? ⟨gb401, 5, none⟩ = some (.slice A0_5 l0_5.length c0_5) := (blk_cell BK401.out 5).trans rfl
     have hcz23_6 : wc.cell? ⟨gb401, 6, none⟩ = some (.slice A0_6 l0_6.length c0_6) := (blk_cell BK401.out 6).trans rfl
     have hcz23_7 : wc.cell? ⟨gb401, 7, none⟩ = some (.slice A0_7 l0_7.length c0_7) := (blk_cell BK401.out 7).trans rfl
     have hfz23_0 := blk_frozen BK401.out 0
     have hfz23_1 := blk_frozen BK401.out 1
     have hfz23_2 := blk_frozen BK401.out 2
     have hfz23_3 := blk_frozen BK401.out 3
     have hfz23_4 := blk_frozen BK401.out 4
     have hfz23_5 := blk_frozen BK401.out 5
     have hfz23_6 := blk_frozen BK401.out 6
     have hfz23_7 := blk_frozen BK401.out 7
     go_wp2
     repeat (go_quiet (fail); try go_wp2)
     go_meet
     case rel => exact ⟨_, (true), (by first | rfl | (simp; done) | (simp [i64_w, i32_w]; done) | (simp [*]; done)), H', ⟨by have := HJ1.out; first | omega | exact Nat.le_refl _⟩, ⟨by (with_reducible repeat (first | refine blk_drewN ?_ _ | refine blk_drew ?_ | refine blk_alloc ?_ _)); exact BK401.out⟩, ⟨by repeat (first | (with_reducible first | exact HB.out | apply below_alloc | apply pw_below_drewN | apply below_drew1 | refine below_set ?_ GE401.out) | exact HB.out)⟩⟩
    ·rw [if_neg c22] at H
     have c22b0 : (a0_0 == 7) = false := beq_eq_false_iff_ne.mpr c22
     have c22b1 : (a0_0 != 7) = true := bne_iff_ne.mpr c22
     (first | rw [c22b0] | (simp only [i64_w, i32_w]; rw [c22b0]) | (rw [c22b1]; (try simp only [Bool.not_true, Bool.not_false])) | skip)
     have H' := Aside0.mk H
     clear H
     have hcz24_0 : wc.cell? ⟨gb401, 0, none⟩ = some (.int .i64 a0_0) := (blk_cell BK401.out 0).trans rfl
     have hcz24_1 : wc.cell? ⟨gb401, 1, none⟩ = some (.string a0_1) := (blk_cell BK401.out 1).trans rfl
     have hcz24_2 : wc.cell? ⟨gb401, 2, none⟩ = some (.int .i64 a0_2) := (blk_cell BK401.out 2).trans rfl
     have hcz24_3 : wc.cell? ⟨gb401, 3, none⟩ = some (.int .i64 a0_3) := (blk_cell BK401.out 3).trans rfl
     have hcz24_4 : wc.cell? ⟨gb401, 4, none⟩ = some (.slice A0_4 l0_4.length c0_4) := (blk_cell BK401.out 4).trans rfl
     have hcz24_5 : wc.cell? ⟨gb401, 5, none⟩ = some (.slice A0_5 l0_5.length c0_5) := (blk_cell BK401.out 5).trans rfl
     have hcz24_6 : wc.cell? ⟨gb401, 6, none⟩ = some (.slice A0_6 l0_6.length c0_6) := (blk_cell BK401.out 6).trans rfl
     have hcz24_7 : wc.cell? ⟨gb401, 7, none⟩ = some (.slice A0_7 l0_7.length c0_7) := (blk_cell BK401.out 7).trans rfl
     have hfz24_0 := blk_frozen BK401.out 0
     have hfz24_1 := blk_frozen BK401.out 1
     have hfz24_2 := blk_frozen BK401.out 2
     have hfz24_3 := blk_frozen BK401.out 3
     have hfz24_4 := blk_frozen BK401.out 4
     have hfz24_5 := blk_frozen BK401.out 5
     have hfz24_6 := blk_frozen BK401.out 6
     have hfz24_7 := blk_frozen BK401.out 7
     go_wp2
     repeat (go_quiet (fail); try go_wp2)
     go_meet
     case rel => exact ⟨_, ((a0_0 == 13)), (by first | rfl | (simp; done) | (simp [i64_w, i32_w]; done) | (simp [*]; done)), H', ⟨by have := HJ1.out; first | omega | exact Nat.le_refl _⟩, ⟨by (with_reducible repeat (first | refine blk_drewN ?_ _ | refine blk_drew ?_ | refine blk_alloc ?_ _)); exact BK401.out⟩, ⟨by repeat (first | (with_reducible first | exact HB.out | apply below_alloc | apply pw_below_drewN | apply below_drew1 | refine below_set ?_ GE401.out) | exact HB.out)⟩⟩
   case rest =>
    clear HC21
    (try clear c1); (try clear c2); (try clear p2); (try clear c5); (try clear c5b0); (try clear c5b1); (try clear c9); (try clear c9b0); (try clear c9b1); (try clear c12); (try clear c13); (try clear c15); (try clear c16); (try clear c20); (try clear c20b0); (try clear c20b1); (try clear c22); (try clear c22b0); (try clear c22b1); (try clear hcz14_0); (try clear hcz14_1); (try clear hcz14_2); (try clear hcz14_3); (try clear hcz14_4); (try clear hcz14_5); (try clear hcz14_6); (try clear hcz14_7); (try clear hcz15_0); (try clear hcz15_1); (try clear hcz15_2); (try clear hcz15_3); (try clear hcz15_4); (try clear hcz15_5); (try clear hcz15_6); (try clear hcz15_7); (try clear hcz17_0); (try clear hcz17_1); (try clear hcz17_2); (try clear hcz17_3); (try clear hcz17_4); (try clear hcz17_5); (try clear hcz17_6); (try clear hcz17_7); (try clear hcz19_0); (try clear hcz19_1); (try clear hcz19_2); (try clear hcz19_3); (try clear hcz19_4); (try clear hcz19_5); (try clear hcz19_6); (try clear hcz19_7); (try clear hcz23_0); (try clear hcz23_1); (try clear hcz23_2); (try clear hcz23_3); (try clear hcz23_4); (try clear hcz23_5); (try clear hcz23_6); (try clear hcz23_7); (try clear hcz24_0); (try clear hcz24_1); (try clear hcz24_2); (try clear hcz24_3); (try clear hcz24_4); (try clear hcz24_5); (try clear hcz24_6); (try clear hcz24_7); (try clear hcz4_0); (try clear hcz4_1); (try clear hcz4_2); (try clear hcz4_3); (try clear hcz4_4); (try clear hcz4_5); (try clear hcz4_6); (try clear hcz4_7); (try clear hcz8_0); (try clear hcz8_1); (try clear hcz8_2); (try clear hcz8_3); (try clear hcz8_4); (try clear hcz8_5); (try clear hcz8_6); (try clear hcz8_7); (try clear hfz14_0); (try clear hfz14_1); (try clear hfz14_2); (try clear hfz14_3); (try clear hfz14_4); (try clear hfz14_5); (try clear hfz14_6); (try clear hfz14_7); (try clear hfz15_0); (try clear hfz15_1); (try clear hfz15_2); (try clear hfz15_3); (try clear hfz15_4); (try clear hfz15_5); (try clear hfz15_6); (try clear hfz15_7); (try clear hfz17_0); (try clear hfz17_1); (try clear hfz17_2); (try clear hfz17_3); (try clear hfz17_4); (try clear hfz17_5); (try clear hfz17_6); (try clear hfz17_7); (try clear hfz19_0); (try clear hfz19_1); (try clear hfz19_2); (try clear hfz19_3); (try clear hfz19_4); (try clear hfz19_5); (try clear hfz19_6); (try clear hfz19_7); (try clear hfz23_0); (try clear hfz23_1); (try clear hfz23_2); (try clear hfz23_3); (try clear hfz23_4); (try clear hfz23_5); (try clear hfz23_6); (try clear hfz23_7); (try clear hfz24_0); (try clear hfz24_1); (try clear hfz24_2); (try clear hfz24_3); (try clear hfz24_4); (try clear hfz24_5); (try clear hfz24_6); (try clear hfz24_7); (try clear hfz4_0); (try clear hfz4_1); (try clear hfz4_2); (try clear hfz4_3); (try clear hfz4_4); (try clear hfz4_5); (try clear hfz4_6); (try clear hfz4_7); (try clear hfz8_0); (try clear hfz8_1); (try clear hfz8_2); (try clear hfz8_3); (try clear hfz8_4); (try clear hfz8_5); (try clear hfz8_6); (try clear hfz8_7); (try clear p2)
    obtain ⟨kq, x3_20, rfl, HA, HJ20, BK401, HB⟩ := hcut
    cases kq with
    | zero => exact absurd HA.out (by simp [spec_l7Fields.j1])
    | succ kj20 =>
     have H := HA.out
     clear HA
     simp only [spec_l7Fields.j1] at H
     have HC25 := Aside0.mk H
     clear H
     go_upto_region 7 with (fail)
     repeat (go_quiet (fail); go_upto_region 7 with (fail))
     go_cut [66] (fun v66 wc => ∃ (kq : Nat) (x66_24 : Bool), v66 = .bool x66_24 ∧ Aside0 (spec_l7Fields.j2 kq x66_24 a0_0 a0_1 a0_2 a0_3 l0_4 l0_5 l0_6 l0_7 = some r) ∧ Aside0 (kq ≤ kj20) ∧ Aside0 (wc.heap[gb401]? = some (.cells #[.int .i64 a0_0, .string a0_1, .int .i64 a0_2, .int .i64 a0_3, (.slice A0_4 l0_4.length c0_4), (.slice A0_5 l0_5.length c0_5), (.slice A0_6 l0_6.length c0_6), (.slice A0_7 l0_7.length c0_7)] 36 (0, 0))) ∧ Aside0 (Below w.heap.size w wc))
     case first =>
      have H := HC25.out
      clear HC25
      replace H := Option.bind_eq_some_iff.mp H
      obtain ⟨t405, A260, H⟩ := H
      replace H : (if x3_20 = true then (if t405 = true then (spec_l7Fields.j2 kj20 false a0_0 a0_1 a0_2 a0_3 l0_4 l0_5 l0_6 l0_7) else (spec_l7Fields.j2 kj20 true a0_0 a0_1 a0_2 a0_3 l0_4 l0_5 l0_6 l0_7)) else (if t405 = true then (spec_l7Fields.j2 kj20 true a0_0 a0_1 a0_2 a0_3 l0_4 l0_5 l0_6 l0_7) else (if a0_3 = 0 then (if (l0_4.length : Int) > 0 then (spec_l7Fields.j2 kj20 true a0_0 a0_1 a0_2 a0_3 l0_4 l0_5 l0_6 l0_7) else (spec_l7Fields.j2 kj20 (decide ((l0_5.length : Int) > 0)) a0_0 a0_1 a0_2 a0_3 l0_4 l0_5 l0_6 l0_7)) else (spec_l7Fields.j2 kj20 true a0_0 a0_1 a0_2 a0_3 l0_4 l0_5 l0_6 l0_7)))) = some r := H
      have A26 := Aside0.mk A260
      clear A260
      by_cases c27 : x3_20 = true
      ·subst c27
       have H1 : (if t405 = true then (spec_l7Fields.j2 kj20 false a0_0 a0_1 a0_2 a0_3 l0_4 l0_5 l0_6 l0_7) else (spec_l7Fields.j2 kj20 true a0_0 a0_1 a0_2 a0_3 l0_4 l0_5 l0_6 l0_7)) = some r := by rw [if_pos rfl] at H; exact H
       clear H
       have H := H1
       clear H1
       by_cases c28 : t405 = true
       ·subst c28
        have H1 : (spec_l7Fields.j2 kj20 false a0_0 a0_1 a0_2 a0_3 l0_4 l0_5 l0_6 l0_7) = some r := by rw [if_pos rfl] at H; exact H
        clear H
        have H := H1
        clear H1
        have H' := Aside0.mk H
        clear H
        have hcz29_0 : wc.cell? ⟨gb401, 0, none⟩ = some (.int .i64 a0_0) := (blk_cell BK401.out 0).trans rfl
        have hcz29_1 : wc.cell? ⟨gb401, 1, none⟩ = some (.string a0_1) := (blk_cell BK401.out 1).trans rfl
        have hcz29_2 : wc.cell? ⟨gb401, 2, none⟩ = some (.int .i64 a0_2) := (blk_cell BK401.out 2).trans rfl
        have hcz29_3 : wc.cell? ⟨gb401, 3, none⟩ = some (.int .i64 a0_3) := (blk_cell BK401.out 3).trans rfl
        have hcz29_4 : wc.cell? ⟨gb401, 4, none⟩ = some (.slice A0_4 l0_4.length c0_4) := (blk_cell BK401.out 4).trans rfl
        have hcz29_5 : wc.cell? ⟨gb401, 5, none⟩ = some (.slice A0_5 l0_5.length c0_5) := (blk_cell BK401.out 5).trans rfl
        have hcz29_6 : wc.cell? ⟨gb401, 6, none⟩ = some (.slice A0_6 l0_6.length c0_6) := (blk_cell BK401.out 6).trans rfl
        have hcz29_7 : wc.cell? ⟨gb401, 7, none⟩ = some (.slice A0_7 l0_7.length c0_7) := (blk_cell BK401.out 7).trans rfl
        have hfz29_0 := blk_frozen BK401.out 0
        have hfz29_1 := blk_frozen BK401.out 1
        have hfz29_2 := blk_frozen BK401.out 2
        have hfz29_3 := blk_frozen BK401.out 3
        have hfz29_4 := blk_frozen BK401.out 4
        have hfz29_5 := blk_frozen BK401.out 5
        have hfz29_6 := blk_frozen BK401.out 6
        have hfz29_7 := blk_frozen BK401.out 7
        go_wp2_with (first | (go_at_call 88; (with_reducible refine (spec_IsValidType.calls kj20 a0_3 _ _ l0_4 _ _ l0_5 true _ ?side1 ?side2 ?side3 ?side4 A26.out).mono ?_); (case side1 => repeat (first | exact (Kd.C_below HR0_4.out HB.out) | (with_reducible refine Kd.C_alloc ?_ _) | (with_reducible refine Kd.C_drewN ?_ _) | (with_reducible refine Kd.C_drew ?_))); (case side2 => exact HC0_4.out); (case side3 => repeat (first | exact (Kd.C_below HR0_5.out HB.out) | (with_reducible refine Kd.C_alloc ?_ _) | (with_reducible refine Kd.C_drewN ?_ _) | (with_reducible refine Kd.C_drew ?_))); (case side4 => exact HC0_5.out); rintro e w30 ⟨rfl, hb⟩; have n0_ := Aside0.mk (blk_below (g := gb401) (o := .cells #[.int .i64 a0_0, .string a0_1, .int .i64 a0_2, .int .i64 a0_3, .slice A0_4 l0_4.length c0_4, .slice A0_5 l0_5.length c0_5, .slice A0_6 l0_6.length c0_6, .slice A0_7 l0_7.length c0_7] 36 (0, 0)) (by (with_reducible repeat (first | refine blk_drewN ?_ _ | refine blk_drew ?_ | refine blk_alloc ?_ _)); exact BK401.out) hb); have n1_ := Aside0.mk (below_step (by repeat (first | (with_reducible first | exact HB.out | apply below_alloc | apply pw_below_drewN | apply below_drew1 | refine below_set ?_ GE401.out) | exact HB.out)) hb); clear BK401; clear HB; have BK401 := n0_; have HB := n1_; clear n0_ n1_; (try clear hb); (try clear hb2); (try clear hk); (try clear hi)))
        repeat (go_quiet (first | (go_at_call 88; (with_reducible refine (spec_IsValidType.calls kj20 a0_3 _ _ l0_4 _ _ l0_5 true _ ?side1 ?side2 ?side3 ?side4 A26.out).mono ?_); (case side1 => repeat (first | exact (Kd.C_below HR0_4.out HB.out) | (with_reducible refine Kd.C_alloc ?_ _) | (with_reducible refine Kd.C_drewN ?_ _) | (with_reducible refine Kd.C_drew ?_))); (case side2 => exact HC0_4.out); (case side3 => repeat (first | exact (Kd.C_below HR0_5.out HB.out) | (with_reducible refine Kd.C_alloc ?_ _) | (with_reducible refine Kd.C_drewN ?_ _) | (with_reducible refine Kd.C_drew ?_))); (case side4 => exact HC0_5.out); rintro e w30 ⟨rfl, hb⟩; have n0_ := Aside0.mk (blk_below (g := gb401) (o := .cells #[.int .i64 a0_0, .string a0_1, .int .i64 a0_2, .int .i64 a0_3, .slice A0_4 l0_4.length c0_4, .slice A0_5 l0_5.length c0_5, .slice A0_6 l0_6.length c0_6, .slice A0_7 l0_7.length c0_7] 36 (0, 0)) (by (with_reducible repeat (first | refine blk_drewN ?_ _ | refine blk_drew ?_ | refine blk_alloc ?_ _)); exact BK401.out) hb); have n1_ := Aside0.mk (below_step (by repeat (first | (with_reducible first | exact HB.out | apply below_alloc | apply pw_below_drewN | apply below_drew1 | refine below_set ?_ GE401.out) | exact HB.out)) hb); clear BK401; clear HB; have BK401 := n0_; have HB := n1_; clear n0_ n1_; (try clear hb); (try clear hb2); (try clear hk); (try clear hi))); try go_wp2_with (first | (go_at_call 88; (with_reducible refine (spec_IsValidType.calls kj20 a0_3 _ _ l0_4 _ _ l0_5 true _ ?side1 ?side2 ?side3 ?side4 A26.out).mono ?_); (case side1 => repeat (first | exact (Kd.C_below HR0_4.out HB.out) | (with_reducible refine Kd.C_alloc ?_ _) | (with_reducible refine Kd.C_drewN ?_ _) | (with_reducible refine Kd.C_drew ?_))); (case side2 => exact HC0_4.out); (case side3 => repeat (first | exact (Kd.C_below HR0_5.out HB.out) | (with_reducible refine Kd.C_alloc ?_ _) | (with_reducible refine Kd.C_drewN ?_ _) | (with_reducible refine Kd.C_drew ?_))); (case side4 => exact HC0_5.out); rintro e w30 ⟨rfl, hb⟩; have n0_ := Aside0.mk (blk_below (g := gb401) (o := .cells #[.int .i64 a0_0, .string a0_1, .int .i64 a0_2, .int .i64 a0_3, .slice A0_4 l0_4.length c0_4, .slice A0_5 l0_5.length c0_5, .slice A0_6 l0_6.length c0_6, .slice A0_7 l0_7.length c0_7] 36 (0, 0)) (by (with_reducible repeat (first | refine blk_drewN ?_ _ | refine blk_drew ?_ | refine blk_alloc ?_ _)); exact BK401.out) hb); have n1_ := Aside0.mk (below_step (by repeat (first | (with_reducible first | exact HB.out | apply below_alloc | apply pw_below_drewN | apply below_drew1 | refine below_set ?_ GE401.out) | exact HB.out)) hb); clear BK401; clear HB; have BK401 := n0_; have HB := n1_; clear n0_ n1_; (try clear hb); (try clear hb2); (try clear hk); (try clear hi))))
        go_meet
        case rel => exact ⟨_, (false), (by first | rfl | (simp; done) | (simp [i64_w, i32_w]; done) | (simp [*]; done)), H', ⟨by have := HJ1.out; have := HJ20.out; first | omega | exact Nat.le_refl _⟩, ⟨by (with_reducible repeat (first | refine blk_drewN ?_ _ | refine blk_drew ?_ | refine blk_alloc ?_ _)); exact BK401.out⟩, ⟨by repeat (first | (with_reducible first | exact HB.out | apply below_alloc | apply pw_below_drewN | apply below_drew1 | refine below_set ?_ GE401.out) | exact HB.out)⟩⟩
       ·replace c28 := Bool.eq_false_iff.mpr c28
        subst c28
        have H1 : (spec_l7Fields.j2 kj20 true a0_0 a0_1 a0_2 a0_3 l0_4 l0_5 l0_6 l0_7) = some r := by rw [if_neg (show ¬ (false = true) by decide)] at H; exact H
        clear H
        have H := H1
        clear H1
        have H' := Aside0.mk H
        clear H
        have hcz31_0 : wc.cell? ⟨gb401, 0, none⟩ = some (.int .i64 a0_0) := (blk_cell BK401.out 0).trans rfl
        have hcz31_1 : wc.cell? ⟨gb401, 1, none⟩ = some (.string a0_1) := (blk_cell BK401.out 1).trans rfl
        have hcz31_2 : wc.cell? ⟨gb401, 2, none⟩ = some (.int .i64 a0_2) := (blk_cell BK401.out 2).trans rfl
        have hcz31_3 : wc.cell? ⟨gb401, 3, none⟩ = some (.int .i64 a0_3) := (blk_cell BK401.out 3).trans rfl
        have hcz31_4 : wc.cell? ⟨gb401, 4, none⟩ = some (.slice A0_4 l0_4.length c0_4) := (blk_cell BK401.out 4).trans rfl
        have hcz31_5 : wc.cell? ⟨gb401, 5, none⟩ = some (.slice A0_5 l0_5.length c0_5) := (blk_cell BK401.out 5).trans rfl
        have hcz31_6 : wc.cell? ⟨gb401, 6, none⟩ = some (.slice A0_6 l0_6.length c0_6) := (blk_cell BK401.out 6).trans rfl
        have hcz31_7 : wc.cell? ⟨gb401, 7, none⟩ = some (.slice A0_7 l0_7.length c0_7) := (blk_cell BK401.out 7).trans rfl
        have hfz31_0 := blk_frozen BK401.out 0
        have hfz31_1 := blk_frozen BK401.out 1
        have hfz31_2 := blk_frozen BK401.out 2
        have hfz31_3 := blk_frozen BK401.out 3
        have hfz31_4 := blk_frozen BK401.out 4
        have hfz31_5 := blk_frozen BK401.out 5
        have hfz31_6 := blk_frozen BK401.out 6
        have hfz31_7 := blk_frozen BK401.out 7
        go_wp2_with (first | (go_at_call 88; (with_reducible refine (spec_IsValidType.calls kj20 a0_3 _ _ l0_4 _ _ l0_5 false _ ?side1 ?side2 ?side3 ?side4 A26.out).mono ?_); (case side1 => repeat (first | exact (Kd.C_below HR0_4.out HB.out) | (with_reducible refine Kd.C_alloc ?_ _) | (with_reducible refine Kd.C_drewN ?_ _) | (with_reducible refine Kd.C_drew ?_))); (case side2 => exact HC0_4.out); (case side3 => repeat (first | exact (Kd.C_below HR0_5.out HB.out) | (with_reducible refine Kd.C_alloc ?_ _) | (with_reducible refine Kd.C_drewN ?_ _) | (with_reducible refine Kd.C_drew ?_))); (case side4 => exact HC0_5.out); rintro e w32 ⟨rfl, hb⟩; have n0_ := Aside0.mk (blk_below (g := gb401) (o := .cells #[.int .i64 a0_0, .string a0_1, .int .i64 a0_2, .int .i64 a0_3, .slice A0_4 l0_4.length c0_4, .slice A0_5 l0_5.length c0_5, .slice A0_6 l0_6.length c0_6, .slice A0_7 l0_7.length c0_7] 36 (0, 0)) (by (with_reducible repeat (first | refine blk_drewN ?_ _ | refine blk_drew ?_ | refine blk_alloc ?_ _)); exact BK401.out) hb); have n1_ := Aside0.mk (below_step (by repeat (first | (with_reducible first | exact HB.out | apply below_alloc | apply pw_below_drewN | apply below_drew1 | refine below_set ?_ GE401.out) | exact HB.out)) hb); clear BK401; clear HB; have BK401 := n0_; have HB := n1_; clear n0_ n1_; (try clear hb); (try clear hb2); (try clear hk); (try clear hi)))
        repeat (go_quiet (first | (go_at_call 88; (with_reducible refine (spec_IsValidType.calls kj20 a0_3 _ _ l0_4 _ _ l0_5 false _ ?side1 ?side2 ?side3 ?side4 A26.out).mono ?_); (case side1 => repeat (first | exact (Kd.C_below HR0_4.out HB.out) | (with_reducible refine Kd.C_alloc ?_ _) | (with_reducible refine Kd.C_drewN ?_ _) | (with_reducible refine Kd.C_drew ?_))); (case side2 => exact HC0_4.out); (case side3 => repeat (first | exact (Kd.C_below HR0_5.out HB.out) | (with_reducible refine Kd.C_alloc ?_ _) | (with_reducible refine Kd.C_drewN ?_ _) | (with_reducible refine Kd.C_drew ?_))); (case side4 => exact HC0_5.out); rintro e w32 ⟨rfl, hb⟩; have n0_ := Aside0.mk (blk_below (g := gb401) (o := .cells #[.int .i64 a0_0, .string a0_1, .int .i64 a0_2, .int .i64 a0_3, .slice A0_4 l0_4.length c0_4, .slice A0_5 l0_5.length c0_5, .slice A0_6 l0_6.length c0_6, .slice A0_7 l0_7.length c0_7] 36 (0, 0)) (by (with_reducible repeat (first | refine blk_drewN ?_ _ | refine blk_drew ?_ | refine blk_alloc ?_ _)); exact BK401.out) hb); have n1_ := Aside0.mk (below_step (by repeat (first | (with_reducible first | exact HB.out | apply below_alloc | apply pw_below_drewN | apply below_drew1 | refine below_set ?_ GE401.out) | exact HB.out)) hb); clear BK401; clear HB; have BK401 := n0_; have HB := n1_; clear n0_ n1_; (try clear hb); (try clear hb2); (try clear hk); (try clear hi))); try go_wp2_with (first | (go_at_call 88; (with_reducible refine (spec_IsValidType.calls kj20 a0_3 _ _ l0_4 _ _ l0_5 false _ ?side1 ?side2 ?side3 ?side4 A26.out).mono ?_); (case side1 => repeat (first | exact (Kd.C_below HR0_4.out HB.out) | (with_reducible refine Kd.C_alloc ?_ _) | (with_reducible refine Kd.C_drewN ?_ _) | (with_reducible refine Kd.C_drew ?_))); (case side2 => exact HC0_4.out); (case side3 => repeat (first | exact (Kd.C_below HR0_5.out HB.out) | (with_reducible refine Kd.C_alloc ?_ _) | (with_reducible refine Kd.C_drewN ?_ _) | (with_reducible refine Kd.C_drew ?_))); (case side4 => exact HC0_5.out); rintro e w32 ⟨rfl, hb⟩; have n0_ := Aside0.mk (blk_below (g := gb401) (o := .cells #[.int .i64 a0_0, .string a0_1, .int .i64 a0_2, .int .i64 a0_3, .slice A0_4 l0_4.length c0_4, .slice A0_5 l0_5.length c0_5, .slice A0_6 l0_6.length c0_6, .slice A0_7 l0_7.length c0_7] 36 (0, 0)) (by (with_reducible repeat (first | refine blk_drewN ?_ _ | refine blk_drew ?_ | refine blk_alloc ?_ _)); exact BK401.out) hb); have n1_ := Aside0.mk (below_step (by repeat (first | (with_reducible first | exact HB.out | apply below_alloc | apply pw_below_drewN | apply below_drew1 | refine below_set ?_ GE401.out) | exact HB.out)) hb); clear BK401; clear HB; have BK401 := n0_; have HB := n1_; clear n0_ n1_; (try clear hb); (try clear hb2); (try clear hk); (try clear hi))))
        go_meet
        case rel => exact ⟨_, (true), (by first | rfl | (simp; done) | (simp [i64_w, i32_w]; done) | (simp [*]; done)), H', ⟨by have := HJ1.out; have := HJ20.out; first | omega | exact Nat.le_refl _⟩, ⟨by (with_reducible repeat (first | refine blk_drewN ?_ _ | refine blk_drew ?_ | refine blk_alloc ?_ _)); exact BK401.out⟩, ⟨by repeat (first | (with_reducible first | exact HB.out | apply below_alloc | apply pw_below_drewN | apply below_drew1 | refine below_set ?_ GE401.out) | exact HB.out)⟩⟩
      ·replace c27 := Bool.eq_false_iff.mpr c27
       subst c27
       have H1 : (if t405 = true then (spec_l7Fields.j2 kj20 true a0_0 a0_1 a0_2 a0_3 l0_4 l0_5 l0_6 l0_7) else (if a0_3 = 0 then (if (l0_4.length : Int) > 0 then (spec_l7Fields.j2 kj20 true a0_0 a0_1 a0_2 a0_3 l0_4 l0_5 l0_6 l0_7) else (spec_l7Fields.j2 kj20 (decide ((l0_5.length : Int) > 0)) a0_0 a0_1 a0_2 a0_3 l0_4 l0_5 l0_6 l0_7)) else (spec_l7Fields.j2 kj20 true a0_0 a0_1 a0_2 a0_3 l0_4 l0_5 l0_6 l0_7))) = some r := by rw [if_neg (show ¬ (false = true) by decide)] at H; exact H
       clear H
       have H := H1
       clear H1
       by_cases c33 : t405 = true
       ·subst c33
        have H1 : (spec_l7Fields.j2 kj20 true a0_0 a0_1 a0_2 a0_3 l0_4 l0_5 l0_6 l0_7) = some r := by rw [if_pos rfl] at H; exact H
        clear H
        have H := H1
        clear H1
        have H' := Aside0.mk H
        clear H
        have hcz34_0 : wc.cell? ⟨gb401, 0, none⟩ = some (.int .i64 a0_0) := (blk_cell BK401.out 0).trans rfl
        have hcz34_1 : wc.cell? ⟨gb401, 1, none⟩ = some (.string a0_1) := (blk_cell BK401.out 1).trans rfl
        have hcz34_2 : wc.cell? ⟨gb401, 2, none⟩ = some (.int .i64 a0_2) := (blk_cell BK401.out 2).trans rfl
        have hcz34_3 : wc.cell? ⟨gb401, 3, none⟩ = some (.int .i64 a0_3) := (blk_cell BK401.out 3).trans rfl
        have hcz34_4 : wc.cell? ⟨gb401, 4, none⟩ = some (.slice A0_4 l0_4.length c0_4) := (blk_cell BK401.out 4).trans rfl
        have hcz34_5 : wc.cell? ⟨gb401, 5, none⟩ = some (.slice A0_5 l0_5.length c0_5) := (blk_cell BK401.out 5).trans rfl
        have hcz34_6 : wc.cell? ⟨gb401, 6, none⟩ = some (.slice A0_6 l0_6.length c0_6) := (blk_cell BK401.out 6).trans rfl
        have hcz34_7 : wc.cell? ⟨gb401, 7, none⟩ = some (.slice A0_7 l0_7.length c0_7) := (blk_cell BK401.out 7).trans rfl
        have hfz34_0 := blk_frozen BK401.out 0
        have hfz34_1 := blk_frozen BK401.out 1
        have hfz34_2 := blk_frozen BK401.out 2
        have hfz34_3 := blk_frozen BK401.out 3
        have hfz34_4 := blk_frozen BK401.out 4
        have hfz34_5 := blk_frozen BK401.out 5
        have hfz34_6 := blk_frozen BK401.out 6
        have hfz34_7 := blk_frozen BK401.out 7
        go_wp2_with (first | (go_at_call 88; (with_reducible refine (spec_IsValidType.calls kj20 a0_3 _ _ l0_4 _ _ l0_5 true _ ?side1 ?side2 ?side3 ?side4 A26.out).mono ?_); (case side1 => repeat (first | exact (Kd.C_below HR0_4.out HB.out) | (with_reducible refine Kd.C_alloc ?_ _) | (with_reducible refine Kd.C_drewN ?_ _) | (with_reducible refine Kd.C_drew ?_))); (case side2 => exact HC0_4.out); (case side3 => repeat (first | exact (Kd.C_below HR0_5.out HB.out) | (with_reducible refine Kd.C_alloc ?_ _) | (with_reducible refine Kd.C_drewN ?_ _) | (with_reducible refine Kd.C_drew ?_))); (case side4 => exact HC0_5.out); rintro e w35 ⟨rfl, hb⟩; have n0_ := Aside0.mk (blk_below (g := gb401) (o := .cells #[.int .i64 a0_0, .string a0_1, .int .i64 a0_2, .int .i64 a0_3, .slice A0_4 l0_4.length c0_4, .slice A0_5 l0_5.length c0_5, .slice A0_6 l0_6.length c0_6, .slice A0_7 l0_7.length c0_7] 36 (0, 0)) (by (with_reducible repeat (first | refine blk_drewN ?_ _ | refine blk_drew ?_ | refine blk_alloc ?_ _)); exact BK401.out) hb); have n1_ := Aside0.mk (below_step (by repeat (first | (with_reducible first | exact HB.out | apply below_alloc | apply pw_below_drewN | apply below_drew1 | refine below_set ?_ GE401.out) | exact HB.out)) hb); clear BK401; clear HB; have BK401 := n0_; have HB := n1_; clear n0_ n1_; (try clear hb); (try clear hb2); (try clear hk); (try clear hi)))
        repeat (go_quiet (first | (go_at_call 88; (with_reducible refine (spec_IsValidType.calls kj20 a0_3 _ _ l0_4 _ _ l0_5 true _ ?side1 ?side2 ?side3 ?side4 A26.out).mono ?_); (case side1 => repeat (first | exact (Kd.C_below HR0_4.out HB.out) | (with_reducible refine Kd.C_alloc ?_ _) | (with_reducible refine Kd.C_drewN ?_ _) | (with_reducible refine Kd.C_drew ?_))); (case side2 => exact HC0_4.out); (case side3 => repeat (first | exact (Kd.C_below HR0_5.out HB.out) | (with_reducible refine Kd.C_alloc ?_ _) | (with_reducible refine Kd.C_drewN ?_ _) | (with_reducible refine Kd.C_drew ?_))); (case side4 => exact HC0_5.out); rintro e w35 ⟨rfl, hb⟩; have n0_ := Aside0.mk (blk_below (g := gb401) (o := .cells #[.int .i64 a0_0, .string a0_1, .int .i64 a0_2, .int .i64 a0_3, .slice A0_4 l0_4.length c0_4, .slice A0_5 l0_5.length c0_5, .slice A0_6 l0_6.length c0_6, .slice A0_7 l0_7.length c0_7] 36 (0, 0)) (by (with_reducible repeat (first | refine blk_drewN ?_ _ | refine blk_drew ?_ | refine blk_alloc ?_ _)); exact BK401.out) hb); have n1_ := Aside0.mk (below_step (by repeat (first | (with_reducible first | exact HB.out | apply below_alloc | apply pw_below_drewN | apply below_drew1 | refine below_set ?_ GE401.out) | exact HB.out)) hb); clear BK401; clear HB; have BK401 := n0_; have HB := n1_; clear n0_ n1_; (try clear hb); (try clear hb2); (try clear hk); (try clear hi))); try go_wp2_with (first | (go_at_call 88; (with_reducible refine (spec_IsValidType.calls kj20 a0_3 _ _ l0_4 _ _ l0_5 true _ ?side1 ?side2 ?side3 ?side4 A26.out).mono ?_); (case side1 => repeat (first | exact (Kd.C_below HR0_4.out HB.out) | (with_reducible refine Kd.C_alloc ?_ _) | (with_reducible refine Kd.C_drewN ?_ _) | (with_reducible refine Kd.C_drew ?_))); (case side2 => exact HC0_4.out); (case side3 => repeat (first | exact (Kd.C_below HR0_5.out HB.out) | (with_reducible refine Kd.C_alloc ?_ _) | (with_reducible refine Kd.C_drewN ?_ _) | (with_reducible refine Kd.C_drew ?_))); (case side4 => exact HC0_5.out); rintro e w35 ⟨rfl, hb⟩; have n0_ := Aside0.mk (blk_below (g := gb401) (o := .cells #[.int .i64 a0_0, .string a0_1, .int .i64 a0_2, .int .i64 a0_3, .slice A0_4 l0_4.length c0_4, .slice A0_5 l0_5.length c0_5, .slice A0_6 l0_6.length c0_6, .slice A0_7 l0_7.length c0_7] 36 (0, 0)) (by (with_reducible repeat (first | refine blk_drewN ?_ _ | refine blk_drew ?_ | refine blk_alloc ?_ _)); exact BK401.out) hb); have n1_ := Aside0.mk (below_step (by repeat (first | (with_reducible first | exact HB.out | apply below_alloc | apply pw_below_drewN | apply below_drew1 | refine below_set ?_ GE401.out) | exact HB.out)) hb); clear BK401; clear HB; have BK401 := n0_; have HB := n1_; clear n0_ n1_; (try clear hb); (try clear hb2); (try clear hk); (try clear hi))))
        go_meet
        case rel => exact ⟨_, (true), (by first | rfl | (simp; done) | (simp [i64_w, i32_w]; done) | (simp [*]; done)), H', ⟨by have := HJ1.out; have := HJ20.out; first | omega | exact Nat.le_refl _⟩, ⟨by (with_reducible repeat (first | refine blk_drewN ?_ _ | refine blk_drew ?_ | refine blk_alloc ?_ _)); exact BK401.out⟩, ⟨by repeat (first | (with_reducible first | exact HB.out | apply below_alloc | apply pw_below_drewN | apply below_drew1 | refine below_set ?_ GE401.out) | exact HB.out)⟩⟩
       ·replace c33 := Bool.eq_false_iff.mpr c33
        subst c33
        have H1 : (if a0_3 = 0 then (if (l0_4.length : Int) > 0 then (spec_l7Fields.j2 kj20 true a0_0 a0_1 a0_2 a0_3 l0_4 l0_5 l0_6 l0_7) else (spec_l7Fields.j2 kj20 (decide ((l0_5.length : Int) > 0)) a0_0 a0_1 a0_2 a0_3 l0_4 l0_5 l0_6 l0_7)) else (spec_l7Fields.j2 kj20 true a0_0 a0_1 a0_2 a0_3 l0_4 l0_5 l0_6 l0_7)) = some r := by rw [if_neg (show ¬ (false = true) by decide)] at H; exact H
        clear H
        have H := H1
        clear H1
        by_cases c36 : a0_3 = 0
        ·rw [if_pos c36] at H
         have c36b0 : (a0_3 == 0) = true := beq_iff_eq.mpr c36
         have c36b1 : (a0_3 != 0) = false := bne_eq_false_iff_eq.mpr c36
         clear c36
         (first | rw [c36b0] | (simp only [i64_w, i32_w]; rw [c36b0]) | (rw [c36b1]; (try simp only [Bool.not_true, Bool.not_false])) | skip)
         by_cases c37 : (l0_4.length : Int) > 0
         ·rw [if_pos c37] at H
          have c37b0 : decide (0 < (l0_4.length : Int)) = true := decide_eq_true c37
          have c37b1 : decide (0 < l0_4.length) = true := decide_eq_true (by omega)
          clear c37
          have H' := Aside0.mk H
          clear H
          have hcz38_0 : wc.cell? ⟨gb401, 0, none⟩ = some (.int .i64 a0_0) := (blk_cell BK401.out 0).trans rfl
          have hcz38_1 : wc.cell? ⟨gb401, 1, none⟩ = some (.string a0_1) := (blk_cell BK401.out 1).trans rfl
          have hcz38_2 : wc.cell? ⟨gb401, 2, none⟩ = some (.int .i64 a0_2) := (blk_cell BK401.out 2).trans rfl
          have hcz38_3 : wc.cell? ⟨gb401, 3, none⟩ = some (.int .i64 a0_3) := (blk_cell BK401.out 3).trans rfl
          have hcz38_4 : wc.cell? ⟨gb401, 4, none⟩ = some (.slice A0_4 l0_4.length c0_4) := (blk_cell BK401.out 4).trans rfl
          have hcz38_5 : wc.cell? ⟨gb401, 5, none⟩ = some (.slice A0_5 l0_5.length c0_5) := (blk_cell BK401.out 5).trans rfl
          have hcz38_6 : wc.cell? ⟨gb401, 6, none⟩ = some (.slice A0_6 l0_6.length c0_6) := (blk_cell BK401.out 6).trans rfl
          have hcz38_7 : wc.cell? ⟨gb401, 7, none⟩ = some (.slice A0_7 l0_7.length c0_7) := (blk_cell BK401.out 7).trans rfl
          have hfz38_0 := blk_frozen BK401.out 0
          have hfz38_1 := blk_frozen BK401.out 1
          have hfz38_2 := blk_frozen BK401.out 2
          have hfz38_3 := blk_frozen BK401.out 3
          have hfz38_4 := blk_frozen BK401.out 4
          have hfz38_5 := blk_frozen BK401.out 5
          have hfz38_6 := blk_frozen BK401.out 6
          have hfz38_7 := blk_frozen BK401.out 7
          go_wp2_with (first | (go_at_call 88; (with_reducible refine (spec_IsValidType.calls kj20 a0_3 _ _ l0_4 _ _ l0_5 false _ ?side1 ?side2 ?side3 ?side4 A26.out).mono ?_); (case side1 => repeat (first | exact (Kd.C_below HR0_4.out HB.out) | (with_reducible refine Kd.C_alloc ?_ _) | (with_reducible refine Kd.C_drewN ?_ _) | (with_reducible refine Kd.C_drew ?_))); (case side2 => exact HC0_4.out); (case side3 => repeat (first | exact (Kd.C_below HR0_5.out HB.out) | (with_reducible refine Kd.C_alloc ?_ _) | (with_reducible refine Kd.C_drewN ?_ _) | (with_reducible refine Kd.C_drew ?_))); (case side4 => exact HC0_5.out); rintro e w39 ⟨rfl, hb⟩; have n0_ := Aside0.mk (blk_below (g := gb401) (o := .cells #[.int .i64 a0_0, .string a0_1, .int .i64 a0_2, .int .i64 a0_3, .slice A0_4 l0_4.length c0_4, .slice A0_5 l0_5.length c0_5, .slice A0_6 l0_6.length c0_6, .slice A0_7 l0_7.length c0_7] 36 (0, 0)) (by (with_reducible repeat (first | refine blk_drewN ?_ _ | refine blk_drew ?_ | refine blk_alloc ?_ _)); exact BK401.out) hb); have n1_ := Aside0.mk (below_step (by repeat (first | (with_reducible first | exact HB.out | apply below_alloc | apply pw_below_drewN | apply below_drew1 | refine below_set ?_ GE401.out) | exact HB.out)) hb); clear BK401; clear HB; have BK401 := n0_; have HB := n1_; clear n0_ n1_; (try clear hb); (try clear hb2); (try clear hk); (try clear hi); have hcz40_0 : w39.cell? ⟨gb401, 0, none⟩ = some (.int .i64 a0_0) := (blk_cell BK401.out 0).trans rfl; have hcz40_1 : w39.cell? ⟨gb401, 1, none⟩ = some (.string a0_1) := (blk_cell BK401.out 1).trans rfl; have hcz40_2 : w39.cell? ⟨gb401, 2, none⟩ = some (.int .i64 a0_2) := (blk_cell BK401.out 2).trans rfl; have hcz40_3 : w39.cell? ⟨gb401, 3, none⟩ = some (.int .i64 a0_3) := (blk_cell BK401.out 3).trans rfl; have hcz40_4 : w39.cell? ⟨gb401, 4, none⟩ = some (.slice A0_4 l0_4.length c0_4) := (blk_cell BK401.out 4).trans rfl; have hcz40_5 : w39.cell? ⟨gb401, 5, none⟩ = some (.slice A0_5 l0_5.length c0_5) := (blk_cell BK401.out 5).trans rfl; have hcz40_6 : w39.cell? ⟨gb401, 6, none⟩ = some (.slice A0_6 l0_6.length c0_6) := (blk_cell BK401.out 6).trans rfl; have hcz40_7 : w39.cell? ⟨gb401, 7, none⟩ = some (.slice A0_7 l0_7.length c0_7) := (blk_cell BK401.out 7).trans rfl; have hfz40_0 := blk_frozen BK401.out 0; have hfz40_1 := blk_frozen BK401.out 1; have hfz40_2 := blk_frozen BK401.out 2; have hfz40_3 := blk_frozen BK401.out 3; have hfz40_4 := blk_frozen BK401.out 4; have hfz40_5 := blk_frozen BK401.out 5; have hfz40_6 := blk_frozen BK401.out 6; have hfz40_7 := blk_frozen BK401.out 7))
          repeat (go_quiet (first | (go_at_call 88; (with_reducible refine (spec_IsValidType.calls kj20 a0_3 _ _ l0_4 _ _ l0_5 false _ ?side1 ?side2 ?side3 ?side4 A26.out).mono ?_); (case side1 => repeat (first | exact (Kd.C_below HR0_4.out HB.out) | (with_reducible refine Kd.C_alloc ?_ _) | (with_reducible refine Kd.C_drewN ?_ _) | (with_reducible refine Kd.C_drew ?_))); (case side2 => exact HC0_4.out); (case side3 => repeat (first | exact (Kd.C_below HR0_5.out HB.out) | (with_reducible refine Kd.C_alloc ?_ _) | (with_reducible refine Kd.C_drewN ?_ _) | (with_reducible refine Kd.C_drew ?_))); (case side4 => exact HC0_5.out); rintro e w39 ⟨rfl, hb⟩; have n0_ := Aside0.mk (blk_below (g := gb401) (o := .cells #[.int .i64 a0_0, .string a0_1, .int .i64 a0_2, .int .i64 a0_3, .slice A0_4 l0_4.length c0_4, .slice A0_5 l0_5.length c0_5, .slice A0_6 l0_6.length c0_6, .slice A0_7 l0_7.length c0_7] 36 (0, 0)) (by (with_reducible repeat (first | refine blk_drewN ?_ _ | refine blk_drew ?_ | refine blk_alloc ?_ _)); exact BK401.out) hb); have n1_ := Aside0.mk (below_step (by repeat (first | (with_reducible first | exact HB.out | apply below_alloc | apply pw_below_drewN | apply below_drew1 | refine below_set ?_ GE401.out) | exact HB.out)) hb); clear BK401; clear HB; have BK401 := n0_; have HB := n1_; clear n0_ n1_; (try clear hb); (try clear hb2); (try clear hk); (try clear hi); have hcz40_0 : w39.cell? ⟨gb401, 0, none⟩ = some (.int .i64 a0_0) := (blk_cell BK401.out 0).trans rfl; have hcz40_1 : w39.cell? ⟨gb401, 1, none⟩ = some (.string a0_1) := (blk_cell BK401.out 1).trans rfl; have hcz40_2 : w39.cell? ⟨gb401, 2, none⟩ = some (.int .i64 a0_2) := (blk_cell BK401.out 2).trans rfl; have hcz40_3 : w39.cell? ⟨gb401, 3, none⟩ = some (.int .i64 a0_3) := (blk_cell BK401.out 3).trans rfl; have hcz40_4 : w39.cell? ⟨gb401, 4, none⟩ = some (.slice A0_4 l0_4.length c0_4) := (blk_cell BK401.out 4).trans rfl; have hcz40_5 : w39.cell? ⟨gb401, 5, none⟩ = some (.slice A0_5 l0_5.length c0_5) := (blk_cell BK401.out 5).trans rfl; have hcz40_6 : w39.cell? ⟨gb401, 6, none⟩ = some (.slice A0_6 l0_6.length c0_6) := (blk_cell BK401.out 6).trans rfl; have hcz40_7 : w39.cell? ⟨gb401, 7, none⟩ = some (.slice A0_7 l0_7.length c0_7) := (blk_cell BK401.out 7).trans rfl; have hfz40_0 := blk_frozen BK401.out 0; have hfz40_1 := blk_frozen BK401.out 1; have hfz40_2 := blk_frozen BK401.out 2; have hfz40_3 := blk_frozen BK401.out 3; have hfz40_4 := blk_frozen BK401.out 4; have hfz40_5 := blk_frozen BK401.out 5; have hfz40_6 := blk_frozen BK401.out 6; have hfz40_7 := blk_frozen BK401.out 7)); try go_wp2_with (first | (go_at_call 88; (with_reducible refine (spec_IsValidType.calls kj20 a0_3 _ _ l0_4 _ _ l0_5 false _ ?side1 ?side2 ?side3 ?side4 A26.out).mono ?_); (case side1 => repeat (first | exact (Kd.C_below HR0_4.out HB.out) | (with_reducible refine Kd.C_alloc ?_ _) | (with_reducible refine Kd.C_drewN ?_ _) | (with_reducible refine Kd.C_drew ?_))); (case side2 => exact HC0_4.out); (case side3 => repeat (first | exact (Kd.C_below HR0_5.out HB.out) | (with_reducible refine Kd.C_alloc ?_ _) | (with_reducible refine Kd.C_drewN ?_ _) | (with_reducible refine Kd.C_drew ?_))); (case side4 => exact HC0_5.out); rintro e w39 ⟨rfl, hb⟩; have n0_ := Aside0.mk (blk_below (g := gb401) (o := .cells #[.int .i64 a0_0, .string a0_1, .int .i64 a0_2, .int .i64 a0_3, .slice A0_4 l0_4.length c0_4, .slice A0_5 l0_5.length c0_5, .slice A0_6 l0_6.length c0_6, .slice A0_7 l0_7.length c0_7] 36 (0, 0)) (by (with_reducible repeat (first | refine blk_drewN ?_ _ | refine blk_drew ?_ | refine blk_alloc ?_ _)); exact BK401.out) hb); have n1_ := Aside0.mk (below_step (by repeat (first | (with_reducible first | exact HB.out | apply below_alloc | apply pw_below_drewN | apply below_drew1 | refine below_set ?_ GE401.out) | exact HB.out)) hb); clear BK401; clear HB; have BK401 := n0_; have HB := n1_; clear n0_ n1_; (try clear hb); (try clear hb2); (try clear hk); (try clear hi); have hcz40_0 : w39.cell? ⟨gb401, 0, none⟩ = some (.int .i64 a0_0) := (blk_cell BK401.out 0).trans rfl; have hcz40_1 : w39.cell? ⟨gb401, 1, none⟩ = some (.string a0_1) := (blk_cell BK401.out 1).trans rfl; have hcz40_2 : w39.cell? ⟨gb401, 2, none⟩ = some (.int .i64 a0_2) := (blk_cell BK401.out 2).trans rfl; have hcz40_3 : w39.cell? ⟨gb401, 3, none⟩ = some (.int .i64 a0_3) := (blk_cell BK401.out 3).trans rfl; have hcz40_4 : w39.cell? ⟨gb401, 4, none⟩ = some (.slice A0_4 l0_4.length c0_4) := (blk_cell BK401.out 4).trans rfl; have hcz40_5 : w39.cell? ⟨gb401, 5, none⟩ = some (.slice A0_5 l0_5.length c0_5) := (blk_cell BK401.out 5).trans rfl; have hcz40_6 : w39.cell? ⟨gb401, 6, none⟩ = some (.slice A0_6 l0_6.length c0_6) := (blk_cell BK401.out 6).trans rfl; have hcz40_7 : w39.cell? ⟨gb401, 7, none⟩ = some (.slice A0_7 l0_7.length c0_7) := (blk_cell BK401.out 7).trans rfl; have hfz40_0 := blk_frozen BK401.out 0; have hfz40_1 := blk_frozen BK401.out 1; have hfz40_2 := blk_frozen BK401.out 2; have hfz40_3 := blk_frozen BK401.out 3; have hfz40_4 := blk_frozen BK401.out 4; have hfz40_5 := blk_frozen BK401.out 5; have hfz40_6 := blk_frozen BK401.out 6; have hfz40_7 := blk_frozen BK401.out 7)))
          go_meet
          case rel => exact ⟨_, (true), (by first | rfl | (simp; done) | (simp [i64_w, i32_w]; done) | (simp [*]; done)), H', ⟨by have := HJ1.out; have := HJ20.out; first | omega | exact Nat.le_refl _⟩, ⟨by (with_reducible repeat (first | refine blk_drewN ?_ _ | refine blk_drew ?_ | refine blk_alloc ?_ _)); exact BK401.out⟩, ⟨by repeat (first | (with_reducible first | exact HB.out | apply below_alloc | apply pw_below_drewN | apply below_drew1 | refine below_set ?_ GE401.out) | exact HB.out)⟩⟩
         ·rw [if_neg c37] at H
          have c37b0 : decide (0 < (l0_4.length : Int)) = false := decide_eq_false c37
          have c37b1 : decide (0 < l0_4.length) = false := decide_eq_false (by omega)
          clear c37
          have H' := Aside0.mk H
          clear H
          have hcz41_0 : wc.cell? ⟨gb401, 0, none⟩ = some (.int .i64 a0_0) := (blk_cell BK401.out 0).trans rfl
          have hcz41_1 : wc.cell? ⟨gb401, 1, none⟩ = some (.string a0_1) := (blk_cell BK401.out 1).trans rfl
          have hcz41_2 : wc.cell? ⟨gb401, 2, none⟩ = some (.int .i64 a0_2) := (blk_cell BK401.out 2).trans rfl
          have hcz41_3 : wc.cell? ⟨gb401, 3, none⟩ = some (.int .i64 a0_3) := (blk_cell BK401.out 3).trans rfl
          have hcz41_4 : wc.cell? ⟨gb401, 4, none⟩ = some (.slice A0_4 l0_4.length c0_4) := (blk_cell BK401.out 4).trans rfl
          have hcz41_5 : wc.cell? ⟨gb401, 5, none⟩ = some (.slice A0_5 l0_5.length c0_5) := (blk_cell BK401.out 5).trans rfl
          have hcz41_6 : wc.cell? ⟨gb401, 6, none⟩ = some (.slice A0_6 l0_6.length c0_6) := (blk_cell BK401.out 6).trans rfl
          have hcz41_7 : wc.cell? ⟨gb401, 7, none⟩ = some (.slice A0_7 l0_7.length c0_7) := (blk_cell BK401.out 7).trans rfl
          have hfz41_0 := blk_frozen BK401.out 0
          have hfz41_1 := blk_frozen BK401.out 1
          have hfz41_2 := blk_frozen BK401.out 2
          have hfz41_3 := blk_frozen BK401.out 3
          have hfz41_4 := blk_frozen BK401.out 4
          have hfz41_5 := blk_frozen BK401.out 5
          have hfz41_6 := blk_frozen BK401.out 6
          have hfz41_7 := blk_frozen BK401.out 7
          go_wp2_with (first | (go_at_call 88; (with_reducible refine (spec_IsValidType.calls kj20 a0_3 _ _ l0_4 _ _ l0_5 false _ ?side1 ?side2 ?side3 ?side4 A26.out).mono ?_); (case side1 => repeat (first | exact (Kd.C_below HR0_4.out HB.out) | (with_reducible refine Kd.C_alloc ?_ _) | (with_reducible refine Kd.C_drewN ?_ _) | (with_reducible refine Kd.C_drew ?_))); (case side2 => exact HC0_4.out); (case side3 => repeat (first | exact (Kd.C_below HR0_5.out HB.out) | (with_reducible refine Kd.C_alloc ?_ _) | (with_reducible refine Kd.C_drewN ?_ _) | (with_reducible refine Kd.C_drew ?_))); (case side4 => exact HC0_5.out); rintro e w42 ⟨rfl, hb⟩; have n0_ := Aside0.mk (blk_below (g := gb401) (o := .cells #[.int .i64 a0_0, .string a0_1, .int .i64 a0_2, .int .i64 a0_3, .slice A0_4 l0_4.length c0_4, .slice A0_5 l0_5.length c0_5, .slice A0_6 l0_6.length c0_6, .slice A0_7 l0_7.length c0_7] 36 (0, 0)) (by (with_reducible repeat (first | refine blk_drewN ?_ _ | refine blk_drew ?_ | refine blk_alloc ?_ _)); exact BK401.out) hb); have n1_ := Aside0.mk (below_step (by repeat (first | (with_reducible first | exact HB.out | apply below_alloc | apply pw_below_drewN | apply below_drew1 | refine below_set ?_ GE401.out) | exact HB.out)) hb); clear BK401; clear HB; have BK401 := n0_; have HB := n1_; clear n0_ n1_; (try clear hb); (try clear hb2); (try clear hk); (try clear hi); have hcz43_0 : w42.cell? ⟨gb401, 0, none⟩ = some (.int .i64 a0_0) := (blk_cell BK401.out 0).trans rfl; have hcz43_1 : w42.cell? ⟨gb401, 1, none⟩ = some (.string a0_1) := (blk_cell BK401.out 1).trans rfl; have hcz43_2 : w42.cell? ⟨gb401, 2, none⟩ = some (.int .i64 a0_2) := (blk_cell BK401.out 2).trans rfl; have hcz43_3 : w42.cell? ⟨gb401, 3, none⟩ = some (.int .i64 a0_3) := (blk_cell BK401.out 3).trans rfl; have hcz43_4 : w42.cell? ⟨gb401, 4, none⟩ = some (.slice A0_4 l0_4.length c0_4) := (blk_cell BK401.out 4).trans rfl; have hcz43_5 : w42.cell? ⟨gb401, 5, none⟩ = some (.slice A0_5 l0_5.length c0_5) := (blk_cell BK401.out 5).trans rfl; have hcz43_6 : w42.cell? ⟨gb401, 6, none⟩ = some (.slice A0_6 l0_6.length c0_6) := (blk_cell BK401.out 6).trans rfl; have hcz43_7 : w42.cell? ⟨gb401, 7, none⟩ = some (.slice A0_7 l0_7.length c0_7) := (blk_cell BK401.out 7).trans rfl; have hfz43_0 := blk_frozen BK401.out 0; have hfz43_1 := blk_frozen BK401.out 1; have hfz43_2 := blk_frozen BK401.out 2; have hfz43_3 := blk_frozen BK401.out 3; have hfz43_4 := blk_frozen BK401.out 4; have hfz43_5 := blk_frozen BK401.out 5; have hfz43_6 := blk_frozen BK401.out 6; have hfz43_7 := blk_frozen BK401.out 7))
          repeat (go_quiet (first | (go_at_call 88; (with_reducible refine (spec_IsValidType.calls kj20 a0_3 _ _ l0_4 _ _ l0_5 false _ ?side1 ?side2 ?side3 ?side4 A26.out).mono ?_); (case side1 => repeat (first | exact (Kd.C_below HR0_4.out HB.out) | (with_reducible refine Kd.C_alloc ?_ _) | (with_reducible refine Kd.C_drewN ?_ _) | (with_reducible refine Kd.C_drew ?_))); (case side2 => exact HC0_4.out); (case side3 => repeat (first | exact (Kd.C_below HR0_5.out HB.out) | (with_reducible refine Kd.C_alloc ?_ _) | (with_reducible refine Kd.C_drewN ?_ _) | (with_reducible refine Kd.C_drew ?_))); (case side4 => exact HC0_5.out); rintro e w42 ⟨rfl, hb⟩; have n0_ := Aside0.mk (blk_below (g := gb401) (o := .cells #[.int .i64 a0_0, .string a0_1, .int .i64 a0_2, .int .i64 a0_3, .slice A0_4 l0_4.length c0_4, .slice A0_5 l0_5.length c0_5, .slice A0_6 l0_6.length c0_6, .slice A0_7 l0_7.length c0_7] 36 (0, 0)) (by (with_reducible repeat (first | refine blk_drewN ?_ _ | refine blk_drew ?_ | refine blk_alloc ?_ _)); exact BK401.out) hb); have n1_ := Aside0.mk (below_step (by repeat (first | (with_reducible first | exact HB.out | apply below_alloc | apply pw_below_drewN | apply below_drew1 | refine below_set ?_ GE401.out) | exact HB.out)) hb); clear BK401; clear HB; have BK401 := n0_; have HB := n1_; clear n0_ n1_; (try clear hb); (try clear hb2); (try clear hk); (try clear hi); have hcz43_0 : w42.cell? ⟨gb401, 0, none⟩ = some (.int .i64 a0_0) := (blk_cell BK401.out 0).trans rfl; have hcz43_1 : w42.cell? ⟨gb401, 1, none⟩ = some (.string a0_1) := (blk_cell BK401.out 1).trans rfl; have hcz43_2 : w42.cell? ⟨gb401, 2, none⟩ = some (.int .i64 a0_2) := (blk_cell BK401.out 2).trans rfl; have hcz43_3 : w42.cell? ⟨gb401, 3, none⟩ = some (.int .i64 a0_3) := (blk_cell BK401.out 3).trans rfl; have hcz43_4 : w42.cell? ⟨gb401, 4, none⟩ = some (.slice A0_4 l0_4.length c0_4) := (blk_cell BK401.out 4).trans rfl; have hcz43_5 : w42.cell? ⟨gb401, 5, none⟩ = some (.slice A0_5 l0_5.length c0_5) := (blk_cell BK401.out 5).trans rfl; have hcz43_6 : w42.cell? ⟨gb401, 6, none⟩ = some (.slice A0_6 l0_6.length c0_6) := (blk_cell BK401.out 6).trans rfl; have hcz43_7 : w42.cell? ⟨gb401, 7, none⟩ = some (.slice A0_7 l0_7.length c0_7) := (blk_cell BK401.out 7).trans rfl; have hfz43_0 := blk_frozen BK401.out 0; have hfz43_1 := blk_frozen BK401.out 1; have hfz43_2 := blk_frozen BK401.out 2; have hfz43_3 := blk_frozen BK401.out 3; have hfz43_4 := blk_frozen BK401.out 4; have hfz43_5 := blk_frozen BK401.out 5; have hfz43_6 := blk_frozen BK401.out 6; have hfz43_7 := blk_frozen BK401.out 7)); try go_wp2_with (first | (go_at_call 88; (with_reducible refine (spec_IsValidType.calls kj20 a0_3 _ _ l0_4 _ _ l0_5 false _ ?side1 ?side2 ?side3 ?side4 A26.out).mono ?_); (case side1 => repeat (first | exact (Kd.C_below HR0_4.out HB.out) | (with_reducible refine Kd.C_alloc ?_ _) | (with_reducible refine Kd.C_drewN ?_ _) | (with_reducible refine Kd.C_drew ?_))); (case side2 => exact HC0_4.out); (case side3 => repeat (first | exact (Kd.C_below HR0_5.out HB.out) | (with_reducible refine Kd.C_alloc ?_ _) | (with_reducible refine Kd.C_drewN ?_ _) | (with_reducible refine Kd.C_drew ?_))); (case side4 => exact HC0_5.out); rintro e w42 ⟨rfl, hb⟩; have n0_ := Aside0.mk (blk_below (g := gb401) (o := .cells #[.int .i64 a0_0, .string a0_1, .int .i64 a0_2, .int .i64 a0_3, .slice A0_4 l0_4.length c0_4, .slice A0_5 l0_5.length c0_5, .slice A0_6 l0_6.length c0_6, .slice A0_7 l0_7.length c0_7] 36 (0, 0)) (by (with_reducible repeat (first | refine blk_drewN ?_ _ | refine blk_drew ?_ | refine blk_alloc ?_ _)); exact BK401.out) hb); have n1_ := Aside0.mk (below_step (by repeat (first | (with_reducible first | exact HB.out | apply below_alloc | apply pw_below_drewN | apply below_drew1 | refine below_set ?_ GE401.out) | exact HB.out)) hb); clear BK401; clear HB; have BK401 := n0_; have HB := n1_; clear n0_ n1_; (try clear hb); (try clear hb2); (try clear hk); (try clear hi); have hcz43_0 : w42.cell? ⟨gb401, 0, none⟩ = some (.int .i64 a0_0) := (blk_cell BK401.out 0).trans rfl; have hcz43_1 : w42.cell? ⟨gb401, 1, none⟩ = some (.string a0_1) := (blk_cell BK401.out 1).trans rfl; have hcz43_2 : w42.cell? ⟨gb401, 2, none⟩ = some (.int .i64 a0_2) := (blk_cell BK401.out 2).trans rfl; have hcz43_3 : w42.cell? ⟨gb401, 3, none⟩ = some (.int .i64 a0_3) := (blk_cell BK401.out 3).trans rfl; have hcz43_4 : w42.cell? ⟨gb401, 4, none⟩ = some (.slice A0_4 l0_4.length c0_4) := (blk_cell BK401.out 4).trans rfl; have hcz43_5 : w42.cell? ⟨gb401, 5, none⟩ = some (.slice A0_5 l0_5.length c0_5) := (blk_cell BK401.out 5).trans rfl; have hcz43_6 : w42.cell? ⟨gb401, 6, none⟩ = some (.slice A0_6 l0_6.length c0_6) := (blk_cell BK401.out 6).trans rfl; have hcz43_7 : w42.cell? ⟨gb401, 7, none⟩ = some (.slice A0_7 l0_7.length c0_7) := (blk_cell BK401.out 7).trans rfl; have hfz43_0 := blk_frozen BK401.out 0; have hfz43_1 := blk_frozen BK401.out 1; have hfz43_2 := blk_frozen BK401.out 2; have hfz43_3 := blk_frozen BK401.out 3; have hfz43_4 := blk_frozen BK401.out 4; have hfz43_5 := blk_frozen BK401.out 5; have hfz43_6 := blk_frozen BK401.out 6; have hfz43_7 := blk_frozen BK401.out 7)))
          go_meet
          case rel => exact ⟨_, (decide ((l0_5.length : Int) > 0)), (by first | rfl | (simp; done) | (simp [i64_w, i32_w]; done) | (simp [*]; done)), H', ⟨by have := HJ1.out; have := HJ20.out; first | omega | exact Nat.le_refl _⟩, ⟨by (with_reducible repeat (first | refine blk_drewN ?_ _ | refine blk_drew ?_ | refine blk_alloc ?_ _)); exact BK401.out⟩, ⟨by repeat (first | (with_reducible first | exact HB.out | apply below_alloc | apply pw_below_drewN | apply below_drew1 | refine below_set ?_ GE401.out) | exact HB.out)⟩⟩
        ·rw [if_neg c36] at H
         have c36b0 : (a0_3 == 0) = false := beq_eq_false_iff_ne.mpr c36
         have c36b1 : (a0_3 != 0) = true := bne_iff_ne.mpr c36
         (first | rw [c36b0] | (simp only [i64_w, i32_w]; rw [c36b0]) | (rw [c36b1]; (try simp only [Bool.not_true, Bool.not_false])) | skip)
         have H' := Aside0.mk H
         clear H
         have hcz44_0 : wc.cell? ⟨gb401, 0, none⟩ = some (.int .i64 a0_0) := (blk_cell BK401.out 0).trans rfl
         have hcz44_1 : wc.cell? ⟨gb401, 1, none⟩ = some (.string a0_1) := (blk_cell BK401.out 1).trans rfl
         have hcz44_2 : wc.cell? ⟨gb401, 2, none⟩ = some (.int .i64 a0_2) := (blk_cell BK401.out 2).trans rfl
         have hcz44_3 : wc.cell? ⟨gb401, 3, none⟩ = some (.int .i64 a0_3) := (blk_cell BK401.out 3).trans rfl
         have hcz44_4 : wc.cell? ⟨gb401, 4, none⟩ = some (.slice A0_4 l0_4.length c0_4) := (blk_cell BK401.out 4).trans rfl
         have hcz44_5 : wc.cell? ⟨gb401, 5, none⟩ = some (.slice A0_5 l0_5.length c0_5) := (blk_cell BK401.out 5).trans rfl
         have hcz44_6 : wc.cell? ⟨gb401, 6, none⟩ = some (.slice A0_6 l0_6.length c0_6) := (blk_cell BK401.out 6).trans rfl
         have hcz44_7 : wc.cell? ⟨gb401, 7, none⟩ = some (.slice A0_7 l0_7.length c0_7) := (blk_cell BK401.out 7).trans rfl
         have hfz44_0 := blk_frozen BK401.out 0
         have hfz44_1 := blk_frozen BK401.out 1
         have hfz44_2 := blk_frozen BK401.out 2
         have hfz44_3 := blk_frozen BK401.out 3
         have hfz44_4 := blk_frozen BK401.out 4
         have hfz44_5 := blk_frozen BK401.out 5
         have hfz44_6 := blk_frozen BK401.out 6
         have hfz44_7 := blk_frozen BK401.out 7
         go_wp2_with (first | (go_at_call 88; (with_reducible refine (spec_IsValidType.calls kj20 a0_3 _ _ l0_4 _ _ l0_5 false _ ?side1 ?side2 ?side3 ?side4 A26.out).mono ?_); (case side1 => repeat (first | exact (Kd.C_below HR0_4.out HB.out) | (with_reducible refine Kd.C_alloc ?_ _) | (with_reducible refine Kd.C_drewN ?_ _) | (with_reducible refine Kd.C_drew ?_))); (case side2 => exact HC0_4.out); (case side3 => repeat (first | exact (Kd.C_below HR0_5.out HB.out) | (with_reducible refine Kd.C_alloc ?_ _) | (with_reducible refine Kd.C_drewN ?_ _) | (with_reducible refine Kd.C_drew ?_))); (case side4 => exact HC0_5.out); rintro e w45 ⟨rfl, hb⟩; have n0_ := Aside0.mk (blk_below (g := gb401) (o := .cells #[.int .i64 a0_0, .string a0_1, .int .i64 a0_2, .int .i64 a0_3, .slice A0_4 l0_4.length c0_4, .slice A0_5 l0_5.length c0_5, .slice A0_6 l0_6.length c0_6, .slice A0_7 l0_7.length c0_7] 36 (0, 0)) (by (with_reducible repeat (first | refine blk_drewN ?_ _ | refine blk_drew ?_ | refine blk_alloc ?_ _)); exact BK401.out) hb); have n1_ := Aside0.mk (below_step (by repeat (first | (with_reducible first | exact HB.out | apply below_alloc | apply pw_below_drewN | apply below_drew1 | refine below_set ?_ GE401.out) | exact HB.out)) hb); clear BK401; clear HB; have BK401 := n0_; have HB := n1_; clear n0_ n1_; (try clear hb); (try clear hb2); (try clear hk); (try clear hi); have hcz46_0 : w45.cell? ⟨gb401, 0, none⟩ = some (.int .i64 a0_0) := (blk_cell BK401.out 0).trans rfl; have hcz46_1 : w45.cell? ⟨gb401, 1, none⟩ = some (.string a0_1) := (blk_cell BK401.out 1).trans rfl; have hcz46_2 : w45.cell? ⟨gb401, 2, none⟩ = some (.int .i64 a0_2) := (blk_cell BK401.out 2).trans rfl; have hcz46_3 : w45.cell? ⟨gb401, 3, none⟩ = some (.int .i64 a0_3) := (blk_cell BK401.out 3).trans rfl; have hcz46_4 : w45.cell? ⟨gb401, 4, none⟩ = some (.slice A0_4 l0_4.length c0_4) := (blk_cell BK401.out 4).trans rfl; have hcz46_5 : w45.cell? ⟨gb401, 5, none⟩ = some (.slice A0_5 l0_5.length c0_5) := (blk_cell BK401.out 5).trans rfl; have hcz46_6 : w45.cell? ⟨gb401, 6, none⟩ = some (.slice A0_6 l0_6.length c0_6) := (blk_cell BK401.out 6).trans rfl; have hcz46_7 : w45.cell? ⟨gb401, 7, none⟩ = some (.slice A0_7 l0_7.length c0_7) := (blk_cell BK401.out 7).trans rfl; have hfz46_0 := blk_frozen BK401.out 0; have hfz46_1 := blk_frozen BK401.out 1; have hfz46_2 := blk_frozen BK401.out 2; have hfz46_3 := blk_frozen BK401.out 3; have hfz46_4 := blk_frozen BK401.out 4; have hfz46_5 := blk_frozen BK401.out 5; have hfz46_6 := blk_frozen BK401.out 6; have hfz46_7 := blk_frozen BK401.out 7))
         repeat (go_quiet (first | (go_at_call 88; (with_reducible refine (spec_IsValidType.calls kj20 a0_3 _ _ l0_4 _ _ l0_5 false _ ?side1 ?side2 ?side3 ?side4 A26.out).mono ?_); (case side1 => repeat (first | exact (Kd.C_below HR0_4.out HB.out) | (with_reducible refine Kd.C_alloc ?_ _) | (with_reducible refine Kd.C_drewN ?_ _) | (with_reducible refine Kd.C_drew ?_))); (case side2 => exact HC0_4.out); (case side3 => repeat (first | exact (Kd.C_below HR0_5.out HB.out) | (with_reducible refine Kd.C_alloc ?_ _) | (with_reducible refine Kd.C_drewN ?_ _) | (with_reducible refine Kd.C_drew ?_))); (case side4 => exact HC0_5.out); rintro e w45 ⟨rfl, hb⟩; have n0_ := Aside0.mk (blk_below (g := gb401) (o := .cells #[.int .i64 a0_0, .string a0_1, .int .i64 a0_2, .int .i64 a0_3, .slice A0_4 l0_4.length c0_4, .slice A0_5 l0_5.length c0_5, .slice A0_6 l0_6.length c0_6, .slice A0_7 l0_7.length c0_7] 36 (0, 0)) (by (with_reducible repeat (first | refine blk_drewN ?_ _ | refine blk_drew ?_ | refine blk_alloc ?_ _)); exact BK401.out) hb); have n1_ := Aside0.mk (below_step (by repeat (first | (with_reducible first | exact HB.out | apply below_alloc | apply pw_below_drewN | apply below_drew1 | refine below_set ?_ GE401.out) | exact HB.out)) hb); clear BK401; clear HB; have BK401 := n0_; have HB := n1_; clear n0_ n1_; (try clear hb); (try clear hb2); (try clear hk); (try clear hi); have hcz46_0 : w45.cell? ⟨gb401, 0, none⟩ = some (.int .i64 a0_0) := (blk_cell BK401.out 0).trans rfl; have hcz46_1 : w45.cell? ⟨gb401, 1, none⟩ = some (.string a0_1) := (blk_cell BK401.out 1).trans rfl; have hcz46_2 : w45.cell? ⟨gb401, 2, none⟩ = some (.int .i64 a0_2) := (blk_cell BK401.out 2).trans rfl; have hcz46_3 : w45.cell? ⟨gb401, 3, none⟩ = some (.int .i64 a0_3) := (blk_cell BK401.out 3).trans rfl; have hcz46_4 : w45.cell? ⟨gb401, 4, none⟩ = some (.slice A0_4 l0_4.length c0_4) := (blk_cell BK401.out 4).trans rfl; have hcz46_5 : w45.cell? ⟨gb401, 5, none⟩ = some (.slice A0_5 l0_5.length c0_5) := (blk_cell BK401.out 5).trans rfl; have hcz46_6 : w45.cell? ⟨gb401, 6, none⟩ = some (.slice A0_6 l0_6.length c0_6) := (blk_cell BK401.out 6).trans rfl; have hcz46_7 : w45.cell? ⟨gb401, 7, none⟩ = some (.slice A0_7 l0_7.length c0_7) := (blk_cell BK401.out 7).trans rfl; have hfz46_0 := blk_frozen BK401.out 0; have hfz46_1 := blk_frozen BK401.out 1; have hfz46_2 := blk_frozen BK401.out 2; have hfz46_3 := blk_frozen BK401.out 3; have hfz46_4 := blk_frozen BK401.out 4; have hfz46_5 := blk_frozen BK401.out 5; have hfz46_6 := blk_frozen BK401.out 6; have hfz46_7 := blk_frozen BK401.out 7)); try go_wp2_with (first | (go_at_call 88; (with_reducible refine (spec_IsValidType.calls kj20 a0_3 _ _ l0_4 _ _ l0_5 false _ ?side1 ?side2 ?side3 ?side4 A26.out).mono ?_); (case side1 => repeat (first | exact (Kd.C_below HR0_4.out HB.out) | (with_reducible refine Kd.C_alloc ?_ _) | (with_reducible refine Kd.C_drewN ?_ _) | (with_reducible refine Kd.C_drew ?_))); (case side2 => exact HC0_4.out); (case side3 => repeat (first | exact (Kd.C_below HR0_5.out HB.out) | (with_reducible refine Kd.C_alloc ?_ _) | (with_reducible refine Kd.C_drewN ?_ _) | (with_reducible refine Kd.C_drew ?_))); (case side4 => exact HC0_5.out); rintro e w45 ⟨rfl, hb⟩; have n0_ := Aside0.mk (blk_below (g := gb401) (o := .cells #[.int .i64 a0_0, .string a0_1, .int .i64 a0_2, .int .i64 a0_3, .slice A0_4 l0_4.length c0_4, .slice A0_5 l0_5.length c0_5, .slice A0_6 l0_6.length c0_6, .slice A0_7 l0_7.length c0_7] 36 (0, 0)) (by (with_reducible repeat (first | refine blk_drewN ?_ _ | refine blk_drew ?_ | refine blk_alloc ?_ _)); exact BK401.out) hb); have n1_ := Aside0.mk (below_step (by repeat (first | (with_reducible first | exact HB.out | apply below_alloc | apply pw_below_drewN | apply below_drew1 | refine below_set ?_ GE401.out) | exact HB.out)) hb); clear BK401; clear HB; have BK401 := n0_; have HB := n1_; clear n0_ n1_; (try clear hb); (try clear hb2); (try clear hk); (try clear hi); have hcz46_0 : w45.cell? ⟨gb401, 0, none⟩ = some (.int .i64 a0_0) := (blk_cell BK401.out 0).trans rfl; have hcz46_1 : w45.cell? ⟨gb401, 1, none⟩ = some (.string a0_1) := (blk_cell BK401.out 1).trans rfl; have hcz46_2 : w45.cell? ⟨gb401, 2, none⟩ = some (.int .i64 a0_2) := (blk_cell BK401.out 2).trans rfl; have hcz46_3 : w45.cell? ⟨gb401, 3, none⟩ = some (.int .i64 a0_3) := (blk_cell BK401.out 3).trans rfl; have hcz46_4 : w45.cell? ⟨gb401, 4, none⟩ = some (.slice A0_4 l0_4.length c0_4) := (blk_cell BK401.out 4).trans rfl; have hcz46_5 : w45.cell? ⟨gb401, 5, none⟩ = some (.slice A0_5 l0_5.length c0_5) := (blk_cell BK401.out 5).trans rfl; have hcz46_6 : w45.cell? ⟨gb401, 6, none⟩ = some (.slice A0_6 l0_6.length c0_6) := (blk_cell BK401.out 6).trans rfl; have hcz46_7 : w45.cell? ⟨gb401, 7, none⟩ = some (.slice A0_7 l0_7.length c0_7) := (blk_cell BK401.out 7).trans rfl; have hfz46_0 := blk_frozen BK401.out 0; have hfz46_1 := blk_frozen BK401.out 1; have hfz46_2 := blk_frozen BK401.out 2; have hfz46_3 := blk_frozen BK401.out 3; have hfz46_4 := blk_frozen BK401.out 4; have hfz46_5 := blk_frozen BK401.out 5; have hfz46_6 := blk_frozen BK401.out 6; have hfz46_7 := blk_frozen BK401.out 7)))
         go_meet
         case rel => exact ⟨_, (true), (by first | rfl | (simp; done) | (simp [i64_w, i32_w]; done) | (simp [*]; done)), H', ⟨by have := HJ1.out; have := HJ20.out; first | omega | exact Nat.le_refl _⟩, ⟨by (with_reducible repeat (first | refine blk_drewN ?_ _ | refine blk_drew ?_ | refine blk_alloc ?_ _)); exact BK401.out⟩, ⟨by repeat (first | (with_reducible first | exact HB.out | apply below_alloc | apply pw_below_drewN | apply below_drew1 | refine below_set ?_ GE401.out) | exact HB.out)⟩⟩
     case rest =>
      clear HC25
      (try clear c1); (try clear c2); (try clear p2); (try clear c3); (try clear c5); (try clear c5b0); (try clear c5b1); (try clear c9); (try clear c9b0); (try clear c9b1); (try clear c12); (try clear c13); (try clear c15); (try clear c16); (try clear c20); (try clear c20b0); (try clear c20b1); (try clear c22); (try clear c22b0); (try clear c22b1); (try clear c27); (try clear c28); (try clear c33); (try clear c36); (try clear c36b0); (try clear c36b1); (try clear c37); (try clear c37b0); (try clear c37b1); (try clear hcz14_0); (try clear hcz14_1); (try clear hcz14_2); (try clear hcz14_3); (try clear hcz14_4); (try clear hcz14_5); (try clear hcz14_6); (try clear hcz14_7); (try clear hcz15_0); (try clear hcz15_1); (try clear hcz15_2); (try clear hcz15_3); (try clear hcz15_4); (try clear hcz15_5); (try clear hcz15_6); (try clear hcz15_7); (try clear hcz17_0); (try clear hcz17_1); (try clear hcz17_2); (try clear hcz17_3); (try clear hcz17_4); (try clear hcz17_5); (try clear hcz17_6); (try clear hcz17_7); (try clear hcz19_0); (try clear hcz19_1); (try clear hcz19_2); (try clear hcz19_3); (try clear hcz19_4); (try clear hcz19_5); (try clear hcz19_6); (try clear hcz19_7); (try clear hcz23_0); (try clear hcz23_1); (try clear hcz23_2); (try clear hcz23_3); (try clear hcz23_4); (try clear hcz23_5); (try clear hcz23_6); (try clear hcz23_7); (try clear hcz24_0); (try clear hcz24_1); (try clear hcz24_2); (try clear hcz24_3); (try clear hcz24_4); (try clear hcz24_5); (try clear hcz24_6); (try clear hcz24_7); (try clear hcz29_0); (try clear hcz29_1); (try clear hcz29_2); (try clear hcz29_3); (try clear hcz29_4); (try clear hcz29_5); (try clear hcz29_6); (try clear hcz29_7); (try clear hcz31_0); (try clear hcz31_1); (try clear hcz31_2); (try clear hcz31_3); (try clear hcz31_4); (try clear hcz31_5); (try clear hcz31_6); (try clear hcz31_7); (try clear hcz34_0); (try clear hcz34_1); (try clear hcz34_2); (try clear hcz34_3); (try clear hcz34_4); (try clear hcz34_5); (try clear hcz34_6); (try clear hcz34_7); (try clear hcz38_0); (try clear hcz38_1); (try clear hcz38_2); (try clear hcz38_3); (try clear hcz38_4); (try clear hcz38_5); (try clear hcz38_6); (try clear hcz38_7); (try clear hcz40_0); (try clear hcz40_1); (try clear hcz40_2); (try clear hcz40_3); (try clear hcz40_4); (try clear hcz40_5); (try clear hcz40_6); (try clear hcz40_7); (try clear hcz41_0); (try clear hcz41_1); (try clear hcz41_2); (try clear hcz41_3); (try clear hcz41_4); (try clear hcz41_5); (try clear hcz41_6); (try clear hcz41_7); (try clear hcz43_0); (try clear hcz43_1); (try clear hcz43_2); (try clear hcz43_3); (try clear hcz43_4); (try clear hcz43_5); (try clear hcz43_6); (try clear hcz43_7); (try clear hcz44_0); (try clear hcz44_1); (try clear hcz44_2); (try clear hcz44_3); (try clear hcz44_4); (try clear hcz44_5); (try clear hcz44_6); (try clear hcz44_7); (try clear hcz46_0); (try clear hcz46_1); (try clear hcz46_2); (try clear hcz46_3); (try clear hcz46_4); (try clear hcz46_5); (try clear hcz46_6)
      (try clear hcz46_7); (try clear hcz4_0); (try clear hcz4_1); (try clear hcz4_2); (try clear hcz4_3); (try clear hcz4_4); (try clear hcz4_5); (try clear hcz4_6); (try clear hcz4_7); (try clear hcz8_0); (try clear hcz8_1); (try clear hcz8_2); (try clear hcz8_3); (try clear hcz8_4); (try clear hcz8_5); (try clear hcz8_6); (try clear hcz8_7); (try clear hfz14_0); (try clear hfz14_1); (try clear hfz14_2); (try clear hfz14_3); (try clear hfz14_4); (try clear hfz14_5); (try clear hfz14_6); (try clear hfz14_7); (try clear hfz15_0); (try clear hfz15_1); (try clear hfz15_2); (try clear hfz15_3); (try clear hfz15_4); (try clear hfz15_5); (try clear hfz15_6); (try clear hfz15_7); (try clear hfz17_0); (try clear hfz17_1); (try clear hfz17_2); (try clear hfz17_3); (try clear hfz17_4); (try clear hfz17_5); (try clear hfz17_6); (try clear hfz17_7); (try clear hfz19_0); (try clear hfz19_1); (try clear hfz19_2); (try clear hfz19_3); (try clear hfz19_4); (try clear hfz19_5); (try clear hfz19_6); (try clear hfz19_7); (try clear hfz23_0); (try clear hfz23_1); (try clear hfz23_2); (try clear hfz23_3); (try clear hfz23_4); (try clear hfz23_5); (try clear hfz23_6); (try clear hfz23_7); (try clear hfz24_0); (try clear hfz24_1); (try clear hfz24_2); (try clear hfz24_3); (try clear hfz24_4); (try clear hfz24_5); (try clear hfz24_6); (try clear hfz24_7); (try clear hfz29_0); (try clear hfz29_1); (try clear hfz29_2); (try clear hfz29_3); (try clear hfz29_4); (try clear hfz29_5); (try clear hfz29_6); (try clear hfz29_7); (try clear hfz31_0); (try clear hfz31_1); (try clear hfz31_2); (try clear hfz31_3); (try clear hfz31_4); (try clear hfz31_5); (try clear hfz31_6); (try clear hfz31_7); (try clear hfz34_0); (try clear hfz34_1); (try clear hfz34_2); (try clear hfz34_3); (try clear hfz34_4); (try clear hfz34_5); (try clear hfz34_6); (try clear hfz34_7); (try clear hfz38_0); (try clear hfz38_1); (try clear hfz38_2); (try clear hfz38_3); (try clear hfz38_4); (try clear hfz38_5); (try clear hfz38_6); (try clear hfz38_7); (try clear hfz40_0); (try clear hfz40_1); (try clear hfz40_2); (try clear hfz40_3); (try clear hfz40_4); (try clear hfz40_5); (try clear hfz40_6); (try clear hfz40_7); (try clear hfz41_0); (try clear hfz41_1); (try clear hfz41_2); (try clear hfz41_3); (try clear hfz41_4); (try clear hfz41_5); (try clear hfz41_6); (try clear hfz41_7); (try clear hfz43_0); (try clear hfz43_1); (try clear hfz43_2); (try clear hfz43_3); (try clear hfz43_4); (try clear hfz43_5); (try clear hfz43_6); (try clear hfz43_7); (try clear hfz44_0); (try clear hfz44_1); (try clear hfz44_2); (try clear hfz44_3); (try clear hfz44_4); (try clear hfz44_5); (try clear hfz44_6); (try clear hfz44_7); (try clear hfz46_0); (try clear hfz46_1); (try clear hfz46_2); (try clear hfz46_3); (try clear hfz46_4); (try clear hfz46_5); (try clear hfz46_6); (try clear hfz46_7); (try clear hfz4_0); (try clear hfz4_1); (try clear hfz4_2); (try clear hfz4_3); (try clear hfz4_4); (try clear hfz4_5); (try clear hfz4_6)
      (try clear hfz4_7); (try clear hfz8_0); (try clear hfz8_1); (try clear hfz8_2); (try clear hfz8_3); (try clear hfz8_4); (try clear hfz8_5); (try clear hfz8_6); (try clear hfz8_7); (try clear p2)
      obtain ⟨kq, x66_24, rfl, HA, HJ24, BK401, HB⟩ := hcut
      cases kq with
      | zero => exact absurd HA.out (by simp [spec_l7Fields.j2])
      | succ kj24 =>
       have H := HA.out
       clear HA
       simp only [spec_l7Fields.j2] at H
       by_cases c47 : x66_24 = true
       ·subst c47
        have H1 : (some false) = some r := by rw [if_pos rfl] at H; exact H
        clear H
        have H := H1
        clear H1
        obtain rfl := Option.some.inj H
        go_wp2
        repeat (go_quiet (fail); try go_wp2)
        go_ret
        exact ⟨by first | rfl | (simp [errW_none, errW_some] <;> rfl) | (simp [*, errW_none, errW_some] <;> rfl), by repeat (first | (with_reducible first | exact HB.out | apply below_alloc | apply pw_below_drewN | apply below_drew1 | refine below_set ?_ GE401.out) | exact HB.out)⟩
       ·replace c47 := Bool.eq_false_iff.mpr c47
        subst c47
        have H1 : (if a0_0 = 5 then ((spec_l3Labels.f kj24 l0_6).bind fun t406 => (if t406 = true then (spec_l7Fields.j3 kj24 false a0_0 a0_1 a0_2 a0_3 l0_4 l0_5 l0_6 l0_7) else (spec_l7Fields.j3 kj24 true a0_0 a0_1 a0_2 a0_3 l0_4 l0_5 l0_6 l0_7))) else (spec_l7Fields.j3 kj24 (decide ((l0_6.length : Int) > 0)) a0_0 a0_1 a0_2 a0_3 l0_4 l0_5 l0_6 l0_7)) = some r := by rw [if_neg (show ¬ (false = true) by decide)] at H; exact H
        clear H
        have H := H1
        clear H1
        have HC48 := Aside0.mk H
        clear H
        go_upto_region 9 with (fail)
        repeat (go_quiet (fail); go_upto_region 9 with (fail))
        go_cut [86] (fun v86 wc => ∃ (kq : Nat) (x86_47 : Bool), v86 = .bool x86_47 ∧ Aside0 (spec_l7Fields.j3 kq x86_47 a0_0 a0_1 a0_2 a0_3 l0_4 l0_5 l0_6 l0_7 = some r) ∧ Aside0 (kq ≤ kj24) ∧ Aside0 (wc.heap[gb401]? = some (.cells #[.int .i64 a0_0, .string a0_1, .int .i64 a0_2, .int .i64 a0_3, (.slice A0_4 l0_4.length c0_4), (.slice A0_5 l0_5.length c0_5), (.slice A0_6 l0_6.length c0_6), (.slice A0_7 l0_7.length c0_7)] 36 (0, 0))) ∧ Aside0 (Below w.heap.size w wc))
        case first =>
         have H := HC48.out
         clear HC48
         by_cases c49 : a0_0 = 5
         ·rw [if_pos c49] at H
          have c49b0 : (a0_0 == 5) = true := beq_iff_eq.mpr c49
          have c49b1 : (a0_0 != 5) = false := bne_eq_false_iff_eq.mpr c49
          clear c49
          (first | rw [c49b0] | (simp only [i64_w, i32_w]; rw [c49b0]) | (rw [c49b1]; (try simp only [Bool.not_true, Bool.not_false])) | skip)
          replace H := Option.bind_eq_some_iff.mp H
          obtain ⟨t406, A500, H⟩ := H
          replace H : (if t406 = true then (spec_l7Fields.j3 kj24 false a0_0 a0_1 a0_2 a0_3 l0_4 l0_5 l0_6 l0_7) else (spec_l7Fields.j3 kj24 true a0_0 a0_1 a0_2 a0_3 l0_4 l0_5 l0_6 l0_7)) = some r := H
          have A50 := Aside0.mk A500
          clear A500
          by_cases c51 : t406 = true
          ·subst c51
           have H1 : (spec_l7Fields.j3 kj24 false a0_0 a0_1 a0_2 a0_3 l0_4 l0_5 l0_6 l0_7) = some r := by rw [if_pos rfl] at H; exact H
           clear H
           have H := H1
           clear H1
           have H' := Aside0.mk H
           clear H
           have hcz52_0 : wc.cell? ⟨gb401, 0, none⟩ = some (.int .i64 a0_0) := (blk_cell BK401.out 0).trans rfl
           have hcz52_1 : wc.cell? ⟨gb401, 1, none⟩ = some (.string a0_1) := (blk_cell BK401.out 1).trans rfl
           have hcz52_2 : wc.cell? ⟨gb401, 2, none⟩ = some (.int .i64 a0_2) := (blk_cell BK401.out 2).trans rfl
           have hcz52_3 : wc.cell? ⟨gb401, 3, none⟩ = some (.int .i64 a0_3) := (blk_cell BK401.out 3).trans rfl
           have hcz52_4 : wc.cell? ⟨gb401, 4, none⟩ = some (.slice A0_4 l0_4.length c0_4) := (blk_cell BK401.out 4).trans rfl
           have hcz52_5 : wc.cell? ⟨gb401, 5, none⟩ = some (.slice A0_5 l0_5.length c0_5) := (blk_cell BK401.out 5).trans rfl
           have hcz52_6 : wc.cell? ⟨gb401, 6, none⟩ = some (.slice A0_6 l0_6.length c0_6) := (blk_cell BK401.out 6).trans rfl
           have hcz52_7 : wc.cell? ⟨gb401, 7, none⟩ = some (.slice A0_7 l0_7.length c0_7) := (blk_cell BK401.out 7).trans rfl
           have hfz52_0 := blk_frozen BK401.out 0
           have hfz52_1 := blk_frozen BK401.out 1
           have hfz52_2 := blk_frozen BK401.out 2
           have hfz52_3 := blk_frozen BK401.out 3
           have hfz52_4 := blk_frozen BK401.out 4
           have hfz52_5 := blk_frozen BK401.out 5
           have hfz52_6 := blk_frozen BK401.out 6
           have hfz52_7 := blk_frozen BK401.out 7
           go_wp2_with (first | (go_at_call 170; (with_reducible refine (spec_l3Labels.calls kj24 _ _ l0_6 true _ ?side1 ?side2 A50.out).mono ?_); (case side1 => repeat (first | exact (Kd.C_below HR0_6.out HB.out) | (with_reducible refine Kd.C_alloc ?_ _) | (with_reducible refine Kd.C_drewN ?_ _) | (with_reducible refine Kd.C_drew ?_))); (case side2 => exact HC0_6.out); rintro e w' ⟨rfl, ⟨nd, rfl⟩⟩; (try first | exact ⟨rfl, _, World.drewN_drewN _ _ _⟩ | exact ⟨rfl, _, Eq.trans (World.drewN_drewN _ _ _) (congrArg (World.drewN _) (Nat.add_assoc _ _ _))⟩)))
           repeat (go_quiet (first | (go_at_call 170; (with_reducible refine (spec_l3Labels.calls kj24 _ _ l0_6 true _ ?side1 ?side2 A50.out).mono ?_); (case side1 => repeat (first | exact (Kd.C_below HR0_6.out HB.out) | (with_reducible refine Kd.C_alloc ?_ _) | (with_reducible refine Kd.C_drewN ?_ _) | (with_reducible refine Kd.C_drew ?_))); (case side2 => exact HC0_6.out); rintro e w' ⟨rfl, ⟨nd, rfl⟩⟩; (try first | exact ⟨rfl, _, World.drewN_drewN _ _ _⟩ | exact ⟨rfl, _, Eq.trans (World.drewN_drewN _ _ _) (congrArg (World.drewN _) (Nat.add_assoc _ _ _))⟩))); try go_wp2_with (first | (go_at_call 170; (with_reducible refine (spec_l3Labels.calls kj24 _ _ l0_6 true _ ?side1 ?side2 A50.out).mono ?_); (case side1 => repeat (first | exact (Kd.C_below HR0_6.out HB.out) | (with_reducible refine Kd.C_alloc ?_ _) | (with_reducible refine Kd.C_drewN ?_ _) | (with_reducible refine Kd.C_drew ?_))); (case side2 => exact HC0_6.out); rintro e w' ⟨rfl, ⟨nd, rfl⟩⟩; (try first | exact ⟨rfl, _, World.drewN_drewN _ _ _⟩ | exact ⟨rfl, _, Eq.trans (World.drewN_drewN _ _ _) (congrArg (World.drewN _) (Nat.add_assoc _ _ _))⟩))))
           go_meet
           case rel => exact ⟨_, (false), (by first | rfl | (simp; done) | (simp [i64_w, i32_w]; done) | (simp [*]; done)), H', ⟨by have := HJ1.out; have := HJ20.out; have := HJ24.out; first | omega | exact Nat.le_refl _⟩, ⟨by (with_reducible repeat (first | refine blk_drewN ?_ _ | refine blk_drew ?_ | refine blk_alloc ?_ _)); exact BK401.out⟩, ⟨by repeat (first | (with_reducible first | exact HB.out | apply below_alloc | apply pw_below_drewN | apply below_drew1 | refine below_set ?_ GE401.out) | exact HB.out)⟩⟩
          ·replace c51 := Bool.eq_false_iff.mpr c51
           subst c51
           have H1 : (spec_l7Fields.j3 kj24 true a0_0 a0_1 a0_2 a0_3 l0_4 l0_5 l0_6 l0_7) = some r := by rw [if_neg (show ¬ (false = true) by decide)] at H; exact H
           clear H
           have H := H1
           clear H1
           have H' := Aside0.mk H
           clear H
           have hcz53_0 : wc.cell? ⟨gb401, 0, none⟩ = some (.int .i64 a0_0) := (blk_cell BK401.out 0).trans rfl
           have hcz53_1 : wc.cell? ⟨gb401, 1, none⟩ = some (.string a0_1) := (blk_cell BK401.out 1).trans rfl
           have hcz53_2 : wc.cell? ⟨gb401, 2, none⟩ = some (.int .i64 a0_2) := (blk_cell BK401.out 2).trans rfl
           have hcz53_3 : wc.cell? ⟨gb401, 3, none⟩ = some (.int .i64 a0_3) := (blk_cell BK401.out 3).trans rfl
           have hcz53_4 : wc.cell? ⟨gb401, 4, none⟩ = some (.slice A0_4 l0_4.length c0_4) := (blk_cell BK401.out 4).trans rfl
           have hcz53_5 : wc.cell? ⟨gb401, 5, none⟩ = some (.slice A0_5 l0_5.length c0_5) := (blk_cell BK401.out 5).trans rfl
           have hcz53_6 : wc.cell? ⟨gb401, 6, none⟩ = some (.slice A0_6 l0_6.length c0_6) := (blk_cell BK401.out 6).trans rfl
           have hcz53_7 : wc.cell? ⟨gb401, 7, none⟩ = some (.slice A0_7 l0_7.length c0_7) := (blk_cell BK401.out 7).trans rfl
           have hfz53_0 := blk_frozen BK401.out 0
           have hfz53_1 := blk_frozen BK401.out 1
           have hfz53_2 := blk_frozen BK401.out 2
           have hfz53_3 := blk_frozen BK401.out 3
           have hfz53_4 := blk_frozen BK401.out 4
           have hfz53_5 := blk_frozen BK401.out 5
           have hfz53_6 := blk_frozen BK401.out 6
           have hfz53_7 := blk_frozen BK401.out 7
           go_wp2_with (first | (go_at_call 170; (with_reducible refine (spec_l3Labels.calls kj24 _ _ l0_6 false _ ?side1 ?side2 A50.out).mono ?_); (case side1 => repeat (first | exact (Kd.C_below HR0_6.out HB.out) | (with_reducible refine Kd.C_alloc ?_ _) | (with_reducible refine Kd.C_drewN ?_ _) | (with_reducible refine Kd.C_drew ?_))); (case side2 => exact HC0_6.out); rintro e w' ⟨rfl, ⟨nd, rfl⟩⟩; (try first | exact ⟨rfl, _, World.drewN_drewN _ _ _⟩ | exact ⟨rfl, _, Eq.trans (World.drewN_drewN _ _ _) (congrArg (World.drewN _) (Nat.add_assoc _ _ _))⟩)))
           repeat (go_quiet (first | (go_at_call 170; (with_reducible refine (spec_l3Labels.calls kj24 _ _ l0_6 false _ ?side1 ?side2 A50.out).mono ?_); (case side1 => repeat (first | exact (Kd.C_below HR0_6.out HB.out) | (with_reducible refine Kd.C_alloc ?_ _) | (with_reducible refine Kd.C_drewN ?_ _) | (with_reducible refine Kd.C_drew ?_))); (case side2 => exact HC0_6.out); rintro e w' ⟨rfl, ⟨nd, rfl⟩⟩; (try first | exact ⟨rfl, _, World.drewN_drewN _ _ _⟩ | exact ⟨rfl, _, Eq.trans (World.drewN_drewN _ _ _) (congrArg (World.drewN _) (Nat.add_assoc _ _ _))⟩))); try go_wp2_with (first | (go_at_call 170; (with_reducible refine (spec_l3Labels.calls kj24 _ _ l0_6 false _ ?side1 ?side2 A50.out).mono ?_); (case side1 => repeat (first | exact (Kd.C_below HR0_6.out HB.out) | (with_reducible refine Kd.C_alloc ?_ _) | (with_reducible refine Kd.C_drewN ?_ _) | (with_reducible refine Kd.C_drew ?_))); (case side2 => exact HC0_6.out); rintro e w' ⟨rfl, ⟨nd, rfl⟩⟩; (try first | exact ⟨rfl, _, World.drewN_drewN _ _ _⟩ | exact ⟨rfl, _, Eq.trans (World.drewN_drewN _ _ _) (congrArg (World.drewN _) (Nat.add_assoc _ _ _))⟩))))
           go_meet
           case rel => exact ⟨_, (true), (by first | rfl | (simp; done) | (simp [i64_w, i32_w]; done) | (simp [*]; done)), H', ⟨by have := HJ1.out; have := HJ20.out; have := HJ24.out; first | omega | exact Nat.le_refl _⟩, ⟨by (with_reducible repeat (first | refine blk_drewN ?_ _ | refine blk_drew ?_ | refine blk_alloc ?_ _)); exact BK401.out⟩, ⟨by repeat (first | (with_reducible first | exact HB.out | apply below_alloc | apply pw_below_drewN | apply below_drew1 | refine below_set ?_ GE401.out) | exact HB.out)⟩⟩
         ·rw [if_neg c49] at H
          have c49b0 : (a0_0 == 5) = false := beq_eq_false_iff_ne.mpr c49
          have c49b1 : (a0_0 != 5) = true := bne_iff_ne.mpr c49
          (first | rw [c49b0] | (simp only [i64_w, i32_w]; rw [c49b0]) | (rw [c49b1]; (try simp only [Bool.not_true, Bool.not_false])) | skip)
          have H' := Aside0.mk H
          clear H
          have hcz54_0 : wc.cell? ⟨gb401, 0, none⟩ = some (.int .i64 a0_0) := (blk_cell BK401.out 0).trans rfl
          have hcz54_1 : wc.cell? ⟨gb401, 1, none⟩ = some (.string a0_1) := (blk_cell BK401.out 1).trans rfl
          have hcz54_2 : wc.cell? ⟨gb401, 2, none⟩ = some (.int .i64 a0_2) := (blk_cell BK401.out 2).trans rfl
          have hcz54_3 : wc.cell? ⟨gb401, 3, none⟩ = some (.int .i64 a0_3) := (blk_cell BK401.out 3).trans rfl
          have hcz54_4 : wc.cell? ⟨gb401, 4, none⟩ = some (.slice A0_4 l0_4.length c0_4) := (blk_cell BK401.out 4).trans rfl
          have hcz54_5 : wc.cell? ⟨gb401, 5, none⟩ = some (.slice A0_5 l0_5.length c0_5) := (blk_cell BK401.out 5).trans rfl
          have hcz54_6 : wc.cell? ⟨gb401, 6, none⟩ = some (.slice A0_6 l0_6.length c0_6) := (blk_cell BK401.out 6).trans rfl
          have hcz54_7 : wc.cell? ⟨gb401, 7, none⟩ = some (.slice A0_7 l0_7.length c0_7) := (blk_cell BK401.out 7).trans rfl
          have hfz54_0 := blk_frozen BK401.out 0
          have hfz54_1 := blk_frozen BK401.out 1
          have hfz54_2 := blk_frozen BK401.out 2
          have hfz54_3 := blk_frozen BK401.out 3
          have hfz54_4 := blk_frozen BK401.out 4
          have hfz54_5 := blk_frozen BK401.out 5
          have hfz54_6 := blk_frozen BK401.out 6
          have hfz54_7 := blk_frozen BK401.out 7
          go_wp2
          repeat (go_quiet (fail); try go_wp2)
          go_meet
          case rel => exact ⟨_, (decide ((l0_6.length : Int) > 0)), (by first | rfl | (simp; done) | (simp [i64_w, i32_w]; done) | (simp [*]; done)), H', ⟨by have := HJ1.out; have := HJ20.out; have := HJ24.out; first | omega | exact Nat.le_refl _⟩, ⟨by (with_reducible repeat (first | refine blk_drewN ?_ _ | refine blk_drew ?_ | refine blk_alloc ?_ _)); exact BK401.out⟩, ⟨by repeat (first | (with_reducible first | exact HB.out | apply below_alloc | apply pw_below_drewN | apply below_drew1 | refine below_set ?_ GE401.out) | exact HB.out)⟩⟩
        case rest =>
         clear HC48
         (try clear c1); (try clear c2); (try clear p2); (try clear c3); (try clear c4); (try clear c5); (try clear c5b0); (try clear c5b1); (try clear c9); (try clear c9b0); (try clear c9b1); (try clear c12); (try clear c13); (try clear c15); (try clear c16); (try clear c20); (try clear c20b0); (try clear c20b1); (try clear c22); (try clear c22b0); (try clear c22b1); (try clear c27); (try clear c28); (try clear c33); (try clear c36); (try clear c36b0); (try clear c36b1); (try clear c37); (try clear c37b0); (try clear c37b1); (try clear c47); (try clear c49); (try clear c49b0); (try clear c49b1); (try clear c51); (try clear hcz14_0); (try clear hcz14_1); (try clear hcz14_2); (try clear hcz14_3); (try clear hcz14_4); (try clear hcz14_5); (try clear hcz14_6); (try clear hcz14_7); (try clear hcz15_0); (try clear hcz15_1); (try clear hcz15_2); (try clear hcz15_3); (try clear hcz15_4); (try clear hcz15_5); (try clear hcz15_6); (try clear hcz15_7); (try clear hcz17_0); (try clear hcz17_1); (try clear hcz17_2); (try clear hcz17_3); (try clear hcz17_4); (try clear hcz17_5); (try clear hcz17_6); (try clear hcz17_7); (try clear hcz19_0); (try clear hcz19_1); (try clear hcz19_2); (try clear hcz19_3); (try clear hcz19_4); (try clear hcz19_5); (try clear hcz19_6); (try clear hcz19_7); (try clear hcz23_0); (try clear hcz23_1); (try clear hcz23_2); (try clear hcz23_3); (try clear hcz23_4); (try clear hcz23_5); (try clear hcz23_6); (try clear hcz23_7); (try clear hcz24_0); (try clear hcz24_1); (try clear hcz24_2); (try clear hcz24_3); (try clear hcz24_4); (try clear hcz24_5); (try clear hcz24_6); (try clear hcz24_7); (try clear hcz29_0); (try clear hcz29_1); (try clear hcz29_2); (try clear hcz29_3); (try clear hcz29_4); (try clear hcz29_5); (try clear hcz29_6); (try clear hcz29_7); (try clear hcz31_0); (try clear hcz31_1); (try clear hcz31_2); (try clear hcz31_3); (try clear hcz31_4); (try clear hcz31_5); (try clear hcz31_6); (try clear hcz31_7); (try clear hcz34_0); (try clear hcz34_1); (try clear hcz34_2); (try clear hcz34_3); (try clear hcz34_4); (try clear hcz34_5); (try clear hcz34_6); (try clear hcz34_7); (try clear hcz38_0); (try clear hcz38_1); (try clear hcz38_2); (try clear hcz38_3); (try clear hcz38_4); (try clear hcz38_5); (try clear hcz38_6); (try clear hcz38_7); (try clear hcz40_0); (try clear hcz40_1); (try clear hcz40_2); (try clear hcz40_3); (try clear hcz40_4); (try clear hcz40_5); (try clear hcz40_6); (try clear hcz40_7); (try clear hcz41_0); (try clear hcz41_1); (try clear hcz41_2); (try clear hcz41_3); (try clear hcz41_4); (try clear hcz41_5); (try clear hcz41_6); (try clear hcz41_7); (try clear hcz43_0); (try clear hcz43_1); (try clear hcz43_2); (try clear hcz43_3); (try clear hcz43_4); (try clear hcz43_5); (try clear hcz43_6); (try clear hcz43_7); (try clear hcz44_0); (try clear hcz44_1); (try clear hcz44_2); (try clear hcz44_3); (try clear hcz44_4); (try clear hcz44_5); (try clear hcz44_6); (try clear hcz44_7); (try clear hcz46_0); (try clear hcz46_1)
         (try clear hcz46_2); (try clear hcz46_3); (try clear hcz46_4); (try clear hcz46_5); (try clear hcz46_6); (try clear hcz46_7); (try clear hcz4_0); (try clear hcz4_1); (try clear hcz4_2); (try clear hcz4_3); (try clear hcz4_4); (try clear hcz4_5); (try clear hcz4_6); (try clear hcz4_7); (try clear hcz52_0); (try clear hcz52_1); (try clear hcz52_2); (try clear hcz52_3); (try clear hcz52_4); (try clear hcz52_5); (try clear hcz52_6); (try clear hcz52_7); (try clear hcz53_0); (try clear hcz53_1); (try clear hcz53_2); (try clear hcz53_3); (try clear hcz53_4); (try clear hcz53_5); (try clear hcz53_6); (try clear hcz53_7); (try clear hcz54_0); (try clear hcz54_1); (try clear hcz54_2); (try clear hcz54_3); (try clear hcz54_4); (try clear hcz54_5); (try clear hcz54_6); (try clear hcz54_7); (try clear hcz8_0); (try clear hcz8_1); (try clear hcz8_2); (try clear hcz8_3); (try clear hcz8_4); (try clear hcz8_5); (try clear hcz8_6); (try clear hcz8_7); (try clear hfz14_0); (try clear hfz14_1); (try clear hfz14_2); (try clear hfz14_3); (try clear hfz14_4); (try clear hfz14_5); (try clear hfz14_6); (try clear hfz14_7); (try clear hfz15_0); (try clear hfz15_1); (try clear hfz15_2); (try clear hfz15_3); (try clear hfz15_4); (try clear hfz15_5); (try clear hfz15_6); (try clear hfz15_7); (try clear hfz17_0); (try clear hfz17_1); (try clear hfz17_2); (try clear hfz17_3); (try clear hfz17_4); (try clear hfz17_5); (try clear hfz17_6); (try clear hfz17_7); (try clear hfz19_0); (try clear hfz19_1); (try clear hfz19_2); (try clear hfz19_3); (try clear hfz19_4); (try clear hfz19_5); (try clear hfz19_6); (try clear hfz19_7); (try clear hfz23_0); (try clear hfz23_1); (try clear hfz23_2); (try clear hfz23_3); (try clear hfz23_4); (try clear hfz23_5); (try clear hfz23_6); (try clear hfz23_7); (try clear hfz24_0); (try clear hfz24_1); (try clear hfz24_2); (try clear hfz24_3); (try clear hfz24_4); (try clear hfz24_5); (try clear hfz24_6); (try clear hfz24_7); (try clear hfz29_0); (try clear hfz29_1); (try clear hfz29_2); (try clear hfz29_3); (try clear hfz29_4); (try clear hfz29_5); (try clear hfz29_6); (try clear hfz29_7); (try clear hfz31_0); (try clear hfz31_1); (try clear hfz31_2); (try clear hfz31_3); (try clear hfz31_4); (try clear hfz31_5); (try clear hfz31_6); (try clear hfz31_7); (try clear hfz34_0); (try clear hfz34_1); (try clear hfz34_2); (try clear hfz34_3); (try clear hfz34_4); (try clear hfz34_5); (try clear hfz34_6); (try clear hfz34_7); (try clear hfz38_0); (try clear hfz38_1); (try clear hfz38_2); (try clear hfz38_3); (try clear hfz38_4); (try clear hfz38_5); (try clear hfz38_6); (try clear hfz38_7); (try clear hfz40_0); (try clear hfz40_1); (try clear hfz40_2); (try clear hfz40_3); (try clear hfz40_4); (try clear hfz40_5); (try clear hfz40_6); (try clear hfz40_7); (try clear hfz41_0); (try clear hfz41_1); (try clear hfz41_2); (try clear hfz41_3); (try clear hfz41_4); (try clear hfz41_5); (try clear hfz41_6); (try clear hfz41_7); (try clear hfz43_0); (try clear hfz43_1)
         (try clear hfz43_2); (try clear hfz43_3); (try clear hfz43_4); (try clear hfz43_5); (try clear hfz43_6); (try clear hfz43_7); (try clear hfz44_0); (try clear hfz44_1); (try clear hfz44_2); (try clear hfz44_3); (try clear hfz44_4); (try clear hfz44_5); (try clear hfz44_6); (try clear hfz44_7); (try clear hfz46_0); (try clear hfz46_1); (try clear hfz46_2); (try clear hfz46_3); (try clear hfz46_4); (try clear hfz46_5); (try clear hfz46_6); (try clear hfz46_7); (try clear hfz4_0); (try clear hfz4_1); (try clear hfz4_2); (try clear hfz4_3); (try clear hfz4_4); (try clear hfz4_5); (try clear hfz4_6); (try clear hfz4_7); (try clear hfz52_0); (try clear hfz52_1); (try clear hfz52_2); (try clear hfz52_3); (try clear hfz52_4); (try clear hfz52_5); (try clear hfz52_6); (try clear hfz52_7); (try clear hfz53_0); (try clear hfz53_1); (try clear hfz53_2); (try clear hfz53_3); (try clear hfz53_4); (try clear hfz53_5); (try clear hfz53_6); (try clear hfz53_7); (try clear hfz54_0); (try clear hfz54_1); (try clear hfz54_2); (try clear hfz54_3); (try clear hfz54_4); (try clear hfz54_5); (try clear hfz54_6); (try clear hfz54_7); (try clear hfz8_0); (try clear hfz8_1); (try clear hfz8_2); (try clear hfz8_3); (try clear hfz8_4); (try clear hfz8_5); (try clear hfz8_6); (try clear hfz8_7); (try clear p2)
         obtain ⟨kq, x86_47, rfl, HA, HJ47, BK401, HB⟩ := hcut
         cases kq with
         | zero => exact absurd HA.out (by simp [spec_l7Fields.j3])
         | succ kj47 =>
          have H := HA.out
          clear HA
          simp only [spec_l7Fields.j3] at H
          by_cases c55 : x86_47 = true
          ·subst c55
           have H1 : (some false) = some r := by rw [if_pos rfl] at H; exact H
           clear H
           have H := H1
           clear H1
           obtain rfl := Option.some.inj H
           go_wp2
           repeat (go_quiet (fail); try go_wp2)
           go_ret
           exact ⟨by first | rfl | (simp [errW_none, errW_some] <;> rfl) | (simp [*, errW_none, errW_some] <;> rfl), by repeat (first | (with_reducible first | exact HB.out | apply below_alloc | apply pw_below_drewN | apply below_drew1 | refine below_set ?_ GE401.out) | exact HB.out)⟩
          ·replace c55 := Bool.eq_false_iff.mpr c55
           subst c55
           have H1 : (if a0_0 = 2 then ((spec_l1In.f a0_2 0 999).bind fun t407 => (some t407)) else (if a0_0 = 3 then ((spec_l1In.f a0_2 0 1).bind fun t408 => (some t408)) else ((spec_l1In.f a0_2 0 0).bind fun t409 => (some t409)))) = some r := by rw [if_neg (show ¬ (false = true) by decide)] at H; exact H
           clear H
           have H := H1
           clear H1
           by_cases c56 : a0_0 = 2
           ·rw [if_pos c56] at H
            have c56b0 : (a0_0 == 2) = true := beq_iff_eq.mpr c56
            have c56b1 : (a0_0 != 2) = false := bne_eq_false_iff_eq.mpr c56
            clear c56
            replace H := Option.bind_eq_some_iff.mp H
            obtain ⟨t407, A570, H⟩ := H
            replace H : (some t407) = some r := H
            have A57 := Aside0.mk A570
            clear A570
            obtain rfl := Option.some.inj H
            have hcz58_0 : wc.cell? ⟨gb401, 0, none⟩ = some (.int .i64 a0_0) := (blk_cell BK401.out 0).trans rfl
            have hcz58_1 : wc.cell? ⟨gb401, 1, none⟩ = some (.string a0_1) := (blk_cell BK401.out 1).trans rfl
            have hcz58_2 : wc.cell? ⟨gb401, 2, none⟩ = some (.int .i64 a0_2) := (blk_cell BK401.out 2).trans rfl
            have hcz58_3 : wc.cell? ⟨gb401, 3, none⟩ = some (.int .i64 a0_3) := (blk_cell BK401.out 3).trans rfl
            have hcz58_4 : wc.cell? ⟨gb401, 4, none⟩ = some (.slice A0_4 l0_4.length c0_4) := (blk_cell BK401.out 4).trans rfl
            have hcz58_5 : wc.cell? ⟨gb401, 5, none⟩ = some (.slice A0_5 l0_5.length c0_5) := (blk_cell BK401.out 5).trans rfl
            have hcz58_6 : wc.cell? ⟨gb401, 6, none⟩ = some (.slice A0_6 l0_6.length c0_6) := (blk_cell BK401.out 6).trans rfl
            have hcz58_7 : wc.cell? ⟨gb401, 7, none⟩ = some (.slice A0_7 l0_7.length c0_7) := (blk_cell BK401.out 7).trans rfl
            have hfz58_0 := blk_frozen BK401.out 0
            have hfz58_1 := blk_frozen BK401.out 1
            have hfz58_2 := blk_frozen BK401.out 2
            have hfz58_3 := blk_frozen BK401.out 3
            have hfz58_4 := blk_frozen BK401.out 4
            have hfz58_5 := blk_frozen BK401.out 5
            have hfz58_6 := blk_frozen BK401.out 6
            have hfz58_7 := blk_frozen BK401.out 7
            go_wp2_with (first | (go_at_call 133; (with_reducible refine (spec_l1In.calls a0_2 0 999 t407 _ A57.out).mono ?_); rintro e w' ⟨rfl, ⟨nd, rfl⟩⟩; (try first | exact ⟨rfl, _, World.drewN_drewN _ _ _⟩ | exact ⟨rfl, _, Eq.trans (World.drewN_drewN _ _ _) (congrArg (World.drewN _) (Nat.add_assoc _ _ _))⟩)))
            repeat (go_quiet (first | (go_at_call 133; (with_reducible refine (spec_l1In.calls a0_2 0 999 t407 _ A57.out).mono ?_); rintro e w' ⟨rfl, ⟨nd, rfl⟩⟩; (try first | exact ⟨rfl, _, World.drewN_drewN _ _ _⟩ | exact ⟨rfl, _, Eq.trans (World.drewN_drewN _ _ _) (congrArg (World.drewN _) (Nat.add_assoc _ _ _))⟩))); try go_wp2_with (first | (go_at_call 133; (with_reducible refine (spec_l1In.calls a0_2 0 999 t407 _ A57.out).mono ?_); rintro e w' ⟨rfl, ⟨nd, rfl⟩⟩; (try first | exact ⟨rfl, _, World.drewN_drewN _ _ _⟩ | exact ⟨rfl, _, Eq.trans (World.drewN_drewN _ _ _) (congrArg (World.drewN _) (Nat.add_assoc _ _ _))⟩))))
            go_ret
            exact ⟨by first | rfl | (simp [errW_none, errW_some] <;> rfl) | (simp [*, errW_none, errW_some] <;> rfl), by repeat (first | (with_reducible first | exact HB.out | apply below_alloc | apply pw_below_drewN | apply below_drew1 | refine below_set ?_ GE401.out) | exact HB.out)⟩
           ·rw [if_neg c56] at H
            have c56b0 : (a0_0 == 2) = false := beq_eq_false_iff_ne.mpr c56
            have c56b1 : (a0_0 != 2) = true := bne_iff_ne.mpr c56
            by_cases c59 : a0_0 = 3
            ·rw [if_pos c59] at H
             have c59b0 : (a0_0 == 3) = true := beq_iff_eq.mpr c59
             have c59b1 : (a0_0 != 3) = false := bne_eq_false_iff_eq.mpr c59
             clear c59
             replace H := Option.bind_eq_some_iff.mp H
             obtain ⟨t408, A600, H⟩ := H
             replace H : (some t408) = some r := H
             have A60 := Aside0.mk A600
             clear A600
             obtain rfl := Option.some.inj H
             have hcz61_0 : wc.cell? ⟨gb401, 0, none⟩ = some (.int .i64 a0_0) := (blk_cell BK401.out 0).trans rfl
             have hcz61_1 : wc.cell? ⟨gb401, 1, none⟩ = some (.string a0_1) := (blk_cell BK401.out 1).trans rfl
             have hcz61_2 : wc.cell? ⟨gb401, 2, none⟩ = some (.int .i64 a0_2) := (blk_cell BK401.out 2).trans rfl
             have hcz61_3 : wc.cell? ⟨gb401, 3, none⟩ = some (.int .i64 a0_3) := (blk_cell BK401.out 3).trans rfl
             have hcz61_4 : wc.cell? ⟨gb401, 4, none⟩ = some (.slice A0_4 l0_4.length c0_4) := (blk_cell BK401.out 4).trans rfl
             have hcz61_5 : wc.cell? ⟨gb401, 5, none⟩ = some (.slice A0_5 l0_5.length c0_5) := (blk_cell BK401.out 5).trans rfl
             have hcz61_6 : wc.cell? ⟨gb401, 6, none⟩ = some (.slice A0_6 l0_6.length c0_6) := (blk_cell BK401.out 6).trans rfl
             have hcz61_7 : wc.cell? ⟨gb401, 7, none⟩ = some (.slice A0_7 l0_7.length c0_7) := (blk_cell BK401.out 7).trans rfl
             have hfz61_0 := blk_frozen BK401.out 0
             have hfz61_1 := blk_frozen BK401.out 1
             have hfz61_2 := blk_frozen BK401.out 2
             have hfz61_3 := blk_frozen BK401.out 3
             have hfz61_4 := blk_frozen BK401.out 4
             have hfz61_5 := blk_frozen BK401.out 5
             have hfz61_6 := blk_frozen BK401.out 6
             have hfz61_7 := blk_frozen BK401.out 7
             go_wp2_with (first | (go_at_call 133; (with_reducible refine (spec_l1In.calls a0_2 0 1 t408 _ A60.out).mono ?_); rintro e w' ⟨rfl, ⟨nd, rfl⟩⟩; (try first | exact ⟨rfl, _, World.drewN_drewN _ _ _⟩ | exact ⟨rfl, _, Eq.trans (World.drewN_drewN _ _ _) (congrArg (World.drewN _) (Nat.add_assoc _ _ _))⟩)))
             repeat (go_quiet (first | (go_at_call 133; (with_reducible refine (spec_l1In.calls a0_2 0 1 t408 _ A60.out).mono ?_); rintro e w' ⟨rfl, ⟨nd, rfl⟩⟩; (try first | exact ⟨rfl, _, World.drewN_drewN _ _ _⟩ | exact ⟨rfl, _, Eq.trans (World.drewN_drewN _ _ _) (congrArg (World.drewN _) (Nat.add_assoc _ _ _))⟩))); try go_wp2_with (first | (go_at_call 133; (with_reducible refine (spec_l1In.calls a0_2 0 1 t408 _ A60.out).mono ?_); rintro e w' ⟨rfl, ⟨nd, rfl⟩⟩; (try first | exact ⟨rfl, _, World.drewN_drewN _ _ _⟩ | exact ⟨rfl, _, Eq.trans (World.drewN_drewN _ _ _) (congrArg (World.drewN _) (Nat.add_assoc _ _ _))⟩))))
             go_ret
             exact ⟨by first | rfl | (simp [errW_none, errW_some] <;> rfl) | (simp [*, errW_none, errW_some] <;> rfl), by repeat (first | (with_reducible first | exact HB.out | apply below_alloc | apply pw_below_drewN | apply below_drew1 | refine below_set ?_ GE401.out) | exact HB.out)⟩
            ·rw [if_neg c59] at H
             have c59b0 : (a0_0 == 3) = false := beq_eq_false_iff_ne.mpr c59
             have c59b1 : (a0_0 != 3) = true := bne_iff_ne.mpr c59
             replace H := Option.bind_eq_some_iff.mp H
             obtain ⟨t409, A620, H⟩ := H
             replace H : (some t409) = some r := H
             have A62 := Aside0.mk A620
             clear A620
             obtain rfl := Option.some.inj H
             have hcz63_0 : wc.cell? ⟨gb401, 0, none⟩ = some (.int .i64 a0_0) := (blk_cell BK401.out 0).trans rfl
             have hcz63_1 : wc.cell? ⟨gb401, 1, none⟩ = some (.string a0_1) := (blk_cell BK401.out 1).trans rfl
             have hcz63_2 : wc.cell? ⟨gb401, 2, none⟩ = some (.int .i64 a0_2) := (blk_cell BK401.out 2).trans rfl
             have hcz63_3 : wc.cell? ⟨gb401, 3, none⟩ = some (.int .i64 a0_3) := (blk_cell BK401.out 3).trans rfl
             have hcz63_4 : wc.cell? ⟨gb401, 4, none⟩ = some (.slice A0_4 l0_4.length c0_4) := (blk_cell BK401.out 4).trans rfl
             have hcz63_5 : wc.cell? ⟨gb401, 5, none⟩ = some (.slice A0_5 l0_5.length c0_5) := (blk_cell BK401.out 5).trans rfl
             have hcz63_6 : wc.cell? ⟨gb401, 6, none⟩ = some (.slice A0_6 l0_6.length c0_6) := (blk_cell BK401.out 6).trans rfl
             have hcz63_7 : wc.cell? ⟨gb401, 7, none⟩ = some (.slice A0_7 l0_7.length c0_7) := (blk_cell BK401.out 7).trans rfl
             have hfz63_0 := blk_frozen BK401.out 0
             have hfz63_1 := blk_frozen BK401.out 1
             have hfz63_2 := blk_frozen BK401.out 2
             have hfz63_3 := blk_frozen BK401.out 3
             have hfz63_4 := blk_frozen BK401.out 4
             have hfz63_5 := blk_frozen BK401.out 5
             have hfz63_6 := blk_frozen BK401.out 6
             have hfz63_7 := blk_frozen BK401.out 7
             go_wp2_with (first | (go_at_call 133; (with_reducible refine (spec_l1In.calls a0_2 0 0 t409 _ A62.out).mono ?_); rintro e w' ⟨rfl, ⟨nd, rfl⟩⟩; (try first | exact ⟨rfl, _, World.drewN_drewN _ _ _⟩ | exact ⟨rfl, _, Eq.trans (World.drewN_drewN _ _ _) (congrArg (World.drewN _) (Nat.add_assoc _ _ _))⟩)))
             repeat (go_quiet (first | (go_at_call 133; (with_reducible refine (spec_l1In.calls a0_2 0 0 t409 _ A62.out).mono ?_); rintro e w' ⟨rfl, ⟨nd, rfl⟩⟩; (try first | exact ⟨rfl, _, World.drewN_drewN _ _ _⟩ | exact ⟨rfl, _, Eq.trans (World.drewN_drewN _ _ _) (congrArg (World.drewN _) (Nat.add_assoc _ _ _))⟩))); try go_wp2_with (first | (go_at_call 133; (with_reducible refine (spec_l1In.calls a0_2 0 0 t409 _ A62.out).mono ?_); rintro e w' ⟨rfl, ⟨nd, rfl⟩⟩; (try first | exact ⟨rfl, _, World.drewN_drewN _ _ _⟩ | exact ⟨rfl, _, Eq.trans (World.drewN_drewN _ _ _) (congrArg (World.drewN _) (Nat.add_assoc _ _ _))⟩))))
             go_ret
             exact ⟨by first | rfl | (simp [errW_none, errW_some] <;> rfl) | (simp [*, errW_none, errW_some] <;> rfl), by repeat (first | (with_reducible first | exact HB.out | apply below_alloc | apply pw_below_drewN | apply below_drew1 | refine below_set ?_ GE401.out) | exact HB.out)⟩

end Go.Proofs.Ytppgalehaiagaaa.Px

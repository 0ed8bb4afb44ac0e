/- Printed by a program of this session: what functions of the translation come to, each contract as it stands. No condition. -/
import Derived.Test.YtpckkjeapfdilaaDoorZSubstTermSh
import Derived.Test.YtpckkjeapfdilaaDoorProg
import Derived.Below
import Derived.Deep.Draws
import Derived.Deep.AppendLies
import Derived.Maps.AppendAt
import Derived.OwnWalk
import Derived.Laws.BytesArg
import Derived.Laws.MakeOwn
import Derived.Laws.OwnMore
import Derived.Deep.OwnRows
import Derived.Tactics
import Derived.Lib.ConvBytes
import Derived.Laws.Slices
import Derived.WalkKit
import Derived.KernelRfl
import Derived.RowKit3
import Derived.Deep.LoopGhost
import Derived.Deep.QuietTactic
import Derived.BigQuiet
import Derived.WideLaws
import Derived.Deep.DeepCutAuto
import Derived.Deep.CutBlock
import Derived.Deep.RegionHeld3
import Derived.Laws.Rows
import Derived.Lib.AppendStr
import Derived.ArgAppend
import Derived.Laws.IdiomCopy
import Derived.OrdersHeld
import Derived.Laws.BitsLemmas
import Derived.RowKit
import Derived.Laws.Cover1
import Derived.Test.YtpckkjeapfdilaaDoorZSubstTermWLastM
import Derived.Test.YtpckkjeapfdilaaDoorZSubstTermWWords
import Derived.Laws.StructEq
section
namespace Go.Proofs.YtpckkjeapfdilaaDoor.Px
open Go.RowKit Go.Proofs.YtpckkjeapfdilaaDoor.Ext Go.Proofs.YtpckkjeapfdilaaDoorW.PrintWords Go.Proofs.YtpckkjeapfdilaaDoorW.PrintLast Go.Proofs.YtpckkjeapfdilaaDoorW.PrintMore
attribute [local go_sem] max2_int min2_int max_two min_two max_three min_three max_four min_four   -- for this text's walks alone
set_option linter.unusedVariables false
set_option linter.unusedSimpArgs false



def errW : Option Int → Value
 | none => .nilIface
 | some c => .iface 0 (.int .i64 c)
theorem errW_none : errW none = .nilIface := rfl
theorem errW_some (c : Int) : errW (some c) = .iface 0 (.int .i64 c) := rfl

theorem info9 : (Tryd.prog.info? 9).map (fun i => (i.zero, i.size, i.bytes)) = some (some (.string ⟨#[]⟩), 1, 16) := by kernel_rfl
theorem info32 : (Tryd.prog.info? 32).map (fun i => (i.zero, i.size, i.bytes)) = some (some (.agg #[(.int .i64 0), (.slice none 0 0), (.slice none 0 0)]), 3, 56) := by kernel_rfl
theorem info35 : (Tryd.prog.info? 35).map (fun i => (i.zero, i.size, i.bytes)) = some (some (.agg #[(.int .i64 0), (.string ⟨#[]⟩), (.int .i64 0), (.int .i64 0), (.slice none 0 0), (.slice none 0 0), (.slice none 0 0), (.slice none 0 0)]), 8, 136) := by kernel_rfl
structure S25 where
 f0 : Int
 f1 : (List ByteArray)
 f2 : (List S25)
def z25 : S25 := ⟨(0 : Int), ([] : List ByteArray), ([] : List S25)⟩
def F25 (d : Kd S25) : Kd S25 := Kd.iso (Kd.pair (Kd.int .i64) (Kd.pair (Kd.slice 9 Kd.string) (Kd.slice 25 d))) (fun x : S25 => (x.f0, x.f1, x.f2))
theorem mono25 : Kd.Mono F25 := Kd.mono_iso _ (Kd.mono_pair (Kd.mono_const _) (Kd.mono_pair (Kd.mono_const _) (Kd.mono_slice 25 Kd.mono_id)))
theorem sub25 : Kd.Sub F25 [9, 25] := Kd.sub_iso _ (Kd.sub_pair (Kd.sub_const _ (by decide)) (Kd.sub_pair (Kd.sub_const _ (by decide)) (Kd.sub_slice 25 (by decide) Kd.sub_id)))
theorem sz25 : ∀ n, (Kd.upto F25 3 [9, 25] n).sz = 3 := Kd.upto_sz (fun _ => rfl)
def k25 : Kd S25 := Kd.fix F25 3 [9, 25] sz25 (Kd.upto_E sub25)
theorem k25_open {w : World} {x : S25} {cs : List Value} (h : k25.K w x cs) : ∃ A1 c1 A2 c2, cs = [.int .i64 x.f0, .slice A1 x.f1.length c1, .slice A2 x.f2.length c2] ∧ x.f1.length ≤ c1 ∧ Kd.string.C w A1 x.f1.length x.f1 ∧ x.f2.length ≤ c2 ∧ k25.C w A2 x.f2.length x.f2 := by
 obtain ⟨n, h⟩ := h
 cases n with
 | zero => exact h.elim
 | succ n =>
  obtain ⟨_, _, rfl, rfl, ⟨_, _, rfl, ⟨A1, c1, rfl, l1, g1⟩, ⟨A2, c2, rfl, l2, g2⟩⟩⟩ := h
  exact ⟨A1, c1, A2, c2, rfl, l1, g1, l2, Kd.fix_C g2⟩
theorem k25_mk (w : World) (x : S25) {A1 : Option Addr} {c1 : Nat} (l1 : x.f1.length ≤ c1) (g1 : Kd.string.C w A1 x.f1.length x.f1) {A2 : Option Addr} {c2 : Nat} (l2 : x.f2.length ≤ c2) (g2 : k25.C w A2 x.f2.length x.f2) : k25.K w x [.int .i64 x.f0, .slice A1 x.f1.length c1, .slice A2 x.f2.length c2] := by
 obtain ⟨n2, q2⟩ := Kd.fix_C_back mono25 g2
 have r2 := Kd.upto_C_le mono25 sz25 (show n2 ≤ n2 by omega) q2
 exact ⟨n2 + 1, ⟨[.int .i64 x.f0], [.slice A1 x.f1.length c1, .slice A2 x.f2.length c2], rfl, rfl, ⟨[.slice A1 x.f1.length c1], [.slice A2 x.f2.length c2], rfl, ⟨A1, c1, rfl, l1, g1⟩, ⟨A2, c2, rfl, l2, r2⟩⟩⟩⟩
def rd_T25 (xs : List S25) (i : Int) : S25 := xs.getD i.toNat z25
theorem at_T25 {w : World} {A : Option Addr} {n : Nat} {xs : List S25} (h : Kd.C k25 w A n xs) (i : Int) (h0 : 0 ≤ i) (h1 : i < n) : ∃ ad A1 c1 A2 c2, A = some ad ∧ w.cell? (ad.add (i.toNat * 3)) = some (.int .i64 (rd_T25 xs i).f0) ∧ w.cell? ⟨(ad.add (i.toNat * 3)).block, (ad.add (i.toNat * 3)).off + 1, none⟩ = some (.slice A1 (rd_T25 xs i).f1.length c1) ∧ w.cell? ⟨(ad.add (i.toNat * 3)).block, (ad.add (i.toNat * 3)).off + 2, none⟩ = some (.slice A2 (rd_T25 xs i).f2.length c2) ∧ (rd_T25 xs i).f1.length ≤ c1 ∧ Kd.string.C w A1 (rd_T25 xs i).f1.length (rd_T25 xs i).f1 ∧ (rd_T25 xs i).f2.length ≤ c2 ∧ k25.C w A2 (rd_T25 xs i).f2.length (rd_T25 xs i).f2 := by
 obtain ⟨ad, c, e, _, hK, hc0⟩ := Kd.C_get h z25 i h0 h1
 have hc : ∀ j u, c[j]? = some u → w.cell? (ad.add (i.toNat * 3 + j)) = some u := hc0
 obtain ⟨A1, c1, A2, c2, rfl, l1, g1, l2, g2⟩ := k25_open hK
 exact ⟨ad, A1, c1, A2, c2, e, hc 0 _ rfl, by rw [← add_field _ _ 1 (by omega)]; exact hc 1 _ rfl, by rw [← add_field _ _ 2 (by omega)]; exact hc 2 _ rfl, l1, g1, l2, g2⟩

structure S28 where
 f0 : Int
 f1 : ByteArray
 f2 : Int
 f3 : S25
 f4 : (List ByteArray)
 f5 : (List S28)
def z28 : S28 := ⟨(0 : Int), (⟨#[]⟩ : ByteArray), (0 : Int), z25, ([] : List ByteArray), ([] : List S28)⟩
def F28 (d : Kd S28) : Kd S28 := Kd.iso (Kd.pair (Kd.int .i64) (Kd.pair Kd.string (Kd.pair (Kd.int .i64) (Kd.pair k25 (Kd.pair (Kd.slice 9 Kd.string) (Kd.slice 28 d)))))) (fun x : S28 => (x.f0, x.f1, x.f2, x.f3, x.f4, x.f5))
theorem mono28 : Kd.Mono F28 := Kd.mono_iso _ (Kd.mono_pair (Kd.mono_const _) (Kd.mono_pair (Kd.mono_const _) (Kd.mono_pair (Kd.mono_const _) (Kd.mono_pair (Kd.mono_const _) (Kd.mono_pair (Kd.mono_const _) (Kd.mono_slice 28 Kd.mono_id))))))
theorem sub28 : Kd.Sub F28 [9, 25, 28] := Kd.sub_iso _ (Kd.sub_pair (Kd.sub_const _ (by decide)) (Kd.sub_pair (Kd.sub_const _ (by decide)) (Kd.sub_pair (Kd.sub_const _ (by decide)) (Kd.sub_pair (Kd.sub_const _ (by decide)) (Kd.sub_pair (Kd.sub_const _ (by decide)) (Kd.sub_slice 28 (by decide) Kd.sub_id))))))
theorem sz28 : ∀ n, (Kd.upto F28 8 [9, 25, 28] n).sz = 8 := Kd.upto_sz (fun _ => rfl)
def k28 : Kd S28 := Kd.fix F28 8 [9, 25, 28] sz28 (Kd.upto_E sub28)
theorem k28_open {w : World} {x : S28} {cs : List Value} (h : k28.K w x cs) : ∃ A4 c4 A5 c5 A6 c6 A7 c7, cs = [.int .i64 x.f0, .string x.f1, .int .i64 x.f2, .int .i64 x.f3.f0, .slice A4 x.f3.f1.length c4, .slice A5 x.f3.f2.length c5, .slice A6 x.f4.length c6, .slice A7 x.f5.length c7] ∧ x.f3.f1.length ≤ c4 ∧ Kd.string.C w A4 x.f3.f1.length x.f3.f1 ∧ x.f3.f2.length ≤ c5 ∧ k25.C w A5 x.f3.f2.length x.f3.f2 ∧ x.f4.length ≤ c6 ∧ Kd.string.C w A6 x.f4.length x.f4 ∧ x.f5.length ≤ c7 ∧ k28.C w A7 x.f5.length x.f5 := by
 obtain ⟨n, h⟩ := h
 cases n with
 | zero => exact h.elim
 | succ n =>
  obtain ⟨_, _, rfl, rfl, ⟨_, _, rfl, rfl, ⟨_, _, rfl, rfl, ⟨_, _, rfl, s3, ⟨_, _, rfl, ⟨A6, c6, rfl, l6, g6⟩, ⟨A7, c7, rfl, l7, g7⟩⟩⟩⟩⟩⟩ := h
  obtain ⟨A4, c4, A5, c5, rfl, l4, g4, l5, g5⟩ := k25_open s3
  exact ⟨A4, c4, A5, c5, A6, c6, A7, c7, rfl, l4, g4, l5, g5, l6, g6, l7, Kd.fix_C g7⟩
theorem k28_mk (w : World) (x : S28) {A4 : Option Addr} {c4 : Nat} (l4 : x.f3.f1.length ≤ c4) (g4 : Kd.string.C w A4 x.f3.f1.length x.f3.f1) {A5 : Option Addr} {c5 : Nat} (l5 : x.f3.f2.length ≤ c5) (g5 : k25.C w A5 x.f3.f2.length x.f3.f2) {A6 : Option Addr} {c6 : Nat} (l6 : x.f4.length ≤ c6) (g6 : Kd.string.C w A6 x.f4.length x.f4) {A7 : Option Addr} {c7 : Nat} (l7 : x.f5.length ≤ c7) (g7 : k28.C w A7 x.f5.length x.f5) : k28.K w x [.int .i64 x.f0, .string x.f1, .int .i64 x.f2, .int .i64 x.f3.f0, .slice A4 x.f3.f1.length c4, .slice A5 x.f3.f2.length c5, .slice A6 x.f4.length c6, .slice A7 x.f5.length c7] := by
 obtain ⟨n7, q7⟩ := Kd.fix_C_back mono28 g7
 have r7 := Kd.upto_C_le mono28 sz28 (show n7 ≤ n7 by omega) q7
 exact ⟨n7 + 1, ⟨[.int .i64 x.f0], [.string x.f1, .int .i64 x.f2, .int .i64 x.f3.f0, .slice A4 x.f3.f1.length c4, .slice A5 x.f3.f2.length c5, .slice A6 x.f4.length c6, .slice A7 x.f5.length c7], rfl, rfl, ⟨[.string x.f1], [.int .i64 x.f2, .int .i64 x.f3.f0, .slice A4 x.f3.f1.length c4, .slice A5 x.f3.f2.length c5, .slice A6 x.f4.length c6, .slice A7 x.f5.length c7], rfl, rfl, ⟨[.int .i64 x.f2], [.int .i64 x.f3.f0, .slice A4 x.f3.f1.length c4, .slice A5 x.f3.f2.length c5, .slice A6 x.f4.length c6, .slice A7 x.f5.length c7], rfl, rfl, ⟨[.int .i64 x.f3.f0, .slice A4 x.f3.f1.length c4, .slice A5 x.f3.f2.length c5], [.slice A6 x.f4.length c6, .slice A7 x.f5.length c7], rfl, (k25_mk w x.f3 l4 g4 l5 g5), ⟨[.slice A6 x.f4.length c6], [.slice A7 x.f5.length c7], rfl, ⟨A6, c6, rfl, l6, g6⟩, ⟨A7, c7, rfl, l7, r7⟩⟩⟩⟩⟩⟩⟩
def rd_T28 (xs : List S28) (i : Int) : S28 := xs.getD i.toNat z28
theorem at_T28 {w : World} {A : Option Addr} {n : Nat} {xs : List S28} (h : Kd.C k28 w A n xs) (i : Int) (h0 : 0 ≤ i) (h1 : i < n) : ∃ ad A4 c4 A5 c5 A6 c6 A7 c7, A = some ad ∧ w.cell? (ad.add (i.toNat * 8)) = some (.int .i64 (rd_T28 xs i).f0) ∧ w.cell? ⟨(ad.add (i.toNat * 8)).block, (ad.add (i.toNat * 8)).off + 1, none⟩ = some (.string (rd_T28 xs i).f1) ∧ w.cell? ⟨(ad.add (i.toNat * 8)).block, (ad.add (i.toNat * 8)).off + 2, none⟩ = some (.int .i64 (rd_T28 xs i).f2) ∧ w.cell? ⟨(ad.add (i.toNat * 8)).block, (ad.add (i.toNat * 8)).off + 3, none⟩ = some (.int .i64 (rd_T28 xs i).f3.f0) ∧ w.cell? ⟨(ad.add (i.toNat * 8)).block, (ad.add (i.toNat * 8)).off + 4, none⟩ = some (.slice A4 (rd_T28 xs i).f3.f1.length c4) ∧ w.cell? ⟨(ad.add (i.toNat * 8)).block, (ad.add (i.toNat * 8)).off + 5, none⟩ = some (.slice A5 (rd_T28 xs i).f3.f2.length c5) ∧ w.cell? ⟨(ad.add (i.toNat * 8)).block, (ad.add (i.toNat * 8)).off + 6, none⟩ = some (.slice A6 (rd_T28 xs i).f4.length c6) ∧ w.cell? ⟨(ad.add (i.toNat * 8)).block, (ad.add (i.toNat * 8)).off + 7, none⟩ = some (.slice A7 (rd_T28 xs i).f5.length c7) ∧ (rd_T28 xs i).f3.f1.length ≤ c4 ∧ Kd.string.C w A4 (rd_T28 xs i).f3.f1.length (rd_T28 xs i).f3.f1 ∧ (rd_T28 xs i).f3.f2.length ≤ c5 ∧ k25.C w A5 (rd_T28 xs i).f3.f2.length (rd_T28 xs i).f3.f2 ∧ (rd_T28 xs i).f4.length ≤ c6 ∧ Kd.string.C w A6 (rd_T28 xs i).f4.length (rd_T28 xs i).f4 ∧ (rd_T28 xs i).f5.length ≤ c7 ∧ k28.C w A7 (rd_T28 xs i).f5.length (rd_T28 xs i).f5 := by
 obtain ⟨ad, c, e, _, hK, hc0⟩ := Kd.C_get h z28 i h0 h1
 have hc : ∀ j u, c[j]? = some u → w.cell? (ad.add (i.toNat * 8 + j)) = some u := hc0
 obtain ⟨A4, c4, A5, c5, A6, c6, A7, c7, rfl, l4, g4, l5, g5, l6, g6, l7, g7⟩ := k28_open hK
 exact ⟨ad, A4, c4, A5, c5, A6, c6, A7, c7, e, hc 0 _ rfl, by rw [← add_field _ _ 1 (by omega)]; exact hc 1 _ rfl, by rw [← add_field _ _ 2 (by omega)]; exact hc 2 _ rfl, by rw [← add_field _ _ 3 (by omega)]; exact hc 3 _ rfl, by rw [← add_field _ _ 4 (by omega)]; exact hc 4 _ rfl, by rw [← add_field _ _ 5 (by omega)]; exact hc 5 _ rfl, by rw [← add_field _ _ 6 (by omega)]; exact hc 6 _ rfl, by rw [← add_field _ _ 7 (by omega)]; exact hc 7 _ rfl, l4, g4, l5, g5, l6, g6, l7, g7⟩

structure S32 where
 f0 : Int
 f1 : (List ByteArray)
 f2 : (List S32)
def z32 : S32 := ⟨(0 : Int), ([] : List ByteArray), ([] : List S32)⟩
def F32 (d : Kd S32) : Kd S32 := Kd.iso (Kd.pair (Kd.int .i64) (Kd.pair (Kd.slice 9 Kd.string) (Kd.slice 32 d))) (fun x : S32 => (x.f0, x.f1, x.f2))
theorem mono32 : Kd.Mono F32 := Kd.mono_iso _ (Kd.mono_pair (Kd.mono_const _) (Kd.mono_pair (Kd.mono_const _) (Kd.mono_slice 32 Kd.mono_id)))
theorem sub32 : Kd.Sub F32 [9, 32] := Kd.sub_iso _ (Kd.sub_pair (Kd.sub_const _ (by decide)) (Kd.sub_pair (Kd.sub_const _ (by decide)) (Kd.sub_slice 32 (by decide) Kd.sub_id)))
theorem sz32 : ∀ n, (Kd.upto F32 3 [9, 32] n).sz = 3 := Kd.upto_sz (fun _ => rfl)
def k32 : Kd S32 := Kd.fix F32 3 [9, 32] sz32 (Kd.upto_E sub32)
theorem k32_open {w : World} {x : S32} {cs : List Value} (h : k32.K w x cs) : ∃ A1 c1 A2 c2, cs = [.int .i64 x.f0, .slice A1 x.f1.length c1, .slice A2 x.f2.length c2] ∧ x.f1.length ≤ c1 ∧ Kd.string.C w A1 x.f1.length x.f1 ∧ x.f2.length ≤ c2 ∧ k32.C w A2 x.f2.length x.f2 := by
 obtain ⟨n, h⟩ := h
 cases n with
 | zero => exact h.elim
 | succ n =>
  obtain ⟨_, _, rfl, rfl, ⟨_, _, rfl, ⟨A1, c1, rfl, l1, g1⟩, ⟨A2, c2, rfl, l2, g2⟩⟩⟩ := h
  exact ⟨A1, c1, A2, c2, rfl, l1, g1, l2, Kd.fix_C g2⟩
theorem k32_openM {w : World} {base : Nat} {ok : Nat → Prop} {x : S32} {cs : List Value} (h : k32.M w base ok x cs) : ∃ v1 v2, cs = [.int .i64 x.f0, v1, v2] ∧ Kd.string.R 9 w base ok v1 x.f1 ∧ k32.R 32 w base ok v2 x.f2 := by
 obtain ⟨n, h⟩ := h
 cases n with
 | zero => exact h.elim
 | succ n =>
  obtain ⟨_, _, rfl, rfl, ⟨_, _, rfl, ⟨v1, rfl, g1⟩, ⟨v2, rfl, g2⟩⟩⟩ := h
  exact ⟨v1, v2, rfl, g1, Kd.fix_R g2⟩
theorem k32_mk (w : World) (x : S32) {A1 : Option Addr} {c1 : Nat} (l1 : x.f1.length ≤ c1) (g1 : Kd.string.C w A1 x.f1.length x.f1) {A2 : Option Addr} {c2 : Nat} (l2 : x.f2.length ≤ c2) (g2 : k32.C w A2 x.f2.length x.f2) : k32.K w x [.int .i64 x.f0, .slice A1 x.f1.length c1, .slice A2 x.f2.length c2] := by
 obtain ⟨n2, q2⟩ := Kd.fix_C_back mono32 g2
 have r2 := Kd.upto_C_le mono32 sz32 (show n2 ≤ n2 by omega) q2
 exact ⟨n2 + 1, ⟨[.int .i64 x.f0], [.slice A1 x.f1.length c1, .slice A2 x.f2.length c2], rfl, rfl, ⟨[.slice A1 x.f1.length c1], [.slice A2 x.f2.length c2], rfl, ⟨A1, c1, rfl, l1, g1⟩, ⟨A2, c2, rfl, l2, r2⟩⟩⟩⟩
theorem k32_mkM (w : World) (base : Nat) (ok : Nat → Prop) (x : S32) {v1 : Value} (g1 : Kd.string.R 9 w base ok v1 x.f1) {v2 : Value} (g2 : k32.R 32 w base ok v2 x.f2) : k32.M w base ok x [.int .i64 x.f0, v1, v2] := by
 obtain ⟨n2, q2⟩ := Kd.fix_R_back mono32 g2
 have r2 := Kd.upto_R_le mono32 sz32 (show n2 ≤ n2 by omega) q2
 exact ⟨n2 + 1, ⟨[.int .i64 x.f0], [v1, v2], rfl, rfl, ⟨[v1], [v2], rfl, ⟨v1, rfl, g1⟩, ⟨v2, rfl, r2⟩⟩⟩⟩
def rd_T32 (xs : List S32) (i : Int) : S32 := xs.getD i.toNat z32
theorem at_T32 {w : World} {A : Option Addr} {n : Nat} {xs : List S32} (h : Kd.C k32 w A n xs) (i : Int) (h0 : 0 ≤ i) (h1 : i < n) : ∃ ad A1 c1 A2 c2, A = some ad ∧ w.cell? (ad.add (i.toNat * 3)) = some (.int .i64 (rd_T32 xs i).f0) ∧ w.cell? ⟨(ad.add (i.toNat * 3)).block, (ad.add (i.toNat * 3)).off + 1, none⟩ = some (.slice A1 (rd_T32 xs i).f1.length c1) ∧ w.cell? ⟨(ad.add (i.toNat * 3)).block, (ad.add (i.toNat * 3)).off + 2, none⟩ = some (.slice A2 (rd_T32 xs i).f2.length c2) ∧ (rd_T32 xs i).f1.length ≤ c1 ∧ Kd.string.C w A1 (rd_T32 xs i).f1.length (rd_T32 xs i).f1 ∧ (rd_T32 xs i).f2.length ≤ c2 ∧ k32.C w A2 (rd_T32 xs i).f2.length (rd_T32 xs i).f2 := by
 obtain ⟨ad, c, e, _, hK, hc0⟩ := Kd.C_get h z32 i h0 h1
 have hc : ∀ j u, c[j]? = some u → w.cell? (ad.add (i.toNat * 3 + j)) = some u := hc0
 obtain ⟨A1, c1, A2, c2, rfl, l1, g1, l2, g2⟩ := k32_open hK
 exact ⟨ad, A1, c1, A2, c2, e, hc 0 _ rfl, by rw [← add_field _ _ 1 (by omega)]; exact hc 1 _ rfl, by rw [← add_field _ _ 2 (by omega)]; exact hc 2 _ rfl, l1, g1, l2, g2⟩

structure S35 where
 f0 : Int
 f1 : ByteArray
 f2 : Int
 f3 : S32
 f4 : (List ByteArray)
 f5 : (List S35)
def z35 : S35 := ⟨(0 : Int), (⟨#[]⟩ : ByteArray), (0 : Int), z32, ([] : List ByteArray), ([] : List S35)⟩
def F35 (d : Kd S35) : Kd S35 := Kd.iso (Kd.pair (Kd.int .i64) (Kd.pair Kd.string (Kd.pair (Kd.int .i64) (Kd.pair k32 (Kd.pair (Kd.slice 9 Kd.string) (Kd.slice 35 d)))))) (fun x : S35 => (x.f0, x.f1, x.f2, x.f3, x.f4, x.f5))
theorem mono35 : Kd.Mono F35 := Kd.mono_iso _ (Kd.mono_pair (Kd.mono_const _) (Kd.mono_pair (Kd.mono_const _) (Kd.mono_pair (Kd.mono_const _) (Kd.mono_pair (Kd.mono_const _) (Kd.mono_pair (Kd.mono_const _) (Kd.mono_slice 35 Kd.mono_id))))))
theorem sub35 : Kd.Sub F35 [9, 32, 35] := Kd.sub_iso _ (Kd.sub_pair (Kd.sub_const _ (by decide)) (Kd.sub_pair (Kd.sub_const _ (by decide)) (Kd.sub_pair (Kd.sub_const _ (by decide)) (Kd.sub_pair (Kd.sub_const _ (by decide)) (Kd.sub_pair (Kd.sub_const _ (by decide)) (Kd.sub_slice 35 (by decide) Kd.sub_id))))))
theorem sz35 : ∀ n, (Kd.upto F35 8 [9, 32, 35] n).sz = 8 := Kd.upto_sz (fun _ => rfl)
def k35 : Kd S35 := Kd.fix F35 8 [9, 32, 35] sz35 (Kd.upto_E sub35)
theorem k35_open {w : World} {x : S35} {cs : List Value} (h : k35.K w x cs) : ∃ A4 c4 A5 c5 A6 c6 A7 c7, cs = [.int .i64 x.f0, .string x.f1, .int .i64 x.f2, .int .i64 x.f3.f0, .slice A4 x.f3.f1.length c4, .slice A5 x.f3.f2.length c5, .slice A6 x.f4.length c6, .slice A7 x.f5.length c7] ∧ x.f3.f1.length ≤ c4 ∧ Kd.string.C w A4 x.f3.f1.length x.f3.f1 ∧ x.f3.f2.length ≤ c5 ∧ k32.C w A5 x.f3.f2.length x.f3.f2 ∧ x.f4.length ≤ c6 ∧ Kd.string.C w A6 x.f4.length x.f4 ∧ x.f5.length ≤ c7 ∧ k35.C w A7 x.f5.length x.f5 := by
 obtain ⟨n, h⟩ := h
 cases n with
 | zero => exact h.elim
 | succ n =>
  obtain ⟨_, _, rfl, rfl, ⟨_, _, rfl, rfl, ⟨_, _, rfl, rfl, ⟨_, _, rfl, s3, ⟨_, _, rfl, ⟨A6, c6, rfl, l6, g6⟩, ⟨A7, c7, rfl, l7, g7⟩⟩⟩⟩⟩⟩ := h
  obtain ⟨A4, c4, A5, c5, rfl, l4, g4, l5, g5⟩ := k32_open s3
  exact ⟨A4, c4, A5, c5, A6, c6, A7, c7, rfl, l4, g4, l5, g5, l6, g6, l7, Kd.fix_C g7⟩
theorem k35_openM {w : World} {base : Nat} {ok : Nat → Prop} {x : S35} {cs : List Value} (h : k35.M w base ok x cs) : ∃ v4 v5 v6 v7, cs = [.int .i64 x.f0, .string x.f1, .int .i64 x.f2, .int .i64 x.f3.f0, v4, v5, v6, v7] ∧ Kd.string.R 9 w base ok v4 x.f3.f1 ∧ k32.R 32 w base ok v5 x.f3.f2 ∧ Kd.string.R 9 w base ok v6 x.f4 ∧ k35.R 35 w base ok v7 x.f5 := by
 obtain ⟨n, h⟩ := h
 cases n with
 | zero => exact h.elim
 | succ n =>
  obtain ⟨_, _, rfl, rfl, ⟨_, _, rfl, rfl, ⟨_, _, rfl, rfl, ⟨_, _, rfl, s3, ⟨_, _, rfl, ⟨v6, rfl, g6⟩, ⟨v7, rfl, g7⟩⟩⟩⟩⟩⟩ := h
  obtain ⟨v4, v5, rfl, g4, g5⟩ := k32_openM s3
  exact ⟨v4, v5, v6, v7, rfl, g4, g5, g6, Kd.fix_R g7⟩
theorem k35_mk (w : World) (x : S35) {A4 : Option Addr} {c4 : Nat} (l4 : x.f3.f1.length ≤ c4) (g4 : Kd.string.C w A4 x.f3.f1.length x.f3.f1) {A5 : Option Addr} {c5 : Nat} (l5 : x.f3.f2.length ≤ c5) (g5 : k32.C w A5 x.f3.f2.length x.f3.f2) {A6 : Option Addr} {c6 : Nat} (l6 : x.f4.length ≤ c6) (g6 : Kd.string.C w A6 x.f4.length x.f4) {A7 : Option Addr} {c7 : Nat} (l7 : x.f5.length ≤ c7) (g7 : k35.C w A7 x.f5.length x.f5) : k35.K w x [.int .i64 x.f0, .string x.f1, .int .i64 x.f2, .int .i64 x.f3.f0, .slice A4 x.f3.f1.length c4, .slice A5 x.f3.f2.length c5, .slice A6 x.f4.length c6, .slice A7 x.f5.length c7] := by
 obtain ⟨n7, q7⟩ := Kd.fix_C_back mono35 g7
 have r7 := Kd.upto_C_le mono35 sz35 (show n7 ≤ n7 by omega) q7
 exact ⟨n7 + 1, ⟨[.int .i64 x.f0], [.string x.f1, .int .i64 x.f2, .int .i64 x.f3.f0, .slice A4 x.f3.f1.length c4, .slice A5 x.f3.f2.length c5, .slice A6 x.f4.length c6, .slice A7 x.f5.length c7], rfl, rfl, ⟨[.string x.f1], [.int .i64 x.f2, .int .i64 x.f3.f0, .slice A4 x.f3.f1.length c4, .slice A5 x.f3.f2.length c5, .slice A6 x.f4.length c6, .slice A7 x.f5.length c7], rfl, rfl, ⟨[.int .i64 x.f2], [.int .i64 x.f3.f0, .slice A4 x.f3.f1.length c4, .slice A5 x.f3.f2.length c5, .slice A6 x.f4.length c6, .slice A7 x.f5.length c7], rfl, rfl, ⟨[.int .i64 x.f3.f0, .slice A4 x.f3.f1.length c4, .slice A5 x.f3.f2.length c5], [.slice A6 x.f4.length c6, .slice A7 x.f5.length c7], rfl, (k32_mk w x.f3 l4 g4 l5 g5), ⟨[.slice A6 x.f4.length c6], [.slice A7 x.f5.length c7], rfl, ⟨A6, c6, rfl, l6, g6⟩, ⟨A7, c7, rfl, l7, r7⟩⟩⟩⟩⟩⟩⟩
theorem k35_mkM (w : World) (base : Nat) (ok : Nat → Prop) (x : S35) {v4 : Value} (g4 : Kd.string.R 9 w base ok v4 x.f3.f1) {v5 : Value} (g5 : k32.R 32 w base ok v5 x.f3.f2) {v6 : Value} (g6 : Kd.string.R 9 w base ok v6 x.f4) {v7 : Value} (g7 : k35.R 35 w base ok v7 x.f5) : k35.M w base ok x [.int .i64 x.f0, .string x.f1, .int .i64 x.f2, .int .i64 x.f3.f0, v4, v5, v6, v7] := by
 obtain ⟨n7, q7⟩ := Kd.fix_R_back mono35 g7
 have r7 := Kd.upto_R_le mono35 sz35 (show n7 ≤ n7 by omega) q7
 exact ⟨n7 + 1, ⟨[.int .i64 x.f0], [.string x.f1, .int .i64 x.f2, .int .i64 x.f3.f0, v4, v5, v6, v7], rfl, rfl, ⟨[.string x.f1], [.int .i64 x.f2, .int .i64 x.f3.f0, v4, v5, v6, v7], rfl, rfl, ⟨[.int .i64 x.f2], [.int .i64 x.f3.f0, v4, v5, v6, v7], rfl, rfl, ⟨[.int .i64 x.f3.f0, v4, v5], [v6, v7], rfl, (k32_mkM w base ok x.f3 g4 g5), ⟨[v6], [v7], rfl, ⟨v6, rfl, g6⟩, ⟨v7, rfl, r7⟩⟩⟩⟩⟩⟩⟩
def rd_T35 (xs : List S35) (i : Int) : S35 := xs.getD i.toNat z35
theorem at_T35 {w : World} {A : Option Addr} {n : Nat} {xs : List S35} (h : Kd.C k35 w A n xs) (i : Int) (h0 : 0 ≤ i) (h1 : i < n) : ∃ ad A4 c4 A5 c5 A6 c6 A7 c7, A = some ad ∧ w.cell? (ad.add (i.toNat * 8)) = some (.int .i64 (rd_T35 xs i).f0) ∧ w.cell? ⟨(ad.add (i.toNat * 8)).block, (ad.add (i.toNat * 8)).off + 1, none⟩ = some (.string (rd_T35 xs i).f1) ∧ w.cell? ⟨(ad.add (i.toNat * 8)).block, (ad.add (i.toNat * 8)).off + 2, none⟩ = some (.int .i64 (rd_T35 xs i).f2) ∧ w.cell? ⟨(ad.add (i.toNat * 8)).block, (ad.add (i.toNat * 8)).off + 3, none⟩ = some (.int .i64 (rd_T35 xs i).f3.f0) ∧ w.cell? ⟨(ad.add (i.toNat * 8)).block, (ad.add (i.toNat * 8)).off + 4, none⟩ = some (.slice A4 (rd_T35 xs i).f3.f1.length c4) ∧ w.cell? ⟨(ad.add (i.toNat * 8)).block, (ad.add (i.toNat * 8)).off + 5, none⟩ = some (.slice A5 (rd_T35 xs i).f3.f2.length c5) ∧ w.cell? ⟨(ad.add (i.toNat * 8)).block, (ad.add (i.toNat * 8)).off + 6, none⟩ = some (.slice A6 (rd_T35 xs i).f4.length c6) ∧ w.cell? ⟨(ad.add (i.toNat * 8)).block, (ad.add (i.toNat * 8)).off + 7, none⟩ = some (.slice A7 (rd_T35 xs i).f5.length c7) ∧ (rd_T35 xs i).f3.f1.length ≤ c4 ∧ Kd.string.C w A4 (rd_T35 xs i).f3.f1.length (rd_T35 xs i).f3.f1 ∧ (rd_T35 xs i).f3.f2.length ≤ c5 ∧ k32.C w A5 (rd_T35 xs i).f3.f2.length (rd_T35 xs i).f3.f2 ∧ (rd_T35 xs i).f4.length ≤ c6 ∧ Kd.string.C w A6 (rd_T35 xs i).f4.length (rd_T35 xs i).f4 ∧ (rd_T35 xs i).f5.length ≤ c7 ∧ k35.C w A7 (rd_T35 xs i).f5.length (rd_T35 xs i).f5 := by
 obtain ⟨ad, c, e, _, hK, hc0⟩ := Kd.C_get h z35 i h0 h1
 have hc : ∀ j u, c[j]? = some u → w.cell? (ad.add (i.toNat * 8 + j)) = some u := hc0
 obtain ⟨A4, c4, A5, c5, A6, c6, A7, c7, rfl, l4, g4, l5, g5, l6, g6, l7, g7⟩ := k35_open hK
 exact ⟨ad, A4, c4, A5, c5, A6, c6, A7, c7, e, hc 0 _ rfl, by rw [← add_field _ _ 1 (by omega)]; exact hc 1 _ rfl, by rw [← add_field _ _ 2 (by omega)]; exact hc 2 _ rfl, by rw [← add_field _ _ 3 (by omega)]; exact hc 3 _ rfl, by rw [← add_field _ _ 4 (by omega)]; exact hc 4 _ rfl, by rw [← add_field _ _ 5 (by omega)]; exact hc 5 _ rfl, by rw [← add_field _ _ 6 (by omega)]; exact hc 6 _ rfl, by rw [← add_field _ _ 7 (by omega)]; exact hc 7 _ rfl, l4, g4, l5, g5, l6, g6, l7, g7⟩

inductive W25 : S25 → Prop
 | mk {x : S25} : ((Lit.int .i64 x.f0).wf = true) → ((x.f1.length ≤ maxLen ∧ ∀ y ∈ x.f1, y.size ≤ maxLen)) → x.f2.length ≤ maxLen → (∀ y ∈ x.f2, W25 y) → W25 x
theorem W25.p0 {x : S25} (h : W25 x) : (Lit.int .i64 x.f0).wf = true := by cases h; assumption
theorem W25.p1 {x : S25} (h : W25 x) : (x.f1.length ≤ maxLen ∧ ∀ y ∈ x.f1, y.size ≤ maxLen) := by cases h; assumption
theorem W25.p2 {x : S25} (h : W25 x) : (x.f2.length ≤ maxLen ∧ ∀ y ∈ x.f2, W25 y) := by cases h; constructor <;> assumption
inductive W28 : S28 → Prop
 | mk {x : S28} : ((Lit.int .i64 x.f0).wf = true) → (x.f1.size ≤ maxLen) → ((Lit.int .i64 x.f2).wf = true) → (W25 x.f3) → ((x.f4.length ≤ maxLen ∧ ∀ y ∈ x.f4, y.size ≤ maxLen)) → x.f5.length ≤ maxLen → (∀ y ∈ x.f5, W28 y) → W28 x
theorem W28.p0 {x : S28} (h : W28 x) : (Lit.int .i64 x.f0).wf = true := by cases h; assumption
theorem W28.p1 {x : S28} (h : W28 x) : x.f1.size ≤ maxLen := by cases h; assumption
theorem W28.p2 {x : S28} (h : W28 x) : (Lit.int .i64 x.f2).wf = true := by cases h; assumption
theorem W28.p3 {x : S28} (h : W28 x) : W25 x.f3 := by cases h; assumption
theorem W28.p4 {x : S28} (h : W28 x) : (x.f4.length ≤ maxLen ∧ ∀ y ∈ x.f4, y.size ≤ maxLen) := by cases h; assumption
theorem W28.p5 {x : S28} (h : W28 x) : (x.f5.length ≤ maxLen ∧ ∀ y ∈ x.f5, W28 y) := by cases h; constructor <;> assumption
inductive W32 : S32 → Prop
 | mk {x : S32} : ((Lit.int .i64 x.f0).wf = true) → ((x.f1.length ≤ maxLen ∧ ∀ y ∈ x.f1, y.size ≤ maxLen)) → x.f2.length ≤ maxLen → (∀ y ∈ x.f2, W32 y) → W32 x
theorem W32.p0 {x : S32} (h : W32 x) : (Lit.int .i64 x.f0).wf = true := by cases h; assumption
theorem W32.p1 {x : S32} (h : W32 x) : (x.f1.length ≤ maxLen ∧ ∀ y ∈ x.f1, y.size ≤ maxLen) := by cases h; assumption
theorem W32.p2 {x : S32} (h : W32 x) : (x.f2.length ≤ maxLen ∧ ∀ y ∈ x.f2, W32 y) := by cases h; constructor <;> assumption
inductive W35 : S35 → Prop
 | mk {x : S35} : ((Lit.int .i64 x.f0).wf = true) → (x.f1.size ≤ maxLen) → ((Lit.int .i64 x.f2).wf = true) → (W32 x.f3) → ((x.f4.length ≤ maxLen ∧ ∀ y ∈ x.f4, y.size ≤ maxLen)) → x.f5.length ≤ maxLen → (∀ y ∈ x.f5, W35 y) → W35 x
theorem W35.p0 {x : S35} (h : W35 x) : (Lit.int .i64 x.f0).wf = true := by cases h; assumption
theorem W35.p1 {x : S35} (h : W35 x) : x.f1.size ≤ maxLen := by cases h; assumption
theorem W35.p2 {x : S35} (h : W35 x) : (Lit.int .i64 x.f2).wf = true := by cases h; assumption
theorem W35.p3 {x : S35} (h : W35 x) : W32 x.f3 := by cases h; assumption
theorem W35.p4 {x : S35} (h : W35 x) : (x.f4.length ≤ maxLen ∧ ∀ y ∈ x.f4, y.size ≤ maxLen) := by cases h; assumption
theorem W35.p5 {x : S35} (h : W35 x) : (x.f5.length ≤ maxLen ∧ ∀ y ∈ x.f5, W35 y) := by cases h; constructor <;> assumption
end Go.Proofs.YtpckkjeapfdilaaDoor.Px
end
section
namespace Go.Proofs.YtpckkjeapfdilaaDoor.Px
set_option maxHeartbeats 8000000
set_option maxRecDepth 100000
open Go.RowKit Go.Proofs.YtpckkjeapfdilaaDoor.Ext Go.Proofs.YtpckkjeapfdilaaDoorW.PrintWords Go.Proofs.YtpckkjeapfdilaaDoorW.PrintLast Go.Proofs.YtpckkjeapfdilaaDoorW.PrintMore
attribute [local go_sem] max2_int min2_int max_two min_two max_three min_three max_four min_four   -- for this text's walks alone
set_option linter.unusedVariables false
set_option linter.unusedSimpArgs false

def impl_binds.j0 : Nat → Bool → Int → List (S35) → Option (Int)
 | 0, _, _, _ => none
 | k + 1, x3, x700, x707 => if x3 = true then (some 1) else (if x700 = 13 then (if (x707.length : Int) = 1 then (some 0) else (some (-1))) else (some (-1)))
def impl_binds.f (k : Nat) (a0_0 : Int) (a0_1 : ByteArray) (a0_2 : Int) (a0_3 : Int) (l0_4 : List ByteArray) (l0_5 : List (S32)) (l0_6 : List ByteArray) (l0_7 : List (S35)) : Option (Int) := if a0_0 = 10 then (impl_binds.j0 k ((l0_7.length : Int) == 2) a0_0 l0_7) else (impl_binds.j0 k false a0_0 l0_7)
theorem impl_binds.calls (k : Nat) (ad0 : Addr) (a0_0 : Int) (a0_1 : ByteArray) (a0_2 : Int) (a0_3 : Int) (A0_4 : Option Addr) (c0_4 : Nat) (l0_4 : List ByteArray) (A0_5 : Option Addr) (c0_5 : Nat) (l0_5 : List (S32)) (A0_6 : Option Addr) (c0_6 : Nat) (l0_6 : List ByteArray) (A0_7 : Option Addr) (c0_7 : Nat) (l0_7 : List (S35)) (r : Int) (w : World) (hp0 : Cells w ad0 [.int .i64 a0_0, .string a0_1, .int .i64 a0_2, .int .i64 a0_3, .slice A0_4 l0_4.length c0_4, .slice A0_5 l0_5.length c0_5, .slice A0_6 l0_6.length c0_6, .slice A0_7 l0_7.length c0_7]) (hr0_4 : Kd.C Kd.string w A0_4 l0_4.length l0_4) (hc0_4 : l0_4.length ≤ c0_4) (hr0_5 : Kd.C k32 w A0_5 l0_5.length l0_5) (hc0_5 : l0_5.length ≤ c0_5) (hr0_6 : Kd.C Kd.string w A0_6 l0_6.length l0_6) (hc0_6 : l0_6.length ≤ c0_6) (hr0_7 : Kd.C k35 w A0_7 l0_7.length l0_7) (hc0_7 : l0_7.length ≤ c0_7) (h : impl_binds.f k a0_0 a0_1 a0_2 a0_3 l0_4 l0_5 l0_6 l0_7 = some r) :
  Calls Tryd.prog 27 #[.pointer (some ad0)] w fun e w' => e = .returned (.int .i64 r) ∧ Drawn0 w w' := by
 have HP0 := am hp0
 clear hp0
 have HR0_4 := am hr0_4
 have HC0_4 := am hc0_4
 clear hr0_4 hc0_4
 have HR0_5 := am hr0_5
 have HC0_5 := am hc0_5
 clear hr0_5 hc0_5
 have HR0_6 := am hr0_6
 have HC0_6 := am hc0_6
 clear hr0_6 hc0_6
 have HR0_7 := am hr0_7
 have HC0_7 := am hc0_7
 clear hr0_7 hc0_7
 have H : (if a0_0 = 10 then (impl_binds.j0 k ((l0_7.length : Int) == 2) a0_0 l0_7) else (impl_binds.j0 k false a0_0 l0_7)) = some r := h
 clear h
 have HC2 := am H
 clear H
 go_enter Tryd.func27, Tryd.ntmps27
 go_upto_region 1 with (fail)
 go_cut [3] (fun v3 wc => ∃ (kq : Nat) (x3_1 : Bool), v3 = .bool x3_1 ∧ Aside0 (impl_binds.j0 kq x3_1 a0_0 l0_7 = some r) ∧ Aside0 (kq ≤ k) ∧ Drawn0 w wc)
 case first =>
  have H := HC2.out
  clear HC2
  by_cases c3 : a0_0 = 10
  case neg =>
   rw [if_neg c3] at H
   have c3b0 : (a0_0 == 10) = false := beq_eq_false_iff_ne.mpr c3
   have c3b1 : (a0_0 != 10) = true := bne_iff_ne.mpr c3
   (first | rw [c3b0] | (simp only [i64_w, i32_w]; rw [c3b0]) | (rw [c3b1]; (try simp only [Bool.not_true, Bool.not_false])) | skip)
   have H' := am H
   clear H
   have hxr5_0 : w.cell? ad0 = some (.int .i64 a0_0) := HP0.out.1
   have hxr5_1 : w.cell? ⟨ad0.block, ad0.off + 1, none⟩ = some (.string a0_1) := HP0.out.2.1
   have hxr5_2 : w.cell? ⟨ad0.block, ad0.off + 2, none⟩ = some (.int .i64 a0_2) := HP0.out.2.2.1
   have hxr5_3 : w.cell? ⟨ad0.block, ad0.off + 3, none⟩ = some (.int .i64 a0_3) := HP0.out.2.2.2.1
   have hxr5_4 : w.cell? ⟨ad0.block, ad0.off + 4, none⟩ = some (.slice A0_4 l0_4.length c0_4) := HP0.out.2.2.2.2.1
   have hxr5_5 : w.cell? ⟨ad0.block, ad0.off + 5, none⟩ = some (.slice A0_5 l0_5.length c0_5) := HP0.out.2.2.2.2.2.1
   have hxr5_6 : w.cell? ⟨ad0.block, ad0.off + 6, none⟩ = some (.slice A0_6 l0_6.length c0_6) := HP0.out.2.2.2.2.2.2.1
   have hxr5_7 : w.cell? ⟨ad0.block, ad0.off + 7, none⟩ = some (.slice A0_7 l0_7.length c0_7) := HP0.out.2.2.2.2.2.2.2.1
   go_wp2
   go_meet
   case rel => exact ⟨_, (false), rfs, H', ⟨by first | omega | exact Nat.le_refl _⟩, by repeat (first | exact Drawn0.refl _ | apply Drawn0.step)⟩
  rw [if_pos c3] at H
  have c3b0 : (a0_0 == 10) = true := beq_iff_eq.mpr c3
  have c3b1 : (a0_0 != 10) = false := bne_eq_false_iff_eq.mpr c3
  clear c3
  (first | rw [c3b0] | (simp only [i64_w, i32_w]; rw [c3b0]) | (rw [c3b1]; (try simp only [Bool.not_true, Bool.not_false])) | skip)
  have H' := am H
  clear H
  have hxr4_0 : w.cell? ad0 = some (.int .i64 a0_0) := HP0.out.1
  have hxr4_1 : w.cell? ⟨ad0.block, ad0.off + 1, none⟩ = some (.string a0_1) := HP0.out.2.1
  have hxr4_2 : w.cell? ⟨ad0.block, ad0.off + 2, none⟩ = some (.int .i64 a0_2) := HP0.out.2.2.1
  have hxr4_3 : w.cell? ⟨ad0.block, ad0.off + 3, none⟩ = some (.int .i64 a0_3) := HP0.out.2.2.2.1
  have hxr4_4 : w.cell? ⟨ad0.block, ad0.off + 4, none⟩ = some (.slice A0_4 l0_4.length c0_4) := HP0.out.2.2.2.2.1
  have hxr4_5 : w.cell? ⟨ad0.block, ad0.off + 5, none⟩ = some (.slice A0_5 l0_5.length c0_5) := HP0.out.2.2.2.2.2.1
  have hxr4_6 : w.cell? ⟨ad0.block, ad0.off + 6, none⟩ = some (.slice A0_6 l0_6.length c0_6) := HP0.out.2.2.2.2.2.2.1
  have hxr4_7 : w.cell? ⟨ad0.block, ad0.off + 7, none⟩ = some (.slice A0_7 l0_7.length c0_7) := HP0.out.2.2.2.2.2.2.2.1
  go_wp2
  go_meet
  case rel => exact ⟨_, (((l0_7.length : Int) == 2)), rfs, H', ⟨by first | omega | exact Nat.le_refl _⟩, by repeat (first | exact Drawn0.refl _ | apply Drawn0.step)⟩
 case rest =>
  clear HC2
  (try clear c2); (try clear p2); (try clear c3); (try clear c3b0); (try clear c3b1)
  obtain ⟨kq, x3_1, rfl, HA, HJ1, ⟨mc1, rfl⟩⟩ := hcut
  cases kq with
  | zero => exact absurd HA.out (by simp [impl_binds.j0])
  | succ kj1 =>
   have H := HA.out
   clear HA
   simp only [impl_binds.j0] at H
   by_cases c6 : x3_1 = true
   ·subst c6
    have H1 : (some 1) = some r := by rw [if_pos rfl] at H; exact H
    clear H
    have H := H1
    clear H1
    obtain rfl := Option.some.inj H
    go_wp2
    go_ret
    exact ⟨rfs, by repeat (first | exact Drawn0.refl _ | apply Drawn0.step)⟩
   replace c6 := Bool.eq_false_iff.mpr c6
   subst c6
   have H1 : (if a0_0 = 13 then (if (l0_7.length : Int) = 1 then (some 0) else (some (-1))) else (some (-1))) = some r := by rw [if_neg (show ¬ (false = true) by decide)] at H; exact H
   clear H
   have H := H1
   clear H1
   by_cases c7 : a0_0 = 13
   case neg =>
    rw [if_neg c7] at H
    have c7b0 : (a0_0 == 13) = false := beq_eq_false_iff_ne.mpr c7
    have c7b1 : (a0_0 != 13) = true := bne_iff_ne.mpr c7
    obtain rfl := Option.some.inj H
    have hxr11_0 : w.cell? ad0 = some (.int .i64 a0_0) := HP0.out.1
    have hxr11_1 : w.cell? ⟨ad0.block, ad0.off + 1, none⟩ = some (.string a0_1) := HP0.out.2.1
    have hxr11_2 : w.cell? ⟨ad0.block, ad0.off + 2, none⟩ = some (.int .i64 a0_2) := HP0.out.2.2.1
    have hxr11_3 : w.cell? ⟨ad0.block, ad0.off + 3, none⟩ = some (.int .i64 a0_3) := HP0.out.2.2.2.1
    have hxr11_4 : w.cell? ⟨ad0.block, ad0.off + 4, none⟩ = some (.slice A0_4 l0_4.length c0_4) := HP0.out.2.2.2.2.1
    have hxr11_5 : w.cell? ⟨ad0.block, ad0.off + 5, none⟩ = some (.slice A0_5 l0_5.length c0_5) := HP0.out.2.2.2.2.2.1
    have hxr11_6 : w.cell? ⟨ad0.block, ad0.off + 6, none⟩ = some (.slice A0_6 l0_6.length c0_6) := HP0.out.2.2.2.2.2.2.1
    have hxr11_7 : w.cell? ⟨ad0.block, ad0.off + 7, none⟩ = some (.slice A0_7 l0_7.length c0_7) := HP0.out.2.2.2.2.2.2.2.1
    go_wp2
    go_ret
    exact ⟨rfs, by repeat (first | exact Drawn0.refl _ | apply Drawn0.step)⟩
   rw [if_pos c7] at H
   have c7b0 : (a0_0 == 13) = true := beq_iff_eq.mpr c7
   have c7b1 : (a0_0 != 13) = false := bne_eq_false_iff_eq.mpr c7
   clear c7
   by_cases c8 : (l0_7.length : Int) = 1
   case neg =>
    rw [if_neg c8] at H
    have c8b0 : ((l0_7.length : Int) == 1) = false := beq_eq_false_iff_ne.mpr c8
    have c8b1 : ((l0_7.length : Int) != 1) = true := bne_iff_ne.mpr c8
    obtain rfl := Option.some.inj H
    have hxr10_0 : w.cell? ad0 = some (.int .i64 a0_0) := HP0.out.1
    have hxr10_1 : w.cell? ⟨ad0.block, ad0.off + 1, none⟩ = some (.string a0_1) := HP0.out.2.1
    have hxr10_2 : w.cell? ⟨ad0.block, ad0.off + 2, none⟩ = some (.int .i64 a0_2) := HP0.out.2.2.1
    have hxr10_3 : w.cell? ⟨ad0.block, ad0.off + 3, none⟩ = some (.int .i64 a0_3) := HP0.out.2.2.2.1
    have hxr10_4 : w.cell? ⟨ad0.block, ad0.off + 4, none⟩ = some (.slice A0_4 l0_4.length c0_4) := HP0.out.2.2.2.2.1
    have hxr10_5 : w.cell? ⟨ad0.block, ad0.off + 5, none⟩ = some (.slice A0_5 l0_5.length c0_5) := HP0.out.2.2.2.2.2.1
    have hxr10_6 : w.cell? ⟨ad0.block, ad0.off + 6, none⟩ = some (.slice A0_6 l0_6.length c0_6) := HP0.out.2.2.2.2.2.2.1
    have hxr10_7 : w.cell? ⟨ad0.block, ad0.off + 7, none⟩ = some (.slice A0_7 l0_7.length c0_7) := HP0.out.2.2.2.2.2.2.2.1
    go_wp2
    go_ret
    exact ⟨rfs, by repeat (first | exact Drawn0.refl _ | apply Drawn0.step)⟩
   rw [if_pos c8] at H
   have c8b0 : ((l0_7.length : Int) == 1) = true := beq_iff_eq.mpr c8
   have c8b1 : ((l0_7.length : Int) != 1) = false := bne_eq_false_iff_eq.mpr c8
   clear c8
   obtain rfl := Option.some.inj H
   have hxr9_0 : w.cell? ad0 = some (.int .i64 a0_0) := HP0.out.1
   have hxr9_1 : w.cell? ⟨ad0.block, ad0.off + 1, none⟩ = some (.string a0_1) := HP0.out.2.1
   have hxr9_2 : w.cell? ⟨ad0.block, ad0.off + 2, none⟩ = some (.int .i64 a0_2) := HP0.out.2.2.1
   have hxr9_3 : w.cell? ⟨ad0.block, ad0.off + 3, none⟩ = some (.int .i64 a0_3) := HP0.out.2.2.2.1
   have hxr9_4 : w.cell? ⟨ad0.block, ad0.off + 4, none⟩ = some (.slice A0_4 l0_4.length c0_4) := HP0.out.2.2.2.2.1
   have hxr9_5 : w.cell? ⟨ad0.block, ad0.off + 5, none⟩ = some (.slice A0_5 l0_5.length c0_5) := HP0.out.2.2.2.2.2.1
   have hxr9_6 : w.cell? ⟨ad0.block, ad0.off + 6, none⟩ = some (.slice A0_6 l0_6.length c0_6) := HP0.out.2.2.2.2.2.2.1
   have hxr9_7 : w.cell? ⟨ad0.block, ad0.off + 7, none⟩ = some (.slice A0_7 l0_7.length c0_7) := HP0.out.2.2.2.2.2.2.2.1
   go_wp2
   go_ret
   exact ⟨rfs, by repeat (first | exact Drawn0.refl _ | apply Drawn0.step)⟩

def slices_Index_string_string.l0 : Nat → List ByteArray → ByteArray → Int → Int → Option (Int)
 | 0, _, _, _, _ => none
 | k + 1, x0, x1, x7, x8 => if x8 < x7 then (if 0 ≤ x8 then (if x8 < (x0.length : Int) then (if x1.toList = (rdOf ByteArray.empty x0 x8).toList then (some x8) else (slices_Index_string_string.l0 k x0 x1 x7 (wrap64 (x8 + 1)))) else (none)) else (none)) else (some (-1))
def slices_Index_string_string.f (k : Nat) (l0 : List ByteArray) (a1 : ByteArray) : Option (Int) := slices_Index_string_string.l0 k l0 a1 (l0.length : Int) 0
theorem slices_Index_string_string.calls (k : Nat) (A0 : Option Addr) (c0 : Nat) (l0 : List ByteArray) (a1 : ByteArray) (r : Int) (w : World) (hr0 : Kd.C Kd.string w A0 l0.length l0) (hc0 : l0.length ≤ c0) (h : slices_Index_string_string.f k l0 a1 = some r) :
  Calls Tryd.prog 47 #[.slice A0 l0.length c0, .string a1] w fun e w' => e = .returned (.int .i64 r) ∧ Drawn0 w w' := by
 have HR0 := am hr0
 have HC0 := am hc0
 clear hr0 hc0
 have H : (slices_Index_string_string.l0 k l0 a1 (l0.length : Int) 0) = some r := h
 clear h
 have H' := am H
 clear H
 go_enter Tryd.func47, Tryd.ntmps47
 go_wp2
 go_loopg [8] k (fun kq v8 w' => ∃ (x8_1 : Int), v8 = .int .i64 x8_1 ∧ Aside0 (slices_Index_string_string.l0 kq l0 a1 (l0.length : Int) x8_1 = some r) ∧ Aside0 (kq ≤ k) ∧ Drawn0 w w')
 case atStart => exact ⟨(0), rfs, H', ⟨Nat.le_refl _⟩, by repeat (first | exact Drawn0.refl _ | apply Drawn0.step)⟩
 case round =>
  clear H'
  try clear p2
  obtain ⟨x8_1, rfl, HA, HK1, ⟨m1, rfl⟩⟩ := hrel
  cases gk with
  | zero => exact absurd HA.out (by simp [slices_Index_string_string.l0])
  | succ k1 =>
   have H := HA.out
   clear HA
   simp only [slices_Index_string_string.l0] at H
   by_cases c3 : x8_1 < (l0.length : Int)
   case neg =>
    rw [if_neg c3] at H
    have c3b0 : decide (x8_1 < (l0.length : Int)) = false := decide_eq_false c3
    clear c3
    obtain rfl := Option.some.inj H
    go_wp2
    go_ret
    exact ⟨rfs, by repeat (first | exact Drawn0.refl _ | apply Drawn0.step)⟩
   rw [if_pos c3] at H
   have c3b0 : decide (x8_1 < (l0.length : Int)) = true := decide_eq_true c3
   clear c3
   by_cases c4 : 0 ≤ x8_1
   case neg =>
    rw [if_neg c4] at H
    exact absurd H (by simp)
   rw [if_pos c4] at H
   have c4b0 : decide (0 ≤ x8_1) = true := decide_eq_true c4
   clear c4
   by_cases c5 : x8_1 < (l0.length : Int)
   case neg =>
    rw [if_neg c5] at H
    exact absurd H (by simp)
   rw [if_pos c5] at H
   have c5b0 : decide (x8_1 < (l0.length : Int)) = true := decide_eq_true c5
   clear c5
   by_cases c6 : a1.toList = (rdOf ByteArray.empty l0 x8_1).toList
   ·rw [if_pos c6] at H
    have c6b0 : (a1.toList == (rdOf ByteArray.empty l0 x8_1).toList) = true := beq_iff_eq.mpr c6
    have c6b1 : (a1.toList != (rdOf ByteArray.empty l0 x8_1).toList) = false := bne_eq_false_iff_eq.mpr c6
    clear c6
    obtain rfl := Option.some.inj H
    have p461 : 0 ≤ (x8_1 : Int) := of_decide_eq_true asw
    have q461 : x8_1 < (l0.length : Int) := of_decide_eq_true asw
    obtain ⟨ad461, e461, hx461_0⟩ := Kd.at_string HR0.out x8_1 p461 q461
    cases e461
    replace p461 := eq_true p461
    replace q461 := eq_true q461
    go_wp2
    go_ret
    exact ⟨rfs, by repeat (first | exact Drawn0.refl _ | apply Drawn0.step)⟩
   rw [if_neg c6] at H
   have c6b0 : (a1.toList == (rdOf ByteArray.empty l0 x8_1).toList) = false := beq_eq_false_iff_ne.mpr c6
   have c6b1 : (a1.toList != (rdOf ByteArray.empty l0 x8_1).toList) = true := bne_iff_ne.mpr c6
   have H' := am H
   clear H
   have p461 : 0 ≤ (x8_1 : Int) := of_decide_eq_true asw
   have q461 : x8_1 < (l0.length : Int) := of_decide_eq_true asw
   obtain ⟨ad461, e461, hx461_0⟩ := Kd.at_string HR0.out x8_1 p461 q461
   cases e461
   replace p461 := eq_true p461
   replace q461 := eq_true q461
   go_wp2
   go_roundg k1
   case measure => have := HK1.out; omega
   case rel => exact ⟨(wrap64 (x8_1 + 1)), rfs, H', ⟨by have := HK1.out; omega⟩, by repeat (first | exact Drawn0.refl _ | apply Drawn0.step)⟩

def slices_Contains_string_string.f (k : Nat) (l0 : List ByteArray) (a1 : ByteArray) : Option (Bool) := (slices_Index_string_string.f k l0 a1).bind fun t462 => (some (decide (t462 ≥ 0)))
theorem slices_Contains_string_string.calls (k : Nat) (A0 : Option Addr) (c0 : Nat) (l0 : List ByteArray) (a1 : ByteArray) (r : Bool) (w : World) (hr0 : Kd.C Kd.string w A0 l0.length l0) (hc0 : l0.length ≤ c0) (h : slices_Contains_string_string.f k l0 a1 = some r) :
  Calls Tryd.prog 29 #[.slice A0 l0.length c0, .string a1] w fun e w' => e = .returned (.bool r) ∧ Drawn0 w w' := by
 have HR0 := am hr0
 have HC0 := am hc0
 clear hr0 hc0
 have H : ((slices_Index_string_string.f k l0 a1).bind fun t462 => (some (decide (t462 ≥ 0)))) = some r := h
 clear h
 replace H := Option.bind_eq_some_iff.mp H
 obtain ⟨t462, A30, H⟩ := H
 replace H : (some (decide (t462 ≥ 0))) = some r := H
 have A3 := am A30
 clear A30
 obtain rfl := Option.some.inj H
 go_enter Tryd.func29, Tryd.ntmps29
 go_wp2_with (first | ((with_reducible refine gate_callee (f := 47) rfl ?_); refine goesL_ (some 7) rfl rfl Tryd.func47 kr rfl #[.slice A0 l0.length c0, .string a1] rfl mpw ?_; (with_reducible refine (slices_Index_string_string.calls k _ _ l0 a1 t462 _ ?side1 ?side2 A3.out).mono ?_); (case side1 => have X_ := HR0; exact cbx); (case side2 => exact HC0.out); rintro e w' ⟨rfl, ⟨nd, rfl⟩⟩; refine ⟨_, rfl, ?_⟩))
 go_ret
 exact ⟨rfs, by repeat (first | exact Drawn0.refl _ | apply Drawn0.step)⟩











def strconv_Itoa_53.f (a0 : Int) : Option ByteArray :=
 if -9223372036854775808 ≤ a0 ∧ a0 ≤ 9223372036854775807 then some ⟨(Lib.itoa a0).toArray⟩ else none
theorem strconv_Itoa_53.calls (a0 : Int) (r : ByteArray) (w : World) (hL : Laid w) (h : strconv_Itoa_53.f a0 = some r) :
  Calls Tryd.prog 53 #[.int .i64 a0] w fun e w' => e = .returned (.string r) ∧ Below w.heap.size w w' := by
 unfold strconv_Itoa_53.f at h
 by_cases hc : -9223372036854775808 ≤ a0 ∧ a0 ≤ 9223372036854775807
 case neg =>
  rw [if_neg hc] at h
  cases h
 rw [if_pos hc] at h
 obtain rfl := Option.some.inj h
 refine (Tryd.strconv_Itoa a0 hc.1 hc.2 w (Laid_tab hL)).mono ?_
 rintro e w' ⟨he, k, os, rfl⟩
 exact ⟨he, Lib.below_grow _ w (Nat.le_refl _) k os⟩

def impl_FormatInt.f (a0 : Int) : Option (ByteArray) := (strconv_Itoa_53.f a0).bind fun t483 => (some t483)
theorem impl_FormatInt.calls (a0 : Int) (r : ByteArray) (w : World) (hL : Laid w) (h : impl_FormatInt.f a0 = some r) :
  Calls Tryd.prog 48 #[.int .i64 a0] w fun e w' => e = .returned (.string r) ∧ Below w.heap.size w w' := by
 have HLD := am hL
 clear hL
 have HB := am (Below.refl w.heap.size w)
 have H : ((strconv_Itoa_53.f a0).bind fun t483 => (some t483)) = some r := h
 clear h
 replace H := Option.bind_eq_some_iff.mp H
 obtain ⟨t483, A20, H⟩ := H
 replace H : (some t483) = some r := H
 have A2 := am A20
 clear A20
 obtain rfl := Option.some.inj H
 go_enter Tryd.func48, Tryd.ntmps48
 go_wp2_with (first | ((with_reducible refine gate_callee (f := 53) rfl ?_); refine goesL_ (some 4) rfl rfl Tryd.func53 kr rfl #[.int .i64 a0] rfl mpw ?_; (with_reducible refine (strconv_Itoa_53.calls a0 t483 _ ?side1 A2.out).mono ?_); (case side1 => repeat (first | exact HLD.out | (with_reducible refine Laid_alloc ?_ _) | (with_reducible refine Laid_drewN ?_ _) | (with_reducible refine Laid_drew ?_))); rintro e w3 ⟨rfl, hb⟩; refine ⟨_, rfl, ?_⟩; have n0_ := am (below_step blw hb); clear HB; revert n0_; intro HB; (try clear hb); (try clear hb2); (try clear hk); (try clear hi)))
 go_ret
 exact ⟨rfw, blw⟩

end Go.Proofs.YtpckkjeapfdilaaDoor.Px
end
section
namespace Go.Proofs.YtpckkjeapfdilaaDoor.Px
set_option maxHeartbeats 8000000
set_option maxRecDepth 100000
open Go.RowKit Go.Proofs.YtpckkjeapfdilaaDoor.Ext Go.Proofs.YtpckkjeapfdilaaDoorW.PrintWords Go.Proofs.YtpckkjeapfdilaaDoorW.PrintLast Go.Proofs.YtpckkjeapfdilaaDoorW.PrintMore
attribute [local go_sem] max2_int min2_int max_two min_two max_three min_three max_four min_four   -- for this text's walks alone
set_option linter.unusedVariables false
set_option linter.unusedSimpArgs false

def impl_FreshVar.l0 : Nat → List ByteArray → Int → Option (ByteArray)
 | 0, _, _ => none
 | k + 1, x0, x3 => (impl_FormatInt.f x3).bind fun t484 => (if 1 + t484.size ≤ 9223372036854775807 then ((slices_Contains_string_string.f k x0 ((⟨#[118]⟩ : ByteArray) ++ t484)).bind fun t485 => (if t485 = true then (impl_FreshVar.l0 k x0 (wrap64 (x3 + 1))) else (some ((⟨#[118]⟩ : ByteArray) ++ t484)))) else (none))
def impl_FreshVar.f (k : Nat) (l0 : List ByteArray) : Option (ByteArray) := impl_FreshVar.l0 k l0 1
theorem impl_FreshVar.calls (k : Nat) (A0 : Option Addr) (c0 : Nat) (l0 : List ByteArray) (r : ByteArray) (w : World) (hr0 : Kd.C Kd.string w A0 l0.length l0) (hc0 : l0.length ≤ c0) (hL : Laid w) (h : impl_FreshVar.f k l0 = some r) :
  Calls Tryd.prog 30 #[.slice A0 l0.length c0] w fun e w' => e = .returned (.string r) ∧ Below w.heap.size w w' := by
 have HR0 := am hr0
 have HC0 := am hc0
 clear hr0 hc0
 have HLD := am hL
 clear hL
 have HB := am (Below.refl w.heap.size w)
 have H : (impl_FreshVar.l0 k l0 1) = some r := h
 clear h
 have H' := am H
 clear H
 go_enter Tryd.func30, Tryd.ntmps30
 go_wp2
 go_loopg [3] k (fun kq v3 w' => ∃ (x3_1 : Int), v3 = .int .i64 x3_1 ∧ Aside0 (impl_FreshVar.l0 kq l0 x3_1 = some r) ∧ Aside0 (kq ≤ k) ∧ Aside0 (Below w.heap.size w w'))
 case atStart => exact ⟨(1), rfs, H', ⟨Nat.le_refl _⟩, ⟨blw⟩⟩
 case round =>
  clear H'
  obtain ⟨x3_1, rfl, HA, HK1, HB⟩ := hrel
  cases gk with
  | zero => exact absurd HA.out (by simp [impl_FreshVar.l0])
  | succ k1 =>
   have H := HA.out
   clear HA
   simp only [impl_FreshVar.l0] at H
   replace H := Option.bind_eq_some_iff.mp H
   obtain ⟨t484, A20, H⟩ := H
   replace H : (if 1 + t484.size ≤ 9223372036854775807 then ((slices_Contains_string_string.f k1 l0 ((⟨#[118]⟩ : ByteArray) ++ t484)).bind fun t485 => (if t485 = true then (impl_FreshVar.l0 k1 l0 (wrap64 (x3_1 + 1))) else (some ((⟨#[118]⟩ : ByteArray) ++ t484)))) else (none)) = some r := H
   have A2 := am A20
   clear A20
   by_cases c3 : 1 + t484.size ≤ 9223372036854775807
   case neg =>
    rw [if_neg c3] at H
    exact absurd H (by simp)
   rw [if_pos c3] at H
   have c3b0 := eq_true c3
   have c3b1 : decide (1 + t484.size ≤ 9223372036854775807) = true := decide_eq_true c3
   try have c3b2 : (9223372036854775807 < 1 + t484.size) = False := eq_false (Nat.not_lt.2 c3)
   replace H := Option.bind_eq_some_iff.mp H
   obtain ⟨t485, A40, H⟩ := H
   replace H : (if t485 = true then (impl_FreshVar.l0 k1 l0 (wrap64 (x3_1 + 1))) else (some ((⟨#[118]⟩ : ByteArray) ++ t484))) = some r := H
   have A4 := am A40
   clear A40
   have HC5 := am H
   clear H
   go_upto_if 13 with (first | ((with_reducible refine gate_callee (f := 48) rfl ?_); refine goesL_ (some 8) rfl rfl Tryd.func48 kr rfl #[.int .i64 x3_1] rfl mpw ?_; (with_reducible refine (impl_FormatInt.calls x3_1 t484 _ ?side1 A2.out).mono ?_); (case side1 => repeat (first | exact (Laid_below HLD.out HB.out) | (with_reducible refine Laid_alloc ?_ _) | (with_reducible refine Laid_drewN ?_ _) | (with_reducible refine Laid_drew ?_))); rintro e w6 ⟨rfl, hb⟩; refine ⟨_, rfl, ?_⟩; have n0_ := am (below_step blw hb); clear HB; revert n0_; intro HB; (try clear hb); (try clear hb2); (try clear hk); (try clear hi)) | ((with_reducible refine gate_callee (f := 29) rfl ?_); refine goesL_ (some 12) rfl rfl Tryd.func29 kr rfl #[.slice A0 l0.length c0, .string ((⟨#[118]⟩ : ByteArray) ++ t484)] rfl mpw ?_; (with_reducible refine (slices_Contains_string_string.calls k1 _ _ l0 ((⟨#[118]⟩ : ByteArray) ++ t484) t485 _ ?side1 ?side2 A4.out).mono ?_); (case side1 => have X_ := HR0; exact cbl); (case side2 => exact HC0.out); rintro e w' ⟨rfl, ⟨nd, rfl⟩⟩; refine ⟨_, rfl, ?_⟩))
   have H := HC5.out
   clear HC5
   by_cases c7 : t485 = true
   case neg =>
    replace c7 := Bool.eq_false_iff.mpr c7
    subst c7
    have H1 : (some ((⟨#[118]⟩ : ByteArray) ++ t484)) = some r := by rw [if_neg (show ¬ (false = true) by decide)] at H; exact H
    clear H
    have H := H1
    clear H1
    obtain rfl := Option.some.inj H
    go_wp2
    go_ret
    exact ⟨rfw, blw⟩
   subst c7
   have H1 : (impl_FreshVar.l0 k1 l0 (wrap64 (x3_1 + 1))) = some r := by rw [if_pos rfl] at H; exact H
   clear H
   have H := H1
   clear H1
   have H' := am H
   clear H
   go_wp2
   go_roundg k1
   case measure => have := HK1.out; omega
   case rel => exact ⟨(wrap64 (x3_1 + 1)), rfs, H', ⟨by have := HK1.out; omega⟩, ⟨blw⟩⟩

def impl_varTerm.f (a0 : ByteArray) : Option (Int × ByteArray × Int × Int × List ByteArray × (List (S32)) × List ByteArray × (List (S35))) := some (1, a0, 0, 0, ([] : List ByteArray), ([] : List (S32)), ([] : List ByteArray), ([] : List (S35)))
theorem impl_varTerm.calls (a0 : ByteArray) (r1 : Int) (r2 : ByteArray) (r3 : Int) (r4 : Int) (r5 : List ByteArray) (r6 : List (S32)) (r7 : List ByteArray) (r8 : List (S35)) (w : World) (h : impl_varTerm.f a0 = some (r1, r2, r3, r4, r5, r6, r7, r8)) :
  Calls Tryd.prog 31 #[.string a0] w fun e w' => ∃ v4_ v5_ v6_ v7_ : Value, e = .returned (.agg #[.int .i64 r1, .string r2, .int .i64 r3, .int .i64 r4, v4_, v5_, v6_, v7_]) ∧ Kd.R Kd.string 9 w' w.heap.size (fun k_ => some k_ ≠ (v6_ : Value).ownBlock) v4_ r5 ∧ Kd.R k32 32 w' w.heap.size (fun k_ => some k_ ≠ (v4_ : Value).ownBlock ∧ some k_ ≠ (v6_ : Value).ownBlock) v5_ r6 ∧ Kd.R Kd.string 9 w' w.heap.size (fun k_ => some k_ ≠ (v4_ : Value).ownBlock) v6_ r7 ∧ Kd.R k35 35 w' w.heap.size (fun k_ => some k_ ≠ (v4_ : Value).ownBlock ∧ some k_ ≠ (v5_ : Value).ownBlock ∧ some k_ ≠ (v6_ : Value).ownBlock) v7_ r8 ∧ Below w.heap.size w w' := by
 have hu35 := Tryd.underlying35
 have HB := am (Below.refl w.heap.size w)
 have H : (some (1, a0, 0, 0, ([] : List ByteArray), ([] : List (S32)), ([] : List ByteArray), ([] : List (S35)))) = some (r1, r2, r3, r4, r5, r6, r7, r8) := h
 clear h
 simp only [Option.some.injEq, Prod.mk.injEq] at H
 obtain ⟨rfl, rfl, rfl, rfl, rfl, rfl, rfl, rfl⟩ := H
 go_enter Tryd.func31, Tryd.ntmps31
 go_wp2_with (first | ((with_reducible refine gate_dst (N := 2) rfl ?_); refine box_event ?hg (N := 2) ?hd (cs := #[.int .i64 0, .string (⟨#[]⟩ : ByteArray), .int .i64 0, .int .i64 0, .slice none 0 0, .slice none 0 0, .slice none 0 0, .slice none 0 0]) (t := 35) ?hr ?_; (case hd => rfl); (case hg => rfl); (case hr => exact hrw); intro gb486 hg w2 hbox hb; have n0_ := am (below_step blw hb); have n1_ := am (hbox); have n2_ := am ((by rw [hg]; exact (below_size blw) : w.heap.size ≤ gb486)); have n3_ := n2_; clear HB; revert n0_ n1_ n2_ n3_; intro HB BK486 GW486 GE486; clear hb hbox hg; obtain ⟨hcz3_0, hcz3_1, hcz3_2, hcz3_3, hcz3_4, hcz3_5, hcz3_6, hcz3_7⟩ := cls8 BK486.out; obtain ⟨hfz3_0, hfz3_1, hfz3_2, hfz3_3, hfz3_4, hfz3_5, hfz3_6, hfz3_7⟩ := frz8 BK486.out))
 refine bodyPost_ret (results_cell_row rfl _ _ gb486 35 #[.int .i64 1, .string a0, .int .i64 0, .int .i64 0, .slice none 0 0, .slice none 0 0, .slice none 0 0, .slice none 0 0] (0, 0) _ rfl (by apply blk_sum; (repeat (with_reducible first | apply blk_sett | apply blk_drewN | apply blk_drew | apply blk_alloc)); exact BK486.out; rfl) Tryd.underlying35 rfl kr) rfl ?_
 exact ⟨_, _, _, _, rfw, by first | exact Kd.R_nil _ _ _ _ _ | exact Kd.N_nil _ _ _ _ _ | exact Kd.V_nil _ _ _ _ _ | exact Kd.Q_nil _ _ _ _ _ | exact Kd.S_nil _ _ _ _ _, by first | exact Kd.R_nil _ _ _ _ _ | exact Kd.N_nil _ _ _ _ _ | exact Kd.V_nil _ _ _ _ _ | exact Kd.Q_nil _ _ _ _ _ | exact Kd.S_nil _ _ _ _ _, by first | exact Kd.R_nil _ _ _ _ _ | exact Kd.N_nil _ _ _ _ _ | exact Kd.V_nil _ _ _ _ _ | exact Kd.Q_nil _ _ _ _ _ | exact Kd.S_nil _ _ _ _ _, by first | exact Kd.R_nil _ _ _ _ _ | exact Kd.N_nil _ _ _ _ _ | exact Kd.V_nil _ _ _ _ _ | exact Kd.Q_nil _ _ _ _ _ | exact Kd.S_nil _ _ _ _ _, blw⟩


def laws_eqStringS.l0 : Nat → List ByteArray → List ByteArray → Int → Option (Bool)
 | 0, _, _, _ => none
 | k + 1, x0, x1, x5 => if x5 < (x0.length : Int) then (if 0 ≤ x5 then (if x5 < (x1.length : Int) then (if (rdOf ByteArray.empty x0 x5).toList = (rdOf ByteArray.empty x1 x5).toList then (laws_eqStringS.l0 k x0 x1 (wrap64 (x5 + 1))) else (some false)) else (none)) else (none)) else (some true)
def laws_eqStringS.f (k : Nat) (l0 : List ByteArray) (l1 : List ByteArray) : Option (Bool) := if (l0.length : Int) = (l1.length : Int) then (laws_eqStringS.l0 k l0 l1 0) else (some false)
theorem laws_eqStringS.calls (k : Nat) (A0 : Option Addr) (c0 : Nat) (l0 : List ByteArray) (A1 : Option Addr) (c1 : Nat) (l1 : List ByteArray) (r : Bool) (w : World) (hr0 : Kd.C Kd.string w A0 l0.length l0) (hc0 : l0.length ≤ c0) (hr1 : Kd.C Kd.string w A1 l1.length l1) (hc1 : l1.length ≤ c1) (h : laws_eqStringS.f k l0 l1 = some r) :
  Calls Tryd.prog 33 #[.slice A0 l0.length c0, .slice A1 l1.length c1] w fun e w' => e = .returned (.bool r) ∧ Drawn0 w w' := by
 have HR0 := am hr0
 have HC0 := am hc0
 clear hr0 hc0
 have HR1 := am hr1
 have HC1 := am hc1
 clear hr1 hc1
 have H : (if (l0.length : Int) = (l1.length : Int) then (laws_eqStringS.l0 k l0 l1 0) else (some false)) = some r := h
 clear h
 by_cases c3 : (l0.length : Int) = (l1.length : Int)
 case neg =>
  rw [if_neg c3] at H
  have c3b0 : ((l0.length : Int) == (l1.length : Int)) = false := beq_eq_false_iff_ne.mpr c3
  have c3b1 : ((l0.length : Int) != (l1.length : Int)) = true := bne_iff_ne.mpr c3
  have c3b2 : (l0.length == l1.length) = false := by first | simpa using c3 | (simp at c3 ⊢; omega)
  obtain rfl := Option.some.inj H
  go_enter Tryd.func33, Tryd.ntmps33
  go_wp2
  repeat (go_quiet (fail); try go_wp2)
  go_ret
  exact ⟨rfs, by repeat (first | exact Drawn0.refl _ | apply Drawn0.step)⟩
 rw [if_pos c3] at H
 have c3b0 : ((l0.length : Int) == (l1.length : Int)) = true := beq_iff_eq.mpr c3
 have c3b1 : ((l0.length : Int) != (l1.length : Int)) = false := bne_eq_false_iff_eq.mpr c3
 have c3b2 : (l0.length == l1.length) = true := by first | simpa using c3 | (simp at c3 ⊢; omega)
 clear c3
 have H' := am H
 clear H
 go_enter Tryd.func33, Tryd.ntmps33
 go_wp2
 repeat (go_quiet (fail); try go_wp2)
 go_loopg [5] k (fun kq v5 w' => ∃ (x5_1 : Int), v5 = .int .i64 x5_1 ∧ Aside0 (laws_eqStringS.l0 kq l0 l1 x5_1 = some r) ∧ Aside0 (kq ≤ k) ∧ Drawn0 w w')
 case atStart => exact ⟨(0), rfs, H', ⟨Nat.le_refl _⟩, by repeat (first | exact Drawn0.refl _ | apply Drawn0.step)⟩
 case round =>
  clear H'
  (try clear c1); (try clear p2); (try clear c3); (try clear c3b0); (try clear c3b1); (try clear c3b2)
  obtain ⟨x5_1, rfl, HA, HK1, ⟨m1, rfl⟩⟩ := hrel
  cases gk with
  | zero => exact absurd HA.out (by simp [laws_eqStringS.l0])
  | succ k1 =>
   have H := HA.out
   clear HA
   simp only [laws_eqStringS.l0] at H
   by_cases c4 : x5_1 < (l0.length : Int)
   case neg =>
    rw [if_neg c4] at H
    have c4b0 : decide (x5_1 < (l0.length : Int)) = false := decide_eq_false c4
    clear c4
    obtain rfl := Option.some.inj H
    go_wp2
    repeat (go_quiet (fail); try go_wp2)
    go_ret
    exact ⟨rfs, by repeat (first | exact Drawn0.refl _ | apply Drawn0.step)⟩
   rw [if_pos c4] at H
   have c4b0 : decide (x5_1 < (l0.length : Int)) = true := decide_eq_true c4
   clear c4
   by_cases c5 : 0 ≤ x5_1
   case neg =>
    rw [if_neg c5] at H
    exact absurd H (by simp)
   rw [if_pos c5] at H
   have c5b0 : decide (0 ≤ x5_1) = true := decide_eq_true c5
   clear c5
   by_cases c6 : x5_1 < (l1.length : Int)
   case neg =>
    rw [if_neg c6] at H
    exact absurd H (by simp)
   rw [if_pos c6] at H
   have c6b0 : decide (x5_1 < (l1.length : Int)) = true := decide_eq_true c6
   clear c6
   by_cases c7 : (rdOf ByteArray.empty l0 x5_1).toList = (rdOf ByteArray.empty l1 x5_1).toList
   case neg =>
    rw [if_neg c7] at H
    have c7b0 : ((rdOf ByteArray.empty l0 x5_1).toList == (rdOf ByteArray.empty l1 x5_1).toList) = false := beq_eq_false_iff_ne.mpr c7
    have c7b1 : ((rdOf ByteArray.empty l0 x5_1).toList != (rdOf ByteArray.empty l1 x5_1).toList) = true := bne_iff_ne.mpr c7
    obtain rfl := Option.some.inj H
    have p539 : 0 ≤ (x5_1 : Int) := of_decide_eq_true asw
    have q539 : x5_1 < (l0.length : Int) := of_decide_eq_true asw
    obtain ⟨ad539, e539, hx539_0⟩ := Kd.at_string HR0.out x5_1 p539 q539
    cases e539
    replace p539 := eq_true p539
    replace q539 := eq_true q539
    have p540 : 0 ≤ (x5_1 : Int) := of_decide_eq_true asw
    have q540 : x5_1 < (l1.length : Int) := of_decide_eq_true asw
    obtain ⟨ad540, e540, hx540_0⟩ := Kd.at_string HR1.out x5_1 p540 q540
    cases e540
    replace p540 := eq_true p540
    replace q540 := eq_true q540
    go_wp2
    repeat (go_quiet (fail); try go_wp2)
    go_ret
    exact ⟨rfs, by repeat (first | exact Drawn0.refl _ | apply Drawn0.step)⟩
   rw [if_pos c7] at H
   have c7b0 : ((rdOf ByteArray.empty l0 x5_1).toList == (rdOf ByteArray.empty l1 x5_1).toList) = true := beq_iff_eq.mpr c7
   have c7b1 : ((rdOf ByteArray.empty l0 x5_1).toList != (rdOf ByteArray.empty l1 x5_1).toList) = false := bne_eq_false_iff_eq.mpr c7
   clear c7
   have H' := am H
   clear H
   have p539 : 0 ≤ (x5_1 : Int) := of_decide_eq_true asw
   have q539 : x5_1 < (l0.length : Int) := of_decide_eq_true asw
   obtain ⟨ad539, e539, hx539_0⟩ := Kd.at_string HR0.out x5_1 p539 q539
   cases e539
   replace p539 := eq_true p539
   replace q539 := eq_true q539
   have p540 : 0 ≤ (x5_1 : Int) := of_decide_eq_true asw
   have q540 : x5_1 < (l1.length : Int) := of_decide_eq_true asw
   obtain ⟨ad540, e540, hx540_0⟩ := Kd.at_string HR1.out x5_1 p540 q540
   cases e540
   replace p540 := eq_true p540
   replace q540 := eq_true q540
   go_wp2
   repeat (go_quiet (fail); try go_wp2)
   go_roundg k1
   case measure => have := HK1.out; omega
   case rel => exact ⟨(wrap64 (x5_1 + 1)), rfs, H', ⟨by have := HK1.out; omega⟩, by repeat (first | exact Drawn0.refl _ | apply Drawn0.step)⟩

end Go.Proofs.YtpckkjeapfdilaaDoor.Px
end
section
namespace Go.Proofs.YtpckkjeapfdilaaDoor.Px
set_option maxHeartbeats 8000000
set_option maxRecDepth 100000
open Go.RowKit Go.Proofs.YtpckkjeapfdilaaDoor.Ext Go.Proofs.YtpckkjeapfdilaaDoorW.PrintWords Go.Proofs.YtpckkjeapfdilaaDoorW.PrintLast Go.Proofs.YtpckkjeapfdilaaDoorW.PrintMore
attribute [local go_sem] max2_int min2_int max_two min_two max_three min_three max_four min_four   -- for this text's walks alone
set_option linter.unusedVariables false
set_option linter.unusedSimpArgs false

mutual
def laws_eqType.f : Nat → Int → List ByteArray → List (S32) → Int → List ByteArray → List (S32) → Option (Bool)
 | 0, _, _, _, _, _, _ => none
 | k + 1, a0_0, l0_1, l0_2, a1_0, l1_1, l1_2 => if a0_0 = a1_0 then ((laws_eqStringS.f k l0_1 l1_1).bind fun t543 => (if t543 = true then ((laws_eqTypeS.f k l0_2 l1_2).bind fun t544 => (if t544 = true then (some true) else (some false))) else (some false))) else (some false)
def laws_eqTypeS.l0 : Nat → List (S32) → List (S32) → Int → Option (Bool)
 | 0, _, _, _ => none
 | k + 1, x0, x1, x5 => if x5 < (x0.length : Int) then (if 0 ≤ x5 then (if x5 < (x1.length : Int) then ((laws_eqType.f k ((rd_T32 x0 x5).f0) ((rd_T32 x0 x5).f1) ((rd_T32 x0 x5).f2) ((rd_T32 x1 x5).f0) ((rd_T32 x1 x5).f1) ((rd_T32 x1 x5).f2)).bind fun t547 => (if t547 = true then (laws_eqTypeS.l0 k x0 x1 (wrap64 (x5 + 1))) else (some false))) else (none)) else (none)) else (some true)
def laws_eqTypeS.f : Nat → List (S32) → List (S32) → Option (Bool)
 | 0, _, _ => none
 | k + 1, l0, l1 => if (l0.length : Int) = (l1.length : Int) then (laws_eqTypeS.l0 k l0 l1 0) else (some false)
end
abbrev laws_eqType.T (k : Nat) : Prop := ∀ (a0_0 : Int) (A0_1 : Option Addr) (c0_1 : Nat) (l0_1 : List ByteArray) (A0_2 : Option Addr) (c0_2 : Nat) (l0_2 : List (S32)) (a1_0 : Int) (A1_1 : Option Addr) (c1_1 : Nat) (l1_1 : List ByteArray) (A1_2 : Option Addr) (c1_2 : Nat) (l1_2 : List (S32)) (r : Bool) (w : World) (hr0_1 : Kd.C Kd.string w A0_1 l0_1.length l0_1) (hc0_1 : l0_1.length ≤ c0_1) (hr0_2 : Kd.C k32 w A0_2 l0_2.length l0_2) (hc0_2 : l0_2.length ≤ c0_2) (hr1_1 : Kd.C Kd.string w A1_1 l1_1.length l1_1) (hc1_1 : l1_1.length ≤ c1_1) (hr1_2 : Kd.C k32 w A1_2 l1_2.length l1_2) (hc1_2 : l1_2.length ≤ c1_2) (h : laws_eqType.f k a0_0 l0_1 l0_2 a1_0 l1_1 l1_2 = some r),
  Calls Tryd.prog 32 #[.agg #[.int .i64 a0_0, .slice A0_1 l0_1.length c0_1, .slice A0_2 l0_2.length c0_2], .agg #[.int .i64 a1_0, .slice A1_1 l1_1.length c1_1, .slice A1_2 l1_2.length c1_2]] w fun e w' => e = .returned (.bool r) ∧ Below w.heap.size w w'
abbrev laws_eqTypeS.T (k : Nat) : Prop := ∀ (A0 : Option Addr) (c0 : Nat) (l0 : List (S32)) (A1 : Option Addr) (c1 : Nat) (l1 : List (S32)) (r : Bool) (w : World) (hr0 : Kd.C k32 w A0 l0.length l0) (hc0 : l0.length ≤ c0) (hr1 : Kd.C k32 w A1 l1.length l1) (hc1 : l1.length ≤ c1) (h : laws_eqTypeS.f k l0 l1 = some r),
  Calls Tryd.prog 49 #[.slice A0 l0.length c0, .slice A1 l1.length c1] w fun e w' => e = .returned (.bool r) ∧ Below w.heap.size w w'
theorem laws_eqType.step (k : Nat) (ih : ∀ m, m < k → laws_eqType.T m) (ih_49 : ∀ m, m < k → laws_eqTypeS.T m) : laws_eqType.T k := by
 intro a0_0 A0_1 c0_1 l0_1 A0_2 c0_2 l0_2 a1_0 A1_1 c1_1 l1_1 A1_2 c1_2 l1_2 r w hr0_1 hc0_1 hr0_2 hc0_2 hr1_1 hc1_1 hr1_2 hc1_2 h
 cases k with
 | zero => exact absurd h (by simp [laws_eqType.f])
 | succ k =>
 simp only [laws_eqType.f] at h
 have hu32 := Tryd.underlying32
 have HR0_1 := am hr0_1
 have HC0_1 := am hc0_1
 clear hr0_1 hc0_1
 have HR0_2 := am hr0_2
 have HC0_2 := am hc0_2
 clear hr0_2 hc0_2
 have HR1_1 := am hr1_1
 have HC1_1 := am hc1_1
 clear hr1_1 hc1_1
 have HR1_2 := am hr1_2
 have HC1_2 := am hc1_2
 clear hr1_2 hc1_2
 have HB := am (Below.refl w.heap.size w)
 have H : (if a0_0 = a1_0 then ((laws_eqStringS.f k l0_1 l1_1).bind fun t543 => (if t543 = true then ((laws_eqTypeS.f k l0_2 l1_2).bind fun t544 => (if t544 = true then (some true) else (some false))) else (some false))) else (some false)) = some r := h
 clear h
 have HC3 := am H
 clear H
 go_enter Tryd.func32, Tryd.ntmps32
 go_upto_if 9 with (first | ((with_reducible refine gate_dst (N := 2) rfl ?_); refine box_event ?hg (N := 2) ?hd (cs := #[.int .i64 a0_0, .slice A0_1 l0_1.length c0_1, .slice A0_2 l0_2.length c0_2]) (t := 32) ?hr ?_; (case hd => rfl); (case hg => rfl); (case hr => exact hrw); intro gb541 hg w4 hbox hb; have n0_ := am (below_step blw hb); have n1_ := am (hbox); have n2_ := am ((by rw [hg]; exact (below_size blw) : w.heap.size ≤ gb541)); have n3_ := n2_; clear HB; revert n0_ n1_ n2_ n3_; intro HB BK541 GW541 GE541; clear hb hbox hg) | ((with_reducible refine gate_dst (N := 3) rfl ?_); refine box_event ?hg (N := 3) ?hd (cs := #[.int .i64 a1_0, .slice A1_1 l1_1.length c1_1, .slice A1_2 l1_2.length c1_2]) (t := 32) ?hr ?_; (case hd => rfl); (case hg => rfl); (case hr => exact hrw); intro gb542 hg w5 hbox hb; have n0_ := am (blk_below (g := gb541) bkw hb); have n1_ := am (below_step blw hb); have n2_ := am (hbox); have n3_ := am ((by rw [hg]; exact (below_size blw) : w.heap.size ≤ gb542)); have n4_ := n3_; have n5_ := am ((by rw [hg]; exact Nat.ne_of_lt (blk_lt (g := gb541) bkw) : gb541 ≠ gb542)); have n6_ := am ((by rw [hg]; exact Nat.ne_of_gt (blk_lt (g := gb541) bkw) : gb542 ≠ gb541)); clear BK541; clear HB; revert n0_ n1_ n2_ n3_ n4_ n5_ n6_; intro BK541 HB BK542 GW542 GE542 NB541_542 NB542_541; clear hb hbox hg; have hnb6 := NB541_542.out; have hnc6 := NB542_541.out; obtain ⟨hcz7_0, hcz7_1, hcz7_2⟩ := cls3 BK541.out; obtain ⟨hfz7_0, hfz7_1, hfz7_2⟩ := frz3 BK541.out; obtain ⟨hcz8_0, hcz8_1, hcz8_2⟩ := cls3 BK542.out; obtain ⟨hfz8_0, hfz8_1, hfz8_2⟩ := frz3 BK542.out))
 have H := HC3.out
 clear HC3
 by_cases c9 : a0_0 = a1_0
 case neg =>
  rw [if_neg c9] at H
  have c9b0 : (a0_0 == a1_0) = false := beq_eq_false_iff_ne.mpr c9
  have c9b1 : (a0_0 != a1_0) = true := bne_iff_ne.mpr c9
  (first | rw [c9b0] | (simp only [i64_w, i32_w]; rw [c9b0]) | (rw [c9b1]; (try simp only [Bool.not_true, Bool.not_false])) | skip)
  obtain rfl := Option.some.inj H
  go_wp2
  go_ret
  exact ⟨rfw, blw⟩
 rw [if_pos c9] at H
 have c9b0 : (a0_0 == a1_0) = true := beq_iff_eq.mpr c9
 have c9b1 : (a0_0 != a1_0) = false := bne_eq_false_iff_eq.mpr c9
 clear c9
 (first | rw [c9b0] | (simp only [i64_w, i32_w]; rw [c9b0]) | (rw [c9b1]; (try simp only [Bool.not_true, Bool.not_false])) | skip)
 replace H := Option.bind_eq_some_iff.mp H
 obtain ⟨t543, A100, H⟩ := H
 replace H : (if t543 = true then ((laws_eqTypeS.f k l0_2 l1_2).bind fun t544 => (if t544 = true then (some true) else (some false))) else (some false)) = some r := H
 have A10 := am A100
 clear A100
 have HC11 := am H
 clear H
 have hnb12 := NB541_542.out
 have hnc12 := NB542_541.out
 obtain ⟨hcz13_0, hcz13_1, hcz13_2⟩ := cls3 BK541.out
 obtain ⟨hfz13_0, hfz13_1, hfz13_2⟩ := frz3 BK541.out
 obtain ⟨hcz14_0, hcz14_1, hcz14_2⟩ := cls3 BK542.out
 obtain ⟨hfz14_0, hfz14_1, hfz14_2⟩ := frz3 BK542.out
 go_upto_if 15 with (first | ((with_reducible refine gate_callee (f := 33) rfl ?_); refine goesL_ (some 14) rfl rfl Tryd.func33 kr rfl #[.slice A0_1 l0_1.length c0_1, .slice A1_1 l1_1.length c1_1] rfl mpw ?_; (with_reducible refine (laws_eqStringS.calls k _ _ l0_1 _ _ l1_1 t543 _ ?side1 ?side2 ?side3 ?side4 A10.out).mono ?_); (case side1 => have X_ := HR0_1; exact cbl); (case side2 => exact HC0_1.out); (case side3 => have X_ := HR1_1; exact cbl); (case side4 => exact HC1_1.out); rintro e w' ⟨rfl, ⟨nd, rfl⟩⟩; refine ⟨_, rfl, ?_⟩))
 have H := HC11.out
 clear HC11
 by_cases c15 : t543 = true
 case neg =>
  replace c15 := Bool.eq_false_iff.mpr c15
  subst c15
  have H1 : (some false) = some r := by rw [if_neg (show ¬ (false = true) by decide)] at H; exact H
  clear H
  have H := H1
  clear H1
  obtain rfl := Option.some.inj H
  go_wp2
  go_ret
  exact ⟨rfw, blw⟩
 subst c15
 have H1 : ((laws_eqTypeS.f k l0_2 l1_2).bind fun t544 => (if t544 = true then (some true) else (some false))) = some r := by rw [if_pos rfl] at H; exact H
 clear H
 have H := H1
 clear H1
 replace H := Option.bind_eq_some_iff.mp H
 obtain ⟨t544, A160, H⟩ := H
 replace H : (if t544 = true then (some true) else (some false)) = some r := H
 have A16 := am A160
 clear A160
 have HC17 := am H
 clear H
 have hnb18 := NB541_542.out
 have hnc18 := NB542_541.out
 obtain ⟨hcz19_0, hcz19_1, hcz19_2⟩ := cls3 BK541.out
 obtain ⟨hfz19_0, hfz19_1, hfz19_2⟩ := frz3 BK541.out
 obtain ⟨hcz20_0, hcz20_1, hcz20_2⟩ := cls3 BK542.out
 obtain ⟨hfz20_0, hfz20_1, hfz20_2⟩ := frz3 BK542.out
 go_upto_if 21 with (first | ((with_reducible refine gate_callee (f := 49) rfl ?_); refine goesL_ (some 20) rfl rfl Tryd.func49 kr rfl #[.slice A0_2 l0_2.length c0_2, .slice A1_2 l1_2.length c1_2] rfl mpw ?_; (with_reducible refine (ih_49 k (by omega) _ _ l0_2 _ _ l1_2 t544 _ ?side1 ?side2 ?side3 ?side4 A16.out).mono ?_); (case side1 => have X_ := HR0_2; exact cbl); (case side2 => exact HC0_2.out); (case side3 => have X_ := HR1_2; exact cbl); (case side4 => exact HC1_2.out); rintro e w21 ⟨rfl, hb⟩; refine ⟨_, rfl, ?_⟩; have n0_ := am (blk_below (g := gb541) bkw hb); have n1_ := am (blk_below (g := gb542) bkw hb); have n2_ := am (below_step blw hb); clear BK541; clear BK542; clear HB; revert n0_ n1_ n2_; intro BK541 BK542 HB; (try clear hb); (try clear hb2); (try clear hk); (try clear hi)))
 have H := HC17.out
 clear HC17
 by_cases c22 : t544 = true
 ·subst c22
  have H1 : (some true) = some r := by rw [if_pos rfl] at H; exact H
  clear H
  have H := H1
  clear H1
  obtain rfl := Option.some.inj H
  go_wp2
  go_ret
  exact ⟨rfw, blw⟩
 replace c22 := Bool.eq_false_iff.mpr c22
 subst c22
 have H1 : (some false) = some r := by rw [if_neg (show ¬ (false = true) by decide)] at H; exact H
 clear H
 have H := H1
 clear H1
 obtain rfl := Option.some.inj H
 go_wp2
 go_ret
 exact ⟨rfw, blw⟩

def laws_eqTypeS.T6 : Bool × List (List Nat × List Nat) := (true, [([], []), ([], []), ([0, 1], [0, 1]), ([2], [2]), ([], []), ([], []), ([4, 5], [4, 5]), ([6], [6]), ([3, 7], [3, 7]), ([8], [8])])
def laws_eqTypeS.B6 : List Nat := [0, 0, 3, 7, 0, 0, 48, 112, 255, 511]
theorem laws_eqTypeS.tab6 : rtab .any (opsOf Tryd.f49 6) = laws_eqTypeS.T6 := by kernel_rfl
theorem laws_eqTypeS.bits6 : waitsOk laws_eqTypeS.T6.2 laws_eqTypeS.B6 = true := by kernel_rfl
theorem laws_eqTypeS.step (k : Nat) (ih : ∀ m, m < k → laws_eqTypeS.T m) (ih_32 : ∀ m, m < k → laws_eqType.T m) : laws_eqTypeS.T k := by
 intro A0 c0 l0 A1 c1 l1 r w hr0 hc0 hr1 hc1 h
 cases k with
 | zero => exact absurd h (by simp [laws_eqTypeS.f])
 | succ k =>
 simp only [laws_eqTypeS.f] at h
 have hu32 := Tryd.underlying32
 have HR0 := am hr0
 have HC0 := am hc0
 clear hr0 hc0
 have HR1 := am hr1
 have HC1 := am hc1
 clear hr1 hc1
 have HB := am (Below.refl w.heap.size w)
 have H : (if (l0.length : Int) = (l1.length : Int) then (laws_eqTypeS.l0 k l0 l1 0) else (some false)) = some r := h
 clear h
 by_cases c3 : (l0.length : Int) = (l1.length : Int)
 case neg =>
  rw [if_neg c3] at H
  have c3b0 : ((l0.length : Int) == (l1.length : Int)) = false := beq_eq_false_iff_ne.mpr c3
  have c3b1 : ((l0.length : Int) != (l1.length : Int)) = true := bne_iff_ne.mpr c3
  have c3b2 : (l0.length == l1.length) = false := by first | simpa using c3 | (simp at c3 ⊢; omega)
  obtain rfl := Option.some.inj H
  go_enter Tryd.func49, Tryd.ntmps49
  go_wp2
  go_ret
  exact ⟨rfw, blw⟩
 rw [if_pos c3] at H
 have c3b0 : ((l0.length : Int) == (l1.length : Int)) = true := beq_iff_eq.mpr c3
 have c3b1 : ((l0.length : Int) != (l1.length : Int)) = false := bne_eq_false_iff_eq.mpr c3
 have c3b2 : (l0.length == l1.length) = true := by first | simpa using c3 | (simp at c3 ⊢; omega)
 clear c3
 have H' := am H
 clear H
 go_enter Tryd.func49, Tryd.ntmps49
 go_wp2
 go_loopg [5] k (fun kq v5 w' => ∃ (x5_1 : Int), v5 = .int .i64 x5_1 ∧ Aside0 (laws_eqTypeS.l0 kq l0 l1 x5_1 = some r) ∧ Aside0 (kq ≤ k) ∧ Aside0 (Below w.heap.size w w'))
 case atStart => exact ⟨(0), rfs, H', ⟨Nat.le_refl _⟩, ⟨blw⟩⟩
 case round =>
  clear H'
  (try clear c1); (try clear p2); (try clear c3); (try clear c3b0); (try clear c3b1); (try clear c3b2)
  obtain ⟨x5_1, rfl, HA, HK1, HB⟩ := hrel
  cases gk with
  | zero => exact absurd HA.out (by simp [laws_eqTypeS.l0])
  | succ k1 =>
   have H := HA.out
   clear HA
   simp only [laws_eqTypeS.l0] at H
   by_cases c4 : x5_1 < (l0.length : Int)
   case neg =>
    rw [if_neg c4] at H
    have c4b0 : decide (x5_1 < (l0.length : Int)) = false := decide_eq_false c4
    clear c4
    obtain rfl := Option.some.inj H
    go_wp2
    go_ret
    exact ⟨rfw, blw⟩
   rw [if_pos c4] at H
   have c4b0 : decide (x5_1 < (l0.length : Int)) = true := decide_eq_true c4
   clear c4
   by_cases c5 : 0 ≤ x5_1
   case neg =>
    rw [if_neg c5] at H
    exact absurd H (by simp)
   rw [if_pos c5] at H
   have c5b0 : decide (0 ≤ x5_1) = true := decide_eq_true c5
   clear c5
   by_cases c6 : x5_1 < (l1.length : Int)
   case neg =>
    rw [if_neg c6] at H
    exact absurd H (by simp)
   rw [if_pos c6] at H
   have c6b0 : decide (x5_1 < (l1.length : Int)) = true := decide_eq_true c6
   clear c6
   replace H := Option.bind_eq_some_iff.mp H
   obtain ⟨t547, A70, H⟩ := H
   replace H : (if t547 = true then (laws_eqTypeS.l0 k1 l0 l1 (wrap64 (x5_1 + 1))) else (some false)) = some r := H
   have A7 := am A70
   clear A70
   have HC8 := am H
   clear H
   try go_wp2
   have n0_ := am (below_drew1 HB.out)
   clear HB
   revert n0_
   intro HB
   have p545 : 0 ≤ (x5_1 : Int) := of_decide_eq_true asw
   have q545 : x5_1 < (l0.length : Int) := of_decide_eq_true asw
   obtain ⟨ad545, A545_1, c545_1, A545_2, c545_2, e545, hx545_0, hx545_1, hx545_2, hl545_1, hi545_1, hl545_2, hi545_2⟩ := at_T32 HR0.out x5_1 p545 q545
   have hw545_2 := hx545_2
   have hw545_1 := hx545_1
   have hw545_0 := hx545_0
   cases e545
   replace hx545_0 := upw HB.out hx545_0
   replace hx545_1 := upw HB.out hx545_1
   replace hx545_2 := upw HB.out hx545_2
   have HR545_1 := am hi545_1
   have HC545_1 := am hl545_1
   clear hi545_1 hl545_1
   have HR545_2 := am hi545_2
   have HC545_2 := am hl545_2
   clear hi545_2 hl545_2
   replace p545 := eq_true p545
   replace q545 := eq_true q545
   have p546 : 0 ≤ (x5_1 : Int) := of_decide_eq_true asw
   have q546 : x5_1 < (l1.length : Int) := of_decide_eq_true asw
   obtain ⟨ad546, A546_1, c546_1, A546_2, c546_2, e546, hx546_0, hx546_1, hx546_2, hl546_1, hi546_1, hl546_2, hi546_2⟩ := at_T32 HR1.out x5_1 p546 q546
   have hw546_2 := hx546_2
   have hw546_1 := hx546_1
   have hw546_0 := hx546_0
   cases e546
   replace hx546_0 := upw HB.out hx546_0
   replace hx546_1 := upw HB.out hx546_1
   replace hx546_2 := upw HB.out hx546_2
   have HR546_1 := am hi546_1
   have HC546_1 := am hl546_1
   clear hi546_1 hl546_1
   have HR546_2 := am hi546_2
   have HC546_2 := am hl546_2
   clear hi546_2 hl546_2
   replace p546 := eq_true p546
   replace q546 := eq_true q546
   refine start_ (n := 10) (S := fun w' => w'.cell? (ad545.add ((x5_1).toNat * 3)) = some (.int .i64 ((rd_T32 l0 x5_1).f0)) ∧ w'.cell? ⟨(ad545.add ((x5_1).toNat * 3)).block, (ad545.add ((x5_1).toNat * 3)).off + 1, none⟩ = some (.slice A545_1 ((rd_T32 l0 x5_1).f1).length c545_1) ∧ w'.cell? ⟨(ad545.add ((x5_1).toNat * 3)).block, (ad545.add ((x5_1).toNat * 3)).off + 2, none⟩ = some (.slice A545_2 ((rd_T32 l0 x5_1).f2).length c545_2) ∧ w'.cell? (ad546.add ((x5_1).toNat * 3)) = some (.int .i64 ((rd_T32 l1 x5_1).f0)) ∧ w'.cell? ⟨(ad546.add ((x5_1).toNat * 3)).block, (ad546.add ((x5_1).toNat * 3)).off + 1, none⟩ = some (.slice A546_1 ((rd_T32 l1 x5_1).f1).length c546_1) ∧ w'.cell? ⟨(ad546.add ((x5_1).toNat * 3)).block, (ad546.add ((x5_1).toNat * 3)).off + 2, none⟩ = some (.slice A546_2 ((rd_T32 l1 x5_1).f2).length c546_2)) (ds := []) #[false,false,false,false,false,false,false,false,false,false] kr rfl rfl ⟨((upw HB.out hw545_0 : _)), ((upw HB.out hw545_1 : _)), ((upw HB.out hw545_2 : _)), ((upw HB.out hw546_0 : _)), ((upw HB.out hw546_1 : _)), ((upw HB.out hw546_2 : _))⟩ (fun hHeld => ?_); refine with_tabW laws_eqTypeS.tab6 laws_eqTypeS.bits6 (fun HT_ HW_ => ?_)
   generalize wr.drew = w9 at HB HR545_1 HR545_2 HR546_1 HR546_2 hx545_0 hx545_1 hx545_2 hx546_0 hx546_1 hx546_2 hHeld ⊢
   refine pure_ (i := 0) (N := some 17) (v := ?_) (a' := ?_) (bm 10 1) rfl rfl (any_of HT_.out kr) qi (Or.inl ⟨by rfl, ?_⟩) ?_ ?_
   rotate_left
   ·intro w'
    go_simp
    with_reducible rfl
   rotate_left
   ·simp only [sx]
    rfl
   refine pure_ (i := 1) (N := some 18) (v := ?_) (a' := ?_) (bm 10 3) rfl rfl (any_of HT_.out kr) qi (Or.inl ⟨by rfl, ?_⟩) ?_ ?_
   rotate_left
   ·intro w'
    go_simp
    with_reducible rfl
   rotate_left
   ·simp only [sx]
    rfl
   refine pure_ (i := 2) (N := some 19) (v := ?_) (a' := ?_) (bm 10 7) rfl rfl (any_of HT_.out kr) qi (Or.inl ⟨by rfl, ?_⟩) ?_ ?_
   rotate_left
   ·intro w'
    go_simp
    with_reducible rfl
   rotate_left
   ·simp only [sx]
    rfl
   refine pure_ (i := 4) (N := some 21) (v := ?_) (a' := ?_) (bm 10 23) rfl rfl (any_of HT_.out kr) qi (Or.inl ⟨by rfl, ?_⟩) ?_ ?_
   rotate_left
   ·intro w'
    go_simp
    with_reducible rfl
   rotate_left
   ·simp only [sx]
    rfl
   refine pure_ (i := 5) (N := some 22) (v := ?_) (a' := ?_) (bm 10 55) rfl rfl (any_of HT_.out kr) qi (Or.inl ⟨by rfl, ?_⟩) ?_ ?_
   rotate_left
   ·intro w'
    go_simp
    with_reducible rfl
   rotate_left
   ·simp only [sx]
    rfl
   refine pure_ (i := 6) (N := some 23) (v := ?_) (a' := ?_) (bm 10 119) rfl rfl (any_of HT_.out kr) qi (Or.inl ⟨by rfl, ?_⟩) ?_ ?_
   rotate_left
   ·intro w'
    go_simp
    with_reducible rfl
   rotate_left
   ·simp only [sx]
    rfl
   refine take_ (i := 3) (N := some 20) (v := ?_) (a' := ?_) (bm 10 127) rfl rfl (take_ofW HT_.out HW_.out kr) qi (Or.inl ⟨by rfl, ?_⟩) hHeld ?_ ?_
   rotate_left
   ·rintro w' ⟨s0, s1, s2, s3, s4, s5⟩
    go_simp
    with_reducible rfl
   rotate_left
   ·simp only [sx]
    rfl
   refine take_ (i := 7) (N := some 24) (v := ?_) (a' := ?_) (bm 10 255) rfl rfl (take_ofW HT_.out HW_.out kr) qi (Or.inl ⟨by rfl, ?_⟩) hHeld ?_ ?_
   rotate_left
   ·rintro w' ⟨s0, s1, s2, s3, s4, s5⟩
    go_simp
    with_reducible rfl
   rotate_left
   ·simp only [sx]
    rfl
   refine one_ (i := 8) (N := some 25) (bm 10 511) rfl rfl (one_of HT_.out kr) (by decide) (fun K hK => ?_)
   refine goes_ Tryd.func32 kr rfl #[.agg #[.int .i64 ((rd_T32 l0 x5_1).f0), .slice A545_1 ((rd_T32 l0 x5_1).f1).length c545_1, .slice A545_2 ((rd_T32 l0 x5_1).f2).length c545_2], .agg #[.int .i64 ((rd_T32 l1 x5_1).f0), .slice A546_1 ((rd_T32 l1 x5_1).f1).length c546_1, .slice A546_2 ((rd_T32 l1 x5_1).f2).length c546_2]] (by rfl) rfl rfl mpw ?_
   with_reducible refine (ih_32 k1 (by have := HK1.out; omega) ((rd_T32 l0 x5_1).f0) _ _ ((rd_T32 l0 x5_1).f1) _ _ ((rd_T32 l0 x5_1).f2) ((rd_T32 l1 x5_1).f0) _ _ ((rd_T32 l1 x5_1).f1) _ _ ((rd_T32 l1 x5_1).f2) t547 _ ?side1 ?side2 ?side3 ?side4 ?side5 ?side6 ?side7 ?side8 A7.out).mono ?_
   (case side1 => have X_ := HR545_1; exact cbl)
   (case side2 => exact HC545_1.out)
   (case side3 => have X_ := HR545_2; exact cbl)
   (case side4 => exact HC545_2.out)
   (case side5 => have X_ := HR546_1; exact cbl)
   (case side6 => exact HC546_1.out)
   (case side7 => have X_ := HR546_2; exact cbl)
   (case side8 => exact HC546_2.out)
   rintro e w10 ⟨rfl, hb⟩
   refine ⟨_, rfl, ?_⟩
   have n0_ := am (below_step blw hb)
   clear HB
   revert n0_
   intro HB
   (try clear hb)
   (try clear hb2)
   (try clear hk)
   (try clear hi)
   refine hK.out _ _ ⟨((upw HB.out hw545_0 : _)), ((upw HB.out hw545_1 : _)), ((upw HB.out hw545_2 : _)), ((upw HB.out hw546_0 : _)), ((upw HB.out hw546_1 : _)), ((upw HB.out hw546_2 : _))⟩ (fun hHeld => ?_)
   clear hK K
   refine norm_ (a' := ?_) ?_ ?_
   rotate_left
   ·show Act.put _ (some 25) _ = _
    simp only [sx]
    rfl
   refine pure_ (i := 9) (N := some 26) (v := ?_) (a' := ?_) (bm 10 1023) rfl rfl (any_of HT_.out kr) qi (Or.inl ⟨by rfl, ?_⟩) ?_ ?_
   rotate_left
   ·intro w'
    go_simp
    with_reducible rfl
   rotate_left
   ·simp only [sx]
    rfl
   refine done_ (done_of HT_.out kr) ?_
   go_upto_if 26 with (fail)
   have H := HC8.out
   clear HC8
   by_cases c11 : t547 = true
   case neg =>
    replace c11 := Bool.eq_false_iff.mpr c11
    subst c11
    have H1 : (some false) = some r := by rw [if_neg (show ¬ (false = true) by decide)] at H; exact H
    clear H
    have H := H1
    clear H1
    obtain rfl := Option.some.inj H
    go_wp2
    go_ret
    exact ⟨rfw, blw⟩
   subst c11
   have H1 : (laws_eqTypeS.l0 k1 l0 l1 (wrap64 (x5_1 + 1))) = some r := by rw [if_pos rfl] at H; exact H
   clear H
   have H := H1
   clear H1
   have H' := am H
   clear H
   go_wp2
   go_roundg k1
   case measure => have := HK1.out; omega
   case rel => exact ⟨(wrap64 (x5_1 + 1)), rfs, H', ⟨by have := HK1.out; omega⟩, ⟨blw⟩⟩

theorem laws_eqType.all (k : Nat) : (laws_eqType.T k) ∧ (laws_eqTypeS.T k) := by
 induction k using Nat.strongRecOn with
 | _ k ih =>
 exact ⟨laws_eqType.step k (fun m hm_ => (ih m hm_).1) (fun m hm_ => (ih m hm_).2), laws_eqTypeS.step k (fun m hm_ => (ih m hm_).2) (fun m hm_ => (ih m hm_).1)⟩

theorem laws_eqType.calls (k : Nat) : ∀ (a0_0 : Int) (A0_1 : Option Addr) (c0_1 : Nat) (l0_1 : List ByteArray) (A0_2 : Option Addr) (c0_2 : Nat) (l0_2 : List (S32)) (a1_0 : Int) (A1_1 : Option Addr) (c1_1 : Nat) (l1_1 : List ByteArray) (A1_2 : Option Addr) (c1_2 : Nat) (l1_2 : List (S32)) (r : Bool) (w : World) (hr0_1 : Kd.C Kd.string w A0_1 l0_1.length l0_1) (hc0_1 : l0_1.length ≤ c0_1) (hr0_2 : Kd.C k32 w A0_2 l0_2.length l0_2) (hc0_2 : l0_2.length ≤ c0_2) (hr1_1 : Kd.C Kd.string w A1_1 l1_1.length l1_1) (hc1_1 : l1_1.length ≤ c1_1) (hr1_2 : Kd.C k32 w A1_2 l1_2.length l1_2) (hc1_2 : l1_2.length ≤ c1_2) (h : laws_eqType.f k a0_0 l0_1 l0_2 a1_0 l1_1 l1_2 = some r),
  Calls Tryd.prog 32 #[.agg #[.int .i64 a0_0, .slice A0_1 l0_1.length c0_1, .slice A0_2 l0_2.length c0_2], .agg #[.int .i64 a1_0, .slice A1_1 l1_1.length c1_1, .slice A1_2 l1_2.length c1_2]] w fun e w' => e = .returned (.bool r) ∧ Below w.heap.size w w' := (laws_eqType.all k).1

end Go.Proofs.YtpckkjeapfdilaaDoor.Px
end

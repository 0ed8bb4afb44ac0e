/- Printed by a program of this session: what functions of the translation come to, each contract as it stands. No condition. -/
import Derived.Test.YtpkppeicceehcaaZEqualQuerySh
import Derived.Test.YtpkppeicceehcaaZEqualQueryPx0
import Derived.Test.YtpkppeicceehcaaZEqualQueryPx8M
import Derived.Test.YtpkppeicceehcaaZEqualQueryPx2M
namespace Go.Proofs.Ytpkppeicceehcaa.Px
set_option maxHeartbeats 8000000
set_option maxRecDepth 100000
open Go.RowKit Go.Proofs.Ytpkppeicceehcaa.Ext Go.Proofs.YtpkppeicceehcaaW.PrintWords Go.Proofs.YtpkppeicceehcaaW.PrintLast Go.Proofs.YtpkppeicceehcaaW.PrintMore
attribute [local go_sem] max2_int min2_int max_two min_two max_three min_three max_four min_four   -- for this text's walks alone
set_option linter.unusedVariables false
set_option linter.unusedSimpArgs false

mutual
def laws_eqQuery.f : Nat → List (S49) → List (S49) → Option (Bool)
 | 0, _, _ => none
 | k + 1, l0_0, l1_0 => (laws_eqCompS.f k l0_0 l1_0).bind fun t391 => (if t391 = true then (some true) else (some false))
def laws_eqCompS.l0 : Nat → List (S49) → List (S49) → Int → Option (Bool)
 | 0, _, _, _ => none
 | k + 1, x0, x1, x5 => if x5 < (x0.length : Int) then (if 0 ≤ x5 then (if x5 < (x1.length : Int) then ((laws_eqComp.f k ((rd_T49 x0 x5).f0) ((rd_T49 x0 x5).f1.f0) ((rd_T49 x0 x5).f1.f1) ((rd_T49 x0 x5).f1.f2) ((rd_T49 x0 x5).f1.f3.f0) ((rd_T49 x0 x5).f1.f3.f1) ((rd_T49 x0 x5).f1.f3.f2) ((rd_T49 x0 x5).f1.f4) ((rd_T49 x0 x5).f1.f5) ((rd_T49 x0 x5).f2.f0) ((rd_T49 x0 x5).f2.f1.f0) ((rd_T49 x0 x5).f2.f1.f1) ((rd_T49 x0 x5).f2.f1.f2) ((rd_T49 x0 x5).f2.f1.f3.f0) ((rd_T49 x0 x5).f2.f1.f3.f1) ((rd_T49 x0 x5).f2.f1.f3.f2) ((rd_T49 x0 x5).f2.f1.f4) ((rd_T49 x0 x5).f2.f1.f5) ((rd_T49 x0 x5).f2.f2) ((rd_T49 x0 x5).f2.f3) ((rd_T49 x0 x5).f2.f4.f0) ((rd_T49 x1 x5).f0) ((rd_T49 x1 x5).f1.f0) ((rd_T49 x1 x5).f1.f1) ((rd_T49 x1 x5).f1.f2) ((rd_T49 x1 x5).f1.f3.f0) ((rd_T49 x1 x5).f1.f3.f1) ((rd_T49 x1 x5).f1.f3.f2) ((rd_T49 x1 x5).f1.f4) ((rd_T49 x1 x5).f1.f5) ((rd_T49 x1 x5).f2.f0) ((rd_T49 x1 x5).f2.f1.f0) ((rd_T49 x1 x5).f2.f1.f1) ((rd_T49 x1 x5).f2.f1.f2) ((rd_T49 x1 x5).f2.f1.f3.f0) ((rd_T49 x1 x5).f2.f1.f3.f1) ((rd_T49 x1 x5).f2.f1.f3.f2) ((rd_T49 x1 x5).f2.f1.f4) ((rd_T49 x1 x5).f2.f1.f5) ((rd_T49 x1 x5).f2.f2) ((rd_T49 x1 x5).f2.f3) ((rd_T49 x1 x5).f2.f4.f0)).bind fun t394 => (if t394 = true then (laws_eqCompS.l0 k x0 x1 (wrap64 (x5 + 1))) else (some false))) else (none)) else (none)) else (some true)
def laws_eqCompS.f : Nat → List (S49) → List (S49) → Option (Bool)
 | 0, _, _ => none
 | k + 1, l0, l1 => if (l0.length : Int) = (l1.length : Int) then (laws_eqCompS.l0 k l0 l1 0) else (some false)
def laws_eqComp.f : Nat → List (S77) → Int → ByteArray → Int → Int → List ByteArray → List (S41) → List ByteArray → List (S44) → Int → Int → ByteArray → Int → Int → List ByteArray → List (S41) → List ByteArray → List (S44) → List ByteArray → List (S47) → List (S49) → List (S77) → Int → ByteArray → Int → Int → List ByteArray → List (S41) → List ByteArray → List (S44) → Int → Int → ByteArray → Int → Int → List ByteArray → List (S41) → List ByteArray → List (S44) → List ByteArray → List (S47) → List (S49) → Option (Bool)
 | 0, _, _, _, _, _, _, _, _, _, _, _, _, _, _, _, _, _, _, _, _, _, _, _, _, _, _, _, _, _, _, _, _, _, _, _, _, _, _, _, _, _, _ => none
 | k + 1, l0_0, a0_1, a0_2, a0_3, a0_4, l0_5, l0_6, l0_7, l0_8, a0_9, a0_10, a0_11, a0_12, a0_13, l0_14, l0_15, l0_16, l0_17, l0_18, l0_19, l0_20, l1_0, a1_1, a1_2, a1_3, a1_4, l1_5, l1_6, l1_7, l1_8, a1_9, a1_10, a1_11, a1_12, a1_13, l1_14, l1_15, l1_16, l1_17, l1_18, l1_19, l1_20 => (laws_eqGenS.f k l0_0 l1_0).bind fun t397 => (if t397 = true then ((laws_eqTerm.f k a0_1 a0_2 a0_3 a0_4 l0_5 l0_6 l0_7 l0_8 a1_1 a1_2 a1_3 a1_4 l1_5 l1_6 l1_7 l1_8).bind fun t398 => (if t398 = true then ((laws_eqHead.f k a0_9 a0_10 a0_11 a0_12 a0_13 l0_14 l0_15 l0_16 l0_17 l0_18 l0_19 l0_20 a1_9 a1_10 a1_11 a1_12 a1_13 l1_14 l1_15 l1_16 l1_17 l1_18 l1_19 l1_20).bind fun t399 => (if t399 = true then (some true) else (some false))) else (some false))) else (some false))
def laws_eqHead.f : Nat → Int → Int → ByteArray → Int → Int → List ByteArray → List (S41) → List ByteArray → List (S44) → List ByteArray → List (S47) → List (S49) → Int → Int → ByteArray → Int → Int → List ByteArray → List (S41) → List ByteArray → List (S44) → List ByteArray → List (S47) → List (S49) → Option (Bool)
 | 0, _, _, _, _, _, _, _, _, _, _, _, _, _, _, _, _, _, _, _, _, _, _, _, _ => none
 | k + 1, a0_0, a0_1, a0_2, a0_3, a0_4, l0_5, l0_6, l0_7, l0_8, l0_9, l0_10, l0_11, a1_0, a1_1, a1_2, a1_3, a1_4, l1_5, l1_6, l1_7, l1_8, l1_9, l1_10, l1_11 => if a0_0 = a1_0 then ((laws_eqTerm.f k a0_1 a0_2 a0_3 a0_4 l0_5 l0_6 l0_7 l0_8 a1_1 a1_2 a1_3 a1_4 l1_5 l1_6 l1_7 l1_8).bind fun t402 => (if t402 = true then ((laws_eqStringS.f k l0_9 l1_9).bind fun t403 => (if t403 = true then ((laws_eqHeadS.f k l0_10 l1_10).bind fun t404 => (if t404 = true then ((laws_eqQuery.f k l0_11 l1_11).bind fun t405 => (if t405 = true then (some true) else (some false))) else (some false))) else (some false))) else (some false))) else (some false)
def laws_eqHeadS.l0 : Nat → List (S47) → List (S47) → Int → Option (Bool)
 | 0, _, _, _ => none
 | k + 1, x0, x1, x5 => if x5 < (x0.length : Int) then (if 0 ≤ x5 then (if x5 < (x1.length : Int) then ((laws_eqHead.f k ((rd_T47 x0 x5).f0) ((rd_T47 x0 x5).f1.f0) ((rd_T47 x0 x5).f1.f1) ((rd_T47 x0 x5).f1.f2) ((rd_T47 x0 x5).f1.f3.f0) ((rd_T47 x0 x5).f1.f3.f1) ((rd_T47 x0 x5).f1.f3.f2) ((rd_T47 x0 x5).f1.f4) ((rd_T47 x0 x5).f1.f5) ((rd_T47 x0 x5).f2) ((rd_T47 x0 x5).f3) ((rd_T47 x0 x5).f4.f0) ((rd_T47 x1 x5).f0) ((rd_T47 x1 x5).f1.f0) ((rd_T47 x1 x5).f1.f1) ((rd_T47 x1 x5).f1.f2) ((rd_T47 x1 x5).f1.f3.f0) ((rd_T47 x1 x5).f1.f3.f1) ((rd_T47 x1 x5).f1.f3.f2) ((rd_T47 x1 x5).f1.f4) ((rd_T47 x1 x5).f1.f5) ((rd_T47 x1 x5).f2) ((rd_T47 x1 x5).f3) ((rd_T47 x1 x5).f4.f0)).bind fun t408 => (if t408 = true then (laws_eqHeadS.l0 k x0 x1 (wrap64 (x5 + 1))) else (some false))) else (none)) else (none)) else (some true)
def laws_eqHeadS.f : Nat → List (S47) → List (S47) → Option (Bool)
 | 0, _, _ => none
 | k + 1, l0, l1 => if (l0.length : Int) = (l1.length : Int) then (laws_eqHeadS.l0 k l0 l1 0) else (some false)
end
abbrev laws_eqQuery.T (k : Nat) : Prop := ∀ (A0_0 : Option Addr) (c0_0 : Nat) (l0_0 : List (S49)) (A1_0 : Option Addr) (c1_0 : Nat) (l1_0 : List (S49)) (r : Bool) (w : World) (hr0_0 : Kd.C k49 w A0_0 l0_0.length l0_0) (hc0_0 : l0_0.length ≤ c0_0) (hr1_0 : Kd.C k49 w A1_0 l1_0.length l1_0) (hc1_0 : l1_0.length ≤ c1_0) (h : laws_eqQuery.f k l0_0 l1_0 = some r),
  Calls Try.prog 10 #[.agg #[.slice A0_0 l0_0.length c0_0], .agg #[.slice A1_0 l1_0.length c1_0]] w fun e w' => e = .returned (.bool r) ∧ Below w.heap.size w w'
abbrev laws_eqCompS.T (k : Nat) : Prop := ∀ (A0 : Option Addr) (c0 : Nat) (l0 : List (S49)) (A1 : Option Addr) (c1 : Nat) (l1 : List (S49)) (r : Bool) (w : World) (hr0 : Kd.C k49 w A0 l0.length l0) (hc0 : l0.length ≤ c0) (hr1 : Kd.C k49 w A1 l1.length l1) (hc1 : l1.length ≤ c1) (h : laws_eqCompS.f k l0 l1 = some r),
  Calls Try.prog 20 #[.slice A0 l0.length c0, .slice A1 l1.length c1] w fun e w' => e = .returned (.bool r) ∧ Below w.heap.size w w'
abbrev laws_eqComp.T (k : Nat) : Prop := ∀ (A0_0 : Option Addr) (c0_0 : Nat) (l0_0 : List (S77)) (a0_1 : Int) (a0_2 : ByteArray) (a0_3 : Int) (a0_4 : Int) (A0_5 : Option Addr) (c0_5 : Nat) (l0_5 : List ByteArray) (A0_6 : Option Addr) (c0_6 : Nat) (l0_6 : List (S41)) (A0_7 : Option Addr) (c0_7 : Nat) (l0_7 : List ByteArray) (A0_8 : Option Addr) (c0_8 : Nat) (l0_8 : List (S44)) (a0_9 : Int) (a0_10 : Int) (a0_11 : ByteArray) (a0_12 : Int) (a0_13 : Int) (A0_14 : Option Addr) (c0_14 : Nat) (l0_14 : List ByteArray) (A0_15 : Option Addr) (c0_15 : Nat) (l0_15 : List (S41)) (A0_16 : Option Addr) (c0_16 : Nat) (l0_16 : List ByteArray) (A0_17 : Option Addr) (c0_17 : Nat) (l0_17 : List (S44)) (A0_18 : Option Addr) (c0_18 : Nat) (l0_18 : List ByteArray) (A0_19 : Option Addr) (c0_19 : Nat) (l0_19 : List (S47)) (A0_20 : Option Addr) (c0_20 : Nat) (l0_20 : List (S49)) (A1_0 : Option Addr) (c1_0 : Nat) (l1_0 : List (S77)) (a1_1 : Int) (a1_2 : ByteArray) (a1_3 : Int) (a1_4 : Int) (A1_5 : Option Addr) (c1_5 : Nat) (l1_5 : List ByteArray) (A1_6 : Option Addr) (c1_6 : Nat) (l1_6 : List (S41)) (A1_7 : Option Addr) (c1_7 : Nat) (l1_7 : List ByteArray) (A1_8 : Option Addr) (c1_8 : Nat) (l1_8 : List (S44)) (a1_9 : Int) (a1_10 : Int) (a1_11 : ByteArray) (a1_12 : Int) (a1_13 : Int) (A1_14 : Option Addr) (c1_14 : Nat) (l1_14 : List ByteArray) (A1_15 : Option Addr) (c1_15 : Nat) (l1_15 : List (S41)) (A1_16 : Option Addr) (c1_16 : Nat) (l1_16 : List ByteArray) (A1_17 : Option Addr) (c1_17 : Nat) (l1_17 : List (S44)) (A1_18 : Option Addr) (c1_18 : Nat) (l1_18 : List ByteArray) (A1_19 : Option Addr) (c1_19 : Nat) (l1_19 : List (S47)) (A1_20 : Option Addr) (c1_20 : Nat) (l1_20 : List (S49)) (r : Bool) (w : World) (hr0_0 : Kd.C k77 w A0_0 l0_0.length l0_0) (hc0_0 : l0_0.length ≤ c0_0) (hr0_5 : Kd.C Kd.string w A0_5 l0_5.length l0_5) (hc0_5 : l0_5.length ≤ c0_5) (hr0_6 : Kd.C k41 w A0_6 l0_6.length l0_6) (hc0_6 : l0_6.length ≤ c0_6) (hr0_7 : Kd.C Kd.string w A0_7 l0_7.length l0_7) (hc0_7 : l0_7.length ≤ c0_7) (hr0_8 : Kd.C k44 w A0_8 l0_8.length l0_8) (hc0_8 : l0_8.length ≤ c0_8) (hr0_14 : Kd.C Kd.string w A0_14 l0_14.length l0_14) (hc0_14 : l0_14.length ≤ c0_14) (hr0_15 : Kd.C k41 w A0_15 l0_15.length l0_15) (hc0_15 : l0_15.length ≤ c0_15) (hr0_16 : Kd.C Kd.string w A0_16 l0_16.length l0_16) (hc0_16 : l0_16.length ≤ c0_16) (hr0_17 : Kd.C k44 w A0_17 l0_17.length l0_17) (hc0_17 : l0_17.length ≤ c0_17) (hr0_18 : Kd.C Kd.string w A0_18 l0_18.length l0_18) (hc0_18 : l0_18.length ≤ c0_18) (hr0_19 : Kd.C k47 w A0_19 l0_19.length l0_19) (hc0_19 : l0_19.length ≤ c0_19) (hr0_20 : Kd.C k49 w A0_20 l0_20.length l0_20) (hc0_20 : l0_20.length ≤ c0_20) (hr1_0 : Kd.C k77 w A1_0 l1_0.length l1_0) (hc1_0 : l1_0.length ≤ c1_0) (hr1_5 : Kd.C Kd.string w A1_5 l1_5.length l1_5) (hc1_5 : l1_5.length ≤ c1_5) (hr1_6 : Kd.C k41 w A1_6 l1_6.length l1_6) (hc1_6 : l1_6.length ≤ c1_6) (hr1_7 : Kd.C Kd.string w A1_7 l1_7.length l1_7) (hc1_7 : l1_7.length ≤ c1_7) (hr1_8 : Kd.C k44 w A1_8 l1_8.length l1_8) (hc1_8 : l1_8.length ≤ c1_8) (hr1_14 : Kd.C Kd.string w A1_14 l1_14.length l1_14) (hc1_14 : l1_14.length ≤ c1_14) (hr1_15 : Kd.C k41 w A1_15 l1_15.length l1_15) (hc1_15 : l1_15.length ≤ c1_15) (hr1_16 : Kd.C Kd.string w A1_16 l1_16.length l1_16) (hc1_16 : l1_16.length ≤ c1_16) (hr1_17 : Kd.C k44 w A1_17 l1_17.length l1_17) (hc1_17 : l1_17.length ≤ c1_17) (hr1_18 : Kd.C Kd.string w A1_18 l1_18.length l1_18) (hc1_18 : l1_18.length ≤ c1_18) (hr1_19 : Kd.C k47 w A1_19 l1_19.length l1_19) (hc1_19 : l1_19.length ≤ c1_19) (hr1_20 : Kd.C k49 w A1_20 l1_20.length l1_20) (hc1_20 : l1_20.length ≤ c1_20) (h : laws_eqComp.f k l0_0 a0_1 a0_2 a0_3 a0_4 l0_5 l0_6 l0_7 l0_8 a0_9 a0_10 a0_11 a0_12 a0_13 l0_14 l0_15 l0_16 l0_17 l0_18 l0_19 l0_20 l1_0 a1_1 a1_2 a1_3 a1_4 l1_5 l1_6 l1_7 l1_8 a1_9 a1_10 a1_11 a1_12 a1_13 l1_14 l1_15 l1_16 l1_17 l1_18 l1_19 l1_20 = some r),
  Calls Try.prog 30 #[.agg #[.slice A0_0 l0_0.length c0_0, .int .i64 a0_1, .string a0_2, .int .i64 a0_3, .int .i64 a0_4, .slice A0_5 l0_5.length c0_5, .slice A0_6 l0_6.length c0_6, .slice A0_7 l0_7.length c0_7, .slice A0_8 l0_8.length c0_8, .int .i64 a0_9, .int .i64 a0_10, .string a0_11, .int .i64 a0_12, .int .i64 a0_13, .slice A0_14 l0_14.length c0_14, .slice A0_15 l0_15.length c0_15, .slice A0_16 l0_16.length c0_16, .slice A0_17 l0_17.length c0_17, .slice A0_18 l0_18.length c0_18, .slice A0_19 l0_19.length c0_19, .slice A0_20 l0_20.length c0_20], .agg #[.slice A1_0 l1_0.length c1_0, .int .i64 a1_1, .string a1_2, .int .i64 a1_3, .int .i64 a1_4, .slice A1_5 l1_5.length c1_5, .slice A1_6 l1_6.length c1_6, .slice A1_7 l1_7.length c1_7, .slice A1_8 l1_8.length c1_8, .int .i64 a1_9, .int .i64 a1_10, .string a1_11, .int .i64 a1_12, .int .i64 a1_13, .slice A1_14 l1_14.length c1_14, .slice A1_15 l1_15.length c1_15, .slice A1_16 l1_16.length c1_16, .slice A1_17 l1_17.length c1_17, .slice A1_18 l1_18.length c1_18, .slice A1_19 l1_19.length c1_19, .slice A1_20 l1_20.length c1_20]] w fun e w' => e = .returned (.bool r) ∧ Below w.heap.size w w'
abbrev laws_eqHead.T (k : Nat) : Prop := ∀ (a0_0 : Int) (a0_1 : Int) (a0_2 : ByteArray) (a0_3 : Int) (a0_4 : Int) (A0_5 : Option Addr) (c0_5 : Nat) (l0_5 : List ByteArray) (A0_6 : Option Addr) (c0_6 : Nat) (l0_6 : List (S41)) (A0_7 : Option Addr) (c0_7 : Nat) (l0_7 : List ByteArray) (A0_8 : Option Addr) (c0_8 : Nat) (l0_8 : List (S44)) (A0_9 : Option Addr) (c0_9 : Nat) (l0_9 : List ByteArray) (A0_10 : Option Addr) (c0_10 : Nat) (l0_10 : List (S47)) (A0_11 : Option Addr) (c0_11 : Nat) (l0_11 : List (S49)) (a1_0 : Int) (a1_1 : Int) (a1_2 : ByteArray) (a1_3 : Int) (a1_4 : Int) (A1_5 : Option Addr) (c1_5 : Nat) (l1_5 : List ByteArray) (A1_6 : Option Addr) (c1_6 : Nat) (l1_6 : List (S41)) (A1_7 : Option Addr) (c1_7 : Nat) (l1_7 : List ByteArray) (A1_8 : Option Addr) (c1_8 : Nat) (l1_8 : List (S44)) (A1_9 : Option Addr) (c1_9 : Nat) (l1_9 : List ByteArray) (A1_10 : Option Addr) (c1_10 : Nat) (l1_10 : List (S47)) (A1_11 : Option Addr) (c1_11 : Nat) (l1_11 : List (S49)) (r : Bool) (w : World) (hr0_5 : Kd.C Kd.string w A0_5 l0_5.length l0_5) (hc0_5 : l0_5.length ≤ c0_5) (hr0_6 : Kd.C k41 w A0_6 l0_6.length l0_6) (hc0_6 : l0_6.length ≤ c0_6) (hr0_7 : Kd.C Kd.string w A0_7 l0_7.length l0_7) (hc0_7 : l0_7.length ≤ c0_7) (hr0_8 : Kd.C k44 w A0_8 l0_8.length l0_8) (hc0_8 : l0_8.length ≤ c0_8) (hr0_9 : Kd.C Kd.string w A0_9 l0_9.length l0_9) (hc0_9 : l0_9.length ≤ c0_9) (hr0_10 : Kd.C k47 w A0_10 l0_10.length l0_10) (hc0_10 : l0_10.length ≤ c0_10) (hr0_11 : Kd.C k49 w A0_11 l0_11.length l0_11) (hc0_11 : l0_11.length ≤ c0_11) (hr1_5 : Kd.C Kd.string w A1_5 l1_5.length l1_5) (hc1_5 : l1_5.length ≤ c1_5) (hr1_6 : Kd.C k41 w A1_6 l1_6.length l1_6) (hc1_6 : l1_6.length ≤ c1_6) (hr1_7 : Kd.C Kd.string w A1_7 l1_7.length l1_7) (hc1_7 : l1_7.length ≤ c1_7) (hr1_8 : Kd.C k44 w A1_8 l1_8.length l1_8) (hc1_8 : l1_8.length ≤ c1_8) (hr1_9 : Kd.C Kd.string w A1_9 l1_9.length l1_9) (hc1_9 : l1_9.length ≤ c1_9) (hr1_10 : Kd.C k47 w A1_10 l1_10.length l1_10) (hc1_10 : l1_10.length ≤ c1_10) (hr1_11 : Kd.C k49 w A1_11 l1_11.length l1_11) (hc1_11 : l1_11.length ≤ c1_11) (h : laws_eqHead.f k a0_0 a0_1 a0_2 a0_3 a0_4 l0_5 l0_6 l0_7 l0_8 l0_9 l0_10 l0_11 a1_0 a1_1 a1_2 a1_3 a1_4 l1_5 l1_6 l1_7 l1_8 l1_9 l1_10 l1_11 = some r),
  Calls Try.prog 44 #[.agg #[.int .i64 a0_0, .int .i64 a0_1, .string a0_2, .int .i64 a0_3, .int .i64 a0_4, .slice A0_5 l0_5.length c0_5, .slice A0_6 l0_6.length c0_6, .slice A0_7 l0_7.length c0_7, .slice A0_8 l0_8.length c0_8, .slice A0_9 l0_9.length c0_9, .slice A0_10 l0_10.length c0_10, .slice A0_11 l0_11.length c0_11], .agg #[.int .i64 a1_0, .int .i64 a1_1, .string a1_2, .int .i64 a1_3, .int .i64 a1_4, .slice A1_5 l1_5.length c1_5, .slice A1_6 l1_6.length c1_6, .slice A1_7 l1_7.length c1_7, .slice A1_8 l1_8.length c1_8, .slice A1_9 l1_9.length c1_9, .slice A1_10 l1_10.length c1_10, .slice A1_11 l1_11.length c1_11]] w fun e w' => e = .returned (.bool r) ∧ Below w.heap.size w w'
abbrev laws_eqHeadS.T (k : Nat) : Prop := ∀ (A0 : Option Addr) (c0 : Nat) (l0 : List (S47)) (A1 : Option Addr) (c1 : Nat) (l1 : List (S47)) (r : Bool) (w : World) (hr0 : Kd.C k47 w A0 l0.length l0) (hc0 : l0.length ≤ c0) (hr1 : Kd.C k47 w A1 l1.length l1) (hc1 : l1.length ≤ c1) (h : laws_eqHeadS.f k l0 l1 = some r),
  Calls Try.prog 63 #[.slice A0 l0.length c0, .slice A1 l1.length c1] w fun e w' => e = .returned (.bool r) ∧ Below w.heap.size w w'
/-! ### laws_eqQuery: function 10 -/
theorem laws_eqQuery.step (k : Nat) (ih : ∀ m, m < k → laws_eqQuery.T m) (ih_20 : ∀ m, m < k → laws_eqCompS.T m) (ih_30 : ∀ m, m < k → laws_eqComp.T m) (ih_44 : ∀ m, m < k → laws_eqHead.T m) (ih_63 : ∀ m, m < k → laws_eqHeadS.T m) : laws_eqQuery.T k := by
 intro A0_0 c0_0 l0_0 A1_0 c1_0 l1_0 r w hr0_0 hc0_0 hr1_0 hc1_0 h
 cases k with
 | zero => exact absurd h (by simp [laws_eqQuery.f])
 | succ k =>
 simp only [laws_eqQuery.f] at h
 have hu29 := Try.underlying29
 have HR0_0 := am hr0_0
 have HC0_0 := am hc0_0
 clear hr0_0 hc0_0
 have HR1_0 := am hr1_0
 have HC1_0 := am hc1_0
 clear hr1_0 hc1_0
 have HB := am (Below.refl w.heap.size w)
 have H : ((laws_eqCompS.f k l0_0 l1_0).bind fun t391 => (if t391 = true then (some true) else (some false))) = some r := h
 clear h
 replace H := Option.bind_eq_some_iff.mp H
 obtain ⟨t391, A30, H⟩ := H
 replace H : (if t391 = true then (some true) else (some false)) = some r := H
 have A3 := am A30
 clear A30
 have HC4 := am H
 clear H
 go_enter Try.func10, Try.ntmps10
 go_upto_if 10 with (first | ((with_reducible refine gate_dst (N := 2) rfl ?_); refine box_event ?hg (N := 2) ?hd (cs := #[.slice A0_0 l0_0.length c0_0]) (t := 29) ?hr ?_; (case hd => rfl); (case hg => rfl); (case hr => exact hrw); intro gb389 hg w5 hbox hb; have n0_ := am (below_step blw hb); have n1_ := am (hbox); have n2_ := am ((by rw [hg]; exact (below_size blw) : w.heap.size ≤ gb389)); have n3_ := n2_; clear HB; revert n0_ n1_ n2_ n3_; intro HB BK389 GW389 GE389; clear hb hbox hg) | ((with_reducible refine gate_dst (N := 3) rfl ?_); refine box_event ?hg (N := 3) ?hd (cs := #[.slice A1_0 l1_0.length c1_0]) (t := 29) ?hr ?_; (case hd => rfl); (case hg => rfl); (case hr => exact hrw); intro gb390 hg w6 hbox hb; have n0_ := am (blk_below (g := gb389) bkw hb); have n1_ := am (below_step blw hb); have n2_ := am (hbox); have n3_ := am ((by rw [hg]; exact (below_size blw) : w.heap.size ≤ gb390)); have n4_ := n3_; have n5_ := am ((by rw [hg]; exact Nat.ne_of_lt (blk_lt (g := gb389) bkw) : gb389 ≠ gb390)); have n6_ := am ((by rw [hg]; exact Nat.ne_of_gt (blk_lt (g := gb389) bkw) : gb390 ≠ gb389)); clear BK389; clear HB; revert n0_ n1_ n2_ n3_ n4_ n5_ n6_; intro BK389 HB BK390 GW390 GE390 NB389_390 NB390_389; clear hb hbox hg; have hnb7 := NB389_390.out; have hnc7 := NB390_389.out; have hcz8_0 : w6.cell? ⟨gb389, 0, none⟩ = some (.slice A0_0 l0_0.length c0_0) := (blk_cell BK389.out 0).trans rfl; have hfz8_0 := blk_frozen BK389.out 0; have hcz9_0 : w6.cell? ⟨gb390, 0, none⟩ = some (.slice A1_0 l1_0.length c1_0) := (blk_cell BK390.out 0).trans rfl; have hfz9_0 := blk_frozen BK390.out 0) | ((with_reducible refine gate_callee (f := 20) rfl ?_); refine goesL_ (some 9) rfl rfl Try.func20 kr rfl #[.slice A0_0 l0_0.length c0_0, .slice A1_0 l1_0.length c1_0] rfl mpw ?_; (with_reducible refine (ih_20 k (by omega) _ _ l0_0 _ _ l1_0 t391 _ ?side1 ?side2 ?side3 ?side4 A3.out).mono ?_); (case side1 => have X_ := HR0_0; exact cbl); (case side2 => exact HC0_0.out); (case side3 => have X_ := HR1_0; exact cbl); (case side4 => exact HC1_0.out); rintro e w10 ⟨rfl, hb⟩; refine ⟨_, rfl, ?_⟩; have n0_ := am (blk_below (g := gb389) bkw hb); have n1_ := am (blk_below (g := gb390) bkw hb); have n2_ := am (below_step blw hb); clear BK389; clear BK390; clear HB; revert n0_ n1_ n2_; intro BK389 BK390 HB; (try clear hb); (try clear hb2); (try clear hk); (try clear hi)))
 have H := HC4.out
 clear HC4
 by_cases c11 : t391 = true
 ·subst c11
  have H1 : (some true) = some r := by rw [if_pos rfl] at H; exact H
  clear H
  have H := H1
  clear H1
  obtain rfl := Option.some.inj H
  go_wp2
  go_ret
  exact ⟨rfw, blw⟩
 replace c11 := Bool.eq_false_iff.mpr c11
 subst c11
 have H1 : (some false) = some r := by rw [if_neg (show ¬ (false = true) by decide)] at H; exact H
 clear H
 have H := H1
 clear H1
 obtain rfl := Option.some.inj H
 go_wp2
 go_ret
 exact ⟨rfw, blw⟩

/-! ### laws_eqCompS: function 20 -/
def laws_eqCompS.T6 : Bool × List (List Nat × List Nat) := (true, [([], []), ([], []), ([0, 1], [0, 1]), ([2], [2]), ([], []), ([], []), ([4, 5], [4, 5]), ([6], [6]), ([3, 7], [3, 7]), ([8], [8])])
def laws_eqCompS.B6 : List Nat := [0, 0, 3, 7, 0, 0, 48, 112, 255, 511]
theorem laws_eqCompS.tab6 : rtab .any (opsOf Try.f20 6) = laws_eqCompS.T6 := by kernel_rfl
theorem laws_eqCompS.bits6 : waitsOk laws_eqCompS.T6.2 laws_eqCompS.B6 = true := by kernel_rfl
theorem laws_eqCompS.step (k : Nat) (ih : ∀ m, m < k → laws_eqCompS.T m) (ih_10 : ∀ m, m < k → laws_eqQuery.T m) (ih_30 : ∀ m, m < k → laws_eqComp.T m) (ih_44 : ∀ m, m < k → laws_eqHead.T m) (ih_63 : ∀ m, m < k → laws_eqHeadS.T m) : laws_eqCompS.T k := by
 intro A0 c0 l0 A1 c1 l1 r w hr0 hc0 hr1 hc1 h
 cases k with
 | zero => exact absurd h (by simp [laws_eqCompS.f])
 | succ k =>
 simp only [laws_eqCompS.f] at h
 have hu49 := Try.underlying49
 have HR0 := am hr0
 have HC0 := am hc0
 clear hr0 hc0
 have HR1 := am hr1
 have HC1 := am hc1
 clear hr1 hc1
 have HB := am (Below.refl w.heap.size w)
 have H : (if (l0.length : Int) = (l1.length : Int) then (laws_eqCompS.l0 k l0 l1 0) else (some false)) = some r := h
 clear h
 by_cases c3 : (l0.length : Int) = (l1.length : Int)
 ·rw [if_pos c3] at H
  have c3b0 : ((l0.length : Int) == (l1.length : Int)) = true := beq_iff_eq.mpr c3
  have c3b1 : ((l0.length : Int) != (l1.length : Int)) = false := bne_eq_false_iff_eq.mpr c3
  have c3b2 : (l0.length == l1.length) = true := by first | simpa using c3 | (simp at c3 ⊢; omega)
  clear c3
  have H' := am H
  clear H
  go_enter Try.func20, Try.ntmps20
  go_wp2
  go_loopg [5] k (fun kq v5 w' => ∃ (x5_1 : Int), v5 = .int .i64 x5_1 ∧ Aside0 (laws_eqCompS.l0 kq l0 l1 x5_1 = some r) ∧ Aside0 (kq ≤ k) ∧ Aside0 (Below w.heap.size w w'))
  case atStart => exact ⟨(0), rfs, H', ⟨Nat.le_refl _⟩, ⟨blw⟩⟩
  case round =>
   clear H'
   (try clear c1); (try clear c2); (try clear p2); (try clear c3); (try clear c3b0); (try clear c3b1); (try clear c3b2)
   obtain ⟨x5_1, rfl, HA, HK1, HB⟩ := hrel
   cases gk with
   | zero => exact absurd HA.out (by simp [laws_eqCompS.l0])
   | succ k1 =>
    have H := HA.out
    clear HA
    simp only [laws_eqCompS.l0] at H
    by_cases c4 : x5_1 < (l0.length : Int)
    ·rw [if_pos c4] at H
     have c4b0 : decide (x5_1 < (l0.length : Int)) = true := decide_eq_true c4
     clear c4
     by_cases c5 : 0 ≤ x5_1
     ·rw [if_pos c5] at H
      have c5b0 : decide (0 ≤ x5_1) = true := decide_eq_true c5
      clear c5
      by_cases c6 : x5_1 < (l1.length : Int)
      ·rw [if_pos c6] at H
       have c6b0 : decide (x5_1 < (l1.length : Int)) = true := decide_eq_true c6
       clear c6
       replace H := Option.bind_eq_some_iff.mp H
       obtain ⟨t394, A70, H⟩ := H
       replace H : (if t394 = true then (laws_eqCompS.l0 k1 l0 l1 (wrap64 (x5_1 + 1))) else (some false)) = some r := H
       have A7 := am A70
       clear A70
       have HC8 := am H
       clear H
       try go_wp2
       have n0_ := am (below_drew1 HB.out)
       clear HB
       revert n0_
       intro HB
       have p392 : 0 ≤ (x5_1 : Int) := of_decide_eq_true asw
       have q392 : x5_1 < (l0.length : Int) := of_decide_eq_true asw
       obtain ⟨ad392, A392_0, c392_0, A392_5, c392_5, A392_6, c392_6, A392_7, c392_7, A392_8, c392_8, A392_14, c392_14, A392_15, c392_15, A392_16, c392_16, A392_17, c392_17, A392_18, c392_18, A392_19, c392_19, A392_20, c392_20, e392, hx392_0, hx392_1, hx392_2, hx392_3, hx392_4, hx392_5, hx392_6, hx392_7, hx392_8, hx392_9, hx392_10, hx392_11, hx392_12, hx392_13, hx392_14, hx392_15, hx392_16, hx392_17, hx392_18, hx392_19, hx392_20, hl392_0, hi392_0, hl392_5, hi392_5, hl392_6, hi392_6, hl392_7, hi392_7, hl392_8, hi392_8, hl392_14, hi392_14, hl392_15, hi392_15, hl392_16, hi392_16, hl392_17, hi392_17, hl392_18, hi392_18, hl392_19, hi392_19, hl392_20, hi392_20⟩ := at_T49 HR0.out x5_1 p392 q392
       have hw392_20 := hx392_20
       have hw392_19 := hx392_19
       have hw392_18 := hx392_18
       have hw392_17 := hx392_17
       have hw392_16 := hx392_16
       have hw392_15 := hx392_15
       have hw392_14 := hx392_14
       have hw392_13 := hx392_13
       have hw392_12 := hx392_12
       have hw392_11 := hx392_11
       have hw392_10 := hx392_10
       have hw392_9 := hx392_9
       have hw392_8 := hx392_8
       have hw392_7 := hx392_7
       have hw392_6 := hx392_6
       have hw392_5 := hx392_5
       have hw392_4 := hx392_4
       have hw392_3 := hx392_3
       have hw392_2 := hx392_2
       have hw392_1 := hx392_1
       have hw392_0 := hx392_0
       cases e392
       replace hx392_0 := upw HB.out hx392_0
       replace hx392_1 := upw HB.out hx392_1
       replace hx392_2 := upw HB.out hx392_2
       replace hx392_3 := upw HB.out hx392_3
       replace hx392_4 := upw HB.out hx392_4
       replace hx392_5 := upw HB.out hx392_5
       replace hx392_6 := upw HB.out hx392_6
       replace hx392_7 := upw HB.out hx392_7
       replace hx392_8 := upw HB.out hx392_8
       replace hx392_9 := upw HB.out hx392_9
       replace hx392_10 := upw HB.out hx392_10
       replace hx392_11 := upw HB.out hx392_11
       replace hx392_12 := upw HB.out hx392_12
       replace hx392_13 := upw HB.out hx392_13
       replace hx392_14 := upw HB.out hx392_14
       replace hx392_15 := upw HB.out hx392_15
       replace hx392_16 := upw HB.out hx392_16
       replace hx392_17 := upw HB.out hx392_17
       replace hx392_18 := upw HB.out hx392_18
       replace hx392_19 := upw HB.out hx392_19
       replace hx392_20 := upw HB.out hx392_20
       have HR392_0 := am hi392_0
       have HC392_0 := am hl392_0
       clear hi392_0 hl392_0
       have HR392_5 := am hi392_5
       have HC392_5 := am hl392_5
       clear hi392_5 hl392_5
       have HR392_6 := am hi392_6
       have HC392_6 := am hl392_6
       clear hi392_6 hl392_6
       have HR392_7 := am hi392_7
       have HC392_7 := am hl392_7
       clear hi392_7 hl392_7
       have HR392_8 := am hi392_8
       have HC392_8 := am hl392_8
       clear hi392_8 hl392_8
       have HR392_14 := am hi392_14
       have HC392_14 := am hl392_14
       clear hi392_14 hl392_14
       have HR392_15 := am hi392_15
       have HC392_15 := am hl392_15
       clear hi392_15 hl392_15
       have HR392_16 := am hi392_16
       have HC392_16 := am hl392_16
       clear hi392_16 hl392_16
       have HR392_17 := am hi392_17
       have HC392_17 := am hl392_17
       clear hi392_17 hl392_17
       have HR392_18 := am hi392_18
       have HC392_18 := am hl392_18
       clear hi392_18 hl392_18
       have HR392_19 := am hi392_19
       have HC392_19 := am hl392_19
       clear hi392_19 hl392_19
       have HR392_20 := am hi392_20
       have HC392_20 := am hl392_20
       clear hi392_20 hl392_20
       replace p392 := eq_true p392
       replace q392 := eq_true q392
       have p393 : 0 ≤ (x5_1 : Int) := of_decide_eq_true asw
       have q393 : x5_1 < (l1.length : Int) := of_decide_eq_true asw
       obtain ⟨ad393, A393_0, c393_0, A393_5, c393_5, A393_6, c393_6, A393_7, c393_7, A393_8, c393_8, A393_14, c393_14, A393_15, c393_15, A393_16, c393_16, A393_17, c393_17, A393_18, c393_18, A393_19, c393_19, A393_20, c393_20, e393, hx393_0, hx393_1, hx393_2, hx393_3, hx393_4, hx393_5, hx393_6, hx393_7, hx393_8, hx393_9, hx393_10, hx393_11, hx393_12, hx393_13, hx393_14, hx393_15, hx393_16, hx393_17, hx393_18, hx393_19, hx393_20, hl393_0, hi393_0, hl393_5, hi393_5, hl393_6, hi393_6, hl393_7, hi393_7, hl393_8, hi393_8, hl393_14, hi393_14, hl393_15, hi393_15, hl393_16, hi393_16, hl393_17, hi393_17, hl393_18, hi393_18, hl393_19, hi393_19, hl393_20, hi393_20⟩ := at_T49 HR1.out x5_1 p393 q393
       have hw393_20 := hx393_20
       have hw393_19 := hx393_19
       have hw393_18 := hx393_18
       have hw393_17 := hx393_17
       have hw393_16 := hx393_16
       have hw393_15 := hx393_15
       have hw393_14 := hx393_14
       have hw393_13 := hx393_13
       have hw393_12 := hx393_12
       have hw393_11 := hx393_11
       have hw393_10 := hx393_10
       have hw393_9 := hx393_9
       have hw393_8 := hx393_8
       have hw393_7 := hx393_7
       have hw393_6 := hx393_6
       have hw393_5 := hx393_5
       have hw393_4 := hx393_4
       have hw393_3 := hx393_3
       have hw393_2 := hx393_2
       have hw393_1 := hx393_1
       have hw393_0 := hx393_0
       cases e393
       replace hx393_0 := upw HB.out hx393_0
       replace hx393_1 := upw HB.out hx393_1
       replace hx393_2 := upw HB.out hx393_2
       replace hx393_3 := upw HB.out hx393_3
       replace hx393_4 := upw HB.out hx393_4
       replace hx393_5 := upw HB.out hx393_5
       replace hx393_6 := upw HB.out hx393_6
       replace hx393_7 := upw HB.out hx393_7
       replace hx393_8 := upw HB.out hx393_8
       replace hx393_9 := upw HB.out hx393_9
       replace hx393_10 := upw HB.out hx393_10
       replace hx393_11 := upw HB.out hx393_11
       replace hx393_12 := upw HB.out hx393_12
       replace hx393_13 := upw HB.out hx393_13
       replace hx393_14 := upw HB.out hx393_14
       replace hx393_15 := upw HB.out hx393_15
       replace hx393_16 := upw HB.out hx393_16
       replace hx393_17 := upw HB.out hx393_17
       replace hx393_18 := upw HB.out hx393_18
       replace hx393_19 := upw HB.out hx393_19
       replace hx393_20 := upw HB.out hx393_20
       have HR393_0 := am hi393_0
       have HC393_0 := am hl393_0
       clear hi393_0 hl393_0
       have HR393_5 := am hi393_5
       have HC393_5 := am hl393_5
       clear hi393_5 hl393_5
       have HR393_6 := am hi393_6
       have HC393_6 := am hl393_6
       clear hi393_6 hl393_6
       have HR393_7 := am hi393_7
       have HC393_7 := am hl393_7
       clear hi393_7 hl393_7
       have HR393_8 := am hi393_8
       have HC393_8 := am hl393_8
       clear hi393_8 hl393_8
       have HR393_14 := am hi393_14
       have HC393_14 := am hl393_14
       clear hi393_14 hl393_14
       have HR393_15 := am hi393_15
       have HC393_15 := am hl393_15
       clear hi393_15 hl393_15
       have HR393_16 := am hi393_16
       have HC393_16 := am hl393_16
       clear hi393_16 hl393_16
       have HR393_17 := am hi393_17
       have HC393_17 := am hl393_17
       clear hi393_17 hl393_17
       have HR393_18 := am hi393_18
       have HC393_18 := am hl393_18
       clear hi393_18 hl393_18
       have HR393_19 := am hi393_19
       have HC393_19 := am hl393_19
       clear hi393_19 hl393_19
       have HR393_20 := am hi393_20
       have HC393_20 := am hl393_20
       clear hi393_20 hl393_20
       replace p393 := eq_true p393
       replace q393 := eq_true q393
       refine start_ (n := 10) (S := fun w' => w'.cell? (ad392.add ((x5_1).toNat * 21)) = some (.slice A392_0 ((rd_T49 l0 x5_1).f0).length c392_0) ∧ w'.cell? ⟨(ad392.add ((x5_1).toNat * 21)).block, (ad392.add ((x5_1).toNat * 21)).off + 1, none⟩ = some (.int .i64 ((rd_T49 l0 x5_1).f1.f0)) ∧ w'.cell? ⟨(ad392.add ((x5_1).toNat * 21)).block, (ad392.add ((x5_1).toNat * 21)).off + 2, none⟩ = some (.string ((rd_T49 l0 x5_1).f1.f1)) ∧ w'.cell? ⟨(ad392.add ((x5_1).toNat * 21)).block, (ad392.add ((x5_1).toNat * 21)).off + 3, none⟩ = some (.int .i64 ((rd_T49 l0 x5_1).f1.f2)) ∧ w'.cell? ⟨(ad392.add ((x5_1).toNat * 21)).block, (ad392.add ((x5_1).toNat * 21)).off + 4, none⟩ = some (.int .i64 ((rd_T49 l0 x5_1).f1.f3.f0)) ∧ w'.cell? ⟨(ad392.add ((x5_1).toNat * 21)).block, (ad392.add ((x5_1).toNat * 21)).off + 5, none⟩ = some (.slice A392_5 ((rd_T49 l0 x5_1).f1.f3.f1).length c392_5) ∧ w'.cell? ⟨(ad392.add ((x5_1).toNat * 21)).block, (ad392.add ((x5_1).toNat * 21)).off + 6, none⟩ = some (.slice A392_6 ((rd_T49 l0 x5_1).f1.f3.f2).length c392_6) ∧ w'.cell? ⟨(ad392.add ((x5_1).toNat * 21)).block, (ad392.add ((x5_1).toNat * 21)).off + 7, none⟩ = some (.slice A392_7 ((rd_T49 l0 x5_1).f1.f4).length c392_7) ∧ w'.cell? ⟨(ad392.add ((x5_1).toNat * 21)).block, (ad392.add ((x5_1).toNat * 21)).off + 8, none⟩ = some (.slice A392_8 ((rd_T49 l0 x5_1).f1.f5).length c392_8) ∧ w'.cell? ⟨(ad392.add ((x5_1).toNat * 21)).block, (ad392.add ((x5_1).toNat * 21)).off + 9, none⟩ = some (.int .i64 ((rd_T49 l0 x5_1).f2.f0)) ∧ w'.cell? ⟨(ad392.add ((x5_1).toNat * 21)).block, (ad392.add ((x5_1).toNat * 21)).off + 10, none⟩ = some (.int .i64 ((rd_T49 l0 x5_1).f2.f1.f0)) ∧ w'.cell? ⟨(ad392.add ((x5_1).toNat * 21)).block, (ad392.add ((x5_1).toNat * 21)).off + 11, none⟩ = some (.string ((rd_T49 l0 x5_1).f2.f1.f1)) ∧ w'.cell? ⟨(ad392.add ((x5_1).toNat * 21)).block, (ad392.add ((x5_1).toNat * 21)).off + 12, none⟩ = some (.int .i64 ((rd_T49 l0 x5_1).f2.f1.f2)) ∧ w'.cell? ⟨(ad392.add ((x5_1).toNat * 21)).block, (ad392.add ((x5_1).toNat * 21)).off + 13, none⟩ = some (.int .i64 ((rd_T49 l0 x5_1).f2.f1.f3.f0)) ∧ w'.cell? ⟨(ad392.add ((x5_1).toNat * 21)).block, (ad392.add ((x5_1).toNat * 21)).off + 14, none⟩ = some (.slice A392_14 ((rd_T49 l0 x5_1).f2.f1.f3.f1).length c392_14) ∧ w'.cell? ⟨(ad392.add ((x5_1).toNat * 21)).block, (ad392.add ((x5_1).toNat * 21)).off + 15, none⟩ = some (.slice A392_15 ((rd_T49 l0 x5_1).f2.f1.f3.f2).length c392_15) ∧ w'.cell? ⟨(ad392.add ((x5_1).toNat * 21)).block, (ad392.add ((x5_1).toNat * 21)).off + 16, none⟩ = some (.slice A392_16 ((rd_T49 l0 x5_1).f2.f1.f4).length c392_16) ∧ w'.cell? ⟨(ad392.add ((x5_1).toNat * 21)).block, (ad392.add ((x5_1).toNat * 21)).off + 17, none⟩ = some (.slice A392_17 ((rd_T49 l0 x5_1).f2.f1.f5).length c392_17) ∧ w'.cell? ⟨(ad392.add ((x5_1).toNat * 21)).block, (ad392.add ((x5_1).toNat * 21)).off + 18, none⟩ = some (.slice A392_18 ((rd_T49 l0 x5_1).f2.f2).length c392_18) ∧ w'.cell? ⟨(ad392.add ((x5_1).toNat * 21)).block, (ad392.add ((x5_1).toNat * 21)).off + 19, none⟩ = some (.slice A392_19 ((rd_T49 l0 x5_1).f2.f3).length c392_19) ∧ w'.cell? ⟨(ad392.add ((x5_1).toNat * 21)).block, (ad392.add ((x5_1).toNat * 21)).off + 20, none⟩ = some (.slice A392_20 ((rd_T49 l0 x5_1).f2.f4.f0).length c392_20) ∧ w'.cell? (ad393.add ((x5_1).toNat * 21)) = some (.slice A393_0 ((rd_T49 l1 x5_1).f0).length c393_0) ∧ w'.cell? ⟨(ad393.add ((x5_1).toNat * 21)).block, (ad393.add ((x5_1).toNat * 21)).off + 1, none⟩ = some (.int .i64 ((rd_T49 l1 x5_1).f1.f0)) ∧ w'.cell? ⟨(ad393.add ((x5_1).toNat * 21)).block, (ad393.add ((x5_1).toNat * 21)).off + 2, none⟩ = some (.string ((rd_T49 l1 x5_1).f1.f1)) ∧ w'.cell? ⟨(ad393.add ((x5_1).toNat * 21)).block, (ad393.add ((x5_1).toNat * 21)).off + 3, none⟩ = some (.int .i64 ((rd_T49 l1 x5_1).f1.f2)) ∧ w'.cell? ⟨(ad393.add ((x5_1).toNat * 21)).block, (ad393.add ((x5_1).toNat * 21)).off + 4, none⟩ = some (.int .i64 ((rd_T49 l1 x5_1).f1.f3.f0)) ∧ w'.cell? ⟨(ad393.add ((x5_1).toNat * 21)).block, (ad393.add ((x5_1).toNat * 21)).off + 5, none⟩ = some (.slice A393_5 ((rd_T49 l1 x5_1).f1.f3.f1).length c393_5) ∧ w'.cell? ⟨(ad393.add ((x5_1).toNat * 21)).block, (ad393.add ((x5_1).toNat * 21)).off + 6, none⟩ = some (.slice A393_6 ((rd_T49 l1 x5_1).f1.f3.f2).length c393_6) ∧ w'.cell? ⟨(ad393.add ((x5_1).toNat * 21)).block, (ad393.add ((x5_1).toNat * 21)).off + 7, none⟩ = some (.slice A393_7 ((rd_T49 l1 x5_1).f1.f4).length c393_7) ∧ w'.cell? ⟨(ad393.add ((x5_1).toNat * 21)).block, (ad393.add ((x5_1).toNat * 21)).off + 8, none⟩ = some (.slice A393_8 ((rd_T49 l1 x5_1).f1.f5).length c393_8) ∧ w'.cell? ⟨(ad393.add ((x5_1).toNat * 21)).block, (ad393.add ((x5_1).toNat * 21)).off + 9, none⟩ = some (.int .i64 ((rd_T49 l1 x5_1).f2.f0)) ∧ w'.cell? ⟨(ad393.add ((x5_1).toNat * 21)).block, (ad393.add ((x5_1).toNat * 21)).off + 10, none⟩ = some (.int .i64 ((rd_T49 l1 x5_1).f2.f1.f0)) ∧ w'.cell? ⟨(ad393.add ((x5_1).toNat * 21)).block, (ad393.add ((x5_1).toNat * 21)).off + 11, none⟩ = some (.string ((rd_T49 l1 x5_1).f2.f1.f1)) ∧ w'.cell? ⟨(ad393.add ((x5_1).toNat * 21)).block, (ad393.add ((x5_1).toNat * 21)).off + 12, none⟩ = some (.int .i64 ((rd_T49 l1 x5_1).f2.f1.f2)) ∧ w'.cell? ⟨(ad393.add ((x5_1).toNat * 21)).block, (ad393.add ((x5_1).toNat * 21)).off + 13, none⟩ = some (.int .i64 ((rd_T49 l1 x5_1).f2.f1.f3.f0)) ∧ w'.cell? ⟨(ad393.add ((x5_1).toNat * 21)).block, (ad393.add ((x5_1).toNat * 21)).off + 14, none⟩ = some (.slice A393_14 ((rd_T49 l1 x5_1).f2.f1.f3.f1).length c393_14) ∧ w'.cell? ⟨(ad393.add ((x5_1).toNat * 21)).block, (ad393.add ((x5_1).toNat * 21)).off + 15, none⟩ = some (.slice A393_15 ((rd_T49 l1 x5_1).f2.f1.f3.f2).length c393_15) ∧ w'.cell? ⟨(ad393.add ((x5_1).toNat * 21)).block, (ad393.add ((x5_1).toNat * 21)).off + 16, none⟩ = some (.slice A393_16 ((rd_T49 l1 x5_1).f2.f1.f4).length c393_16) ∧ w'.cell? ⟨(ad393.add ((x5_1).toNat * 21)).block, (ad393.add ((x5_1).toNat * 21)).off + 17, none⟩ = some (.slice A393_17 ((rd_T49 l1 x5_1).f2.f1.f5).length c393_17) ∧ w'.cell? ⟨(ad393.add ((x5_1).toNat * 21)).block, (ad393.add ((x5_1).toNat * 21)).off + 18, none⟩ = some (.slice A393_18 ((rd_T49 l1 x5_1).f2.f2).length c393_18) ∧ w'.cell? ⟨(ad393.add ((x5_1).toNat * 21)).block, (ad393.add ((x5_1).toNat * 21)).off + 19, none⟩ = some (.slice A393_19 ((rd_T49 l1 x5_1).f2.f3).length c393_19) ∧ w'.cell? ⟨(ad393.add ((x5_1).toNat * 21)).block, (ad393.add ((x5_1).toNat * 21)).off + 20, none⟩ = some (.slice A393_20 ((rd_T49 l1 x5_1).f2.f4.f0).length c393_20)) (ds := []) #[false,false,false,false,false,false,false,false,false,false] kr rfl rfl ⟨(upw HB.out hw392_0), (upw HB.out hw392_1), (upw HB.out hw392_2), (upw HB.out hw392_3), (upw HB.out hw392_4), (upw HB.out hw392_5), (upw HB.out hw392_6), (upw HB.out hw392_7), (upw HB.out hw392_8), (upw HB.out hw392_9), (upw HB.out hw392_10), (upw HB.out hw392_11), (upw HB.out hw392_12), (upw HB.out hw392_13), (upw HB.out hw392_14), (upw HB.out hw392_15), (upw HB.out hw392_16), (upw HB.out hw392_17), (upw HB.out hw392_18), (upw HB.out hw392_19), (upw HB.out hw392_20), (upw HB.out hw393_0), (upw HB.out hw393_1), (upw HB.out hw393_2), (upw HB.out hw393_3), (upw HB.out hw393_4), (upw HB.out hw393_5), (upw HB.out hw393_6), (upw HB.out hw393_7), (upw HB.out hw393_8), (upw HB.out hw393_9), (upw HB.out hw393_10), (upw HB.out hw393_11), (upw HB.out hw393_12), (upw HB.out hw393_13), (upw HB.out hw393_14), (upw HB.out hw393_15), (upw HB.out hw393_16), (upw HB.out hw393_17), (upw HB.out hw393_18), (upw HB.out hw393_19), (upw HB.out hw393_20)⟩ (fun hHeld => ?_); refine with_tabW laws_eqCompS.tab6 laws_eqCompS.bits6 (fun HT_ HW_ => ?_)
       generalize wr.drew = w9 at HB HR392_0 HR392_14 HR392_15 HR392_16 HR392_17 HR392_18 HR392_19 HR392_20 HR392_5 HR392_6 HR392_7 HR392_8 HR393_0 HR393_14 HR393_15 HR393_16 HR393_17 HR393_18 HR393_19 HR393_20 HR393_5 HR393_6 HR393_7 HR393_8 hx392_0 hx392_1 hx392_10 hx392_11 hx392_12 hx392_13 hx392_14 hx392_15 hx392_16 hx392_17 hx392_18 hx392_19 hx392_2 hx392_20 hx392_3 hx392_4 hx392_5 hx392_6 hx392_7 hx392_8 hx392_9 hx393_0 hx393_1 hx393_10 hx393_11 hx393_12 hx393_13 hx393_14 hx393_15 hx393_16 hx393_17 hx393_18 hx393_19 hx393_2 hx393_20 hx393_3 hx393_4 hx393_5 hx393_6 hx393_7 hx393_8 hx393_9 hHeld ⊢
       refine pure_ (i := 0) (N := some 17) (v := ?_) (a' := ?_) (bm 10 1) rfl rfl (any_of HT_.out kr) qi (Or.inl ⟨by rfl, ?_⟩) ?_ ?_
       rotate_left
       ·intro w'
        go_simp
        with_reducible rfl
       rotate_left
       ·simp only [sx]
        rfl
       refine pure_ (i := 1) (N := some 18) (v := ?_) (a' := ?_) (bm 10 3) rfl rfl (any_of HT_.out kr) qi (Or.inl ⟨by rfl, ?_⟩) ?_ ?_
       rotate_left
       ·intro w'
        go_simp
        with_reducible rfl
       rotate_left
       ·simp only [sx]
        rfl
       refine pure_ (i := 2) (N := some 19) (v := ?_) (a' := ?_) (bm 10 7) rfl rfl (any_of HT_.out kr) qi (Or.inl ⟨by rfl, ?_⟩) ?_ ?_
       rotate_left
       ·intro w'
        go_simp
        with_reducible rfl
       rotate_left
       ·simp only [sx]
        rfl
       refine pure_ (i := 4) (N := some 21) (v := ?_) (a' := ?_) (bm 10 23) rfl rfl (any_of HT_.out kr) qi (Or.inl ⟨by rfl, ?_⟩) ?_ ?_
       rotate_left
       ·intro w'
        go_simp
        with_reducible rfl
       rotate_left
       ·simp only [sx]
        rfl
       refine pure_ (i := 5) (N := some 22) (v := ?_) (a' := ?_) (bm 10 55) rfl rfl (any_of HT_.out kr) qi (Or.inl ⟨by rfl, ?_⟩) ?_ ?_
       rotate_left
       ·intro w'
        go_simp
        with_reducible rfl
       rotate_left
       ·simp only [sx]
        rfl
       refine pure_ (i := 6) (N := some 23) (v := ?_) (a' := ?_) (bm 10 119) rfl rfl (any_of HT_.out kr) qi (Or.inl ⟨by rfl, ?_⟩) ?_ ?_
       rotate_left
       ·intro w'
        go_simp
        with_reducible rfl
       rotate_left
       ·simp only [sx]
        rfl
       refine take_ (i := 3) (N := some 20) (v := ?_) (a' := ?_) (bm 10 127) rfl rfl (take_ofW HT_.out HW_.out kr) qi (Or.inl ⟨by rfl, ?_⟩) hHeld ?_ ?_
       rotate_left
       ·rintro w' ⟨s0, s1, s2, s3, s4, s5, s6, s7, s8, s9, s10, s11, s12, s13, s14, s15, s16, s17, s18, s19, s20, s21, s22, s23, s24, s25, s26, s27, s28, s29, s30, s31, s32, s33, s34, s35, s36, s37, s38, s39, s40, s41⟩
        refine wide_take (ty := 49) (x := .tmp 19) ?ho_ (Cells_c s0 (Cells'_c s1 (Cells'_c s2 (Cells'_c s3 (Cells'_c s4 (Cells'_c s5 (Cells'_c s6 (Cells'_c s7 (Cells'_c s8 (Cells'_c s9 (Cells'_c s10 (Cells'_c s11 (Cells'_c s12 (Cells'_c s13 (Cells'_c s14 (Cells'_c s15 (Cells'_c s16 (Cells'_c s17 (Cells'_c s18 (Cells'_c s19 (Cells'_c s20 Cells'_n))))))))))))))))))))) ?hx_ Try.underlying49 rfl kr; (case ho_ => rfl); (case hx_ => rfl)

       rotate_left
       ·simp only [sx]
        rfl
       refine take_ (i := 7) (N := some 24) (v := ?_) (a' := ?_) (bm 10 255) rfl rfl (take_ofW HT_.out HW_.out kr) qi (Or.inl ⟨by rfl, ?_⟩) hHeld ?_ ?_
       rotate_left
       ·rintro w' ⟨s0, s1, s2, s3, s4, s5, s6, s7, s8, s9, s10, s11, s12, s13, s14, s15, s16, s17, s18, s19, s20, s21, s22, s23, s24, s25, s26, s27, s28, s29, s30, s31, s32, s33, s34, s35, s36, s37, s38, s39, s40, s41⟩
        refine wide_take (ty := 49) (x := .tmp 23) ?ho_ (Cells_c s21 (Cells'_c s22 (Cells'_c s23 (Cells'_c s24 (Cells'_c s25 (Cells'_c s26 (Cells'_c s27 (Cells'_c s28 (Cells'_c s29 (Cells'_c s30 (Cells'_c s31 (Cells'_c s32 (Cells'_c s33 (Cells'_c s34 (Cells'_c s35 (Cells'_c s36 (Cells'_c s37 (Cells'_c s38 (Cells'_c s39 (Cells'_c s40 (Cells'_c s41 Cells'_n))))))))))))))))))))) ?hx_ Try.underlying49 rfl kr; (case ho_ => rfl); (case hx_ => rfl)

       rotate_left
       ·simp only [sx]
        rfl
       refine one_ (i := 8) (N := some 25) (bm 10 511) rfl rfl (one_of HT_.out kr) (by decide) (fun K hK => ?_)
       refine goes_ Try.func30 kr rfl #[.agg #[.slice A392_0 ((rd_T49 l0 x5_1).f0).length c392_0, .int .i64 ((rd_T49 l0 x5_1).f1.f0), .string ((rd_T49 l0 x5_1).f1.f1), .int .i64 ((rd_T49 l0 x5_1).f1.f2), .int .i64 ((rd_T49 l0 x5_1).f1.f3.f0), .slice A392_5 ((rd_T49 l0 x5_1).f1.f3.f1).length c392_5, .slice A392_6 ((rd_T49 l0 x5_1).f1.f3.f2).length c392_6, .slice A392_7 ((rd_T49 l0 x5_1).f1.f4).length c392_7, .slice A392_8 ((rd_T49 l0 x5_1).f1.f5).length c392_8, .int .i64 ((rd_T49 l0 x5_1).f2.f0), .int .i64 ((rd_T49 l0 x5_1).f2.f1.f0), .string ((rd_T49 l0 x5_1).f2.f1.f1), .int .i64 ((rd_T49 l0 x5_1).f2.f1.f2), .int .i64 ((rd_T49 l0 x5_1).f2.f1.f3.f0), .slice A392_14 ((rd_T49 l0 x5_1).f2.f1.f3.f1).length c392_14, .slice A392_15 ((rd_T49 l0 x5_1).f2.f1.f3.f2).length c392_15, .slice A392_16 ((rd_T49 l0 x5_1).f2.f1.f4).length c392_16, .slice A392_17 ((rd_T49 l0 x5_1).f2.f1.f5).length c392_17, .slice A392_18 ((rd_T49 l0 x5_1).f2.f2).length c392_18, .slice A392_19 ((rd_T49 l0 x5_1).f2.f3).length c392_19, .slice A392_20 ((rd_T49 l0 x5_1).f2.f4.f0).length c392_20], .agg #[.slice A393_0 ((rd_T49 l1 x5_1).f0).length c393_0, .int .i64 ((rd_T49 l1 x5_1).f1.f0), .string ((rd_T49 l1 x5_1).f1.f1), .int .i64 ((rd_T49 l1 x5_1).f1.f2), .int .i64 ((rd_T49 l1 x5_1).f1.f3.f0), .slice A393_5 ((rd_T49 l1 x5_1).f1.f3.f1).length c393_5, .slice A393_6 ((rd_T49 l1 x5_1).f1.f3.f2).length c393_6, .slice A393_7 ((rd_T49 l1 x5_1).f1.f4).length c393_7, .slice A393_8 ((rd_T49 l1 x5_1).f1.f5).length c393_8, .int .i64 ((rd_T49 l1 x5_1).f2.f0), .int .i64 ((rd_T49 l1 x5_1).f2.f1.f0), .string ((rd_T49 l1 x5_1).f2.f1.f1), .int .i64 ((rd_T49 l1 x5_1).f2.f1.f2), .int .i64 ((rd_T49 l1 x5_1).f2.f1.f3.f0), .slice A393_14 ((rd_T49 l1 x5_1).f2.f1.f3.f1).length c393_14, .slice A393_15 ((rd_T49 l1 x5_1).f2.f1.f3.f2).length c393_15, .slice A393_16 ((rd_T49 l1 x5_1).f2.f1.f4).length c393_16, .slice A393_17 ((rd_T49 l1 x5_1).f2.f1.f5).length c393_17, .slice A393_18 ((rd_T49 l1 x5_1).f2.f2).length c393_18, .slice A393_19 ((rd_T49 l1 x5_1).f2.f3).length c393_19, .slice A393_20 ((rd_T49 l1 x5_1).f2.f4.f0).length c393_20]] (by rfl) rfl rfl mpw ?_
       with_reducible refine (ih_30 k1 (by have := HK1.out; omega) _ _ ((rd_T49 l0 x5_1).f0) ((rd_T49 l0 x5_1).f1.f0) ((rd_T49 l0 x5_1).f1.f1) ((rd_T49 l0 x5_1).f1.f2) ((rd_T49 l0 x5_1).f1.f3.f0) _ _ ((rd_T49 l0 x5_1).f1.f3.f1) _ _ ((rd_T49 l0 x5_1).f1.f3.f2) _ _ ((rd_T49 l0 x5_1).f1.f4) _ _ ((rd_T49 l0 x5_1).f1.f5) ((rd_T49 l0 x5_1).f2.f0) ((rd_T49 l0 x5_1).f2.f1.f0) ((rd_T49 l0 x5_1).f2.f1.f1) ((rd_T49 l0 x5_1).f2.f1.f2) ((rd_T49 l0 x5_1).f2.f1.f3.f0) _ _ ((rd_T49 l0 x5_1).f2.f1.f3.f1) _ _ ((rd_T49 l0 x5_1).f2.f1.f3.f2) _ _ ((rd_T49 l0 x5_1).f2.f1.f4) _ _ ((rd_T49 l0 x5_1).f2.f1.f5) _ _ ((rd_T49 l0 x5_1).f2.f2) _ _ ((rd_T49 l0 x5_1).f2.f3) _ _ ((rd_T49 l0 x5_1).f2.f4.f0) _ _ ((rd_T49 l1 x5_1).f0) ((rd_T49 l1 x5_1).f1.f0) ((rd_T49 l1 x5_1).f1.f1) ((rd_T49 l1 x5_1).f1.f2) ((rd_T49 l1 x5_1).f1.f3.f0) _ _ ((rd_T49 l1 x5_1).f1.f3.f1) _ _ ((rd_T49 l1 x5_1).f1.f3.f2) _ _ ((rd_T49 l1 x5_1).f1.f4) _ _ ((rd_T49 l1 x5_1).f1.f5) ((rd_T49 l1 x5_1).f2.f0) ((rd_T49 l1 x5_1).f2.f1.f0) ((rd_T49 l1 x5_1).f2.f1.f1) ((rd_T49 l1 x5_1).f2.f1.f2) ((rd_T49 l1 x5_1).f2.f1.f3.f0) _ _ ((rd_T49 l1 x5_1).f2.f1.f3.f1) _ _ ((rd_T49 l1 x5_1).f2.f1.f3.f2) _ _ ((rd_T49 l1 x5_1).f2.f1.f4) _ _ ((rd_T49 l1 x5_1).f2.f1.f5) _ _ ((rd_T49 l1 x5_1).f2.f2) _ _ ((rd_T49 l1 x5_1).f2.f3) _ _ ((rd_T49 l1 x5_1).f2.f4.f0) t394 _ ?side1 ?side2 ?side3 ?side4 ?side5 ?side6 ?side7 ?side8 ?side9 ?side10 ?side11 ?side12 ?side13 ?side14 ?side15 ?side16 ?side17 ?side18 ?side19 ?side20 ?side21 ?side22 ?side23 ?side24 ?side25 ?side26 ?side27 ?side28 ?side29 ?side30 ?side31 ?side32 ?side33 ?side34 ?side35 ?side36 ?side37 ?side38 ?side39 ?side40 ?side41 ?side42 ?side43 ?side44 ?side45 ?side46 ?side47 ?side48 A7.out).mono ?_
       (case side1 => have X_ := HR392_0; exact cbl)
       (case side2 => exact HC392_0.out)
       (case side3 => have X_ := HR392_5; exact cbl)
       (case side4 => exact HC392_5.out)
       (case side5 => have X_ := HR392_6; exact cbl)
       (case side6 => exact HC392_6.out)
       (case side7 => have X_ := HR392_7; exact cbl)
       (case side8 => exact HC392_7.out)
       (case side9 => have X_ := HR392_8; exact cbl)
       (case side10 => exact HC392_8.out)
       (case side11 => have X_ := HR392_14; exact cbl)
       (case side12 => exact HC392_14.out)
       (case side13 => have X_ := HR392_15; exact cbl)
       (case side14 => exact HC392_15.out)
       (case side15 => have X_ := HR392_16; exact cbl)
       (case side16 => exact HC392_16.out)
       (case side17 => have X_ := HR392_17; exact cbl)
       (case side18 => exact HC392_17.out)
       (case side19 => have X_ := HR392_18; exact cbl)
       (case side20 => exact HC392_18.out)
       (case side21 => have X_ := HR392_19; exact cbl)
       (case side22 => exact HC392_19.out)
       (case side23 => have X_ := HR392_20; exact cbl)
       (case side24 => exact HC392_20.out)
       (case side25 => have X_ := HR393_0; exact cbl)
       (case side26 => exact HC393_0.out)
       (case side27 => have X_ := HR393_5; exact cbl)
       (case side28 => exact HC393_5.out)
       (case side29 => have X_ := HR393_6; exact cbl)
       (case side30 => exact HC393_6.out)
       (case side31 => have X_ := HR393_7; exact cbl)
       (case side32 => exact HC393_7.out)
       (case side33 => have X_ := HR393_8; exact cbl)
       (case side34 => exact HC393_8.out)
       (case side35 => have X_ := HR393_14; exact cbl)
       (case side36 => exact HC393_14.out)
       (case side37 => have X_ := HR393_15; exact cbl)
       (case side38 => exact HC393_15.out)
       (case side39 => have X_ := HR393_16; exact cbl)
       (case side40 => exact HC393_16.out)
       (case side41 => have X_ := HR393_17; exact cbl)
       (case side42 => exact HC393_17.out)
       (case side43 => have X_ := HR393_18; exact cbl)
       (case side44 => exact HC393_18.out)
       (case side45 => have X_ := HR393_19; exact cbl)
       (case side46 => exact HC393_19.out)
       (case side47 => have X_ := HR393_20; exact cbl)
       (case side48 => exact HC393_20.out)
       rintro e w10 ⟨rfl, hb⟩
       refine ⟨_, rfl, ?_⟩
       have n0_ := am (below_step blw hb)
       clear HB
       revert n0_
       intro HB
       (try clear hb)
       (try clear hb2)
       (try clear hk)
       (try clear hi)
       refine hK.out _ _ ⟨(upw HB.out hw392_0), (upw HB.out hw392_1), (upw HB.out hw392_2), (upw HB.out hw392_3), (upw HB.out hw392_4), (upw HB.out hw392_5), (upw HB.out hw392_6), (upw HB.out hw392_7), (upw HB.out hw392_8), (upw HB.out hw392_9), (upw HB.out hw392_10), (upw HB.out hw392_11), (upw HB.out hw392_12), (upw HB.out hw392_13), (upw HB.out hw392_14), (upw HB.out hw392_15), (upw HB.out hw392_16), (upw HB.out hw392_17), (upw HB.out hw392_18), (upw HB.out hw392_19), (upw HB.out hw392_20), (upw HB.out hw393_0), (upw HB.out hw393_1), (upw HB.out hw393_2), (upw HB.out hw393_3), (upw HB.out hw393_4), (upw HB.out hw393_5), (upw HB.out hw393_6), (upw HB.out hw393_7), (upw HB.out hw393_8), (upw HB.out hw393_9), (upw HB.out hw393_10), (upw HB.out hw393_11), (upw HB.out hw393_12), (upw HB.out hw393_13), (upw HB.out hw393_14), (upw HB.out hw393_15), (upw HB.out hw393_16), (upw HB.out hw393_17), (upw HB.out hw393_18), (upw HB.out hw393_19), (upw HB.out hw393_20)⟩ (fun hHeld => ?_)
       clear hK K
       refine norm_ (a' := ?_) ?_ ?_
       rotate_left
       ·show Act.put _ (some 25) _ = _
        simp only [sx]
        rfl
       refine pure_ (i := 9) (N := some 26) (v := ?_) (a' := ?_) (bm 10 1023) rfl rfl (any_of HT_.out kr) qi (Or.inl ⟨by rfl, ?_⟩) ?_ ?_
       rotate_left
       ·intro w'
        go_simp
        with_reducible rfl
       rotate_left
       ·simp only [sx]
        rfl
       refine done_ (done_of HT_.out kr) ?_
       go_upto_if 26 with (first | ((with_reducible refine gate_dst (N := 20) rfl ?_); refine wide_load (N := 20) rfl rfl (ty := 49) rfl (Cells_c hx392_0 (Cells'_c hx392_1 (Cells'_c hx392_2 (Cells'_c hx392_3 (Cells'_c hx392_4 (Cells'_c hx392_5 (Cells'_c hx392_6 (Cells'_c hx392_7 (Cells'_c hx392_8 (Cells'_c hx392_9 (Cells'_c hx392_10 (Cells'_c hx392_11 (Cells'_c hx392_12 (Cells'_c hx392_13 (Cells'_c hx392_14 (Cells'_c hx392_15 (Cells'_c hx392_16 (Cells'_c hx392_17 (Cells'_c hx392_18 (Cells'_c hx392_19 (Cells'_c hx392_20 Cells'_n))))))))))))))))))))) ?hx Try.underlying49 rfl kr ?_; (case hx => rfl)) | ((with_reducible refine gate_dst (N := 24) rfl ?_); refine wide_load (N := 24) rfl rfl (ty := 49) rfl (Cells_c hx393_0 (Cells'_c hx393_1 (Cells'_c hx393_2 (Cells'_c hx393_3 (Cells'_c hx393_4 (Cells'_c hx393_5 (Cells'_c hx393_6 (Cells'_c hx393_7 (Cells'_c hx393_8 (Cells'_c hx393_9 (Cells'_c hx393_10 (Cells'_c hx393_11 (Cells'_c hx393_12 (Cells'_c hx393_13 (Cells'_c hx393_14 (Cells'_c hx393_15 (Cells'_c hx393_16 (Cells'_c hx393_17 (Cells'_c hx393_18 (Cells'_c hx393_19 (Cells'_c hx393_20 Cells'_n))))))))))))))))))))) ?hx Try.underlying49 rfl kr ?_; (case hx => rfl)) | fail)
       have H := HC8.out
       clear HC8
       by_cases c11 : t394 = true
       case neg =>
        replace c11 := Bool.eq_false_iff.mpr c11
        subst c11
        have H1 : (some false) = some r := by rw [if_neg (show ¬ (false = true) by decide)] at H; exact H
        clear H
        have H := H1
        clear H1
        obtain rfl := Option.some.inj H
        go_wp2
        go_ret
        exact ⟨rfw, blw⟩
       subst c11
       have H1 : (laws_eqCompS.l0 k1 l0 l1 (wrap64 (x5_1 + 1))) = some r := by rw [if_pos rfl] at H; exact H
       clear H
       have H := H1
       clear H1
       have H' := am H
       clear H
       go_wp2
       go_roundg k1
       case measure => have := HK1.out; omega
       case rel => exact ⟨(wrap64 (x5_1 + 1)), rfs, H', ⟨by have := HK1.out; omega⟩, ⟨blw⟩⟩
      ·rw [if_neg c6] at H
       exact absurd H (by simp)
     ·rw [if_neg c5] at H
      exact absurd H (by simp)
    ·rw [if_neg c4] at H
     have c4b0 : decide (x5_1 < (l0.length : Int)) = false := decide_eq_false c4
     clear c4
     obtain rfl := Option.some.inj H
     go_wp2
     go_ret
     exact ⟨rfw, blw⟩
 ·rw [if_neg c3] at H
  have c3b0 : ((l0.length : Int) == (l1.length : Int)) = false := beq_eq_false_iff_ne.mpr c3
  have c3b1 : ((l0.length : Int) != (l1.length : Int)) = true := bne_iff_ne.mpr c3
  have c3b2 : (l0.length == l1.length) = false := by first | simpa using c3 | (simp at c3 ⊢; omega)
  obtain rfl := Option.some.inj H
  go_enter Try.func20, Try.ntmps20
  go_wp2
  go_ret
  exact ⟨rfw, blw⟩

/-! ### laws_eqComp: function 30 -/
theorem laws_eqComp.step (k : Nat) (ih : ∀ m, m < k → laws_eqComp.T m) (ih_10 : ∀ m, m < k → laws_eqQuery.T m) (ih_20 : ∀ m, m < k → laws_eqCompS.T m) (ih_44 : ∀ m, m < k → laws_eqHead.T m) (ih_63 : ∀ m, m < k → laws_eqHeadS.T m) : laws_eqComp.T k := by
 intro A0_0 c0_0 l0_0 a0_1 a0_2 a0_3 a0_4 A0_5 c0_5 l0_5 A0_6 c0_6 l0_6 A0_7 c0_7 l0_7 A0_8 c0_8 l0_8 a0_9 a0_10 a0_11 a0_12 a0_13 A0_14 c0_14 l0_14 A0_15 c0_15 l0_15 A0_16 c0_16 l0_16 A0_17 c0_17 l0_17 A0_18 c0_18 l0_18 A0_19 c0_19 l0_19 A0_20 c0_20 l0_20 A1_0 c1_0 l1_0 a1_1 a1_2 a1_3 a1_4 A1_5 c1_5 l1_5 A1_6 c1_6 l1_6 A1_7 c1_7 l1_7 A1_8 c1_8 l1_8 a1_9 a1_10 a1_11 a1_12 a1_13 A1_14 c1_14 l1_14 A1_15 c1_15 l1_15 A1_16 c1_16 l1_16 A1_17 c1_17 l1_17 A1_18 c1_18 l1_18 A1_19 c1_19 l1_19 A1_20 c1_20 l1_20 r w hr0_0 hc0_0 hr0_5 hc0_5 hr0_6 hc0_6 hr0_7 hc0_7 hr0_8 hc0_8 hr0_14 hc0_14 hr0_15 hc0_15 hr0_16 hc0_16 hr0_17 hc0_17 hr0_18 hc0_18 hr0_19 hc0_19 hr0_20 hc0_20 hr1_0 hc1_0 hr1_5 hc1_5 hr1_6 hc1_6 hr1_7 hc1_7 hr1_8 hc1_8 hr1_14 hc1_14 hr1_15 hc1_15 hr1_16 hc1_16 hr1_17 hc1_17 hr1_18 hc1_18 hr1_19 hc1_19 hr1_20 hc1_20 h
 cases k with
 | zero => exact absurd h (by simp [laws_eqComp.f])
 | succ k =>
 simp only [laws_eqComp.f] at h
 have hu49 := Try.underlying49
 have hu44 := Try.underlying44
 have hu47 := Try.underlying47
 have HR0_0 := am hr0_0
 have HC0_0 := am hc0_0
 clear hr0_0 hc0_0
 have HR0_5 := am hr0_5
 have HC0_5 := am hc0_5
 clear hr0_5 hc0_5
 have HR0_6 := am hr0_6
 have HC0_6 := am hc0_6
 clear hr0_6 hc0_6
 have HR0_7 := am hr0_7
 have HC0_7 := am hc0_7
 clear hr0_7 hc0_7
 have HR0_8 := am hr0_8
 have HC0_8 := am hc0_8
 clear hr0_8 hc0_8
 have HR0_14 := am hr0_14
 have HC0_14 := am hc0_14
 clear hr0_14 hc0_14
 have HR0_15 := am hr0_15
 have HC0_15 := am hc0_15
 clear hr0_15 hc0_15
 have HR0_16 := am hr0_16
 have HC0_16 := am hc0_16
 clear hr0_16 hc0_16
 have HR0_17 := am hr0_17
 have HC0_17 := am hc0_17
 clear hr0_17 hc0_17
 have HR0_18 := am hr0_18
 have HC0_18 := am hc0_18
 clear hr0_18 hc0_18
 have HR0_19 := am hr0_19
 have HC0_19 := am hc0_19
 clear hr0_19 hc0_19
 have HR0_20 := am hr0_20
 have HC0_20 := am hc0_20
 clear hr0_20 hc0_20
 have HR1_0 := am hr1_0
 have HC1_0 := am hc1_0
 clear hr1_0 hc1_0
 have HR1_5 := am hr1_5
 have HC1_5 := am hc1_5
 clear hr1_5 hc1_5
 have HR1_6 := am hr1_6
 have HC1_6 := am hc1_6
 clear hr1_6 hc1_6
 have HR1_7 := am hr1_7
 have HC1_7 := am hc1_7
 clear hr1_7 hc1_7
 have HR1_8 := am hr1_8
 have HC1_8 := am hc1_8
 clear hr1_8 hc1_8
 have HR1_14 := am hr1_14
 have HC1_14 := am hc1_14
 clear hr1_14 hc1_14
 have HR1_15 := am hr1_15
 have HC1_15 := am hc1_15
 clear hr1_15 hc1_15
 have HR1_16 := am hr1_16
 have HC1_16 := am hc1_16
 clear hr1_16 hc1_16
 have HR1_17 := am hr1_17
 have HC1_17 := am hc1_17
 clear hr1_17 hc1_17
 have HR1_18 := am hr1_18
 have HC1_18 := am hc1_18
 clear hr1_18 hc1_18
 have HR1_19 := am hr1_19
 have HC1_19 := am hc1_19
 clear hr1_19 hc1_19
 have HR1_20 := am hr1_20
 have HC1_20 := am hc1_20
 clear hr1_20 hc1_20
 have HB := am (Below.refl w.heap.size w)
 have H : ((laws_eqGenS.f k l0_0 l1_0).bind fun t397 => (if t397 = true then ((laws_eqTerm.f k a0_1 a0_2 a0_3 a0_4 l0_5 l0_6 l0_7 l0_8 a1_1 a1_2 a1_3 a1_4 l1_5 l1_6 l1_7 l1_8).bind fun t398 => (if t398 = true then ((laws_eqHead.f k a0_9 a0_10 a0_11 a0_12 a0_13 l0_14 l0_15 l0_16 l0_17 l0_18 l0_19 l0_20 a1_9 a1_10 a1_11 a1_12 a1_13 l1_14 l1_15 l1_16 l1_17 l1_18 l1_19 l1_20).bind fun t399 => (if t399 = true then (some true) else (some false))) else (some false))) else (some false))) = some r := h
 clear h
 replace H := Option.bind_eq_some_iff.mp H
 obtain ⟨t397, A30, H⟩ := H
 replace H : (if t397 = true then ((laws_eqTerm.f k a0_1 a0_2 a0_3 a0_4 l0_5 l0_6 l0_7 l0_8 a1_1 a1_2 a1_3 a1_4 l1_5 l1_6 l1_7 l1_8).bind fun t398 => (if t398 = true then ((laws_eqHead.f k a0_9 a0_10 a0_11 a0_12 a0_13 l0_14 l0_15 l0_16 l0_17 l0_18 l0_19 l0_20 a1_9 a1_10 a1_11 a1_12 a1_13 l1_14 l1_15 l1_16 l1_17 l1_18 l1_19 l1_20).bind fun t399 => (if t399 = true then (some true) else (some false))) else (some false))) else (some false)) = some r := H
 have A3 := am A30
 clear A30
 have HC4 := am H
 clear H
 go_enter Try.func30, Try.ntmps30
 go_upto_if 10 with (first | ((with_reducible refine gate_dst (N := 2) rfl ?_); refine box_event ?hg (N := 2) ?hd (cs := #[.slice A0_0 l0_0.length c0_0, .int .i64 a0_1, .string a0_2, .int .i64 a0_3, .int .i64 a0_4, .slice A0_5 l0_5.length c0_5, .slice A0_6 l0_6.length c0_6, .slice A0_7 l0_7.length c0_7, .slice A0_8 l0_8.length c0_8, .int .i64 a0_9, .int .i64 a0_10, .string a0_11, .int .i64 a0_12, .int .i64 a0_13, .slice A0_14 l0_14.length c0_14, .slice A0_15 l0_15.length c0_15, .slice A0_16 l0_16.length c0_16, .slice A0_17 l0_17.length c0_17, .slice A0_18 l0_18.length c0_18, .slice A0_19 l0_19.length c0_19, .slice A0_20 l0_20.length c0_20]) (t := 49) ?hr ?_; (case hd => rfl); (case hg => rfl); (case hr => exact hrw); intro gb395 hg w5 hbox hb; have n0_ := am (below_step blw hb); have n1_ := am (hbox); have n2_ := am ((by rw [hg]; exact (below_size blw) : w.heap.size ≤ gb395)); have n3_ := n2_; clear HB; revert n0_ n1_ n2_ n3_; intro HB BK395 GW395 GE395; clear hb hbox hg) | ((with_reducible refine gate_dst (N := 3) rfl ?_); refine box_event ?hg (N := 3) ?hd (cs := #[.slice A1_0 l1_0.length c1_0, .int .i64 a1_1, .string a1_2, .int .i64 a1_3, .int .i64 a1_4, .slice A1_5 l1_5.length c1_5, .slice A1_6 l1_6.length c1_6, .slice A1_7 l1_7.length c1_7, .slice A1_8 l1_8.length c1_8, .int .i64 a1_9, .int .i64 a1_10, .string a1_11, .int .i64 a1_12, .int .i64 a1_13, .slice A1_14 l1_14.length c1_14, .slice A1_15 l1_15.length c1_15, .slice A1_16 l1_16.length c1_16, .slice A1_17 l1_17.length c1_17, .slice A1_18 l1_18.length c1_18, .slice A1_19 l1_19.length c1_19, .slice A1_20 l1_20.length c1_20]) (t := 49) ?hr ?_; (case hd => rfl); (case hg => rfl); (case hr => exact hrw); intro gb396 hg w6 hbox hb; have n0_ := am (blk_below (g := gb395) bkw hb); have n1_ := am (below_step blw hb); have n2_ := am (hbox); have n3_ := am ((by rw [hg]; exact (below_size blw) : w.heap.size ≤ gb396)); have n4_ := n3_; have n5_ := am ((by rw [hg]; exact Nat.ne_of_lt (blk_lt (g := gb395) bkw) : gb395 ≠ gb396)); have n6_ := am ((by rw [hg]; exact Nat.ne_of_gt (blk_lt (g := gb395) bkw) : gb396 ≠ gb395)); clear BK395; clear HB; revert n0_ n1_ n2_ n3_ n4_ n5_ n6_; intro BK395 HB BK396 GW396 GE396 NB395_396 NB396_395; clear hb hbox hg; have hnb7 := NB395_396.out; have hnc7 := NB396_395.out; obtain ⟨hcz8_0, hcz8_1, hcz8_2, hcz8_3, hcz8_4, hcz8_5, hcz8_6, hcz8_7, hcz8_8, hcz8_9, hcz8_10, hcz8_11, hcz8_12, hcz8_13, hcz8_14, hcz8_15, hcz8_16, hcz8_17, hcz8_18, hcz8_19, hcz8_20⟩ := cls21 BK395.out; obtain ⟨hfz8_0, hfz8_1, hfz8_2, hfz8_3, hfz8_4, hfz8_5, hfz8_6, hfz8_7, hfz8_8, hfz8_9, hfz8_10, hfz8_11, hfz8_12, hfz8_13, hfz8_14, hfz8_15, hfz8_16, hfz8_17, hfz8_18, hfz8_19, hfz8_20⟩ := frz21 BK395.out; obtain ⟨hcz9_0, hcz9_1, hcz9_2, hcz9_3, hcz9_4, hcz9_5, hcz9_6, hcz9_7, hcz9_8, hcz9_9, hcz9_10, hcz9_11, hcz9_12, hcz9_13, hcz9_14, hcz9_15, hcz9_16, hcz9_17, hcz9_18, hcz9_19, hcz9_20⟩ := cls21 BK396.out; obtain ⟨hfz9_0, hfz9_1, hfz9_2, hfz9_3, hfz9_4, hfz9_5, hfz9_6, hfz9_7, hfz9_8, hfz9_9, hfz9_10, hfz9_11, hfz9_12, hfz9_13, hfz9_14, hfz9_15, hfz9_16, hfz9_17, hfz9_18, hfz9_19, hfz9_20⟩ := frz21 BK396.out) | ((with_reducible refine gate_callee (f := 42) rfl ?_); refine goesL_ (some 9) rfl rfl Try.func42 kr rfl #[.slice A0_0 l0_0.length c0_0, .slice A1_0 l1_0.length c1_0] rfl mpw ?_; (with_reducible refine (laws_eqGenS.calls k _ _ l0_0 _ _ l1_0 t397 _ ?side1 ?side2 ?side3 ?side4 A3.out).mono ?_); (case side1 => have X_ := HR0_0; exact cbl); (case side2 => exact HC0_0.out); (case side3 => have X_ := HR1_0; exact cbl); (case side4 => exact HC1_0.out); rintro e w10 ⟨rfl, hb⟩; refine ⟨_, rfl, ?_⟩; have n0_ := am (blk_below (g := gb395) bkw hb); have n1_ := am (blk_below (g := gb396) bkw hb); have n2_ := am (below_step blw hb); clear BK395; clear BK396; clear HB; revert n0_ n1_ n2_; intro BK395 BK396 HB; (try clear hb); (try clear hb2); (try clear hk); (try clear hi)))
 (try clear hcz8_0 hcz8_1 hcz8_10 hcz8_11 hcz8_12 hcz8_13 hcz8_14 hcz8_15 hcz8_16 hcz8_17 hcz8_18 hcz8_19 hcz8_2 hcz8_20 hcz8_3 hcz8_4 hcz8_5 hcz8_6 hcz8_7 hcz8_8 hcz8_9); (try clear hcz9_0 hcz9_1 hcz9_10 hcz9_11 hcz9_12 hcz9_13 hcz9_14 hcz9_15 hcz9_16 hcz9_17 hcz9_18 hcz9_19 hcz9_2 hcz9_20 hcz9_3 hcz9_4 hcz9_5 hcz9_6 hcz9_7 hcz9_8 hcz9_9); (try clear hfz8_0 hfz8_1 hfz8_10 hfz8_11 hfz8_12 hfz8_13 hfz8_14 hfz8_15 hfz8_16 hfz8_17 hfz8_18 hfz8_19 hfz8_2 hfz8_20 hfz8_3 hfz8_4 hfz8_5 hfz8_6 hfz8_7 hfz8_8 hfz8_9); (try clear hfz9_0 hfz9_1 hfz9_10 hfz9_11 hfz9_12 hfz9_13 hfz9_14 hfz9_15 hfz9_16 hfz9_17 hfz9_18 hfz9_19 hfz9_2 hfz9_20 hfz9_3 hfz9_4 hfz9_5 hfz9_6 hfz9_7 hfz9_8 hfz9_9)
 have H := HC4.out
 clear HC4
 by_cases c11 : t397 = true
 case neg =>
  replace c11 := Bool.eq_false_iff.mpr c11
  subst c11
  have H1 : (some false) = some r := by rw [if_neg (show ¬ (false = true) by decide)] at H; exact H
  clear H
  have H := H1
  clear H1
  obtain rfl := Option.some.inj H
  go_wp2
  go_ret
  exact ⟨rfw, blw⟩
 subst c11
 have H1 : ((laws_eqTerm.f k a0_1 a0_2 a0_3 a0_4 l0_5 l0_6 l0_7 l0_8 a1_1 a1_2 a1_3 a1_4 l1_5 l1_6 l1_7 l1_8).bind fun t398 => (if t398 = true then ((laws_eqHead.f k a0_9 a0_10 a0_11 a0_12 a0_13 l0_14 l0_15 l0_16 l0_17 l0_18 l0_19 l0_20 a1_9 a1_10 a1_11 a1_12 a1_13 l1_14 l1_15 l1_16 l1_17 l1_18 l1_19 l1_20).bind fun t399 => (if t399 = true then (some true) else (some false))) else (some false))) = some r := by rw [if_pos rfl] at H; exact H
 clear H
 have H := H1
 clear H1
 replace H := Option.bind_eq_some_iff.mp H
 obtain ⟨t398, A120, H⟩ := H
 replace H : (if t398 = true then ((laws_eqHead.f k a0_9 a0_10 a0_11 a0_12 a0_13 l0_14 l0_15 l0_16 l0_17 l0_18 l0_19 l0_20 a1_9 a1_10 a1_11 a1_12 a1_13 l1_14 l1_15 l1_16 l1_17 l1_18 l1_19 l1_20).bind fun t399 => (if t399 = true then (some true) else (some false))) else (some false)) = some r := H
 have A12 := am A120
 clear A120
 have HC13 := am H
 clear H
 have hnb14 := NB395_396.out
 have hnc14 := NB396_395.out
 obtain ⟨hcz15_0, hcz15_1, hcz15_2, hcz15_3, hcz15_4, hcz15_5, hcz15_6, hcz15_7, hcz15_8, hcz15_9, hcz15_10, hcz15_11, hcz15_12, hcz15_13, hcz15_14, hcz15_15, hcz15_16, hcz15_17, hcz15_18, hcz15_19, hcz15_20⟩ := cls21 BK395.out
 obtain ⟨hfz15_0, hfz15_1, hfz15_2, hfz15_3, hfz15_4, hfz15_5, hfz15_6, hfz15_7, hfz15_8, hfz15_9, hfz15_10, hfz15_11, hfz15_12, hfz15_13, hfz15_14, hfz15_15, hfz15_16, hfz15_17, hfz15_18, hfz15_19, hfz15_20⟩ := frz21 BK395.out
 obtain ⟨hcz16_0, hcz16_1, hcz16_2, hcz16_3, hcz16_4, hcz16_5, hcz16_6, hcz16_7, hcz16_8, hcz16_9, hcz16_10, hcz16_11, hcz16_12, hcz16_13, hcz16_14, hcz16_15, hcz16_16, hcz16_17, hcz16_18, hcz16_19, hcz16_20⟩ := cls21 BK396.out
 obtain ⟨hfz16_0, hfz16_1, hfz16_2, hfz16_3, hfz16_4, hfz16_5, hfz16_6, hfz16_7, hfz16_8, hfz16_9, hfz16_10, hfz16_11, hfz16_12, hfz16_13, hfz16_14, hfz16_15, hfz16_16, hfz16_17, hfz16_18, hfz16_19, hfz16_20⟩ := frz21 BK396.out
 go_upto_if 16 with (first | ((with_reducible refine gate_callee (f := 43) rfl ?_); refine goesL_ (some 15) rfl rfl Try.func43 kr rfl #[.agg #[.int .i64 a0_1, .string a0_2, .int .i64 a0_3, .int .i64 a0_4, .slice A0_5 l0_5.length c0_5, .slice A0_6 l0_6.length c0_6, .slice A0_7 l0_7.length c0_7, .slice A0_8 l0_8.length c0_8], .agg #[.int .i64 a1_1, .string a1_2, .int .i64 a1_3, .int .i64 a1_4, .slice A1_5 l1_5.length c1_5, .slice A1_6 l1_6.length c1_6, .slice A1_7 l1_7.length c1_7, .slice A1_8 l1_8.length c1_8]] rfl mpw ?_; (with_reducible refine (laws_eqTerm.calls k a0_1 a0_2 a0_3 a0_4 _ _ l0_5 _ _ l0_6 _ _ l0_7 _ _ l0_8 a1_1 a1_2 a1_3 a1_4 _ _ l1_5 _ _ l1_6 _ _ l1_7 _ _ l1_8 t398 _ ?side1 ?side2 ?side3 ?side4 ?side5 ?side6 ?side7 ?side8 ?side9 ?side10 ?side11 ?side12 ?side13 ?side14 ?side15 ?side16 A12.out).mono ?_); (case side1 => have X_ := HR0_5; exact cbl); (case side2 => exact HC0_5.out); (case side3 => have X_ := HR0_6; exact cbl); (case side4 => exact HC0_6.out); (case side5 => have X_ := HR0_7; exact cbl); (case side6 => exact HC0_7.out); (case side7 => have X_ := HR0_8; exact cbl); (case side8 => exact HC0_8.out); (case side9 => have X_ := HR1_5; exact cbl); (case side10 => exact HC1_5.out); (case side11 => have X_ := HR1_6; exact cbl); (case side12 => exact HC1_6.out); (case side13 => have X_ := HR1_7; exact cbl); (case side14 => exact HC1_7.out); (case side15 => have X_ := HR1_8; exact cbl); (case side16 => exact HC1_8.out); rintro e w17 ⟨rfl, hb⟩; refine ⟨_, rfl, ?_⟩; have n0_ := am (blk_below (g := gb395) bkw hb); have n1_ := am (blk_below (g := gb396) bkw hb); have n2_ := am (below_step blw hb); clear BK395; clear BK396; clear HB; revert n0_ n1_ n2_; intro BK395 BK396 HB; (try clear hb); (try clear hb2); (try clear hk); (try clear hi)))
 have H := HC13.out
 clear HC13
 by_cases c18 : t398 = true
 case neg =>
  replace c18 := Bool.eq_false_iff.mpr c18
  subst c18
  have H1 : (some false) = some r := by rw [if_neg (show ¬ (false = true) by decide)] at H; exact H
  clear H
  have H := H1
  clear H1
  obtain rfl := Option.some.inj H
  go_wp2
  go_ret
  exact ⟨rfw, blw⟩
 subst c18
 have H1 : ((laws_eqHead.f k a0_9 a0_10 a0_11 a0_12 a0_13 l0_14 l0_15 l0_16 l0_17 l0_18 l0_19 l0_20 a1_9 a1_10 a1_11 a1_12 a1_13 l1_14 l1_15 l1_16 l1_17 l1_18 l1_19 l1_20).bind fun t399 => (if t399 = true then (some true) else (some false))) = some r := by rw [if_pos rfl] at H; exact H
 clear H
 have H := H1
 clear H1
 replace H := Option.bind_eq_some_iff.mp H
 obtain ⟨t399, A190, H⟩ := H
 replace H : (if t399 = true then (some true) else (some false)) = some r := H
 have A19 := am A190
 clear A190
 have HC20 := am H
 clear H
 have hnb21 := NB395_396.out
 have hnc21 := NB396_395.out
 obtain ⟨hcz22_0, hcz22_1, hcz22_2, hcz22_3, hcz22_4, hcz22_5, hcz22_6, hcz22_7, hcz22_8, hcz22_9, hcz22_10, hcz22_11, hcz22_12, hcz22_13, hcz22_14, hcz22_15, hcz22_16, hcz22_17, hcz22_18, hcz22_19, hcz22_20⟩ := cls21 BK395.out
 obtain ⟨hfz22_0, hfz22_1, hfz22_2, hfz22_3, hfz22_4, hfz22_5, hfz22_6, hfz22_7, hfz22_8, hfz22_9, hfz22_10, hfz22_11, hfz22_12, hfz22_13, hfz22_14, hfz22_15, hfz22_16, hfz22_17, hfz22_18, hfz22_19, hfz22_20⟩ := frz21 BK395.out
 obtain ⟨hcz23_0, hcz23_1, hcz23_2, hcz23_3, hcz23_4, hcz23_5, hcz23_6, hcz23_7, hcz23_8, hcz23_9, hcz23_10, hcz23_11, hcz23_12, hcz23_13, hcz23_14, hcz23_15, hcz23_16, hcz23_17, hcz23_18, hcz23_19, hcz23_20⟩ := cls21 BK396.out
 obtain ⟨hfz23_0, hfz23_1, hfz23_2, hfz23_3, hfz23_4, hfz23_5, hfz23_6, hfz23_7, hfz23_8, hfz23_9, hfz23_10, hfz23_11, hfz23_12, hfz23_13, hfz23_14, hfz23_15, hfz23_16, hfz23_17, hfz23_18, hfz23_19, hfz23_20⟩ := frz21 BK396.out
 go_upto_if 22 with (first | ((with_reducible refine gate_callee (f := 44) rfl ?_); refine goesL_ (some 21) rfl rfl Try.func44 kr rfl #[.agg #[.int .i64 a0_9, .int .i64 a0_10, .string a0_11, .int .i64 a0_12, .int .i64 a0_13, .slice A0_14 l0_14.length c0_14, .slice A0_15 l0_15.length c0_15, .slice A0_16 l0_16.length c0_16, .slice A0_17 l0_17.length c0_17, .slice A0_18 l0_18.length c0_18, .slice A0_19 l0_19.length c0_19, .slice A0_20 l0_20.length c0_20], .agg #[.int .i64 a1_9, .int .i64 a1_10, .string a1_11, .int .i64 a1_12, .int .i64 a1_13, .slice A1_14 l1_14.length c1_14, .slice A1_15 l1_15.length c1_15, .slice A1_16 l1_16.length c1_16, .slice A1_17 l1_17.length c1_17, .slice A1_18 l1_18.length c1_18, .slice A1_19 l1_19.length c1_19, .slice A1_20 l1_20.length c1_20]] rfl mpw ?_; (with_reducible refine (ih_44 k (by omega) a0_9 a0_10 a0_11 a0_12 a0_13 _ _ l0_14 _ _ l0_15 _ _ l0_16 _ _ l0_17 _ _ l0_18 _ _ l0_19 _ _ l0_20 a1_9 a1_10 a1_11 a1_12 a1_13 _ _ l1_14 _ _ l1_15 _ _ l1_16 _ _ l1_17 _ _ l1_18 _ _ l1_19 _ _ l1_20 t399 _ ?side1 ?side2 ?side3 ?side4 ?side5 ?side6 ?side7 ?side8 ?side9 ?side10 ?side11 ?side12 ?side13 ?side14 ?side15 ?side16 ?side17 ?side18 ?side19 ?side20 ?side21 ?side22 ?side23 ?side24 ?side25 ?side26 ?side27 ?side28 A19.out).mono ?_); (case side1 => have X_ := HR0_14; exact cbl); (case side2 => exact HC0_14.out); (case side3 => have X_ := HR0_15; exact cbl); (case side4 => exact HC0_15.out); (case side5 => have X_ := HR0_16; exact cbl); (case side6 => exact HC0_16.out); (case side7 => have X_ := HR0_17; exact cbl); (case side8 => exact HC0_17.out); (case side9 => have X_ := HR0_18; exact cbl); (case side10 => exact HC0_18.out); (case side11 => have X_ := HR0_19; exact cbl); (case side12 => exact HC0_19.out); (case side13 => have X_ := HR0_20; exact cbl); (case side14 => exact HC0_20.out); (case side15 => have X_ := HR1_14; exact cbl); (case side16 => exact HC1_14.out); (case side17 => have X_ := HR1_15; exact cbl); (case side18 => exact HC1_15.out); (case side19 => have X_ := HR1_16; exact cbl); (case side20 => exact HC1_16.out); (case side21 => have X_ := HR1_17; exact cbl); (case side22 => exact HC1_17.out); (case side23 => have X_ := HR1_18; exact cbl); (case side24 => exact HC1_18.out); (case side25 => have X_ := HR1_19; exact cbl); (case side26 => exact HC1_19.out); (case side27 => have X_ := HR1_20; exact cbl); (case side28 => exact HC1_20.out); rintro e w24 ⟨rfl, hb⟩; refine ⟨_, rfl, ?_⟩; have n0_ := am (blk_below (g := gb395) bkw hb); have n1_ := am (blk_below (g := gb396) bkw hb); have n2_ := am (below_step blw hb); clear BK395; clear BK396; clear HB; revert n0_ n1_ n2_; intro BK395 BK396 HB; (try clear hb); (try clear hb2); (try clear hk); (try clear hi)))
 have H := HC20.out
 clear HC20
 by_cases c25 : t399 = true
 ·subst c25
  have H1 : (some true) = some r := by rw [if_pos rfl] at H; exact H
  clear H
  have H := H1
  clear H1
  obtain rfl := Option.some.inj H
  go_wp2
  go_ret
  exact ⟨rfw, blw⟩
 replace c25 := Bool.eq_false_iff.mpr c25
 subst c25
 have H1 : (some false) = some r := by rw [if_neg (show ¬ (false = true) by decide)] at H; exact H
 clear H
 have H := H1
 clear H1
 obtain rfl := Option.some.inj H
 go_wp2
 go_ret
 exact ⟨rfw, blw⟩

/-! ### laws_eqHead: function 44 -/
theorem laws_eqHead.step (k : Nat) (ih : ∀ m, m < k → laws_eqHead.T m) (ih_10 : ∀ m, m < k → laws_eqQuery.T m) (ih_20 : ∀ m, m < k → laws_eqCompS.T m) (ih_30 : ∀ m, m < k → laws_eqComp.T m) (ih_63 : ∀ m, m < k → laws_eqHeadS.T m) : laws_eqHead.T k := by
 intro a0_0 a0_1 a0_2 a0_3 a0_4 A0_5 c0_5 l0_5 A0_6 c0_6 l0_6 A0_7 c0_7 l0_7 A0_8 c0_8 l0_8 A0_9 c0_9 l0_9 A0_10 c0_10 l0_10 A0_11 c0_11 l0_11 a1_0 a1_1 a1_2 a1_3 a1_4 A1_5 c1_5 l1_5 A1_6 c1_6 l1_6 A1_7 c1_7 l1_7 A1_8 c1_8 l1_8 A1_9 c1_9 l1_9 A1_10 c1_10 l1_10 A1_11 c1_11 l1_11 r w hr0_5 hc0_5 hr0_6 hc0_6 hr0_7 hc0_7 hr0_8 hc0_8 hr0_9 hc0_9 hr0_10 hc0_10 hr0_11 hc0_11 hr1_5 hc1_5 hr1_6 hc1_6 hr1_7 hc1_7 hr1_8 hc1_8 hr1_9 hc1_9 hr1_10 hc1_10 hr1_11 hc1_11 h
 cases k with
 | zero => exact absurd h (by simp [laws_eqHead.f])
 | succ k =>
 simp only [laws_eqHead.f] at h
 have hu47 := Try.underlying47
 have hu44 := Try.underlying44
 have hu29 := Try.underlying29
 have HR0_5 := am hr0_5
 have HC0_5 := am hc0_5
 clear hr0_5 hc0_5
 have HR0_6 := am hr0_6
 have HC0_6 := am hc0_6
 clear hr0_6 hc0_6
 have HR0_7 := am hr0_7
 have HC0_7 := am hc0_7
 clear hr0_7 hc0_7
 have HR0_8 := am hr0_8
 have HC0_8 := am hc0_8
 clear hr0_8 hc0_8
 have HR0_9 := am hr0_9
 have HC0_9 := am hc0_9
 clear hr0_9 hc0_9
 have HR0_10 := am hr0_10
 have HC0_10 := am hc0_10
 clear hr0_10 hc0_10
 have HR0_11 := am hr0_11
 have HC0_11 := am hc0_11
 clear hr0_11 hc0_11
 have HR1_5 := am hr1_5
 have HC1_5 := am hc1_5
 clear hr1_5 hc1_5
 have HR1_6 := am hr1_6
 have HC1_6 := am hc1_6
 clear hr1_6 hc1_6
 have HR1_7 := am hr1_7
 have HC1_7 := am hc1_7
 clear hr1_7 hc1_7
 have HR1_8 := am hr1_8
 have HC1_8 := am hc1_8
 clear hr1_8 hc1_8
 have HR1_9 := am hr1_9
 have HC1_9 := am hc1_9
 clear hr1_9 hc1_9
 have HR1_10 := am hr1_10
 have HC1_10 := am hc1_10
 clear hr1_10 hc1_10
 have HR1_11 := am hr1_11
 have HC1_11 := am hc1_11
 clear hr1_11 hc1_11
 have HB := am (Below.refl w.heap.size w)
 have H : (if a0_0 = a1_0 then ((laws_eqTerm.f k a0_1 a0_2 a0_3 a0_4 l0_5 l0_6 l0_7 l0_8 a1_1 a1_2 a1_3 a1_4 l1_5 l1_6 l1_7 l1_8).bind fun t402 => (if t402 = true then ((laws_eqStringS.f k l0_9 l1_9).bind fun t403 => (if t403 = true then ((laws_eqHeadS.f k l0_10 l1_10).bind fun t404 => (if t404 = true then ((laws_eqQuery.f k l0_11 l1_11).bind fun t405 => (if t405 = true then (some true) else (some false))) else (some false))) else (some false))) else (some false))) else (some false)) = some r := h
 clear h
 have HC3 := am H
 clear H
 go_enter Try.func44, Try.ntmps44
 go_upto_if 9 with (first | ((with_reducible refine gate_dst (N := 2) rfl ?_); refine box_event ?hg (N := 2) ?hd (cs := #[.int .i64 a0_0, .int .i64 a0_1, .string a0_2, .int .i64 a0_3, .int .i64 a0_4, .slice A0_5 l0_5.length c0_5, .slice A0_6 l0_6.length c0_6, .slice A0_7 l0_7.length c0_7, .slice A0_8 l0_8.length c0_8, .slice A0_9 l0_9.length c0_9, .slice A0_10 l0_10.length c0_10, .slice A0_11 l0_11.length c0_11]) (t := 47) ?hr ?_; (case hd => rfl); (case hg => rfl); (case hr => exact hrw); intro gb400 hg w4 hbox hb; have n0_ := am (below_step blw hb); have n1_ := am (hbox); have n2_ := am ((by rw [hg]; exact (below_size blw) : w.heap.size ≤ gb400)); have n3_ := n2_; clear HB; revert n0_ n1_ n2_ n3_; intro HB BK400 GW400 GE400; clear hb hbox hg) | ((with_reducible refine gate_dst (N := 3) rfl ?_); refine box_event ?hg (N := 3) ?hd (cs := #[.int .i64 a1_0, .int .i64 a1_1, .string a1_2, .int .i64 a1_3, .int .i64 a1_4, .slice A1_5 l1_5.length c1_5, .slice A1_6 l1_6.length c1_6, .slice A1_7 l1_7.length c1_7, .slice A1_8 l1_8.length c1_8, .slice A1_9 l1_9.length c1_9, .slice A1_10 l1_10.length c1_10, .slice A1_11 l1_11.length c1_11]) (t := 47) ?hr ?_; (case hd => rfl); (case hg => rfl); (case hr => exact hrw); intro gb401 hg w5 hbox hb; have n0_ := am (blk_below (g := gb400) bkw hb); have n1_ := am (below_step blw hb); have n2_ := am (hbox); have n3_ := am ((by rw [hg]; exact (below_size blw) : w.heap.size ≤ gb401)); have n4_ := n3_; have n5_ := am ((by rw [hg]; exact Nat.ne_of_lt (blk_lt (g := gb400) bkw) : gb400 ≠ gb401)); have n6_ := am ((by rw [hg]; exact Nat.ne_of_gt (blk_lt (g := gb400) bkw) : gb401 ≠ gb400)); clear BK400; clear HB; revert n0_ n1_ n2_ n3_ n4_ n5_ n6_; intro BK400 HB BK401 GW401 GE401 NB400_401 NB401_400; clear hb hbox hg; have hnb6 := NB400_401.out; have hnc6 := NB401_400.out; obtain ⟨hcz7_0, hcz7_1, hcz7_2, hcz7_3, hcz7_4, hcz7_5, hcz7_6, hcz7_7, hcz7_8, hcz7_9, hcz7_10, hcz7_11⟩ := cls12 BK400.out; obtain ⟨hfz7_0, hfz7_1, hfz7_2, hfz7_3, hfz7_4, hfz7_5, hfz7_6, hfz7_7, hfz7_8, hfz7_9, hfz7_10, hfz7_11⟩ := frz12 BK400.out; obtain ⟨hcz8_0, hcz8_1, hcz8_2, hcz8_3, hcz8_4, hcz8_5, hcz8_6, hcz8_7, hcz8_8, hcz8_9, hcz8_10, hcz8_11⟩ := cls12 BK401.out; obtain ⟨hfz8_0, hfz8_1, hfz8_2, hfz8_3, hfz8_4, hfz8_5, hfz8_6, hfz8_7, hfz8_8, hfz8_9, hfz8_10, hfz8_11⟩ := frz12 BK401.out))
 (try clear hcz7_0 hcz7_1 hcz7_10 hcz7_11 hcz7_2 hcz7_3 hcz7_4 hcz7_5 hcz7_6 hcz7_7 hcz7_8 hcz7_9); (try clear hcz8_0 hcz8_1 hcz8_10 hcz8_11 hcz8_2 hcz8_3 hcz8_4 hcz8_5 hcz8_6 hcz8_7 hcz8_8 hcz8_9); (try clear hfz7_0 hfz7_1 hfz7_10 hfz7_11 hfz7_2 hfz7_3 hfz7_4 hfz7_5 hfz7_6 hfz7_7 hfz7_8 hfz7_9); (try clear hfz8_0 hfz8_1 hfz8_10 hfz8_11 hfz8_2 hfz8_3 hfz8_4 hfz8_5 hfz8_6 hfz8_7 hfz8_8 hfz8_9)
 have H := HC3.out
 clear HC3
 by_cases c9 : a0_0 = a1_0
 case neg =>
  rw [if_neg c9] at H
  have c9b0 : (a0_0 == a1_0) = false := beq_eq_false_iff_ne.mpr c9
  have c9b1 : (a0_0 != a1_0) = true := bne_iff_ne.mpr c9
  (first | rw [c9b0] | (simp only [i64_w, i32_w]; rw [c9b0]) | (rw [c9b1]; (try simp only [Bool.not_true, Bool.not_false])) | skip)
  obtain rfl := Option.some.inj H
  go_wp2
  go_ret
  exact ⟨rfw, blw⟩
 rw [if_pos c9] at H
 have c9b0 : (a0_0 == a1_0) = true := beq_iff_eq.mpr c9
 have c9b1 : (a0_0 != a1_0) = false := bne_eq_false_iff_eq.mpr c9
 clear c9
 (first | rw [c9b0] | (simp only [i64_w, i32_w]; rw [c9b0]) | (rw [c9b1]; (try simp only [Bool.not_true, Bool.not_false])) | skip)
 replace H := Option.bind_eq_some_iff.mp H
 obtain ⟨t402, A100, H⟩ := H
 replace H : (if t402 = true then ((laws_eqStringS.f k l0_9 l1_9).bind fun t403 => (if t403 = true then ((laws_eqHeadS.f k l0_10 l1_10).bind fun t404 => (if t404 = true then ((laws_eqQuery.f k l0_11 l1_11).bind fun t405 => (if t405 = true then (some true) else (some false))) else (some false))) else (some false))) else (some false)) = some r := H
 have A10 := am A100
 clear A100
 have HC11 := am H
 clear H
 have hnb12 := NB400_401.out
 have hnc12 := NB401_400.out
 obtain ⟨hcz13_0, hcz13_1, hcz13_2, hcz13_3, hcz13_4, hcz13_5, hcz13_6, hcz13_7, hcz13_8, hcz13_9, hcz13_10, hcz13_11⟩ := cls12 BK400.out
 obtain ⟨hfz13_0, hfz13_1, hfz13_2, hfz13_3, hfz13_4, hfz13_5, hfz13_6, hfz13_7, hfz13_8, hfz13_9, hfz13_10, hfz13_11⟩ := frz12 BK400.out
 obtain ⟨hcz14_0, hcz14_1, hcz14_2, hcz14_3, hcz14_4, hcz14_5, hcz14_6, hcz14_7, hcz14_8, hcz14_9, hcz14_10, hcz14_11⟩ := cls12 BK401.out
 obtain ⟨hfz14_0, hfz14_1, hfz14_2, hfz14_3, hfz14_4, hfz14_5, hfz14_6, hfz14_7, hfz14_8, hfz14_9, hfz14_10, hfz14_11⟩ := frz12 BK401.out
 go_upto_if 15 with (first | ((with_reducible refine gate_callee (f := 43) rfl ?_); refine goesL_ (some 14) rfl rfl Try.func43 kr rfl #[.agg #[.int .i64 a0_1, .string a0_2, .int .i64 a0_3, .int .i64 a0_4, .slice A0_5 l0_5.length c0_5, .slice A0_6 l0_6.length c0_6, .slice A0_7 l0_7.length c0_7, .slice A0_8 l0_8.length c0_8], .agg #[.int .i64 a1_1, .string a1_2, .int .i64 a1_3, .int .i64 a1_4, .slice A1_5 l1_5.length c1_5, .slice A1_6 l1_6.length c1_6, .slice A1_7 l1_7.length c1_7, .slice A1_8 l1_8.length c1_8]] rfl mpw ?_; (with_reducible refine (laws_eqTerm.calls k a0_1 a0_2 a0_3 a0_4 _ _ l0_5 _ _ l0_6 _ _ l0_7 _ _ l0_8 a1_1 a1_2 a1_3 a1_4 _ _ l1_5 _ _ l1_6 _ _ l1_7 _ _ l1_8 t402 _ ?side1 ?side2 ?side3 ?side4 ?side5 ?side6 ?side7 ?side8 ?side9 ?side10 ?side11 ?side12 ?side13 ?side14 ?side15 ?side16 A10.out).mono ?_); (case side1 => have X_ := HR0_5; exact cbl); (case side2 => exact HC0_5.out); (case side3 => have X_ := HR0_6; exact cbl); (case side4 => exact HC0_6.out); (case side5 => have X_ := HR0_7; exact cbl); (case side6 => exact HC0_7.out); (case side7 => have X_ := HR0_8; exact cbl); (case side8 => exact HC0_8.out); (case side9 => have X_ := HR1_5; exact cbl); (case side10 => exact HC1_5.out); (case side11 => have X_ := HR1_6; exact cbl); (case side12 => exact HC1_6.out); (case side13 => have X_ := HR1_7; exact cbl); (case side14 => exact HC1_7.out); (case side15 => have X_ := HR1_8; exact cbl); (case side16 => exact HC1_8.out); rintro e w15 ⟨rfl, hb⟩; refine ⟨_, rfl, ?_⟩; have n0_ := am (blk_below (g := gb400) bkw hb); have n1_ := am (blk_below (g := gb401) bkw hb); have n2_ := am (below_step blw hb); clear BK400; clear BK401; clear HB; revert n0_ n1_ n2_; intro BK400 BK401 HB; (try clear hb); (try clear hb2); (try clear hk); (try clear hi)))
 have H := HC11.out
 clear HC11
 by_cases c16 : t402 = true
 case neg =>
  replace c16 := Bool.eq_false_iff.mpr c16
  subst c16
  have H1 : (some false) = some r := by rw [if_neg (show ¬ (false = true) by decide)] at H; exact H
  clear H
  have H := H1
  clear H1
  obtain rfl := Option.some.inj H
  go_wp2
  go_ret
  exact ⟨rfw, blw⟩
 subst c16
 have H1 : ((laws_eqStringS.f k l0_9 l1_9).bind fun t403 => (if t403 = true then ((laws_eqHeadS.f k l0_10 l1_10).bind fun t404 => (if t404 = true then ((laws_eqQuery.f k l0_11 l1_11).bind fun t405 => (if t405 = true then (some true) else (some false))) else (some false))) else (some false))) = some r := by rw [if_pos rfl] at H; exact H
 clear H
 have H := H1
 clear H1
 replace H := Option.bind_eq_some_iff.mp H
 obtain ⟨t403, A170, H⟩ := H
 replace H : (if t403 = true then ((laws_eqHeadS.f k l0_10 l1_10).bind fun t404 => (if t404 = true then ((laws_eqQuery.f k l0_11 l1_11).bind fun t405 => (if t405 = true then (some true) else (some false))) else (some false))) else (some false)) = some r := H
 have A17 := am A170
 clear A170
 have HC18 := am H
 clear H
 have hnb19 := NB400_401.out
 have hnc19 := NB401_400.out
 obtain ⟨hcz20_0, hcz20_1, hcz20_2, hcz20_3, hcz20_4, hcz20_5, hcz20_6, hcz20_7, hcz20_8, hcz20_9, hcz20_10, hcz20_11⟩ := cls12 BK400.out
 obtain ⟨hfz20_0, hfz20_1, hfz20_2, hfz20_3, hfz20_4, hfz20_5, hfz20_6, hfz20_7, hfz20_8, hfz20_9, hfz20_10, hfz20_11⟩ := frz12 BK400.out
 obtain ⟨hcz21_0, hcz21_1, hcz21_2, hcz21_3, hcz21_4, hcz21_5, hcz21_6, hcz21_7, hcz21_8, hcz21_9, hcz21_10, hcz21_11⟩ := cls12 BK401.out
 obtain ⟨hfz21_0, hfz21_1, hfz21_2, hfz21_3, hfz21_4, hfz21_5, hfz21_6, hfz21_7, hfz21_8, hfz21_9, hfz21_10, hfz21_11⟩ := frz12 BK401.out
 go_upto_if 21 with (first | ((with_reducible refine gate_callee (f := 61) rfl ?_); refine goesL_ (some 20) rfl rfl Try.func61 kr rfl #[.slice A0_9 l0_9.length c0_9, .slice A1_9 l1_9.length c1_9] rfl mpw ?_; (with_reducible refine (laws_eqStringS.calls k _ _ l0_9 _ _ l1_9 t403 _ ?side1 ?side2 ?side3 ?side4 A17.out).mono ?_); (case side1 => have X_ := HR0_9; exact cbl); (case side2 => exact HC0_9.out); (case side3 => have X_ := HR1_9; exact cbl); (case side4 => exact HC1_9.out); rintro e w' ⟨rfl, ⟨nd, rfl⟩⟩; refine ⟨_, rfl, ?_⟩))
 have H := HC18.out
 clear HC18
 by_cases c22 : t403 = true
 case neg =>
  replace c22 := Bool.eq_false_iff.mpr c22
  subst c22
  have H1 : (some false) = some r := by rw [if_neg (show ¬ (false = true) by decide)] at H; exact H
  clear H
  have H := H1
  clear H1
  obtain rfl := Option.some.inj H
  go_wp2
  go_ret
  exact ⟨rfw, blw⟩
 subst c22
 have H1 : ((laws_eqHeadS.f k l0_10 l1_10).bind fun t404 => (if t404 = true then ((laws_eqQuery.f k l0_11 l1_11).bind fun t405 => (if t405 = true then (some true) else (some false))) else (some false))) = some r := by rw [if_pos rfl] at H; exact H
 clear H
 have H := H1
 clear H1
 replace H := Option.bind_eq_some_iff.mp H
 obtain ⟨t404, A230, H⟩ := H
 replace H : (if t404 = true then ((laws_eqQuery.f k l0_11 l1_11).bind fun t405 => (if t405 = true then (some true) else (some false))) else (some false)) = some r := H
 have A23 := am A230
 clear A230
 have HC24 := am H
 clear H
 have hnb25 := NB400_401.out
 have hnc25 := NB401_400.out
 obtain ⟨hcz26_0, hcz26_1, hcz26_2, hcz26_3, hcz26_4, hcz26_5, hcz26_6, hcz26_7, hcz26_8, hcz26_9, hcz26_10, hcz26_11⟩ := cls12 BK400.out
 obtain ⟨hfz26_0, hfz26_1, hfz26_2, hfz26_3, hfz26_4, hfz26_5, hfz26_6, hfz26_7, hfz26_8, hfz26_9, hfz26_10, hfz26_11⟩ := frz12 BK400.out
 obtain ⟨hcz27_0, hcz27_1, hcz27_2, hcz27_3, hcz27_4, hcz27_5, hcz27_6, hcz27_7, hcz27_8, hcz27_9, hcz27_10, hcz27_11⟩ := cls12 BK401.out
 obtain ⟨hfz27_0, hfz27_1, hfz27_2, hfz27_3, hfz27_4, hfz27_5, hfz27_6, hfz27_7, hfz27_8, hfz27_9, hfz27_10, hfz27_11⟩ := frz12 BK401.out
 go_upto_if 27 with (first | ((with_reducible refine gate_callee (f := 63) rfl ?_); refine goesL_ (some 26) rfl rfl Try.func63 kr rfl #[.slice A0_10 l0_10.length c0_10, .slice A1_10 l1_10.length c1_10] rfl mpw ?_; (with_reducible refine (ih_63 k (by omega) _ _ l0_10 _ _ l1_10 t404 _ ?side1 ?side2 ?side3 ?side4 A23.out).mono ?_); (case side1 => have X_ := HR0_10; exact cbl); (case side2 => exact HC0_10.out); (case side3 => have X_ := HR1_10; exact cbl); (case side4 => exact HC1_10.out); rintro e w28 ⟨rfl, hb⟩; refine ⟨_, rfl, ?_⟩; have n0_ := am (blk_below (g := gb400) bkw hb); have n1_ := am (blk_below (g := gb401) bkw hb); have n2_ := am (below_step blw hb); clear BK400; clear BK401; clear HB; revert n0_ n1_ n2_; intro BK400 BK401 HB; (try clear hb); (try clear hb2); (try clear hk); (try clear hi)))
 have H := HC24.out
 clear HC24
 by_cases c29 : t404 = true
 case neg =>
  replace c29 := Bool.eq_false_iff.mpr c29
  subst c29
  have H1 : (some false) = some r := by rw [if_neg (show ¬ (false = true) by decide)] at H; exact H
  clear H
  have H := H1
  clear H1
  obtain rfl := Option.some.inj H
  go_wp2
  go_ret
  exact ⟨rfw, blw⟩
 subst c29
 have H1 : ((laws_eqQuery.f k l0_11 l1_11).bind fun t405 => (if t405 = true then (some true) else (some false))) = some r := by rw [if_pos rfl] at H; exact H
 clear H
 have H := H1
 clear H1
 replace H := Option.bind_eq_some_iff.mp H
 obtain ⟨t405, A300, H⟩ := H
 replace H : (if t405 = true then (some true) else (some false)) = some r := H
 have A30 := am A300
 clear A300
 have HC31 := am H
 clear H
 have hnb32 := NB400_401.out
 have hnc32 := NB401_400.out
 obtain ⟨hcz33_0, hcz33_1, hcz33_2, hcz33_3, hcz33_4, hcz33_5, hcz33_6, hcz33_7, hcz33_8, hcz33_9, hcz33_10, hcz33_11⟩ := cls12 BK400.out
 obtain ⟨hfz33_0, hfz33_1, hfz33_2, hfz33_3, hfz33_4, hfz33_5, hfz33_6, hfz33_7, hfz33_8, hfz33_9, hfz33_10, hfz33_11⟩ := frz12 BK400.out
 obtain ⟨hcz34_0, hcz34_1, hcz34_2, hcz34_3, hcz34_4, hcz34_5, hcz34_6, hcz34_7, hcz34_8, hcz34_9, hcz34_10, hcz34_11⟩ := cls12 BK401.out
 obtain ⟨hfz34_0, hfz34_1, hfz34_2, hfz34_3, hfz34_4, hfz34_5, hfz34_6, hfz34_7, hfz34_8, hfz34_9, hfz34_10, hfz34_11⟩ := frz12 BK401.out
 go_upto_if 33 with (first | ((with_reducible refine gate_callee (f := 10) rfl ?_); refine goesL_ (some 32) rfl rfl Try.func10 kr rfl #[.agg #[.slice A0_11 l0_11.length c0_11], .agg #[.slice A1_11 l1_11.length c1_11]] rfl mpw ?_; (with_reducible refine (ih_10 k (by omega) _ _ l0_11 _ _ l1_11 t405 _ ?side1 ?side2 ?side3 ?side4 A30.out).mono ?_); (case side1 => have X_ := HR0_11; exact cbl); (case side2 => exact HC0_11.out); (case side3 => have X_ := HR1_11; exact cbl); (case side4 => exact HC1_11.out); rintro e w35 ⟨rfl, hb⟩; refine ⟨_, rfl, ?_⟩; have n0_ := am (blk_below (g := gb400) bkw hb); have n1_ := am (blk_below (g := gb401) bkw hb); have n2_ := am (below_step blw hb); clear BK400; clear BK401; clear HB; revert n0_ n1_ n2_; intro BK400 BK401 HB; (try clear hb); (try clear hb2); (try clear hk); (try clear hi)))
 have H := HC31.out
 clear HC31
 by_cases c36 : t405 = true
 ·subst c36
  have H1 : (some true) = some r := by rw [if_pos rfl] at H; exact H
  clear H
  have H := H1
  clear H1
  obtain rfl := Option.some.inj H
  go_wp2
  go_ret
  exact ⟨rfw, blw⟩
 replace c36 := Bool.eq_false_iff.mpr c36
 subst c36
 have H1 : (some false) = some r := by rw [if_neg (show ¬ (false = true) by decide)] at H; exact H
 clear H
 have H := H1
 clear H1
 obtain rfl := Option.some.inj H
 go_wp2
 go_ret
 exact ⟨rfw, blw⟩

/-! ### laws_eqHeadS: function 63 -/
def laws_eqHeadS.T6 : Bool × List (List Nat × List Nat) := (true, [([], []), ([], []), ([0, 1], [0, 1]), ([2], [2]), ([], []), ([], []), ([4, 5], [4, 5]), ([6], [6]), ([3, 7], [3, 7]), ([8], [8])])
def laws_eqHeadS.B6 : List Nat := [0, 0, 3, 7, 0, 0, 48, 112, 255, 511]
theorem laws_eqHeadS.tab6 : rtab .any (opsOf Try.f63 6) = laws_eqHeadS.T6 := by kernel_rfl
theorem laws_eqHeadS.bits6 : waitsOk laws_eqHeadS.T6.2 laws_eqHeadS.B6 = true := by kernel_rfl
theorem laws_eqHeadS.step (k : Nat) (ih : ∀ m, m < k → laws_eqHeadS.T m) (ih_10 : ∀ m, m < k → laws_eqQuery.T m) (ih_20 : ∀ m, m < k → laws_eqCompS.T m) (ih_30 : ∀ m, m < k → laws_eqComp.T m) (ih_44 : ∀ m, m < k → laws_eqHead.T m) : laws_eqHeadS.T k := by
 intro A0 c0 l0 A1 c1 l1 r w hr0 hc0 hr1 hc1 h
 cases k with
 | zero => exact absurd h (by simp [laws_eqHeadS.f])
 | succ k =>
 simp only [laws_eqHeadS.f] at h
 have hu47 := Try.underlying47
 have HR0 := am hr0
 have HC0 := am hc0
 clear hr0 hc0
 have HR1 := am hr1
 have HC1 := am hc1
 clear hr1 hc1
 have HB := am (Below.refl w.heap.size w)
 have H : (if (l0.length : Int) = (l1.length : Int) then (laws_eqHeadS.l0 k l0 l1 0) else (some false)) = some r := h
 clear h
 by_cases c3 : (l0.length : Int) = (l1.length : Int)
 case neg =>
  rw [if_neg c3] at H
  have c3b0 : ((l0.length : Int) == (l1.length : Int)) = false := beq_eq_false_iff_ne.mpr c3
  have c3b1 : ((l0.length : Int) != (l1.length : Int)) = true := bne_iff_ne.mpr c3
  have c3b2 : (l0.length == l1.length) = false := by first | simpa using c3 | (simp at c3 ⊢; omega)
  obtain rfl := Option.some.inj H
  go_enter Try.func63, Try.ntmps63
  go_wp2
  go_ret
  exact ⟨rfw, blw⟩
 rw [if_pos c3] at H
 have c3b0 : ((l0.length : Int) == (l1.length : Int)) = true := beq_iff_eq.mpr c3
 have c3b1 : ((l0.length : Int) != (l1.length : Int)) = false := bne_eq_false_iff_eq.mpr c3
 have c3b2 : (l0.length == l1.length) = true := by first | simpa using c3 | (simp at c3 ⊢; omega)
 clear c3
 have H' := am H
 clear H
 go_enter Try.func63, Try.ntmps63
 go_wp2
 go_loopg [5] k (fun kq v5 w' => ∃ (x5_1 : Int), v5 = .int .i64 x5_1 ∧ Aside0 (laws_eqHeadS.l0 kq l0 l1 x5_1 = some r) ∧ Aside0 (kq ≤ k) ∧ Aside0 (Below w.heap.size w w'))
 case atStart => exact ⟨(0), rfs, H', ⟨Nat.le_refl _⟩, ⟨blw⟩⟩
 case round =>
  clear H'
  (try clear c1); (try clear p2); (try clear c3); (try clear c3b0); (try clear c3b1); (try clear c3b2)
  obtain ⟨x5_1, rfl, HA, HK1, HB⟩ := hrel
  cases gk with
  | zero => exact absurd HA.out (by simp [laws_eqHeadS.l0])
  | succ k1 =>
   have H := HA.out
   clear HA
   simp only [laws_eqHeadS.l0] at H
   by_cases c4 : x5_1 < (l0.length : Int)
   case neg =>
    rw [if_neg c4] at H
    have c4b0 : decide (x5_1 < (l0.length : Int)) = false := decide_eq_false c4
    clear c4
    obtain rfl := Option.some.inj H
    go_wp2
    go_ret
    exact ⟨rfw, blw⟩
   rw [if_pos c4] at H
   have c4b0 : decide (x5_1 < (l0.length : Int)) = true := decide_eq_true c4
   clear c4
   by_cases c5 : 0 ≤ x5_1
   case neg =>
    rw [if_neg c5] at H
    exact absurd H (by simp)
   rw [if_pos c5] at H
   have c5b0 : decide (0 ≤ x5_1) = true := decide_eq_true c5
   clear c5
   by_cases c6 : x5_1 < (l1.length : Int)
   case neg =>
    rw [if_neg c6] at H
    exact absurd H (by simp)
   rw [if_pos c6] at H
   have c6b0 : decide (x5_1 < (l1.length : Int)) = true := decide_eq_true c6
   clear c6
   replace H := Option.bind_eq_some_iff.mp H
   obtain ⟨t408, A70, H⟩ := H
   replace H : (if t408 = true then (laws_eqHeadS.l0 k1 l0 l1 (wrap64 (x5_1 + 1))) else (some false)) = some r := H
   have A7 := am A70
   clear A70
   have HC8 := am H
   clear H
   try go_wp2
   have n0_ := am (below_drew1 HB.out)
   clear HB
   revert n0_
   intro HB
   have p406 : 0 ≤ (x5_1 : Int) := of_decide_eq_true asw
   have q406 : x5_1 < (l0.length : Int) := of_decide_eq_true asw
   obtain ⟨ad406, A406_5, c406_5, A406_6, c406_6, A406_7, c406_7, A406_8, c406_8, A406_9, c406_9, A406_10, c406_10, A406_11, c406_11, e406, hx406_0, hx406_1, hx406_2, hx406_3, hx406_4, hx406_5, hx406_6, hx406_7, hx406_8, hx406_9, hx406_10, hx406_11, hl406_5, hi406_5, hl406_6, hi406_6, hl406_7, hi406_7, hl406_8, hi406_8, hl406_9, hi406_9, hl406_10, hi406_10, hl406_11, hi406_11⟩ := at_T47 HR0.out x5_1 p406 q406
   have hw406_11 := hx406_11
   have hw406_10 := hx406_10
   have hw406_9 := hx406_9
   have hw406_8 := hx406_8
   have hw406_7 := hx406_7
   have hw406_6 := hx406_6
   have hw406_5 := hx406_5
   have hw406_4 := hx406_4
   have hw406_3 := hx406_3
   have hw406_2 := hx406_2
   have hw406_1 := hx406_1
   have hw406_0 := hx406_0
   cases e406
   replace hx406_0 := upw HB.out hx406_0
   replace hx406_1 := upw HB.out hx406_1
   replace hx406_2 := upw HB.out hx406_2
   replace hx406_3 := upw HB.out hx406_3
   replace hx406_4 := upw HB.out hx406_4
   replace hx406_5 := upw HB.out hx406_5
   replace hx406_6 := upw HB.out hx406_6
   replace hx406_7 := upw HB.out hx406_7
   replace hx406_8 := upw HB.out hx406_8
   replace hx406_9 := upw HB.out hx406_9
   replace hx406_10 := upw HB.out hx406_10
   replace hx406_11 := upw HB.out hx406_11
   have HR406_5 := am hi406_5
   have HC406_5 := am hl406_5
   clear hi406_5 hl406_5
   have HR406_6 := am hi406_6
   have HC406_6 := am hl406_6
   clear hi406_6 hl406_6
   have HR406_7 := am hi406_7
   have HC406_7 := am hl406_7
   clear hi406_7 hl406_7
   have HR406_8 := am hi406_8
   have HC406_8 := am hl406_8
   clear hi406_8 hl406_8
   have HR406_9 := am hi406_9
   have HC406_9 := am hl406_9
   clear hi406_9 hl406_9
   have HR406_10 := am hi406_10
   have HC406_10 := am hl406_10
   clear hi406_10 hl406_10
   have HR406_11 := am hi406_11
   have HC406_11 := am hl406_11
   clear hi406_11 hl406_11
   replace p406 := eq_true p406
   replace q406 := eq_true q406
   have p407 : 0 ≤ (x5_1 : Int) := of_decide_eq_true asw
   have q407 : x5_1 < (l1.length : Int) := of_decide_eq_true asw
   obtain ⟨ad407, A407_5, c407_5, A407_6, c407_6, A407_7, c407_7, A407_8, c407_8, A407_9, c407_9, A407_10, c407_10, A407_11, c407_11, e407, hx407_0, hx407_1, hx407_2, hx407_3, hx407_4, hx407_5, hx407_6, hx407_7, hx407_8, hx407_9, hx407_10, hx407_11, hl407_5, hi407_5, hl407_6, hi407_6, hl407_7, hi407_7, hl407_8, hi407_8, hl407_9, hi407_9, hl407_10, hi407_10, hl407_11, hi407_11⟩ := at_T47 HR1.out x5_1 p407 q407
   have hw407_11 := hx407_11
   have hw407_10 := hx407_10
   have hw407_9 := hx407_9
   have hw407_8 := hx407_8
   have hw407_7 := hx407_7
   have hw407_6 := hx407_6
   have hw407_5 := hx407_5
   have hw407_4 := hx407_4
   have hw407_3 := hx407_3
   have hw407_2 := hx407_2
   have hw407_1 := hx407_1
   have hw407_0 := hx407_0
   cases e407
   replace hx407_0 := upw HB.out hx407_0
   replace hx407_1 := upw HB.out hx407_1
   replace hx407_2 := upw HB.out hx407_2
   replace hx407_3 := upw HB.out hx407_3
   replace hx407_4 := upw HB.out hx407_4
   replace hx407_5 := upw HB.out hx407_5
   replace hx407_6 := upw HB.out hx407_6
   replace hx407_7 := upw HB.out hx407_7
   replace hx407_8 := upw HB.out hx407_8
   replace hx407_9 := upw HB.out hx407_9
   replace hx407_10 := upw HB.out hx407_10
   replace hx407_11 := upw HB.out hx407_11
   have HR407_5 := am hi407_5
   have HC407_5 := am hl407_5
   clear hi407_5 hl407_5
   have HR407_6 := am hi407_6
   have HC407_6 := am hl407_6
   clear hi407_6 hl407_6
   have HR407_7 := am hi407_7
   have HC407_7 := am hl407_7
   clear hi407_7 hl407_7
   have HR407_8 := am hi407_8
   have HC407_8 := am hl407_8
   clear hi407_8 hl407_8
   have HR407_9 := am hi407_9
   have HC407_9 := am hl407_9
   clear hi407_9 hl407_9
   have HR407_10 := am hi407_10
   have HC407_10 := am hl407_10
   clear hi407_10 hl407_10
   have HR407_11 := am hi407_11
   have HC407_11 := am hl407_11
   clear hi407_11 hl407_11
   replace p407 := eq_true p407
   replace q407 := eq_true q407
   refine start_ (n := 10) (S := fun w' => w'.cell? (ad406.add ((x5_1).toNat * 12)) = some (.int .i64 ((rd_T47 l0 x5_1).f0)) ∧ w'.cell? ⟨(ad406.add ((x5_1).toNat * 12)).block, (ad406.add ((x5_1).toNat * 12)).off + 1, none⟩ = some (.int .i64 ((rd_T47 l0 x5_1).f1.f0)) ∧ w'.cell? ⟨(ad406.add ((x5_1).toNat * 12)).block, (ad406.add ((x5_1).toNat * 12)).off + 2, none⟩ = some (.string ((rd_T47 l0 x5_1).f1.f1)) ∧ w'.cell? ⟨(ad406.add ((x5_1).toNat * 12)).block, (ad406.add ((x5_1).toNat * 12)).off + 3, none⟩ = some (.int .i64 ((rd_T47 l0 x5_1).f1.f2)) ∧ w'.cell? ⟨(ad406.add ((x5_1).toNat * 12)).block, (ad406.add ((x5_1).toNat * 12)).off + 4, none⟩ = some (.int .i64 ((rd_T47 l0 x5_1).f1.f3.f0)) ∧ w'.cell? ⟨(ad406.add ((x5_1).toNat * 12)).block, (ad406.add ((x5_1).toNat * 12)).off + 5, none⟩ = some (.slice A406_5 ((rd_T47 l0 x5_1).f1.f3.f1).length c406_5) ∧ w'.cell? ⟨(ad406.add ((x5_1).toNat * 12)).block, (ad406.add ((x5_1).toNat * 12)).off + 6, none⟩ = some (.slice A406_6 ((rd_T47 l0 x5_1).f1.f3.f2).length c406_6) ∧ w'.cell? ⟨(ad406.add ((x5_1).toNat * 12)).block, (ad406.add ((x5_1).toNat * 12)).off + 7, none⟩ = some (.slice A406_7 ((rd_T47 l0 x5_1).f1.f4).length c406_7) ∧ w'.cell? ⟨(ad406.add ((x5_1).toNat * 12)).block, (ad406.add ((x5_1).toNat * 12)).off + 8, none⟩ = some (.slice A406_8 ((rd_T47 l0 x5_1).f1.f5).length c406_8) ∧ w'.cell? ⟨(ad406.add ((x5_1).toNat * 12)).block, (ad406.add ((x5_1).toNat * 12)).off + 9, none⟩ = some (.slice A406_9 ((rd_T47 l0 x5_1).f2).length c406_9) ∧ w'.cell? ⟨(ad406.add ((x5_1).toNat * 12)).block, (ad406.add ((x5_1).toNat * 12)).off + 10, none⟩ = some (.slice A406_10 ((rd_T47 l0 x5_1).f3).length c406_10) ∧ w'.cell? ⟨(ad406.add ((x5_1).toNat * 12)).block, (ad406.add ((x5_1).toNat * 12)).off + 11, none⟩ = some (.slice A406_11 ((rd_T47 l0 x5_1).f4.f0).length c406_11) ∧ w'.cell? (ad407.add ((x5_1).toNat * 12)) = some (.int .i64 ((rd_T47 l1 x5_1).f0)) ∧ w'.cell? ⟨(ad407.add ((x5_1).toNat * 12)).block, (ad407.add ((x5_1).toNat * 12)).off + 1, none⟩ = some (.int .i64 ((rd_T47 l1 x5_1).f1.f0)) ∧ w'.cell? ⟨(ad407.add ((x5_1).toNat * 12)).block, (ad407.add ((x5_1).toNat * 12)).off + 2, none⟩ = some (.string ((rd_T47 l1 x5_1).f1.f1)) ∧ w'.cell? ⟨(ad407.add ((x5_1).toNat * 12)).block, (ad407.add ((x5_1).toNat * 12)).off + 3, none⟩ = some (.int .i64 ((rd_T47 l1 x5_1).f1.f2)) ∧ w'.cell? ⟨(ad407.add ((x5_1).toNat * 12)).block, (ad407.add ((x5_1).toNat * 12)).off + 4, none⟩ = some (.int .i64 ((rd_T47 l1 x5_1).f1.f3.f0)) ∧ w'.cell? ⟨(ad407.add ((x5_1).toNat * 12)).block, (ad407.add ((x5_1).toNat * 12)).off + 5, none⟩ = some (.slice A407_5 ((rd_T47 l1 x5_1).f1.f3.f1).length c407_5) ∧ w'.cell? ⟨(ad407.add ((x5_1).toNat * 12)).block, (ad407.add ((x5_1).toNat * 12)).off + 6, none⟩ = some (.slice A407_6 ((rd_T47 l1 x5_1).f1.f3.f2).length c407_6) ∧ w'.cell? ⟨(ad407.add ((x5_1).toNat * 12)).block, (ad407.add ((x5_1).toNat * 12)).off + 7, none⟩ = some (.slice A407_7 ((rd_T47 l1 x5_1).f1.f4).length c407_7) ∧ w'.cell? ⟨(ad407.add ((x5_1).toNat * 12)).block, (ad407.add ((x5_1).toNat * 12)).off + 8, none⟩ = some (.slice A407_8 ((rd_T47 l1 x5_1).f1.f5).length c407_8) ∧ w'.cell? ⟨(ad407.add ((x5_1).toNat * 12)).block, (ad407.add ((x5_1).toNat * 12)).off + 9, none⟩ = some (.slice A407_9 ((rd_T47 l1 x5_1).f2).length c407_9) ∧ w'.cell? ⟨(ad407.add ((x5_1).toNat * 12)).block, (ad407.add ((x5_1).toNat * 12)).off + 10, none⟩ = some (.slice A407_10 ((rd_T47 l1 x5_1).f3).length c407_10) ∧ w'.cell? ⟨(ad407.add ((x5_1).toNat * 12)).block, (ad407.add ((x5_1).toNat * 12)).off + 11, none⟩ = some (.slice A407_11 ((rd_T47 l1 x5_1).f4.f0).length c407_11)) (ds := []) #[false,false,false,false,false,false,false,false,false,false] kr rfl rfl ⟨(upw HB.out hw406_0), (upw HB.out hw406_1), (upw HB.out hw406_2), (upw HB.out hw406_3), (upw HB.out hw406_4), (upw HB.out hw406_5), (upw HB.out hw406_6), (upw HB.out hw406_7), (upw HB.out hw406_8), (upw HB.out hw406_9), (upw HB.out hw406_10), (upw HB.out hw406_11), (upw HB.out hw407_0), (upw HB.out hw407_1), (upw HB.out hw407_2), (upw HB.out hw407_3), (upw HB.out hw407_4), (upw HB.out hw407_5), (upw HB.out hw407_6), (upw HB.out hw407_7), (upw HB.out hw407_8), (upw HB.out hw407_9), (upw HB.out hw407_10), (upw HB.out hw407_11)⟩ (fun hHeld => ?_); refine with_tabW laws_eqHeadS.tab6 laws_eqHeadS.bits6 (fun HT_ HW_ => ?_)
   generalize wr.drew = w9 at HB HR406_10 HR406_11 HR406_5 HR406_6 HR406_7 HR406_8 HR406_9 HR407_10 HR407_11 HR407_5 HR407_6 HR407_7 HR407_8 HR407_9 hx406_0 hx406_1 hx406_10 hx406_11 hx406_2 hx406_3 hx406_4 hx406_5 hx406_6 hx406_7 hx406_8 hx406_9 hx407_0 hx407_1 hx407_10 hx407_11 hx407_2 hx407_3 hx407_4 hx407_5 hx407_6 hx407_7 hx407_8 hx407_9 hHeld ⊢
   refine pure_ (i := 0) (N := some 17) (v := ?_) (a' := ?_) (bm 10 1) rfl rfl (any_of HT_.out kr) qi (Or.inl ⟨by rfl, ?_⟩) ?_ ?_
   rotate_left
   ·intro w'
    go_simp
    with_reducible rfl
   rotate_left
   ·simp only [sx]
    rfl
   refine pure_ (i := 1) (N := some 18) (v := ?_) (a' := ?_) (bm 10 3) rfl rfl (any_of HT_.out kr) qi (Or.inl ⟨by rfl, ?_⟩) ?_ ?_
   rotate_left
   ·intro w'
    go_simp
    with_reducible rfl
   rotate_left
   ·simp only [sx]
    rfl
   refine pure_ (i := 2) (N := some 19) (v := ?_) (a' := ?_) (bm 10 7) rfl rfl (any_of HT_.out kr) qi (Or.inl ⟨by rfl, ?_⟩) ?_ ?_
   rotate_left
   ·intro w'
    go_simp
    with_reducible rfl
   rotate_left
   ·simp only [sx]
    rfl
   refine pure_ (i := 4) (N := some 21) (v := ?_) (a' := ?_) (bm 10 23) rfl rfl (any_of HT_.out kr) qi (Or.inl ⟨by rfl, ?_⟩) ?_ ?_
   rotate_left
   ·intro w'
    go_simp
    with_reducible rfl
   rotate_left
   ·simp only [sx]
    rfl
   refine pure_ (i := 5) (N := some 22) (v := ?_) (a' := ?_) (bm 10 55) rfl rfl (any_of HT_.out kr) qi (Or.inl ⟨by rfl, ?_⟩) ?_ ?_
   rotate_left
   ·intro w'
    go_simp
    with_reducible rfl
   rotate_left
   ·simp only [sx]
    rfl
   refine pure_ (i := 6) (N := some 23) (v := ?_) (a' := ?_) (bm 10 119) rfl rfl (any_of HT_.out kr) qi (Or.inl ⟨by rfl, ?_⟩) ?_ ?_
   rotate_left
   ·intro w'
    go_simp
    with_reducible rfl
   rotate_left
   ·simp only [sx]
    rfl
   refine take_ (i := 3) (N := some 20) (v := ?_) (a' := ?_) (bm 10 127) rfl rfl (take_ofW HT_.out HW_.out kr) qi (Or.inl ⟨by rfl, ?_⟩) hHeld ?_ ?_
   rotate_left
   ·rintro w' ⟨s0, s1, s2, s3, s4, s5, s6, s7, s8, s9, s10, s11, s12, s13, s14, s15, s16, s17, s18, s19, s20, s21, s22, s23⟩
    go_simp
    with_reducible rfl
   rotate_left
   ·simp only [sx]
    rfl
   refine take_ (i := 7) (N := some 24) (v := ?_) (a' := ?_) (bm 10 255) rfl rfl (take_ofW HT_.out HW_.out kr) qi (Or.inl ⟨by rfl, ?_⟩) hHeld ?_ ?_
   rotate_left
   ·rintro w' ⟨s0, s1, s2, s3, s4, s5, s6, s7, s8, s9, s10, s11, s12, s13, s14, s15, s16, s17, s18, s19, s20, s21, s22, s23⟩
    go_simp
    with_reducible rfl
   rotate_left
   ·simp only [sx]
    rfl
   refine one_ (i := 8) (N := some 25) (bm 10 511) rfl rfl (one_of HT_.out kr) (by decide) (fun K hK => ?_)
   refine goes_ Try.func44 kr rfl #[.agg #[.int .i64 ((rd_T47 l0 x5_1).f0), .int .i64 ((rd_T47 l0 x5_1).f1.f0), .string ((rd_T47 l0 x5_1).f1.f1), .int .i64 ((rd_T47 l0 x5_1).f1.f2), .int .i64 ((rd_T47 l0 x5_1).f1.f3.f0), .slice A406_5 ((rd_T47 l0 x5_1).f1.f3.f1).length c406_5, .slice A406_6 ((rd_T47 l0 x5_1).f1.f3.f2).length c406_6, .slice A406_7 ((rd_T47 l0 x5_1).f1.f4).length c406_7, .slice A406_8 ((rd_T47 l0 x5_1).f1.f5).length c406_8, .slice A406_9 ((rd_T47 l0 x5_1).f2).length c406_9, .slice A406_10 ((rd_T47 l0 x5_1).f3).length c406_10, .slice A406_11 ((rd_T47 l0 x5_1).f4.f0).length c406_11], .agg #[.int .i64 ((rd_T47 l1 x5_1).f0), .int .i64 ((rd_T47 l1 x5_1).f1.f0), .string ((rd_T47 l1 x5_1).f1.f1), .int .i64 ((rd_T47 l1 x5_1).f1.f2), .int .i64 ((rd_T47 l1 x5_1).f1.f3.f0), .slice A407_5 ((rd_T47 l1 x5_1).f1.f3.f1).length c407_5, .slice A407_6 ((rd_T47 l1 x5_1).f1.f3.f2).length c407_6, .slice A407_7 ((rd_T47 l1 x5_1).f1.f4).length c407_7, .slice A407_8 ((rd_T47 l1 x5_1).f1.f5).length c407_8, .slice A407_9 ((rd_T47 l1 x5_1).f2).length c407_9, .slice A407_10 ((rd_T47 l1 x5_1).f3).length c407_10, .slice A407_11 ((rd_T47 l1 x5_1).f4.f0).length c407_11]] (by rfl) rfl rfl mpw ?_
   with_reducible refine (ih_44 k1 (by have := HK1.out; omega) ((rd_T47 l0 x5_1).f0) ((rd_T47 l0 x5_1).f1.f0) ((rd_T47 l0 x5_1).f1.f1) ((rd_T47 l0 x5_1).f1.f2) ((rd_T47 l0 x5_1).f1.f3.f0) _ _ ((rd_T47 l0 x5_1).f1.f3.f1) _ _ ((rd_T47 l0 x5_1).f1.f3.f2) _ _ ((rd_T47 l0 x5_1).f1.f4) _ _ ((rd_T47 l0 x5_1).f1.f5) _ _ ((rd_T47 l0 x5_1).f2) _ _ ((rd_T47 l0 x5_1).f3) _ _ ((rd_T47 l0 x5_1).f4.f0) ((rd_T47 l1 x5_1).f0) ((rd_T47 l1 x5_1).f1.f0) ((rd_T47 l1 x5_1).f1.f1) ((rd_T47 l1 x5_1).f1.f2) ((rd_T47 l1 x5_1).f1.f3.f0) _ _ ((rd_T47 l1 x5_1).f1.f3.f1) _ _ ((rd_T47 l1 x5_1).f1.f3.f2) _ _ ((rd_T47 l1 x5_1).f1.f4) _ _ ((rd_T47 l1 x5_1).f1.f5) _ _ ((rd_T47 l1 x5_1).f2) _ _ ((rd_T47 l1 x5_1).f3) _ _ ((rd_T47 l1 x5_1).f4.f0) t408 _ ?side1 ?side2 ?side3 ?side4 ?side5 ?side6 ?side7 ?side8 ?side9 ?side10 ?side11 ?side12 ?side13 ?side14 ?side15 ?side16 ?side17 ?side18 ?side19 ?side20 ?side21 ?side22 ?side23 ?side24 ?side25 ?side26 ?side27 ?side28 A7.out).mono ?_
   (case side1 => have X_ := HR406_5; exact cbl)
   (case side2 => exact HC406_5.out)
   (case side3 => have X_ := HR406_6; exact cbl)
   (case side4 => exact HC406_6.out)
   (case side5 => have X_ := HR406_7; exact cbl)
   (case side6 => exact HC406_7.out)
   (case side7 => have X_ := HR406_8; exact cbl)
   (case side8 => exact HC406_8.out)
   (case side9 => have X_ := HR406_9; exact cbl)
   (case side10 => exact HC406_9.out)
   (case side11 => have X_ := HR406_10; exact cbl)
   (case side12 => exact HC406_10.out)
   (case side13 => have X_ := HR406_11; exact cbl)
   (case side14 => exact HC406_11.out)
   (case side15 => have X_ := HR407_5; exact cbl)
   (case side16 => exact HC407_5.out)
   (case side17 => have X_ := HR407_6; exact cbl)
   (case side18 => exact HC407_6.out)
   (case side19 => have X_ := HR407_7; exact cbl)
   (case side20 => exact HC407_7.out)
   (case side21 => have X_ := HR407_8; exact cbl)
   (case side22 => exact HC407_8.out)
   (case side23 => have X_ := HR407_9; exact cbl)
   (case side24 => exact HC407_9.out)
   (case side25 => have X_ := HR407_10; exact cbl)
   (case side26 => exact HC407_10.out)
   (case side27 => have X_ := HR407_11; exact cbl)
   (case side28 => exact HC407_11.out)
   rintro e w10 ⟨rfl, hb⟩
   refine ⟨_, rfl, ?_⟩
   have n0_ := am (below_step blw hb)
   clear HB
   revert n0_
   intro HB
   (try clear hb)
   (try clear hb2)
   (try clear hk)
   (try clear hi)
   refine hK.out _ _ ⟨(upw HB.out hw406_0), (upw HB.out hw406_1), (upw HB.out hw406_2), (upw HB.out hw406_3), (upw HB.out hw406_4), (upw HB.out hw406_5), (upw HB.out hw406_6), (upw HB.out hw406_7), (upw HB.out hw406_8), (upw HB.out hw406_9), (upw HB.out hw406_10), (upw HB.out hw406_11), (upw HB.out hw407_0), (upw HB.out hw407_1), (upw HB.out hw407_2), (upw HB.out hw407_3), (upw HB.out hw407_4), (upw HB.out hw407_5), (upw HB.out hw407_6), (upw HB.out hw407_7), (upw HB.out hw407_8), (upw HB.out hw407_9), (upw HB.out hw407_10), (upw HB.out hw407_11)⟩ (fun hHeld => ?_)
   clear hK K
   refine norm_ (a' := ?_) ?_ ?_
   rotate_left
   ·show Act.put _ (some 25) _ = _
    simp only [sx]
    rfl
   refine pure_ (i := 9) (N := some 26) (v := ?_) (a' := ?_) (bm 10 1023) rfl rfl (any_of HT_.out kr) qi (Or.inl ⟨by rfl, ?_⟩) ?_ ?_
   rotate_left
   ·intro w'
    go_simp
    with_reducible rfl
   rotate_left
   ·simp only [sx]
    rfl
   refine done_ (done_of HT_.out kr) ?_
   go_upto_if 26 with (fail)
   have H := HC8.out
   clear HC8
   by_cases c11 : t408 = true
   case neg =>
    replace c11 := Bool.eq_false_iff.mpr c11
    subst c11
    have H1 : (some false) = some r := by rw [if_neg (show ¬ (false = true) by decide)] at H; exact H
    clear H
    have H := H1
    clear H1
    obtain rfl := Option.some.inj H
    go_wp2
    go_ret
    exact ⟨rfw, blw⟩
   subst c11
   have H1 : (laws_eqHeadS.l0 k1 l0 l1 (wrap64 (x5_1 + 1))) = some r := by rw [if_pos rfl] at H; exact H
   clear H
   have H := H1
   clear H1
   have H' := am H
   clear H
   go_wp2
   go_roundg k1
   case measure => have := HK1.out; omega
   case rel => exact ⟨(wrap64 (x5_1 + 1)), rfs, H', ⟨by have := HK1.out; omega⟩, ⟨blw⟩⟩

theorem laws_eqQuery.all (k : Nat) : (laws_eqQuery.T k) ∧ (laws_eqCompS.T k) ∧ (laws_eqComp.T k) ∧ (laws_eqHead.T k) ∧ (laws_eqHeadS.T k) := by
 induction k using Nat.strongRecOn with
 | _ k ih =>
 exact ⟨laws_eqQuery.step k (fun m hm_ => (ih m hm_).1) (fun m hm_ => (ih m hm_).2.1) (fun m hm_ => (ih m hm_).2.2.1) (fun m hm_ => (ih m hm_).2.2.2.1) (fun m hm_ => (ih m hm_).2.2.2.2), laws_eqCompS.step k (fun m hm_ => (ih m hm_).2.1) (fun m hm_ => (ih m hm_).1) (fun m hm_ => (ih m hm_).2.2.1) (fun m hm_ => (ih m hm_).2.2.2.1) (fun m hm_ => (ih m hm_).2.2.2.2), laws_eqComp.step k (fun m hm_ => (ih m hm_).2.2.1) (fun m hm_ => (ih m hm_).1) (fun m hm_ => (ih m hm_).2.1) (fun m hm_ => (ih m hm_).2.2.2.1) (fun m hm_ => (ih m hm_).2.2.2.2), laws_eqHead.step k (fun m hm_ => (ih m hm_).2.2.2.1) (fun m hm_ => (ih m hm_).1) (fun m hm_ => (ih m hm_).2.1) (fun m hm_ => (ih m hm_).2.2.1) (fun m hm_ => (ih m hm_).2.2.2.2), laws_eqHeadS.step k (fun m hm_ => (ih m hm_).2.2.2.2) (fun m hm_ => (ih m hm_).1) (fun m hm_ => (ih m hm_).2.1) (fun m hm_ => (ih m hm_).2.2.1) (fun m hm_ => (ih m hm_).2.2.2.1)⟩

theorem laws_eqQuery.calls (k : Nat) : ∀ (A0_0 : Option Addr) (c0_0 : Nat) (l0_0 : List (S49)) (A1_0 : Option Addr) (c1_0 : Nat) (l1_0 : List (S49)) (r : Bool) (w : World) (hr0_0 : Kd.C k49 w A0_0 l0_0.length l0_0) (hc0_0 : l0_0.length ≤ c0_0) (hr1_0 : Kd.C k49 w A1_0 l1_0.length l1_0) (hc1_0 : l1_0.length ≤ c1_0) (h : laws_eqQuery.f k l0_0 l1_0 = some r),
  Calls Try.prog 10 #[.agg #[.slice A0_0 l0_0.length c0_0], .agg #[.slice A1_0 l1_0.length c1_0]] w fun e w' => e = .returned (.bool r) ∧ Below w.heap.size w w' := (laws_eqQuery.all k).1

end Go.Proofs.Ytpkppeicceehcaa.Px

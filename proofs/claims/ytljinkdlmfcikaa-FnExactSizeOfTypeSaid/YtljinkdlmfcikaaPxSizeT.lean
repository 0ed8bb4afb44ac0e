/- The size of a type and of a value: the program's and the reference's functions come to the number of nodes. No condition beyond the sizes named. -/
import Derived.Test.YtljinkdlmfcikaaPx0
import Derived.Test.YtljinkdlmfcikaaPx4
import Derived.Test.YtljinkdlmfcikaaPxFType
import Derived.Test.YtljinkdlmfcikaaPl
namespace Go.Proofs.Ytljinkdlmfcikaa.Px
open Go.RowKit Go.Proofs.YtljinkdlmfcikaaW.PrintWords Go.Proofs.YtljinkdlmfcikaaW.PrintLast Go.Proofs.Ytljinkdlmfcikaa.Pl
set_option linter.unusedVariables false
set_option linter.unusedSimpArgs false
theorem spec_SizeOfType_ev : ∀ x : S39, SmType x → ndType x ≤ 1048577 → Ev (fun k => spec_SizeOfType.f k x.f0 x.f1 x.f2) (ndType x : Int) := by
  refine indTypeI fun x ih hs hn => ?_
  refine Ev.up ?_
  simp only [spec_SizeOfType.f]
  rw [ndType_eq] at hn ⊢
  refine Ev.eq (fold_loop x.f2.length (fun k i => spec_SizeOfType.f k (rd_T39 x.f2 (i : Int)).f0 (rd_T39 x.f2 (i : Int)).f1 (rd_T39 x.f2 (i : Int)).f2) (fun k s i => spec_SizeOfType.l0 k s (i : Int) x.f0 x.f1 x.f2) (fun s t => wrap64 (s + t)) (fun i => (ndType (x.f2.getD i z39) : Int)) id
    (fun k s i hi => by simp only [spec_SizeOfType.l0]; rw [if_pos (by omega), if_pos (by omega), w1' hi hs.p2.1])
    (fun k s => by simp only [spec_SizeOfType.l0]; rw [if_neg (by omega)]; rfl)
    (fun i hi => ih (x.f2.getD i z39) (mem_getD x.f2 z39 i hi) (hs.p2.2 _ (mem_getD x.f2 z39 i hi)) (by have := sum_le_of_mem ndType (mem_getD x.f2 z39 i hi); omega)) x.f2.length 0 1 (by omega)) ?_
  rw [foldl_range (fun (s : Int) y => wrap64 (s + (ndType y : Int))) z39 x.f2 1]
  exact fold_wrap ndType x.f2 1 (by omega)
theorem impl_SizeOfType_ev : ∀ x : S39, SmType x → ndType x ≤ 1048577 → Ev (fun k => impl_SizeOfType.f k x.f0 x.f1 x.f2) (ndType x : Int) := by
  refine indTypeI fun x ih hs hn => ?_
  refine Ev.up ?_
  simp only [impl_SizeOfType.f]
  rw [ndType_eq] at hn ⊢
  refine Ev.eq (fold_loop x.f2.length (fun k i => impl_SizeOfType.f k (rd_T39 x.f2 (i : Int)).f0 (rd_T39 x.f2 (i : Int)).f1 (rd_T39 x.f2 (i : Int)).f2) (fun k s i => impl_SizeOfType.l0 k s x.f2 (x.f2.length : Int) (i : Int)) (fun s t => wrap64 (s + t)) (fun i => (ndType (x.f2.getD i z39) : Int)) id
    (fun k s i hi => by simp only [impl_SizeOfType.l0]; rw [if_pos (by omega), if_pos (by omega), if_pos (by omega), w1' hi hs.p2.1])
    (fun k s => by simp only [impl_SizeOfType.l0]; rw [if_neg (by omega)]; rfl)
    (fun i hi => ih (x.f2.getD i z39) (mem_getD x.f2 z39 i hi) (hs.p2.2 _ (mem_getD x.f2 z39 i hi)) (by have := sum_le_of_mem ndType (mem_getD x.f2 z39 i hi); omega)) x.f2.length 0 1 (by omega)) ?_
  rw [foldl_range (fun (s : Int) y => wrap64 (s + (ndType y : Int))) z39 x.f2 1]
  exact fold_wrap ndType x.f2 1 (by omega)
theorem SizeOfType_same (x : S39) (hs : SmType x) (hn : ndType x ≤ 1048577) : ∃ r, Ev (fun k => spec_SizeOfType.f k x.f0 x.f1 x.f2) r ∧ Ev (fun k => impl_SizeOfType.f k x.f0 x.f1 x.f2) r := ⟨_, spec_SizeOfType_ev x hs hn, impl_SizeOfType_ev x hs hn⟩

end Go.Proofs.Ytljinkdlmfcikaa.Px

/- The size of a value: the program's and the reference's functions come to the number of nodes. No condition beyond the sizes named. -/
import Derived.Test.YtljinkdlmfcikaaPx0
import Derived.Test.YtljinkdlmfcikaaPx6
import Derived.Test.YtljinkdlmfcikaaPx7
import Derived.Test.YtljinkdlmfcikaaPxFValue
import Derived.Test.YtljinkdlmfcikaaPl
namespace Go.Proofs.Ytljinkdlmfcikaa.Px
open Go.RowKit Go.Proofs.YtljinkdlmfcikaaW.PrintWords Go.Proofs.YtljinkdlmfcikaaW.PrintLast Go.Proofs.Ytljinkdlmfcikaa.Pl
set_option linter.unusedVariables false
set_option linter.unusedSimpArgs false
theorem spec_SizeOfValue_ev : ∀ x : S50, SmValue x → ndValue x ≤ 1048577 → Ev (fun k => spec_SizeOfValue.f k x.f0 x.f1 x.f2 x.f3) (ndValue x : Int) := by
  refine indValueI fun x ih hs hn => ?_
  refine Ev.up ?_
  simp only [spec_SizeOfValue.f]
  rw [ndValue_eq] at hn ⊢
  refine Ev.eq (fold_loop x.f3.length (fun k i => spec_SizeOfValue.f k (rd_T50 x.f3 (i : Int)).f0 (rd_T50 x.f3 (i : Int)).f1 (rd_T50 x.f3 (i : Int)).f2 (rd_T50 x.f3 (i : Int)).f3) (fun k s i => spec_SizeOfValue.l0 k s (i : Int) x.f0 x.f1 x.f2 x.f3) (fun s t => wrap64 (s + t)) (fun i => (ndValue (x.f3.getD i z50) : Int)) id
    (fun k s i hi => by simp only [spec_SizeOfValue.l0]; rw [if_pos (by omega), if_pos (by omega), w1' hi hs.p3.1])
    (fun k s => by simp only [spec_SizeOfValue.l0]; rw [if_neg (by omega)]; rfl)
    (fun i hi => ih (x.f3.getD i z50) (mem_getD x.f3 z50 i hi) (hs.p3.2 _ (mem_getD x.f3 z50 i hi)) (by have := sum_le_of_mem ndValue (mem_getD x.f3 z50 i hi); omega)) x.f3.length 0 1 (by omega)) ?_
  rw [foldl_range (fun (s : Int) y => wrap64 (s + (ndValue y : Int))) z50 x.f3 1]
  exact fold_wrap ndValue x.f3 1 (by omega)
theorem impl_SizeOfValue_ev : ∀ x : S50, SmValue x → ndValue x ≤ 1048577 → Ev (fun k => impl_SizeOfValue.f k x.f0 x.f1 x.f2 x.f3) (ndValue x : Int) := by
  refine indValueI fun x ih hs hn => ?_
  refine Ev.up ?_
  simp only [impl_SizeOfValue.f]
  rw [ndValue_eq] at hn ⊢
  refine Ev.eq (fold_loop x.f3.length (fun k i => impl_SizeOfValue.f k (rd_T50 x.f3 (i : Int)).f0 (rd_T50 x.f3 (i : Int)).f1 (rd_T50 x.f3 (i : Int)).f2 (rd_T50 x.f3 (i : Int)).f3) (fun k s i => impl_SizeOfValue.l0 k s (x.f3.length : Int) (i : Int) x.f0 x.f1 x.f2 x.f3) (fun s t => wrap64 (s + t)) (fun i => (ndValue (x.f3.getD i z50) : Int)) id
    (fun k s i hi => by simp only [impl_SizeOfValue.l0]; rw [if_pos (by omega), if_pos (by omega), if_pos (by omega), w1' hi hs.p3.1])
    (fun k s => by simp only [impl_SizeOfValue.l0]; rw [if_neg (by omega)]; rfl)
    (fun i hi => ih (x.f3.getD i z50) (mem_getD x.f3 z50 i hi) (hs.p3.2 _ (mem_getD x.f3 z50 i hi)) (by have := sum_le_of_mem ndValue (mem_getD x.f3 z50 i hi); omega)) x.f3.length 0 1 (by omega)) ?_
  rw [foldl_range (fun (s : Int) y => wrap64 (s + (ndValue y : Int))) z50 x.f3 1]
  exact fold_wrap ndValue x.f3 1 (by omega)
theorem SizeOfValue_same (x : S50) (hs : SmValue x) (hn : ndValue x ≤ 1048577) : ∃ r, Ev (fun k => spec_SizeOfValue.f k x.f0 x.f1 x.f2 x.f3) r ∧ Ev (fun k => impl_SizeOfValue.f k x.f0 x.f1 x.f2 x.f3) r := ⟨_, spec_SizeOfValue_ev x hs hn, impl_SizeOfValue_ev x hs hn⟩

end Go.Proofs.Ytljinkdlmfcikaa.Px

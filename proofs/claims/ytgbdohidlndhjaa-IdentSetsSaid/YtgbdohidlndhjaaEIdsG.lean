/- Proved: slices.SortFunc at ids, by ident.order: core's mergeSort. No condition. -/
import Derived.Shelf.SlSortCmp.WholeK
import Derived.Sort.LotA
import Derived.Ground.SlsfProg
import Derived.Shelf.Lay
import Derived.Test.YtgbdohidlndhjaaEIdsE
namespace Go.Proofs
open Go.Shelf
shelf_lay_g SlLaysF0.n6 Slsf 6 at Try 37 as Try.sortId
end Go.Proofs
namespace Go.Proofs.Ytgbdohidlndhjaa.XIs
open Go.Lib Go.Sort Go.RowKit
set_option linter.unusedVariables false
theorem sort_calls (blk cap : Nat) (l : List S23) (w : World) (hH : HoldsK encI 2 w blk 0 l.toArray) (hblk : blk < w.heap.size) (hsz : l.length < 4611686018427387904) :
    Calls Try.prog 37 #[.slice (some ⟨blk, 0, none⟩) l.length cap, .func (.func 35) #[] #[]] w fun e w' => e = .returned (.tuple #[]) ∧ ∃ n os, w' = sortWorldK encI 2 w blk 0 n (l.mergeSort leI).toArray os := by
  have eg : ∀ args w, (callFunc 35 args).run Try.prog w = .ok (.enter 35 args) w := enters_of Try.func35 (by kernel_rfl) rfl
  have hc : CmpLays Try.prog 35 #[] encI 2 ordI blk 0 l.toArray.size w := fun m os dk _ x y => order_grow x y _
  have h := AnyQ.slices_SortFunc Try.sortId 2 Try.isAgg23 Try.sizeOf23 encI (fun _ => rfl) (fun x v hv => by simp [encI] at hv; rcases hv with rfl | rfl <;> rfl) ordI swoI 35 #[] blk 0 cap l.toArray w eg hc hH hblk (by simpa using hsz)
  rw [show l.toArray.size = l.length from List.size_toArray] at h
  change Calls Try.prog 37 _ _ _ at h
  refine h.mono ?_
  rintro e w' ⟨he, d', n, os, hp, hs, hw⟩
  refine ⟨he, n, os, ?_⟩
  have e := sorted_unique_holds swoI totI l.toArray d' (by rw [show l.toArray.size = l.length from List.size_toArray]; exact hp) (by rw [show l.toArray.size = l.length from List.size_toArray]; exact hs)
  rw [hw, show l.mergeSort leI = d'.toList from e.symm]
end Go.Proofs.Ytgbdohidlndhjaa.XIs

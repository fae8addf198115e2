/- Proved: what must come at any rate of the layer of ids comes. No condition. -/
import Derived.Test.YtgbdohidlndhjaaXIsx0
import Derived.Test.YtgbdohidlndhjaaXIsx2
import Derived.Test.YtgbdohidlndhjaaXIsx3
import Derived.Test.YtgbdohidlndhjaaXIsx4
import Derived.KernelRfl
namespace Go.Proofs.Ytgbdohidlndhjaa.IsCore
set_option linter.unusedVariables false
set_option linter.unusedSimpArgs false
open Go.RowKit Go.Lib Go.Proofs.Ytgbdohidlndhjaa.XIs Go.Proofs.YtgbdohidlndhjaaW.PrintWords Go.Proofs.YtgbdohidlndhjaaW.PrintLast Go.Proofs.YtgbdohidlndhjaaW.PrintMore
open Go.Proofs.Ytgbdohidlndhjaa.EName (okRune rightB setL setB sortB bs unbs)

theorem wrap64_in (z : Int) (h : -9223372036854775808 ≤ z ∧ z ≤ 9223372036854775807) : wrap64 z = z := by unfold wrap64; omega
theorem wrap_nat (i : Nat) (h : i < 9223372036854775807) : wrap64 ((i : Int) + 1) = ((i + 1 : Nat) : Int) := by
  unfold wrap64
  omega
theorem rdT (l : List S23) (i : Nat) (h : i < l.length) : rd_T23 l (i : Int) = l[i] := by
  unfold rd_T23
  rw [Int.toNat_natCast, List.getD_eq_getElem?_getD, List.getElem?_eq_getElem h]
  rfl
theorem toList_data (s : ByteArray) : s.toList = s.data.toList := by
  obtain ⟨⟨l⟩⟩ := s
  simp
theorem toList_inj {a b : ByteArray} : a.toList = b.toList ↔ a = b := by
  rw [toList_data, toList_data]
  refine ⟨fun h => ?_, fun h => by rw [h]⟩
  obtain ⟨⟨x⟩⟩ := a
  obtain ⟨⟨y⟩⟩ := b
  simp only at h
  rw [h]
theorem sort_a : sortB [[97]] = [[97]] := by simp [sortB, List.mergeSort]
theorem set_a : setL [⟨#[97]⟩] = [⟨#[97]⟩] := by
  unfold setL setB
  rw [show ([⟨#[97]⟩] : List ByteArray).map bs = [[97]] from rfl, sort_a]
  decide +kernel
theorem awake_true : rafterlaw11_awake.f 30 = some true := by
  have h1 : ident_Parse.f 30 (⟨#[97, 35, 50]⟩ : ByteArray) = some ((⟨#[97]⟩ : ByteArray), 2, 0) := by kernel_rfl
  have h2 : ident_Row.f 30 (⟨#[97]⟩ : ByteArray) 1 2 = some [⟨⟨#[97]⟩, 1⟩, ⟨⟨#[97]⟩, 2⟩] := by kernel_rfl
  have h3 : ident_Text.f 30 (⟨#[97]⟩ : ByteArray) 2 = some (⟨#[97, 35, 50]⟩ : ByteArray) := by kernel_rfl
  have h4 : ident_Has.f 30 [⟨⟨#[97]⟩, 1⟩, ⟨⟨#[97]⟩, 2⟩] (⟨#[97]⟩ : ByteArray) 2 = some true := by kernel_rfl
  have h5 : ident_Less.f 30 (⟨#[97]⟩ : ByteArray) 1 (⟨#[97]⟩ : ByteArray) 2 = some true := by kernel_rfl
  have h6 : ident_Patches.f 30 [⟨⟨#[97]⟩, 2⟩, ⟨⟨#[]⟩, 2⟩] = some [⟨#[97]⟩] := by
    have e : ident_Patches.f 30 [⟨⟨#[97]⟩, 2⟩, ⟨⟨#[]⟩, 2⟩] = (name_Set.f [⟨#[97]⟩]).bind fun t => some t := by kernel_rfl
    rw [e]
    unfold name_Set.f
    rw [set_a]
    rfl
  have e : rafterlaw11_awake.f 30 = (ident_Patches.f 30 [⟨⟨#[97]⟩, 2⟩, ⟨⟨#[]⟩, 2⟩]).bind fun t180 => some ((t180.length : Int) == 1) := by
    unfold rafterlaw11_awake.f
    rw [h1, Option.bind_some, h2, Option.bind_some, h3, Option.bind_some]
    simp only [show rd_T23 [⟨⟨#[97]⟩, 1⟩, ⟨⟨#[97]⟩, 2⟩] 1 = (⟨⟨#[97]⟩, 2⟩ : S23) from rfl, show rd_T23 [⟨⟨#[97]⟩, 1⟩, ⟨⟨#[97]⟩, 2⟩] 0 = (⟨⟨#[97]⟩, 1⟩ : S23) from rfl]
    rw [h4, h5]
    kernel_rfl
  rw [e, h6]
  rfl
theorem awake_ev : Ev (fun k => rafterlaw11_awake.f k) true := Ev.of rafterlaw11_awake.mono awake_true
end Go.Proofs.Ytgbdohidlndhjaa.IsCore

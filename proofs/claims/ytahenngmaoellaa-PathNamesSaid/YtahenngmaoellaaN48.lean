/- Two slices of bytes compared, by the program and by the reference. No condition. -/
import Derived.Test.YtahenngmaoellaaN26
import Derived.Laws.BytesArg
import Derived.BigQuiet
import Derived.Deep.QuietTactic
import Derived.Test.YtahenngmaoellaaN30
import Derived.Test.YtahenngmaoellaaN03
import Derived.OpenShut
import Derived.Deep.Fields
set_option linter.all false
set_option maxRecDepth 100000
set_option maxHeartbeats 8000000
namespace Go.Proofs.Ytahenngmaoellaa
open Go.ChangeShapes Go.WideShapes Go.ChangeAt Go.RowKit Go.Joins Go.Shelf Go.Maps
attribute [local go_sem] Oper.semAt_some
theorem strOfNums_inj {xs ys : List Int} (hx : ∀ z ∈ xs, 0 ≤ z ∧ z ≤ 255) (hy : ∀ z ∈ ys, 0 ≤ z ∧ z ≤ 255) : strOfNums xs = strOfNums ys ↔ xs = ys := by
  refine ⟨fun h => ?_, fun h => by rw [h]⟩
  have h1 : (xs.map fun n => UInt8.ofNat n.toNat) = ys.map fun n => UInt8.ofNat n.toNat := by rw [← strOfNums_data, ← strOfNums_data, h]
  clear h
  induction xs generalizing ys with
  | nil => cases ys with
    | nil => rfl
    | cons y ys => simp at h1
  | cons x xs ih => cases ys with
    | nil => simp at h1
    | cons y ys =>
      simp only [List.map_cons, List.cons.injEq] at h1
      have e := ih (fun z hz => hx z (.tail _ hz)) (fun z hz => hy z (.tail _ hz)) h1.2
      have b1 := hx x (.head _)
      have b2 := hy y (.head _)
      have e2 := congrArg UInt8.toNat h1.1
      simp only [UInt8.toNat_ofNat'] at e2
      rw [e, show x = y by omega]
theorem str_beq {s t : ByteArray} : s = t ↔ (s.toList == t.toList) = true := by
  rw [beq_iff_eq, ByteArray.toList_eq, ByteArray.toList_eq]
  exact ⟨fun h => by rw [h], fun h => bytes_inj h⟩
theorem conv_hold {w : World} {v : Value} {zs : List Int} (h : Hold w v zs) : (convert 24 9 v).run Try.prog w = .ok (.string (strOfNums zs)) w := by
  have hs : Try.prog.underlying 24 = some (.slice 5) := by kernel_rfl
  have he : Try.prog.underlying 5 = some (.int .u8) := by kernel_rfl
  have hd : Try.prog.underlying 9 = some .string := by kernel_rfl
  rcases h.2 with ⟨rfl, rfl⟩ | ⟨ad, cap, rfl, h1, h2, h3⟩
  · exact run_convert_bytes_nil w _ _ hs he _ _ _ hd
  · rcases h3 with rfl | ⟨b, off, rfl, h4, h5⟩
    · rw [run_convert_bytes_string w _ _ _ _ _ _ hs he hd, run_bytesToString w ad _ cap [] (by simp [loadCells, loadCellsFrom, Sem.run_pure])]
      rfl
    · exact run_convert_bytes_arg w _ _ hs he b off zs.length cap zs rfl h5 _ hd
theorem same_ok (xs ys : List Int) (u v : Value) (w : World) (hu : Hold w u xs) (hv : Hold w v ys) :
    Calls Try.prog 10 #[u, v] w fun e w' => e = .returned (.bool (decide (xs = ys))) ∧ w' = w := by
  have h1 := conv_hold hu
  have h2 := conv_hold hv
  have e : decide (xs = ys) = ((strOfNums xs).toList == (strOfNums ys).toList) := by
    rw [Bool.eq_iff_iff, decide_eq_true_eq, ← strOfNums_inj hu.1 hv.1]; exact str_beq
  rw [e]
  clear hu hv e
  generalize strOfNums xs = s at *
  generalize strOfNums ys = t at *
  go_enter Try.func10, Try.ntmps10
  go_wp2
  go_ret
  exact ⟨rfl, rfl⟩
end Go.Proofs.Ytahenngmaoellaa
namespace Go.Proofs.Ytahenngmaoellaa
open Go.ChangeShapes Go.WideShapes Go.ChangeAt Go.RowKit Go.Joins Go.Shelf Go.Maps Go.Deep
/-- A tree's bytes in memory. -/
structure TreeH (w : World) (t : TreeV) (kz z1 z2 : List Int) : Prop where
 k : Hold w (.slice t.ka t.kl t.kc) kz
 s : Hold w (.slice t.sa t.sl t.sc) z1
 p : Hold w (.slice t.pa t.pl t.pc) z2
end Go.Proofs.Ytahenngmaoellaa

/- PathPacks, where what it reads is of bulk at most 1048576: for every tree, path and bytes the law returns true. No condition. -/
import Derived.Test.YtkmgkeodmkfnpaaPackN
import Derived.Deep.CondSized
import Derived.JoinedCond
namespace Go.Proofs.Ytkmgkeodmkfnpaa
open Go.ChangeShapes Go.WideShapes Go.ChangeAt Go.RowKit Go.Joins Go.Shelf Go.Maps

set_option maxRecDepth 100000 in
theorem bytes_cap {H : Type} {enc : TypeId × Value → H} {w : World} {base b0 : Nat} {r : Reach} {held : Bool} {v : Value} {d : DataW H} {ps : List MemPlace}
    (hv : Value.okWide Try.prog w r b0 24 v) (h : DataW.Trod enc Try.prog w base (fun _ => true) held 24 v d ps) (hlt : ∀ p ∈ ps, p.block < w.heap.size) :
    ∀ a n c, v = .slice a n c → n ≤ c := by
  obtain ⟨fuel, hf⟩ := h
  obtain ⟨a, len, cap, zs, e, hB⟩ := byteSl_open Try.underlying24 Try.underlying5 cells_u8 hf hlt
  obtain ⟨o, n, c, rfl⟩ := okWide_slice Try.underlying24 hv
  simp only [Value.cells, List.cons.injEq, and_true, Value.slice.injEq] at e
  obtain ⟨rfl, rfl, rfl⟩ := e
  intro a' n' c' e'
  simp only [Value.slice.injEq] at e'
  obtain ⟨rfl, rfl, rfl⟩ := e'
  exact hB.1

set_option maxRecDepth 100000 in
theorem pathPacks_call {H : Type} (enc : TypeId × Value → H) (W : World) (base : Nat) (args : Array Value) (ds : List (DataW H)) (p : List MemPlace)
    (hval : ∀ (j : Nat) t v, Try.f5.params[j]? = some t → args[j]? = some v → Value.okWide Try.prog W .any base t v)
    (hA : DataW.TrodAll enc Try.prog W 0 (fun _ => true) true Try.f5.params.toList args.toList ds p) (hlt : ∀ x ∈ p, x.block < W.heap.size)
    (_ : (DataW.weightsEach Try.prog Try.f5.params.toList ds).all (· ≤ reachBytes) = true) (hk : Rows.uptoSmall H ds = true) :
    Calls Try.prog 5 args W (Trues W) := by
  rw [Try.params5] at hA hval
  obtain ⟨v0, v1, v2, d0, d1, d2, p0, p1, p2, rfl, rfl, rfl, h0, h1, h2⟩ := trodAll_three hA
  have hb : Rows.uptoBulk d0 + (Rows.uptoBulk d1 + (Rows.uptoBulk d2 + 0)) ≤ 1048576 := of_decide_eq_true hk
  obtain ⟨t, kt, st, zt, rfl, ht⟩ := open_tree (hval 0 26 v0 rfl rfl) h0 (fun x hx => hlt x (by simp [hx]))
  obtain ⟨total, leaf, u, ss, rfl, b1, b2, hs, ho⟩ := open_path (hval 1 58 v1 rfl rfl) h1 (fun x hx => hlt x (by simp [hx]))
  obtain ⟨zs, hv, hz, hm⟩ := open_bytes (hval 2 24 v2 rfl rfl) h2 (fun x hx => hlt x (by simp [hx]))
  have hcap := bytes_cap (hval 2 24 v2 rfl rfl) h2 (fun x hx => hlt x (by simp [hx]))
  have ho' : StepsOk 1048576 ss := ⟨Nat.le_trans ho.1 (by omega), fun s hs => ⟨(ho.2 s hs).1.mono (by omega), (ho.2 s hs).2.mono (by omega)⟩⟩
  exact pathPacks_walk t ht.l total leaf b1 b2 u ss v2 zs hz (by omega) hcap W hs ho' hv (Lib.hid fun w h => refUnpack_any t ht.l zs v2 hz (by omega) w h)

set_option maxRecDepth 100000 in
theorem pathPacks_lifted (os : Os) (started : os.Started) (H : Type) (enc : TypeId × Value → H) (F0 : Stop.Interp) :
    ReturnsInHanded {} Try.checked os 5 .any ((Rows.OpenSpec.upto Rows.pathPacksSpec).pre6 enc Try.prog Try.f5 Rows.pathPacksUptoRow.domain false) (((Rows.OpenSpec.upto Rows.pathPacksSpec).at F0).post enc Try.prog Try.f5 false true false false) := by
  refine returnsInHanded_of_cond_sized (C := Try.checked) (s := Rows.OpenSpec.upto Rows.pathPacksSpec) (k := Rows.uptoSmall) rfl own started (by kernel_rfl) Try.func5
    (OpenSpec.witness (enc := enc) (C := Try.checked) (s := Rows.OpenSpec.upto Rows.pathPacksSpec) (k := Rows.uptoSmall) rfl false ⟨#[], #[.agg #[.int .i64 0, .int .i64 0, .int .i64 0, .int .i64 0, .int .u32 0, .int .i64 0, .slice none 0 0, .slice none 0 0, .slice none 0 0], .agg #[.int .u64 0, .int .u64 0, .slice none 0 0], .slice none 0 0], []⟩ 40 (by kernel_rfl) (by kernel_rfl) (by kernel_rfl)
      (x := ([.agg [.lit (.int .i64 0), .lit (.int .i64 0), .lit (.int .i64 0), .lit (.int .i64 0), .lit (.int .u32 0), .lit (.int .i64 0), .nil, .nil, .nil], .agg [.lit (.int .u64 0), .lit (.int .u64 0), .nil], .nil], [], [])) (by kernel_rfl) (by kernel_rfl) (by kernel_rfl)) ?_
  intro W base args ds gs before hval0 hW hcnd hk hz _
  have hW' := hW
  obtain ⟨p, q, hA0, hV, rfl, hfz, hnd⟩ := hW
  have hA : DataW.TrodAll enc Try.prog W 0 (fun _ => true) true Try.f5.params.toList args.toList ds p := hA0
  obtain ⟨rfl, rfl⟩ := trodVars_none hV
  have hz' : (DataW.weightsEach Try.prog Try.f5.params.toList ds).all (· ≤ reachBytes) = true := by
    have e1 : Try.f5.params.toList ++ (Rows.OpenSpec.upto Rows.pathPacksSpec).bare.plain.varTypes Try.prog = Try.f5.params.toList := List.append_nil _
    rw [← e1, ← List.append_nil ds]
    exact hz
  have hk' : Rows.uptoSmall H ds = true := by rw [← List.append_nil ds]; exact hk
  refine (pathPacks_call enc W base args ds p hval0 hA (fun x hx => hW'.lt x (by simpa using hx)) hz' hk').mono fun e W' h => ⟨_, h.1, ?_⟩
  refine post_of_trues (s := (Rows.OpenSpec.upto Rows.pathPacksSpec).at F0) laidOut _ rfl Try.underlying4 (by decide +kernel) rfl hW' ?_ h.2
  have hA' := hA
  rw [Try.params5] at hA'
  obtain ⟨v0, v1, v2, d0, d1, d2, p0, p1, p2, rfl, rfl, _⟩ := trodAll_three hA'
  rfl

theorem pathPacks_holds : Rows.PathPacksUptoSaid :=
  OpenClaim.holds_of_cond 5 Try.f5 rfl rfl rfl rfl rfl rfl rfl ⟨rfl, rfl, rfl, rfl, rfl⟩ rfl rfl rfl rfl rfl (by kernel_rfl) Try.func5 (by kernel_rfl)
    (of_decide_eq_true (by kernel_rfl)) (by unfold Func.isWrapper; first | (rw [if_pos (by decide +kernel)]; kernel_rfl) | (rw [if_neg (by decide +kernel)]; exact ⟨rfl, rfl⟩))
    (fun os started H enc _ F0 => by rw [OpenClaim.pre_of_none' rfl]; exact pathPacks_lifted os started H enc F0)
#print axioms pathPacks_holds
end Go.Proofs.Ytkmgkeodmkfnpaa

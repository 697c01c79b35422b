/- The beginning of the rounds, by the program. No condition. -/
import Derived.Test.YtdndeffmlhaipaaGreatDoorS11
import Derived.Laws.CopyOwn
import Derived.Laws.Strings
import Derived.Laws.ResultCell
set_option linter.all false
set_option maxRecDepth 100000
set_option maxHeartbeats 8000000
namespace Go.Proofs.YtdndeffmlhaipaaGreatDoor
open Go.ChangeShapes Go.WideShapes Go.ChangeAt Go.RowKit Go.Joins
open Go.Lib (hid)
attribute [local go_sem] Oper.semAt_some
def IVb:List Int:=[7640891576956012808,13503953896175478587,4354685564936845355,11912009170470909681,5840696475078001361,11170449401992604703,2270897969802886507,6620516959819538809]
def IVs:List Int:=[1779033703,3144134277,1013904242,2773480762,1359893119,2600822924,528734635,1541459225]
theorem Qy {B:Nat}{w:World}(n:Nat):Below B w (w.drewN n):=⟨rfl,rfl,rfl,Nat.le_refl _,fun _ _=>rfl⟩
theorem qf9 (g off j:Nat):(⟨g,off,none⟩:Addr).add j=⟨g,off+j,none⟩:=by unfold Addr.add;split<;>simp_all
theorem Z9 {W:World}{b:Nat}{cs:List Value}{T:TypeId}{fr:Nat×Nat}(h:W.heap[b]? =some (.cells cs.toArray T fr)): ∀j v,cs[j]? =some v→W.cell? ((⟨b,0,none⟩:Addr).add j)=some v:=fun j v hj=>by
 rw[qf9,Nat.zero_add,qk h];simpa using hj
def yM (k:IntKind)(iv:List Int)(h:List Int)(x y:Int)(last node:Bool):List Int:=
 [wd h 0,wd h 1,wd h 2,wd h 3,wd h 4,wd h 5,wd h 6,wd h 7,wd iv 0,wd iv 1,wd iv 2,wd iv 3,bits .xor k (wd iv 4) x,bits .xor k (wd iv 5) y,
  if last then bits .xor k k.max (wd iv 6) else wd iv 6,if node then bits .xor k k.max (wd iv 7) else wd iv 7]
theorem qdL (w:World):Calls Tryz.prog 111 #[] w fun e w'=>e= .returned (.agg #[.int .u64 7640891576956012808,.int .u64 13503953896175478587,.int .u64 4354685564936845355,.int .u64 11912009170470909681,.int .u64 5840696475078001361,.int .u64 11170449401992604703,.int .u64 2270897969802886507,.int .u64 6620516959819538809])∧Below w.heap.size w w':=by
 go_enter Tryz.func111,Tryz.ntmps111
 go_wp2
 exact Bp (results_cell_row rfl _ _ _ _ _ _ _ rfl (Wn _ _) Tryz.underlying150 rfl rfl) rfl ⟨rfl,Br.alloc Nl _⟩
theorem qdK (w:World):Calls Tryz.prog 118 #[] w fun e w'=>e= .returned (.agg #[.int .u32 1779033703,.int .u32 3144134277,.int .u32 1013904242,.int .u32 2773480762,.int .u32 1359893119,.int .u32 2600822924,.int .u32 528734635,.int .u32 1541459225])∧Below w.heap.size w w':=by
 go_enter Tryz.func118,Tryz.ntmps118
 go_wp2
 exact Bp (results_cell_row rfl _ _ _ _ _ _ _ rfl (Wn _ _) Tryz.underlying160 rfl rfl) rfl ⟨rfl,Br.alloc Nl _⟩
theorem qde (h:List Int)(lo hi:Int)(last node:Bool)(w:World):Calls Tryz.prog 138 #[.agg #[.int .u64 (wd h 0),.int .u64 (wd h 1),.int .u64 (wd h 2),.int .u64 (wd h 3),.int .u64 (wd h 4),.int .u64 (wd h 5),.int .u64 (wd h 6),.int .u64 (wd h 7)],.agg #[.int .u64 lo,.int .u64 hi],.bool last,.bool node] w fun e w'=>e= .returned (.agg (qh .u64 (yM .u64 IVb h lo hi last node)))∧Below w.heap.size w w':=by
 obtain⟨b0,hb0⟩:=Ex w.heap.size;go_enter Tryz.func138,Tryz.ntmps138
 go_wp2_with fail
 refine qj ?_;intro W hW;have hh:W.heap[b0]? =some (.cells #[.int .u64 (wd h 0),.int .u64 (wd h 1),.int .u64 (wd h 2),.int .u64 (wd h 3),.int .u64 (wd h 4),.int .u64 (wd h 5),.int .u64 (wd h 6),.int .u64 (wd h 7)] 150 (0,0)):=by
  rw[hW];exact(Bh _ _ _ (by simp;omega)).trans ((Bh _ _ _ (by simp;omega)).trans ((Bh _ _ _ (by simp;omega)).trans (qc _ _ hb0.symm)))
 have hc:W.heap[b0+1]? =some (.cells #[.int .u64 lo,.int .u64 hi] 157 (0,0)):=by
  rw[hW];exact(Bh _ _ _ (by simp;omega)).trans ((Bh _ _ _ (by simp;omega)).trans (qc _ _ (by simp;omega)))
 have hr:W.heap[b0+1+1]? =some (.cells #[.int .u64 0,.int .u64 0,.int .u64 0,.int .u64 0,.int .u64 0,.int .u64 0,.int .u64 0,.int .u64 0,.int .u64 0,.int .u64 0,.int .u64 0,.int .u64 0,.int .u64 0,.int .u64 0,.int .u64 0,.int .u64 0] 181 (0,0)):=by
  rw[hW];exact(Bh _ _ _ (by simp;omega)).trans (qc _ _ (by simp;omega))
 have hv:W.heap[b0+1+1+1]? =some (.cells #[.int .u64 0,.int .u64 0,.int .u64 0,.int .u64 0,.int .u64 0,.int .u64 0,.int .u64 0,.int .u64 0,.int .u64 0,.int .u64 0,.int .u64 0,.int .u64 0,.int .u64 0,.int .u64 0,.int .u64 0,.int .u64 0] 181 (0,0)):=by
  rw[hW];exact qc _ _ (by simp;omega)
 have hB:Below w.heap.size w W:=by
  rw[hW];exact(((Br.alloc Nl _).alloc (by simp) _).alloc (by simp;omega) _).alloc (by simp;omega) _
 have hs:W.heap.size=b0+4:=by rw[hW];simp;omega
 clear hW;refine qi (by dsimp only[List.dropLast]) (by rfl) (by rfl) (by kernel_rfl) (by kernel_rfl) (by kernel_rfl) (by kernel_rfl) ?_;repeat(go_big_quiet_step (fail))
 refine wpQuiet_nil ?_;intro _ hw';obtain⟨n1,rfl⟩:=hw';refine wpList_copy_own rfl _ _ _ _ rfl 54 Tryz.underlying123 rfl (b0+1+1+1) 0 8 16 ⟨b0,0,none⟩ 8 8 rfl rfl #[.int .u64 0,.int .u64 0,.int .u64 0,.int .u64 0,.int .u64 0,.int .u64 0,.int .u64 0,.int .u64 0,.int .u64 0,.int .u64 0,.int .u64 0,.int .u64 0,.int .u64 0,.int .u64 0,.int .u64 0,.int .u64 0] 181 hv [.int .u64 (wd h 0),.int .u64 (wd h 1),.int .u64 (wd h 2),.int .u64 (wd h 3),.int .u64 (wd h 4),.int .u64 (wd h 5),.int .u64 (wd h 6),.int .u64 (wd h 7)] rfl
  (Z9 (W:=W.drewN n1) hh) (by simp) (by simp[Value.oneCell']) ?_
 go_wp2_with fail
 refine(qdL _).mono ?_;rintro e1 w1 ⟨rfl,hb1⟩;have hv1:=(hb1.block (b0+1+1+1) (by simp;omega)).trans (setRow_heap (W.drewN n1) _ _ _ _ _ hv);have hc1:=(hb1.block (b0+1) (by simp;omega)).trans ((setRow_other (W.drewN n1) _ _ _ (by omega)).trans hc);have hr1:=(hb1.block (b0+1+1) (by simp;omega)).trans ((setRow_other (W.drewN n1) _ _ _ (by omega)).trans hr);have hs1:b0+4≤w1.heap.size:=by have:=hb1.size;simp at this;omega
 have hB1:Below w.heap.size w w1:=(below_setRow (hB.trans (Qy n1)) (by omega) _).trans (hb1.mono (by simp;omega));clear hb1 hv hc hr hh hB;go_wp2_with fail
 refine qi (by dsimp only[List.dropLast]) (by rfl) (by rfl) (by kernel_rfl) (by kernel_rfl) (by kernel_rfl) (by kernel_rfl) ?_;repeat(go_big_quiet_step (fail))
 refine wpQuiet_nil ?_;intro _ hw';obtain⟨n2,rfl⟩:=hw';refine wpList_copy_own rfl _ _ _ _ rfl 54 Tryz.underlying123 rfl (b0+1+1+1) 8 8 8 ⟨w1.heap.size,0,none⟩ 8 8 rfl rfl #[.int .u64 (wd h 0),.int .u64 (wd h 1),.int .u64 (wd h 2),.int .u64 (wd h 3),.int .u64 (wd h 4),.int .u64 (wd h 5),.int .u64 (wd h 6),.int .u64 (wd h 7),.int .u64 0,.int .u64 0,.int .u64 0,.int .u64 0,.int .u64 0,.int .u64 0,.int .u64 0,.int .u64 0] 181 ((Bh _ _ _ (by omega)).trans hv1) [.int .u64 7640891576956012808,.int .u64 13503953896175478587,.int .u64 4354685564936845355,.int .u64 11912009170470909681,.int .u64 5840696475078001361,.int .u64 11170449401992604703,.int .u64 2270897969802886507,.int .u64 6620516959819538809] rfl
  (Z9 (W:=(w1.alloc _).drewN n2) (Wn _ _)) (by simp) (by simp[Value.oneCell']) ?_
 go_upto_region 5 with(fail)
 refine qj ?_;intro W4 hW;have hv4:W4.heap[b0+1+1+1]? =some (.cells #[.int .u64 (wd h 0),.int .u64 (wd h 1),.int .u64 (wd h 2),.int .u64 (wd h 3),.int .u64 (wd h 4),.int .u64 (wd h 5),.int .u64 (wd h 6),.int .u64 (wd h 7),.int .u64 7640891576956012808,.int .u64 13503953896175478587,.int .u64 4354685564936845355,.int .u64 11912009170470909681,.int .u64 5840696475078001361,.int .u64 11170449401992604703,.int .u64 2270897969802886507,.int .u64 6620516959819538809] 181 (0,0)):=by
  rw[hW];exact setRow_heap ((w1.alloc _).drewN n2) _ _ _ _ _ ((Bh _ _ _ (by omega)).trans hv1)
 have hc4:W4.heap[b0+1]? =some (.cells #[.int .u64 lo,.int .u64 hi] 157 (0,0)):=by
  rw[hW];exact(setRow_other ((w1.alloc _).drewN n2) _ _ _ (by omega)).trans ((Bh _ _ _ (by omega)).trans hc1)
 have hr4:W4.heap[b0+1+1]? =some (.cells #[.int .u64 0,.int .u64 0,.int .u64 0,.int .u64 0,.int .u64 0,.int .u64 0,.int .u64 0,.int .u64 0,.int .u64 0,.int .u64 0,.int .u64 0,.int .u64 0,.int .u64 0,.int .u64 0,.int .u64 0,.int .u64 0] 181 (0,0)):=by
  rw[hW];exact(setRow_other ((w1.alloc _).drewN n2) _ _ _ (by omega)).trans ((Bh _ _ _ (by omega)).trans hr1)
 have hB4:Below w.heap.size w W4:=by
  rw[hW];exact below_setRow ((hB1.alloc (by omega) _).trans (Qy n2)) (by omega) _
 clear hW hv1 hc1 hr1 hB1;have hs4:b0+4≤W4.heap.size:=by have:=hB4.size;have:=(Ai hv4).1;omega
 obtain⟨cv,fv⟩:=qE hv4;obtain⟨cc,fc⟩:=qE hc4;have HV:=hid hv4;have HR:=hid hr4;have HB:=hid hB4;clear hv4 hc4 hr4 hB4;go_upto_region 7 with(fail)
 refine qj ?_;intro W5 hW;have hv5:W5.heap[b0+1+1+1]? =some (.cells #[.int .u64 (wd h 0),.int .u64 (wd h 1),.int .u64 (wd h 2),.int .u64 (wd h 3),.int .u64 (wd h 4),.int .u64 (wd h 5),.int .u64 (wd h 6),.int .u64 (wd h 7),.int .u64 7640891576956012808,.int .u64 13503953896175478587,.int .u64 4354685564936845355,.int .u64 11912009170470909681,.int .u64 (bits .xor .u64 5840696475078001361 lo),.int .u64 (bits .xor .u64 11170449401992604703 hi),.int .u64 2270897969802886507,.int .u64 6620516959819538809] 181 (0,0)):=by
  rw[hW];exact block_setCell (i:=13) (block_setCell (i:=12) HV.out _) _
 have hr5:W5.heap[b0+1+1]? =some (.cells #[.int .u64 0,.int .u64 0,.int .u64 0,.int .u64 0,.int .u64 0,.int .u64 0,.int .u64 0,.int .u64 0,.int .u64 0,.int .u64 0,.int .u64 0,.int .u64 0,.int .u64 0,.int .u64 0,.int .u64 0,.int .u64 0] 181 (0,0)):=by
  rw[hW];exact(Below.heap_setCell _ _ _ _ (by simp)).trans ((Below.heap_setCell _ _ _ _ (by simp)).trans HR.out)
 have hB5:Below w.heap.size w W5:=by
  rw[hW];exact(HB.out.setCell (by simp;omega) _).setCell (by simp;omega) _
 clear hW HV HR HB cv fv cc fc;obtain⟨cv,fv⟩:=qE hv5;have HV:=hid hv5;have HR:=hid hr5;have HB:=hid hB5;clear hv5 hr5 hB5
 cases last<;>cases node
 ·go_upto_region 11 with(fail)
  refine qj ?_;intro W6 hW;have hv6:W6.heap[b0+1+1+1]? =some (.cells #[.int .u64 (wd h 0),.int .u64 (wd h 1),.int .u64 (wd h 2),.int .u64 (wd h 3),.int .u64 (wd h 4),.int .u64 (wd h 5),.int .u64 (wd h 6),.int .u64 (wd h 7),.int .u64 7640891576956012808,.int .u64 13503953896175478587,.int .u64 4354685564936845355,.int .u64 11912009170470909681,.int .u64 (bits .xor .u64 5840696475078001361 lo),.int .u64 (bits .xor .u64 11170449401992604703 hi),.int .u64 2270897969802886507,.int .u64 6620516959819538809] 181 (0,0)):=by
   rw[hW];exact HV.out
  have hr6:W6.heap[b0+1+1]? =some (.cells #[.int .u64 0,.int .u64 0,.int .u64 0,.int .u64 0,.int .u64 0,.int .u64 0,.int .u64 0,.int .u64 0,.int .u64 0,.int .u64 0,.int .u64 0,.int .u64 0,.int .u64 0,.int .u64 0,.int .u64 0,.int .u64 0] 181 (0,0)):=by
   rw[hW];exact HR.out
  have hB6:Below w.heap.size w W6:=by
   rw[hW];exact HB.out
  clear hW HV HR HB cv fv;apply wp_region_lit
  refine wpList_load_row rfl 181 _ rfl (b0+1+1+1) rfl _ _ _ _ hv6 Tryz.underlying181 rfl (by kernel_rfl) ?_;refine wpList_store_row rfl 181 _ _ rfl (b0+1+1) _ rfl rfl 181 _ hr6 (by kernel_rfl) (by kernel_rfl) (by kernel_rfl) ?_;simp only[Act.put,Ls];go_wp2_with fail
  exact Bp (results_cell_row rfl _ _ _ _ _ _ _ rfl (setRow_heap _ _ _ _ _ _ hr6) Tryz.underlying181 rfl (by kernel_rfl)) rfl ⟨rfl,below_setRow (hB6.mono (by omega)) (by omega) _⟩
 ·go_upto_region 11 with(fail)
  refine qj ?_;intro W6 hW;have hv6:W6.heap[b0+1+1+1]? =some (.cells #[.int .u64 (wd h 0),.int .u64 (wd h 1),.int .u64 (wd h 2),.int .u64 (wd h 3),.int .u64 (wd h 4),.int .u64 (wd h 5),.int .u64 (wd h 6),.int .u64 (wd h 7),.int .u64 7640891576956012808,.int .u64 13503953896175478587,.int .u64 4354685564936845355,.int .u64 11912009170470909681,.int .u64 (bits .xor .u64 5840696475078001361 lo),.int .u64 (bits .xor .u64 11170449401992604703 hi),.int .u64 2270897969802886507,.int .u64 (bits .xor .u64 (IntKind.max .u64) 6620516959819538809)] 181 (0,0)):=by
   rw[hW];exact(block_setCell (i:=15) HV.out _)
  have hr6:W6.heap[b0+1+1]? =some (.cells #[.int .u64 0,.int .u64 0,.int .u64 0,.int .u64 0,.int .u64 0,.int .u64 0,.int .u64 0,.int .u64 0,.int .u64 0,.int .u64 0,.int .u64 0,.int .u64 0,.int .u64 0,.int .u64 0,.int .u64 0,.int .u64 0] 181 (0,0)):=by
   rw[hW];exact((Below.heap_setCell _ _ _ _ (by simp)).trans HR.out)
  have hB6:Below w.heap.size w W6:=by
   rw[hW];exact(HB.out.setCell (by simp;omega) _)
  clear hW HV HR HB cv fv;apply wp_region_lit
  refine wpList_load_row rfl 181 _ rfl (b0+1+1+1) rfl _ _ _ _ hv6 Tryz.underlying181 rfl (by kernel_rfl) ?_;refine wpList_store_row rfl 181 _ _ rfl (b0+1+1) _ rfl rfl 181 _ hr6 (by kernel_rfl) (by kernel_rfl) (by kernel_rfl) ?_;simp only[Act.put,Ls];go_wp2_with fail
  exact Bp (results_cell_row rfl _ _ _ _ _ _ _ rfl (setRow_heap _ _ _ _ _ _ hr6) Tryz.underlying181 rfl (by kernel_rfl)) rfl ⟨rfl,below_setRow (hB6.mono (by omega)) (by omega) _⟩
 ·go_upto_region 11 with(fail)
  refine qj ?_;intro W6 hW;have hv6:W6.heap[b0+1+1+1]? =some (.cells #[.int .u64 (wd h 0),.int .u64 (wd h 1),.int .u64 (wd h 2),.int .u64 (wd h 3),.int .u64 (wd h 4),.int .u64 (wd h 5),.int .u64 (wd h 6),.int .u64 (wd h 7),.int .u64 7640891576956012808,.int .u64 13503953896175478587,.int .u64 4354685564936845355,.int .u64 11912009170470909681,.int .u64 (bits .xor .u64 5840696475078001361 lo),.int .u64 (bits .xor .u64 11170449401992604703 hi),.int .u64 (bits .xor .u64 (IntKind.max .u64) 2270897969802886507),.int .u64 6620516959819538809] 181 (0,0)):=by
   rw[hW];exact(block_setCell (i:=14) HV.out _)
  have hr6:W6.heap[b0+1+1]? =some (.cells #[.int .u64 0,.int .u64 0,.int .u64 0,.int .u64 0,.int .u64 0,.int .u64 0,.int .u64 0,.int .u64 0,.int .u64 0,.int .u64 0,.int .u64 0,.int .u64 0,.int .u64 0,.int .u64 0,.int .u64 0,.int .u64 0] 181 (0,0)):=by
   rw[hW];exact((Below.heap_setCell _ _ _ _ (by simp)).trans HR.out)
  have hB6:Below w.heap.size w W6:=by
   rw[hW];exact(HB.out.setCell (by simp;omega) _)
  clear hW HV HR HB cv fv;apply wp_region_lit
  refine wpList_load_row rfl 181 _ rfl (b0+1+1+1) rfl _ _ _ _ hv6 Tryz.underlying181 rfl (by kernel_rfl) ?_;refine wpList_store_row rfl 181 _ _ rfl (b0+1+1) _ rfl rfl 181 _ hr6 (by kernel_rfl) (by kernel_rfl) (by kernel_rfl) ?_;simp only[Act.put,Ls];go_wp2_with fail
  exact Bp (results_cell_row rfl _ _ _ _ _ _ _ rfl (setRow_heap _ _ _ _ _ _ hr6) Tryz.underlying181 rfl (by kernel_rfl)) rfl ⟨rfl,below_setRow (hB6.mono (by omega)) (by omega) _⟩
 ·go_upto_region 11 with(fail)
  refine qj ?_;intro W6 hW;have hv6:W6.heap[b0+1+1+1]? =some (.cells #[.int .u64 (wd h 0),.int .u64 (wd h 1),.int .u64 (wd h 2),.int .u64 (wd h 3),.int .u64 (wd h 4),.int .u64 (wd h 5),.int .u64 (wd h 6),.int .u64 (wd h 7),.int .u64 7640891576956012808,.int .u64 13503953896175478587,.int .u64 4354685564936845355,.int .u64 11912009170470909681,.int .u64 (bits .xor .u64 5840696475078001361 lo),.int .u64 (bits .xor .u64 11170449401992604703 hi),.int .u64 (bits .xor .u64 (IntKind.max .u64) 2270897969802886507),.int .u64 (bits .xor .u64 (IntKind.max .u64) 6620516959819538809)] 181 (0,0)):=by
   rw[hW];exact(block_setCell (i:=15) (block_setCell (i:=14) HV.out _) _)
  have hr6:W6.heap[b0+1+1]? =some (.cells #[.int .u64 0,.int .u64 0,.int .u64 0,.int .u64 0,.int .u64 0,.int .u64 0,.int .u64 0,.int .u64 0,.int .u64 0,.int .u64 0,.int .u64 0,.int .u64 0,.int .u64 0,.int .u64 0,.int .u64 0,.int .u64 0] 181 (0,0)):=by
   rw[hW];exact((Below.heap_setCell _ _ _ _ (by simp)).trans ((Below.heap_setCell _ _ _ _ (by simp)).trans HR.out))
  have hB6:Below w.heap.size w W6:=by
   rw[hW];exact((HB.out.setCell (by simp;omega) _).setCell (by simp;omega) _)
  clear hW HV HR HB cv fv;apply wp_region_lit
  refine wpList_load_row rfl 181 _ rfl (b0+1+1+1) rfl _ _ _ _ hv6 Tryz.underlying181 rfl (by kernel_rfl) ?_;refine wpList_store_row rfl 181 _ _ rfl (b0+1+1) _ rfl rfl 181 _ hr6 (by kernel_rfl) (by kernel_rfl) (by kernel_rfl) ?_;simp only[Act.put,Ls];go_wp2_with fail
  exact Bp (results_cell_row rfl _ _ _ _ _ _ _ rfl (setRow_heap _ _ _ _ _ _ hr6) Tryz.underlying181 rfl (by kernel_rfl)) rfl ⟨rfl,below_setRow (hB6.mono (by omega)) (by omega) _⟩
theorem qcu (h:List Int)(c:Int)(hc0:0≤c)(hc1:c<18446744073709551616)(last node:Bool)(w:World):Calls Tryz.prog 141 #[.agg #[.int .u32 (wd h 0),.int .u32 (wd h 1),.int .u32 (wd h 2),.int .u32 (wd h 3),.int .u32 (wd h 4),.int .u32 (wd h 5),.int .u32 (wd h 6),.int .u32 (wd h 7)],.int .u64 c,.bool last,.bool node] w fun e w'=>e= .returned (.agg (qh .u32 (yM .u32 IVs h (c%4294967296) (c/4294967296) last node)))∧Below w.heap.size w w':=by
 obtain⟨b0,hb0⟩:=Ex w.heap.size;go_enter Tryz.func141,Tryz.ntmps141
 go_wp2_with fail
 refine(qdK _).mono ?_;rintro e1 w1 ⟨rfl,hb1⟩;have hh1:=(hb1.block b0 (by simp;omega)).trans ((Bh _ _ _ (by simp;omega)).trans ((Bh _ _ _ (by simp;omega)).trans (qc _ _ hb0.symm)));have hr1:=(hb1.block (b0+1) (by simp;omega)).trans ((Bh _ _ _ (by simp;omega)).trans (qc _ _ (by simp;omega)));have hv1:=(hb1.block (b0+1+1) (by simp;omega)).trans (qc _ _ (by simp;omega));have hs1:b0+3≤w1.heap.size:=by have:=hb1.size;simp at this;omega
 have hB1:Below w.heap.size w w1:=((((Below.refl w.heap.size w).alloc Nl _).alloc (by simp) _).alloc (by simp;omega) _).trans (hb1.mono (by simp;omega));clear hb1;go_wp2_with fail
 refine qj ?_;intro W hW;have hh:W.heap[b0]? =some (.cells #[.int .u32 (wd h 0),.int .u32 (wd h 1),.int .u32 (wd h 2),.int .u32 (wd h 3),.int .u32 (wd h 4),.int .u32 (wd h 5),.int .u32 (wd h 6),.int .u32 (wd h 7)] 160 (0,0)):=by
  rw[hW];exact(Bh _ _ _ (by omega)).trans hh1
 have hr:W.heap[b0+1]? =some (.cells #[.int .u32 0,.int .u32 0,.int .u32 0,.int .u32 0,.int .u32 0,.int .u32 0,.int .u32 0,.int .u32 0,.int .u32 0,.int .u32 0,.int .u32 0,.int .u32 0,.int .u32 0,.int .u32 0,.int .u32 0,.int .u32 0] 198 (0,0)):=by
  rw[hW];exact(Bh _ _ _ (by omega)).trans hr1
 have hv:W.heap[b0+1+1]? =some (.cells #[.int .u32 0,.int .u32 0,.int .u32 0,.int .u32 0,.int .u32 0,.int .u32 0,.int .u32 0,.int .u32 0,.int .u32 0,.int .u32 0,.int .u32 0,.int .u32 0,.int .u32 0,.int .u32 0,.int .u32 0,.int .u32 0] 198 (0,0)):=by
  rw[hW];exact(Bh _ _ _ (by omega)).trans hv1
 have hi:W.heap[w1.heap.size]? =some (.cells #[.int .u32 1779033703,.int .u32 3144134277,.int .u32 1013904242,.int .u32 2773480762,.int .u32 1359893119,.int .u32 2600822924,.int .u32 528734635,.int .u32 1541459225] 160 (0,0)):=by
  rw[hW];exact Wn _ _
 have hB:Below w.heap.size w W:=by rw[hW];exact hB1.alloc (by omega) _
 have hs:W.heap.size=w1.heap.size+1:=by rw[hW];simp
 clear hW hh1 hr1 hv1 hB1;refine qi (by dsimp only[List.dropLast]) (by rfl) (by rfl) (by kernel_rfl) (by kernel_rfl) (by kernel_rfl) (by kernel_rfl) ?_;repeat(go_big_quiet_step (fail))
 refine wpQuiet_nil ?_;intro _ hw';obtain⟨n1,rfl⟩:=hw';refine wpList_copy_own rfl _ _ _ _ rfl 23 Tryz.underlying196 rfl (b0+1+1) 0 8 16 ⟨b0,0,none⟩ 8 8 rfl rfl #[.int .u32 0,.int .u32 0,.int .u32 0,.int .u32 0,.int .u32 0,.int .u32 0,.int .u32 0,.int .u32 0,.int .u32 0,.int .u32 0,.int .u32 0,.int .u32 0,.int .u32 0,.int .u32 0,.int .u32 0,.int .u32 0] 198 hv [.int .u32 (wd h 0),.int .u32 (wd h 1),.int .u32 (wd h 2),.int .u32 (wd h 3),.int .u32 (wd h 4),.int .u32 (wd h 5),.int .u32 (wd h 6),.int .u32 (wd h 7)] rfl
  (Z9 (W:=W.drewN n1) hh) (by simp) (by simp[Value.oneCell']) ?_
 refine wpList_nil ?_;simp only[Act.put,Ls];go_wp2_with fail
 refine qj ?_;intro W2 hW;have hv2:W2.heap[b0+1+1]? =some (.cells #[.int .u32 (wd h 0),.int .u32 (wd h 1),.int .u32 (wd h 2),.int .u32 (wd h 3),.int .u32 (wd h 4),.int .u32 (wd h 5),.int .u32 (wd h 6),.int .u32 (wd h 7),.int .u32 0,.int .u32 0,.int .u32 0,.int .u32 0,.int .u32 0,.int .u32 0,.int .u32 0,.int .u32 0] 198 (0,0)):=by
  rw[hW];exact setRow_heap (W.drewN n1) _ _ _ _ _ hv
 have hr2:W2.heap[b0+1]? =some (.cells #[.int .u32 0,.int .u32 0,.int .u32 0,.int .u32 0,.int .u32 0,.int .u32 0,.int .u32 0,.int .u32 0,.int .u32 0,.int .u32 0,.int .u32 0,.int .u32 0,.int .u32 0,.int .u32 0,.int .u32 0,.int .u32 0] 198 (0,0)):=by
  rw[hW];exact(setRow_other (W.drewN n1) _ _ _ (by omega)).trans hr
 have hi2:W2.heap[w1.heap.size]? =some (.cells #[.int .u32 1779033703,.int .u32 3144134277,.int .u32 1013904242,.int .u32 2773480762,.int .u32 1359893119,.int .u32 2600822924,.int .u32 528734635,.int .u32 1541459225] 160 (0,0)):=by
  rw[hW];exact(setRow_other (W.drewN n1) _ _ _ (by omega)).trans hi
 have hB2:Below w.heap.size w W2:=by rw[hW];exact below_setRow (hB.trans (Qy n1)) (by omega) _
 clear hW hh hr hv hi hB;refine qi (by dsimp only[List.dropLast]) (by rfl) (by rfl) (by kernel_rfl) (by kernel_rfl) (by kernel_rfl) (by kernel_rfl) ?_;repeat(go_big_quiet_step (fail))
 refine wpQuiet_nil ?_;intro _ hw';obtain⟨n2,rfl⟩:=hw';refine wpList_copy_own rfl _ _ _ _ rfl 23 Tryz.underlying196 rfl (b0+1+1) 8 8 8 ⟨w1.heap.size,0,none⟩ 8 8 rfl rfl #[.int .u32 (wd h 0),.int .u32 (wd h 1),.int .u32 (wd h 2),.int .u32 (wd h 3),.int .u32 (wd h 4),.int .u32 (wd h 5),.int .u32 (wd h 6),.int .u32 (wd h 7),.int .u32 0,.int .u32 0,.int .u32 0,.int .u32 0,.int .u32 0,.int .u32 0,.int .u32 0,.int .u32 0] 198 hv2 [.int .u32 1779033703,.int .u32 3144134277,.int .u32 1013904242,.int .u32 2773480762,.int .u32 1359893119,.int .u32 2600822924,.int .u32 528734635,.int .u32 1541459225] rfl
  (Z9 (W:=W2.drewN n2) hi2) (by simp) (by simp[Value.oneCell']) ?_
 go_upto_region 5 with(fail)
 refine qj ?_;intro W4 hW;have hv4:W4.heap[b0+1+1]? =some (.cells #[.int .u32 (wd h 0),.int .u32 (wd h 1),.int .u32 (wd h 2),.int .u32 (wd h 3),.int .u32 (wd h 4),.int .u32 (wd h 5),.int .u32 (wd h 6),.int .u32 (wd h 7),.int .u32 1779033703,.int .u32 3144134277,.int .u32 1013904242,.int .u32 2773480762,.int .u32 1359893119,.int .u32 2600822924,.int .u32 528734635,.int .u32 1541459225] 198 (0,0)):=by
  rw[hW];exact setRow_heap (W2.drewN n2) _ _ _ _ _ hv2
 have hr4:W4.heap[b0+1]? =some (.cells #[.int .u32 0,.int .u32 0,.int .u32 0,.int .u32 0,.int .u32 0,.int .u32 0,.int .u32 0,.int .u32 0,.int .u32 0,.int .u32 0,.int .u32 0,.int .u32 0,.int .u32 0,.int .u32 0,.int .u32 0,.int .u32 0] 198 (0,0)):=by
  rw[hW];exact(setRow_other (W2.drewN n2) _ _ _ (by omega)).trans hr2
 have hB4:Below w.heap.size w W4:=by rw[hW];exact below_setRow (hB2.trans (Qy n2)) (by omega) _
 clear hW hv2 hr2 hi2 hB2 hs;have hs4:=(Ai hv4).1;obtain⟨cv,fv⟩:=qE hv4;have HV:=hid hv4;have HR:=hid hr4;have HB:=hid hB4;clear hv4 hr4 hB4;go_upto_region 7 with(fail)
 refine qj ?_;intro W5 hW;have hv5:W5.heap[b0+1+1]? =some (.cells #[.int .u32 (wd h 0),.int .u32 (wd h 1),.int .u32 (wd h 2),.int .u32 (wd h 3),.int .u32 (wd h 4),.int .u32 (wd h 5),.int .u32 (wd h 6),.int .u32 (wd h 7),.int .u32 1779033703,.int .u32 3144134277,.int .u32 1013904242,.int .u32 2773480762,.int .u32 (bits .xor .u32 1359893119 (c%4294967296)),.int .u32 (bits .xor .u32 2600822924 (c/4294967296)),.int .u32 528734635,.int .u32 1541459225] 198 (0,0)):=by
  rw[hW];exact block_setCell (i:=13) (block_setCell (i:=12) HV.out _) _
 have hr5:W5.heap[b0+1]? =some (.cells #[.int .u32 0,.int .u32 0,.int .u32 0,.int .u32 0,.int .u32 0,.int .u32 0,.int .u32 0,.int .u32 0,.int .u32 0,.int .u32 0,.int .u32 0,.int .u32 0,.int .u32 0,.int .u32 0,.int .u32 0,.int .u32 0] 198 (0,0)):=by
  rw[hW];exact(Below.heap_setCell _ _ _ _ (by simp)).trans ((Below.heap_setCell _ _ _ _ (by simp)).trans HR.out)
 have hB5:Below w.heap.size w W5:=by
  rw[hW];exact(HB.out.setCell (by simp;omega) _).setCell (by simp;omega) _
 clear hW HV HR HB cv fv;have hs5:=(Ai hv5).1;obtain⟨cv,fv⟩:=qE hv5;have HV:=hid hv5;have HR:=hid hr5;have HB:=hid hB5;clear hv5 hr5 hB5
 cases last<;>cases node
 ·go_upto_region 11 with(fail)
  refine qj ?_;intro W6 hW;have hv6:W6.heap[b0+1+1]? =some (.cells #[.int .u32 (wd h 0),.int .u32 (wd h 1),.int .u32 (wd h 2),.int .u32 (wd h 3),.int .u32 (wd h 4),.int .u32 (wd h 5),.int .u32 (wd h 6),.int .u32 (wd h 7),.int .u32 1779033703,.int .u32 3144134277,.int .u32 1013904242,.int .u32 2773480762,.int .u32 (bits .xor .u32 1359893119 (c%4294967296)),.int .u32 (bits .xor .u32 2600822924 (c/4294967296)),.int .u32 528734635,.int .u32 1541459225] 198 (0,0)):=by
   rw[hW];exact HV.out
  have hr6:W6.heap[b0+1]? =some (.cells #[.int .u32 0,.int .u32 0,.int .u32 0,.int .u32 0,.int .u32 0,.int .u32 0,.int .u32 0,.int .u32 0,.int .u32 0,.int .u32 0,.int .u32 0,.int .u32 0,.int .u32 0,.int .u32 0,.int .u32 0,.int .u32 0] 198 (0,0)):=by
   rw[hW];exact HR.out
  have hB6:Below w.heap.size w W6:=by
   rw[hW];exact HB.out
  clear hW HV HR HB cv fv;apply wp_region_lit
  refine wpList_load_row rfl 198 _ rfl (b0+1+1) rfl _ _ _ _ hv6 Tryz.underlying198 rfl (by kernel_rfl) ?_;refine wpList_store_row rfl 198 _ _ rfl (b0+1) _ rfl rfl 198 _ hr6 (by kernel_rfl) (by kernel_rfl) (by kernel_rfl) ?_;simp only[Act.put,Ls];go_wp2_with fail
  exact Bp (results_cell_row rfl _ _ _ _ _ _ _ rfl (setRow_heap _ _ _ _ _ _ hr6) Tryz.underlying198 rfl (by kernel_rfl)) rfl ⟨rfl,below_setRow (hB6.mono (by omega)) (by omega) _⟩
 ·go_upto_region 11 with(fail)
  refine qj ?_;intro W6 hW;have hv6:W6.heap[b0+1+1]? =some (.cells #[.int .u32 (wd h 0),.int .u32 (wd h 1),.int .u32 (wd h 2),.int .u32 (wd h 3),.int .u32 (wd h 4),.int .u32 (wd h 5),.int .u32 (wd h 6),.int .u32 (wd h 7),.int .u32 1779033703,.int .u32 3144134277,.int .u32 1013904242,.int .u32 2773480762,.int .u32 (bits .xor .u32 1359893119 (c%4294967296)),.int .u32 (bits .xor .u32 2600822924 (c/4294967296)),.int .u32 528734635,.int .u32 (bits .xor .u32 (IntKind.max .u32) 1541459225)] 198 (0,0)):=by
   rw[hW];exact(block_setCell (i:=15) HV.out _)
  have hr6:W6.heap[b0+1]? =some (.cells #[.int .u32 0,.int .u32 0,.int .u32 0,.int .u32 0,.int .u32 0,.int .u32 0,.int .u32 0,.int .u32 0,.int .u32 0,.int .u32 0,.int .u32 0,.int .u32 0,.int .u32 0,.int .u32 0,.int .u32 0,.int .u32 0] 198 (0,0)):=by
   rw[hW];exact((Below.heap_setCell _ _ _ _ (by simp)).trans HR.out)
  have hB6:Below w.heap.size w W6:=by
   rw[hW];exact(HB.out.setCell (by simp;omega) _)
  clear hW HV HR HB cv fv;apply wp_region_lit
  refine wpList_load_row rfl 198 _ rfl (b0+1+1) rfl _ _ _ _ hv6 Tryz.underlying198 rfl (by kernel_rfl) ?_;refine wpList_store_row rfl 198 _ _ rfl (b0+1) _ rfl rfl 198 _ hr6 (by kernel_rfl) (by kernel_rfl) (by kernel_rfl) ?_;simp only[Act.put,Ls];go_wp2_with fail
  exact Bp (results_cell_row rfl _ _ _ _ _ _ _ rfl (setRow_heap _ _ _ _ _ _ hr6) Tryz.underlying198 rfl (by kernel_rfl)) rfl ⟨rfl,below_setRow (hB6.mono (by omega)) (by omega) _⟩
 ·go_upto_region 11 with(fail)
  refine qj ?_;intro W6 hW;have hv6:W6.heap[b0+1+1]? =some (.cells #[.int .u32 (wd h 0),.int .u32 (wd h 1),.int .u32 (wd h 2),.int .u32 (wd h 3),.int .u32 (wd h 4),.int .u32 (wd h 5),.int .u32 (wd h 6),.int .u32 (wd h 7),.int .u32 1779033703,.int .u32 3144134277,.int .u32 1013904242,.int .u32 2773480762,.int .u32 (bits .xor .u32 1359893119 (c%4294967296)),.int .u32 (bits .xor .u32 2600822924 (c/4294967296)),.int .u32 (bits .xor .u32 (IntKind.max .u32) 528734635),.int .u32 1541459225] 198 (0,0)):=by
   rw[hW];exact(block_setCell (i:=14) HV.out _)
  have hr6:W6.heap[b0+1]? =some (.cells #[.int .u32 0,.int .u32 0,.int .u32 0,.int .u32 0,.int .u32 0,.int .u32 0,.int .u32 0,.int .u32 0,.int .u32 0,.int .u32 0,.int .u32 0,.int .u32 0,.int .u32 0,.int .u32 0,.int .u32 0,.int .u32 0] 198 (0,0)):=by
   rw[hW];exact((Below.heap_setCell _ _ _ _ (by simp)).trans HR.out)
  have hB6:Below w.heap.size w W6:=by
   rw[hW];exact(HB.out.setCell (by simp;omega) _)
  clear hW HV HR HB cv fv;apply wp_region_lit
  refine wpList_load_row rfl 198 _ rfl (b0+1+1) rfl _ _ _ _ hv6 Tryz.underlying198 rfl (by kernel_rfl) ?_;refine wpList_store_row rfl 198 _ _ rfl (b0+1) _ rfl rfl 198 _ hr6 (by kernel_rfl) (by kernel_rfl) (by kernel_rfl) ?_;simp only[Act.put,Ls];go_wp2_with fail
  exact Bp (results_cell_row rfl _ _ _ _ _ _ _ rfl (setRow_heap _ _ _ _ _ _ hr6) Tryz.underlying198 rfl (by kernel_rfl)) rfl ⟨rfl,below_setRow (hB6.mono (by omega)) (by omega) _⟩
 ·go_upto_region 11 with(fail)
  refine qj ?_;intro W6 hW;have hv6:W6.heap[b0+1+1]? =some (.cells #[.int .u32 (wd h 0),.int .u32 (wd h 1),.int .u32 (wd h 2),.int .u32 (wd h 3),.int .u32 (wd h 4),.int .u32 (wd h 5),.int .u32 (wd h 6),.int .u32 (wd h 7),.int .u32 1779033703,.int .u32 3144134277,.int .u32 1013904242,.int .u32 2773480762,.int .u32 (bits .xor .u32 1359893119 (c%4294967296)),.int .u32 (bits .xor .u32 2600822924 (c/4294967296)),.int .u32 (bits .xor .u32 (IntKind.max .u32) 528734635),.int .u32 (bits .xor .u32 (IntKind.max .u32) 1541459225)] 198 (0,0)):=by
   rw[hW];exact(block_setCell (i:=15) (block_setCell (i:=14) HV.out _) _)
  have hr6:W6.heap[b0+1]? =some (.cells #[.int .u32 0,.int .u32 0,.int .u32 0,.int .u32 0,.int .u32 0,.int .u32 0,.int .u32 0,.int .u32 0,.int .u32 0,.int .u32 0,.int .u32 0,.int .u32 0,.int .u32 0,.int .u32 0,.int .u32 0,.int .u32 0] 198 (0,0)):=by
   rw[hW];exact((Below.heap_setCell _ _ _ _ (by simp)).trans ((Below.heap_setCell _ _ _ _ (by simp)).trans HR.out))
  have hB6:Below w.heap.size w W6:=by
   rw[hW];exact((HB.out.setCell (by simp;omega) _).setCell (by simp;omega) _)
  clear hW HV HR HB cv fv;apply wp_region_lit
  refine wpList_load_row rfl 198 _ rfl (b0+1+1) rfl _ _ _ _ hv6 Tryz.underlying198 rfl (by kernel_rfl) ?_;refine wpList_store_row rfl 198 _ _ rfl (b0+1) _ rfl rfl 198 _ hr6 (by kernel_rfl) (by kernel_rfl) (by kernel_rfl) ?_;simp only[Act.put,Ls];go_wp2_with fail
  exact Bp (results_cell_row rfl _ _ _ _ _ _ _ rfl (setRow_heap _ _ _ _ _ _ hr6) Tryz.underlying198 rfl (by kernel_rfl)) rfl ⟨rfl,below_setRow (hB6.mono (by omega)) (by omega) _⟩
def yR (k:IntKind)(h v:List Int):Nat→List Int
 | 0=>h
 | i+1=>(yR k h v i).set i (bits .xor k (wd h i) (bits .xor k (wd v i) (wd v (i+8))))
def YW (K:MixK)(iv:List Int)(n:Nat)(h M:List Int)(x y:Int)(last node:Bool):List Int:=
 yR K.k h (K.rounds (yM K.k iv h x y last node) M n) 8
theorem Qx {k:IntKind}{N:Nat}(hm: ∀z,k.wrap z=z%2^N){h v:List Int}(hh:Words N 8 h): ∀i,Words N 8 (yR k h v i)
 | 0=>hh
 | i+1=>Words.set (Qx hm hh i) (qN _ _ _ hm _ _)
theorem YF {k:IntKind}{h v:List Int}: ∀i j,i≤j→wd (yR k h v i) j=wd h j
 | 0,j,_=>rfl
 | i+1,j,hj=>by
  have ih:=YF (k:=k) (h:=h) (v:=v) i j (by omega);simp only[yR];unfold wd at*;rw[Lg,List.getElem?_set,if_neg (by omega),←Lg];exact ih
theorem qd {k:IntKind}{L:List Int}:(qh k L).size=L.length:=by simp[qh]
theorem qv {k:IntKind}{L:List Int}:(qh k L).all (·.oneCell')=true:=by simp[qh,Value.oneCell']
theorem YT {k:IntKind}{N:Nat}(hm: ∀z,k.wrap z=z%2^N){iv h:List Int}(hi:Words N 8 iv)(hh:Words N 8 h)(x y:Int)(last node:Bool):Words N 16 (yM k iv h x y last node):=by
 refine⟨rfl,fun z hz=>?_⟩;simp only[yM,List.mem_cons,List.not_mem_nil,or_false]at hz;have bx:=fun a b=>qN .xor k N hm a b
 rcases hz with rfl|rfl|rfl|rfl|rfl|rfl|rfl|rfl|rfl|rfl|rfl|rfl|rfl|rfl|rfl|rfl
 all_goals first|exact hh.at (by decide)|exact hi.at (by decide)|exact bx _ _|skip
 all_goals split
 all_goals first|exact hi.at (by decide)|exact bx _ _
theorem qaZ:Words 64 8 IVb:=⟨rfl,by decide⟩
theorem jU:Words 32 8 IVs:=⟨rfl,by decide⟩
theorem Y0 {k:IntKind}{N:Nat}{L:List Int}(h:Words N 8 L):qh k L= #[.int k (wd L 0),.int k (wd L 1),.int k (wd L 2),.int k (wd L 3),.int k (wd L 4),.int k (wd L 5),.int k (wd L 6),.int k (wd L 7)]:=by
 obtain⟨hl, -⟩:=h;match L,hl with
 | [a,b,c,d,e,f,g,i],_=>rfl
theorem qgb (h M:List Int)(hh:Words 64 8 h)(hM:Words 64 16 M)(lo hi:Int)(last node:Bool)(w:World):Calls Tryz.prog 114 #[.agg (qh .u64 h),.agg (qh .u64 M),.agg #[.int .u64 lo,.int .u64 hi],.bool last,.bool node] w fun e w'=>e= .returned (.agg (qh .u64 (YW mixBig IVb 12 h M lo hi last node)))∧Below w.heap.size w w':=by
 obtain⟨b0,hb0⟩:=Ex w.heap.size;have HC:=hid (qde h lo hi last node);have hW0:=YT (k:= .u64) (fun z=>IntKind.wrap_u64 z) qaZ hh lo hi last node;unfold YW;rw[show mixBig.k= .u64 from rfl];generalize yM .u64 IVb h lo hi last node=L0 at*;have hh':=hh;rw[Y0 hh];go_enter Tryz.func114,Tryz.ntmps114
 go_wp2_with fail
 refine(HC.out _).mono ?_;rintro e1 w1 ⟨rfl,hb1⟩;have hh1:=(hb1.block b0 (by simp;omega)).trans ((Bh _ _ _ (by simp;omega)).trans ((Bh _ _ _ (by simp;omega)).trans ((Bh _ _ _ (by simp;omega)).trans (qc _ _ hb0.symm))));have hm1:=(hb1.block (b0+1) (by simp;omega)).trans ((Bh _ _ _ (by simp;omega)).trans ((Bh _ _ _ (by simp;omega)).trans (qc _ _ (by simp;omega))));have hr1:=(hb1.block (b0+1+1+1) (by simp;omega)).trans (qc _ _ (by simp;omega));have hs1:b0+4≤w1.heap.size:=by have:=hb1.size;simp at this;omega
 have hB1:Below w.heap.size w w1:=(((((Below.refl w.heap.size w).alloc Nl _).alloc (by simp) _).alloc (by simp;omega) _).alloc (by simp;omega) _).trans (hb1.mono (by simp;omega));clear hb1 HC;go_wp2_with ((with_reducible show wpList _ _ _ (Oper.mk none (Op.store 181 _ _) _ _ _ _::_) _ _);refine wpList_store_row rfl 181 _ _ rfl w1.heap.size (qh .u64 L0) rfl rfl 181 _ (Wn _ _) (by rw[qd,hW0.1];kernel_rfl) (by rw[qd,hW0.1];rfl) qv ?_)
 clear hh;refine qj ?_;intro W hW;obtain⟨bv,hbv⟩:=Ex w1.heap.size;have hh:W.heap[b0]? =some (.cells #[.int .u64 (wd h 0),.int .u64 (wd h 1),.int .u64 (wd h 2),.int .u64 (wd h 3),.int .u64 (wd h 4),.int .u64 (wd h 5),.int .u64 (wd h 6),.int .u64 (wd h 7)] 150 (0,0)):=by
  rw[hW];exact(setRow_other (w1.alloc _) _ _ _ (by omega)).trans ((Bh _ _ _ (by omega)).trans hh1)
 have hm:W.heap[b0+1]? =some (.cells (qh .u64 M) 181 (0,0)):=by
  rw[hW];exact(setRow_other (w1.alloc _) _ _ _ (by omega)).trans ((Bh _ _ _ (by omega)).trans hm1)
 have hr:W.heap[b0+1+1+1]? =some (.cells #[.int .u64 0,.int .u64 0,.int .u64 0,.int .u64 0,.int .u64 0,.int .u64 0,.int .u64 0,.int .u64 0] 150 (0,0)):=by
  rw[hW];exact(setRow_other (w1.alloc _) _ _ _ (by omega)).trans ((Bh _ _ _ (by omega)).trans hr1)
 have hv:W.heap[bv]? =some (.cells (qh .u64 L0) 181 (0,0)):=by
  rw[hW,←hbv];exact setRow_heap _ _ _ _ _ _ (Wn _ _)
 have hB:Below w.heap.size w W:=by
  rw[hW];exact below_setRow (hB1.alloc (by omega) _) (by omega) _
 rw[←Y0 hh']at hh;rw[hbv];have hbb:b0+4≤bv:=by omega
 clear hW hh1 hm1 hr1 hs1 hB1 hbv;have HH:=hid hh;have HM:=hid hm;have HR:=hid hr;have HV:=hid hv;have HB:=hid hB;have hbs:bv<W.heap.size:=(Ai hv).1;clear hh hm hr hv hB;go_loopw [19] (fun i wr=> ∃j:Nat,i= .int .i64 j∧j≤12∧wr.heap[bv]? =some (.cells (qh .u64 (mixBig.rounds L0 M j)) 181 (0,0))∧But bv W wr) (fun i _=>12 - (intOf i).toNat)
 case atStart=>exact⟨0,rfl,Nat.zero_le _,HV.out,But.refl _ _⟩
 case round=>
  obtain⟨j,rfl,hj,hv,hB⟩:=hrel;have hm:=(hB.block (b0+1) (by omega) (by omega)).trans HM.out;have HVr:=hid hv;have HMr:=hid hm;have HBr:=hid hB;clear hv hm hB;by_cases hlt:j<12
  ·go_wp2_with fail
   refine(qcD bv (b0+1) (by omega) (mixBig.rounds L0 M j) M (QG Qs hW0 j) hM j hlt 181 181 _ HVr.out HMr.out).mono ?_;rintro e2 w2 ⟨rfl,hv2,hB2⟩
   have HV2:=hid hv2;have HB2:=hid (HBr.out.trans hB2);clear hv2 hB2;go_wp2
   exact⟨⟨j+1,rfl,by omega,HV2.out,HB2.out⟩,by simp[intOf];omega⟩
  ·obtain rfl:j=12:=by omega
   go_wp2_with fail
   have hV:=QG Qs hW0 (M:=M) 12;obtain⟨V,hVe⟩:=Ex (mixBig.rounds L0 M 12);have HVe:=hid (show Ending.returned (.agg (qh .u64 (yR .u64 h V 8)))= .returned (.agg (qh .u64 (yR .u64 h (mixBig.rounds L0 M 12) 8))) by rw[hVe]);rw[hVe]at hV HVr;clear hVe;have hh3:=(HBr.out.block b0 (by omega) (by omega)).trans HH.out;have hr3:=(HBr.out.block (b0+1+1+1) (by omega) (by omega)).trans HR.out;have hv3:=HVr.out;have hB3:Below w.heap.size w wr:=HB.out.trans (HBr.out.below (by omega) HB.out.size);have HH3:=hid hh3;have HR3:=hid hr3;have HB3:=hid hB3;have hs3:bv<wr.heap.size:=(Ai hv3).1;have HV3:=hid hv3;clear hh3 hr3 hB3 HVr HMr HBr HH HR HM HV HB hv3;generalize wr=w3 at*;go_loopw [25] (fun i w4=> ∃j:Nat,i= .int .i64 j∧j≤8∧w4.heap[b0]? =some (.cells (qh .u64 (yR .u64 h V j)) 150 (0,0))∧But b0 w3 w4) (fun i _=>8 - (intOf i).toNat)
   case atStart=>exact⟨0,rfl,Nat.zero_le _,HH3.out,But.refl _ _⟩
   case round=>
    obtain⟨j,rfl,hj,hh4,hB4⟩:=hrel;have hs4:=hB4.size;have hv4:=(hB4.block bv hs3 (by omega)).trans HV3.out;have q1:bv<wr.heap.size:=by omega
    have q2:b0<wr.heap.size:=by omega
    have HH4:=hid hh4;have HB4:=hid hB4;by_cases hlt:j<8
    ·have c1:wr.cell? ⟨b0,j,none⟩=some (.int .u64 (wd h j)):=by
      rw[qk hh4,qx (Qx (fun z=>IntKind.wrap_u64 z) hh' j) hlt,YF j j Nl]
     have c2:wr.cell? ⟨bv,j,none⟩=some (.int .u64 (wd V j)):=(qk hv4 _).trans (qx hV (by omega));have c3:wr.cell? ⟨bv,j+8,none⟩=some (.int .u64 (wd V (j+8))):=(qk hv4 _).trans (qx hV (by omega));have f1: ∀o,wr.frozen? ⟨b0,o,none⟩=false:=(qE hh4).2;have hj8:IntKind.i64.wrap ((j:Int)+8)=((j+8:Nat):Int):=by rw[IntKind.wrap_i64];omega
     have hlt16:j+8<16:=by omega
     clear hh4 hv4 hB4;go_wp2_with fail
     refine qi (by dsimp only[List.dropLast]) (by rfl) (by rfl) (by kernel_rfl) (by kernel_rfl) (by kernel_rfl) (by kernel_rfl) ?_;repeat(go_big_quiet_step (fail))
     refine wpQuiet_nil ?_;intro _ hw';obtain⟨n1,rfl⟩:=hw';go_wp2_with fail
     exact⟨⟨j+1,rfl,by omega,by rw[yR,←qR];exact block_setCell (w:=wr.drewN n1) HH4.out _,(HB4.out.drewN n1).set _ _⟩,by simp[intOf];omega⟩
    ·obtain rfl:j=8:=by omega
     have hr5:=(hB4.block (b0+1+1+1) (by omega) (by omega)).trans HR3.out;have hF:=Qx (k:= .u64) (fun z=>IntKind.wrap_u64 z) (v:=V) hh' 8;have HB5:=hid (HB3.out.trans (HB4.out.below (by omega) HB3.out.size));clear hh4 hv4 hB4;go_upto_region 12 with(fail)
     apply wp_region_lit
     refine wpList_load_row rfl 150 _ rfl b0 rfl _ _ _ _ HH4.out Tryz.underlying150 rfl (by rw[qd,hF.1];kernel_rfl) ?_;refine wpList_store_row rfl 150 _ _ rfl (b0+1+1+1) (qh .u64 (yR .u64 h V 8)) rfl rfl 150 _ hr5 (by rw[qd,hF.1];kernel_rfl) (by rw[qd,hF.1];rfl) qv ?_;simp only[Act.put,Ls];go_wp2_with fail
     exact Bp (results_cell_row rfl _ _ _ _ _ _ _ rfl (setRow_heap _ _ _ _ _ _ hr5) Tryz.underlying150 rfl (by rw[qd,hF.1];kernel_rfl)) rfl ⟨HVe.out,below_setRow (HB5.out.mono (by omega)) (by omega) _⟩
theorem qew (h V:List Int)(hh':Words 32 8 h)(hV:Words 32 16 V)(w:World):Calls Tryz.prog 143 #[.agg (qh .u32 h),.agg (qh .u32 V)] w fun e w'=>e= .returned (.agg (qh .u32 (yR .u32 h V 8)))∧Below w.heap.size w w':=by
 obtain⟨b0,hb0⟩:=Ex w.heap.size;go_enter Tryz.func143,Tryz.ntmps143
 go_wp2_with fail
 refine qj ?_;intro w3 hW;have hh3:w3.heap[b0]? =some (.cells (qh .u32 h) 160 (0,0)):=by
  rw[hW];exact(Bh _ _ _ (by simp;omega)).trans ((Bh _ _ _ (by simp;omega)).trans (qc _ _ hb0.symm))
 have hv3:w3.heap[b0+1]? =some (.cells (qh .u32 V) 198 (0,0)):=by
  rw[hW];exact(Bh _ _ _ (by simp;omega)).trans (qc _ _ (by simp;omega))
 have hr3:w3.heap[b0+1+1]? =some (.cells #[.int .u32 0,.int .u32 0,.int .u32 0,.int .u32 0,.int .u32 0,.int .u32 0,.int .u32 0,.int .u32 0] 160 (0,0)):=by
  rw[hW];exact qc _ _ (by simp;omega)
 have hB3:Below w.heap.size w w3:=by
  rw[hW];exact(((Below.refl w.heap.size w).alloc Nl _).alloc (by simp) _).alloc (by simp;omega) _
 clear hW;have HH3:=hid hh3;have HV3:=hid hv3;have HR3:=hid hr3;have HB3:=hid hB3;have hs3:b0+1<w3.heap.size:=(Ai hv3).1;have hs3':b0+1+1<w3.heap.size:=(Ai hr3).1;clear hh3 hv3 hr3 hB3;go_loopw [6] (fun i w4=> ∃j:Nat,i= .int .i64 j∧j≤8∧w4.heap[b0]? =some (.cells (qh .u32 (yR .u32 h V j)) 160 (0,0))∧But b0 w3 w4) (fun i _=>8 - (intOf i).toNat)
 case atStart=>exact⟨0,rfl,Nat.zero_le _,HH3.out,But.refl _ _⟩
 case round=>
  obtain⟨j,rfl,hj,hh4,hB4⟩:=hrel;have hs4:=hB4.size;have hv4:=(hB4.block (b0+1) hs3 (by omega)).trans HV3.out;have q1:b0+1<wr.heap.size:=by omega
  have q2:b0<wr.heap.size:=by omega
  have HH4:=hid hh4;have HB4:=hid hB4;by_cases hlt:j<8
  ·have c1:wr.cell? ⟨b0,j,none⟩=some (.int .u32 (wd h j)):=by
    rw[qk hh4,qx (Qx (fun z=>IntKind.wrap_u32 z) hh' j) hlt,YF j j Nl]
   have c2:wr.cell? ⟨b0+1,j,none⟩=some (.int .u32 (wd V j)):=(qk hv4 _).trans (qx hV (by omega));have c3:wr.cell? ⟨b0+1,j+8,none⟩=some (.int .u32 (wd V (j+8))):=(qk hv4 _).trans (qx hV (by omega));have f1: ∀o,wr.frozen? ⟨b0,o,none⟩=false:=(qE hh4).2;have hj8:IntKind.i64.wrap ((j:Int)+8)=((j+8:Nat):Int):=by rw[IntKind.wrap_i64];omega
   have hlt16:j+8<16:=by omega
   clear hh4 hv4 hB4;go_wp2_with fail
   refine qi (by dsimp only[List.dropLast]) (by rfl) (by rfl) (by kernel_rfl) (by kernel_rfl) (by kernel_rfl) (by kernel_rfl) ?_;repeat(go_big_quiet_step (fail))
   refine wpQuiet_nil ?_;intro _ hw';obtain⟨n1,rfl⟩:=hw';go_wp2_with fail
   exact⟨⟨j+1,rfl,by omega,by rw[yR,←qR];exact block_setCell (w:=wr.drewN n1) HH4.out _,(HB4.out.drewN n1).set _ _⟩,by simp[intOf];omega⟩
  ·obtain rfl:j=8:=by omega
   have hr5:=(hB4.block (b0+1+1) (by omega) (by omega)).trans HR3.out;have hF:=Qx (k:= .u32) (fun z=>IntKind.wrap_u32 z) (v:=V) hh' 8;have HB5:=hid (HB3.out.trans (HB4.out.below (by omega) HB3.out.size));clear hh4 hv4 hB4;go_upto_region 6 with(fail)
   apply wp_region_lit
   refine wpList_load_row rfl 160 _ rfl b0 rfl _ _ _ _ HH4.out Tryz.underlying160 rfl (by rw[qd,hF.1];kernel_rfl) ?_;refine wpList_store_row rfl 160 _ _ rfl (b0+1+1) (qh .u32 (yR .u32 h V 8)) rfl rfl 160 _ hr5 (by rw[qd,hF.1];kernel_rfl) (by rw[qd,hF.1];rfl) qv ?_;simp only[Act.put,Ls];go_wp2_with fail
   exact Bp (results_cell_row rfl _ _ _ _ _ _ _ rfl (setRow_heap _ _ _ _ _ _ hr5) Tryz.underlying160 rfl (by rw[qd,hF.1];kernel_rfl)) rfl ⟨rfl,below_setRow (HB5.out.mono (by omega)) (by omega) _⟩
theorem qgc (h M:List Int)(hh:Words 32 8 h)(hM:Words 32 16 M)(c:Int)(hc0:0≤c)(hc1:c<18446744073709551616)(last node:Bool)(w:World):Calls Tryz.prog 120 #[.agg (qh .u32 h),.agg (qh .u32 M),.int .u64 c,.bool last,.bool node] w fun e w'=>e= .returned (.agg (qh .u32 (YW mixSmall IVs 10 h M (c%4294967296) (c/4294967296) last node)))∧Below w.heap.size w w':=by
 obtain⟨b0,hb0⟩:=Ex w.heap.size;have HC:=hid (qcu h c hc0 hc1 last node);have hW0:=YT (k:= .u32) (fun z=>IntKind.wrap_u32 z) jU hh (c%4294967296) (c/4294967296) last node;unfold YW;rw[show mixSmall.k= .u32 from rfl];generalize yM .u32 IVs h (c%4294967296) (c/4294967296) last node=L0 at*;have hh':=hh;rw[Y0 hh];go_enter Tryz.func120,Tryz.ntmps120
 go_wp2_with fail
 refine(HC.out _).mono ?_;rintro e1 w1 ⟨rfl,hb1⟩;have hh1:=(hb1.block b0 (by simp;omega)).trans ((Bh _ _ _ (by simp;omega)).trans ((Bh _ _ _ (by simp;omega)).trans (qc _ _ hb0.symm)));have hm1:=(hb1.block (b0+1) (by simp;omega)).trans ((Bh _ _ _ (by simp;omega)).trans (qc _ _ (by simp;omega)));have hr1:=(hb1.block (b0+1+1) (by simp;omega)).trans (qc _ _ (by simp;omega));have hs1:b0+3≤w1.heap.size:=by have:=hb1.size;simp at this;omega
 have hB1:Below w.heap.size w w1:=((((Below.refl w.heap.size w).alloc Nl _).alloc (by simp) _).alloc (by simp;omega) _).trans (hb1.mono (by simp;omega));clear hb1 HC;go_wp2_with ((with_reducible show wpList _ _ _ (Oper.mk none (Op.store 198 _ _) _ _ _ _::_) _ _);refine wpList_store_row rfl 198 _ _ rfl w1.heap.size (qh .u32 L0) rfl rfl 198 _ (Wn _ _) (by rw[qd,hW0.1];kernel_rfl) (by rw[qd,hW0.1];rfl) qv ?_)
 clear hh;refine qj ?_;intro W hW;obtain⟨bv,hbv⟩:=Ex w1.heap.size;have hh:W.heap[b0]? =some (.cells #[.int .u32 (wd h 0),.int .u32 (wd h 1),.int .u32 (wd h 2),.int .u32 (wd h 3),.int .u32 (wd h 4),.int .u32 (wd h 5),.int .u32 (wd h 6),.int .u32 (wd h 7)] 160 (0,0)):=by
  rw[hW];exact(setRow_other (w1.alloc _) _ _ _ (by omega)).trans ((Bh _ _ _ (by omega)).trans hh1)
 have hm:W.heap[b0+1]? =some (.cells (qh .u32 M) 198 (0,0)):=by
  rw[hW];exact(setRow_other (w1.alloc _) _ _ _ (by omega)).trans ((Bh _ _ _ (by omega)).trans hm1)
 have hr:W.heap[b0+1+1]? =some (.cells #[.int .u32 0,.int .u32 0,.int .u32 0,.int .u32 0,.int .u32 0,.int .u32 0,.int .u32 0,.int .u32 0] 160 (0,0)):=by
  rw[hW];exact(setRow_other (w1.alloc _) _ _ _ (by omega)).trans ((Bh _ _ _ (by omega)).trans hr1)
 have hv:W.heap[bv]? =some (.cells (qh .u32 L0) 198 (0,0)):=by
  rw[hW,←hbv];exact setRow_heap _ _ _ _ _ _ (Wn _ _)
 have hB:Below w.heap.size w W:=by
  rw[hW];exact below_setRow (hB1.alloc (by omega) _) (by omega) _
 rw[←Y0 hh']at hh;rw[hbv];have hbb:b0+3≤bv:=by omega
 clear hW hh1 hm1 hr1 hs1 hB1 hbv;have HH:=hid hh;have HM:=hid hm;have HR:=hid hr;have HV:=hid hv;have HB:=hid hB;have hbs:bv<W.heap.size:=(Ai hv).1;clear hh hm hr hv hB;go_loopw [18] (fun i wr=> ∃j:Nat,i= .int .i64 j∧j≤10∧wr.heap[bv]? =some (.cells (qh .u32 (mixSmall.rounds L0 M j)) 198 (0,0))∧But bv W wr) (fun i _=>10 - (intOf i).toNat)
 case atStart=>exact⟨0,rfl,Nat.zero_le _,HV.out,But.refl _ _⟩
 case round=>
  obtain⟨j,rfl,hj,hv,hB⟩:=hrel;have hm:=(hB.block (b0+1) (by omega) (by omega)).trans HM.out;have HVr:=hid hv;have HMr:=hid hm;have HBr:=hid hB;clear hv hm hB;by_cases hlt:j<10
  ·go_wp2_with fail
   refine(qcE bv (b0+1) (by omega) (mixSmall.rounds L0 M j) M (QG qY hW0 j) hM j (by omega) 198 198 _ HVr.out HMr.out).mono ?_;rintro e2 w2 ⟨rfl,hv2,hB2⟩
   have HV2:=hid hv2;have HB2:=hid (HBr.out.trans hB2);clear hv2 hB2;go_wp2
   exact⟨⟨j+1,rfl,by omega,HV2.out,HB2.out⟩,by simp[intOf];omega⟩
  ·obtain rfl:j=10:=by omega
   have hV:=QG qY hW0 (M:=M) 10;obtain⟨V,hVe⟩:=Ex (mixSmall.rounds L0 M 10);have HVe:=hid (show Ending.returned (.agg (qh .u32 (yR .u32 h V 8)))= .returned (.agg (qh .u32 (yR .u32 h (mixSmall.rounds L0 M 10) 8))) by rw[hVe]);rw[hVe]at hV HVr;clear hVe;have hh3:=(HBr.out.block b0 (by omega) (by omega)).trans HH.out;have hr3:=(HBr.out.block (b0+1+1) (by omega) (by omega)).trans HR.out;have hB3:Below w.heap.size w wr:=HB.out.trans (HBr.out.below (by omega) HB.out.size);have HH3:=hid hh3;have HR3:=hid hr3;have HB3:=hid hB3;have hs3:bv<wr.heap.size:=(Ai HVr.out).1;have hF:=Qx (k:= .u32) (fun z=>IntKind.wrap_u32 z) (v:=V) hh' 8;clear hh3 hr3 hB3 HMr HBr HH HR HM HV HB;go_upto_region 7 with(fail)
   apply wp_region_lit
   refine wpList_load_row rfl 160 _ rfl b0 rfl _ _ _ _ HH3.out Tryz.underlying160 rfl (by rw[qd,hh'.1];kernel_rfl) ?_;refine wpList_load_row rfl 198 _ rfl bv rfl _ _ _ _ HVr.out Tryz.underlying198 rfl (by rw[qd,hV.1];kernel_rfl) ?_;simp only[Act.put,Ls];go_wp2_with fail
   refine(qew h V hh' hV _).mono ?_;rintro e6 w6 ⟨rfl,hb6⟩
   have hr6:=(hb6.block (b0+1+1) (by omega)).trans HR3.out;have HB6:=hid (HB3.out.trans (hb6.mono HB3.out.size));clear hb6;go_wp2_with ((with_reducible show wpList _ _ _ (Oper.mk none (Op.store 160 _ _) _ _ _ _::_) _ _);refine wpList_store_row rfl 160 _ _ rfl (b0+1+1) (qh .u32 (yR .u32 h V 8)) rfl rfl 160 _ hr6 (by rw[qd,hF.1];kernel_rfl) (by rw[qd,hF.1];rfl) qv ?_)
   exact Bp (results_cell_row rfl _ _ _ _ _ _ _ rfl (setRow_heap _ _ _ _ _ _ hr6) Tryz.underlying160 rfl (by rw[qd,hF.1];kernel_rfl)) rfl ⟨HVe.out,below_setRow (HB6.out.mono (by omega)) (by omega) _⟩
theorem qaI (i:Nat)(hi:i<8)(w:World):Calls Tryz.prog 168 #[.int .i64 i] w fun e w'=>e= .returned (.int .u64 (wd IVb i))∧Below w.heap.size w w':=by
 rcases(show i=0∨i=1∨i=2∨i=3∨i=4∨i=5∨i=6∨i=7 by omega)with rfl|rfl|rfl|rfl|rfl|rfl|rfl|rfl
 ·go_enter Tryz.func168,Tryz.ntmps168
  go_wp2
  go_ret
  exact⟨rfl,Br.alloc Nl _⟩
 ·go_enter Tryz.func168,Tryz.ntmps168
  go_wp2
  go_ret
  exact⟨rfl,Br.alloc Nl _⟩
 ·go_enter Tryz.func168,Tryz.ntmps168
  go_wp2
  go_ret
  exact⟨rfl,Br.alloc Nl _⟩
 ·go_enter Tryz.func168,Tryz.ntmps168
  go_wp2
  go_ret
  exact⟨rfl,Br.alloc Nl _⟩
 ·go_enter Tryz.func168,Tryz.ntmps168
  go_wp2
  go_ret
  exact⟨rfl,Br.alloc Nl _⟩
 ·go_enter Tryz.func168,Tryz.ntmps168
  go_wp2
  go_ret
  exact⟨rfl,Br.alloc Nl _⟩
 ·go_enter Tryz.func168,Tryz.ntmps168
  go_wp2
  go_ret
  exact⟨rfl,Br.alloc Nl _⟩
 ·go_enter Tryz.func168,Tryz.ntmps168
  go_wp2
  go_ret
  exact⟨rfl,Br.alloc Nl _⟩
theorem qe2 (a:Nat)(ha:a<16)(w:World):Calls Tryz.prog 175 #[.int .i64 a] w fun e w'=>e= .returned (.bool true)∧w'=w:=by
 have h1:(0:Int)≤a:=by omega
 have h2:(a:Int)≤15:=by omega
 go_enter Tryz.func175,Tryz.ntmps175
 go_wp2
 go_ret
 exact⟨rfl,rfl⟩
def qdn (n:Nat):Nat:=if n<10 then 48+n else 87+n
theorem qfq (n:Nat)(hn:n<16)(w:World):Calls Tryz.prog 177 #[.int .u8 (qdn n:Nat)] w fun e w'=>e= .returned (.int .i64 n)∧w'=w:=by
 by_cases h:n<10
 ·have H1:=hid (yL (k:= .i64) (show 48+(n:Int) - 48=n by omega));rw[show qdn n=48+n by unfold qdn;rw[if_pos h]];go_enter Tryz.func177,Tryz.ntmps177
  go_wp2
  go_ret
  exact⟨H1.out,rfl⟩
 ·have H1:=hid (yL (k:= .i64) (show 87+(n:Int) - 97+10=n by omega));rw[show qdn n=87+n by unfold qdn;rw[if_neg h]];go_enter Tryz.func177,Tryz.ntmps177
  go_wp2
  go_ret
  exact⟨H1.out,rfl⟩
def okTab (s:ByteArray):Bool:=(List.range 160).all fun k=>match s.data[k]? with|some b=>b.toNat==qdn (sigT.flatten.getD k 0)|none=>false
theorem qfr (s:ByteArray)(r p i:Nat)(hp:p<10)(hi:i<16)(hr:r%10=p)(h:16*p+i<s.size)(hs:okTab s=true)(w:World):
  Calls Tryz.prog 177 #[.int .u8 ((s[16*p+i]'h).toNat:Nat)] w fun e w'=>e= .returned (.int .i64 (qs r i:Nat))∧w'=w:=by
 have h1:=List.all_eq_true.1 hs (16*p+i) (List.mem_range.2 (by omega));have h2:s.data[16*p+i]? =some (s[16*p+i]'h):=Array.getElem?_eq_getElem h;rw[h2]at h1;have h3: ∀p<10,∀i<16,sigT.flatten.getD (16*p+i) 0=(sigT.getD p []).getD i 0:=by decide+kernel
 have h4:(s[16*p+i]'h).toNat=qdn (qs r i):=by
  have:=beq_iff_eq.1 h1
  rw[this,h3 p hp i hi];unfold qs;rw[hr]
 rw[h4];exact qfq _ (qI r i) w
theorem j6 (r i:Nat)(hr:r<12)(hi:i<16)(w:World):Calls Tryz.prog 172 #[.int .i64 r,.int .i64 i] w fun e w'=>e= .returned (.int .i64 (qs r i:Nat))∧w'=w:=by
 have HR:=hid (za r 10 w (by decide));have hlt:=Nat.mod_lt r (show 0<10 by decide);go_enter Tryz.func172,Tryz.ntmps172
 go_wp2_with fail
 refine HR.out.mono ?_;rintro e1 w1 ⟨rfl,rfl⟩;obtain⟨p,hp⟩:=Ex (r%10);rw[hp]at hlt⊢;have HP:=hid hp;clear hp HR;go_wp2_with fail
 refine(qfr _ r p i hlt hi HP.out _ (by kernel_rfl) _).mono ?_;rintro e2 w2 ⟨rfl,rfl⟩;go_wp2
 go_ret
 exact⟨rfl,rfl⟩
theorem qea (i j:Nat)(hi:i<8)(hj:j<4):YC[i*4+j]? =some (.int .i64 ((yW i).getD j 0:Nat)):=by
 have h: ∀i<8,∀j<4,((List.range 8).flatMap yW)[i*4+j]? =some ((yW i).getD j 0):=by decide+kernel
 unfold YC Q7;rw[List.getElem?_toArray,List.getElem?_map,h i hi j hj];rfl
theorem qbh (i:Nat)(hi:i<8)(w:World):Calls Tryz.prog 170 #[.int .i64 i] w fun e w'=>e= .returned (.agg #[.int .i64 (plA i:Nat),.int .i64 (plB i:Nat),.int .i64 (plC i:Nat),.int .i64 (plD i:Nat)])∧Below w.heap.size w w':=by
 obtain⟨b0,hb0⟩:=Ex w.heap.size;go_enter Tryz.func170,Tryz.ntmps170
 go_upto_region 1 with(fail)
 apply wp_region_lit
 refine wpList_buildTo rfl 238 _ rfl (some 4) rfl (Q7 (yW 0)) (by kernel_rfl) ?_;simp only[Act.put,Ls];refine wpList_buildTo rfl 238 _ rfl (some 5) rfl (Q7 (yW 1)) (by kernel_rfl) ?_;simp only[Act.put,Ls];refine wpList_buildTo rfl 238 _ rfl (some 6) rfl (Q7 (yW 2)) (by kernel_rfl) ?_;simp only[Act.put,Ls];refine wpList_buildTo rfl 238 _ rfl (some 7) rfl (Q7 (yW 3)) (by kernel_rfl) ?_;simp only[Act.put,Ls];refine wpList_buildTo rfl 238 _ rfl (some 8) rfl (Q7 (yW 4)) (by kernel_rfl) ?_;simp only[Act.put,Ls];refine wpList_buildTo rfl 238 _ rfl (some 9) rfl (Q7 (yW 5)) (by kernel_rfl) ?_;simp only[Act.put,Ls];refine wpList_buildTo rfl 238 _ rfl (some 10) rfl (Q7 (yW 6)) (by kernel_rfl) ?_;simp only[Act.put,Ls];refine wpList_buildTo rfl 238 _ rfl (some 11) rfl (Q7 (yW 7)) (by kernel_rfl) ?_;simp only[Act.put,Ls];refine wpList_buildTo rfl 239 _ rfl (some 12) rfl YC (by kernel_rfl) ?_;simp only[Act.put,Ls];refine wpList_plain rfl fun _ hK=>?_
 go_simp
 refine hK _ _ ?_;clear hK;refine wpList_store_row rfl 239 _ _ rfl (b0+1) YC rfl rfl 239 _ (qc _ _ (by simp;omega)) (by kernel_rfl) (by kernel_rfl) (by kernel_rfl) ?_;simp only[Act.put,Ls];go_upto_region 2 with(fail)
 refine qj ?_;intro W hW;have hT:W.heap[b0+1]? =some (.cells YC 239 (0,0)):=by
  rw[hW];exact setRow_heap _ _ _ _ _ _ (qc _ _ (by simp;omega))
 have hR:W.heap[b0]? =some (.cells #[.int .i64 0,.int .i64 0,.int .i64 0,.int .i64 0] 238 (0,0)):=by
  rw[hW];exact(setRow_other _ _ _ _ (by omega)).trans ((Bh _ _ _ (by simp;omega)).trans (qc _ _ hb0.symm))
 have HB:Below w.heap.size w W:=by
  rw[hW];exact below_setRow (((Below.refl w.heap.size w).alloc Nl _).alloc (by simp) _) (by omega) _
 clear hW;have hc:=fun j hj=>(qk hT (i*4+j)).trans (qea i j hi hj)
 have c0:W.cell? ⟨b0+1,i*4,none⟩=some (.int .i64 (plA i:Nat)):=hc 0 (by decide);have c1:W.cell? ⟨b0+1,i*4+1,none⟩=some (.int .i64 (plB i:Nat)):=hc 1 (by decide);have c2:W.cell? ⟨b0+1,i*4+2,none⟩=some (.int .i64 (plC i:Nat)):=hc 2 (by decide);have c3:W.cell? ⟨b0+1,i*4+3,none⟩=some (.int .i64 (plD i:Nat)):=hc 3 (by decide);have hE:((i:Nat):Int).tmod 8=(i:Int):=by rw[Int.tmod_eq_emod_of_nonneg (by omega)];omega
 have hltI:(i:Int)<8:=by omega
 have HR:=hid hR;obtain⟨cR,fR⟩:=qE hR;clear hT hc hR;go_wp2_with fail
 have hr4:=block_setCell (i:=3) (block_setCell (i:=2) (block_setCell (i:=1) (block_setCell (i:=0) HR.out (.int .i64 (plA i:Nat))) (.int .i64 (plB i:Nat))) (.int .i64 (plC i:Nat))) (.int .i64 (plD i:Nat));exact Bp (results_cell_row rfl _ _ _ _ _ _ _ rfl hr4 Tryz.underlying238 rfl rfl) rfl ⟨rfl,(((HB.setCell (by simp;omega) _).setCell (by simp;omega) _).setCell (by simp;omega) _).setCell (by simp;omega) _ |>.mono (by omega)⟩
theorem qz {P:Program}{fn:Func}{p u:Tmp}{ty:TypeId}(h:fn.results= #[.cell p ty,.tmp u])(tmps:Array Value)(w:World)(g:Nat)(t:TypeId)(cs:Array Value)(fr:Nat×Nat)(d:TypeDesc)
  (hp:tmps.getD p undef= .pointer (some ⟨g,0,none⟩)) (hg:w.heap[g]? =some (.cells cs t fr))
  (hu:P.underlying ty=some d) (hd:(match d with| .struct _| .array _ _=>true|_=>false)=true) (hi:(P.info? ty).map (·.size)=some cs.size):
  (results fn tmps).run P w= .ok (.tuple #[.agg cs,tmps.getD u undef]) w:=by
 rw[results_cell_tmp h,hp];simp[asAddr,run_loadVar_row w g t ty cs fr d hg hu hd hi]
theorem qgj (L:List Int)(hL:Words 64 16 L)(pa pb pc pd:Nat)(ha:pa<16)(hb:pb<16)(hc:pc<16)(hd:pd<16)(hab:pa≠pb)(hac:pa≠pc)(had:pa≠pd)(hbc:pb≠pc)(hbd:pb≠pd)(hcd:pc≠pd)
  (x y:Int) (w:World):
  Calls Tryz.prog 171 #[.agg (qh .u64 L),.int .i64 pa,.int .i64 pb,.int .i64 pc,.int .i64 pd,.int .u64 x,.int .u64 y] w fun e w'=>e= .returned (.tuple #[.agg (qh .u64 (mixBig.step L pa pb pc pd x y)),.int .i64 0])∧Below w.heap.size w w':=by
 obtain⟨b0,hb0⟩:=Ex w.heap.size;have hm: ∀z,IntKind.u64.wrap z=z%2^64:=fun z=>IntKind.wrap_u64 z
 obtain⟨A1,hA1⟩:=Ex (IntKind.u64.wrap (IntKind.u64.wrap (wd L pa+wd L pb)+x));obtain⟨X1,hX1⟩:=Ex (bits BinOp.xor .u64 (wd L pd) A1);obtain⟨D1,hD1⟩:=Ex (QL 64 32 X1);obtain⟨C1,hC1⟩:=Ex (IntKind.u64.wrap (wd L pc+D1));obtain⟨X2,hX2⟩:=Ex (bits BinOp.xor .u64 (wd L pb) C1);obtain⟨B1,hB1⟩:=Ex (QL 64 24 X2);obtain⟨A2,hA2⟩:=Ex (IntKind.u64.wrap (IntKind.u64.wrap (A1+B1)+y));obtain⟨X3,hX3⟩:=Ex (bits BinOp.xor .u64 D1 A2);obtain⟨D2,hD2⟩:=Ex (QL 64 16 X3);obtain⟨C2,hC2⟩:=Ex (IntKind.u64.wrap (C1+D2));obtain⟨X4,hX4⟩:=Ex (bits BinOp.xor .u64 B1 C2);obtain⟨B2,hB2⟩:=Ex (QL 64 63 X4);have R1:=hid (fun w=>qdW X1 w (hX1▸qN .xor .u64 64 hm _ _));have R2:=hid (fun w=>qdX X2 w (hX2▸qN .xor .u64 64 hm _ _));have R3:=hid (fun w=>qdY X3 w (hX3▸qN .xor .u64 64 hm _ _));have R4:=hid (fun w=>qdV X4 w (hX4▸qN .xor .u64 64 hm _ _));have ES:mixBig.step L pa pb pc pd x y=(((L.set pa A2).set pd D2).set pc C2).set pb B2:=by
  have e1:A1=mixBig.a1 (wd L pa) (wd L pb) x:=by rw[←hA1];exact qgd 64 .u64 hm _ _ _
  have e2:D1=mixBig.d1 (wd L pa) (wd L pb) (wd L pd) x:=by rw[←hD1,←hX1,e1];rfl
  have e3:C1=mixBig.c1 (wd L pa) (wd L pb) (wd L pc) (wd L pd) x:=by rw[←hC1,e2];exact hm _
  have e4:B1=mixBig.b1 (wd L pa) (wd L pb) (wd L pc) (wd L pd) x:=by rw[←hB1,←hX2,e3];rfl
  have e5:A2=mixBig.a2 (wd L pa) (wd L pb) (wd L pc) (wd L pd) x y:=by rw[←hA2,e1,e4];exact qgd 64 .u64 hm _ _ _
  have e6:D2=mixBig.d2 (wd L pa) (wd L pb) (wd L pc) (wd L pd) x y:=by rw[←hD2,←hX3,e2,e5];rfl
  have e7:C2=mixBig.c2 (wd L pa) (wd L pb) (wd L pc) (wd L pd) x y:=by rw[←hC2,e3,e6];exact hm _
  have e8:B2=mixBig.b2 (wd L pa) (wd L pb) (wd L pc) (wd L pd) x y:=by rw[←hB2,←hX4,e4,e7];rfl
  rw[e5,e6,e7,e8];rfl
 have ES':=hid (show Ending.returned (.tuple #[.agg (qh .u64 ((((L.set pa A2).set pd D2).set pc C2).set pb B2)),.int .i64 0])= .returned (.tuple #[.agg (qh .u64 (mixBig.step L pa pb pc pd x y)),.int .i64 0]) by rw[ES]);rw[hD1]at R1;rw[hB1]at R2;rw[hD2]at R3;rw[hB2]at R4;clear hD1 hB1 hD2 hB2 ES hm;obtain⟨va,hva⟩:=Ex (wd L pa);obtain⟨vb,hvb⟩:=Ex (wd L pb);obtain⟨vc,hvc⟩:=Ex (wd L pc);obtain⟨vd,hvd⟩:=Ex (wd L pd);rw[hva,hvb]at hA1;rw[hvd]at hX1;rw[hvc]at hC1;rw[hvb]at hX2;have HVs:=hid (And.intro hva (And.intro hvb (And.intro hvc hvd)));clear hva hvb hvc hvd;have HN:=hid (And.intro hab (And.intro hac (And.intro had (And.intro hbc (And.intro hbd hcd)))));have n0:((pa:Int)==(pb:Int))=false:=by rw[beq_eq_false_iff_ne];omega
 have n1:((pa:Int)==(pc:Int))=false:=by rw[beq_eq_false_iff_ne];omega
 have n2:((pa:Int)==(pd:Int))=false:=by rw[beq_eq_false_iff_ne];omega
 have n3:((pb:Int)==(pc:Int))=false:=by rw[beq_eq_false_iff_ne];omega
 have n4:((pb:Int)==(pd:Int))=false:=by rw[beq_eq_false_iff_ne];omega
 have n5:((pc:Int)==(pd:Int))=false:=by rw[beq_eq_false_iff_ne];omega
 go_enter Tryz.func171,Tryz.ntmps171
 clear hab hac had hbc hbd hcd;iterate 4
  go_wp2_with fail
  refine(qe2 _ (by assumption) _).mono ?_;rintro r w1 ⟨rfl,rfl⟩
 go_wp2_with fail
 obtain⟨hab,hac,had,hbc,hbd,hcd⟩:=HN.out;refine qj ?_;intro W hW;have hv:W.heap[b0]? =some (.cells (qh .u64 L) 181 (0,0)):=by
  rw[hW];exact(Bh _ _ _ (by simp;omega)).trans (qc _ _ hb0.symm)
 have hr:W.heap[b0+1]? =some (.cells #[.int .u64 0,.int .u64 0,.int .u64 0,.int .u64 0,.int .u64 0,.int .u64 0,.int .u64 0,.int .u64 0,.int .u64 0,.int .u64 0,.int .u64 0,.int .u64 0,.int .u64 0,.int .u64 0,.int .u64 0,.int .u64 0] 181 (0,0)):=by
  rw[hW];exact qc _ _ (by simp;omega)
 have hB:Below w.heap.size w W:=by
  rw[hW];exact((Below.refl w.heap.size w).alloc Nl _).alloc (by simp) _
 clear hW;obtain⟨hva,hvb,hvc,hvd⟩:=HVs.out;have h0:At4 .u64 b0 181 pa pb pc pd W L va vb vc vd W:=⟨hv,hL.1,hva,hvb,hvc,hvd,⟨ha,hb,hc,hd⟩,⟨hab,hac,had,hbc,hbd,hcd⟩,But.refl _ _⟩;have HR:=hid hr;have HB:=hid hB;clear hv hr hB hva hvb hvc hvd HVs;refine qj ?_;intro W0 hW;have H0:=hid (h0.letter hW);obtain⟨ca,cb,cc,cd,fb,hs⟩:=H0.out.facts;clear hW h0;refine qi (by dsimp only[List.dropLast]) (by rfl) (by rfl) (by kernel_rfl) (by kernel_rfl) (by kernel_rfl) (by kernel_rfl) ?_;repeat(go_big_quiet_step (fail))
 refine wpQuiet_nil ?_;intro _ hw';obtain⟨n0,rfl⟩:=hw';go_wp2_with fail
 clear ca cb cc cd fb hs;have h1:=H0.out.setA n0 A1;clear H0;refine qj ?_;intro W1 hW;have H1:=hid (h1.letter hW);obtain⟨ca,cb,cc,cd,fb,hs⟩:=H1.out.facts;clear hW h1;refine qi (by dsimp only[List.dropLast]) (by rfl) (by rfl) (by kernel_rfl) (by kernel_rfl) (by kernel_rfl) (by kernel_rfl) ?_;repeat(go_big_quiet_step (exact Calls.quiet_of (R1.out _)))
 refine wpQuiet_nil ?_;intro _ hw';obtain⟨n1,rfl⟩:=hw';go_wp2_with fail
 clear ca cb cc cd fb hs;have h2:=H1.out.setD n1 D1;clear H1;refine qj ?_;intro W2 hW;have H2:=hid (h2.letter hW);obtain⟨ca,cb,cc,cd,fb,hs⟩:=H2.out.facts;clear hW h2;refine qi (by dsimp only[List.dropLast]) (by rfl) (by rfl) (by kernel_rfl) (by kernel_rfl) (by kernel_rfl) (by kernel_rfl) ?_;repeat(go_big_quiet_step (fail))
 refine wpQuiet_nil ?_;intro _ hw';obtain⟨n2,rfl⟩:=hw';go_wp2_with fail
 clear ca cb cc cd fb hs;have h3:=H2.out.setC n2 C1;clear H2;refine qj ?_;intro W3 hW;have H3:=hid (h3.letter hW);obtain⟨ca,cb,cc,cd,fb,hs⟩:=H3.out.facts;clear hW h3;refine qi (by dsimp only[List.dropLast]) (by rfl) (by rfl) (by kernel_rfl) (by kernel_rfl) (by kernel_rfl) (by kernel_rfl) ?_;repeat(go_big_quiet_step (exact Calls.quiet_of (R2.out _)))
 refine wpQuiet_nil ?_;intro _ hw';obtain⟨n3,rfl⟩:=hw';go_wp2_with fail
 clear ca cb cc cd fb hs;have h4:=H3.out.setB n3 B1;clear H3;refine qj ?_;intro W4 hW;have H4:=hid (h4.letter hW);obtain⟨ca,cb,cc,cd,fb,hs⟩:=H4.out.facts;clear hW h4;refine qi (by dsimp only[List.dropLast]) (by rfl) (by rfl) (by kernel_rfl) (by kernel_rfl) (by kernel_rfl) (by kernel_rfl) ?_;repeat(go_big_quiet_step (fail))
 refine wpQuiet_nil ?_;intro _ hw';obtain⟨n4,rfl⟩:=hw';go_wp2_with fail
 clear ca cb cc cd fb hs;have h5:=H4.out.setA n4 A2;clear H4;refine qj ?_;intro W5 hW;have H5:=hid (h5.letter hW);obtain⟨ca,cb,cc,cd,fb,hs⟩:=H5.out.facts;clear hW h5;refine qi (by dsimp only[List.dropLast]) (by rfl) (by rfl) (by kernel_rfl) (by kernel_rfl) (by kernel_rfl) (by kernel_rfl) ?_;repeat(go_big_quiet_step (exact Calls.quiet_of (R3.out _)))
 refine wpQuiet_nil ?_;intro _ hw';obtain⟨n5,rfl⟩:=hw';go_wp2_with fail
 clear ca cb cc cd fb hs;have h6:=H5.out.setD n5 D2;clear H5;refine qj ?_;intro W6 hW;have H6:=hid (h6.letter hW);obtain⟨ca,cb,cc,cd,fb,hs⟩:=H6.out.facts;clear hW h6;refine qi (by dsimp only[List.dropLast]) (by rfl) (by rfl) (by kernel_rfl) (by kernel_rfl) (by kernel_rfl) (by kernel_rfl) ?_;repeat(go_big_quiet_step (fail))
 refine wpQuiet_nil ?_;intro _ hw';obtain⟨n6,rfl⟩:=hw';go_wp2_with fail
 clear ca cb cc cd fb hs;have h7:=H6.out.setC n6 C2;clear H6;refine qj ?_;intro W7 hW;have H7:=hid (h7.letter hW);obtain⟨ca,cb,cc,cd,fb,hs⟩:=H7.out.facts;clear hW h7;refine qi (by dsimp only[List.dropLast]) (by rfl) (by rfl) (by kernel_rfl) (by kernel_rfl) (by kernel_rfl) (by kernel_rfl) ?_;repeat(go_big_quiet_step (exact Calls.quiet_of (R4.out _)))
 refine wpQuiet_nil ?_;intro _ hw';obtain⟨n7,rfl⟩:=hw';go_upto_region 11 with(fail)
 clear ca cb cc cd fb hs;have h8:=H7.out.setB n7 B2;clear H7;have hs8:((((L.set pa A2).set pd D2).set pc C2).set pb B2).length=16:=by simpa using hL.1
 have hr8:=(h8.but.block (b0+1) (Ai HR.out).1 (by omega)).trans HR.out;have hh8:=h8.heap;have HB8:=hid (HB.out.trans (h8.but.below (by omega) HB.out.size));rw[qfR hab hac had hbc hbd hcd]at hh8;generalize (((L.set pa A2).set pd D2).set pc C2).set pb B2=L8 at*;clear h8;apply wp_region_lit
 refine wpList_load_row rfl 181 _ rfl b0 rfl _ _ _ _ hh8 Tryz.underlying181 rfl (by rw[qd,hs8];kernel_rfl) ?_;refine wpList_store_row rfl 181 _ _ rfl (b0+1) (qh .u64 L8) rfl rfl 181 _ hr8 (by rw[qd,hs8];kernel_rfl) (by rw[qd,hs8];rfl) qv ?_;simp only[Act.put,Ls];go_wp2_with fail
 exact Bp (qz rfl _ _ _ _ _ _ _ rfl (setRow_heap _ _ _ _ _ _ hr8) Tryz.underlying181 rfl (by rw[qd,hs8];kernel_rfl)) rfl ⟨Eq.trans (b:= .returned (.tuple #[.agg (qh .u64 L8),.int .i64 0])) rfl ES'.out,below_setRow (HB8.out.mono (by omega)) (by omega) _⟩
def n4 (a b c d:Nat)(i:Nat):Nat:=match i with|0=>a|1=>b|2=>c|_=>d
theorem qc6 (pa pb pc pd:Nat)(ha:pa<16)(hb:pb<16)(hc:pc<16)(hd:pd<16)(hab:pa≠pb)(hac:pa≠pc)(had:pa≠pd)(hbc:pb≠pc)(hbd:pb≠pd)(hcd:pc≠pd)(w:World):
  Calls Tryz.prog 179 #[.int .i64 pa,.int .i64 pb,.int .i64 pc,.int .i64 pd] w fun e w'=>e= .returned (.bool true)∧Below w.heap.size w w':=by
 have hlt: ∀i,i<4→n4 pa pb pc pd i<16:=fun i hi=>by
  match i,hi with
  | 0,_=>exact ha
  | 1,_=>exact hb
  | 2,_=>exact hc
  | 3,_=>exact hd
 have hne: ∀i j,i<4→j<i→n4 pa pb pc pd i≠n4 pa pb pc pd j:=fun i j hi hj=>by
  match i,j,hi,hj with
  | 1,0,_,_=>exact Ne.symm hab
  | 2,0,_,_=>exact Ne.symm hac
  | 2,1,_,_=>exact Ne.symm hbc
  | 3,0,_,_=>exact Ne.symm had
  | 3,1,_,_=>exact Ne.symm hbd
  | 3,2,_,_=>exact Ne.symm hcd
 have HLT:=hid hlt;have HNE:=hid hne;clear ha hb hc hd hab hac had hbc hbd hcd hlt hne;obtain⟨b0,hb0⟩:=Ex w.heap.size;go_enter Tryz.func179,Tryz.ntmps179
 go_wp2_with fail
 refine qj ?_;intro W hW;have hl:W.heap[b0]? =some (.cells #[.int .i64 pa,.int .i64 pb,.int .i64 pc,.int .i64 pd] 3 (0,0)):=by
  rw[hW];exact qc _ _ hb0.symm
 have hB:Below w.heap.size w W:=by rw[hW];exact Br.alloc Nl _
 have hcell: ∀i,i<4→W.cell? ⟨b0,i,none⟩=some (.int .i64 (n4 pa pb pc pd i)):=fun i hi=>by
  rw[qk hl];match i,hi with
  | 0,_=>rfl
  | 1,_=>rfl
  | 2,_=>rfl
  | 3,_=>rfl
 have HC:=hid hcell;clear hW hl hcell;go_loopw [10] (fun i wr=> ∃j m:Nat,i= .int .i64 j∧j≤4∧wr=W.drewN m) (fun i _=>4 - (intOf i).toNat)
 case atStart=>exact⟨0,0,rfl,Nat.zero_le _,rfl⟩
 case round=>
  obtain⟨j,m,rfl,hj,rfl⟩:=hrel;by_cases hlt:j<4
  ·have c1:=HC.out j hlt;have l1:=HLT.out j hlt;have HN:=hid (fun k hk=>HNE.out j k hlt hk);have HCj:=hid (fun k (hk:k<j)=>HC.out k (by omega));generalize n4 pa pb pc pd j=x at*;have q1: ¬((x:Int)<0):=by omega
   have q2: ¬(15<(x:Int)):=by omega
   go_wp2_with fail
   go_loopw [11] (fun i wr=> ∃k m:Nat,i= .int .i64 k∧k≤j∧wr=W.drewN m) (fun i _=>j - (intOf i).toNat)
   case atStart=>exact⟨0,m,rfl,Nat.zero_le _,rfl⟩
   case round=>
    obtain⟨k,m2,rfl,hk,rfl⟩:=hrel;by_cases hlt2:k<j
    ·have c2:=HCj.out k hlt2;have n2:=HN.out k hlt2;generalize n4 pa pb pc pd k=y at*;have n3:((x:Int)==(y:Int))=false:=by rw[beq_eq_false_iff_ne];omega
     have q3:k<4:=by omega
     clear n2;go_wp2_with fail
     go_quiet (fail)
     go_wp2
     exact⟨⟨k+1,_,rfl,by omega,rfl⟩,by simp[intOf];omega⟩
    ·obtain rfl:k=j:=by omega
     go_wp2
     exact⟨⟨k+1,m2,rfl,by omega,rfl⟩,by simp[intOf];omega⟩
  ·obtain rfl:j=4:=by omega
   go_wp2
   go_ret
   exact⟨rfl,hB.trans (Qy _)⟩
theorem qO {fn:Func}{t u v x:Tmp}(h:fn.results= #[.tmp t,.tmp u,.tmp v,.tmp x])(tmps:Array Value)(P:Program)(w:World):
  (results fn tmps).run P w= .ok (.tuple #[tmps.getD t undef,tmps.getD u undef,tmps.getD v undef,tmps.getD x undef]) w:=by
 simp[results,h]
theorem qf5 (i:Nat)(hi:i<8)(w:World):Calls Tryz.prog 173 #[.int .i64 i] w fun e w'=>e= .returned (.tuple #[.int .i64 (plA i:Nat),.int .i64 (plB i:Nat),.int .i64 (plC i:Nat),.int .i64 (plD i:Nat)])∧w'=w:=by
 rcases(show i=0∨i=1∨i=2∨i=3∨i=4∨i=5∨i=6∨i=7 by omega)with rfl|rfl|rfl|rfl|rfl|rfl|rfl|rfl
 ·go_enter Tryz.func173,Tryz.ntmps173
  go_wp2
  exact Bp (qO rfl _ _ _) rfl ⟨rfl,rfl⟩
 ·go_enter Tryz.func173,Tryz.ntmps173
  go_wp2
  exact Bp (qO rfl _ _ _) rfl ⟨rfl,rfl⟩
 ·go_enter Tryz.func173,Tryz.ntmps173
  go_wp2
  exact Bp (qO rfl _ _ _) rfl ⟨rfl,rfl⟩
 ·go_enter Tryz.func173,Tryz.ntmps173
  go_wp2
  exact Bp (qO rfl _ _ _) rfl ⟨rfl,rfl⟩
 ·go_enter Tryz.func173,Tryz.ntmps173
  go_wp2
  exact Bp (qO rfl _ _ _) rfl ⟨rfl,rfl⟩
 ·go_enter Tryz.func173,Tryz.ntmps173
  go_wp2
  exact Bp (qO rfl _ _ _) rfl ⟨rfl,rfl⟩
 ·go_enter Tryz.func173,Tryz.ntmps173
  go_wp2
  exact Bp (qO rfl _ _ _) rfl ⟨rfl,rfl⟩
 ·go_enter Tryz.func173,Tryz.ntmps173
  go_wp2
  exact Bp (qO rfl _ _ _) rfl ⟨rfl,rfl⟩
theorem qgk (L:List Int)(hL:Words 32 16 L)(pa pb pc pd:Nat)(ha:pa<16)(hb:pb<16)(hc:pc<16)(hd:pd<16)(hab:pa≠pb)(hac:pa≠pc)(had:pa≠pd)(hbc:pb≠pc)(hbd:pb≠pd)(hcd:pc≠pd)
  (x y:Int) (w:World):
  Calls Tryz.prog 174 #[.agg (qh .u32 L),.int .i64 pa,.int .i64 pb,.int .i64 pc,.int .i64 pd,.int .u32 x,.int .u32 y] w fun e w'=>e= .returned (.tuple #[.agg (qh .u32 (mixSmall.step L pa pb pc pd x y)),.int .i64 0])∧Below w.heap.size w w':=by
 obtain⟨b0,hb0⟩:=Ex w.heap.size;have hm: ∀z,IntKind.u32.wrap z=z%2^32:=fun z=>IntKind.wrap_u32 z
 obtain⟨A1,hA1⟩:=Ex ((wd L pa+wd L pb+x)%4294967296);obtain⟨X1,hX1⟩:=Ex (bits BinOp.xor .u32 (wd L pd) A1);obtain⟨D1,hD1⟩:=Ex (QL 32 16 X1);obtain⟨C1,hC1⟩:=Ex ((wd L pc+D1)%4294967296);obtain⟨X2,hX2⟩:=Ex (bits BinOp.xor .u32 (wd L pb) C1);obtain⟨B1,hB1⟩:=Ex (QL 32 12 X2);obtain⟨A2,hA2⟩:=Ex ((A1+B1+y)%4294967296);obtain⟨X3,hX3⟩:=Ex (bits BinOp.xor .u32 D1 A2);obtain⟨D2,hD2⟩:=Ex (QL 32 8 X3);obtain⟨C2,hC2⟩:=Ex ((C1+D2)%4294967296);obtain⟨X4,hX4⟩:=Ex (bits BinOp.xor .u32 B1 C2);obtain⟨B2,hB2⟩:=Ex (QL 32 7 X4);have R1:=hid (fun w=>qdZ X1 w (hX1▸qN .xor .u32 32 hm _ _));have R2:=hid (fun w=>qd0 X2 w (hX2▸qN .xor .u32 32 hm _ _));have R3:=hid (fun w=>qeJ X3 w (hX3▸qN .xor .u32 32 hm _ _));have R4:=hid (fun w=>qeK X4 w (hX4▸qN .xor .u32 32 hm _ _));have ES:mixSmall.step L pa pb pc pd x y=(((L.set pa A2).set pd D2).set pc C2).set pb B2:=by
  have e1:A1=mixSmall.a1 (wd L pa) (wd L pb) x:=by rw[←hA1];rfl
  have e2:D1=mixSmall.d1 (wd L pa) (wd L pb) (wd L pd) x:=by rw[←hD1,←hX1,e1];rfl
  have e3:C1=mixSmall.c1 (wd L pa) (wd L pb) (wd L pc) (wd L pd) x:=by rw[←hC1,e2];rfl
  have e4:B1=mixSmall.b1 (wd L pa) (wd L pb) (wd L pc) (wd L pd) x:=by rw[←hB1,←hX2,e3];rfl
  have e5:A2=mixSmall.a2 (wd L pa) (wd L pb) (wd L pc) (wd L pd) x y:=by rw[←hA2,e1,e4];rfl
  have e6:D2=mixSmall.d2 (wd L pa) (wd L pb) (wd L pc) (wd L pd) x y:=by rw[←hD2,←hX3,e2,e5];rfl
  have e7:C2=mixSmall.c2 (wd L pa) (wd L pb) (wd L pc) (wd L pd) x y:=by rw[←hC2,e3,e6];rfl
  have e8:B2=mixSmall.b2 (wd L pa) (wd L pb) (wd L pc) (wd L pd) x y:=by rw[←hB2,←hX4,e4,e7];rfl
  rw[e5,e6,e7,e8];rfl
 have ES':=hid (show Ending.returned (.tuple #[.agg (qh .u32 ((((L.set pa A2).set pd D2).set pc C2).set pb B2)),.int .i64 0])= .returned (.tuple #[.agg (qh .u32 (mixSmall.step L pa pb pc pd x y)),.int .i64 0]) by rw[ES]);rw[hD1]at R1;rw[hB1]at R2;rw[hD2]at R3;rw[hB2]at R4;clear hD1 hB1 hD2 hB2 ES hm;obtain⟨va,hva⟩:=Ex (wd L pa);obtain⟨vb,hvb⟩:=Ex (wd L pb);obtain⟨vc,hvc⟩:=Ex (wd L pc);obtain⟨vd,hvd⟩:=Ex (wd L pd);rw[hva,hvb]at hA1;rw[hvd]at hX1;rw[hvc]at hC1;rw[hvb]at hX2;have HVs:=hid (And.intro hva (And.intro hvb (And.intro hvc hvd)));clear hva hvb hvc hvd;have HN:=hid (And.intro hab (And.intro hac (And.intro had (And.intro hbc (And.intro hbd hcd)))));go_enter Tryz.func174,Tryz.ntmps174
 go_wp2_with fail
 refine(qc6 pa pb pc pd ha hb hc hd hab hac had hbc hbd hcd _).mono ?_;rintro r w1 ⟨rfl,hb1⟩;clear hab hac had hbc hbd hcd;go_wp2_with fail
 obtain⟨hab,hac,had,hbc,hbd,hcd⟩:=HN.out;refine qj ?_;intro W hW;have hv:W.heap[b0]? =some (.cells (qh .u32 L) 198 (0,0)):=by
  rw[hW];exact(hb1.block b0 (by simp;omega)).trans ((Bh _ _ _ (by simp;omega)).trans (qc _ _ hb0.symm))
 have hr:W.heap[b0+1]? =some (.cells #[.int .u32 0,.int .u32 0,.int .u32 0,.int .u32 0,.int .u32 0,.int .u32 0,.int .u32 0,.int .u32 0,.int .u32 0,.int .u32 0,.int .u32 0,.int .u32 0,.int .u32 0,.int .u32 0,.int .u32 0,.int .u32 0] 198 (0,0)):=by
  rw[hW];exact(hb1.block (b0+1) (by simp;omega)).trans (qc _ _ (by simp;omega))
 have hB:Below w.heap.size w W:=by
  rw[hW];exact(((Below.refl w.heap.size w).alloc Nl _).alloc (by simp) _).trans (hb1.mono (by simp;omega))
 clear hW hb1;obtain⟨hva,hvb,hvc,hvd⟩:=HVs.out;have h0:At4 .u32 b0 198 pa pb pc pd W L va vb vc vd W:=⟨hv,hL.1,hva,hvb,hvc,hvd,⟨ha,hb,hc,hd⟩,⟨hab,hac,had,hbc,hbd,hcd⟩,But.refl _ _⟩;have HR:=hid hr;have HB:=hid hB;clear hv hr hB hva hvb hvc hvd HVs;refine qj ?_;intro W0 hW;have H0:=hid (h0.letter hW);obtain⟨ca,cb,cc,cd,fb,hs⟩:=H0.out.facts;clear hW h0;refine qi (by dsimp only[List.dropLast]) (by rfl) (by rfl) (by kernel_rfl) (by kernel_rfl) (by kernel_rfl) (by kernel_rfl) ?_;repeat(go_big_quiet_step (fail))
 refine wpQuiet_nil ?_;intro _ hw';obtain⟨n0,rfl⟩:=hw';go_wp2_with fail
 clear ca cb cc cd fb hs;have h1:=H0.out.setA n0 A1;clear H0;refine qj ?_;intro W1 hW;have H1:=hid (h1.letter hW);obtain⟨ca,cb,cc,cd,fb,hs⟩:=H1.out.facts;clear hW h1;refine qi (by dsimp only[List.dropLast]) (by rfl) (by rfl) (by kernel_rfl) (by kernel_rfl) (by kernel_rfl) (by kernel_rfl) ?_;repeat(go_big_quiet_step (exact Calls.quiet_of_same (R1.out _)))
 refine wpQuiet_nil ?_;intro _ hw';obtain⟨n1,rfl⟩:=hw';go_wp2_with fail
 clear ca cb cc cd fb hs;have h2:=H1.out.setD n1 D1;clear H1;refine qj ?_;intro W2 hW;have H2:=hid (h2.letter hW);obtain⟨ca,cb,cc,cd,fb,hs⟩:=H2.out.facts;clear hW h2;refine qi (by dsimp only[List.dropLast]) (by rfl) (by rfl) (by kernel_rfl) (by kernel_rfl) (by kernel_rfl) (by kernel_rfl) ?_;repeat(go_big_quiet_step (fail))
 refine wpQuiet_nil ?_;intro _ hw';obtain⟨n2,rfl⟩:=hw';go_wp2_with fail
 clear ca cb cc cd fb hs;have h3:=H2.out.setC n2 C1;clear H2;refine qj ?_;intro W3 hW;have H3:=hid (h3.letter hW);obtain⟨ca,cb,cc,cd,fb,hs⟩:=H3.out.facts;clear hW h3;refine qi (by dsimp only[List.dropLast]) (by rfl) (by rfl) (by kernel_rfl) (by kernel_rfl) (by kernel_rfl) (by kernel_rfl) ?_;repeat(go_big_quiet_step (exact Calls.quiet_of_same (R2.out _)))
 refine wpQuiet_nil ?_;intro _ hw';obtain⟨n3,rfl⟩:=hw';go_wp2_with fail
 clear ca cb cc cd fb hs;have h4:=H3.out.setB n3 B1;clear H3;refine qj ?_;intro W4 hW;have H4:=hid (h4.letter hW);obtain⟨ca,cb,cc,cd,fb,hs⟩:=H4.out.facts;clear hW h4;refine qi (by dsimp only[List.dropLast]) (by rfl) (by rfl) (by kernel_rfl) (by kernel_rfl) (by kernel_rfl) (by kernel_rfl) ?_;repeat(go_big_quiet_step (fail))
 refine wpQuiet_nil ?_;intro _ hw';obtain⟨n4,rfl⟩:=hw';go_wp2_with fail
 clear ca cb cc cd fb hs;have h5:=H4.out.setA n4 A2;clear H4;refine qj ?_;intro W5 hW;have H5:=hid (h5.letter hW);obtain⟨ca,cb,cc,cd,fb,hs⟩:=H5.out.facts;clear hW h5;refine qi (by dsimp only[List.dropLast]) (by rfl) (by rfl) (by kernel_rfl) (by kernel_rfl) (by kernel_rfl) (by kernel_rfl) ?_;repeat(go_big_quiet_step (exact Calls.quiet_of_same (R3.out _)))
 refine wpQuiet_nil ?_;intro _ hw';obtain⟨n5,rfl⟩:=hw';go_wp2_with fail
 clear ca cb cc cd fb hs;have h6:=H5.out.setD n5 D2;clear H5;refine qj ?_;intro W6 hW;have H6:=hid (h6.letter hW);obtain⟨ca,cb,cc,cd,fb,hs⟩:=H6.out.facts;clear hW h6;refine qi (by dsimp only[List.dropLast]) (by rfl) (by rfl) (by kernel_rfl) (by kernel_rfl) (by kernel_rfl) (by kernel_rfl) ?_;repeat(go_big_quiet_step (fail))
 refine wpQuiet_nil ?_;intro _ hw';obtain⟨n6,rfl⟩:=hw';go_wp2_with fail
 clear ca cb cc cd fb hs;have h7:=H6.out.setC n6 C2;clear H6;refine qj ?_;intro W7 hW;have H7:=hid (h7.letter hW);obtain⟨ca,cb,cc,cd,fb,hs⟩:=H7.out.facts;clear hW h7;refine qi (by dsimp only[List.dropLast]) (by rfl) (by rfl) (by kernel_rfl) (by kernel_rfl) (by kernel_rfl) (by kernel_rfl) ?_;repeat(go_big_quiet_step (exact Calls.quiet_of_same (R4.out _)))
 refine wpQuiet_nil ?_;intro _ hw';obtain⟨n7,rfl⟩:=hw';go_upto_region 11 with(fail)
 clear ca cb cc cd fb hs;have h8:=H7.out.setB n7 B2;clear H7;have hs8:((((L.set pa A2).set pd D2).set pc C2).set pb B2).length=16:=by simpa using hL.1
 have hr8:=(h8.but.block (b0+1) (Ai HR.out).1 (by omega)).trans HR.out;have hh8:=h8.heap;have HB8:=hid (HB.out.trans (h8.but.below (by omega) HB.out.size));rw[qfR hab hac had hbc hbd hcd]at hh8;generalize (((L.set pa A2).set pd D2).set pc C2).set pb B2=L8 at*;clear h8;apply wp_region_lit
 refine wpList_load_row rfl 198 _ rfl b0 rfl _ _ _ _ hh8 Tryz.underlying198 rfl (by rw[qd,hs8];kernel_rfl) ?_;refine wpList_store_row rfl 198 _ _ rfl (b0+1) (qh .u32 L8) rfl rfl 198 _ hr8 (by rw[qd,hs8];kernel_rfl) (by rw[qd,hs8];rfl) qv ?_;simp only[Act.put,Ls];go_wp2_with fail
 exact Bp (qz rfl _ _ _ _ _ _ _ rfl (setRow_heap _ _ _ _ _ _ hr8) Tryz.underlying198 rfl (by rw[qd,hs8];kernel_rfl)) rfl ⟨Eq.trans (b:= .returned (.tuple #[.agg (qh .u32 L8),.int .i64 0])) rfl ES'.out,below_setRow (HB8.out.mono (by omega)) (by omega) _⟩
end Go.Proofs.YtdndeffmlhaipaaGreatDoor

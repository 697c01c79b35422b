/- The beginning of the rounds, by the program. No condition. -/
import Derived.Test.YtdndeffmlhaipaaGreatDoorM11
import Derived.Laws.CopyOwn
import Derived.Laws.Strings
import Derived.Laws.ResultCell
set_option linter.all false
set_option maxRecDepth 100000
set_option maxHeartbeats 8000000
namespace Go.Proofs.YtdndeffmlhaipaaGreatDoor
open Go.ChangeShapes Go.WideShapes Go.ChangeAt Go.RowKit Go.Joins
open Go.Lib (hid)
attribute [local go_sem] Oper.semAt_some
def IVb:List Int:=[7640891576956012808,13503953896175478587,4354685564936845355,11912009170470909681,5840696475078001361,11170449401992604703,2270897969802886507,6620516959819538809]
def IVs:List Int:=[1779033703,3144134277,1013904242,2773480762,1359893119,2600822924,528734635,1541459225]
theorem Qq {B:Nat}{w:World}(n:Nat):Below B w (w.drewN n):=⟨rfl,rfl,rfl,Nat.le_refl _,fun _ _=>rfl⟩
theorem qe2 (g off j:Nat):(⟨g,off,none⟩:Addr).add j=⟨g,off+j,none⟩:=by unfold Addr.add;split<;>simp_all
theorem jR {W:World}{b:Nat}{cs:List Value}{T:TypeId}{fr:Nat×Nat}(h:W.heap[b]? =some (.cells cs.toArray T fr)): ∀j v,cs[j]? =some v→W.cell? ((⟨b,0,none⟩:Addr).add j)=some v:=fun j v hj=>by
 rw[qe2,Nat.zero_add,qi h];simpa using hj
def Jk (k:IntKind)(iv:List Int)(h:List Int)(x y:Int)(last node:Bool):List Int:=
 [wd h 0,wd h 1,wd h 2,wd h 3,wd h 4,wd h 5,wd h 6,wd h 7,wd iv 0,wd iv 1,wd iv 2,wd iv 3,bits .xor k (wd iv 4) x,bits .xor k (wd iv 5) y,
  if last then bits .xor k k.max (wd iv 6) else wd iv 6,if node then bits .xor k k.max (wd iv 7) else wd iv 7]
theorem qcP (w:World):Calls Tryz.prog 111 #[] w fun e w'=>e= .returned (.agg #[.int .u64 7640891576956012808,.int .u64 13503953896175478587,.int .u64 4354685564936845355,.int .u64 11912009170470909681,.int .u64 5840696475078001361,.int .u64 11170449401992604703,.int .u64 2270897969802886507,.int .u64 6620516959819538809])∧Below w.heap.size w w':=by
 go_enter Tryz.func111,Tryz.ntmps111
 go_wp2
 exact Bp (results_cell_row rfl _ _ _ _ _ _ _ rfl (Wn _ _) Tryz.underlying150 rfl rfl) rfl ⟨rfl,Br.alloc Nl _⟩
theorem qcO (w:World):Calls Tryz.prog 118 #[] w fun e w'=>e= .returned (.agg #[.int .u32 1779033703,.int .u32 3144134277,.int .u32 1013904242,.int .u32 2773480762,.int .u32 1359893119,.int .u32 2600822924,.int .u32 528734635,.int .u32 1541459225])∧Below w.heap.size w w':=by
 go_enter Tryz.func118,Tryz.ntmps118
 go_wp2
 exact Bp (results_cell_row rfl _ _ _ _ _ _ _ rfl (Wn _ _) Tryz.underlying160 rfl rfl) rfl ⟨rfl,Br.alloc Nl _⟩
theorem qch (h:List Int)(lo hi:Int)(last node:Bool)(w:World):Calls Tryz.prog 138 #[.agg #[.int .u64 (wd h 0),.int .u64 (wd h 1),.int .u64 (wd h 2),.int .u64 (wd h 3),.int .u64 (wd h 4),.int .u64 (wd h 5),.int .u64 (wd h 6),.int .u64 (wd h 7)],.agg #[.int .u64 lo,.int .u64 hi],.bool last,.bool node] w fun e w'=>e= .returned (.agg (qm .u64 (Jk .u64 IVb h lo hi last node)))∧Below w.heap.size w w':=by
 obtain⟨b0,hb0⟩:=Ex w.heap.size;go_enter Tryz.func138,Tryz.ntmps138
 go_wp2_with fail
 refine qj ?_;intro W hW;have hh:W.heap[b0]? =some (.cells #[.int .u64 (wd h 0),.int .u64 (wd h 1),.int .u64 (wd h 2),.int .u64 (wd h 3),.int .u64 (wd h 4),.int .u64 (wd h 5),.int .u64 (wd h 6),.int .u64 (wd h 7)] 150 (0,0)):=by
  rw[hW];exact(Bh _ _ _ (by simp;omega)).trans ((Bh _ _ _ (by simp;omega)).trans ((Bh _ _ _ (by simp;omega)).trans (qc _ _ hb0.symm)))
 have hc:W.heap[b0+1]? =some (.cells #[.int .u64 lo,.int .u64 hi] 157 (0,0)):=by
  rw[hW];exact(Bh _ _ _ (by simp;omega)).trans ((Bh _ _ _ (by simp;omega)).trans (qc _ _ (by simp;omega)))
 have hr:W.heap[b0+1+1]? =some (.cells #[.int .u64 0,.int .u64 0,.int .u64 0,.int .u64 0,.int .u64 0,.int .u64 0,.int .u64 0,.int .u64 0,.int .u64 0,.int .u64 0,.int .u64 0,.int .u64 0,.int .u64 0,.int .u64 0,.int .u64 0,.int .u64 0] 181 (0,0)):=by
  rw[hW];exact(Bh _ _ _ (by simp;omega)).trans (qc _ _ (by simp;omega))
 have hv:W.heap[b0+1+1+1]? =some (.cells #[.int .u64 0,.int .u64 0,.int .u64 0,.int .u64 0,.int .u64 0,.int .u64 0,.int .u64 0,.int .u64 0,.int .u64 0,.int .u64 0,.int .u64 0,.int .u64 0,.int .u64 0,.int .u64 0,.int .u64 0,.int .u64 0] 181 (0,0)):=by
  rw[hW];exact qc _ _ (by simp;omega)
 have hB:Below w.heap.size w W:=by
  rw[hW];exact(((Br.alloc Nl _).alloc (by simp) _).alloc (by simp;omega) _).alloc (by simp;omega) _
 have hs:W.heap.size=b0+4:=by rw[hW];simp;omega
 clear hW;refine qe (by dsimp only[List.dropLast]) (by rfl) (by rfl) (by kernel_rfl) (by kernel_rfl) (by kernel_rfl) (by kernel_rfl) ?_;repeat(go_big_quiet_step (fail))
 refine wpQuiet_nil ?_;intro _ hw';obtain⟨n1,rfl⟩:=hw';refine wpList_copy_own rfl _ _ _ _ rfl 54 Tryz.underlying123 rfl (b0+1+1+1) 0 8 16 ⟨b0,0,none⟩ 8 8 rfl rfl #[.int .u64 0,.int .u64 0,.int .u64 0,.int .u64 0,.int .u64 0,.int .u64 0,.int .u64 0,.int .u64 0,.int .u64 0,.int .u64 0,.int .u64 0,.int .u64 0,.int .u64 0,.int .u64 0,.int .u64 0,.int .u64 0] 181 hv [.int .u64 (wd h 0),.int .u64 (wd h 1),.int .u64 (wd h 2),.int .u64 (wd h 3),.int .u64 (wd h 4),.int .u64 (wd h 5),.int .u64 (wd h 6),.int .u64 (wd h 7)] rfl
  (jR (W:=W.drewN n1) hh) (by simp) (by simp[Value.oneCell']) ?_
 go_wp2_with fail
 refine(qcP _).mono ?_;rintro e1 w1 ⟨rfl,hb1⟩;have hv1:=(hb1.block (b0+1+1+1) (by simp;omega)).trans (setRow_heap (W.drewN n1) _ _ _ _ _ hv);have hc1:=(hb1.block (b0+1) (by simp;omega)).trans ((setRow_other (W.drewN n1) _ _ _ (by omega)).trans hc);have hr1:=(hb1.block (b0+1+1) (by simp;omega)).trans ((setRow_other (W.drewN n1) _ _ _ (by omega)).trans hr);have hs1:b0+4≤w1.heap.size:=by have:=hb1.size;simp at this;omega
 have hB1:Below w.heap.size w w1:=(below_setRow (hB.trans (Qq n1)) (by omega) _).trans (hb1.mono (by simp;omega));clear hb1 hv hc hr hh hB;go_wp2_with fail
 refine qe (by dsimp only[List.dropLast]) (by rfl) (by rfl) (by kernel_rfl) (by kernel_rfl) (by kernel_rfl) (by kernel_rfl) ?_;repeat(go_big_quiet_step (fail))
 refine wpQuiet_nil ?_;intro _ hw';obtain⟨n2,rfl⟩:=hw';refine wpList_copy_own rfl _ _ _ _ rfl 54 Tryz.underlying123 rfl (b0+1+1+1) 8 8 8 ⟨w1.heap.size,0,none⟩ 8 8 rfl rfl #[.int .u64 (wd h 0),.int .u64 (wd h 1),.int .u64 (wd h 2),.int .u64 (wd h 3),.int .u64 (wd h 4),.int .u64 (wd h 5),.int .u64 (wd h 6),.int .u64 (wd h 7),.int .u64 0,.int .u64 0,.int .u64 0,.int .u64 0,.int .u64 0,.int .u64 0,.int .u64 0,.int .u64 0] 181 ((Bh _ _ _ (by omega)).trans hv1) [.int .u64 7640891576956012808,.int .u64 13503953896175478587,.int .u64 4354685564936845355,.int .u64 11912009170470909681,.int .u64 5840696475078001361,.int .u64 11170449401992604703,.int .u64 2270897969802886507,.int .u64 6620516959819538809] rfl
  (jR (W:=(w1.alloc _).drewN n2) (Wn _ _)) (by simp) (by simp[Value.oneCell']) ?_
 go_upto_region 5 with(fail)
 refine qj ?_;intro W4 hW;have hv4:W4.heap[b0+1+1+1]? =some (.cells #[.int .u64 (wd h 0),.int .u64 (wd h 1),.int .u64 (wd h 2),.int .u64 (wd h 3),.int .u64 (wd h 4),.int .u64 (wd h 5),.int .u64 (wd h 6),.int .u64 (wd h 7),.int .u64 7640891576956012808,.int .u64 13503953896175478587,.int .u64 4354685564936845355,.int .u64 11912009170470909681,.int .u64 5840696475078001361,.int .u64 11170449401992604703,.int .u64 2270897969802886507,.int .u64 6620516959819538809] 181 (0,0)):=by
  rw[hW];exact setRow_heap ((w1.alloc _).drewN n2) _ _ _ _ _ ((Bh _ _ _ (by omega)).trans hv1)
 have hc4:W4.heap[b0+1]? =some (.cells #[.int .u64 lo,.int .u64 hi] 157 (0,0)):=by
  rw[hW];exact(setRow_other ((w1.alloc _).drewN n2) _ _ _ (by omega)).trans ((Bh _ _ _ (by omega)).trans hc1)
 have hr4:W4.heap[b0+1+1]? =some (.cells #[.int .u64 0,.int .u64 0,.int .u64 0,.int .u64 0,.int .u64 0,.int .u64 0,.int .u64 0,.int .u64 0,.int .u64 0,.int .u64 0,.int .u64 0,.int .u64 0,.int .u64 0,.int .u64 0,.int .u64 0,.int .u64 0] 181 (0,0)):=by
  rw[hW];exact(setRow_other ((w1.alloc _).drewN n2) _ _ _ (by omega)).trans ((Bh _ _ _ (by omega)).trans hr1)
 have hB4:Below w.heap.size w W4:=by
  rw[hW];exact below_setRow ((hB1.alloc (by omega) _).trans (Qq n2)) (by omega) _
 clear hW hv1 hc1 hr1 hB1;have hs4:b0+4≤W4.heap.size:=by have:=hB4.size;have:=(Ai hv4).1;omega
 obtain⟨cv,fv⟩:=Qd hv4;obtain⟨cc,fc⟩:=Qd hc4;have HV:=hid hv4;have HR:=hid hr4;have HB:=hid hB4;clear hv4 hc4 hr4 hB4;go_upto_region 7 with(fail)
 refine qj ?_;intro W5 hW;have hv5:W5.heap[b0+1+1+1]? =some (.cells #[.int .u64 (wd h 0),.int .u64 (wd h 1),.int .u64 (wd h 2),.int .u64 (wd h 3),.int .u64 (wd h 4),.int .u64 (wd h 5),.int .u64 (wd h 6),.int .u64 (wd h 7),.int .u64 7640891576956012808,.int .u64 13503953896175478587,.int .u64 4354685564936845355,.int .u64 11912009170470909681,.int .u64 (bits .xor .u64 5840696475078001361 lo),.int .u64 (bits .xor .u64 11170449401992604703 hi),.int .u64 2270897969802886507,.int .u64 6620516959819538809] 181 (0,0)):=by
  rw[hW];exact block_setCell (i:=13) (block_setCell (i:=12) HV.out _) _
 have hr5:W5.heap[b0+1+1]? =some (.cells #[.int .u64 0,.int .u64 0,.int .u64 0,.int .u64 0,.int .u64 0,.int .u64 0,.int .u64 0,.int .u64 0,.int .u64 0,.int .u64 0,.int .u64 0,.int .u64 0,.int .u64 0,.int .u64 0,.int .u64 0,.int .u64 0] 181 (0,0)):=by
  rw[hW];exact(Below.heap_setCell _ _ _ _ (by simp)).trans ((Below.heap_setCell _ _ _ _ (by simp)).trans HR.out)
 have hB5:Below w.heap.size w W5:=by
  rw[hW];exact(HB.out.setCell (by simp;omega) _).setCell (by simp;omega) _
 clear hW HV HR HB cv fv cc fc;obtain⟨cv,fv⟩:=Qd hv5;have HV:=hid hv5;have HR:=hid hr5;have HB:=hid hB5;clear hv5 hr5 hB5
 cases last<;>cases node
 ·go_upto_region 11 with(fail)
  refine qj ?_;intro W6 hW;have hv6:W6.heap[b0+1+1+1]? =some (.cells #[.int .u64 (wd h 0),.int .u64 (wd h 1),.int .u64 (wd h 2),.int .u64 (wd h 3),.int .u64 (wd h 4),.int .u64 (wd h 5),.int .u64 (wd h 6),.int .u64 (wd h 7),.int .u64 7640891576956012808,.int .u64 13503953896175478587,.int .u64 4354685564936845355,.int .u64 11912009170470909681,.int .u64 (bits .xor .u64 5840696475078001361 lo),.int .u64 (bits .xor .u64 11170449401992604703 hi),.int .u64 2270897969802886507,.int .u64 6620516959819538809] 181 (0,0)):=by
   rw[hW];exact HV.out
  have hr6:W6.heap[b0+1+1]? =some (.cells #[.int .u64 0,.int .u64 0,.int .u64 0,.int .u64 0,.int .u64 0,.int .u64 0,.int .u64 0,.int .u64 0,.int .u64 0,.int .u64 0,.int .u64 0,.int .u64 0,.int .u64 0,.int .u64 0,.int .u64 0,.int .u64 0] 181 (0,0)):=by
   rw[hW];exact HR.out
  have hB6:Below w.heap.size w W6:=by
   rw[hW];exact HB.out
  clear hW HV HR HB cv fv;apply wp_region_lit
  refine wpList_load_row rfl 181 _ rfl (b0+1+1+1) rfl _ _ _ _ hv6 Tryz.underlying181 rfl (by kernel_rfl) ?_;refine wpList_store_row rfl 181 _ _ rfl (b0+1+1) _ rfl rfl 181 _ hr6 (by kernel_rfl) (by kernel_rfl) (by kernel_rfl) ?_;simp only[Act.put,Ls];go_wp2_with fail
  exact Bp (results_cell_row rfl _ _ _ _ _ _ _ rfl (setRow_heap _ _ _ _ _ _ hr6) Tryz.underlying181 rfl (by kernel_rfl)) rfl ⟨rfl,below_setRow (hB6.mono (by omega)) (by omega) _⟩
 ·go_upto_region 11 with(fail)
  refine qj ?_;intro W6 hW;have hv6:W6.heap[b0+1+1+1]? =some (.cells #[.int .u64 (wd h 0),.int .u64 (wd h 1),.int .u64 (wd h 2),.int .u64 (wd h 3),.int .u64 (wd h 4),.int .u64 (wd h 5),.int .u64 (wd h 6),.int .u64 (wd h 7),.int .u64 7640891576956012808,.int .u64 13503953896175478587,.int .u64 4354685564936845355,.int .u64 11912009170470909681,.int .u64 (bits .xor .u64 5840696475078001361 lo),.int .u64 (bits .xor .u64 11170449401992604703 hi),.int .u64 2270897969802886507,.int .u64 (bits .xor .u64 (IntKind.max .u64) 6620516959819538809)] 181 (0,0)):=by
   rw[hW];exact(block_setCell (i:=15) HV.out _)
  have hr6:W6.heap[b0+1+1]? =some (.cells #[.int .u64 0,.int .u64 0,.int .u64 0,.int .u64 0,.int .u64 0,.int .u64 0,.int .u64 0,.int .u64 0,.int .u64 0,.int .u64 0,.int .u64 0,.int .u64 0,.int .u64 0,.int .u64 0,.int .u64 0,.int .u64 0] 181 (0,0)):=by
   rw[hW];exact((Below.heap_setCell _ _ _ _ (by simp)).trans HR.out)
  have hB6:Below w.heap.size w W6:=by
   rw[hW];exact(HB.out.setCell (by simp;omega) _)
  clear hW HV HR HB cv fv;apply wp_region_lit
  refine wpList_load_row rfl 181 _ rfl (b0+1+1+1) rfl _ _ _ _ hv6 Tryz.underlying181 rfl (by kernel_rfl) ?_;refine wpList_store_row rfl 181 _ _ rfl (b0+1+1) _ rfl rfl 181 _ hr6 (by kernel_rfl) (by kernel_rfl) (by kernel_rfl) ?_;simp only[Act.put,Ls];go_wp2_with fail
  exact Bp (results_cell_row rfl _ _ _ _ _ _ _ rfl (setRow_heap _ _ _ _ _ _ hr6) Tryz.underlying181 rfl (by kernel_rfl)) rfl ⟨rfl,below_setRow (hB6.mono (by omega)) (by omega) _⟩
 ·go_upto_region 11 with(fail)
  refine qj ?_;intro W6 hW;have hv6:W6.heap[b0+1+1+1]? =some (.cells #[.int .u64 (wd h 0),.int .u64 (wd h 1),.int .u64 (wd h 2),.int .u64 (wd h 3),.int .u64 (wd h 4),.int .u64 (wd h 5),.int .u64 (wd h 6),.int .u64 (wd h 7),.int .u64 7640891576956012808,.int .u64 13503953896175478587,.int .u64 4354685564936845355,.int .u64 11912009170470909681,.int .u64 (bits .xor .u64 5840696475078001361 lo),.int .u64 (bits .xor .u64 11170449401992604703 hi),.int .u64 (bits .xor .u64 (IntKind.max .u64) 2270897969802886507),.int .u64 6620516959819538809] 181 (0,0)):=by
   rw[hW];exact(block_setCell (i:=14) HV.out _)
  have hr6:W6.heap[b0+1+1]? =some (.cells #[.int .u64 0,.int .u64 0,.int .u64 0,.int .u64 0,.int .u64 0,.int .u64 0,.int .u64 0,.int .u64 0,.int .u64 0,.int .u64 0,.int .u64 0,.int .u64 0,.int .u64 0,.int .u64 0,.int .u64 0,.int .u64 0] 181 (0,0)):=by
   rw[hW];exact((Below.heap_setCell _ _ _ _ (by simp)).trans HR.out)
  have hB6:Below w.heap.size w W6:=by
   rw[hW];exact(HB.out.setCell (by simp;omega) _)
  clear hW HV HR HB cv fv;apply wp_region_lit
  refine wpList_load_row rfl 181 _ rfl (b0+1+1+1) rfl _ _ _ _ hv6 Tryz.underlying181 rfl (by kernel_rfl) ?_;refine wpList_store_row rfl 181 _ _ rfl (b0+1+1) _ rfl rfl 181 _ hr6 (by kernel_rfl) (by kernel_rfl) (by kernel_rfl) ?_;simp only[Act.put,Ls];go_wp2_with fail
  exact Bp (results_cell_row rfl _ _ _ _ _ _ _ rfl (setRow_heap _ _ _ _ _ _ hr6) Tryz.underlying181 rfl (by kernel_rfl)) rfl ⟨rfl,below_setRow (hB6.mono (by omega)) (by omega) _⟩
 ·go_upto_region 11 with(fail)
  refine qj ?_;intro W6 hW;have hv6:W6.heap[b0+1+1+1]? =some (.cells #[.int .u64 (wd h 0),.int .u64 (wd h 1),.int .u64 (wd h 2),.int .u64 (wd h 3),.int .u64 (wd h 4),.int .u64 (wd h 5),.int .u64 (wd h 6),.int .u64 (wd h 7),.int .u64 7640891576956012808,.int .u64 13503953896175478587,.int .u64 4354685564936845355,.int .u64 11912009170470909681,.int .u64 (bits .xor .u64 5840696475078001361 lo),.int .u64 (bits .xor .u64 11170449401992604703 hi),.int .u64 (bits .xor .u64 (IntKind.max .u64) 2270897969802886507),.int .u64 (bits .xor .u64 (IntKind.max .u64) 6620516959819538809)] 181 (0,0)):=by
   rw[hW];exact(block_setCell (i:=15) (block_setCell (i:=14) HV.out _) _)
  have hr6:W6.heap[b0+1+1]? =some (.cells #[.int .u64 0,.int .u64 0,.int .u64 0,.int .u64 0,.int .u64 0,.int .u64 0,.int .u64 0,.int .u64 0,.int .u64 0,.int .u64 0,.int .u64 0,.int .u64 0,.int .u64 0,.int .u64 0,.int .u64 0,.int .u64 0] 181 (0,0)):=by
   rw[hW];exact((Below.heap_setCell _ _ _ _ (by simp)).trans ((Below.heap_setCell _ _ _ _ (by simp)).trans HR.out))
  have hB6:Below w.heap.size w W6:=by
   rw[hW];exact((HB.out.setCell (by simp;omega) _).setCell (by simp;omega) _)
  clear hW HV HR HB cv fv;apply wp_region_lit
  refine wpList_load_row rfl 181 _ rfl (b0+1+1+1) rfl _ _ _ _ hv6 Tryz.underlying181 rfl (by kernel_rfl) ?_;refine wpList_store_row rfl 181 _ _ rfl (b0+1+1) _ rfl rfl 181 _ hr6 (by kernel_rfl) (by kernel_rfl) (by kernel_rfl) ?_;simp only[Act.put,Ls];go_wp2_with fail
  exact Bp (results_cell_row rfl _ _ _ _ _ _ _ rfl (setRow_heap _ _ _ _ _ _ hr6) Tryz.underlying181 rfl (by kernel_rfl)) rfl ⟨rfl,below_setRow (hB6.mono (by omega)) (by omega) _⟩
theorem qbE (h:List Int)(c:Int)(hc0:0≤c)(hc1:c<18446744073709551616)(last node:Bool)(w:World):Calls Tryz.prog 141 #[.agg #[.int .u32 (wd h 0),.int .u32 (wd h 1),.int .u32 (wd h 2),.int .u32 (wd h 3),.int .u32 (wd h 4),.int .u32 (wd h 5),.int .u32 (wd h 6),.int .u32 (wd h 7)],.int .u64 c,.bool last,.bool node] w fun e w'=>e= .returned (.agg (qm .u32 (Jk .u32 IVs h (c%4294967296) (c/4294967296) last node)))∧Below w.heap.size w w':=by
 obtain⟨b0,hb0⟩:=Ex w.heap.size;go_enter Tryz.func141,Tryz.ntmps141
 go_wp2_with fail
 refine(qcO _).mono ?_;rintro e1 w1 ⟨rfl,hb1⟩;have hh1:=(hb1.block b0 (by simp;omega)).trans ((Bh _ _ _ (by simp;omega)).trans ((Bh _ _ _ (by simp;omega)).trans (qc _ _ hb0.symm)));have hr1:=(hb1.block (b0+1) (by simp;omega)).trans ((Bh _ _ _ (by simp;omega)).trans (qc _ _ (by simp;omega)));have hv1:=(hb1.block (b0+1+1) (by simp;omega)).trans (qc _ _ (by simp;omega));have hs1:b0+3≤w1.heap.size:=by have:=hb1.size;simp at this;omega
 have hB1:Below w.heap.size w w1:=((((Below.refl w.heap.size w).alloc Nl _).alloc (by simp) _).alloc (by simp;omega) _).trans (hb1.mono (by simp;omega));clear hb1;go_wp2_with fail
 refine qj ?_;intro W hW;have hh:W.heap[b0]? =some (.cells #[.int .u32 (wd h 0),.int .u32 (wd h 1),.int .u32 (wd h 2),.int .u32 (wd h 3),.int .u32 (wd h 4),.int .u32 (wd h 5),.int .u32 (wd h 6),.int .u32 (wd h 7)] 160 (0,0)):=by
  rw[hW];exact(Bh _ _ _ (by omega)).trans hh1
 have hr:W.heap[b0+1]? =some (.cells #[.int .u32 0,.int .u32 0,.int .u32 0,.int .u32 0,.int .u32 0,.int .u32 0,.int .u32 0,.int .u32 0,.int .u32 0,.int .u32 0,.int .u32 0,.int .u32 0,.int .u32 0,.int .u32 0,.int .u32 0,.int .u32 0] 198 (0,0)):=by
  rw[hW];exact(Bh _ _ _ (by omega)).trans hr1
 have hv:W.heap[b0+1+1]? =some (.cells #[.int .u32 0,.int .u32 0,.int .u32 0,.int .u32 0,.int .u32 0,.int .u32 0,.int .u32 0,.int .u32 0,.int .u32 0,.int .u32 0,.int .u32 0,.int .u32 0,.int .u32 0,.int .u32 0,.int .u32 0,.int .u32 0] 198 (0,0)):=by
  rw[hW];exact(Bh _ _ _ (by omega)).trans hv1
 have hi:W.heap[w1.heap.size]? =some (.cells #[.int .u32 1779033703,.int .u32 3144134277,.int .u32 1013904242,.int .u32 2773480762,.int .u32 1359893119,.int .u32 2600822924,.int .u32 528734635,.int .u32 1541459225] 160 (0,0)):=by
  rw[hW];exact Wn _ _
 have hB:Below w.heap.size w W:=by rw[hW];exact hB1.alloc (by omega) _
 have hs:W.heap.size=w1.heap.size+1:=by rw[hW];simp
 clear hW hh1 hr1 hv1 hB1;refine qe (by dsimp only[List.dropLast]) (by rfl) (by rfl) (by kernel_rfl) (by kernel_rfl) (by kernel_rfl) (by kernel_rfl) ?_;repeat(go_big_quiet_step (fail))
 refine wpQuiet_nil ?_;intro _ hw';obtain⟨n1,rfl⟩:=hw';refine wpList_copy_own rfl _ _ _ _ rfl 23 Tryz.underlying196 rfl (b0+1+1) 0 8 16 ⟨b0,0,none⟩ 8 8 rfl rfl #[.int .u32 0,.int .u32 0,.int .u32 0,.int .u32 0,.int .u32 0,.int .u32 0,.int .u32 0,.int .u32 0,.int .u32 0,.int .u32 0,.int .u32 0,.int .u32 0,.int .u32 0,.int .u32 0,.int .u32 0,.int .u32 0] 198 hv [.int .u32 (wd h 0),.int .u32 (wd h 1),.int .u32 (wd h 2),.int .u32 (wd h 3),.int .u32 (wd h 4),.int .u32 (wd h 5),.int .u32 (wd h 6),.int .u32 (wd h 7)] rfl
  (jR (W:=W.drewN n1) hh) (by simp) (by simp[Value.oneCell']) ?_
 refine wpList_nil ?_;simp only[Act.put,Ls];go_wp2_with fail
 refine qj ?_;intro W2 hW;have hv2:W2.heap[b0+1+1]? =some (.cells #[.int .u32 (wd h 0),.int .u32 (wd h 1),.int .u32 (wd h 2),.int .u32 (wd h 3),.int .u32 (wd h 4),.int .u32 (wd h 5),.int .u32 (wd h 6),.int .u32 (wd h 7),.int .u32 0,.int .u32 0,.int .u32 0,.int .u32 0,.int .u32 0,.int .u32 0,.int .u32 0,.int .u32 0] 198 (0,0)):=by
  rw[hW];exact setRow_heap (W.drewN n1) _ _ _ _ _ hv
 have hr2:W2.heap[b0+1]? =some (.cells #[.int .u32 0,.int .u32 0,.int .u32 0,.int .u32 0,.int .u32 0,.int .u32 0,.int .u32 0,.int .u32 0,.int .u32 0,.int .u32 0,.int .u32 0,.int .u32 0,.int .u32 0,.int .u32 0,.int .u32 0,.int .u32 0] 198 (0,0)):=by
  rw[hW];exact(setRow_other (W.drewN n1) _ _ _ (by omega)).trans hr
 have hi2:W2.heap[w1.heap.size]? =some (.cells #[.int .u32 1779033703,.int .u32 3144134277,.int .u32 1013904242,.int .u32 2773480762,.int .u32 1359893119,.int .u32 2600822924,.int .u32 528734635,.int .u32 1541459225] 160 (0,0)):=by
  rw[hW];exact(setRow_other (W.drewN n1) _ _ _ (by omega)).trans hi
 have hB2:Below w.heap.size w W2:=by rw[hW];exact below_setRow (hB.trans (Qq n1)) (by omega) _
 clear hW hh hr hv hi hB;refine qe (by dsimp only[List.dropLast]) (by rfl) (by rfl) (by kernel_rfl) (by kernel_rfl) (by kernel_rfl) (by kernel_rfl) ?_;repeat(go_big_quiet_step (fail))
 refine wpQuiet_nil ?_;intro _ hw';obtain⟨n2,rfl⟩:=hw';refine wpList_copy_own rfl _ _ _ _ rfl 23 Tryz.underlying196 rfl (b0+1+1) 8 8 8 ⟨w1.heap.size,0,none⟩ 8 8 rfl rfl #[.int .u32 (wd h 0),.int .u32 (wd h 1),.int .u32 (wd h 2),.int .u32 (wd h 3),.int .u32 (wd h 4),.int .u32 (wd h 5),.int .u32 (wd h 6),.int .u32 (wd h 7),.int .u32 0,.int .u32 0,.int .u32 0,.int .u32 0,.int .u32 0,.int .u32 0,.int .u32 0,.int .u32 0] 198 hv2 [.int .u32 1779033703,.int .u32 3144134277,.int .u32 1013904242,.int .u32 2773480762,.int .u32 1359893119,.int .u32 2600822924,.int .u32 528734635,.int .u32 1541459225] rfl
  (jR (W:=W2.drewN n2) hi2) (by simp) (by simp[Value.oneCell']) ?_
 go_upto_region 5 with(fail)
 refine qj ?_;intro W4 hW;have hv4:W4.heap[b0+1+1]? =some (.cells #[.int .u32 (wd h 0),.int .u32 (wd h 1),.int .u32 (wd h 2),.int .u32 (wd h 3),.int .u32 (wd h 4),.int .u32 (wd h 5),.int .u32 (wd h 6),.int .u32 (wd h 7),.int .u32 1779033703,.int .u32 3144134277,.int .u32 1013904242,.int .u32 2773480762,.int .u32 1359893119,.int .u32 2600822924,.int .u32 528734635,.int .u32 1541459225] 198 (0,0)):=by
  rw[hW];exact setRow_heap (W2.drewN n2) _ _ _ _ _ hv2
 have hr4:W4.heap[b0+1]? =some (.cells #[.int .u32 0,.int .u32 0,.int .u32 0,.int .u32 0,.int .u32 0,.int .u32 0,.int .u32 0,.int .u32 0,.int .u32 0,.int .u32 0,.int .u32 0,.int .u32 0,.int .u32 0,.int .u32 0,.int .u32 0,.int .u32 0] 198 (0,0)):=by
  rw[hW];exact(setRow_other (W2.drewN n2) _ _ _ (by omega)).trans hr2
 have hB4:Below w.heap.size w W4:=by rw[hW];exact below_setRow (hB2.trans (Qq n2)) (by omega) _
 clear hW hv2 hr2 hi2 hB2 hs;have hs4:=(Ai hv4).1;obtain⟨cv,fv⟩:=Qd hv4;have HV:=hid hv4;have HR:=hid hr4;have HB:=hid hB4;clear hv4 hr4 hB4;go_upto_region 7 with(fail)
 refine qj ?_;intro W5 hW;have hv5:W5.heap[b0+1+1]? =some (.cells #[.int .u32 (wd h 0),.int .u32 (wd h 1),.int .u32 (wd h 2),.int .u32 (wd h 3),.int .u32 (wd h 4),.int .u32 (wd h 5),.int .u32 (wd h 6),.int .u32 (wd h 7),.int .u32 1779033703,.int .u32 3144134277,.int .u32 1013904242,.int .u32 2773480762,.int .u32 (bits .xor .u32 1359893119 (c%4294967296)),.int .u32 (bits .xor .u32 2600822924 (c/4294967296)),.int .u32 528734635,.int .u32 1541459225] 198 (0,0)):=by
  rw[hW];exact block_setCell (i:=13) (block_setCell (i:=12) HV.out _) _
 have hr5:W5.heap[b0+1]? =some (.cells #[.int .u32 0,.int .u32 0,.int .u32 0,.int .u32 0,.int .u32 0,.int .u32 0,.int .u32 0,.int .u32 0,.int .u32 0,.int .u32 0,.int .u32 0,.int .u32 0,.int .u32 0,.int .u32 0,.int .u32 0,.int .u32 0] 198 (0,0)):=by
  rw[hW];exact(Below.heap_setCell _ _ _ _ (by simp)).trans ((Below.heap_setCell _ _ _ _ (by simp)).trans HR.out)
 have hB5:Below w.heap.size w W5:=by
  rw[hW];exact(HB.out.setCell (by simp;omega) _).setCell (by simp;omega) _
 clear hW HV HR HB cv fv;have hs5:=(Ai hv5).1;obtain⟨cv,fv⟩:=Qd hv5;have HV:=hid hv5;have HR:=hid hr5;have HB:=hid hB5;clear hv5 hr5 hB5
 cases last<;>cases node
 ·go_upto_region 11 with(fail)
  refine qj ?_;intro W6 hW;have hv6:W6.heap[b0+1+1]? =some (.cells #[.int .u32 (wd h 0),.int .u32 (wd h 1),.int .u32 (wd h 2),.int .u32 (wd h 3),.int .u32 (wd h 4),.int .u32 (wd h 5),.int .u32 (wd h 6),.int .u32 (wd h 7),.int .u32 1779033703,.int .u32 3144134277,.int .u32 1013904242,.int .u32 2773480762,.int .u32 (bits .xor .u32 1359893119 (c%4294967296)),.int .u32 (bits .xor .u32 2600822924 (c/4294967296)),.int .u32 528734635,.int .u32 1541459225] 198 (0,0)):=by
   rw[hW];exact HV.out
  have hr6:W6.heap[b0+1]? =some (.cells #[.int .u32 0,.int .u32 0,.int .u32 0,.int .u32 0,.int .u32 0,.int .u32 0,.int .u32 0,.int .u32 0,.int .u32 0,.int .u32 0,.int .u32 0,.int .u32 0,.int .u32 0,.int .u32 0,.int .u32 0,.int .u32 0] 198 (0,0)):=by
   rw[hW];exact HR.out
  have hB6:Below w.heap.size w W6:=by
   rw[hW];exact HB.out
  clear hW HV HR HB cv fv;apply wp_region_lit
  refine wpList_load_row rfl 198 _ rfl (b0+1+1) rfl _ _ _ _ hv6 Tryz.underlying198 rfl (by kernel_rfl) ?_;refine wpList_store_row rfl 198 _ _ rfl (b0+1) _ rfl rfl 198 _ hr6 (by kernel_rfl) (by kernel_rfl) (by kernel_rfl) ?_;simp only[Act.put,Ls];go_wp2_with fail
  exact Bp (results_cell_row rfl _ _ _ _ _ _ _ rfl (setRow_heap _ _ _ _ _ _ hr6) Tryz.underlying198 rfl (by kernel_rfl)) rfl ⟨rfl,below_setRow (hB6.mono (by omega)) (by omega) _⟩
 ·go_upto_region 11 with(fail)
  refine qj ?_;intro W6 hW;have hv6:W6.heap[b0+1+1]? =some (.cells #[.int .u32 (wd h 0),.int .u32 (wd h 1),.int .u32 (wd h 2),.int .u32 (wd h 3),.int .u32 (wd h 4),.int .u32 (wd h 5),.int .u32 (wd h 6),.int .u32 (wd h 7),.int .u32 1779033703,.int .u32 3144134277,.int .u32 1013904242,.int .u32 2773480762,.int .u32 (bits .xor .u32 1359893119 (c%4294967296)),.int .u32 (bits .xor .u32 2600822924 (c/4294967296)),.int .u32 528734635,.int .u32 (bits .xor .u32 (IntKind.max .u32) 1541459225)] 198 (0,0)):=by
   rw[hW];exact(block_setCell (i:=15) HV.out _)
  have hr6:W6.heap[b0+1]? =some (.cells #[.int .u32 0,.int .u32 0,.int .u32 0,.int .u32 0,.int .u32 0,.int .u32 0,.int .u32 0,.int .u32 0,.int .u32 0,.int .u32 0,.int .u32 0,.int .u32 0,.int .u32 0,.int .u32 0,.int .u32 0,.int .u32 0] 198 (0,0)):=by
   rw[hW];exact((Below.heap_setCell _ _ _ _ (by simp)).trans HR.out)
  have hB6:Below w.heap.size w W6:=by
   rw[hW];exact(HB.out.setCell (by simp;omega) _)
  clear hW HV HR HB cv fv;apply wp_region_lit
  refine wpList_load_row rfl 198 _ rfl (b0+1+1) rfl _ _ _ _ hv6 Tryz.underlying198 rfl (by kernel_rfl) ?_;refine wpList_store_row rfl 198 _ _ rfl (b0+1) _ rfl rfl 198 _ hr6 (by kernel_rfl) (by kernel_rfl) (by kernel_rfl) ?_;simp only[Act.put,Ls];go_wp2_with fail
  exact Bp (results_cell_row rfl _ _ _ _ _ _ _ rfl (setRow_heap _ _ _ _ _ _ hr6) Tryz.underlying198 rfl (by kernel_rfl)) rfl ⟨rfl,below_setRow (hB6.mono (by omega)) (by omega) _⟩
 ·go_upto_region 11 with(fail)
  refine qj ?_;intro W6 hW;have hv6:W6.heap[b0+1+1]? =some (.cells #[.int .u32 (wd h 0),.int .u32 (wd h 1),.int .u32 (wd h 2),.int .u32 (wd h 3),.int .u32 (wd h 4),.int .u32 (wd h 5),.int .u32 (wd h 6),.int .u32 (wd h 7),.int .u32 1779033703,.int .u32 3144134277,.int .u32 1013904242,.int .u32 2773480762,.int .u32 (bits .xor .u32 1359893119 (c%4294967296)),.int .u32 (bits .xor .u32 2600822924 (c/4294967296)),.int .u32 (bits .xor .u32 (IntKind.max .u32) 528734635),.int .u32 1541459225] 198 (0,0)):=by
   rw[hW];exact(block_setCell (i:=14) HV.out _)
  have hr6:W6.heap[b0+1]? =some (.cells #[.int .u32 0,.int .u32 0,.int .u32 0,.int .u32 0,.int .u32 0,.int .u32 0,.int .u32 0,.int .u32 0,.int .u32 0,.int .u32 0,.int .u32 0,.int .u32 0,.int .u32 0,.int .u32 0,.int .u32 0,.int .u32 0] 198 (0,0)):=by
   rw[hW];exact((Below.heap_setCell _ _ _ _ (by simp)).trans HR.out)
  have hB6:Below w.heap.size w W6:=by
   rw[hW];exact(HB.out.setCell (by simp;omega) _)
  clear hW HV HR HB cv fv;apply wp_region_lit
  refine wpList_load_row rfl 198 _ rfl (b0+1+1) rfl _ _ _ _ hv6 Tryz.underlying198 rfl (by kernel_rfl) ?_;refine wpList_store_row rfl 198 _ _ rfl (b0+1) _ rfl rfl 198 _ hr6 (by kernel_rfl) (by kernel_rfl) (by kernel_rfl) ?_;simp only[Act.put,Ls];go_wp2_with fail
  exact Bp (results_cell_row rfl _ _ _ _ _ _ _ rfl (setRow_heap _ _ _ _ _ _ hr6) Tryz.underlying198 rfl (by kernel_rfl)) rfl ⟨rfl,below_setRow (hB6.mono (by omega)) (by omega) _⟩
 ·go_upto_region 11 with(fail)
  refine qj ?_;intro W6 hW;have hv6:W6.heap[b0+1+1]? =some (.cells #[.int .u32 (wd h 0),.int .u32 (wd h 1),.int .u32 (wd h 2),.int .u32 (wd h 3),.int .u32 (wd h 4),.int .u32 (wd h 5),.int .u32 (wd h 6),.int .u32 (wd h 7),.int .u32 1779033703,.int .u32 3144134277,.int .u32 1013904242,.int .u32 2773480762,.int .u32 (bits .xor .u32 1359893119 (c%4294967296)),.int .u32 (bits .xor .u32 2600822924 (c/4294967296)),.int .u32 (bits .xor .u32 (IntKind.max .u32) 528734635),.int .u32 (bits .xor .u32 (IntKind.max .u32) 1541459225)] 198 (0,0)):=by
   rw[hW];exact(block_setCell (i:=15) (block_setCell (i:=14) HV.out _) _)
  have hr6:W6.heap[b0+1]? =some (.cells #[.int .u32 0,.int .u32 0,.int .u32 0,.int .u32 0,.int .u32 0,.int .u32 0,.int .u32 0,.int .u32 0,.int .u32 0,.int .u32 0,.int .u32 0,.int .u32 0,.int .u32 0,.int .u32 0,.int .u32 0,.int .u32 0] 198 (0,0)):=by
   rw[hW];exact((Below.heap_setCell _ _ _ _ (by simp)).trans ((Below.heap_setCell _ _ _ _ (by simp)).trans HR.out))
  have hB6:Below w.heap.size w W6:=by
   rw[hW];exact((HB.out.setCell (by simp;omega) _).setCell (by simp;omega) _)
  clear hW HV HR HB cv fv;apply wp_region_lit
  refine wpList_load_row rfl 198 _ rfl (b0+1+1) rfl _ _ _ _ hv6 Tryz.underlying198 rfl (by kernel_rfl) ?_;refine wpList_store_row rfl 198 _ _ rfl (b0+1) _ rfl rfl 198 _ hr6 (by kernel_rfl) (by kernel_rfl) (by kernel_rfl) ?_;simp only[Act.put,Ls];go_wp2_with fail
  exact Bp (results_cell_row rfl _ _ _ _ _ _ _ rfl (setRow_heap _ _ _ _ _ _ hr6) Tryz.underlying198 rfl (by kernel_rfl)) rfl ⟨rfl,below_setRow (hB6.mono (by omega)) (by omega) _⟩
def zp (k:IntKind)(h v:List Int):Nat→List Int
 | 0=>h
 | i+1=>(zp k h v i).set i (bits .xor k (wd h i) (bits .xor k (wd v i) (wd v (i+8))))
def jy (K:MixK)(iv:List Int)(n:Nat)(h M:List Int)(x y:Int)(last node:Bool):List Int:=
 zp K.k h (K.rounds (Jk K.k iv h x y last node) M n) 8
theorem QO {k:IntKind}{N:Nat}(hm: ∀z,k.wrap z=z%2^N){h v:List Int}(hh:Words N 8 h): ∀i,Words N 8 (zp k h v i)
 | 0=>hh
 | i+1=>Words.set (QO hm hh i) (qQ _ _ _ hm _ _)
theorem Zr {k:IntKind}{h v:List Int}: ∀i j,i≤j→wd (zp k h v i) j=wd h j
 | 0,j,_=>rfl
 | i+1,j,hj=>by
  have ih:=Zr (k:=k) (h:=h) (v:=v) i j (by omega);simp only[zp];unfold wd at*;rw[Lg,List.getElem?_set,if_neg (by omega),←Lg];exact ih
theorem qg {k:IntKind}{L:List Int}:(qm k L).size=L.length:=by simp[qm]
theorem qU {k:IntKind}{L:List Int}:(qm k L).all (·.oneCell')=true:=by simp[qm,Value.oneCell']
theorem jv {k:IntKind}{N:Nat}(hm: ∀z,k.wrap z=z%2^N){iv h:List Int}(hi:Words N 8 iv)(hh:Words N 8 h)(x y:Int)(last node:Bool):Words N 16 (Jk k iv h x y last node):=by
 refine⟨rfl,fun z hz=>?_⟩;simp only[Jk,List.mem_cons,List.not_mem_nil,or_false]at hz;have bx:=fun a b=>qQ .xor k N hm a b
 rcases hz with rfl|rfl|rfl|rfl|rfl|rfl|rfl|rfl|rfl|rfl|rfl|rfl|rfl|rfl|rfl|rfl
 all_goals first|exact hh.at (by decide)|exact hi.at (by decide)|exact bx _ _|skip
 all_goals split
 all_goals first|exact hi.at (by decide)|exact bx _ _
theorem qdH:Words 64 8 IVb:=⟨rfl,by decide⟩
theorem qdG:Words 32 8 IVs:=⟨rfl,by decide⟩
theorem Zc {k:IntKind}{N:Nat}{L:List Int}(h:Words N 8 L):qm k L= #[.int k (wd L 0),.int k (wd L 1),.int k (wd L 2),.int k (wd L 3),.int k (wd L 4),.int k (wd L 5),.int k (wd L 6),.int k (wd L 7)]:=by
 obtain⟨hl, -⟩:=h;match L,hl with
 | [a,b,c,d,e,f,g,i],_=>rfl
theorem qe5 (h M:List Int)(hh:Words 64 8 h)(hM:Words 64 16 M)(lo hi:Int)(last node:Bool)(w:World):Calls Tryz.prog 114 #[.agg (qm .u64 h),.agg (qm .u64 M),.agg #[.int .u64 lo,.int .u64 hi],.bool last,.bool node] w fun e w'=>e= .returned (.agg (qm .u64 (jy mixBig IVb 12 h M lo hi last node)))∧Below w.heap.size w w':=by
 obtain⟨b0,hb0⟩:=Ex w.heap.size;have HC:=hid (qch h lo hi last node);have hW0:=jv (k:= .u64) (fun z=>IntKind.wrap_u64 z) qdH hh lo hi last node;unfold jy;rw[show mixBig.k= .u64 from rfl];generalize Jk .u64 IVb h lo hi last node=L0 at*;have hh':=hh;rw[Zc hh];go_enter Tryz.func114,Tryz.ntmps114
 go_wp2_with fail
 refine(HC.out _).mono ?_;rintro e1 w1 ⟨rfl,hb1⟩;have hh1:=(hb1.block b0 (by simp;omega)).trans ((Bh _ _ _ (by simp;omega)).trans ((Bh _ _ _ (by simp;omega)).trans ((Bh _ _ _ (by simp;omega)).trans (qc _ _ hb0.symm))));have hm1:=(hb1.block (b0+1) (by simp;omega)).trans ((Bh _ _ _ (by simp;omega)).trans ((Bh _ _ _ (by simp;omega)).trans (qc _ _ (by simp;omega))));have hr1:=(hb1.block (b0+1+1+1) (by simp;omega)).trans (qc _ _ (by simp;omega));have hs1:b0+4≤w1.heap.size:=by have:=hb1.size;simp at this;omega
 have hB1:Below w.heap.size w w1:=(((((Below.refl w.heap.size w).alloc Nl _).alloc (by simp) _).alloc (by simp;omega) _).alloc (by simp;omega) _).trans (hb1.mono (by simp;omega));clear hb1 HC;go_wp2_with ((with_reducible show wpList _ _ _ (Oper.mk none (Op.store 181 _ _) _ _ _ _::_) _ _);refine wpList_store_row rfl 181 _ _ rfl w1.heap.size (qm .u64 L0) rfl rfl 181 _ (Wn _ _) (by rw[qg,hW0.1];kernel_rfl) (by rw[qg,hW0.1];rfl) qU ?_)
 clear hh;refine qj ?_;intro W hW;obtain⟨bv,hbv⟩:=Ex w1.heap.size;have hh:W.heap[b0]? =some (.cells #[.int .u64 (wd h 0),.int .u64 (wd h 1),.int .u64 (wd h 2),.int .u64 (wd h 3),.int .u64 (wd h 4),.int .u64 (wd h 5),.int .u64 (wd h 6),.int .u64 (wd h 7)] 150 (0,0)):=by
  rw[hW];exact(setRow_other (w1.alloc _) _ _ _ (by omega)).trans ((Bh _ _ _ (by omega)).trans hh1)
 have hm:W.heap[b0+1]? =some (.cells (qm .u64 M) 181 (0,0)):=by
  rw[hW];exact(setRow_other (w1.alloc _) _ _ _ (by omega)).trans ((Bh _ _ _ (by omega)).trans hm1)
 have hr:W.heap[b0+1+1+1]? =some (.cells #[.int .u64 0,.int .u64 0,.int .u64 0,.int .u64 0,.int .u64 0,.int .u64 0,.int .u64 0,.int .u64 0] 150 (0,0)):=by
  rw[hW];exact(setRow_other (w1.alloc _) _ _ _ (by omega)).trans ((Bh _ _ _ (by omega)).trans hr1)
 have hv:W.heap[bv]? =some (.cells (qm .u64 L0) 181 (0,0)):=by
  rw[hW,←hbv];exact setRow_heap _ _ _ _ _ _ (Wn _ _)
 have hB:Below w.heap.size w W:=by
  rw[hW];exact below_setRow (hB1.alloc (by omega) _) (by omega) _
 rw[←Zc hh']at hh;rw[hbv];have hbb:b0+4≤bv:=by omega
 clear hW hh1 hm1 hr1 hs1 hB1 hbv;have HH:=hid hh;have HM:=hid hm;have HR:=hid hr;have HV:=hid hv;have HB:=hid hB;have hbs:bv<W.heap.size:=(Ai hv).1;clear hh hm hr hv hB;go_loopw [19] (fun i wr=> ∃j:Nat,i= .int .i64 j∧j≤12∧wr.heap[bv]? =some (.cells (qm .u64 (mixBig.rounds L0 M j)) 181 (0,0))∧But bv W wr) (fun i _=>12 - (intOf i).toNat)
 case atStart=>exact⟨0,rfl,Nat.zero_le _,HV.out,But.refl _ _⟩
 case round=>
  obtain⟨j,rfl,hj,hv,hB⟩:=hrel;have hm:=(hB.block (b0+1) (by omega) (by omega)).trans HM.out;have HVr:=hid hv;have HMr:=hid hm;have HBr:=hid hB;clear hv hm hB;by_cases hlt:j<12
  ·go_wp2_with fail
   refine(qbQ bv (b0+1) (by omega) (mixBig.rounds L0 M j) M (yb QD hW0 j) hM j hlt 181 181 _ HVr.out HMr.out).mono ?_;rintro e2 w2 ⟨rfl,hv2,hB2⟩
   have HV2:=hid hv2;have HB2:=hid (HBr.out.trans hB2);clear hv2 hB2;go_wp2
   exact⟨⟨j+1,rfl,by omega,HV2.out,HB2.out⟩,by simp[intOf];omega⟩
  ·obtain rfl:j=12:=by omega
   go_wp2_with fail
   have hV:=yb QD hW0 (M:=M) 12;obtain⟨V,hVe⟩:=Ex (mixBig.rounds L0 M 12);have HVe:=hid (show Ending.returned (.agg (qm .u64 (zp .u64 h V 8)))= .returned (.agg (qm .u64 (zp .u64 h (mixBig.rounds L0 M 12) 8))) by rw[hVe]);rw[hVe]at hV HVr;clear hVe;have hh3:=(HBr.out.block b0 (by omega) (by omega)).trans HH.out;have hr3:=(HBr.out.block (b0+1+1+1) (by omega) (by omega)).trans HR.out;have hv3:=HVr.out;have hB3:Below w.heap.size w wr:=HB.out.trans (HBr.out.below (by omega) HB.out.size);have HH3:=hid hh3;have HR3:=hid hr3;have HB3:=hid hB3;have hs3:bv<wr.heap.size:=(Ai hv3).1;have HV3:=hid hv3;clear hh3 hr3 hB3 HVr HMr HBr HH HR HM HV HB hv3;generalize wr=w3 at*;go_loopw [25] (fun i w4=> ∃j:Nat,i= .int .i64 j∧j≤8∧w4.heap[b0]? =some (.cells (qm .u64 (zp .u64 h V j)) 150 (0,0))∧But b0 w3 w4) (fun i _=>8 - (intOf i).toNat)
   case atStart=>exact⟨0,rfl,Nat.zero_le _,HH3.out,But.refl _ _⟩
   case round=>
    obtain⟨j,rfl,hj,hh4,hB4⟩:=hrel;have hs4:=hB4.size;have hv4:=(hB4.block bv hs3 (by omega)).trans HV3.out;have q1:bv<wr.heap.size:=by omega
    have q2:b0<wr.heap.size:=by omega
    have HH4:=hid hh4;have HB4:=hid hB4;by_cases hlt:j<8
    ·have c1:wr.cell? ⟨b0,j,none⟩=some (.int .u64 (wd h j)):=by
      rw[qi hh4,qy (QO (fun z=>IntKind.wrap_u64 z) hh' j) hlt,Zr j j Nl]
     have c2:wr.cell? ⟨bv,j,none⟩=some (.int .u64 (wd V j)):=(qi hv4 _).trans (qy hV (by omega));have c3:wr.cell? ⟨bv,j+8,none⟩=some (.int .u64 (wd V (j+8))):=(qi hv4 _).trans (qy hV (by omega));have f1: ∀o,wr.frozen? ⟨b0,o,none⟩=false:=(Qd hh4).2;have hj8:IntKind.i64.wrap ((j:Int)+8)=((j+8:Nat):Int):=by rw[IntKind.wrap_i64];omega
     have hlt16:j+8<16:=by omega
     clear hh4 hv4 hB4;go_wp2_with fail
     refine qe (by dsimp only[List.dropLast]) (by rfl) (by rfl) (by kernel_rfl) (by kernel_rfl) (by kernel_rfl) (by kernel_rfl) ?_;repeat(go_big_quiet_step (fail))
     refine wpQuiet_nil ?_;intro _ hw';obtain⟨n1,rfl⟩:=hw';go_wp2_with fail
     exact⟨⟨j+1,rfl,by omega,by rw[zp,←QX];exact block_setCell (w:=wr.drewN n1) HH4.out _,(HB4.out.drewN n1).set _ _⟩,by simp[intOf];omega⟩
    ·obtain rfl:j=8:=by omega
     have hr5:=(hB4.block (b0+1+1+1) (by omega) (by omega)).trans HR3.out;have hF:=QO (k:= .u64) (fun z=>IntKind.wrap_u64 z) (v:=V) hh' 8;have HB5:=hid (HB3.out.trans (HB4.out.below (by omega) HB3.out.size));clear hh4 hv4 hB4;go_upto_region 12 with(fail)
     apply wp_region_lit
     refine wpList_load_row rfl 150 _ rfl b0 rfl _ _ _ _ HH4.out Tryz.underlying150 rfl (by rw[qg,hF.1];kernel_rfl) ?_;refine wpList_store_row rfl 150 _ _ rfl (b0+1+1+1) (qm .u64 (zp .u64 h V 8)) rfl rfl 150 _ hr5 (by rw[qg,hF.1];kernel_rfl) (by rw[qg,hF.1];rfl) qU ?_;simp only[Act.put,Ls];go_wp2_with fail
     exact Bp (results_cell_row rfl _ _ _ _ _ _ _ rfl (setRow_heap _ _ _ _ _ _ hr5) Tryz.underlying150 rfl (by rw[qg,hF.1];kernel_rfl)) rfl ⟨HVe.out,below_setRow (HB5.out.mono (by omega)) (by omega) _⟩
theorem qds (h V:List Int)(hh':Words 32 8 h)(hV:Words 32 16 V)(w:World):Calls Tryz.prog 143 #[.agg (qm .u32 h),.agg (qm .u32 V)] w fun e w'=>e= .returned (.agg (qm .u32 (zp .u32 h V 8)))∧Below w.heap.size w w':=by
 obtain⟨b0,hb0⟩:=Ex w.heap.size;go_enter Tryz.func143,Tryz.ntmps143
 go_wp2_with fail
 refine qj ?_;intro w3 hW;have hh3:w3.heap[b0]? =some (.cells (qm .u32 h) 160 (0,0)):=by
  rw[hW];exact(Bh _ _ _ (by simp;omega)).trans ((Bh _ _ _ (by simp;omega)).trans (qc _ _ hb0.symm))
 have hv3:w3.heap[b0+1]? =some (.cells (qm .u32 V) 198 (0,0)):=by
  rw[hW];exact(Bh _ _ _ (by simp;omega)).trans (qc _ _ (by simp;omega))
 have hr3:w3.heap[b0+1+1]? =some (.cells #[.int .u32 0,.int .u32 0,.int .u32 0,.int .u32 0,.int .u32 0,.int .u32 0,.int .u32 0,.int .u32 0] 160 (0,0)):=by
  rw[hW];exact qc _ _ (by simp;omega)
 have hB3:Below w.heap.size w w3:=by
  rw[hW];exact(((Below.refl w.heap.size w).alloc Nl _).alloc (by simp) _).alloc (by simp;omega) _
 clear hW;have HH3:=hid hh3;have HV3:=hid hv3;have HR3:=hid hr3;have HB3:=hid hB3;have hs3:b0+1<w3.heap.size:=(Ai hv3).1;have hs3':b0+1+1<w3.heap.size:=(Ai hr3).1;clear hh3 hv3 hr3 hB3;go_loopw [6] (fun i w4=> ∃j:Nat,i= .int .i64 j∧j≤8∧w4.heap[b0]? =some (.cells (qm .u32 (zp .u32 h V j)) 160 (0,0))∧But b0 w3 w4) (fun i _=>8 - (intOf i).toNat)
 case atStart=>exact⟨0,rfl,Nat.zero_le _,HH3.out,But.refl _ _⟩
 case round=>
  obtain⟨j,rfl,hj,hh4,hB4⟩:=hrel;have hs4:=hB4.size;have hv4:=(hB4.block (b0+1) hs3 (by omega)).trans HV3.out;have q1:b0+1<wr.heap.size:=by omega
  have q2:b0<wr.heap.size:=by omega
  have HH4:=hid hh4;have HB4:=hid hB4;by_cases hlt:j<8
  ·have c1:wr.cell? ⟨b0,j,none⟩=some (.int .u32 (wd h j)):=by
    rw[qi hh4,qy (QO (fun z=>IntKind.wrap_u32 z) hh' j) hlt,Zr j j Nl]
   have c2:wr.cell? ⟨b0+1,j,none⟩=some (.int .u32 (wd V j)):=(qi hv4 _).trans (qy hV (by omega));have c3:wr.cell? ⟨b0+1,j+8,none⟩=some (.int .u32 (wd V (j+8))):=(qi hv4 _).trans (qy hV (by omega));have f1: ∀o,wr.frozen? ⟨b0,o,none⟩=false:=(Qd hh4).2;have hj8:IntKind.i64.wrap ((j:Int)+8)=((j+8:Nat):Int):=by rw[IntKind.wrap_i64];omega
   have hlt16:j+8<16:=by omega
   clear hh4 hv4 hB4;go_wp2_with fail
   refine qe (by dsimp only[List.dropLast]) (by rfl) (by rfl) (by kernel_rfl) (by kernel_rfl) (by kernel_rfl) (by kernel_rfl) ?_;repeat(go_big_quiet_step (fail))
   refine wpQuiet_nil ?_;intro _ hw';obtain⟨n1,rfl⟩:=hw';go_wp2_with fail
   exact⟨⟨j+1,rfl,by omega,by rw[zp,←QX];exact block_setCell (w:=wr.drewN n1) HH4.out _,(HB4.out.drewN n1).set _ _⟩,by simp[intOf];omega⟩
  ·obtain rfl:j=8:=by omega
   have hr5:=(hB4.block (b0+1+1) (by omega) (by omega)).trans HR3.out;have hF:=QO (k:= .u32) (fun z=>IntKind.wrap_u32 z) (v:=V) hh' 8;have HB5:=hid (HB3.out.trans (HB4.out.below (by omega) HB3.out.size));clear hh4 hv4 hB4;go_upto_region 6 with(fail)
   apply wp_region_lit
   refine wpList_load_row rfl 160 _ rfl b0 rfl _ _ _ _ HH4.out Tryz.underlying160 rfl (by rw[qg,hF.1];kernel_rfl) ?_;refine wpList_store_row rfl 160 _ _ rfl (b0+1+1) (qm .u32 (zp .u32 h V 8)) rfl rfl 160 _ hr5 (by rw[qg,hF.1];kernel_rfl) (by rw[qg,hF.1];rfl) qU ?_;simp only[Act.put,Ls];go_wp2_with fail
   exact Bp (results_cell_row rfl _ _ _ _ _ _ _ rfl (setRow_heap _ _ _ _ _ _ hr5) Tryz.underlying160 rfl (by rw[qg,hF.1];kernel_rfl)) rfl ⟨rfl,below_setRow (HB5.out.mono (by omega)) (by omega) _⟩
theorem qe6 (h M:List Int)(hh:Words 32 8 h)(hM:Words 32 16 M)(c:Int)(hc0:0≤c)(hc1:c<18446744073709551616)(last node:Bool)(w:World):Calls Tryz.prog 120 #[.agg (qm .u32 h),.agg (qm .u32 M),.int .u64 c,.bool last,.bool node] w fun e w'=>e= .returned (.agg (qm .u32 (jy mixSmall IVs 10 h M (c%4294967296) (c/4294967296) last node)))∧Below w.heap.size w w':=by
 obtain⟨b0,hb0⟩:=Ex w.heap.size;have HC:=hid (qbE h c hc0 hc1 last node);have hW0:=jv (k:= .u32) (fun z=>IntKind.wrap_u32 z) qdG hh (c%4294967296) (c/4294967296) last node;unfold jy;rw[show mixSmall.k= .u32 from rfl];generalize Jk .u32 IVs h (c%4294967296) (c/4294967296) last node=L0 at*;have hh':=hh;rw[Zc hh];go_enter Tryz.func120,Tryz.ntmps120
 go_wp2_with fail
 refine(HC.out _).mono ?_;rintro e1 w1 ⟨rfl,hb1⟩;have hh1:=(hb1.block b0 (by simp;omega)).trans ((Bh _ _ _ (by simp;omega)).trans ((Bh _ _ _ (by simp;omega)).trans (qc _ _ hb0.symm)));have hm1:=(hb1.block (b0+1) (by simp;omega)).trans ((Bh _ _ _ (by simp;omega)).trans (qc _ _ (by simp;omega)));have hr1:=(hb1.block (b0+1+1) (by simp;omega)).trans (qc _ _ (by simp;omega));have hs1:b0+3≤w1.heap.size:=by have:=hb1.size;simp at this;omega
 have hB1:Below w.heap.size w w1:=((((Below.refl w.heap.size w).alloc Nl _).alloc (by simp) _).alloc (by simp;omega) _).trans (hb1.mono (by simp;omega));clear hb1 HC;go_wp2_with ((with_reducible show wpList _ _ _ (Oper.mk none (Op.store 198 _ _) _ _ _ _::_) _ _);refine wpList_store_row rfl 198 _ _ rfl w1.heap.size (qm .u32 L0) rfl rfl 198 _ (Wn _ _) (by rw[qg,hW0.1];kernel_rfl) (by rw[qg,hW0.1];rfl) qU ?_)
 clear hh;refine qj ?_;intro W hW;obtain⟨bv,hbv⟩:=Ex w1.heap.size;have hh:W.heap[b0]? =some (.cells #[.int .u32 (wd h 0),.int .u32 (wd h 1),.int .u32 (wd h 2),.int .u32 (wd h 3),.int .u32 (wd h 4),.int .u32 (wd h 5),.int .u32 (wd h 6),.int .u32 (wd h 7)] 160 (0,0)):=by
  rw[hW];exact(setRow_other (w1.alloc _) _ _ _ (by omega)).trans ((Bh _ _ _ (by omega)).trans hh1)
 have hm:W.heap[b0+1]? =some (.cells (qm .u32 M) 198 (0,0)):=by
  rw[hW];exact(setRow_other (w1.alloc _) _ _ _ (by omega)).trans ((Bh _ _ _ (by omega)).trans hm1)
 have hr:W.heap[b0+1+1]? =some (.cells #[.int .u32 0,.int .u32 0,.int .u32 0,.int .u32 0,.int .u32 0,.int .u32 0,.int .u32 0,.int .u32 0] 160 (0,0)):=by
  rw[hW];exact(setRow_other (w1.alloc _) _ _ _ (by omega)).trans ((Bh _ _ _ (by omega)).trans hr1)
 have hv:W.heap[bv]? =some (.cells (qm .u32 L0) 198 (0,0)):=by
  rw[hW,←hbv];exact setRow_heap _ _ _ _ _ _ (Wn _ _)
 have hB:Below w.heap.size w W:=by
  rw[hW];exact below_setRow (hB1.alloc (by omega) _) (by omega) _
 rw[←Zc hh']at hh;rw[hbv];have hbb:b0+3≤bv:=by omega
 clear hW hh1 hm1 hr1 hs1 hB1 hbv;have HH:=hid hh;have HM:=hid hm;have HR:=hid hr;have HV:=hid hv;have HB:=hid hB;have hbs:bv<W.heap.size:=(Ai hv).1;clear hh hm hr hv hB;go_loopw [18] (fun i wr=> ∃j:Nat,i= .int .i64 j∧j≤10∧wr.heap[bv]? =some (.cells (qm .u32 (mixSmall.rounds L0 M j)) 198 (0,0))∧But bv W wr) (fun i _=>10 - (intOf i).toNat)
 case atStart=>exact⟨0,rfl,Nat.zero_le _,HV.out,But.refl _ _⟩
 case round=>
  obtain⟨j,rfl,hj,hv,hB⟩:=hrel;have hm:=(hB.block (b0+1) (by omega) (by omega)).trans HM.out;have HVr:=hid hv;have HMr:=hid hm;have HBr:=hid hB;clear hv hm hB;by_cases hlt:j<10
  ·go_wp2_with fail
   refine(qbR bv (b0+1) (by omega) (mixSmall.rounds L0 M j) M (yb qZ hW0 j) hM j (by omega) 198 198 _ HVr.out HMr.out).mono ?_;rintro e2 w2 ⟨rfl,hv2,hB2⟩
   have HV2:=hid hv2;have HB2:=hid (HBr.out.trans hB2);clear hv2 hB2;go_wp2
   exact⟨⟨j+1,rfl,by omega,HV2.out,HB2.out⟩,by simp[intOf];omega⟩
  ·obtain rfl:j=10:=by omega
   have hV:=yb qZ hW0 (M:=M) 10;obtain⟨V,hVe⟩:=Ex (mixSmall.rounds L0 M 10);have HVe:=hid (show Ending.returned (.agg (qm .u32 (zp .u32 h V 8)))= .returned (.agg (qm .u32 (zp .u32 h (mixSmall.rounds L0 M 10) 8))) by rw[hVe]);rw[hVe]at hV HVr;clear hVe;have hh3:=(HBr.out.block b0 (by omega) (by omega)).trans HH.out;have hr3:=(HBr.out.block (b0+1+1) (by omega) (by omega)).trans HR.out;have hB3:Below w.heap.size w wr:=HB.out.trans (HBr.out.below (by omega) HB.out.size);have HH3:=hid hh3;have HR3:=hid hr3;have HB3:=hid hB3;have hs3:bv<wr.heap.size:=(Ai HVr.out).1;have hF:=QO (k:= .u32) (fun z=>IntKind.wrap_u32 z) (v:=V) hh' 8;clear hh3 hr3 hB3 HMr HBr HH HR HM HV HB;go_upto_region 7 with(fail)
   apply wp_region_lit
   refine wpList_load_row rfl 160 _ rfl b0 rfl _ _ _ _ HH3.out Tryz.underlying160 rfl (by rw[qg,hh'.1];kernel_rfl) ?_;refine wpList_load_row rfl 198 _ rfl bv rfl _ _ _ _ HVr.out Tryz.underlying198 rfl (by rw[qg,hV.1];kernel_rfl) ?_;simp only[Act.put,Ls];go_wp2_with fail
   refine(qds h V hh' hV _).mono ?_;rintro e6 w6 ⟨rfl,hb6⟩
   have hr6:=(hb6.block (b0+1+1) (by omega)).trans HR3.out;have HB6:=hid (HB3.out.trans (hb6.mono HB3.out.size));clear hb6;go_wp2_with ((with_reducible show wpList _ _ _ (Oper.mk none (Op.store 160 _ _) _ _ _ _::_) _ _);refine wpList_store_row rfl 160 _ _ rfl (b0+1+1) (qm .u32 (zp .u32 h V 8)) rfl rfl 160 _ hr6 (by rw[qg,hF.1];kernel_rfl) (by rw[qg,hF.1];rfl) qU ?_)
   exact Bp (results_cell_row rfl _ _ _ _ _ _ _ rfl (setRow_heap _ _ _ _ _ _ hr6) Tryz.underlying160 rfl (by rw[qg,hF.1];kernel_rfl)) rfl ⟨HVe.out,below_setRow (HB6.out.mono (by omega)) (by omega) _⟩
theorem Qk {P:Program}{fn:Func}{p u:Tmp}{ty:TypeId}(h:fn.results= #[.cell p ty,.tmp u])(tmps:Array Value)(w:World)(g:Nat)(t:TypeId)(cs:Array Value)(fr:Nat×Nat)(d:TypeDesc)
  (hp:tmps.getD p undef= .pointer (some ⟨g,0,none⟩)) (hg:w.heap[g]? =some (.cells cs t fr))
  (hu:P.underlying ty=some d) (hd:(match d with| .struct _| .array _ _=>true|_=>false)=true) (hi:(P.info? ty).map (·.size)=some cs.size):
  (results fn tmps).run P w= .ok (.tuple #[.agg cs,tmps.getD u undef]) w:=by
 rw[results_cell_tmp h,hp];simp[asAddr,run_loadVar_row w g t ty cs fr d hg hu hd hi]
theorem yQ {fn:Func}{t u v x:Tmp}(h:fn.results= #[.tmp t,.tmp u,.tmp v,.tmp x])(tmps:Array Value)(P:Program)(w:World):
  (results fn tmps).run P w= .ok (.tuple #[tmps.getD t undef,tmps.getD u undef,tmps.getD v undef,tmps.getD x undef]) w:=by
 simp[results,h]
end Go.Proofs.YtdndeffmlhaipaaGreatDoor

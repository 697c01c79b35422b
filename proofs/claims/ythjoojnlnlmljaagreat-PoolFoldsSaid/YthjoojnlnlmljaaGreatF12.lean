/- The beginning of the rounds, by the program. No condition. -/
import Derived.Test.YthjoojnlnlmljaaGreatF11
import Derived.Laws.CopyOwn
import Derived.Laws.Strings
import Derived.Laws.ResultCell
set_option linter.all false
set_option maxRecDepth 100000
set_option maxHeartbeats 8000000
namespace Go.Proofs.YthjoojnlnlmljaaGreat
open Go.ChangeShapes Go.WideShapes Go.ChangeAt Go.RowKit Go.Joins
open Go.Lib (hid)
attribute [local go_sem] Oper.semAt_some
def IVb:List Int:=[7640891576956012808,13503953896175478587,4354685564936845355,11912009170470909681,5840696475078001361,11170449401992604703,2270897969802886507,6620516959819538809]
def IVs:List Int:=[1779033703,3144134277,1013904242,2773480762,1359893119,2600822924,528734635,1541459225]
theorem QF {B:Nat}{w:World}(n:Nat):Below B w (w.drewN n):=⟨rfl,rfl,rfl,Nat.le_refl _,fun _ _=>rfl⟩
theorem qhX (g off j:Nat):(⟨g,off,none⟩:Addr).add j=⟨g,off+j,none⟩:=by unfold Addr.add;split<;>simp_all
theorem jR {W:World}{b:Nat}{cs:List Value}{T:TypeId}{fr:Nat×Nat}(h:W.heap[b]? =some (.cells cs.toArray T fr)): ∀j v,cs[j]? =some v→W.cell? ((⟨b,0,none⟩:Addr).add j)=some v:=fun j v o=>by
 rw[qhX,Nat.zero_add,qm h];simpa using o
def Yn (k:IntKind)(iv:List Int)(h:List Int)(x y:Int)(last node:Bool):List Int:=
 [wd h 0,wd h 1,wd h 2,wd h 3,wd h 4,wd h 5,wd h 6,wd h 7,wd iv 0,wd iv 1,wd iv 2,wd iv 3,bits .xor k (wd iv 4) x,bits .xor k (wd iv 5) y,
  if last then bits .xor k k.max (wd iv 6) else wd iv 6,if node then bits .xor k k.max (wd iv 7) else wd iv 7]
theorem qfr (w:World):Calls Tryz.prog 197 #[] w fun e w'=>e= .returned (.agg #[.int .u64 7640891576956012808,.int .u64 13503953896175478587,.int .u64 4354685564936845355,.int .u64 11912009170470909681,.int .u64 5840696475078001361,.int .u64 11170449401992604703,.int .u64 2270897969802886507,.int .u64 6620516959819538809])∧Below w.heap.size w w':=by
 go_enter Tryz.func197,Tryz.ntmps197
 go_wp2
 exact Bp (results_cell_row rfl _ _ _ _ _ _ _ rfl (Wn _ _) Tryz.underlying274 rfl rfl) rfl ⟨rfl,Br.alloc Nl _⟩
theorem qfq (w:World):Calls Tryz.prog 202 #[] w fun e w'=>e= .returned (.agg #[.int .u32 1779033703,.int .u32 3144134277,.int .u32 1013904242,.int .u32 2773480762,.int .u32 1359893119,.int .u32 2600822924,.int .u32 528734635,.int .u32 1541459225])∧Below w.heap.size w w':=by
 go_enter Tryz.func202,Tryz.ntmps202
 go_wp2
 exact Bp (results_cell_row rfl _ _ _ _ _ _ _ rfl (Wn _ _) Tryz.underlying284 rfl rfl) rfl ⟨rfl,Br.alloc Nl _⟩
theorem qeS (h:List Int)(X Y:Int)(aa node:Bool)(w:World):Calls Tryz.prog 214 #[.agg #[.int .u64 (wd h 0),.int .u64 (wd h 1),.int .u64 (wd h 2),.int .u64 (wd h 3),.int .u64 (wd h 4),.int .u64 (wd h 5),.int .u64 (wd h 6),.int .u64 (wd h 7)],.agg #[.int .u64 X,.int .u64 Y],.bool aa,.bool node] w fun e w'=>e= .returned (.agg (qg .u64 (Yn .u64 IVb h X Y aa node)))∧Below w.heap.size w w':=by
 obtain⟨q,an⟩:=Ex w.heap.size;go_enter Tryz.func214,Tryz.ntmps214
 go_wp2_with fail
 refine qj ?_;intro W o;have hh:W.heap[q]? =some (.cells #[.int .u64 (wd h 0),.int .u64 (wd h 1),.int .u64 (wd h 2),.int .u64 (wd h 3),.int .u64 (wd h 4),.int .u64 (wd h 5),.int .u64 (wd h 6),.int .u64 (wd h 7)] 274 (0,0)):=by
  rw[o];exact(Bh _ _ _ (by simp;omega)).trans ((Bh _ _ _ (by simp;omega)).trans ((Bh _ _ _ (by simp;omega)).trans (qc _ _ an.symm)))
 have hc:W.heap[q+1]? =some (.cells #[.int .u64 X,.int .u64 Y] 281 (0,0)):=by
  rw[o];exact(Bh _ _ _ (by simp;omega)).trans ((Bh _ _ _ (by simp;omega)).trans (qc _ _ (by simp;omega)))
 have hr:W.heap[q+1+1]? =some (.cells #[.int .u64 0,.int .u64 0,.int .u64 0,.int .u64 0,.int .u64 0,.int .u64 0,.int .u64 0,.int .u64 0,.int .u64 0,.int .u64 0,.int .u64 0,.int .u64 0,.int .u64 0,.int .u64 0,.int .u64 0,.int .u64 0] 252 (0,0)):=by
  rw[o];exact(Bh _ _ _ (by simp;omega)).trans (qc _ _ (by simp;omega))
 have hv:W.heap[q+1+1+1]? =some (.cells #[.int .u64 0,.int .u64 0,.int .u64 0,.int .u64 0,.int .u64 0,.int .u64 0,.int .u64 0,.int .u64 0,.int .u64 0,.int .u64 0,.int .u64 0,.int .u64 0,.int .u64 0,.int .u64 0,.int .u64 0,.int .u64 0] 252 (0,0)):=by
  rw[o];exact qc _ _ (by simp;omega)
 have hB:Below w.heap.size w W:=by
  rw[o];exact(((Br.alloc Nl _).alloc (by simp) _).alloc (by simp;omega) _).alloc (by simp;omega) _
 have hs:W.heap.size=q+4:=by rw[o];simp;omega
 clear o;refine qh (by dsimp only[List.dropLast]) (by rfl) (by rfl) (by kernel_rfl) (by kernel_rfl) (by kernel_rfl) (by kernel_rfl) ?_;repeat(go_big_quiet_step (fail))
 refine wpQuiet_nil ?_;intro _ af;obtain⟨n1,rfl⟩:=af;refine wpList_copy_own rfl _ _ _ _ rfl 44 Tryz.underlying105 rfl (q+1+1+1) 0 8 16 ⟨q,0,none⟩ 8 8 rfl rfl #[.int .u64 0,.int .u64 0,.int .u64 0,.int .u64 0,.int .u64 0,.int .u64 0,.int .u64 0,.int .u64 0,.int .u64 0,.int .u64 0,.int .u64 0,.int .u64 0,.int .u64 0,.int .u64 0,.int .u64 0,.int .u64 0] 252 hv [.int .u64 (wd h 0),.int .u64 (wd h 1),.int .u64 (wd h 2),.int .u64 (wd h 3),.int .u64 (wd h 4),.int .u64 (wd h 5),.int .u64 (wd h 6),.int .u64 (wd h 7)] rfl
  (jR (W:=W.drewN n1) hh) (by simp) (by simp[Value.oneCell']) ?_
 go_wp2_with fail
 refine(qfr _).mono ?_;rintro e1 Z ⟨rfl,V⟩;have ac:=(V.block (q+1+1+1) (by simp;omega)).trans (setRow_heap (W.drewN n1) _ _ _ _ _ hv);have ah:=(V.block (q+1) (by simp;omega)).trans ((setRow_other (W.drewN n1) _ _ _ (by omega)).trans hc);have am:=(V.block (q+1+1) (by simp;omega)).trans ((setRow_other (W.drewN n1) _ _ _ (by omega)).trans hr);have ap:q+4≤Z.heap.size:=by have:=V.size;simp at this;omega
 have ag:Below w.heap.size w Z:=(below_setRow (hB.trans (QF n1)) (by omega) _).trans (V.mono (by simp;omega));clear V hv hc hr hh hB;go_wp2_with fail
 refine qh (by dsimp only[List.dropLast]) (by rfl) (by rfl) (by kernel_rfl) (by kernel_rfl) (by kernel_rfl) (by kernel_rfl) ?_;repeat(go_big_quiet_step (fail))
 refine wpQuiet_nil ?_;intro _ af;obtain⟨n2,rfl⟩:=af;refine wpList_copy_own rfl _ _ _ _ rfl 44 Tryz.underlying105 rfl (q+1+1+1) 8 8 8 ⟨Z.heap.size,0,none⟩ 8 8 rfl rfl #[.int .u64 (wd h 0),.int .u64 (wd h 1),.int .u64 (wd h 2),.int .u64 (wd h 3),.int .u64 (wd h 4),.int .u64 (wd h 5),.int .u64 (wd h 6),.int .u64 (wd h 7),.int .u64 0,.int .u64 0,.int .u64 0,.int .u64 0,.int .u64 0,.int .u64 0,.int .u64 0,.int .u64 0] 252 ((Bh _ _ _ (by omega)).trans ac) [.int .u64 7640891576956012808,.int .u64 13503953896175478587,.int .u64 4354685564936845355,.int .u64 11912009170470909681,.int .u64 5840696475078001361,.int .u64 11170449401992604703,.int .u64 2270897969802886507,.int .u64 6620516959819538809] rfl
  (jR (W:=(Z.alloc _).drewN n2) (Wn _ _)) (by simp) (by simp[Value.oneCell']) ?_
 go_upto_region 5 with(fail)
 refine qj ?_;intro W4 o;have ab:W4.heap[q+1+1+1]? =some (.cells #[.int .u64 (wd h 0),.int .u64 (wd h 1),.int .u64 (wd h 2),.int .u64 (wd h 3),.int .u64 (wd h 4),.int .u64 (wd h 5),.int .u64 (wd h 6),.int .u64 (wd h 7),.int .u64 7640891576956012808,.int .u64 13503953896175478587,.int .u64 4354685564936845355,.int .u64 11912009170470909681,.int .u64 5840696475078001361,.int .u64 11170449401992604703,.int .u64 2270897969802886507,.int .u64 6620516959819538809] 252 (0,0)):=by
  rw[o];exact setRow_heap ((Z.alloc _).drewN n2) _ _ _ _ _ ((Bh _ _ _ (by omega)).trans ac)
 have aj:W4.heap[q+1]? =some (.cells #[.int .u64 X,.int .u64 Y] 281 (0,0)):=by
  rw[o];exact(setRow_other ((Z.alloc _).drewN n2) _ _ _ (by omega)).trans ((Bh _ _ _ (by omega)).trans ah)
 have ak:W4.heap[q+1+1]? =some (.cells #[.int .u64 0,.int .u64 0,.int .u64 0,.int .u64 0,.int .u64 0,.int .u64 0,.int .u64 0,.int .u64 0,.int .u64 0,.int .u64 0,.int .u64 0,.int .u64 0,.int .u64 0,.int .u64 0,.int .u64 0,.int .u64 0] 252 (0,0)):=by
  rw[o];exact(setRow_other ((Z.alloc _).drewN n2) _ _ _ (by omega)).trans ((Bh _ _ _ (by omega)).trans am)
 have ae:Below w.heap.size w W4:=by
  rw[o];exact below_setRow ((ag.alloc (by omega) _).trans (QF n2)) (by omega) _
 clear o ac ah am ag;have ao:q+4≤W4.heap.size:=by have:=ae.size;have:=(Ai ab).1;omega
 obtain⟨cv,fv⟩:=qK ab;obtain⟨cc,fc⟩:=qK aj;have O:=hid ab;have I:=hid ak;have U:=hid ae;clear ab aj ak ae;go_upto_region 7 with(fail)
 refine qj ?_;intro W5 o;have ad:W5.heap[q+1+1+1]? =some (.cells #[.int .u64 (wd h 0),.int .u64 (wd h 1),.int .u64 (wd h 2),.int .u64 (wd h 3),.int .u64 (wd h 4),.int .u64 (wd h 5),.int .u64 (wd h 6),.int .u64 (wd h 7),.int .u64 7640891576956012808,.int .u64 13503953896175478587,.int .u64 4354685564936845355,.int .u64 11912009170470909681,.int .u64 (bits .xor .u64 5840696475078001361 X),.int .u64 (bits .xor .u64 11170449401992604703 Y),.int .u64 2270897969802886507,.int .u64 6620516959819538809] 252 (0,0)):=by
  rw[o];exact block_setCell (i:=13) (block_setCell (i:=12) O.out _) _
 have ai:W5.heap[q+1+1]? =some (.cells #[.int .u64 0,.int .u64 0,.int .u64 0,.int .u64 0,.int .u64 0,.int .u64 0,.int .u64 0,.int .u64 0,.int .u64 0,.int .u64 0,.int .u64 0,.int .u64 0,.int .u64 0,.int .u64 0,.int .u64 0,.int .u64 0] 252 (0,0)):=by
  rw[o];exact(Below.heap_setCell _ _ _ _ (by simp)).trans ((Below.heap_setCell _ _ _ _ (by simp)).trans I.out)
 have al:Below w.heap.size w W5:=by
  rw[o];exact(U.out.setCell (by simp;omega) _).setCell (by simp;omega) _
 clear o O I U cv fv cc fc;obtain⟨cv,fv⟩:=qK ad;have O:=hid ad;have I:=hid ai;have U:=hid al;clear ad ai al
 cases aa<;>cases node
 ·go_upto_region 11 with(fail)
  refine qj ?_;intro G o;have J:G.heap[q+1+1+1]? =some (.cells #[.int .u64 (wd h 0),.int .u64 (wd h 1),.int .u64 (wd h 2),.int .u64 (wd h 3),.int .u64 (wd h 4),.int .u64 (wd h 5),.int .u64 (wd h 6),.int .u64 (wd h 7),.int .u64 7640891576956012808,.int .u64 13503953896175478587,.int .u64 4354685564936845355,.int .u64 11912009170470909681,.int .u64 (bits .xor .u64 5840696475078001361 X),.int .u64 (bits .xor .u64 11170449401992604703 Y),.int .u64 2270897969802886507,.int .u64 6620516959819538809] 252 (0,0)):=by
   rw[o];exact O.out
  have D:G.heap[q+1+1]? =some (.cells #[.int .u64 0,.int .u64 0,.int .u64 0,.int .u64 0,.int .u64 0,.int .u64 0,.int .u64 0,.int .u64 0,.int .u64 0,.int .u64 0,.int .u64 0,.int .u64 0,.int .u64 0,.int .u64 0,.int .u64 0,.int .u64 0] 252 (0,0)):=by
   rw[o];exact I.out
  have S:Below w.heap.size w G:=by
   rw[o];exact U.out
  clear o O I U cv fv;apply wp_region_lit
  refine wpList_load_row rfl 252 _ rfl (q+1+1+1) rfl _ _ _ _ J Tryz.underlying252 rfl (by kernel_rfl) ?_;refine wpList_store_row rfl 252 _ _ rfl (q+1+1) _ rfl rfl 252 _ D (by kernel_rfl) (by kernel_rfl) (by kernel_rfl) ?_;simp only[Act.put,Ls];go_wp2_with fail
  exact Bp (results_cell_row rfl _ _ _ _ _ _ _ rfl (setRow_heap _ _ _ _ _ _ D) Tryz.underlying252 rfl (by kernel_rfl)) rfl ⟨rfl,below_setRow (S.mono (by omega)) (by omega) _⟩
 ·go_upto_region 11 with(fail)
  refine qj ?_;intro G o;have J:G.heap[q+1+1+1]? =some (.cells #[.int .u64 (wd h 0),.int .u64 (wd h 1),.int .u64 (wd h 2),.int .u64 (wd h 3),.int .u64 (wd h 4),.int .u64 (wd h 5),.int .u64 (wd h 6),.int .u64 (wd h 7),.int .u64 7640891576956012808,.int .u64 13503953896175478587,.int .u64 4354685564936845355,.int .u64 11912009170470909681,.int .u64 (bits .xor .u64 5840696475078001361 X),.int .u64 (bits .xor .u64 11170449401992604703 Y),.int .u64 2270897969802886507,.int .u64 (bits .xor .u64 (IntKind.max .u64) 6620516959819538809)] 252 (0,0)):=by
   rw[o];exact(block_setCell (i:=15) O.out _)
  have D:G.heap[q+1+1]? =some (.cells #[.int .u64 0,.int .u64 0,.int .u64 0,.int .u64 0,.int .u64 0,.int .u64 0,.int .u64 0,.int .u64 0,.int .u64 0,.int .u64 0,.int .u64 0,.int .u64 0,.int .u64 0,.int .u64 0,.int .u64 0,.int .u64 0] 252 (0,0)):=by
   rw[o];exact((Below.heap_setCell _ _ _ _ (by simp)).trans I.out)
  have S:Below w.heap.size w G:=by
   rw[o];exact(U.out.setCell (by simp;omega) _)
  clear o O I U cv fv;apply wp_region_lit
  refine wpList_load_row rfl 252 _ rfl (q+1+1+1) rfl _ _ _ _ J Tryz.underlying252 rfl (by kernel_rfl) ?_;refine wpList_store_row rfl 252 _ _ rfl (q+1+1) _ rfl rfl 252 _ D (by kernel_rfl) (by kernel_rfl) (by kernel_rfl) ?_;simp only[Act.put,Ls];go_wp2_with fail
  exact Bp (results_cell_row rfl _ _ _ _ _ _ _ rfl (setRow_heap _ _ _ _ _ _ D) Tryz.underlying252 rfl (by kernel_rfl)) rfl ⟨rfl,below_setRow (S.mono (by omega)) (by omega) _⟩
 ·go_upto_region 11 with(fail)
  refine qj ?_;intro G o;have J:G.heap[q+1+1+1]? =some (.cells #[.int .u64 (wd h 0),.int .u64 (wd h 1),.int .u64 (wd h 2),.int .u64 (wd h 3),.int .u64 (wd h 4),.int .u64 (wd h 5),.int .u64 (wd h 6),.int .u64 (wd h 7),.int .u64 7640891576956012808,.int .u64 13503953896175478587,.int .u64 4354685564936845355,.int .u64 11912009170470909681,.int .u64 (bits .xor .u64 5840696475078001361 X),.int .u64 (bits .xor .u64 11170449401992604703 Y),.int .u64 (bits .xor .u64 (IntKind.max .u64) 2270897969802886507),.int .u64 6620516959819538809] 252 (0,0)):=by
   rw[o];exact(block_setCell (i:=14) O.out _)
  have D:G.heap[q+1+1]? =some (.cells #[.int .u64 0,.int .u64 0,.int .u64 0,.int .u64 0,.int .u64 0,.int .u64 0,.int .u64 0,.int .u64 0,.int .u64 0,.int .u64 0,.int .u64 0,.int .u64 0,.int .u64 0,.int .u64 0,.int .u64 0,.int .u64 0] 252 (0,0)):=by
   rw[o];exact((Below.heap_setCell _ _ _ _ (by simp)).trans I.out)
  have S:Below w.heap.size w G:=by
   rw[o];exact(U.out.setCell (by simp;omega) _)
  clear o O I U cv fv;apply wp_region_lit
  refine wpList_load_row rfl 252 _ rfl (q+1+1+1) rfl _ _ _ _ J Tryz.underlying252 rfl (by kernel_rfl) ?_;refine wpList_store_row rfl 252 _ _ rfl (q+1+1) _ rfl rfl 252 _ D (by kernel_rfl) (by kernel_rfl) (by kernel_rfl) ?_;simp only[Act.put,Ls];go_wp2_with fail
  exact Bp (results_cell_row rfl _ _ _ _ _ _ _ rfl (setRow_heap _ _ _ _ _ _ D) Tryz.underlying252 rfl (by kernel_rfl)) rfl ⟨rfl,below_setRow (S.mono (by omega)) (by omega) _⟩
 ·go_upto_region 11 with(fail)
  refine qj ?_;intro G o;have J:G.heap[q+1+1+1]? =some (.cells #[.int .u64 (wd h 0),.int .u64 (wd h 1),.int .u64 (wd h 2),.int .u64 (wd h 3),.int .u64 (wd h 4),.int .u64 (wd h 5),.int .u64 (wd h 6),.int .u64 (wd h 7),.int .u64 7640891576956012808,.int .u64 13503953896175478587,.int .u64 4354685564936845355,.int .u64 11912009170470909681,.int .u64 (bits .xor .u64 5840696475078001361 X),.int .u64 (bits .xor .u64 11170449401992604703 Y),.int .u64 (bits .xor .u64 (IntKind.max .u64) 2270897969802886507),.int .u64 (bits .xor .u64 (IntKind.max .u64) 6620516959819538809)] 252 (0,0)):=by
   rw[o];exact(block_setCell (i:=15) (block_setCell (i:=14) O.out _) _)
  have D:G.heap[q+1+1]? =some (.cells #[.int .u64 0,.int .u64 0,.int .u64 0,.int .u64 0,.int .u64 0,.int .u64 0,.int .u64 0,.int .u64 0,.int .u64 0,.int .u64 0,.int .u64 0,.int .u64 0,.int .u64 0,.int .u64 0,.int .u64 0,.int .u64 0] 252 (0,0)):=by
   rw[o];exact((Below.heap_setCell _ _ _ _ (by simp)).trans ((Below.heap_setCell _ _ _ _ (by simp)).trans I.out))
  have S:Below w.heap.size w G:=by
   rw[o];exact((U.out.setCell (by simp;omega) _).setCell (by simp;omega) _)
  clear o O I U cv fv;apply wp_region_lit
  refine wpList_load_row rfl 252 _ rfl (q+1+1+1) rfl _ _ _ _ J Tryz.underlying252 rfl (by kernel_rfl) ?_;refine wpList_store_row rfl 252 _ _ rfl (q+1+1) _ rfl rfl 252 _ D (by kernel_rfl) (by kernel_rfl) (by kernel_rfl) ?_;simp only[Act.put,Ls];go_wp2_with fail
  exact Bp (results_cell_row rfl _ _ _ _ _ _ _ rfl (setRow_heap _ _ _ _ _ _ D) Tryz.underlying252 rfl (by kernel_rfl)) rfl ⟨rfl,below_setRow (S.mono (by omega)) (by omega) _⟩
theorem qdU (h:List Int)(c:Int)(ar:0≤c)(aq:c<18446744073709551616)(Y node:Bool)(w:World):Calls Tryz.prog 217 #[.agg #[.int .u32 (wd h 0),.int .u32 (wd h 1),.int .u32 (wd h 2),.int .u32 (wd h 3),.int .u32 (wd h 4),.int .u32 (wd h 5),.int .u32 (wd h 6),.int .u32 (wd h 7)],.int .u64 c,.bool Y,.bool node] w fun e w'=>e= .returned (.agg (qg .u32 (Yn .u32 IVs h (c%4294967296) (c/4294967296) Y node)))∧Below w.heap.size w w':=by
 obtain⟨q,ao⟩:=Ex w.heap.size;go_enter Tryz.func217,Tryz.ntmps217
 go_wp2_with fail
 refine(qfq _).mono ?_;rintro e1 w1 ⟨rfl,V⟩;have am:=(V.block q (by simp;omega)).trans ((Bh _ _ _ (by simp;omega)).trans ((Bh _ _ _ (by simp;omega)).trans (qc _ _ ao.symm)));have al:=(V.block (q+1) (by simp;omega)).trans ((Bh _ _ _ (by simp;omega)).trans (qc _ _ (by simp;omega)));have ag:=(V.block (q+1+1) (by simp;omega)).trans (qc _ _ (by simp;omega));have av:q+3≤w1.heap.size:=by have:=V.size;simp at this;omega
 have ae:Below w.heap.size w w1:=((((Below.refl w.heap.size w).alloc Nl _).alloc (by simp) _).alloc (by simp;omega) _).trans (V.mono (by simp;omega));clear V;go_wp2_with fail
 refine qj ?_;intro W o;have hh:W.heap[q]? =some (.cells #[.int .u32 (wd h 0),.int .u32 (wd h 1),.int .u32 (wd h 2),.int .u32 (wd h 3),.int .u32 (wd h 4),.int .u32 (wd h 5),.int .u32 (wd h 6),.int .u32 (wd h 7)] 284 (0,0)):=by
  rw[o];exact(Bh _ _ _ (by omega)).trans am
 have hr:W.heap[q+1]? =some (.cells #[.int .u32 0,.int .u32 0,.int .u32 0,.int .u32 0,.int .u32 0,.int .u32 0,.int .u32 0,.int .u32 0,.int .u32 0,.int .u32 0,.int .u32 0,.int .u32 0,.int .u32 0,.int .u32 0,.int .u32 0,.int .u32 0] 298 (0,0)):=by
  rw[o];exact(Bh _ _ _ (by omega)).trans al
 have hv:W.heap[q+1+1]? =some (.cells #[.int .u32 0,.int .u32 0,.int .u32 0,.int .u32 0,.int .u32 0,.int .u32 0,.int .u32 0,.int .u32 0,.int .u32 0,.int .u32 0,.int .u32 0,.int .u32 0,.int .u32 0,.int .u32 0,.int .u32 0,.int .u32 0] 298 (0,0)):=by
  rw[o];exact(Bh _ _ _ (by omega)).trans ag
 have hi:W.heap[w1.heap.size]? =some (.cells #[.int .u32 1779033703,.int .u32 3144134277,.int .u32 1013904242,.int .u32 2773480762,.int .u32 1359893119,.int .u32 2600822924,.int .u32 528734635,.int .u32 1541459225] 284 (0,0)):=by
  rw[o];exact Wn _ _
 have hB:Below w.heap.size w W:=by rw[o];exact ae.alloc (by omega) _
 have hs:W.heap.size=w1.heap.size+1:=by rw[o];simp
 clear o am al ag ae;refine qh (by dsimp only[List.dropLast]) (by rfl) (by rfl) (by kernel_rfl) (by kernel_rfl) (by kernel_rfl) (by kernel_rfl) ?_;repeat(go_big_quiet_step (fail))
 refine wpQuiet_nil ?_;intro _ ac;obtain⟨n1,rfl⟩:=ac;refine wpList_copy_own rfl _ _ _ _ rfl 23 Tryz.underlying308 rfl (q+1+1) 0 8 16 ⟨q,0,none⟩ 8 8 rfl rfl #[.int .u32 0,.int .u32 0,.int .u32 0,.int .u32 0,.int .u32 0,.int .u32 0,.int .u32 0,.int .u32 0,.int .u32 0,.int .u32 0,.int .u32 0,.int .u32 0,.int .u32 0,.int .u32 0,.int .u32 0,.int .u32 0] 298 hv [.int .u32 (wd h 0),.int .u32 (wd h 1),.int .u32 (wd h 2),.int .u32 (wd h 3),.int .u32 (wd h 4),.int .u32 (wd h 5),.int .u32 (wd h 6),.int .u32 (wd h 7)] rfl
  (jR (W:=W.drewN n1) hh) (by simp) (by simp[Value.oneCell']) ?_
 refine wpList_nil ?_;simp only[Act.put,Ls];go_wp2_with fail
 refine qj ?_;intro X o;have ab:X.heap[q+1+1]? =some (.cells #[.int .u32 (wd h 0),.int .u32 (wd h 1),.int .u32 (wd h 2),.int .u32 (wd h 3),.int .u32 (wd h 4),.int .u32 (wd h 5),.int .u32 (wd h 6),.int .u32 (wd h 7),.int .u32 0,.int .u32 0,.int .u32 0,.int .u32 0,.int .u32 0,.int .u32 0,.int .u32 0,.int .u32 0] 298 (0,0)):=by
  rw[o];exact setRow_heap (W.drewN n1) _ _ _ _ _ hv
 have ad:X.heap[q+1]? =some (.cells #[.int .u32 0,.int .u32 0,.int .u32 0,.int .u32 0,.int .u32 0,.int .u32 0,.int .u32 0,.int .u32 0,.int .u32 0,.int .u32 0,.int .u32 0,.int .u32 0,.int .u32 0,.int .u32 0,.int .u32 0,.int .u32 0] 298 (0,0)):=by
  rw[o];exact(setRow_other (W.drewN n1) _ _ _ (by omega)).trans hr
 have an:X.heap[w1.heap.size]? =some (.cells #[.int .u32 1779033703,.int .u32 3144134277,.int .u32 1013904242,.int .u32 2773480762,.int .u32 1359893119,.int .u32 2600822924,.int .u32 528734635,.int .u32 1541459225] 284 (0,0)):=by
  rw[o];exact(setRow_other (W.drewN n1) _ _ _ (by omega)).trans hi
 have af:Below w.heap.size w X:=by rw[o];exact below_setRow (hB.trans (QF n1)) (by omega) _
 clear o hh hr hv hi hB;refine qh (by dsimp only[List.dropLast]) (by rfl) (by rfl) (by kernel_rfl) (by kernel_rfl) (by kernel_rfl) (by kernel_rfl) ?_;repeat(go_big_quiet_step (fail))
 refine wpQuiet_nil ?_;intro _ ac;obtain⟨n2,rfl⟩:=ac;refine wpList_copy_own rfl _ _ _ _ rfl 23 Tryz.underlying308 rfl (q+1+1) 8 8 8 ⟨w1.heap.size,0,none⟩ 8 8 rfl rfl #[.int .u32 (wd h 0),.int .u32 (wd h 1),.int .u32 (wd h 2),.int .u32 (wd h 3),.int .u32 (wd h 4),.int .u32 (wd h 5),.int .u32 (wd h 6),.int .u32 (wd h 7),.int .u32 0,.int .u32 0,.int .u32 0,.int .u32 0,.int .u32 0,.int .u32 0,.int .u32 0,.int .u32 0] 298 ab [.int .u32 1779033703,.int .u32 3144134277,.int .u32 1013904242,.int .u32 2773480762,.int .u32 1359893119,.int .u32 2600822924,.int .u32 528734635,.int .u32 1541459225] rfl
  (jR (W:=X.drewN n2) an) (by simp) (by simp[Value.oneCell']) ?_
 go_upto_region 5 with(fail)
 refine qj ?_;intro W4 o;have Z:W4.heap[q+1+1]? =some (.cells #[.int .u32 (wd h 0),.int .u32 (wd h 1),.int .u32 (wd h 2),.int .u32 (wd h 3),.int .u32 (wd h 4),.int .u32 (wd h 5),.int .u32 (wd h 6),.int .u32 (wd h 7),.int .u32 1779033703,.int .u32 3144134277,.int .u32 1013904242,.int .u32 2773480762,.int .u32 1359893119,.int .u32 2600822924,.int .u32 528734635,.int .u32 1541459225] 298 (0,0)):=by
  rw[o];exact setRow_heap (X.drewN n2) _ _ _ _ _ ab
 have aj:W4.heap[q+1]? =some (.cells #[.int .u32 0,.int .u32 0,.int .u32 0,.int .u32 0,.int .u32 0,.int .u32 0,.int .u32 0,.int .u32 0,.int .u32 0,.int .u32 0,.int .u32 0,.int .u32 0,.int .u32 0,.int .u32 0,.int .u32 0,.int .u32 0] 298 (0,0)):=by
  rw[o];exact(setRow_other (X.drewN n2) _ _ _ (by omega)).trans ad
 have ai:Below w.heap.size w W4:=by rw[o];exact below_setRow (af.trans (QF n2)) (by omega) _
 clear o ab ad an af hs;have au:=(Ai Z).1;obtain⟨cv,fv⟩:=qK Z;have O:=hid Z;have I:=hid aj;have U:=hid ai;clear Z aj ai;go_upto_region 7 with(fail)
 refine qj ?_;intro W5 o;have aa:W5.heap[q+1+1]? =some (.cells #[.int .u32 (wd h 0),.int .u32 (wd h 1),.int .u32 (wd h 2),.int .u32 (wd h 3),.int .u32 (wd h 4),.int .u32 (wd h 5),.int .u32 (wd h 6),.int .u32 (wd h 7),.int .u32 1779033703,.int .u32 3144134277,.int .u32 1013904242,.int .u32 2773480762,.int .u32 (bits .xor .u32 1359893119 (c%4294967296)),.int .u32 (bits .xor .u32 2600822924 (c/4294967296)),.int .u32 528734635,.int .u32 1541459225] 298 (0,0)):=by
  rw[o];exact block_setCell (i:=13) (block_setCell (i:=12) O.out _) _
 have ah:W5.heap[q+1]? =some (.cells #[.int .u32 0,.int .u32 0,.int .u32 0,.int .u32 0,.int .u32 0,.int .u32 0,.int .u32 0,.int .u32 0,.int .u32 0,.int .u32 0,.int .u32 0,.int .u32 0,.int .u32 0,.int .u32 0,.int .u32 0,.int .u32 0] 298 (0,0)):=by
  rw[o];exact(Below.heap_setCell _ _ _ _ (by simp)).trans ((Below.heap_setCell _ _ _ _ (by simp)).trans I.out)
 have ak:Below w.heap.size w W5:=by
  rw[o];exact(U.out.setCell (by simp;omega) _).setCell (by simp;omega) _
 clear o O I U cv fv;have ap:=(Ai aa).1;obtain⟨cv,fv⟩:=qK aa;have O:=hid aa;have I:=hid ah;have U:=hid ak;clear aa ah ak
 cases Y<;>cases node
 ·go_upto_region 11 with(fail)
  refine qj ?_;intro G o;have J:G.heap[q+1+1]? =some (.cells #[.int .u32 (wd h 0),.int .u32 (wd h 1),.int .u32 (wd h 2),.int .u32 (wd h 3),.int .u32 (wd h 4),.int .u32 (wd h 5),.int .u32 (wd h 6),.int .u32 (wd h 7),.int .u32 1779033703,.int .u32 3144134277,.int .u32 1013904242,.int .u32 2773480762,.int .u32 (bits .xor .u32 1359893119 (c%4294967296)),.int .u32 (bits .xor .u32 2600822924 (c/4294967296)),.int .u32 528734635,.int .u32 1541459225] 298 (0,0)):=by
   rw[o];exact O.out
  have D:G.heap[q+1]? =some (.cells #[.int .u32 0,.int .u32 0,.int .u32 0,.int .u32 0,.int .u32 0,.int .u32 0,.int .u32 0,.int .u32 0,.int .u32 0,.int .u32 0,.int .u32 0,.int .u32 0,.int .u32 0,.int .u32 0,.int .u32 0,.int .u32 0] 298 (0,0)):=by
   rw[o];exact I.out
  have S:Below w.heap.size w G:=by
   rw[o];exact U.out
  clear o O I U cv fv;apply wp_region_lit
  refine wpList_load_row rfl 298 _ rfl (q+1+1) rfl _ _ _ _ J Tryz.underlying298 rfl (by kernel_rfl) ?_;refine wpList_store_row rfl 298 _ _ rfl (q+1) _ rfl rfl 298 _ D (by kernel_rfl) (by kernel_rfl) (by kernel_rfl) ?_;simp only[Act.put,Ls];go_wp2_with fail
  exact Bp (results_cell_row rfl _ _ _ _ _ _ _ rfl (setRow_heap _ _ _ _ _ _ D) Tryz.underlying298 rfl (by kernel_rfl)) rfl ⟨rfl,below_setRow (S.mono (by omega)) (by omega) _⟩
 ·go_upto_region 11 with(fail)
  refine qj ?_;intro G o;have J:G.heap[q+1+1]? =some (.cells #[.int .u32 (wd h 0),.int .u32 (wd h 1),.int .u32 (wd h 2),.int .u32 (wd h 3),.int .u32 (wd h 4),.int .u32 (wd h 5),.int .u32 (wd h 6),.int .u32 (wd h 7),.int .u32 1779033703,.int .u32 3144134277,.int .u32 1013904242,.int .u32 2773480762,.int .u32 (bits .xor .u32 1359893119 (c%4294967296)),.int .u32 (bits .xor .u32 2600822924 (c/4294967296)),.int .u32 528734635,.int .u32 (bits .xor .u32 (IntKind.max .u32) 1541459225)] 298 (0,0)):=by
   rw[o];exact(block_setCell (i:=15) O.out _)
  have D:G.heap[q+1]? =some (.cells #[.int .u32 0,.int .u32 0,.int .u32 0,.int .u32 0,.int .u32 0,.int .u32 0,.int .u32 0,.int .u32 0,.int .u32 0,.int .u32 0,.int .u32 0,.int .u32 0,.int .u32 0,.int .u32 0,.int .u32 0,.int .u32 0] 298 (0,0)):=by
   rw[o];exact((Below.heap_setCell _ _ _ _ (by simp)).trans I.out)
  have S:Below w.heap.size w G:=by
   rw[o];exact(U.out.setCell (by simp;omega) _)
  clear o O I U cv fv;apply wp_region_lit
  refine wpList_load_row rfl 298 _ rfl (q+1+1) rfl _ _ _ _ J Tryz.underlying298 rfl (by kernel_rfl) ?_;refine wpList_store_row rfl 298 _ _ rfl (q+1) _ rfl rfl 298 _ D (by kernel_rfl) (by kernel_rfl) (by kernel_rfl) ?_;simp only[Act.put,Ls];go_wp2_with fail
  exact Bp (results_cell_row rfl _ _ _ _ _ _ _ rfl (setRow_heap _ _ _ _ _ _ D) Tryz.underlying298 rfl (by kernel_rfl)) rfl ⟨rfl,below_setRow (S.mono (by omega)) (by omega) _⟩
 ·go_upto_region 11 with(fail)
  refine qj ?_;intro G o;have J:G.heap[q+1+1]? =some (.cells #[.int .u32 (wd h 0),.int .u32 (wd h 1),.int .u32 (wd h 2),.int .u32 (wd h 3),.int .u32 (wd h 4),.int .u32 (wd h 5),.int .u32 (wd h 6),.int .u32 (wd h 7),.int .u32 1779033703,.int .u32 3144134277,.int .u32 1013904242,.int .u32 2773480762,.int .u32 (bits .xor .u32 1359893119 (c%4294967296)),.int .u32 (bits .xor .u32 2600822924 (c/4294967296)),.int .u32 (bits .xor .u32 (IntKind.max .u32) 528734635),.int .u32 1541459225] 298 (0,0)):=by
   rw[o];exact(block_setCell (i:=14) O.out _)
  have D:G.heap[q+1]? =some (.cells #[.int .u32 0,.int .u32 0,.int .u32 0,.int .u32 0,.int .u32 0,.int .u32 0,.int .u32 0,.int .u32 0,.int .u32 0,.int .u32 0,.int .u32 0,.int .u32 0,.int .u32 0,.int .u32 0,.int .u32 0,.int .u32 0] 298 (0,0)):=by
   rw[o];exact((Below.heap_setCell _ _ _ _ (by simp)).trans I.out)
  have S:Below w.heap.size w G:=by
   rw[o];exact(U.out.setCell (by simp;omega) _)
  clear o O I U cv fv;apply wp_region_lit
  refine wpList_load_row rfl 298 _ rfl (q+1+1) rfl _ _ _ _ J Tryz.underlying298 rfl (by kernel_rfl) ?_;refine wpList_store_row rfl 298 _ _ rfl (q+1) _ rfl rfl 298 _ D (by kernel_rfl) (by kernel_rfl) (by kernel_rfl) ?_;simp only[Act.put,Ls];go_wp2_with fail
  exact Bp (results_cell_row rfl _ _ _ _ _ _ _ rfl (setRow_heap _ _ _ _ _ _ D) Tryz.underlying298 rfl (by kernel_rfl)) rfl ⟨rfl,below_setRow (S.mono (by omega)) (by omega) _⟩
 ·go_upto_region 11 with(fail)
  refine qj ?_;intro G o;have J:G.heap[q+1+1]? =some (.cells #[.int .u32 (wd h 0),.int .u32 (wd h 1),.int .u32 (wd h 2),.int .u32 (wd h 3),.int .u32 (wd h 4),.int .u32 (wd h 5),.int .u32 (wd h 6),.int .u32 (wd h 7),.int .u32 1779033703,.int .u32 3144134277,.int .u32 1013904242,.int .u32 2773480762,.int .u32 (bits .xor .u32 1359893119 (c%4294967296)),.int .u32 (bits .xor .u32 2600822924 (c/4294967296)),.int .u32 (bits .xor .u32 (IntKind.max .u32) 528734635),.int .u32 (bits .xor .u32 (IntKind.max .u32) 1541459225)] 298 (0,0)):=by
   rw[o];exact(block_setCell (i:=15) (block_setCell (i:=14) O.out _) _)
  have D:G.heap[q+1]? =some (.cells #[.int .u32 0,.int .u32 0,.int .u32 0,.int .u32 0,.int .u32 0,.int .u32 0,.int .u32 0,.int .u32 0,.int .u32 0,.int .u32 0,.int .u32 0,.int .u32 0,.int .u32 0,.int .u32 0,.int .u32 0,.int .u32 0] 298 (0,0)):=by
   rw[o];exact((Below.heap_setCell _ _ _ _ (by simp)).trans ((Below.heap_setCell _ _ _ _ (by simp)).trans I.out))
  have S:Below w.heap.size w G:=by
   rw[o];exact((U.out.setCell (by simp;omega) _).setCell (by simp;omega) _)
  clear o O I U cv fv;apply wp_region_lit
  refine wpList_load_row rfl 298 _ rfl (q+1+1) rfl _ _ _ _ J Tryz.underlying298 rfl (by kernel_rfl) ?_;refine wpList_store_row rfl 298 _ _ rfl (q+1) _ rfl rfl 298 _ D (by kernel_rfl) (by kernel_rfl) (by kernel_rfl) ?_;simp only[Act.put,Ls];go_wp2_with fail
  exact Bp (results_cell_row rfl _ _ _ _ _ _ _ rfl (setRow_heap _ _ _ _ _ _ D) Tryz.underlying298 rfl (by kernel_rfl)) rfl ⟨rfl,below_setRow (S.mono (by omega)) (by omega) _⟩
def Yq (k:IntKind)(h v:List Int):Nat→List Int
 | 0=>h
 | i+1=>(Yq k h v i).set i (bits .xor k (wd h i) (bits .xor k (wd v i) (wd v (i+8))))
def zr (K:MixK)(iv:List Int)(n:Nat)(h M:List Int)(x y:Int)(last node:Bool):List Int:=
 Yq K.k h (K.rounds (Yn K.k iv h x y last node) M n) 8
theorem QE {k:IntKind}{N:Nat}(q: ∀z,k.wrap z=z%2^N){h v:List Int}(o:Words N 8 h): ∀i,Words N 8 (Yq k h v i)
 | 0=>o
 | i+1=>Words.set (QE q o i) (qT _ _ _ q _ _)
theorem Y2 {k:IntKind}{h v:List Int}: ∀i j,i≤j→wd (Yq k h v i) j=wd h j
 | 0,j,_=>rfl
 | i+1,j,hj=>by
  have o:=Y2 (k:=k) (h:=h) (v:=v) i j (by omega);simp only[Yq];unfold wd at*;rw[Lg,List.getElem?_set,if_neg (by omega),←Lg];exact o
theorem qd {k:IntKind}{L:List Int}:(qg k L).size=L.length:=by simp[qg]
theorem qw {k:IntKind}{L:List Int}:(qg k L).all (·.oneCell')=true:=by simp[qg,Value.oneCell']
theorem zi {k:IntKind}{N:Nat}(O: ∀z,k.wrap z=z%2^N){I h:List Int}(G:Words N 8 I)(J:Words N 8 h)(x y:Int)(o node:Bool):Words N 16 (Yn k I h x y o node):=by
 refine⟨rfl,fun z q=>?_⟩;simp only[Yn,List.mem_cons,List.not_mem_nil,or_false]at q;have D:=fun a b=>qT .xor k N O a b
 rcases q with rfl|rfl|rfl|rfl|rfl|rfl|rfl|rfl|rfl|rfl|rfl|rfl|rfl|rfl|rfl|rfl
 all_goals first|exact J.at (by decide)|exact G.at (by decide)|exact D _ _|skip
 all_goals split
 all_goals first|exact G.at (by decide)|exact D _ _
theorem qcb:Words 64 8 IVb:=⟨rfl,by decide⟩
theorem JQ:Words 32 8 IVs:=⟨rfl,by decide⟩
theorem zB {k:IntKind}{N:Nat}{L:List Int}(h:Words N 8 L):qg k L= #[.int k (wd L 0),.int k (wd L 1),.int k (wd L 2),.int k (wd L 3),.int k (wd L 4),.int k (wd L 5),.int k (wd L 6),.int k (wd L 7)]:=by
 obtain⟨o, -⟩:=h;match L,o with
 | [a,b,c,d,e,f,g,i],_=>rfl
theorem qh1 (h M:List Int)(O:Words 64 8 h)(hM:Words 64 16 M)(lo hi:Int)(G node:Bool)(w:World):Calls Tryz.prog 199 #[.agg (qg .u64 h),.agg (qg .u64 M),.agg #[.int .u64 lo,.int .u64 hi],.bool G,.bool node] w fun e w'=>e= .returned (.agg (qg .u64 (zr mixBig IVb 12 h M lo hi G node)))∧Below w.heap.size w w':=by
 obtain⟨q,az⟩:=Ex w.heap.size;have HC:=hid (qeS h lo hi G node);have Y:=zi (k:= .u64) (fun z=>IntKind.wrap_u64 z) qcb O lo hi G node;unfold zr;rw[show mixBig.k= .u64 from rfl];generalize Yn .u64 IVb h lo hi G node=L0 at*;have ab:=O;rw[zB O];go_enter Tryz.func199,Tryz.ntmps199
 go_wp2_with fail
 refine(HC.out _).mono ?_;rintro e1 X ⟨rfl,I⟩;have ar:=(I.block q (by simp;omega)).trans ((Bh _ _ _ (by simp;omega)).trans ((Bh _ _ _ (by simp;omega)).trans ((Bh _ _ _ (by simp;omega)).trans (qc _ _ az.symm))));have aj:=(I.block (q+1) (by simp;omega)).trans ((Bh _ _ _ (by simp;omega)).trans ((Bh _ _ _ (by simp;omega)).trans (qc _ _ (by simp;omega))));have ap:=(I.block (q+1+1+1) (by simp;omega)).trans (qc _ _ (by simp;omega));have aG:q+4≤X.heap.size:=by have:=I.size;simp at this;omega
 have ak:Below w.heap.size w X:=(((((Below.refl w.heap.size w).alloc Nl _).alloc (by simp) _).alloc (by simp;omega) _).alloc (by simp;omega) _).trans (I.mono (by simp;omega));clear I HC;go_wp2_with ((with_reducible show wpList _ _ _ (Oper.mk none (Op.store 252 _ _) _ _ _ _::_) _ _);refine wpList_store_row rfl 252 _ _ rfl X.heap.size (qg .u64 L0) rfl rfl 252 _ (Wn _ _) (by rw[qd,Y.1];kernel_rfl) (by rw[qd,Y.1];rfl) qw ?_)
 clear O;refine qj ?_;intro W hW;obtain⟨D,af⟩:=Ex X.heap.size;have O:W.heap[q]? =some (.cells #[.int .u64 (wd h 0),.int .u64 (wd h 1),.int .u64 (wd h 2),.int .u64 (wd h 3),.int .u64 (wd h 4),.int .u64 (wd h 5),.int .u64 (wd h 6),.int .u64 (wd h 7)] 274 (0,0)):=by
  rw[hW];exact(setRow_other (X.alloc _) _ _ _ (by omega)).trans ((Bh _ _ _ (by omega)).trans ar)
 have hm:W.heap[q+1]? =some (.cells (qg .u64 M) 252 (0,0)):=by
  rw[hW];exact(setRow_other (X.alloc _) _ _ _ (by omega)).trans ((Bh _ _ _ (by omega)).trans aj)
 have hr:W.heap[q+1+1+1]? =some (.cells #[.int .u64 0,.int .u64 0,.int .u64 0,.int .u64 0,.int .u64 0,.int .u64 0,.int .u64 0,.int .u64 0] 274 (0,0)):=by
  rw[hW];exact(setRow_other (X.alloc _) _ _ _ (by omega)).trans ((Bh _ _ _ (by omega)).trans ap)
 have hv:W.heap[D]? =some (.cells (qg .u64 L0) 252 (0,0)):=by
  rw[hW,←af];exact setRow_heap _ _ _ _ _ _ (Wn _ _)
 have hB:Below w.heap.size w W:=by
  rw[hW];exact below_setRow (ak.alloc (by omega) _) (by omega) _
 rw[←zB ab]at O;rw[af];have aI:q+4≤D:=by omega
 clear hW ar aj ap aG ak af;have HH:=hid O;have HM:=hid hm;have HR:=hid hr;have HV:=hid hv;have HB:=hid hB;have aK:D<W.heap.size:=(Ai hv).1;clear O hm hr hv hB;go_loopw [19] (fun i wr=> ∃j:Nat,i= .int .i64 j∧j≤12∧wr.heap[D]? =some (.cells (qg .u64 (mixBig.rounds L0 M j)) 252 (0,0))∧But D W wr) (fun i _=>12 - (intOf i).toNat)
 case atStart=>exact⟨0,rfl,Nat.zero_le _,HV.out,But.refl _ _⟩
 case round=>
  obtain⟨j,rfl,hj,hv,hB⟩:=hrel;have hm:=(hB.block (q+1) (by omega) (by omega)).trans HM.out;have Z:=hid hv;have au:=hid hm;have S:=hid hB;clear hv hm hB;by_cases ae:j<12
  ·go_wp2_with fail
   refine(qd6 D (q+1) (by omega) (mixBig.rounds L0 M j) M (QN QA Y j) hM j ae 252 252 _ Z.out au.out).mono ?_;rintro e2 w2 ⟨rfl,ai,ag⟩
   have aE:=hid ai;have aC:=hid (S.out.trans ag);clear ai ag;go_wp2
   exact⟨⟨j+1,rfl,by omega,aE.out,aC.out⟩,by simp[intOf];omega⟩
  ·obtain rfl:j=12:=by omega
   go_wp2_with fail
   have hV:=QN QA Y (M:=M) 12;obtain⟨V,ac⟩:=Ex (mixBig.rounds L0 M 12);have aD:=hid (show Ending.returned (.agg (qg .u64 (Yq .u64 h V 8)))= .returned (.agg (qg .u64 (Yq .u64 h (mixBig.rounds L0 M 12) 8))) by rw[ac]);rw[ac]at hV Z;clear ac;have am:=(S.out.block q (by omega) (by omega)).trans HH.out;have al:=(S.out.block (q+1+1+1) (by omega) (by omega)).trans HR.out;have ad:=Z.out;have av:Below w.heap.size w wr:=HB.out.trans (S.out.below (by omega) HB.out.size);have aw:=hid am;have aB:=hid al;have an:=hid av;have aA:D<wr.heap.size:=(Ai ad).1;have ax:=hid ad;clear am al av Z au S HH HR HM HV HB ad;generalize wr=w3 at*;go_loopw [25] (fun i w4=> ∃j:Nat,i= .int .i64 j∧j≤8∧w4.heap[q]? =some (.cells (qg .u64 (Yq .u64 h V j)) 274 (0,0))∧But q w3 w4) (fun i _=>8 - (intOf i).toNat)
   case atStart=>exact⟨0,rfl,Nat.zero_le _,aw.out,But.refl _ _⟩
   case round=>
    obtain⟨j,rfl,hj,U,J⟩:=hrel;have aJ:=J.size;have aa:=(J.block D aA (by omega)).trans ax.out;have q1:D<wr.heap.size:=by omega
    have q2:q<wr.heap.size:=by omega
    have ah:=hid U;have aq:=hid J;by_cases ae:j<8
    ·have c1:wr.cell? ⟨q,j,none⟩=some (.int .u64 (wd h j)):=by
      rw[qm U,qz (QE (fun z=>IntKind.wrap_u64 z) ab j) ae,Y2 j j Nl]
     have c2:wr.cell? ⟨D,j,none⟩=some (.int .u64 (wd V j)):=(qm aa _).trans (qz hV (by omega));have c3:wr.cell? ⟨D,j+8,none⟩=some (.int .u64 (wd V (j+8))):=(qm aa _).trans (qz hV (by omega));have f1: ∀o,wr.frozen? ⟨q,o,none⟩=false:=(qK U).2;have aL:IntKind.i64.wrap ((j:Int)+8)=((j+8:Nat):Int):=by rw[IntKind.wrap_i64];omega
     have aH:j+8<16:=by omega
     clear U aa J;go_wp2_with fail
     refine qh (by dsimp only[List.dropLast]) (by rfl) (by rfl) (by kernel_rfl) (by kernel_rfl) (by kernel_rfl) (by kernel_rfl) ?_;repeat(go_big_quiet_step (fail))
     refine wpQuiet_nil ?_;intro _ ay;obtain⟨n1,rfl⟩:=ay;go_wp2_with fail
     exact⟨⟨j+1,rfl,by omega,by rw[Yq,←qY];exact block_setCell (w:=wr.drewN n1) ah.out _,(aq.out.drewN n1).set _ _⟩,by simp[intOf];omega⟩
    ·obtain rfl:j=8:=by omega
     have ao:=(J.block (q+1+1+1) (by omega) (by omega)).trans aB.out;have hF:=QE (k:= .u64) (fun z=>IntKind.wrap_u64 z) (v:=V) ab 8;have aF:=hid (an.out.trans (aq.out.below (by omega) an.out.size));clear U aa J;go_upto_region 12 with(fail)
     apply wp_region_lit
     refine wpList_load_row rfl 274 _ rfl q rfl _ _ _ _ ah.out Tryz.underlying274 rfl (by rw[qd,hF.1];kernel_rfl) ?_;refine wpList_store_row rfl 274 _ _ rfl (q+1+1+1) (qg .u64 (Yq .u64 h V 8)) rfl rfl 274 _ ao (by rw[qd,hF.1];kernel_rfl) (by rw[qd,hF.1];rfl) qw ?_;simp only[Act.put,Ls];go_wp2_with fail
     exact Bp (results_cell_row rfl _ _ _ _ _ _ _ rfl (setRow_heap _ _ _ _ _ _ ao) Tryz.underlying274 rfl (by rw[qd,hF.1];kernel_rfl)) rfl ⟨aD.out,below_setRow (aF.out.mono (by omega)) (by omega) _⟩
theorem qgg (h V:List Int)(Y:Words 32 8 h)(hV:Words 32 16 V)(w:World):Calls Tryz.prog 219 #[.agg (qg .u32 h),.agg (qg .u32 V)] w fun e w'=>e= .returned (.agg (qg .u32 (Yq .u32 h V 8)))∧Below w.heap.size w w':=by
 obtain⟨q,ag⟩:=Ex w.heap.size;go_enter Tryz.func219,Tryz.ntmps219
 go_wp2_with fail
 refine qj ?_;intro I O;have ab:I.heap[q]? =some (.cells (qg .u32 h) 284 (0,0)):=by
  rw[O];exact(Bh _ _ _ (by simp;omega)).trans ((Bh _ _ _ (by simp;omega)).trans (qc _ _ ag.symm))
 have U:I.heap[q+1]? =some (.cells (qg .u32 V) 298 (0,0)):=by
  rw[O];exact(Bh _ _ _ (by simp;omega)).trans (qc _ _ (by simp;omega))
 have S:I.heap[q+1+1]? =some (.cells #[.int .u32 0,.int .u32 0,.int .u32 0,.int .u32 0,.int .u32 0,.int .u32 0,.int .u32 0,.int .u32 0] 284 (0,0)):=by
  rw[O];exact qc _ _ (by simp;omega)
 have ae:Below w.heap.size w I:=by
  rw[O];exact(((Below.refl w.heap.size w).alloc Nl _).alloc (by simp) _).alloc (by simp;omega) _
 clear O;have ah:=hid ab;have ai:=hid U;have ak:=hid S;have ad:=hid ae;have aj:q+1<I.heap.size:=(Ai U).1;have ao:q+1+1<I.heap.size:=(Ai S).1;clear ab U S ae;go_loopw [6] (fun i w4=> ∃j:Nat,i= .int .i64 j∧j≤8∧w4.heap[q]? =some (.cells (qg .u32 (Yq .u32 h V j)) 284 (0,0))∧But q I w4) (fun i _=>8 - (intOf i).toNat)
 case atStart=>exact⟨0,rfl,Nat.zero_le _,ah.out,But.refl _ _⟩
 case round=>
  obtain⟨j,rfl,hj,G,D⟩:=hrel;have aq:=D.size;have J:=(D.block (q+1) aj (by omega)).trans ai.out;have q1:q+1<wr.heap.size:=by omega
  have q2:q<wr.heap.size:=by omega
  have Z:=hid G;have ac:=hid D;by_cases af:j<8
  ·have c1:wr.cell? ⟨q,j,none⟩=some (.int .u32 (wd h j)):=by
    rw[qm G,qz (QE (fun z=>IntKind.wrap_u32 z) Y j) af,Y2 j j Nl]
   have c2:wr.cell? ⟨q+1,j,none⟩=some (.int .u32 (wd V j)):=(qm J _).trans (qz hV (by omega));have c3:wr.cell? ⟨q+1,j+8,none⟩=some (.int .u32 (wd V (j+8))):=(qm J _).trans (qz hV (by omega));have f1: ∀o,wr.frozen? ⟨q,o,none⟩=false:=(qK G).2;have ap:IntKind.i64.wrap ((j:Int)+8)=((j+8:Nat):Int):=by rw[IntKind.wrap_i64];omega
   have an:j+8<16:=by omega
   clear G J D;go_wp2_with fail
   refine qh (by dsimp only[List.dropLast]) (by rfl) (by rfl) (by kernel_rfl) (by kernel_rfl) (by kernel_rfl) (by kernel_rfl) ?_;repeat(go_big_quiet_step (fail))
   refine wpQuiet_nil ?_;intro _ al;obtain⟨n1,rfl⟩:=al;go_wp2_with fail
   exact⟨⟨j+1,rfl,by omega,by rw[Yq,←qY];exact block_setCell (w:=wr.drewN n1) Z.out _,(ac.out.drewN n1).set _ _⟩,by simp[intOf];omega⟩
  ·obtain rfl:j=8:=by omega
   have aa:=(D.block (q+1+1) (by omega) (by omega)).trans ak.out;have X:=QE (k:= .u32) (fun z=>IntKind.wrap_u32 z) (v:=V) Y 8;have am:=hid (ad.out.trans (ac.out.below (by omega) ad.out.size));clear G J D;go_upto_region 6 with(fail)
   apply wp_region_lit
   refine wpList_load_row rfl 284 _ rfl q rfl _ _ _ _ Z.out Tryz.underlying284 rfl (by rw[qd,X.1];kernel_rfl) ?_;refine wpList_store_row rfl 284 _ _ rfl (q+1+1) (qg .u32 (Yq .u32 h V 8)) rfl rfl 284 _ aa (by rw[qd,X.1];kernel_rfl) (by rw[qd,X.1];rfl) qw ?_;simp only[Act.put,Ls];go_wp2_with fail
   exact Bp (results_cell_row rfl _ _ _ _ _ _ _ rfl (setRow_heap _ _ _ _ _ _ aa) Tryz.underlying284 rfl (by rw[qd,X.1];kernel_rfl)) rfl ⟨rfl,below_setRow (am.out.mono (by omega)) (by omega) _⟩
theorem qh2 (h M:List Int)(G:Words 32 8 h)(hM:Words 32 16 M)(c:Int)(ay:0≤c)(au:c<18446744073709551616)(q node:Bool)(w:World):Calls Tryz.prog 204 #[.agg (qg .u32 h),.agg (qg .u32 M),.int .u64 c,.bool q,.bool node] w fun e w'=>e= .returned (.agg (qg .u32 (zr mixSmall IVs 10 h M (c%4294967296) (c/4294967296) q node)))∧Below w.heap.size w w':=by
 obtain⟨o,ap⟩:=Ex w.heap.size;have HC:=hid (qdU h c ay au q node);have U:=zi (k:= .u32) (fun z=>IntKind.wrap_u32 z) JQ G (c%4294967296) (c/4294967296) q node;unfold zr;rw[show mixSmall.k= .u32 from rfl];generalize Yn .u32 IVs h (c%4294967296) (c/4294967296) q node=L0 at*;have S:=G;rw[zB G];go_enter Tryz.func204,Tryz.ntmps204
 go_wp2_with fail
 refine(HC.out _).mono ?_;rintro e1 O ⟨rfl,D⟩;have an:=(D.block o (by simp;omega)).trans ((Bh _ _ _ (by simp;omega)).trans ((Bh _ _ _ (by simp;omega)).trans (qc _ _ ap.symm)));have al:=(D.block (o+1) (by simp;omega)).trans ((Bh _ _ _ (by simp;omega)).trans (qc _ _ (by simp;omega)));have aj:=(D.block (o+1+1) (by simp;omega)).trans (qc _ _ (by simp;omega));have aA:o+3≤O.heap.size:=by have:=D.size;simp at this;omega
 have ad:Below w.heap.size w O:=((((Below.refl w.heap.size w).alloc Nl _).alloc (by simp) _).alloc (by simp;omega) _).trans (D.mono (by simp;omega));clear D HC;go_wp2_with ((with_reducible show wpList _ _ _ (Oper.mk none (Op.store 298 _ _) _ _ _ _::_) _ _);refine wpList_store_row rfl 298 _ _ rfl O.heap.size (qg .u32 L0) rfl rfl 298 _ (Wn _ _) (by rw[qd,U.1];kernel_rfl) (by rw[qd,U.1];rfl) qw ?_)
 clear G;refine qj ?_;intro W Z;obtain⟨J,ac⟩:=Ex O.heap.size;have G:W.heap[o]? =some (.cells #[.int .u32 (wd h 0),.int .u32 (wd h 1),.int .u32 (wd h 2),.int .u32 (wd h 3),.int .u32 (wd h 4),.int .u32 (wd h 5),.int .u32 (wd h 6),.int .u32 (wd h 7)] 284 (0,0)):=by
  rw[Z];exact(setRow_other (O.alloc _) _ _ _ (by omega)).trans ((Bh _ _ _ (by omega)).trans an)
 have hm:W.heap[o+1]? =some (.cells (qg .u32 M) 298 (0,0)):=by
  rw[Z];exact(setRow_other (O.alloc _) _ _ _ (by omega)).trans ((Bh _ _ _ (by omega)).trans al)
 have hr:W.heap[o+1+1]? =some (.cells #[.int .u32 0,.int .u32 0,.int .u32 0,.int .u32 0,.int .u32 0,.int .u32 0,.int .u32 0,.int .u32 0] 284 (0,0)):=by
  rw[Z];exact(setRow_other (O.alloc _) _ _ _ (by omega)).trans ((Bh _ _ _ (by omega)).trans aj)
 have Y:W.heap[J]? =some (.cells (qg .u32 L0) 298 (0,0)):=by
  rw[Z,←ac];exact setRow_heap _ _ _ _ _ _ (Wn _ _)
 have hB:Below w.heap.size w W:=by
  rw[Z];exact below_setRow (ad.alloc (by omega) _) (by omega) _
 rw[←zB S]at G;rw[ac];have aE:o+3≤J:=by omega
 clear Z an al aj aA ad ac;have HH:=hid G;have HM:=hid hm;have HR:=hid hr;have HV:=hid Y;have HB:=hid hB;have aD:J<W.heap.size:=(Ai Y).1;clear G hm hr Y hB;go_loopw [18] (fun i wr=> ∃j:Nat,i= .int .i64 j∧j≤10∧wr.heap[J]? =some (.cells (qg .u32 (mixSmall.rounds L0 M j)) 298 (0,0))∧But J W wr) (fun i _=>10 - (intOf i).toNat)
 case atStart=>exact⟨0,rfl,Nat.zero_le _,HV.out,But.refl _ _⟩
 case round=>
  obtain⟨j,rfl,hj,Y,hB⟩:=hrel;have hm:=(hB.block (o+1) (by omega) (by omega)).trans HM.out;have X:=hid Y;have am:=hid hm;have I:=hid hB;clear Y hm hB;by_cases aB:j<10
  ·go_wp2_with fail
   refine(qd7 J (o+1) (by omega) (mixSmall.rounds L0 M j) M (QN Qf U j) hM j (by omega) 298 298 _ X.out am.out).mono ?_;rintro e2 w2 ⟨rfl,ah,ae⟩
   have ax:=hid ah;have az:=hid (I.out.trans ae);clear ah ae;go_wp2
   exact⟨⟨j+1,rfl,by omega,ax.out,az.out⟩,by simp[intOf];omega⟩
  ·obtain rfl:j=10:=by omega
   have hV:=QN Qf U (M:=M) 10;obtain⟨V,ab⟩:=Ex (mixSmall.rounds L0 M 10);have av:=hid (show Ending.returned (.agg (qg .u32 (Yq .u32 h V 8)))= .returned (.agg (qg .u32 (Yq .u32 h (mixSmall.rounds L0 M 10) 8))) by rw[ab]);rw[ab]at hV X;clear ab;have ai:=(I.out.block o (by omega) (by omega)).trans HH.out;have af:=(I.out.block (o+1+1) (by omega) (by omega)).trans HR.out;have ao:Below w.heap.size w wr:=HB.out.trans (I.out.below (by omega) HB.out.size);have aq:=hid ai;have aw:=hid af;have ak:=hid ao;have aC:J<wr.heap.size:=(Ai X.out).1;have hF:=QE (k:= .u32) (fun z=>IntKind.wrap_u32 z) (v:=V) S 8;clear ai af ao am I HH HR HM HV HB;go_upto_region 7 with(fail)
   apply wp_region_lit
   refine wpList_load_row rfl 284 _ rfl o rfl _ _ _ _ aq.out Tryz.underlying284 rfl (by rw[qd,S.1];kernel_rfl) ?_;refine wpList_load_row rfl 298 _ rfl J rfl _ _ _ _ X.out Tryz.underlying298 rfl (by rw[qd,hV.1];kernel_rfl) ?_;simp only[Act.put,Ls];go_wp2_with fail
   refine(qgg h V S hV _).mono ?_;rintro e6 w6 ⟨rfl,aa⟩
   have ag:=(aa.block (o+1+1) (by omega)).trans aw.out;have ar:=hid (ak.out.trans (aa.mono ak.out.size));clear aa;go_wp2_with ((with_reducible show wpList _ _ _ (Oper.mk none (Op.store 284 _ _) _ _ _ _::_) _ _);refine wpList_store_row rfl 284 _ _ rfl (o+1+1) (qg .u32 (Yq .u32 h V 8)) rfl rfl 284 _ ag (by rw[qd,hF.1];kernel_rfl) (by rw[qd,hF.1];rfl) qw ?_)
   exact Bp (results_cell_row rfl _ _ _ _ _ _ _ rfl (setRow_heap _ _ _ _ _ _ ag) Tryz.underlying284 rfl (by rw[qd,hF.1];kernel_rfl)) rfl ⟨av.out,below_setRow (ar.out.mono (by omega)) (by omega) _⟩
theorem qbP (i:Nat)(o:i<8)(w:World):Calls Tryz.prog 220 #[.int .i64 i] w fun e w'=>e= .returned (.int .u64 (wd IVb i))∧Below w.heap.size w w':=by
 rcases(show i=0∨i=1∨i=2∨i=3∨i=4∨i=5∨i=6∨i=7 by omega)with rfl|rfl|rfl|rfl|rfl|rfl|rfl|rfl
 ·go_enter Tryz.func220,Tryz.ntmps220
  go_wp2
  go_ret
  exact⟨rfl,Br.alloc Nl _⟩
 ·go_enter Tryz.func220,Tryz.ntmps220
  go_wp2
  go_ret
  exact⟨rfl,Br.alloc Nl _⟩
 ·go_enter Tryz.func220,Tryz.ntmps220
  go_wp2
  go_ret
  exact⟨rfl,Br.alloc Nl _⟩
 ·go_enter Tryz.func220,Tryz.ntmps220
  go_wp2
  go_ret
  exact⟨rfl,Br.alloc Nl _⟩
 ·go_enter Tryz.func220,Tryz.ntmps220
  go_wp2
  go_ret
  exact⟨rfl,Br.alloc Nl _⟩
 ·go_enter Tryz.func220,Tryz.ntmps220
  go_wp2
  go_ret
  exact⟨rfl,Br.alloc Nl _⟩
 ·go_enter Tryz.func220,Tryz.ntmps220
  go_wp2
  go_ret
  exact⟨rfl,Br.alloc Nl _⟩
 ·go_enter Tryz.func220,Tryz.ntmps220
  go_wp2
  go_ret
  exact⟨rfl,Br.alloc Nl _⟩
theorem qgN (a:Nat)(q:a<16)(w:World):Calls Tryz.prog 232 #[.int .i64 a] w fun e w'=>e= .returned (.bool true)∧w'=w:=by
 have D:(0:Int)≤a:=by omega
 have o:(a:Int)≤15:=by omega
 go_enter Tryz.func232,Tryz.ntmps232
 go_wp2
 go_ret
 exact⟨rfl,rfl⟩
def qe2 (n:Nat):Nat:=if n<10 then 48+n else 87+n
theorem qhf (n:Nat)(q:n<16)(w:World):Calls Tryz.prog 234 #[.int .u8 (qe2 n:Nat)] w fun e w'=>e= .returned (.int .i64 n)∧w'=w:=by
 by_cases h:n<10
 ·have o:=hid (Yj (k:= .i64) (show 48+(n:Int) - 48=n by omega));rw[show qe2 n=48+n by unfold qe2;rw[if_pos h]];go_enter Tryz.func234,Tryz.ntmps234
  go_wp2
  go_ret
  exact⟨o.out,rfl⟩
 ·have o:=hid (Yj (k:= .i64) (show 87+(n:Int) - 97+10=n by omega));rw[show qe2 n=87+n by unfold qe2;rw[if_neg h]];go_enter Tryz.func234,Tryz.ntmps234
  go_wp2
  go_ret
  exact⟨o.out,rfl⟩
def okTab (s:ByteArray):Bool:=(List.range 160).all fun k=>match s.data[k]? with|some b=>b.toNat==qe2 (sigT.flatten.getD k 0)|none=>false
theorem qhg (s:ByteArray)(r p i:Nat)(I:p<10)(O:i<16)(J:r%10=p)(h:16*p+i<s.size)(G:okTab s=true)(w:World):
  Calls Tryz.prog 234 #[.int .u8 ((s[16*p+i]'h).toNat:Nat)] w fun e w'=>e= .returned (.int .i64 (qr r i:Nat))∧w'=w:=by
 have o:=List.all_eq_true.1 G (16*p+i) (List.mem_range.2 (by omega));have q:s.data[16*p+i]? =some (s[16*p+i]'h):=Array.getElem?_eq_getElem h;rw[q]at o;have D: ∀p<10,∀i<16,sigT.flatten.getD (16*p+i) 0=(sigT.getD p []).getD i 0:=by decide+kernel
 have S:(s[16*p+i]'h).toNat=qe2 (qr r i):=by
  have:=beq_iff_eq.1 o
  rw[this,D p I i O];unfold qr;rw[J]
 rw[S];exact qhf _ (qN r i) w
theorem JW (r i:Nat)(O:r<12)(G:i<16)(w:World):Calls Tryz.prog 224 #[.int .i64 r,.int .i64 i] w fun e w'=>e= .returned (.int .i64 (qr r i:Nat))∧w'=w:=by
 have D:=hid (zJ r 10 w (by decide));have o:=Nat.mod_lt r (show 0<10 by decide);go_enter Tryz.func224,Tryz.ntmps224
 go_wp2_with fail
 refine D.out.mono ?_;rintro V S ⟨rfl,rfl⟩;obtain⟨p,q⟩:=Ex (r%10);rw[q]at o⊢;have I:=hid q;clear q D;go_wp2_with fail
 refine(qhg _ r p i o G I.out _ (by kernel_rfl) _).mono ?_;rintro J U ⟨rfl,rfl⟩;go_wp2
 go_ret
 exact⟨rfl,rfl⟩
theorem qfX (i j:Nat)(o:i<8)(q:j<4):YZ[i*4+j]? =some (.int .i64 ((Yt i).getD j 0:Nat)):=by
 have h: ∀i<8,∀j<4,((List.range 8).flatMap Yt)[i*4+j]? =some ((Yt i).getD j 0):=by decide+kernel
 unfold YZ ym;rw[List.getElem?_toArray,List.getElem?_map,h i o j q];rfl
theorem qcp (i:Nat)(Z:i<8)(w:World):Calls Tryz.prog 222 #[.int .i64 i] w fun e w'=>e= .returned (.agg #[.int .i64 (plA i:Nat),.int .i64 (plB i:Nat),.int .i64 (plC i:Nat),.int .i64 (plD i:Nat)])∧Below w.heap.size w w':=by
 obtain⟨o,O⟩:=Ex w.heap.size;go_enter Tryz.func222,Tryz.ntmps222
 go_upto_region 1 with(fail)
 apply wp_region_lit
 refine wpList_buildTo rfl 330 _ rfl (some 4) rfl (ym (Yt 0)) (by kernel_rfl) ?_;simp only[Act.put,Ls];refine wpList_buildTo rfl 330 _ rfl (some 5) rfl (ym (Yt 1)) (by kernel_rfl) ?_;simp only[Act.put,Ls];refine wpList_buildTo rfl 330 _ rfl (some 6) rfl (ym (Yt 2)) (by kernel_rfl) ?_;simp only[Act.put,Ls];refine wpList_buildTo rfl 330 _ rfl (some 7) rfl (ym (Yt 3)) (by kernel_rfl) ?_;simp only[Act.put,Ls];refine wpList_buildTo rfl 330 _ rfl (some 8) rfl (ym (Yt 4)) (by kernel_rfl) ?_;simp only[Act.put,Ls];refine wpList_buildTo rfl 330 _ rfl (some 9) rfl (ym (Yt 5)) (by kernel_rfl) ?_;simp only[Act.put,Ls];refine wpList_buildTo rfl 330 _ rfl (some 10) rfl (ym (Yt 6)) (by kernel_rfl) ?_;simp only[Act.put,Ls];refine wpList_buildTo rfl 330 _ rfl (some 11) rfl (ym (Yt 7)) (by kernel_rfl) ?_;simp only[Act.put,Ls];refine wpList_buildTo rfl 339 _ rfl (some 12) rfl YZ (by kernel_rfl) ?_;simp only[Act.put,Ls];refine wpList_plain rfl fun _ I=>?_
 go_simp
 refine I _ _ ?_;clear I;refine wpList_store_row rfl 339 _ _ rfl (o+1) YZ rfl rfl 339 _ (qc _ _ (by simp;omega)) (by kernel_rfl) (by kernel_rfl) (by kernel_rfl) ?_;simp only[Act.put,Ls];go_upto_region 2 with(fail)
 refine qj ?_;intro W D;have J:W.heap[o+1]? =some (.cells YZ 339 (0,0)):=by
  rw[D];exact setRow_heap _ _ _ _ _ _ (qc _ _ (by simp;omega))
 have G:W.heap[o]? =some (.cells #[.int .i64 0,.int .i64 0,.int .i64 0,.int .i64 0] 330 (0,0)):=by
  rw[D];exact(setRow_other _ _ _ _ (by omega)).trans ((Bh _ _ _ (by simp;omega)).trans (qc _ _ O.symm))
 have X:Below w.heap.size w W:=by
  rw[D];exact below_setRow (((Below.refl w.heap.size w).alloc Nl _).alloc (by simp) _) (by omega) _
 clear D;have q:=fun j Y=>(qm J (i*4+j)).trans (qfX i j Z Y)
 have c0:W.cell? ⟨o+1,i*4,none⟩=some (.int .i64 (plA i:Nat)):=q 0 (by decide);have c1:W.cell? ⟨o+1,i*4+1,none⟩=some (.int .i64 (plB i:Nat)):=q 1 (by decide);have c2:W.cell? ⟨o+1,i*4+2,none⟩=some (.int .i64 (plC i:Nat)):=q 2 (by decide);have c3:W.cell? ⟨o+1,i*4+3,none⟩=some (.int .i64 (plD i:Nat)):=q 3 (by decide);have hE:((i:Nat):Int).tmod 8=(i:Int):=by rw[Int.tmod_eq_emod_of_nonneg (by omega)];omega
 have V:(i:Int)<8:=by omega
 have U:=hid G;obtain⟨cR,fR⟩:=qK G;clear J q G;go_wp2_with fail
 have S:=block_setCell (i:=3) (block_setCell (i:=2) (block_setCell (i:=1) (block_setCell (i:=0) U.out (.int .i64 (plA i:Nat))) (.int .i64 (plB i:Nat))) (.int .i64 (plC i:Nat))) (.int .i64 (plD i:Nat));exact Bp (results_cell_row rfl _ _ _ _ _ _ _ rfl S Tryz.underlying330 rfl rfl) rfl ⟨rfl,(((X.setCell (by simp;omega) _).setCell (by simp;omega) _).setCell (by simp;omega) _).setCell (by simp;omega) _ |>.mono (by omega)⟩
theorem qC {P:Program}{fn:Func}{p u:Tmp}{o:TypeId}(h:fn.results= #[.cell p o,.tmp u])(tmps:Array Value)(w:World)(g:Nat)(t:TypeId)(cs:Array Value)(fr:Nat×Nat)(d:TypeDesc)
  (q:tmps.getD p undef= .pointer (some ⟨g,0,none⟩)) (G:w.heap[g]? =some (.cells cs t fr))
  (J:P.underlying o=some d) (D:(match d with| .struct _| .array _ _=>true|_=>false)=true) (I:(P.info? o).map (·.size)=some cs.size):
  (results fn tmps).run P w= .ok (.tuple #[.agg cs,tmps.getD u undef]) w:=by
 rw[results_cell_tmp h,q];simp[asAddr,run_loadVar_row w g t o cs fr d G J D I]
theorem qic (L:List Int)(hL:Words 64 16 L)(D q I G:Nat)(ha:D<16)(hb:q<16)(hc:I<16)(hd:G<16)(ah:D≠q)(ai:D≠I)(ag:D≠G)(ae:q≠I)(af:q≠G)(ad:I≠G)
  (x y:Int) (w:World):
  Calls Tryz.prog 223 #[.agg (qg .u64 L),.int .i64 D,.int .i64 q,.int .i64 I,.int .i64 G,.int .u64 x,.int .u64 y] w fun e w'=>e= .returned (.tuple #[.agg (qg .u64 (mixBig.step L D q I G x y)),.int .i64 0])∧Below w.heap.size w w':=by
 obtain⟨b0,aB⟩:=Ex w.heap.size;have hm: ∀z,IntKind.u64.wrap z=z%2^64:=fun z=>IntKind.wrap_u64 z
 obtain⟨A1,ar⟩:=Ex (IntKind.u64.wrap (IntKind.u64.wrap (wd L D+wd L q)+x));obtain⟨X1,ao⟩:=Ex (bits BinOp.xor .u64 (wd L G) A1);obtain⟨D1,an⟩:=Ex (QY 64 32 X1);obtain⟨C1,ax⟩:=Ex (IntKind.u64.wrap (wd L I+D1));obtain⟨X2,ap⟩:=Ex (bits BinOp.xor .u64 (wd L q) C1);obtain⟨B1,am⟩:=Ex (QY 64 24 X2);obtain⟨A2,az⟩:=Ex (IntKind.u64.wrap (IntKind.u64.wrap (A1+B1)+y));obtain⟨X3,au⟩:=Ex (bits BinOp.xor .u64 D1 A2);obtain⟨D2,al⟩:=Ex (QY 64 16 X3);obtain⟨C2,aD⟩:=Ex (IntKind.u64.wrap (C1+D2));obtain⟨X4,ay⟩:=Ex (bits BinOp.xor .u64 B1 C2);obtain⟨B2,ak⟩:=Ex (QY 64 63 X4);have R1:=hid (fun w=>qfE X1 w (ao▸qT .xor .u64 64 hm _ _));have R2:=hid (fun w=>qfF X2 w (ap▸qT .xor .u64 64 hm _ _));have R3:=hid (fun w=>qfG X3 w (au▸qT .xor .u64 64 hm _ _));have R4:=hid (fun w=>qfD X4 w (ay▸qT .xor .u64 64 hm _ _));have ES:mixBig.step L D q I G x y=(((L.set D A2).set G D2).set I C2).set q B2:=by
  have e1:A1=mixBig.a1 (wd L D) (wd L q) x:=by rw[←ar];exact qh4 64 .u64 hm _ _ _
  have e2:D1=mixBig.d1 (wd L D) (wd L q) (wd L G) x:=by rw[←an,←ao,e1];rfl
  have e3:C1=mixBig.c1 (wd L D) (wd L q) (wd L I) (wd L G) x:=by rw[←ax,e2];exact hm _
  have e4:B1=mixBig.b1 (wd L D) (wd L q) (wd L I) (wd L G) x:=by rw[←am,←ap,e3];rfl
  have e5:A2=mixBig.a2 (wd L D) (wd L q) (wd L I) (wd L G) x y:=by rw[←az,e1,e4];exact qh4 64 .u64 hm _ _ _
  have e6:D2=mixBig.d2 (wd L D) (wd L q) (wd L I) (wd L G) x y:=by rw[←al,←au,e2,e5];rfl
  have e7:C2=mixBig.c2 (wd L D) (wd L q) (wd L I) (wd L G) x y:=by rw[←aD,e3,e6];exact hm _
  have e8:B2=mixBig.b2 (wd L D) (wd L q) (wd L I) (wd L G) x y:=by rw[←ak,←ay,e4,e7];rfl
  rw[e5,e6,e7,e8];rfl
 have aA:=hid (show Ending.returned (.tuple #[.agg (qg .u64 ((((L.set D A2).set G D2).set I C2).set q B2)),.int .i64 0])= .returned (.tuple #[.agg (qg .u64 (mixBig.step L D q I G x y)),.int .i64 0]) by rw[ES]);rw[an]at R1;rw[am]at R2;rw[al]at R3;rw[ak]at R4;clear an am al ak ES hm;obtain⟨va,ac⟩:=Ex (wd L D);obtain⟨vb,Z⟩:=Ex (wd L q);obtain⟨vc,aa⟩:=Ex (wd L I);obtain⟨vd,ab⟩:=Ex (wd L G);rw[ac,Z]at ar;rw[ab]at ao;rw[aa]at ax;rw[Z]at ap;have aq:=hid (And.intro ac (And.intro Z (And.intro aa ab)));clear ac Z aa ab;have HN:=hid (And.intro ah (And.intro ai (And.intro ag (And.intro ae (And.intro af ad)))));have n0:((D:Int)==(q:Int))=false:=by rw[beq_eq_false_iff_ne];omega
 have n1:((D:Int)==(I:Int))=false:=by rw[beq_eq_false_iff_ne];omega
 have n2:((D:Int)==(G:Int))=false:=by rw[beq_eq_false_iff_ne];omega
 have n3:((q:Int)==(I:Int))=false:=by rw[beq_eq_false_iff_ne];omega
 have n4:((q:Int)==(G:Int))=false:=by rw[beq_eq_false_iff_ne];omega
 have n5:((I:Int)==(G:Int))=false:=by rw[beq_eq_false_iff_ne];omega
 go_enter Tryz.func223,Tryz.ntmps223
 clear ah ai ag ae af ad;iterate 4
  go_wp2_with fail
  refine(qgN _ (by assumption) _).mono ?_;rintro r w1 ⟨rfl,rfl⟩
 go_wp2_with fail
 obtain⟨ah,ai,ag,ae,af,ad⟩:=HN.out;refine qj ?_;intro W o;have hv:W.heap[b0]? =some (.cells (qg .u64 L) 252 (0,0)):=by
  rw[o];exact(Bh _ _ _ (by simp;omega)).trans (qc _ _ aB.symm)
 have hr:W.heap[b0+1]? =some (.cells #[.int .u64 0,.int .u64 0,.int .u64 0,.int .u64 0,.int .u64 0,.int .u64 0,.int .u64 0,.int .u64 0,.int .u64 0,.int .u64 0,.int .u64 0,.int .u64 0,.int .u64 0,.int .u64 0,.int .u64 0,.int .u64 0] 252 (0,0)):=by
  rw[o];exact qc _ _ (by simp;omega)
 have hB:Below w.heap.size w W:=by
  rw[o];exact((Below.refl w.heap.size w).alloc Nl _).alloc (by simp) _
 clear o;obtain⟨ac,Z,aa,ab⟩:=aq.out;have h0:At4 .u64 b0 252 D q I G W L va vb vc vd W:=⟨hv,hL.1,ac,Z,aa,ab,⟨ha,hb,hc,hd⟩,⟨ah,ai,ag,ae,af,ad⟩,But.refl _ _⟩;have HR:=hid hr;have HB:=hid hB;clear hv hr hB ac Z aa ab aq;refine qj ?_;intro W0 o;have H0:=hid (h0.letter o);obtain⟨V,O,U,S,X,Y⟩:=H0.out.facts;clear o h0;refine qh (by dsimp only[List.dropLast]) (by rfl) (by rfl) (by kernel_rfl) (by kernel_rfl) (by kernel_rfl) (by kernel_rfl) ?_;repeat(go_big_quiet_step (fail))
 refine wpQuiet_nil ?_;intro _ J;obtain⟨n0,rfl⟩:=J;go_wp2_with fail
 clear V O U S X Y;have h1:=H0.out.setA n0 A1;clear H0;refine qj ?_;intro W1 o;have H1:=hid (h1.letter o);obtain⟨V,O,U,S,X,Y⟩:=H1.out.facts;clear o h1;refine qh (by dsimp only[List.dropLast]) (by rfl) (by rfl) (by kernel_rfl) (by kernel_rfl) (by kernel_rfl) (by kernel_rfl) ?_;repeat(go_big_quiet_step (exact Calls.quiet_of (R1.out _)))
 refine wpQuiet_nil ?_;intro _ J;obtain⟨n1,rfl⟩:=J;go_wp2_with fail
 clear V O U S X Y;have h2:=H1.out.setD n1 D1;clear H1;refine qj ?_;intro W2 o;have H2:=hid (h2.letter o);obtain⟨V,O,U,S,X,Y⟩:=H2.out.facts;clear o h2;refine qh (by dsimp only[List.dropLast]) (by rfl) (by rfl) (by kernel_rfl) (by kernel_rfl) (by kernel_rfl) (by kernel_rfl) ?_;repeat(go_big_quiet_step (fail))
 refine wpQuiet_nil ?_;intro _ J;obtain⟨n2,rfl⟩:=J;go_wp2_with fail
 clear V O U S X Y;have h3:=H2.out.setC n2 C1;clear H2;refine qj ?_;intro W3 o;have H3:=hid (h3.letter o);obtain⟨V,O,U,S,X,Y⟩:=H3.out.facts;clear o h3;refine qh (by dsimp only[List.dropLast]) (by rfl) (by rfl) (by kernel_rfl) (by kernel_rfl) (by kernel_rfl) (by kernel_rfl) ?_;repeat(go_big_quiet_step (exact Calls.quiet_of (R2.out _)))
 refine wpQuiet_nil ?_;intro _ J;obtain⟨n3,rfl⟩:=J;go_wp2_with fail
 clear V O U S X Y;have h4:=H3.out.setB n3 B1;clear H3;refine qj ?_;intro W4 o;have H4:=hid (h4.letter o);obtain⟨V,O,U,S,X,Y⟩:=H4.out.facts;clear o h4;refine qh (by dsimp only[List.dropLast]) (by rfl) (by rfl) (by kernel_rfl) (by kernel_rfl) (by kernel_rfl) (by kernel_rfl) ?_;repeat(go_big_quiet_step (fail))
 refine wpQuiet_nil ?_;intro _ J;obtain⟨n4,rfl⟩:=J;go_wp2_with fail
 clear V O U S X Y;have h5:=H4.out.setA n4 A2;clear H4;refine qj ?_;intro W5 o;have H5:=hid (h5.letter o);obtain⟨V,O,U,S,X,Y⟩:=H5.out.facts;clear o h5;refine qh (by dsimp only[List.dropLast]) (by rfl) (by rfl) (by kernel_rfl) (by kernel_rfl) (by kernel_rfl) (by kernel_rfl) ?_;repeat(go_big_quiet_step (exact Calls.quiet_of (R3.out _)))
 refine wpQuiet_nil ?_;intro _ J;obtain⟨n5,rfl⟩:=J;go_wp2_with fail
 clear V O U S X Y;have h6:=H5.out.setD n5 D2;clear H5;refine qj ?_;intro W6 o;have H6:=hid (h6.letter o);obtain⟨V,O,U,S,X,Y⟩:=H6.out.facts;clear o h6;refine qh (by dsimp only[List.dropLast]) (by rfl) (by rfl) (by kernel_rfl) (by kernel_rfl) (by kernel_rfl) (by kernel_rfl) ?_;repeat(go_big_quiet_step (fail))
 refine wpQuiet_nil ?_;intro _ J;obtain⟨n6,rfl⟩:=J;go_wp2_with fail
 clear V O U S X Y;have h7:=H6.out.setC n6 C2;clear H6;refine qj ?_;intro W7 o;have H7:=hid (h7.letter o);obtain⟨V,O,U,S,X,Y⟩:=H7.out.facts;clear o h7;refine qh (by dsimp only[List.dropLast]) (by rfl) (by rfl) (by kernel_rfl) (by kernel_rfl) (by kernel_rfl) (by kernel_rfl) ?_;repeat(go_big_quiet_step (exact Calls.quiet_of (R4.out _)))
 refine wpQuiet_nil ?_;intro _ J;obtain⟨n7,rfl⟩:=J;go_upto_region 11 with(fail)
 clear V O U S X Y;have h8:=H7.out.setB n7 B2;clear H7;have aj:((((L.set D A2).set G D2).set I C2).set q B2).length=16:=by simpa using hL.1
 have av:=(h8.but.block (b0+1) (Ai HR.out).1 (by omega)).trans HR.out;have aw:=h8.heap;have aC:=hid (HB.out.trans (h8.but.below (by omega) HB.out.size));rw[qhI ah ai ag ae af ad]at aw;generalize (((L.set D A2).set G D2).set I C2).set q B2=L8 at*;clear h8;apply wp_region_lit
 refine wpList_load_row rfl 252 _ rfl b0 rfl _ _ _ _ aw Tryz.underlying252 rfl (by rw[qd,aj];kernel_rfl) ?_;refine wpList_store_row rfl 252 _ _ rfl (b0+1) (qg .u64 L8) rfl rfl 252 _ av (by rw[qd,aj];kernel_rfl) (by rw[qd,aj];rfl) qw ?_;simp only[Act.put,Ls];go_wp2_with fail
 exact Bp (qC rfl _ _ _ _ _ _ _ rfl (setRow_heap _ _ _ _ _ _ av) Tryz.underlying252 rfl (by rw[qd,aj];kernel_rfl)) rfl ⟨Eq.trans (b:= .returned (.tuple #[.agg (qg .u64 L8),.int .i64 0])) rfl aA.out,below_setRow (aC.out.mono (by omega)) (by omega) _⟩
def n4 (a b c d:Nat)(i:Nat):Nat:=match i with|0=>a|1=>b|2=>c|_=>d
theorem qeF (q D G o:Nat)(ha:q<16)(hb:D<16)(hc:G<16)(hd:o<16)(Z:q≠D)(aa:q≠G)(X:q≠o)(U:D≠G)(ab:D≠o)(V:G≠o)(w:World):
  Calls Tryz.prog 236 #[.int .i64 q,.int .i64 D,.int .i64 G,.int .i64 o] w fun e w'=>e= .returned (.bool true)∧Below w.heap.size w w':=by
 have I: ∀i,i<4→n4 q D G o i<16:=fun i S=>by
  match i,S with
  | 0,_=>exact ha
  | 1,_=>exact hb
  | 2,_=>exact hc
  | 3,_=>exact hd
 have Y: ∀i j,i<4→j<i→n4 q D G o i≠n4 q D G o j:=fun i j S hj=>by
  match i,j,S,hj with
  | 1,0,_,_=>exact Ne.symm Z
  | 2,0,_,_=>exact Ne.symm aa
  | 2,1,_,_=>exact Ne.symm U
  | 3,0,_,_=>exact Ne.symm X
  | 3,1,_,_=>exact Ne.symm ab
  | 3,2,_,_=>exact Ne.symm V
 have ac:=hid I;have ae:=hid Y;clear ha hb hc hd Z aa X U ab V I Y;obtain⟨b0,ad⟩:=Ex w.heap.size;go_enter Tryz.func236,Tryz.ntmps236
 go_wp2_with fail
 refine qj ?_;intro W hW;have hl:W.heap[b0]? =some (.cells #[.int .i64 q,.int .i64 D,.int .i64 G,.int .i64 o] 3 (0,0)):=by
  rw[hW];exact qc _ _ ad.symm
 have hB:Below w.heap.size w W:=by rw[hW];exact Br.alloc Nl _
 have J: ∀i,i<4→W.cell? ⟨b0,i,none⟩=some (.int .i64 (n4 q D G o i)):=fun i S=>by
  rw[qm hl];match i,S with
  | 0,_=>rfl
  | 1,_=>rfl
  | 2,_=>rfl
  | 3,_=>rfl
 have HC:=hid J;clear hW hl J;go_loopw [10] (fun i wr=> ∃j m:Nat,i= .int .i64 j∧j≤4∧wr=W.drewN m) (fun i _=>4 - (intOf i).toNat)
 case atStart=>exact⟨0,0,rfl,Nat.zero_le _,rfl⟩
 case round=>
  obtain⟨j,m,rfl,hj,rfl⟩:=hrel;by_cases I:j<4
  ·have c1:=HC.out j I;have l1:=ac.out j I;have HN:=hid (fun k hk=>ae.out j k I hk);have af:=hid (fun k (hk:k<j)=>HC.out k (by omega));generalize n4 q D G o j=x at*;have q1: ¬((x:Int)<0):=by omega
   have q2: ¬(15<(x:Int)):=by omega
   go_wp2_with fail
   go_loopw [11] (fun i wr=> ∃k m:Nat,i= .int .i64 k∧k≤j∧wr=W.drewN m) (fun i _=>j - (intOf i).toNat)
   case atStart=>exact⟨0,m,rfl,Nat.zero_le _,rfl⟩
   case round=>
    obtain⟨k,m2,rfl,hk,rfl⟩:=hrel;by_cases O:k<j
    ·have c2:=af.out k O;have n2:=HN.out k O;generalize n4 q D G o k=y at*;have n3:((x:Int)==(y:Int))=false:=by rw[beq_eq_false_iff_ne];omega
     have q3:k<4:=by omega
     clear n2;go_wp2_with fail
     go_quiet (fail)
     go_wp2
     exact⟨⟨k+1,_,rfl,by omega,rfl⟩,by simp[intOf];omega⟩
    ·obtain rfl:k=j:=by omega
     go_wp2
     exact⟨⟨k+1,m2,rfl,by omega,rfl⟩,by simp[intOf];omega⟩
  ·obtain rfl:j=4:=by omega
   go_wp2
   go_ret
   exact⟨rfl,hB.trans (QF _)⟩
theorem Q7 {fn:Func}{t u v x:Tmp}(h:fn.results= #[.tmp t,.tmp u,.tmp v,.tmp x])(tmps:Array Value)(P:Program)(w:World):
  (results fn tmps).run P w= .ok (.tuple #[tmps.getD t undef,tmps.getD u undef,tmps.getD v undef,tmps.getD x undef]) w:=by
 simp[results,h]
theorem qhU (i:Nat)(o:i<8)(w:World):Calls Tryz.prog 225 #[.int .i64 i] w fun e w'=>e= .returned (.tuple #[.int .i64 (plA i:Nat),.int .i64 (plB i:Nat),.int .i64 (plC i:Nat),.int .i64 (plD i:Nat)])∧w'=w:=by
 rcases(show i=0∨i=1∨i=2∨i=3∨i=4∨i=5∨i=6∨i=7 by omega)with rfl|rfl|rfl|rfl|rfl|rfl|rfl|rfl
 ·go_enter Tryz.func225,Tryz.ntmps225
  go_wp2
  exact Bp (Q7 rfl _ _ _) rfl ⟨rfl,rfl⟩
 ·go_enter Tryz.func225,Tryz.ntmps225
  go_wp2
  exact Bp (Q7 rfl _ _ _) rfl ⟨rfl,rfl⟩
 ·go_enter Tryz.func225,Tryz.ntmps225
  go_wp2
  exact Bp (Q7 rfl _ _ _) rfl ⟨rfl,rfl⟩
 ·go_enter Tryz.func225,Tryz.ntmps225
  go_wp2
  exact Bp (Q7 rfl _ _ _) rfl ⟨rfl,rfl⟩
 ·go_enter Tryz.func225,Tryz.ntmps225
  go_wp2
  exact Bp (Q7 rfl _ _ _) rfl ⟨rfl,rfl⟩
 ·go_enter Tryz.func225,Tryz.ntmps225
  go_wp2
  exact Bp (Q7 rfl _ _ _) rfl ⟨rfl,rfl⟩
 ·go_enter Tryz.func225,Tryz.ntmps225
  go_wp2
  exact Bp (Q7 rfl _ _ _) rfl ⟨rfl,rfl⟩
 ·go_enter Tryz.func225,Tryz.ntmps225
  go_wp2
  exact Bp (Q7 rfl _ _ _) rfl ⟨rfl,rfl⟩
theorem qid (L:List Int)(hL:Words 32 16 L)(D q J I:Nat)(ha:D<16)(hb:q<16)(hc:J<16)(hd:I<16)(ah:D≠q)(ai:D≠J)(ag:D≠I)(ab:q≠J)(ae:q≠I)(aa:J≠I)
  (x y:Int) (w:World):
  Calls Tryz.prog 226 #[.agg (qg .u32 L),.int .i64 D,.int .i64 q,.int .i64 J,.int .i64 I,.int .u32 x,.int .u32 y] w fun e w'=>e= .returned (.tuple #[.agg (qg .u32 (mixSmall.step L D q J I x y)),.int .i64 0])∧Below w.heap.size w w':=by
 obtain⟨b0,aC⟩:=Ex w.heap.size;have hm: ∀z,IntKind.u32.wrap z=z%2^32:=fun z=>IntKind.wrap_u32 z
 obtain⟨A1,au⟩:=Ex ((wd L D+wd L q+x)%4294967296);obtain⟨X1,ap⟩:=Ex (bits BinOp.xor .u32 (wd L I) A1);obtain⟨D1,ao⟩:=Ex (QY 32 16 X1);obtain⟨C1,ay⟩:=Ex ((wd L J+D1)%4294967296);obtain⟨X2,aq⟩:=Ex (bits BinOp.xor .u32 (wd L q) C1);obtain⟨B1,an⟩:=Ex (QY 32 12 X2);obtain⟨A2,aA⟩:=Ex ((A1+B1+y)%4294967296);obtain⟨X3,av⟩:=Ex (bits BinOp.xor .u32 D1 A2);obtain⟨D2,am⟩:=Ex (QY 32 8 X3);obtain⟨C2,aE⟩:=Ex ((C1+D2)%4294967296);obtain⟨X4,az⟩:=Ex (bits BinOp.xor .u32 B1 C2);obtain⟨B2,al⟩:=Ex (QY 32 7 X4);have R1:=hid (fun w=>qfH X1 w (ap▸qT .xor .u32 32 hm _ _));have R2:=hid (fun w=>qfI X2 w (aq▸qT .xor .u32 32 hm _ _));have R3:=hid (fun w=>qgs X3 w (av▸qT .xor .u32 32 hm _ _));have R4:=hid (fun w=>qgt X4 w (az▸qT .xor .u32 32 hm _ _));have ES:mixSmall.step L D q J I x y=(((L.set D A2).set I D2).set J C2).set q B2:=by
  have e1:A1=mixSmall.a1 (wd L D) (wd L q) x:=by rw[←au];rfl
  have e2:D1=mixSmall.d1 (wd L D) (wd L q) (wd L I) x:=by rw[←ao,←ap,e1];rfl
  have e3:C1=mixSmall.c1 (wd L D) (wd L q) (wd L J) (wd L I) x:=by rw[←ay,e2];rfl
  have e4:B1=mixSmall.b1 (wd L D) (wd L q) (wd L J) (wd L I) x:=by rw[←an,←aq,e3];rfl
  have e5:A2=mixSmall.a2 (wd L D) (wd L q) (wd L J) (wd L I) x y:=by rw[←aA,e1,e4];rfl
  have e6:D2=mixSmall.d2 (wd L D) (wd L q) (wd L J) (wd L I) x y:=by rw[←am,←av,e2,e5];rfl
  have e7:C2=mixSmall.c2 (wd L D) (wd L q) (wd L J) (wd L I) x y:=by rw[←aE,e3,e6];rfl
  have e8:B2=mixSmall.b2 (wd L D) (wd L q) (wd L J) (wd L I) x y:=by rw[←al,←az,e4,e7];rfl
  rw[e5,e6,e7,e8];rfl
 have aB:=hid (show Ending.returned (.tuple #[.agg (qg .u32 ((((L.set D A2).set I D2).set J C2).set q B2)),.int .i64 0])= .returned (.tuple #[.agg (qg .u32 (mixSmall.step L D q J I x y)),.int .i64 0]) by rw[ES]);rw[ao]at R1;rw[an]at R2;rw[am]at R3;rw[al]at R4;clear ao an am al ES hm;obtain⟨va,af⟩:=Ex (wd L D);obtain⟨vb,Z⟩:=Ex (wd L q);obtain⟨vc,ac⟩:=Ex (wd L J);obtain⟨vd,ad⟩:=Ex (wd L I);rw[af,Z]at au;rw[ad]at ap;rw[ac]at ay;rw[Z]at aq;have ar:=hid (And.intro af (And.intro Z (And.intro ac ad)));clear af Z ac ad;have HN:=hid (And.intro ah (And.intro ai (And.intro ag (And.intro ab (And.intro ae aa)))));go_enter Tryz.func226,Tryz.ntmps226
 go_wp2_with fail
 refine(qeF D q J I ha hb hc hd ah ai ag ab ae aa _).mono ?_;rintro r w1 ⟨rfl,aj⟩;clear ah ai ag ab ae aa;go_wp2_with fail
 obtain⟨ah,ai,ag,ab,ae,aa⟩:=HN.out;refine qj ?_;intro W o;have hv:W.heap[b0]? =some (.cells (qg .u32 L) 298 (0,0)):=by
  rw[o];exact(aj.block b0 (by simp;omega)).trans ((Bh _ _ _ (by simp;omega)).trans (qc _ _ aC.symm))
 have hr:W.heap[b0+1]? =some (.cells #[.int .u32 0,.int .u32 0,.int .u32 0,.int .u32 0,.int .u32 0,.int .u32 0,.int .u32 0,.int .u32 0,.int .u32 0,.int .u32 0,.int .u32 0,.int .u32 0,.int .u32 0,.int .u32 0,.int .u32 0,.int .u32 0] 298 (0,0)):=by
  rw[o];exact(aj.block (b0+1) (by simp;omega)).trans (qc _ _ (by simp;omega))
 have hB:Below w.heap.size w W:=by
  rw[o];exact(((Below.refl w.heap.size w).alloc Nl _).alloc (by simp) _).trans (aj.mono (by simp;omega))
 clear o aj;obtain⟨af,Z,ac,ad⟩:=ar.out;have h0:At4 .u32 b0 298 D q J I W L va vb vc vd W:=⟨hv,hL.1,af,Z,ac,ad,⟨ha,hb,hc,hd⟩,⟨ah,ai,ag,ab,ae,aa⟩,But.refl _ _⟩;have HR:=hid hr;have HB:=hid hB;clear hv hr hB af Z ac ad ar;refine qj ?_;intro W0 o;have H0:=hid (h0.letter o);obtain⟨V,O,U,S,X,Y⟩:=H0.out.facts;clear o h0;refine qh (by dsimp only[List.dropLast]) (by rfl) (by rfl) (by kernel_rfl) (by kernel_rfl) (by kernel_rfl) (by kernel_rfl) ?_;repeat(go_big_quiet_step (fail))
 refine wpQuiet_nil ?_;intro _ G;obtain⟨n0,rfl⟩:=G;go_wp2_with fail
 clear V O U S X Y;have h1:=H0.out.setA n0 A1;clear H0;refine qj ?_;intro W1 o;have H1:=hid (h1.letter o);obtain⟨V,O,U,S,X,Y⟩:=H1.out.facts;clear o h1;refine qh (by dsimp only[List.dropLast]) (by rfl) (by rfl) (by kernel_rfl) (by kernel_rfl) (by kernel_rfl) (by kernel_rfl) ?_;repeat(go_big_quiet_step (exact Calls.quiet_of_same (R1.out _)))
 refine wpQuiet_nil ?_;intro _ G;obtain⟨n1,rfl⟩:=G;go_wp2_with fail
 clear V O U S X Y;have h2:=H1.out.setD n1 D1;clear H1;refine qj ?_;intro W2 o;have H2:=hid (h2.letter o);obtain⟨V,O,U,S,X,Y⟩:=H2.out.facts;clear o h2;refine qh (by dsimp only[List.dropLast]) (by rfl) (by rfl) (by kernel_rfl) (by kernel_rfl) (by kernel_rfl) (by kernel_rfl) ?_;repeat(go_big_quiet_step (fail))
 refine wpQuiet_nil ?_;intro _ G;obtain⟨n2,rfl⟩:=G;go_wp2_with fail
 clear V O U S X Y;have h3:=H2.out.setC n2 C1;clear H2;refine qj ?_;intro W3 o;have H3:=hid (h3.letter o);obtain⟨V,O,U,S,X,Y⟩:=H3.out.facts;clear o h3;refine qh (by dsimp only[List.dropLast]) (by rfl) (by rfl) (by kernel_rfl) (by kernel_rfl) (by kernel_rfl) (by kernel_rfl) ?_;repeat(go_big_quiet_step (exact Calls.quiet_of_same (R2.out _)))
 refine wpQuiet_nil ?_;intro _ G;obtain⟨n3,rfl⟩:=G;go_wp2_with fail
 clear V O U S X Y;have h4:=H3.out.setB n3 B1;clear H3;refine qj ?_;intro W4 o;have H4:=hid (h4.letter o);obtain⟨V,O,U,S,X,Y⟩:=H4.out.facts;clear o h4;refine qh (by dsimp only[List.dropLast]) (by rfl) (by rfl) (by kernel_rfl) (by kernel_rfl) (by kernel_rfl) (by kernel_rfl) ?_;repeat(go_big_quiet_step (fail))
 refine wpQuiet_nil ?_;intro _ G;obtain⟨n4,rfl⟩:=G;go_wp2_with fail
 clear V O U S X Y;have h5:=H4.out.setA n4 A2;clear H4;refine qj ?_;intro W5 o;have H5:=hid (h5.letter o);obtain⟨V,O,U,S,X,Y⟩:=H5.out.facts;clear o h5;refine qh (by dsimp only[List.dropLast]) (by rfl) (by rfl) (by kernel_rfl) (by kernel_rfl) (by kernel_rfl) (by kernel_rfl) ?_;repeat(go_big_quiet_step (exact Calls.quiet_of_same (R3.out _)))
 refine wpQuiet_nil ?_;intro _ G;obtain⟨n5,rfl⟩:=G;go_wp2_with fail
 clear V O U S X Y;have h6:=H5.out.setD n5 D2;clear H5;refine qj ?_;intro W6 o;have H6:=hid (h6.letter o);obtain⟨V,O,U,S,X,Y⟩:=H6.out.facts;clear o h6;refine qh (by dsimp only[List.dropLast]) (by rfl) (by rfl) (by kernel_rfl) (by kernel_rfl) (by kernel_rfl) (by kernel_rfl) ?_;repeat(go_big_quiet_step (fail))
 refine wpQuiet_nil ?_;intro _ G;obtain⟨n6,rfl⟩:=G;go_wp2_with fail
 clear V O U S X Y;have h7:=H6.out.setC n6 C2;clear H6;refine qj ?_;intro W7 o;have H7:=hid (h7.letter o);obtain⟨V,O,U,S,X,Y⟩:=H7.out.facts;clear o h7;refine qh (by dsimp only[List.dropLast]) (by rfl) (by rfl) (by kernel_rfl) (by kernel_rfl) (by kernel_rfl) (by kernel_rfl) ?_;repeat(go_big_quiet_step (exact Calls.quiet_of_same (R4.out _)))
 refine wpQuiet_nil ?_;intro _ G;obtain⟨n7,rfl⟩:=G;go_upto_region 11 with(fail)
 clear V O U S X Y;have h8:=H7.out.setB n7 B2;clear H7;have ak:((((L.set D A2).set I D2).set J C2).set q B2).length=16:=by simpa using hL.1
 have aw:=(h8.but.block (b0+1) (Ai HR.out).1 (by omega)).trans HR.out;have ax:=h8.heap;have aD:=hid (HB.out.trans (h8.but.below (by omega) HB.out.size));rw[qhI ah ai ag ab ae aa]at ax;generalize (((L.set D A2).set I D2).set J C2).set q B2=L8 at*;clear h8;apply wp_region_lit
 refine wpList_load_row rfl 298 _ rfl b0 rfl _ _ _ _ ax Tryz.underlying298 rfl (by rw[qd,ak];kernel_rfl) ?_;refine wpList_store_row rfl 298 _ _ rfl (b0+1) (qg .u32 L8) rfl rfl 298 _ aw (by rw[qd,ak];kernel_rfl) (by rw[qd,ak];rfl) qw ?_;simp only[Act.put,Ls];go_wp2_with fail
 exact Bp (qC rfl _ _ _ _ _ _ _ rfl (setRow_heap _ _ _ _ _ _ aw) Tryz.underlying298 rfl (by rw[qd,ak];kernel_rfl)) rfl ⟨Eq.trans (b:= .returned (.tuple #[.agg (qg .u32 L8),.int .i64 0])) rfl aB.out,below_setRow (aD.out.mono (by omega)) (by omega) _⟩
end Go.Proofs.YthjoojnlnlmljaaGreat

/- The beginning of the rounds, by the program. No condition. -/
import Derived.Test.YthjoojnlnlmljaaGreatG11
import Derived.Laws.CopyOwn
import Derived.Laws.Strings
import Derived.Laws.ResultCell
set_option linter.all false
set_option maxRecDepth 100000
set_option maxHeartbeats 8000000
namespace Go.Proofs.YthjoojnlnlmljaaGreat
open Go.ChangeShapes Go.WideShapes Go.ChangeAt Go.RowKit Go.Joins
open Go.Lib (hid)
attribute [local go_sem] Oper.semAt_some
def IVb:List Int:=[7640891576956012808,13503953896175478587,4354685564936845355,11912009170470909681,5840696475078001361,11170449401992604703,2270897969802886507,6620516959819538809]
def IVs:List Int:=[1779033703,3144134277,1013904242,2773480762,1359893119,2600822924,528734635,1541459225]
theorem QO {B:Nat}{w:World}(n:Nat):Below B w (w.drewN n):=⟨rfl,rfl,rfl,Nat.le_refl _,fun _ _=>rfl⟩
theorem qiC (g off j:Nat):(⟨g,off,none⟩:Addr).add j=⟨g,off+j,none⟩:=by unfold Addr.add;split<;>simp_all
theorem Jk {W:World}{b:Nat}{cs:List Value}{T:TypeId}{fr:Nat×Nat}(h:W.heap[b]? =some (.cells cs.toArray T fr)): ∀j v,cs[j]? =some v→W.cell? ((⟨b,0,none⟩:Addr).add j)=some v:=fun j v o=>by
 rw[qiC,Nat.zero_add,qs h];simpa using o
def Yw (k:IntKind)(iv:List Int)(h:List Int)(x y:Int)(last node:Bool):List Int:=
 [wd h 0,wd h 1,wd h 2,wd h 3,wd h 4,wd h 5,wd h 6,wd h 7,wd iv 0,wd iv 1,wd iv 2,wd iv 3,bits .xor k (wd iv 4) x,bits .xor k (wd iv 5) y,
  if last then bits .xor k k.max (wd iv 6) else wd iv 6,if node then bits .xor k k.max (wd iv 7) else wd iv 7]
theorem qfZ (w:World):Calls Tryz.prog 197 #[] w fun e w'=>e= .returned (.agg #[.int .u64 7640891576956012808,.int .u64 13503953896175478587,.int .u64 4354685564936845355,.int .u64 11912009170470909681,.int .u64 5840696475078001361,.int .u64 11170449401992604703,.int .u64 2270897969802886507,.int .u64 6620516959819538809])∧Below w.heap.size w w':=by
 go_enter Tryz.func197,Tryz.ntmps197
 go_wp2
 exact Bp (results_cell_row rfl _ _ _ _ _ _ _ rfl (Wn _ _) Tryz.underlying274 rfl rfl) rfl ⟨rfl,Br.alloc Nl _⟩
theorem qfY (w:World):Calls Tryz.prog 202 #[] w fun e w'=>e= .returned (.agg #[.int .u32 1779033703,.int .u32 3144134277,.int .u32 1013904242,.int .u32 2773480762,.int .u32 1359893119,.int .u32 2600822924,.int .u32 528734635,.int .u32 1541459225])∧Below w.heap.size w w':=by
 go_enter Tryz.func202,Tryz.ntmps202
 go_wp2
 exact Bp (results_cell_row rfl _ _ _ _ _ _ _ rfl (Wn _ _) Tryz.underlying284 rfl rfl) rfl ⟨rfl,Br.alloc Nl _⟩
theorem qfr (h:List Int)(Y Z:Int)(aa node:Bool)(w:World):Calls Tryz.prog 214 #[.agg #[.int .u64 (wd h 0),.int .u64 (wd h 1),.int .u64 (wd h 2),.int .u64 (wd h 3),.int .u64 (wd h 4),.int .u64 (wd h 5),.int .u64 (wd h 6),.int .u64 (wd h 7)],.agg #[.int .u64 Y,.int .u64 Z],.bool aa,.bool node] w fun e w'=>e= .returned (.agg (qi .u64 (Yw .u64 IVb h Y Z aa node)))∧Below w.heap.size w w':=by
 obtain⟨q,an⟩:=Ex w.heap.size;go_enter Tryz.func214,Tryz.ntmps214
 go_wp2_with fail
 refine qm ?_;intro W o;have hh:W.heap[q]? =some (.cells #[.int .u64 (wd h 0),.int .u64 (wd h 1),.int .u64 (wd h 2),.int .u64 (wd h 3),.int .u64 (wd h 4),.int .u64 (wd h 5),.int .u64 (wd h 6),.int .u64 (wd h 7)] 274 (0,0)):=by
  rw[o];exact(Bh _ _ _ (by simp;omega)).trans ((Bh _ _ _ (by simp;omega)).trans ((Bh _ _ _ (by simp;omega)).trans (qe _ _ an.symm)))
 have hc:W.heap[q+1]? =some (.cells #[.int .u64 Y,.int .u64 Z] 281 (0,0)):=by
  rw[o];exact(Bh _ _ _ (by simp;omega)).trans ((Bh _ _ _ (by simp;omega)).trans (qe _ _ (by simp;omega)))
 have hr:W.heap[q+1+1]? =some (.cells #[.int .u64 0,.int .u64 0,.int .u64 0,.int .u64 0,.int .u64 0,.int .u64 0,.int .u64 0,.int .u64 0,.int .u64 0,.int .u64 0,.int .u64 0,.int .u64 0,.int .u64 0,.int .u64 0,.int .u64 0,.int .u64 0] 252 (0,0)):=by
  rw[o];exact(Bh _ _ _ (by simp;omega)).trans (qe _ _ (by simp;omega))
 have hv:W.heap[q+1+1+1]? =some (.cells #[.int .u64 0,.int .u64 0,.int .u64 0,.int .u64 0,.int .u64 0,.int .u64 0,.int .u64 0,.int .u64 0,.int .u64 0,.int .u64 0,.int .u64 0,.int .u64 0,.int .u64 0,.int .u64 0,.int .u64 0,.int .u64 0] 252 (0,0)):=by
  rw[o];exact qe _ _ (by simp;omega)
 have hB:Below w.heap.size w W:=by
  rw[o];exact(((Br.alloc Nl _).alloc (by simp) _).alloc (by simp;omega) _).alloc (by simp;omega) _
 have hs:W.heap.size=q+4:=by rw[o];simp;omega
 clear o;refine qj (by dsimp only[List.dropLast]) (by rfl) (by rfl) (by kernel_rfl) (by kernel_rfl) (by kernel_rfl) (by kernel_rfl) ?_;repeat(go_big_quiet_step (fail))
 refine wpQuiet_nil ?_;intro _ ac;obtain⟨n1,rfl⟩:=ac;refine wpList_copy_own rfl _ _ _ _ rfl 44 Tryz.underlying105 rfl (q+1+1+1) 0 8 16 ⟨q,0,none⟩ 8 8 rfl rfl #[.int .u64 0,.int .u64 0,.int .u64 0,.int .u64 0,.int .u64 0,.int .u64 0,.int .u64 0,.int .u64 0,.int .u64 0,.int .u64 0,.int .u64 0,.int .u64 0,.int .u64 0,.int .u64 0,.int .u64 0,.int .u64 0] 252 hv [.int .u64 (wd h 0),.int .u64 (wd h 1),.int .u64 (wd h 2),.int .u64 (wd h 3),.int .u64 (wd h 4),.int .u64 (wd h 5),.int .u64 (wd h 6),.int .u64 (wd h 7)] rfl
  (Jk (W:=W.drewN n1) hh) (by simp) (by simp[Value.oneCell']) ?_
 go_wp2_with fail
 refine(qfZ _).mono ?_;rintro e1 w1 ⟨rfl,X⟩;have ad:=(X.block (q+1+1+1) (by simp;omega)).trans (setRow_heap (W.drewN n1) _ _ _ _ _ hv);have ak:=(X.block (q+1) (by simp;omega)).trans ((setRow_other (W.drewN n1) _ _ _ (by omega)).trans hc);have ai:=(X.block (q+1+1) (by simp;omega)).trans ((setRow_other (W.drewN n1) _ _ _ (by omega)).trans hr);have ap:q+4≤w1.heap.size:=by have:=X.size;simp at this;omega
 have al:Below w.heap.size w w1:=(below_setRow (hB.trans (QO n1)) (by omega) _).trans (X.mono (by simp;omega));clear X hv hc hr hh hB;go_wp2_with fail
 refine qj (by dsimp only[List.dropLast]) (by rfl) (by rfl) (by kernel_rfl) (by kernel_rfl) (by kernel_rfl) (by kernel_rfl) ?_;repeat(go_big_quiet_step (fail))
 refine wpQuiet_nil ?_;intro _ ac;obtain⟨n2,rfl⟩:=ac;refine wpList_copy_own rfl _ _ _ _ rfl 44 Tryz.underlying105 rfl (q+1+1+1) 8 8 8 ⟨w1.heap.size,0,none⟩ 8 8 rfl rfl #[.int .u64 (wd h 0),.int .u64 (wd h 1),.int .u64 (wd h 2),.int .u64 (wd h 3),.int .u64 (wd h 4),.int .u64 (wd h 5),.int .u64 (wd h 6),.int .u64 (wd h 7),.int .u64 0,.int .u64 0,.int .u64 0,.int .u64 0,.int .u64 0,.int .u64 0,.int .u64 0,.int .u64 0] 252 ((Bh _ _ _ (by omega)).trans ad) [.int .u64 7640891576956012808,.int .u64 13503953896175478587,.int .u64 4354685564936845355,.int .u64 11912009170470909681,.int .u64 5840696475078001361,.int .u64 11170449401992604703,.int .u64 2270897969802886507,.int .u64 6620516959819538809] rfl
  (Jk (W:=(w1.alloc _).drewN n2) (Wn _ _)) (by simp) (by simp[Value.oneCell']) ?_
 go_upto_region 5 with(fail)
 refine qm ?_;intro W4 o;have ab:W4.heap[q+1+1+1]? =some (.cells #[.int .u64 (wd h 0),.int .u64 (wd h 1),.int .u64 (wd h 2),.int .u64 (wd h 3),.int .u64 (wd h 4),.int .u64 (wd h 5),.int .u64 (wd h 6),.int .u64 (wd h 7),.int .u64 7640891576956012808,.int .u64 13503953896175478587,.int .u64 4354685564936845355,.int .u64 11912009170470909681,.int .u64 5840696475078001361,.int .u64 11170449401992604703,.int .u64 2270897969802886507,.int .u64 6620516959819538809] 252 (0,0)):=by
  rw[o];exact setRow_heap ((w1.alloc _).drewN n2) _ _ _ _ _ ((Bh _ _ _ (by omega)).trans ad)
 have ag:W4.heap[q+1]? =some (.cells #[.int .u64 Y,.int .u64 Z] 281 (0,0)):=by
  rw[o];exact(setRow_other ((w1.alloc _).drewN n2) _ _ _ (by omega)).trans ((Bh _ _ _ (by omega)).trans ak)
 have aj:W4.heap[q+1+1]? =some (.cells #[.int .u64 0,.int .u64 0,.int .u64 0,.int .u64 0,.int .u64 0,.int .u64 0,.int .u64 0,.int .u64 0,.int .u64 0,.int .u64 0,.int .u64 0,.int .u64 0,.int .u64 0,.int .u64 0,.int .u64 0,.int .u64 0] 252 (0,0)):=by
  rw[o];exact(setRow_other ((w1.alloc _).drewN n2) _ _ _ (by omega)).trans ((Bh _ _ _ (by omega)).trans ai)
 have ae:Below w.heap.size w W4:=by
  rw[o];exact below_setRow ((al.alloc (by omega) _).trans (QO n2)) (by omega) _
 clear o ad ak ai al;have ao:q+4≤W4.heap.size:=by have:=ae.size;have:=(Ai ab).1;omega
 obtain⟨cv,fv⟩:=qO ab;obtain⟨cc,fc⟩:=qO ag;have O:=hid ab;have I:=hid aj;have J:=hid ae;clear ab ag aj ae;go_upto_region 7 with(fail)
 refine qm ?_;intro W5 o;have af:W5.heap[q+1+1+1]? =some (.cells #[.int .u64 (wd h 0),.int .u64 (wd h 1),.int .u64 (wd h 2),.int .u64 (wd h 3),.int .u64 (wd h 4),.int .u64 (wd h 5),.int .u64 (wd h 6),.int .u64 (wd h 7),.int .u64 7640891576956012808,.int .u64 13503953896175478587,.int .u64 4354685564936845355,.int .u64 11912009170470909681,.int .u64 (bits .xor .u64 5840696475078001361 Y),.int .u64 (bits .xor .u64 11170449401992604703 Z),.int .u64 2270897969802886507,.int .u64 6620516959819538809] 252 (0,0)):=by
  rw[o];exact block_setCell (i:=13) (block_setCell (i:=12) O.out _) _
 have am:W5.heap[q+1+1]? =some (.cells #[.int .u64 0,.int .u64 0,.int .u64 0,.int .u64 0,.int .u64 0,.int .u64 0,.int .u64 0,.int .u64 0,.int .u64 0,.int .u64 0,.int .u64 0,.int .u64 0,.int .u64 0,.int .u64 0,.int .u64 0,.int .u64 0] 252 (0,0)):=by
  rw[o];exact(Below.heap_setCell _ _ _ _ (by simp)).trans ((Below.heap_setCell _ _ _ _ (by simp)).trans I.out)
 have ah:Below w.heap.size w W5:=by
  rw[o];exact(J.out.setCell (by simp;omega) _).setCell (by simp;omega) _
 clear o O I J cv fv cc fc;obtain⟨cv,fv⟩:=qO af;have O:=hid af;have I:=hid am;have J:=hid ah;clear af am ah
 cases aa<;>cases node
 ·go_upto_region 11 with(fail)
  refine qm ?_;intro G o;have V:G.heap[q+1+1+1]? =some (.cells #[.int .u64 (wd h 0),.int .u64 (wd h 1),.int .u64 (wd h 2),.int .u64 (wd h 3),.int .u64 (wd h 4),.int .u64 (wd h 5),.int .u64 (wd h 6),.int .u64 (wd h 7),.int .u64 7640891576956012808,.int .u64 13503953896175478587,.int .u64 4354685564936845355,.int .u64 11912009170470909681,.int .u64 (bits .xor .u64 5840696475078001361 Y),.int .u64 (bits .xor .u64 11170449401992604703 Z),.int .u64 2270897969802886507,.int .u64 6620516959819538809] 252 (0,0)):=by
   rw[o];exact O.out
  have D:G.heap[q+1+1]? =some (.cells #[.int .u64 0,.int .u64 0,.int .u64 0,.int .u64 0,.int .u64 0,.int .u64 0,.int .u64 0,.int .u64 0,.int .u64 0,.int .u64 0,.int .u64 0,.int .u64 0,.int .u64 0,.int .u64 0,.int .u64 0,.int .u64 0] 252 (0,0)):=by
   rw[o];exact I.out
  have U:Below w.heap.size w G:=by
   rw[o];exact J.out
  clear o O I J cv fv;apply wp_region_lit
  refine wpList_load_row rfl 252 _ rfl (q+1+1+1) rfl _ _ _ _ V Tryz.underlying252 rfl (by kernel_rfl) ?_;refine wpList_store_row rfl 252 _ _ rfl (q+1+1) _ rfl rfl 252 _ D (by kernel_rfl) (by kernel_rfl) (by kernel_rfl) ?_;simp only[Act.put,Ls];go_wp2_with fail
  exact Bp (results_cell_row rfl _ _ _ _ _ _ _ rfl (setRow_heap _ _ _ _ _ _ D) Tryz.underlying252 rfl (by kernel_rfl)) rfl ⟨rfl,below_setRow (U.mono (by omega)) (by omega) _⟩
 ·go_upto_region 11 with(fail)
  refine qm ?_;intro G o;have V:G.heap[q+1+1+1]? =some (.cells #[.int .u64 (wd h 0),.int .u64 (wd h 1),.int .u64 (wd h 2),.int .u64 (wd h 3),.int .u64 (wd h 4),.int .u64 (wd h 5),.int .u64 (wd h 6),.int .u64 (wd h 7),.int .u64 7640891576956012808,.int .u64 13503953896175478587,.int .u64 4354685564936845355,.int .u64 11912009170470909681,.int .u64 (bits .xor .u64 5840696475078001361 Y),.int .u64 (bits .xor .u64 11170449401992604703 Z),.int .u64 2270897969802886507,.int .u64 (bits .xor .u64 (IntKind.max .u64) 6620516959819538809)] 252 (0,0)):=by
   rw[o];exact(block_setCell (i:=15) O.out _)
  have D:G.heap[q+1+1]? =some (.cells #[.int .u64 0,.int .u64 0,.int .u64 0,.int .u64 0,.int .u64 0,.int .u64 0,.int .u64 0,.int .u64 0,.int .u64 0,.int .u64 0,.int .u64 0,.int .u64 0,.int .u64 0,.int .u64 0,.int .u64 0,.int .u64 0] 252 (0,0)):=by
   rw[o];exact((Below.heap_setCell _ _ _ _ (by simp)).trans I.out)
  have U:Below w.heap.size w G:=by
   rw[o];exact(J.out.setCell (by simp;omega) _)
  clear o O I J cv fv;apply wp_region_lit
  refine wpList_load_row rfl 252 _ rfl (q+1+1+1) rfl _ _ _ _ V Tryz.underlying252 rfl (by kernel_rfl) ?_;refine wpList_store_row rfl 252 _ _ rfl (q+1+1) _ rfl rfl 252 _ D (by kernel_rfl) (by kernel_rfl) (by kernel_rfl) ?_;simp only[Act.put,Ls];go_wp2_with fail
  exact Bp (results_cell_row rfl _ _ _ _ _ _ _ rfl (setRow_heap _ _ _ _ _ _ D) Tryz.underlying252 rfl (by kernel_rfl)) rfl ⟨rfl,below_setRow (U.mono (by omega)) (by omega) _⟩
 ·go_upto_region 11 with(fail)
  refine qm ?_;intro G o;have V:G.heap[q+1+1+1]? =some (.cells #[.int .u64 (wd h 0),.int .u64 (wd h 1),.int .u64 (wd h 2),.int .u64 (wd h 3),.int .u64 (wd h 4),.int .u64 (wd h 5),.int .u64 (wd h 6),.int .u64 (wd h 7),.int .u64 7640891576956012808,.int .u64 13503953896175478587,.int .u64 4354685564936845355,.int .u64 11912009170470909681,.int .u64 (bits .xor .u64 5840696475078001361 Y),.int .u64 (bits .xor .u64 11170449401992604703 Z),.int .u64 (bits .xor .u64 (IntKind.max .u64) 2270897969802886507),.int .u64 6620516959819538809] 252 (0,0)):=by
   rw[o];exact(block_setCell (i:=14) O.out _)
  have D:G.heap[q+1+1]? =some (.cells #[.int .u64 0,.int .u64 0,.int .u64 0,.int .u64 0,.int .u64 0,.int .u64 0,.int .u64 0,.int .u64 0,.int .u64 0,.int .u64 0,.int .u64 0,.int .u64 0,.int .u64 0,.int .u64 0,.int .u64 0,.int .u64 0] 252 (0,0)):=by
   rw[o];exact((Below.heap_setCell _ _ _ _ (by simp)).trans I.out)
  have U:Below w.heap.size w G:=by
   rw[o];exact(J.out.setCell (by simp;omega) _)
  clear o O I J cv fv;apply wp_region_lit
  refine wpList_load_row rfl 252 _ rfl (q+1+1+1) rfl _ _ _ _ V Tryz.underlying252 rfl (by kernel_rfl) ?_;refine wpList_store_row rfl 252 _ _ rfl (q+1+1) _ rfl rfl 252 _ D (by kernel_rfl) (by kernel_rfl) (by kernel_rfl) ?_;simp only[Act.put,Ls];go_wp2_with fail
  exact Bp (results_cell_row rfl _ _ _ _ _ _ _ rfl (setRow_heap _ _ _ _ _ _ D) Tryz.underlying252 rfl (by kernel_rfl)) rfl ⟨rfl,below_setRow (U.mono (by omega)) (by omega) _⟩
 ·go_upto_region 11 with(fail)
  refine qm ?_;intro G o;have V:G.heap[q+1+1+1]? =some (.cells #[.int .u64 (wd h 0),.int .u64 (wd h 1),.int .u64 (wd h 2),.int .u64 (wd h 3),.int .u64 (wd h 4),.int .u64 (wd h 5),.int .u64 (wd h 6),.int .u64 (wd h 7),.int .u64 7640891576956012808,.int .u64 13503953896175478587,.int .u64 4354685564936845355,.int .u64 11912009170470909681,.int .u64 (bits .xor .u64 5840696475078001361 Y),.int .u64 (bits .xor .u64 11170449401992604703 Z),.int .u64 (bits .xor .u64 (IntKind.max .u64) 2270897969802886507),.int .u64 (bits .xor .u64 (IntKind.max .u64) 6620516959819538809)] 252 (0,0)):=by
   rw[o];exact(block_setCell (i:=15) (block_setCell (i:=14) O.out _) _)
  have D:G.heap[q+1+1]? =some (.cells #[.int .u64 0,.int .u64 0,.int .u64 0,.int .u64 0,.int .u64 0,.int .u64 0,.int .u64 0,.int .u64 0,.int .u64 0,.int .u64 0,.int .u64 0,.int .u64 0,.int .u64 0,.int .u64 0,.int .u64 0,.int .u64 0] 252 (0,0)):=by
   rw[o];exact((Below.heap_setCell _ _ _ _ (by simp)).trans ((Below.heap_setCell _ _ _ _ (by simp)).trans I.out))
  have U:Below w.heap.size w G:=by
   rw[o];exact((J.out.setCell (by simp;omega) _).setCell (by simp;omega) _)
  clear o O I J cv fv;apply wp_region_lit
  refine wpList_load_row rfl 252 _ rfl (q+1+1+1) rfl _ _ _ _ V Tryz.underlying252 rfl (by kernel_rfl) ?_;refine wpList_store_row rfl 252 _ _ rfl (q+1+1) _ rfl rfl 252 _ D (by kernel_rfl) (by kernel_rfl) (by kernel_rfl) ?_;simp only[Act.put,Ls];go_wp2_with fail
  exact Bp (results_cell_row rfl _ _ _ _ _ _ _ rfl (setRow_heap _ _ _ _ _ _ D) Tryz.underlying252 rfl (by kernel_rfl)) rfl ⟨rfl,below_setRow (U.mono (by omega)) (by omega) _⟩
theorem qeu (h:List Int)(c:Int)(aw:0≤c)(au:c<18446744073709551616)(Z node:Bool)(w:World):Calls Tryz.prog 217 #[.agg #[.int .u32 (wd h 0),.int .u32 (wd h 1),.int .u32 (wd h 2),.int .u32 (wd h 3),.int .u32 (wd h 4),.int .u32 (wd h 5),.int .u32 (wd h 6),.int .u32 (wd h 7)],.int .u64 c,.bool Z,.bool node] w fun e w'=>e= .returned (.agg (qi .u32 (Yw .u32 IVs h (c%4294967296) (c/4294967296) Z node)))∧Below w.heap.size w w':=by
 obtain⟨q,ap⟩:=Ex w.heap.size;go_enter Tryz.func217,Tryz.ntmps217
 go_wp2_with fail
 refine(qfY _).mono ?_;rintro e1 w1 ⟨rfl,X⟩;have af:=(X.block q (by simp;omega)).trans ((Bh _ _ _ (by simp;omega)).trans ((Bh _ _ _ (by simp;omega)).trans (qe _ _ ap.symm)));have ag:=(X.block (q+1) (by simp;omega)).trans ((Bh _ _ _ (by simp;omega)).trans (qe _ _ (by simp;omega)));have ak:=(X.block (q+1+1) (by simp;omega)).trans (qe _ _ (by simp;omega));have av:q+3≤w1.heap.size:=by have:=X.size;simp at this;omega
 have aj:Below w.heap.size w w1:=((((Below.refl w.heap.size w).alloc Nl _).alloc (by simp) _).alloc (by simp;omega) _).trans (X.mono (by simp;omega));clear X;go_wp2_with fail
 refine qm ?_;intro W o;have hh:W.heap[q]? =some (.cells #[.int .u32 (wd h 0),.int .u32 (wd h 1),.int .u32 (wd h 2),.int .u32 (wd h 3),.int .u32 (wd h 4),.int .u32 (wd h 5),.int .u32 (wd h 6),.int .u32 (wd h 7)] 284 (0,0)):=by
  rw[o];exact(Bh _ _ _ (by omega)).trans af
 have hr:W.heap[q+1]? =some (.cells #[.int .u32 0,.int .u32 0,.int .u32 0,.int .u32 0,.int .u32 0,.int .u32 0,.int .u32 0,.int .u32 0,.int .u32 0,.int .u32 0,.int .u32 0,.int .u32 0,.int .u32 0,.int .u32 0,.int .u32 0,.int .u32 0] 298 (0,0)):=by
  rw[o];exact(Bh _ _ _ (by omega)).trans ag
 have hv:W.heap[q+1+1]? =some (.cells #[.int .u32 0,.int .u32 0,.int .u32 0,.int .u32 0,.int .u32 0,.int .u32 0,.int .u32 0,.int .u32 0,.int .u32 0,.int .u32 0,.int .u32 0,.int .u32 0,.int .u32 0,.int .u32 0,.int .u32 0,.int .u32 0] 298 (0,0)):=by
  rw[o];exact(Bh _ _ _ (by omega)).trans ak
 have hi:W.heap[w1.heap.size]? =some (.cells #[.int .u32 1779033703,.int .u32 3144134277,.int .u32 1013904242,.int .u32 2773480762,.int .u32 1359893119,.int .u32 2600822924,.int .u32 528734635,.int .u32 1541459225] 284 (0,0)):=by
  rw[o];exact Wn _ _
 have hB:Below w.heap.size w W:=by rw[o];exact aj.alloc (by omega) _
 have hs:W.heap.size=w1.heap.size+1:=by rw[o];simp
 clear o af ag ak aj;refine qj (by dsimp only[List.dropLast]) (by rfl) (by rfl) (by kernel_rfl) (by kernel_rfl) (by kernel_rfl) (by kernel_rfl) ?_;repeat(go_big_quiet_step (fail))
 refine wpQuiet_nil ?_;intro _ ac;obtain⟨n1,rfl⟩:=ac;refine wpList_copy_own rfl _ _ _ _ rfl 23 Tryz.underlying308 rfl (q+1+1) 0 8 16 ⟨q,0,none⟩ 8 8 rfl rfl #[.int .u32 0,.int .u32 0,.int .u32 0,.int .u32 0,.int .u32 0,.int .u32 0,.int .u32 0,.int .u32 0,.int .u32 0,.int .u32 0,.int .u32 0,.int .u32 0,.int .u32 0,.int .u32 0,.int .u32 0,.int .u32 0] 298 hv [.int .u32 (wd h 0),.int .u32 (wd h 1),.int .u32 (wd h 2),.int .u32 (wd h 3),.int .u32 (wd h 4),.int .u32 (wd h 5),.int .u32 (wd h 6),.int .u32 (wd h 7)] rfl
  (Jk (W:=W.drewN n1) hh) (by simp) (by simp[Value.oneCell']) ?_
 refine wpList_nil ?_;simp only[Act.put,Ls];go_wp2_with fail
 refine qm ?_;intro Y o;have ad:Y.heap[q+1+1]? =some (.cells #[.int .u32 (wd h 0),.int .u32 (wd h 1),.int .u32 (wd h 2),.int .u32 (wd h 3),.int .u32 (wd h 4),.int .u32 (wd h 5),.int .u32 (wd h 6),.int .u32 (wd h 7),.int .u32 0,.int .u32 0,.int .u32 0,.int .u32 0,.int .u32 0,.int .u32 0,.int .u32 0,.int .u32 0] 298 (0,0)):=by
  rw[o];exact setRow_heap (W.drewN n1) _ _ _ _ _ hv
 have ao:Y.heap[q+1]? =some (.cells #[.int .u32 0,.int .u32 0,.int .u32 0,.int .u32 0,.int .u32 0,.int .u32 0,.int .u32 0,.int .u32 0,.int .u32 0,.int .u32 0,.int .u32 0,.int .u32 0,.int .u32 0,.int .u32 0,.int .u32 0,.int .u32 0] 298 (0,0)):=by
  rw[o];exact(setRow_other (W.drewN n1) _ _ _ (by omega)).trans hr
 have an:Y.heap[w1.heap.size]? =some (.cells #[.int .u32 1779033703,.int .u32 3144134277,.int .u32 1013904242,.int .u32 2773480762,.int .u32 1359893119,.int .u32 2600822924,.int .u32 528734635,.int .u32 1541459225] 284 (0,0)):=by
  rw[o];exact(setRow_other (W.drewN n1) _ _ _ (by omega)).trans hi
 have ah:Below w.heap.size w Y:=by rw[o];exact below_setRow (hB.trans (QO n1)) (by omega) _
 clear o hh hr hv hi hB;refine qj (by dsimp only[List.dropLast]) (by rfl) (by rfl) (by kernel_rfl) (by kernel_rfl) (by kernel_rfl) (by kernel_rfl) ?_;repeat(go_big_quiet_step (fail))
 refine wpQuiet_nil ?_;intro _ ac;obtain⟨n2,rfl⟩:=ac;refine wpList_copy_own rfl _ _ _ _ rfl 23 Tryz.underlying308 rfl (q+1+1) 8 8 8 ⟨w1.heap.size,0,none⟩ 8 8 rfl rfl #[.int .u32 (wd h 0),.int .u32 (wd h 1),.int .u32 (wd h 2),.int .u32 (wd h 3),.int .u32 (wd h 4),.int .u32 (wd h 5),.int .u32 (wd h 6),.int .u32 (wd h 7),.int .u32 0,.int .u32 0,.int .u32 0,.int .u32 0,.int .u32 0,.int .u32 0,.int .u32 0,.int .u32 0] 298 ad [.int .u32 1779033703,.int .u32 3144134277,.int .u32 1013904242,.int .u32 2773480762,.int .u32 1359893119,.int .u32 2600822924,.int .u32 528734635,.int .u32 1541459225] rfl
  (Jk (W:=Y.drewN n2) an) (by simp) (by simp[Value.oneCell']) ?_
 go_upto_region 5 with(fail)
 refine qm ?_;intro W4 o;have aa:W4.heap[q+1+1]? =some (.cells #[.int .u32 (wd h 0),.int .u32 (wd h 1),.int .u32 (wd h 2),.int .u32 (wd h 3),.int .u32 (wd h 4),.int .u32 (wd h 5),.int .u32 (wd h 6),.int .u32 (wd h 7),.int .u32 1779033703,.int .u32 3144134277,.int .u32 1013904242,.int .u32 2773480762,.int .u32 1359893119,.int .u32 2600822924,.int .u32 528734635,.int .u32 1541459225] 298 (0,0)):=by
  rw[o];exact setRow_heap (Y.drewN n2) _ _ _ _ _ ad
 have ai:W4.heap[q+1]? =some (.cells #[.int .u32 0,.int .u32 0,.int .u32 0,.int .u32 0,.int .u32 0,.int .u32 0,.int .u32 0,.int .u32 0,.int .u32 0,.int .u32 0,.int .u32 0,.int .u32 0,.int .u32 0,.int .u32 0,.int .u32 0,.int .u32 0] 298 (0,0)):=by
  rw[o];exact(setRow_other (Y.drewN n2) _ _ _ (by omega)).trans ao
 have am:Below w.heap.size w W4:=by rw[o];exact below_setRow (ah.trans (QO n2)) (by omega) _
 clear o ad ao an ah hs;have aq:=(Ai aa).1;obtain⟨cv,fv⟩:=qO aa;have O:=hid aa;have I:=hid ai;have J:=hid am;clear aa ai am;go_upto_region 7 with(fail)
 refine qm ?_;intro W5 o;have ab:W5.heap[q+1+1]? =some (.cells #[.int .u32 (wd h 0),.int .u32 (wd h 1),.int .u32 (wd h 2),.int .u32 (wd h 3),.int .u32 (wd h 4),.int .u32 (wd h 5),.int .u32 (wd h 6),.int .u32 (wd h 7),.int .u32 1779033703,.int .u32 3144134277,.int .u32 1013904242,.int .u32 2773480762,.int .u32 (bits .xor .u32 1359893119 (c%4294967296)),.int .u32 (bits .xor .u32 2600822924 (c/4294967296)),.int .u32 528734635,.int .u32 1541459225] 298 (0,0)):=by
  rw[o];exact block_setCell (i:=13) (block_setCell (i:=12) O.out _) _
 have al:W5.heap[q+1]? =some (.cells #[.int .u32 0,.int .u32 0,.int .u32 0,.int .u32 0,.int .u32 0,.int .u32 0,.int .u32 0,.int .u32 0,.int .u32 0,.int .u32 0,.int .u32 0,.int .u32 0,.int .u32 0,.int .u32 0,.int .u32 0,.int .u32 0] 298 (0,0)):=by
  rw[o];exact(Below.heap_setCell _ _ _ _ (by simp)).trans ((Below.heap_setCell _ _ _ _ (by simp)).trans I.out)
 have ae:Below w.heap.size w W5:=by
  rw[o];exact(J.out.setCell (by simp;omega) _).setCell (by simp;omega) _
 clear o O I J cv fv;have ar:=(Ai ab).1;obtain⟨cv,fv⟩:=qO ab;have O:=hid ab;have I:=hid al;have J:=hid ae;clear ab al ae
 cases Z<;>cases node
 ·go_upto_region 11 with(fail)
  refine qm ?_;intro G o;have V:G.heap[q+1+1]? =some (.cells #[.int .u32 (wd h 0),.int .u32 (wd h 1),.int .u32 (wd h 2),.int .u32 (wd h 3),.int .u32 (wd h 4),.int .u32 (wd h 5),.int .u32 (wd h 6),.int .u32 (wd h 7),.int .u32 1779033703,.int .u32 3144134277,.int .u32 1013904242,.int .u32 2773480762,.int .u32 (bits .xor .u32 1359893119 (c%4294967296)),.int .u32 (bits .xor .u32 2600822924 (c/4294967296)),.int .u32 528734635,.int .u32 1541459225] 298 (0,0)):=by
   rw[o];exact O.out
  have D:G.heap[q+1]? =some (.cells #[.int .u32 0,.int .u32 0,.int .u32 0,.int .u32 0,.int .u32 0,.int .u32 0,.int .u32 0,.int .u32 0,.int .u32 0,.int .u32 0,.int .u32 0,.int .u32 0,.int .u32 0,.int .u32 0,.int .u32 0,.int .u32 0] 298 (0,0)):=by
   rw[o];exact I.out
  have U:Below w.heap.size w G:=by
   rw[o];exact J.out
  clear o O I J cv fv;apply wp_region_lit
  refine wpList_load_row rfl 298 _ rfl (q+1+1) rfl _ _ _ _ V Tryz.underlying298 rfl (by kernel_rfl) ?_;refine wpList_store_row rfl 298 _ _ rfl (q+1) _ rfl rfl 298 _ D (by kernel_rfl) (by kernel_rfl) (by kernel_rfl) ?_;simp only[Act.put,Ls];go_wp2_with fail
  exact Bp (results_cell_row rfl _ _ _ _ _ _ _ rfl (setRow_heap _ _ _ _ _ _ D) Tryz.underlying298 rfl (by kernel_rfl)) rfl ⟨rfl,below_setRow (U.mono (by omega)) (by omega) _⟩
 ·go_upto_region 11 with(fail)
  refine qm ?_;intro G o;have V:G.heap[q+1+1]? =some (.cells #[.int .u32 (wd h 0),.int .u32 (wd h 1),.int .u32 (wd h 2),.int .u32 (wd h 3),.int .u32 (wd h 4),.int .u32 (wd h 5),.int .u32 (wd h 6),.int .u32 (wd h 7),.int .u32 1779033703,.int .u32 3144134277,.int .u32 1013904242,.int .u32 2773480762,.int .u32 (bits .xor .u32 1359893119 (c%4294967296)),.int .u32 (bits .xor .u32 2600822924 (c/4294967296)),.int .u32 528734635,.int .u32 (bits .xor .u32 (IntKind.max .u32) 1541459225)] 298 (0,0)):=by
   rw[o];exact(block_setCell (i:=15) O.out _)
  have D:G.heap[q+1]? =some (.cells #[.int .u32 0,.int .u32 0,.int .u32 0,.int .u32 0,.int .u32 0,.int .u32 0,.int .u32 0,.int .u32 0,.int .u32 0,.int .u32 0,.int .u32 0,.int .u32 0,.int .u32 0,.int .u32 0,.int .u32 0,.int .u32 0] 298 (0,0)):=by
   rw[o];exact((Below.heap_setCell _ _ _ _ (by simp)).trans I.out)
  have U:Below w.heap.size w G:=by
   rw[o];exact(J.out.setCell (by simp;omega) _)
  clear o O I J cv fv;apply wp_region_lit
  refine wpList_load_row rfl 298 _ rfl (q+1+1) rfl _ _ _ _ V Tryz.underlying298 rfl (by kernel_rfl) ?_;refine wpList_store_row rfl 298 _ _ rfl (q+1) _ rfl rfl 298 _ D (by kernel_rfl) (by kernel_rfl) (by kernel_rfl) ?_;simp only[Act.put,Ls];go_wp2_with fail
  exact Bp (results_cell_row rfl _ _ _ _ _ _ _ rfl (setRow_heap _ _ _ _ _ _ D) Tryz.underlying298 rfl (by kernel_rfl)) rfl ⟨rfl,below_setRow (U.mono (by omega)) (by omega) _⟩
 ·go_upto_region 11 with(fail)
  refine qm ?_;intro G o;have V:G.heap[q+1+1]? =some (.cells #[.int .u32 (wd h 0),.int .u32 (wd h 1),.int .u32 (wd h 2),.int .u32 (wd h 3),.int .u32 (wd h 4),.int .u32 (wd h 5),.int .u32 (wd h 6),.int .u32 (wd h 7),.int .u32 1779033703,.int .u32 3144134277,.int .u32 1013904242,.int .u32 2773480762,.int .u32 (bits .xor .u32 1359893119 (c%4294967296)),.int .u32 (bits .xor .u32 2600822924 (c/4294967296)),.int .u32 (bits .xor .u32 (IntKind.max .u32) 528734635),.int .u32 1541459225] 298 (0,0)):=by
   rw[o];exact(block_setCell (i:=14) O.out _)
  have D:G.heap[q+1]? =some (.cells #[.int .u32 0,.int .u32 0,.int .u32 0,.int .u32 0,.int .u32 0,.int .u32 0,.int .u32 0,.int .u32 0,.int .u32 0,.int .u32 0,.int .u32 0,.int .u32 0,.int .u32 0,.int .u32 0,.int .u32 0,.int .u32 0] 298 (0,0)):=by
   rw[o];exact((Below.heap_setCell _ _ _ _ (by simp)).trans I.out)
  have U:Below w.heap.size w G:=by
   rw[o];exact(J.out.setCell (by simp;omega) _)
  clear o O I J cv fv;apply wp_region_lit
  refine wpList_load_row rfl 298 _ rfl (q+1+1) rfl _ _ _ _ V Tryz.underlying298 rfl (by kernel_rfl) ?_;refine wpList_store_row rfl 298 _ _ rfl (q+1) _ rfl rfl 298 _ D (by kernel_rfl) (by kernel_rfl) (by kernel_rfl) ?_;simp only[Act.put,Ls];go_wp2_with fail
  exact Bp (results_cell_row rfl _ _ _ _ _ _ _ rfl (setRow_heap _ _ _ _ _ _ D) Tryz.underlying298 rfl (by kernel_rfl)) rfl ⟨rfl,below_setRow (U.mono (by omega)) (by omega) _⟩
 ·go_upto_region 11 with(fail)
  refine qm ?_;intro G o;have V:G.heap[q+1+1]? =some (.cells #[.int .u32 (wd h 0),.int .u32 (wd h 1),.int .u32 (wd h 2),.int .u32 (wd h 3),.int .u32 (wd h 4),.int .u32 (wd h 5),.int .u32 (wd h 6),.int .u32 (wd h 7),.int .u32 1779033703,.int .u32 3144134277,.int .u32 1013904242,.int .u32 2773480762,.int .u32 (bits .xor .u32 1359893119 (c%4294967296)),.int .u32 (bits .xor .u32 2600822924 (c/4294967296)),.int .u32 (bits .xor .u32 (IntKind.max .u32) 528734635),.int .u32 (bits .xor .u32 (IntKind.max .u32) 1541459225)] 298 (0,0)):=by
   rw[o];exact(block_setCell (i:=15) (block_setCell (i:=14) O.out _) _)
  have D:G.heap[q+1]? =some (.cells #[.int .u32 0,.int .u32 0,.int .u32 0,.int .u32 0,.int .u32 0,.int .u32 0,.int .u32 0,.int .u32 0,.int .u32 0,.int .u32 0,.int .u32 0,.int .u32 0,.int .u32 0,.int .u32 0,.int .u32 0,.int .u32 0] 298 (0,0)):=by
   rw[o];exact((Below.heap_setCell _ _ _ _ (by simp)).trans ((Below.heap_setCell _ _ _ _ (by simp)).trans I.out))
  have U:Below w.heap.size w G:=by
   rw[o];exact((J.out.setCell (by simp;omega) _).setCell (by simp;omega) _)
  clear o O I J cv fv;apply wp_region_lit
  refine wpList_load_row rfl 298 _ rfl (q+1+1) rfl _ _ _ _ V Tryz.underlying298 rfl (by kernel_rfl) ?_;refine wpList_store_row rfl 298 _ _ rfl (q+1) _ rfl rfl 298 _ D (by kernel_rfl) (by kernel_rfl) (by kernel_rfl) ?_;simp only[Act.put,Ls];go_wp2_with fail
  exact Bp (results_cell_row rfl _ _ _ _ _ _ _ rfl (setRow_heap _ _ _ _ _ _ D) Tryz.underlying298 rfl (by kernel_rfl)) rfl ⟨rfl,below_setRow (U.mono (by omega)) (by omega) _⟩
def Yz (k:IntKind)(h v:List Int):Nat→List Int
 | 0=>h
 | i+1=>(Yz k h v i).set i (bits .xor k (wd h i) (bits .xor k (wd v i) (wd v (i+8))))
def zK (K:MixK)(iv:List Int)(n:Nat)(h M:List Int)(x y:Int)(last node:Bool):List Int:=
 Yz K.k h (K.rounds (Yw K.k iv h x y last node) M n) 8
theorem QL {k:IntKind}{N:Nat}(o: ∀z,k.wrap z=z%2^N){h v:List Int}(q:Words N 8 h): ∀i,Words N 8 (Yz k h v i)
 | 0=>q
 | i+1=>Words.set (QL o q i) (Qb _ _ _ o _ _)
theorem ze {k:IntKind}{h v:List Int}: ∀i j,i≤j→wd (Yz k h v i) j=wd h j
 | 0,j,_=>rfl
 | i+1,j,hj=>by
  have o:=ze (k:=k) (h:=h) (v:=v) i j (by omega);simp only[Yz];unfold wd at*;rw[Lg,List.getElem?_set,if_neg (by omega),←Lg];exact o
theorem qf {k:IntKind}{L:List Int}:(qi k L).size=L.length:=by simp[qi]
theorem qA {k:IntKind}{L:List Int}:(qi k L).all (·.oneCell')=true:=by simp[qi,Value.oneCell']
theorem zC {k:IntKind}{N:Nat}(J: ∀z,k.wrap z=z%2^N){D h:List Int}(q:Words N 8 D)(O:Words N 8 h)(x y:Int)(o node:Bool):Words N 16 (Yw k D h x y o node):=by
 refine⟨rfl,fun z G=>?_⟩;simp only[Yw,List.mem_cons,List.not_mem_nil,or_false]at G;have I:=fun a b=>Qb .xor k N J a b
 rcases G with rfl|rfl|rfl|rfl|rfl|rfl|rfl|rfl|rfl|rfl|rfl|rfl|rfl|rfl|rfl|rfl
 all_goals first|exact O.at (by decide)|exact q.at (by decide)|exact I _ _|skip
 all_goals split
 all_goals first|exact q.at (by decide)|exact I _ _
theorem qcG:Words 64 8 IVb:=⟨rfl,by decide⟩
theorem qaf:Words 32 8 IVs:=⟨rfl,by decide⟩
theorem zQ {k:IntKind}{N:Nat}{L:List Int}(h:Words N 8 L):qi k L= #[.int k (wd L 0),.int k (wd L 1),.int k (wd L 2),.int k (wd L 3),.int k (wd L 4),.int k (wd L 5),.int k (wd L 6),.int k (wd L 7)]:=by
 obtain⟨o, -⟩:=h;match L,o with
 | [a,b,c,d,e,f,g,i],_=>rfl
theorem qiF (h M:List Int)(X:Words 64 8 h)(hM:Words 64 16 M)(lo hi:Int)(G node:Bool)(w:World):Calls Tryz.prog 199 #[.agg (qi .u64 h),.agg (qi .u64 M),.agg #[.int .u64 lo,.int .u64 hi],.bool G,.bool node] w fun e w'=>e= .returned (.agg (qi .u64 (zK mixBig IVb 12 h M lo hi G node)))∧Below w.heap.size w w':=by
 obtain⟨q,aC⟩:=Ex w.heap.size;have HC:=hid (qfr h lo hi G node);have Z:=zC (k:= .u64) (fun z=>IntKind.wrap_u64 z) qcG X lo hi G node;unfold zK;rw[show mixBig.k= .u64 from rfl];generalize Yw .u64 IVb h lo hi G node=L0 at*;have ad:=X;rw[zQ X];go_enter Tryz.func199,Tryz.ntmps199
 go_wp2_with fail
 refine(HC.out _).mono ?_;rintro e1 Y ⟨rfl,J⟩;have au:=(J.block q (by simp;omega)).trans ((Bh _ _ _ (by simp;omega)).trans ((Bh _ _ _ (by simp;omega)).trans ((Bh _ _ _ (by simp;omega)).trans (qe _ _ aC.symm))));have ao:=(J.block (q+1) (by simp;omega)).trans ((Bh _ _ _ (by simp;omega)).trans ((Bh _ _ _ (by simp;omega)).trans (qe _ _ (by simp;omega))));have ak:=(J.block (q+1+1+1) (by simp;omega)).trans (qe _ _ (by simp;omega));have aA:q+4≤Y.heap.size:=by have:=J.size;simp at this;omega
 have an:Below w.heap.size w Y:=(((((Below.refl w.heap.size w).alloc Nl _).alloc (by simp) _).alloc (by simp;omega) _).alloc (by simp;omega) _).trans (J.mono (by simp;omega));clear J HC;go_wp2_with ((with_reducible show wpList _ _ _ (Oper.mk none (Op.store 252 _ _) _ _ _ _::_) _ _);refine wpList_store_row rfl 252 _ _ rfl Y.heap.size (qi .u64 L0) rfl rfl 252 _ (Wn _ _) (by rw[qf,Z.1];kernel_rfl) (by rw[qf,Z.1];rfl) qA ?_)
 clear X;refine qm ?_;intro W hW;obtain⟨D,af⟩:=Ex Y.heap.size;have X:W.heap[q]? =some (.cells #[.int .u64 (wd h 0),.int .u64 (wd h 1),.int .u64 (wd h 2),.int .u64 (wd h 3),.int .u64 (wd h 4),.int .u64 (wd h 5),.int .u64 (wd h 6),.int .u64 (wd h 7)] 274 (0,0)):=by
  rw[hW];exact(setRow_other (Y.alloc _) _ _ _ (by omega)).trans ((Bh _ _ _ (by omega)).trans au)
 have hm:W.heap[q+1]? =some (.cells (qi .u64 M) 252 (0,0)):=by
  rw[hW];exact(setRow_other (Y.alloc _) _ _ _ (by omega)).trans ((Bh _ _ _ (by omega)).trans ao)
 have hr:W.heap[q+1+1+1]? =some (.cells #[.int .u64 0,.int .u64 0,.int .u64 0,.int .u64 0,.int .u64 0,.int .u64 0,.int .u64 0,.int .u64 0] 274 (0,0)):=by
  rw[hW];exact(setRow_other (Y.alloc _) _ _ _ (by omega)).trans ((Bh _ _ _ (by omega)).trans ak)
 have hv:W.heap[D]? =some (.cells (qi .u64 L0) 252 (0,0)):=by
  rw[hW,←af];exact setRow_heap _ _ _ _ _ _ (Wn _ _)
 have hB:Below w.heap.size w W:=by
  rw[hW];exact below_setRow (an.alloc (by omega) _) (by omega) _
 rw[←zQ ad]at X;rw[af];have aK:q+4≤D:=by omega
 clear hW au ao ak aA an af;have HH:=hid X;have HM:=hid hm;have HR:=hid hr;have HV:=hid hv;have HB:=hid hB;have aL:D<W.heap.size:=(Ai hv).1;clear X hm hr hv hB;go_loopw [19] (fun i wr=> ∃j:Nat,i= .int .i64 j∧j≤12∧wr.heap[D]? =some (.cells (qi .u64 (mixBig.rounds L0 M j)) 252 (0,0))∧But D W wr) (fun i _=>12 - (intOf i).toNat)
 case atStart=>exact⟨0,rfl,Nat.zero_le _,HV.out,But.refl _ _⟩
 case round=>
  obtain⟨j,rfl,hj,hv,hB⟩:=hrel;have hm:=(hB.block (q+1) (by omega) (by omega)).trans HM.out;have ab:=hid hv;have am:=hid hm;have O:=hid hB;clear hv hm hB;by_cases ae:j<12
  ·go_wp2_with fail
   refine(qeG D (q+1) (by omega) (mixBig.rounds L0 M j) M (QW QG Z j) hM j ae 252 252 _ ab.out am.out).mono ?_;rintro e2 w2 ⟨rfl,aw,ai⟩
   have aB:=hid aw;have aH:=hid (O.out.trans ai);clear aw ai;go_wp2
   exact⟨⟨j+1,rfl,by omega,aB.out,aH.out⟩,by simp[intOf];omega⟩
  ·obtain rfl:j=12:=by omega
   go_wp2_with fail
   have hV:=QW QG Z (M:=M) 12;obtain⟨V,ag⟩:=Ex (mixBig.rounds L0 M 12);have ay:=hid (show Ending.returned (.agg (qi .u64 (Yz .u64 h V 8)))= .returned (.agg (qi .u64 (Yz .u64 h (mixBig.rounds L0 M 12) 8))) by rw[ag]);rw[ag]at hV ab;clear ag;have ah:=(O.out.block q (by omega) (by omega)).trans HH.out;have al:=(O.out.block (q+1+1+1) (by omega) (by omega)).trans HR.out;have ac:=ab.out;have ar:Below w.heap.size w wr:=HB.out.trans (O.out.below (by omega) HB.out.size);have az:=hid ah;have aE:=hid al;have av:=hid ar;have aF:D<wr.heap.size:=(Ai ac).1;have aD:=hid ac;clear ah al ar ab am O HH HR HM HV HB ac;generalize wr=w3 at*;go_loopw [25] (fun i w4=> ∃j:Nat,i= .int .i64 j∧j≤8∧w4.heap[q]? =some (.cells (qi .u64 (Yz .u64 h V j)) 274 (0,0))∧But q w3 w4) (fun i _=>8 - (intOf i).toNat)
   case atStart=>exact⟨0,rfl,Nat.zero_le _,az.out,But.refl _ _⟩
   case round=>
    obtain⟨j,rfl,hj,U,I⟩:=hrel;have aJ:=I.size;have aa:=(I.block D aF (by omega)).trans aD.out;have q1:D<wr.heap.size:=by omega
    have q2:q<wr.heap.size:=by omega
    have aj:=hid U;have ap:=hid I;by_cases ae:j<8
    ·have c1:wr.cell? ⟨q,j,none⟩=some (.int .u64 (wd h j)):=by
      rw[qs U,qC (QL (fun z=>IntKind.wrap_u64 z) ad j) ae,ze j j Nl]
     have c2:wr.cell? ⟨D,j,none⟩=some (.int .u64 (wd V j)):=(qs aa _).trans (qC hV (by omega));have c3:wr.cell? ⟨D,j+8,none⟩=some (.int .u64 (wd V (j+8))):=(qs aa _).trans (qC hV (by omega));have f1: ∀o,wr.frozen? ⟨q,o,none⟩=false:=(qO U).2;have aM:IntKind.i64.wrap ((j:Int)+8)=((j+8:Nat):Int):=by rw[IntKind.wrap_i64];omega
     have aI:j+8<16:=by omega
     clear U aa I;go_wp2_with fail
     refine qj (by dsimp only[List.dropLast]) (by rfl) (by rfl) (by kernel_rfl) (by kernel_rfl) (by kernel_rfl) (by kernel_rfl) ?_;repeat(go_big_quiet_step (fail))
     refine wpQuiet_nil ?_;intro _ ax;obtain⟨n1,rfl⟩:=ax;go_wp2_with fail
     exact⟨⟨j+1,rfl,by omega,by rw[Yz,←Qe];exact block_setCell (w:=wr.drewN n1) aj.out _,(ap.out.drewN n1).set _ _⟩,by simp[intOf];omega⟩
    ·obtain rfl:j=8:=by omega
     have aq:=(I.block (q+1+1+1) (by omega) (by omega)).trans aE.out;have hF:=QL (k:= .u64) (fun z=>IntKind.wrap_u64 z) (v:=V) ad 8;have aG:=hid (av.out.trans (ap.out.below (by omega) av.out.size));clear U aa I;go_upto_region 12 with(fail)
     apply wp_region_lit
     refine wpList_load_row rfl 274 _ rfl q rfl _ _ _ _ aj.out Tryz.underlying274 rfl (by rw[qf,hF.1];kernel_rfl) ?_;refine wpList_store_row rfl 274 _ _ rfl (q+1+1+1) (qi .u64 (Yz .u64 h V 8)) rfl rfl 274 _ aq (by rw[qf,hF.1];kernel_rfl) (by rw[qf,hF.1];rfl) qA ?_;simp only[Act.put,Ls];go_wp2_with fail
     exact Bp (results_cell_row rfl _ _ _ _ _ _ _ rfl (setRow_heap _ _ _ _ _ _ aq) Tryz.underlying274 rfl (by rw[qf,hF.1];kernel_rfl)) rfl ⟨ay.out,below_setRow (aG.out.mono (by omega)) (by omega) _⟩
theorem qgQ (h V:List Int)(ab:Words 32 8 h)(hV:Words 32 16 V)(w:World):Calls Tryz.prog 219 #[.agg (qi .u32 h),.agg (qi .u32 V)] w fun e w'=>e= .returned (.agg (qi .u32 (Yz .u32 h V 8)))∧Below w.heap.size w w':=by
 obtain⟨q,ak⟩:=Ex w.heap.size;go_enter Tryz.func219,Tryz.ntmps219
 go_wp2_with fail
 refine qm ?_;intro I O;have Z:I.heap[q]? =some (.cells (qi .u32 h) 284 (0,0)):=by
  rw[O];exact(Bh _ _ _ (by simp;omega)).trans ((Bh _ _ _ (by simp;omega)).trans (qe _ _ ak.symm))
 have X:I.heap[q+1]? =some (.cells (qi .u32 V) 298 (0,0)):=by
  rw[O];exact(Bh _ _ _ (by simp;omega)).trans (qe _ _ (by simp;omega))
 have U:I.heap[q+1+1]? =some (.cells #[.int .u32 0,.int .u32 0,.int .u32 0,.int .u32 0,.int .u32 0,.int .u32 0,.int .u32 0,.int .u32 0] 284 (0,0)):=by
  rw[O];exact qe _ _ (by simp;omega)
 have af:Below w.heap.size w I:=by
  rw[O];exact(((Below.refl w.heap.size w).alloc Nl _).alloc (by simp) _).alloc (by simp;omega) _
 clear O;have ai:=hid Z;have an:=hid X;have ag:=hid U;have ad:=hid af;have ah:q+1<I.heap.size:=(Ai X).1;have ap:q+1+1<I.heap.size:=(Ai U).1;clear Z X U af;go_loopw [6] (fun i w4=> ∃j:Nat,i= .int .i64 j∧j≤8∧w4.heap[q]? =some (.cells (qi .u32 (Yz .u32 h V j)) 284 (0,0))∧But q I w4) (fun i _=>8 - (intOf i).toNat)
 case atStart=>exact⟨0,rfl,Nat.zero_le _,ai.out,But.refl _ _⟩
 case round=>
  obtain⟨j,rfl,hj,G,D⟩:=hrel;have aq:=D.size;have J:=(D.block (q+1) ah (by omega)).trans an.out;have q1:q+1<wr.heap.size:=by omega
  have q2:q<wr.heap.size:=by omega
  have ac:=hid G;have aa:=hid D;by_cases al:j<8
  ·have c1:wr.cell? ⟨q,j,none⟩=some (.int .u32 (wd h j)):=by
    rw[qs G,qC (QL (fun z=>IntKind.wrap_u32 z) ab j) al,ze j j Nl]
   have c2:wr.cell? ⟨q+1,j,none⟩=some (.int .u32 (wd V j)):=(qs J _).trans (qC hV (by omega));have c3:wr.cell? ⟨q+1,j+8,none⟩=some (.int .u32 (wd V (j+8))):=(qs J _).trans (qC hV (by omega));have f1: ∀o,wr.frozen? ⟨q,o,none⟩=false:=(qO G).2;have ar:IntKind.i64.wrap ((j:Int)+8)=((j+8:Nat):Int):=by rw[IntKind.wrap_i64];omega
   have ao:j+8<16:=by omega
   clear G J D;go_wp2_with fail
   refine qj (by dsimp only[List.dropLast]) (by rfl) (by rfl) (by kernel_rfl) (by kernel_rfl) (by kernel_rfl) (by kernel_rfl) ?_;repeat(go_big_quiet_step (fail))
   refine wpQuiet_nil ?_;intro _ aj;obtain⟨n1,rfl⟩:=aj;go_wp2_with fail
   exact⟨⟨j+1,rfl,by omega,by rw[Yz,←Qe];exact block_setCell (w:=wr.drewN n1) ac.out _,(aa.out.drewN n1).set _ _⟩,by simp[intOf];omega⟩
  ·obtain rfl:j=8:=by omega
   have ae:=(D.block (q+1+1) (by omega) (by omega)).trans ag.out;have Y:=QL (k:= .u32) (fun z=>IntKind.wrap_u32 z) (v:=V) ab 8;have am:=hid (ad.out.trans (aa.out.below (by omega) ad.out.size));clear G J D;go_upto_region 6 with(fail)
   apply wp_region_lit
   refine wpList_load_row rfl 284 _ rfl q rfl _ _ _ _ ac.out Tryz.underlying284 rfl (by rw[qf,Y.1];kernel_rfl) ?_;refine wpList_store_row rfl 284 _ _ rfl (q+1+1) (qi .u32 (Yz .u32 h V 8)) rfl rfl 284 _ ae (by rw[qf,Y.1];kernel_rfl) (by rw[qf,Y.1];rfl) qA ?_;simp only[Act.put,Ls];go_wp2_with fail
   exact Bp (results_cell_row rfl _ _ _ _ _ _ _ rfl (setRow_heap _ _ _ _ _ _ ae) Tryz.underlying284 rfl (by rw[qf,Y.1];kernel_rfl)) rfl ⟨rfl,below_setRow (am.out.mono (by omega)) (by omega) _⟩
theorem qiG (h M:List Int)(J:Words 32 8 h)(hM:Words 32 16 M)(c:Int)(ay:0≤c)(av:c<18446744073709551616)(q node:Bool)(w:World):Calls Tryz.prog 204 #[.agg (qi .u32 h),.agg (qi .u32 M),.int .u64 c,.bool q,.bool node] w fun e w'=>e= .returned (.agg (qi .u32 (zK mixSmall IVs 10 h M (c%4294967296) (c/4294967296) q node)))∧Below w.heap.size w w':=by
 obtain⟨o,au⟩:=Ex w.heap.size;have HC:=hid (qeu h c ay av q node);have U:=zC (k:= .u32) (fun z=>IntKind.wrap_u32 z) qaf J (c%4294967296) (c/4294967296) q node;unfold zK;rw[show mixSmall.k= .u32 from rfl];generalize Yw .u32 IVs h (c%4294967296) (c/4294967296) q node=L0 at*;have X:=J;rw[zQ J];go_enter Tryz.func204,Tryz.ntmps204
 go_wp2_with fail
 refine(HC.out _).mono ?_;rintro e1 O ⟨rfl,D⟩;have ad:=(D.block o (by simp;omega)).trans ((Bh _ _ _ (by simp;omega)).trans ((Bh _ _ _ (by simp;omega)).trans (qe _ _ au.symm)));have am:=(D.block (o+1) (by simp;omega)).trans ((Bh _ _ _ (by simp;omega)).trans (qe _ _ (by simp;omega)));have ae:=(D.block (o+1+1) (by simp;omega)).trans (qe _ _ (by simp;omega));have ax:o+3≤O.heap.size:=by have:=D.size;simp at this;omega
 have ak:Below w.heap.size w O:=((((Below.refl w.heap.size w).alloc Nl _).alloc (by simp) _).alloc (by simp;omega) _).trans (D.mono (by simp;omega));clear D HC;go_wp2_with ((with_reducible show wpList _ _ _ (Oper.mk none (Op.store 298 _ _) _ _ _ _::_) _ _);refine wpList_store_row rfl 298 _ _ rfl O.heap.size (qi .u32 L0) rfl rfl 298 _ (Wn _ _) (by rw[qf,U.1];kernel_rfl) (by rw[qf,U.1];rfl) qA ?_)
 clear J;refine qm ?_;intro W Z;obtain⟨I,aa⟩:=Ex O.heap.size;have J:W.heap[o]? =some (.cells #[.int .u32 (wd h 0),.int .u32 (wd h 1),.int .u32 (wd h 2),.int .u32 (wd h 3),.int .u32 (wd h 4),.int .u32 (wd h 5),.int .u32 (wd h 6),.int .u32 (wd h 7)] 284 (0,0)):=by
  rw[Z];exact(setRow_other (O.alloc _) _ _ _ (by omega)).trans ((Bh _ _ _ (by omega)).trans ad)
 have hm:W.heap[o+1]? =some (.cells (qi .u32 M) 298 (0,0)):=by
  rw[Z];exact(setRow_other (O.alloc _) _ _ _ (by omega)).trans ((Bh _ _ _ (by omega)).trans am)
 have hr:W.heap[o+1+1]? =some (.cells #[.int .u32 0,.int .u32 0,.int .u32 0,.int .u32 0,.int .u32 0,.int .u32 0,.int .u32 0,.int .u32 0] 284 (0,0)):=by
  rw[Z];exact(setRow_other (O.alloc _) _ _ _ (by omega)).trans ((Bh _ _ _ (by omega)).trans ae)
 have hv:W.heap[I]? =some (.cells (qi .u32 L0) 298 (0,0)):=by
  rw[Z,←aa];exact setRow_heap _ _ _ _ _ _ (Wn _ _)
 have hB:Below w.heap.size w W:=by
  rw[Z];exact below_setRow (ak.alloc (by omega) _) (by omega) _
 rw[←zQ X]at J;rw[aa];have aC:o+3≤I:=by omega
 clear Z ad am ae ax ak aa;have HH:=hid J;have HM:=hid hm;have HR:=hid hr;have HV:=hid hv;have HB:=hid hB;have aE:I<W.heap.size:=(Ai hv).1;clear J hm hr hv hB;go_loopw [18] (fun i wr=> ∃j:Nat,i= .int .i64 j∧j≤10∧wr.heap[I]? =some (.cells (qi .u32 (mixSmall.rounds L0 M j)) 298 (0,0))∧But I W wr) (fun i _=>10 - (intOf i).toNat)
 case atStart=>exact⟨0,rfl,Nat.zero_le _,HV.out,But.refl _ _⟩
 case round=>
  obtain⟨j,rfl,hj,hv,hB⟩:=hrel;have hm:=(hB.block (o+1) (by omega) (by omega)).trans HM.out;have Y:=hid hv;have ai:=hid hm;have G:=hid hB;clear hv hm hB;by_cases aD:j<10
  ·go_wp2_with fail
   refine(qeH I (o+1) (by omega) (mixSmall.rounds L0 M j) M (QW Ql U j) hM j (by omega) 298 298 _ Y.out ai.out).mono ?_;rintro e2 w2 ⟨rfl,ao,aj⟩
   have az:=hid ao;have aA:=hid (G.out.trans aj);clear ao aj;go_wp2
   exact⟨⟨j+1,rfl,by omega,az.out,aA.out⟩,by simp[intOf];omega⟩
  ·obtain rfl:j=10:=by omega
   have hV:=QW Ql U (M:=M) 10;obtain⟨V,ab⟩:=Ex (mixSmall.rounds L0 M 10);have ap:=hid (show Ending.returned (.agg (qi .u32 (Yz .u32 h V 8)))= .returned (.agg (qi .u32 (Yz .u32 h (mixSmall.rounds L0 M 10) 8))) by rw[ab]);rw[ab]at hV Y;clear ab;have ah:=(G.out.block o (by omega) (by omega)).trans HH.out;have ag:=(G.out.block (o+1+1) (by omega) (by omega)).trans HR.out;have af:Below w.heap.size w wr:=HB.out.trans (G.out.below (by omega) HB.out.size);have ar:=hid ah;have aq:=hid ag;have an:=hid af;have aB:I<wr.heap.size:=(Ai Y.out).1;have hF:=QL (k:= .u32) (fun z=>IntKind.wrap_u32 z) (v:=V) X 8;clear ah ag af ai G HH HR HM HV HB;go_upto_region 7 with(fail)
   apply wp_region_lit
   refine wpList_load_row rfl 284 _ rfl o rfl _ _ _ _ ar.out Tryz.underlying284 rfl (by rw[qf,X.1];kernel_rfl) ?_;refine wpList_load_row rfl 298 _ rfl I rfl _ _ _ _ Y.out Tryz.underlying298 rfl (by rw[qf,hV.1];kernel_rfl) ?_;simp only[Act.put,Ls];go_wp2_with fail
   refine(qgQ h V X hV _).mono ?_;rintro e6 w6 ⟨rfl,ac⟩
   have al:=(ac.block (o+1+1) (by omega)).trans aq.out;have aw:=hid (an.out.trans (ac.mono an.out.size));clear ac;go_wp2_with ((with_reducible show wpList _ _ _ (Oper.mk none (Op.store 284 _ _) _ _ _ _::_) _ _);refine wpList_store_row rfl 284 _ _ rfl (o+1+1) (qi .u32 (Yz .u32 h V 8)) rfl rfl 284 _ al (by rw[qf,hF.1];kernel_rfl) (by rw[qf,hF.1];rfl) qA ?_)
   exact Bp (results_cell_row rfl _ _ _ _ _ _ _ rfl (setRow_heap _ _ _ _ _ _ al) Tryz.underlying284 rfl (by rw[qf,hF.1];kernel_rfl)) rfl ⟨ap.out,below_setRow (aw.out.mono (by omega)) (by omega) _⟩
theorem qci (i:Nat)(o:i<8)(w:World):Calls Tryz.prog 220 #[.int .i64 i] w fun e w'=>e= .returned (.int .u64 (wd IVb i))∧Below w.heap.size w w':=by
 rcases(show i=0∨i=1∨i=2∨i=3∨i=4∨i=5∨i=6∨i=7 by omega)with rfl|rfl|rfl|rfl|rfl|rfl|rfl|rfl
 ·go_enter Tryz.func220,Tryz.ntmps220
  go_wp2
  go_ret
  exact⟨rfl,Br.alloc Nl _⟩
 ·go_enter Tryz.func220,Tryz.ntmps220
  go_wp2
  go_ret
  exact⟨rfl,Br.alloc Nl _⟩
 ·go_enter Tryz.func220,Tryz.ntmps220
  go_wp2
  go_ret
  exact⟨rfl,Br.alloc Nl _⟩
 ·go_enter Tryz.func220,Tryz.ntmps220
  go_wp2
  go_ret
  exact⟨rfl,Br.alloc Nl _⟩
 ·go_enter Tryz.func220,Tryz.ntmps220
  go_wp2
  go_ret
  exact⟨rfl,Br.alloc Nl _⟩
 ·go_enter Tryz.func220,Tryz.ntmps220
  go_wp2
  go_ret
  exact⟨rfl,Br.alloc Nl _⟩
 ·go_enter Tryz.func220,Tryz.ntmps220
  go_wp2
  go_ret
  exact⟨rfl,Br.alloc Nl _⟩
 ·go_enter Tryz.func220,Tryz.ntmps220
  go_wp2
  go_ret
  exact⟨rfl,Br.alloc Nl _⟩
theorem qhq (a:Nat)(q:a<16)(w:World):Calls Tryz.prog 232 #[.int .i64 a] w fun e w'=>e= .returned (.bool true)∧w'=w:=by
 have D:(0:Int)≤a:=by omega
 have o:(a:Int)≤15:=by omega
 go_enter Tryz.func232,Tryz.ntmps232
 go_wp2
 go_ret
 exact⟨rfl,rfl⟩
def qfC (n:Nat):Nat:=if n<10 then 48+n else 87+n
theorem qhR (n:Nat)(q:n<16)(w:World):Calls Tryz.prog 234 #[.int .u8 (qfC n:Nat)] w fun e w'=>e= .returned (.int .i64 n)∧w'=w:=by
 by_cases h:n<10
 ·have o:=hid (Ys (k:= .i64) (show 48+(n:Int) - 48=n by omega));rw[show qfC n=48+n by unfold qfC;rw[if_pos h]];go_enter Tryz.func234,Tryz.ntmps234
  go_wp2
  go_ret
  exact⟨o.out,rfl⟩
 ·have o:=hid (Ys (k:= .i64) (show 87+(n:Int) - 97+10=n by omega));rw[show qfC n=87+n by unfold qfC;rw[if_neg h]];go_enter Tryz.func234,Tryz.ntmps234
  go_wp2
  go_ret
  exact⟨o.out,rfl⟩
def okTab (s:ByteArray):Bool:=(List.range 160).all fun k=>match s.data[k]? with|some b=>b.toNat==qfC (sigT.flatten.getD k 0)|none=>false
theorem qhS (s:ByteArray)(r p i:Nat)(I:p<10)(D:i<16)(G:r%10=p)(h:16*p+i<s.size)(J:okTab s=true)(w:World):
  Calls Tryz.prog 234 #[.int .u8 ((s[16*p+i]'h).toNat:Nat)] w fun e w'=>e= .returned (.int .i64 (qw r i:Nat))∧w'=w:=by
 have o:=List.all_eq_true.1 J (16*p+i) (List.mem_range.2 (by omega));have q:s.data[16*p+i]? =some (s[16*p+i]'h):=Array.getElem?_eq_getElem h;rw[q]at o;have O: ∀p<10,∀i<16,sigT.flatten.getD (16*p+i) 0=(sigT.getD p []).getD i 0:=by decide+kernel
 have U:(s[16*p+i]'h).toNat=qfC (qw r i):=by
  have:=beq_iff_eq.1 o
  rw[this,O p I i D];unfold qw;rw[G]
 rw[U];exact qhR _ (qR r i) w
theorem qan (r i:Nat)(J:r<12)(G:i<16)(w:World):Calls Tryz.prog 224 #[.int .i64 r,.int .i64 i] w fun e w'=>e= .returned (.int .i64 (qw r i:Nat))∧w'=w:=by
 have D:=hid (zZ r 10 w (by decide));have o:=Nat.mod_lt r (show 0<10 by decide);go_enter Tryz.func224,Tryz.ntmps224
 go_wp2_with fail
 refine D.out.mono ?_;rintro U X ⟨rfl,rfl⟩;obtain⟨p,q⟩:=Ex (r%10);rw[q]at o⊢;have I:=hid q;clear q D;go_wp2_with fail
 refine(qhS _ r p i o G I.out _ (by kernel_rfl) _).mono ?_;rintro V O ⟨rfl,rfl⟩;go_wp2
 go_ret
 exact⟨rfl,rfl⟩
theorem qgw (i j:Nat)(o:i<8)(q:j<4):zb[i*4+j]? =some (.int .i64 ((YC i).getD j 0:Nat)):=by
 have h: ∀i<8,∀j<4,((List.range 8).flatMap YC)[i*4+j]? =some ((YC i).getD j 0):=by decide+kernel
 unfold zb yv;rw[List.getElem?_toArray,List.getElem?_map,h i o j q];rfl
theorem qcW (i:Nat)(Y:i<8)(w:World):Calls Tryz.prog 222 #[.int .i64 i] w fun e w'=>e= .returned (.agg #[.int .i64 (plA i:Nat),.int .i64 (plB i:Nat),.int .i64 (plC i:Nat),.int .i64 (plD i:Nat)])∧Below w.heap.size w w':=by
 obtain⟨o,O⟩:=Ex w.heap.size;go_enter Tryz.func222,Tryz.ntmps222
 go_upto_region 1 with(fail)
 apply wp_region_lit
 refine wpList_buildTo rfl 330 _ rfl (some 4) rfl (yv (YC 0)) (by kernel_rfl) ?_;simp only[Act.put,Ls];refine wpList_buildTo rfl 330 _ rfl (some 5) rfl (yv (YC 1)) (by kernel_rfl) ?_;simp only[Act.put,Ls];refine wpList_buildTo rfl 330 _ rfl (some 6) rfl (yv (YC 2)) (by kernel_rfl) ?_;simp only[Act.put,Ls];refine wpList_buildTo rfl 330 _ rfl (some 7) rfl (yv (YC 3)) (by kernel_rfl) ?_;simp only[Act.put,Ls];refine wpList_buildTo rfl 330 _ rfl (some 8) rfl (yv (YC 4)) (by kernel_rfl) ?_;simp only[Act.put,Ls];refine wpList_buildTo rfl 330 _ rfl (some 9) rfl (yv (YC 5)) (by kernel_rfl) ?_;simp only[Act.put,Ls];refine wpList_buildTo rfl 330 _ rfl (some 10) rfl (yv (YC 6)) (by kernel_rfl) ?_;simp only[Act.put,Ls];refine wpList_buildTo rfl 330 _ rfl (some 11) rfl (yv (YC 7)) (by kernel_rfl) ?_;simp only[Act.put,Ls];refine wpList_buildTo rfl 339 _ rfl (some 12) rfl zb (by kernel_rfl) ?_;simp only[Act.put,Ls];refine wpList_plain rfl fun _ U=>?_
 go_simp
 refine U _ _ ?_;clear U;refine wpList_store_row rfl 339 _ _ rfl (o+1) zb rfl rfl 339 _ (qe _ _ (by simp;omega)) (by kernel_rfl) (by kernel_rfl) (by kernel_rfl) ?_;simp only[Act.put,Ls];go_upto_region 2 with(fail)
 refine qm ?_;intro W D;have I:W.heap[o+1]? =some (.cells zb 339 (0,0)):=by
  rw[D];exact setRow_heap _ _ _ _ _ _ (qe _ _ (by simp;omega))
 have G:W.heap[o]? =some (.cells #[.int .i64 0,.int .i64 0,.int .i64 0,.int .i64 0] 330 (0,0)):=by
  rw[D];exact(setRow_other _ _ _ _ (by omega)).trans ((Bh _ _ _ (by simp;omega)).trans (qe _ _ O.symm))
 have X:Below w.heap.size w W:=by
  rw[D];exact below_setRow (((Below.refl w.heap.size w).alloc Nl _).alloc (by simp) _) (by omega) _
 clear D;have q:=fun j hj=>(qs I (i*4+j)).trans (qgw i j Y hj)
 have c0:W.cell? ⟨o+1,i*4,none⟩=some (.int .i64 (plA i:Nat)):=q 0 (by decide);have c1:W.cell? ⟨o+1,i*4+1,none⟩=some (.int .i64 (plB i:Nat)):=q 1 (by decide);have c2:W.cell? ⟨o+1,i*4+2,none⟩=some (.int .i64 (plC i:Nat)):=q 2 (by decide);have c3:W.cell? ⟨o+1,i*4+3,none⟩=some (.int .i64 (plD i:Nat)):=q 3 (by decide);have hE:((i:Nat):Int).tmod 8=(i:Int):=by rw[Int.tmod_eq_emod_of_nonneg (by omega)];omega
 have Z:(i:Int)<8:=by omega
 have V:=hid G;obtain⟨cR,fR⟩:=qO G;clear I q G;go_wp2_with fail
 have J:=block_setCell (i:=3) (block_setCell (i:=2) (block_setCell (i:=1) (block_setCell (i:=0) V.out (.int .i64 (plA i:Nat))) (.int .i64 (plB i:Nat))) (.int .i64 (plC i:Nat))) (.int .i64 (plD i:Nat));exact Bp (results_cell_row rfl _ _ _ _ _ _ _ rfl J Tryz.underlying330 rfl rfl) rfl ⟨rfl,(((X.setCell (by simp;omega) _).setCell (by simp;omega) _).setCell (by simp;omega) _).setCell (by simp;omega) _ |>.mono (by omega)⟩
theorem qE {P:Program}{fn:Func}{p u:Tmp}{o:TypeId}(h:fn.results= #[.cell p o,.tmp u])(tmps:Array Value)(w:World)(g:Nat)(t:TypeId)(cs:Array Value)(fr:Nat×Nat)(d:TypeDesc)
  (I:tmps.getD p undef= .pointer (some ⟨g,0,none⟩)) (G:w.heap[g]? =some (.cells cs t fr))
  (J:P.underlying o=some d) (D:(match d with| .struct _| .array _ _=>true|_=>false)=true) (q:(P.info? o).map (·.size)=some cs.size):
  (results fn tmps).run P w= .ok (.tuple #[.agg cs,tmps.getD u undef]) w:=by
 rw[results_cell_tmp h,I];simp[asAddr,run_loadVar_row w g t o cs fr d G J D q]
theorem qiP (L:List Int)(hL:Words 64 16 L)(D q I G:Nat)(ha:D<16)(hb:q<16)(hc:I<16)(hd:G<16)(af:D≠q)(ag:D≠I)(aj:D≠G)(ae:q≠I)(ah:q≠G)(ai:I≠G)
  (x y:Int) (w:World):
  Calls Tryz.prog 223 #[.agg (qi .u64 L),.int .i64 D,.int .i64 q,.int .i64 I,.int .i64 G,.int .u64 x,.int .u64 y] w fun e w'=>e= .returned (.tuple #[.agg (qi .u64 (mixBig.step L D q I G x y)),.int .i64 0])∧Below w.heap.size w w':=by
 obtain⟨b0,aD⟩:=Ex w.heap.size;have hm: ∀z,IntKind.u64.wrap z=z%2^64:=fun z=>IntKind.wrap_u64 z
 obtain⟨A1,aw⟩:=Ex (IntKind.u64.wrap (IntKind.u64.wrap (wd L D+wd L q)+x));obtain⟨X1,ap⟩:=Ex (bits BinOp.xor .u64 (wd L G) A1);obtain⟨D1,am⟩:=Ex (Q6 64 32 X1);obtain⟨C1,au⟩:=Ex (IntKind.u64.wrap (wd L I+D1));obtain⟨X2,aq⟩:=Ex (bits BinOp.xor .u64 (wd L q) C1);obtain⟨B1,ao⟩:=Ex (Q6 64 24 X2);obtain⟨A2,aE⟩:=Ex (IntKind.u64.wrap (IntKind.u64.wrap (A1+B1)+y));obtain⟨X3,az⟩:=Ex (bits BinOp.xor .u64 D1 A2);obtain⟨D2,an⟩:=Ex (Q6 64 16 X3);obtain⟨C2,aC⟩:=Ex (IntKind.u64.wrap (C1+D2));obtain⟨X4,ar⟩:=Ex (bits BinOp.xor .u64 B1 C2);obtain⟨B2,al⟩:=Ex (Q6 64 63 X4);have R1:=hid (fun w=>qgc X1 w (ap▸Qb .xor .u64 64 hm _ _));have R2:=hid (fun w=>qgd X2 w (aq▸Qb .xor .u64 64 hm _ _));have R3:=hid (fun w=>qge X3 w (az▸Qb .xor .u64 64 hm _ _));have R4:=hid (fun w=>qgb X4 w (ar▸Qb .xor .u64 64 hm _ _));have ES:mixBig.step L D q I G x y=(((L.set D A2).set G D2).set I C2).set q B2:=by
  have e1:A1=mixBig.a1 (wd L D) (wd L q) x:=by rw[←aw];exact qiI 64 .u64 hm _ _ _
  have e2:D1=mixBig.d1 (wd L D) (wd L q) (wd L G) x:=by rw[←am,←ap,e1];rfl
  have e3:C1=mixBig.c1 (wd L D) (wd L q) (wd L I) (wd L G) x:=by rw[←au,e2];exact hm _
  have e4:B1=mixBig.b1 (wd L D) (wd L q) (wd L I) (wd L G) x:=by rw[←ao,←aq,e3];rfl
  have e5:A2=mixBig.a2 (wd L D) (wd L q) (wd L I) (wd L G) x y:=by rw[←aE,e1,e4];exact qiI 64 .u64 hm _ _ _
  have e6:D2=mixBig.d2 (wd L D) (wd L q) (wd L I) (wd L G) x y:=by rw[←an,←az,e2,e5];rfl
  have e7:C2=mixBig.c2 (wd L D) (wd L q) (wd L I) (wd L G) x y:=by rw[←aC,e3,e6];exact hm _
  have e8:B2=mixBig.b2 (wd L D) (wd L q) (wd L I) (wd L G) x y:=by rw[←al,←ar,e4,e7];rfl
  rw[e5,e6,e7,e8];rfl
 have aB:=hid (show Ending.returned (.tuple #[.agg (qi .u64 ((((L.set D A2).set G D2).set I C2).set q B2)),.int .i64 0])= .returned (.tuple #[.agg (qi .u64 (mixBig.step L D q I G x y)),.int .i64 0]) by rw[ES]);rw[am]at R1;rw[ao]at R2;rw[an]at R3;rw[al]at R4;clear am ao an al ES hm;obtain⟨va,ad⟩:=Ex (wd L D);obtain⟨vb,aa⟩:=Ex (wd L q);obtain⟨vc,ac⟩:=Ex (wd L I);obtain⟨vd,ab⟩:=Ex (wd L G);rw[ad,aa]at aw;rw[ab]at ap;rw[ac]at au;rw[aa]at aq;have ax:=hid (And.intro ad (And.intro aa (And.intro ac ab)));clear ad aa ac ab;have HN:=hid (And.intro af (And.intro ag (And.intro aj (And.intro ae (And.intro ah ai)))));have n0:((D:Int)==(q:Int))=false:=by rw[beq_eq_false_iff_ne];omega
 have n1:((D:Int)==(I:Int))=false:=by rw[beq_eq_false_iff_ne];omega
 have n2:((D:Int)==(G:Int))=false:=by rw[beq_eq_false_iff_ne];omega
 have n3:((q:Int)==(I:Int))=false:=by rw[beq_eq_false_iff_ne];omega
 have n4:((q:Int)==(G:Int))=false:=by rw[beq_eq_false_iff_ne];omega
 have n5:((I:Int)==(G:Int))=false:=by rw[beq_eq_false_iff_ne];omega
 go_enter Tryz.func223,Tryz.ntmps223
 clear af ag aj ae ah ai;iterate 4
  go_wp2_with fail
  refine(qhq _ (by assumption) _).mono ?_;rintro r w1 ⟨rfl,rfl⟩
 go_wp2_with fail
 obtain⟨af,ag,aj,ae,ah,ai⟩:=HN.out;refine qm ?_;intro W o;have hv:W.heap[b0]? =some (.cells (qi .u64 L) 252 (0,0)):=by
  rw[o];exact(Bh _ _ _ (by simp;omega)).trans (qe _ _ aD.symm)
 have hr:W.heap[b0+1]? =some (.cells #[.int .u64 0,.int .u64 0,.int .u64 0,.int .u64 0,.int .u64 0,.int .u64 0,.int .u64 0,.int .u64 0,.int .u64 0,.int .u64 0,.int .u64 0,.int .u64 0,.int .u64 0,.int .u64 0,.int .u64 0,.int .u64 0] 252 (0,0)):=by
  rw[o];exact qe _ _ (by simp;omega)
 have hB:Below w.heap.size w W:=by
  rw[o];exact((Below.refl w.heap.size w).alloc Nl _).alloc (by simp) _
 clear o;obtain⟨ad,aa,ac,ab⟩:=ax.out;have h0:At4 .u64 b0 252 D q I G W L va vb vc vd W:=⟨hv,hL.1,ad,aa,ac,ab,⟨ha,hb,hc,hd⟩,⟨af,ag,aj,ae,ah,ai⟩,But.refl _ _⟩;have HR:=hid hr;have HB:=hid hB;clear hv hr hB ad aa ac ab ax;refine qm ?_;intro W0 o;have H0:=hid (h0.letter o);obtain⟨V,X,U,O,Y,Z⟩:=H0.out.facts;clear o h0;refine qj (by dsimp only[List.dropLast]) (by rfl) (by rfl) (by kernel_rfl) (by kernel_rfl) (by kernel_rfl) (by kernel_rfl) ?_;repeat(go_big_quiet_step (fail))
 refine wpQuiet_nil ?_;intro _ J;obtain⟨n0,rfl⟩:=J;go_wp2_with fail
 clear V X U O Y Z;have h1:=H0.out.setA n0 A1;clear H0;refine qm ?_;intro W1 o;have H1:=hid (h1.letter o);obtain⟨V,X,U,O,Y,Z⟩:=H1.out.facts;clear o h1;refine qj (by dsimp only[List.dropLast]) (by rfl) (by rfl) (by kernel_rfl) (by kernel_rfl) (by kernel_rfl) (by kernel_rfl) ?_;repeat(go_big_quiet_step (exact Calls.quiet_of (R1.out _)))
 refine wpQuiet_nil ?_;intro _ J;obtain⟨n1,rfl⟩:=J;go_wp2_with fail
 clear V X U O Y Z;have h2:=H1.out.setD n1 D1;clear H1;refine qm ?_;intro W2 o;have H2:=hid (h2.letter o);obtain⟨V,X,U,O,Y,Z⟩:=H2.out.facts;clear o h2;refine qj (by dsimp only[List.dropLast]) (by rfl) (by rfl) (by kernel_rfl) (by kernel_rfl) (by kernel_rfl) (by kernel_rfl) ?_;repeat(go_big_quiet_step (fail))
 refine wpQuiet_nil ?_;intro _ J;obtain⟨n2,rfl⟩:=J;go_wp2_with fail
 clear V X U O Y Z;have h3:=H2.out.setC n2 C1;clear H2;refine qm ?_;intro W3 o;have H3:=hid (h3.letter o);obtain⟨V,X,U,O,Y,Z⟩:=H3.out.facts;clear o h3;refine qj (by dsimp only[List.dropLast]) (by rfl) (by rfl) (by kernel_rfl) (by kernel_rfl) (by kernel_rfl) (by kernel_rfl) ?_;repeat(go_big_quiet_step (exact Calls.quiet_of (R2.out _)))
 refine wpQuiet_nil ?_;intro _ J;obtain⟨n3,rfl⟩:=J;go_wp2_with fail
 clear V X U O Y Z;have h4:=H3.out.setB n3 B1;clear H3;refine qm ?_;intro W4 o;have H4:=hid (h4.letter o);obtain⟨V,X,U,O,Y,Z⟩:=H4.out.facts;clear o h4;refine qj (by dsimp only[List.dropLast]) (by rfl) (by rfl) (by kernel_rfl) (by kernel_rfl) (by kernel_rfl) (by kernel_rfl) ?_;repeat(go_big_quiet_step (fail))
 refine wpQuiet_nil ?_;intro _ J;obtain⟨n4,rfl⟩:=J;go_wp2_with fail
 clear V X U O Y Z;have h5:=H4.out.setA n4 A2;clear H4;refine qm ?_;intro W5 o;have H5:=hid (h5.letter o);obtain⟨V,X,U,O,Y,Z⟩:=H5.out.facts;clear o h5;refine qj (by dsimp only[List.dropLast]) (by rfl) (by rfl) (by kernel_rfl) (by kernel_rfl) (by kernel_rfl) (by kernel_rfl) ?_;repeat(go_big_quiet_step (exact Calls.quiet_of (R3.out _)))
 refine wpQuiet_nil ?_;intro _ J;obtain⟨n5,rfl⟩:=J;go_wp2_with fail
 clear V X U O Y Z;have h6:=H5.out.setD n5 D2;clear H5;refine qm ?_;intro W6 o;have H6:=hid (h6.letter o);obtain⟨V,X,U,O,Y,Z⟩:=H6.out.facts;clear o h6;refine qj (by dsimp only[List.dropLast]) (by rfl) (by rfl) (by kernel_rfl) (by kernel_rfl) (by kernel_rfl) (by kernel_rfl) ?_;repeat(go_big_quiet_step (fail))
 refine wpQuiet_nil ?_;intro _ J;obtain⟨n6,rfl⟩:=J;go_wp2_with fail
 clear V X U O Y Z;have h7:=H6.out.setC n6 C2;clear H6;refine qm ?_;intro W7 o;have H7:=hid (h7.letter o);obtain⟨V,X,U,O,Y,Z⟩:=H7.out.facts;clear o h7;refine qj (by dsimp only[List.dropLast]) (by rfl) (by rfl) (by kernel_rfl) (by kernel_rfl) (by kernel_rfl) (by kernel_rfl) ?_;repeat(go_big_quiet_step (exact Calls.quiet_of (R4.out _)))
 refine wpQuiet_nil ?_;intro _ J;obtain⟨n7,rfl⟩:=J;go_upto_region 11 with(fail)
 clear V X U O Y Z;have h8:=H7.out.setB n7 B2;clear H7;have ak:((((L.set D A2).set G D2).set I C2).set q B2).length=16:=by simpa using hL.1
 have av:=(h8.but.block (b0+1) (Ai HR.out).1 (by omega)).trans HR.out;have ay:=h8.heap;have aA:=hid (HB.out.trans (h8.but.below (by omega) HB.out.size));rw[qim af ag aj ae ah ai]at ay;generalize (((L.set D A2).set G D2).set I C2).set q B2=L8 at*;clear h8;apply wp_region_lit
 refine wpList_load_row rfl 252 _ rfl b0 rfl _ _ _ _ ay Tryz.underlying252 rfl (by rw[qf,ak];kernel_rfl) ?_;refine wpList_store_row rfl 252 _ _ rfl (b0+1) (qi .u64 L8) rfl rfl 252 _ av (by rw[qf,ak];kernel_rfl) (by rw[qf,ak];rfl) qA ?_;simp only[Act.put,Ls];go_wp2_with fail
 exact Bp (qE rfl _ _ _ _ _ _ _ rfl (setRow_heap _ _ _ _ _ _ av) Tryz.underlying252 rfl (by rw[qf,ak];kernel_rfl)) rfl ⟨Eq.trans (b:= .returned (.tuple #[.agg (qi .u64 L8),.int .i64 0])) rfl aB.out,below_setRow (aA.out.mono (by omega)) (by omega) _⟩
def n4 (a b c d:Nat)(i:Nat):Nat:=match i with|0=>a|1=>b|2=>c|_=>d
theorem qff (q D o G:Nat)(ha:q<16)(hb:D<16)(hc:o<16)(hd:G<16)(Z:q≠D)(X:q≠o)(ac:q≠G)(ab:D≠o)(Y:D≠G)(aa:o≠G)(w:World):
  Calls Tryz.prog 236 #[.int .i64 q,.int .i64 D,.int .i64 o,.int .i64 G] w fun e w'=>e= .returned (.bool true)∧Below w.heap.size w w':=by
 have I: ∀i,i<4→n4 q D o G i<16:=fun i O=>by
  match i,O with
  | 0,_=>exact ha
  | 1,_=>exact hb
  | 2,_=>exact hc
  | 3,_=>exact hd
 have V: ∀i j,i<4→j<i→n4 q D o G i≠n4 q D o G j:=fun i j O hj=>by
  match i,j,O,hj with
  | 1,0,_,_=>exact Ne.symm Z
  | 2,0,_,_=>exact Ne.symm X
  | 2,1,_,_=>exact Ne.symm ab
  | 3,0,_,_=>exact Ne.symm ac
  | 3,1,_,_=>exact Ne.symm Y
  | 3,2,_,_=>exact Ne.symm aa
 have ag:=hid I;have af:=hid V;clear ha hb hc hd Z X ac ab Y aa I V;obtain⟨b0,ae⟩:=Ex w.heap.size;go_enter Tryz.func236,Tryz.ntmps236
 go_wp2_with fail
 refine qm ?_;intro W hW;have hl:W.heap[b0]? =some (.cells #[.int .i64 q,.int .i64 D,.int .i64 o,.int .i64 G] 3 (0,0)):=by
  rw[hW];exact qe _ _ ae.symm
 have hB:Below w.heap.size w W:=by rw[hW];exact Br.alloc Nl _
 have J: ∀i,i<4→W.cell? ⟨b0,i,none⟩=some (.int .i64 (n4 q D o G i)):=fun i O=>by
  rw[qs hl];match i,O with
  | 0,_=>rfl
  | 1,_=>rfl
  | 2,_=>rfl
  | 3,_=>rfl
 have HC:=hid J;clear hW hl J;go_loopw [10] (fun i wr=> ∃j m:Nat,i= .int .i64 j∧j≤4∧wr=W.drewN m) (fun i _=>4 - (intOf i).toNat)
 case atStart=>exact⟨0,0,rfl,Nat.zero_le _,rfl⟩
 case round=>
  obtain⟨j,m,rfl,hj,rfl⟩:=hrel;by_cases I:j<4
  ·have c1:=HC.out j I;have l1:=ag.out j I;have HN:=hid (fun k hk=>af.out j k I hk);have ad:=hid (fun k (hk:k<j)=>HC.out k (by omega));generalize n4 q D o G j=x at*;have q1: ¬((x:Int)<0):=by omega
   have q2: ¬(15<(x:Int)):=by omega
   go_wp2_with fail
   go_loopw [11] (fun i wr=> ∃k m:Nat,i= .int .i64 k∧k≤j∧wr=W.drewN m) (fun i _=>j - (intOf i).toNat)
   case atStart=>exact⟨0,m,rfl,Nat.zero_le _,rfl⟩
   case round=>
    obtain⟨k,m2,rfl,hk,rfl⟩:=hrel;by_cases U:k<j
    ·have c2:=ad.out k U;have n2:=HN.out k U;generalize n4 q D o G k=y at*;have n3:((x:Int)==(y:Int))=false:=by rw[beq_eq_false_iff_ne];omega
     have q3:k<4:=by omega
     clear n2;go_wp2_with fail
     go_quiet (fail)
     go_wp2
     exact⟨⟨k+1,_,rfl,by omega,rfl⟩,by simp[intOf];omega⟩
    ·obtain rfl:k=j:=by omega
     go_wp2
     exact⟨⟨k+1,m2,rfl,by omega,rfl⟩,by simp[intOf];omega⟩
  ·obtain rfl:j=4:=by omega
   go_wp2
   go_ret
   exact⟨rfl,hB.trans (QO _)⟩
theorem yc {fn:Func}{t u v x:Tmp}(h:fn.results= #[.tmp t,.tmp u,.tmp v,.tmp x])(tmps:Array Value)(P:Program)(w:World):
  (results fn tmps).run P w= .ok (.tuple #[tmps.getD t undef,tmps.getD u undef,tmps.getD v undef,tmps.getD x undef]) w:=by
 simp[results,h]
theorem qiz (i:Nat)(o:i<8)(w:World):Calls Tryz.prog 225 #[.int .i64 i] w fun e w'=>e= .returned (.tuple #[.int .i64 (plA i:Nat),.int .i64 (plB i:Nat),.int .i64 (plC i:Nat),.int .i64 (plD i:Nat)])∧w'=w:=by
 rcases(show i=0∨i=1∨i=2∨i=3∨i=4∨i=5∨i=6∨i=7 by omega)with rfl|rfl|rfl|rfl|rfl|rfl|rfl|rfl
 ·go_enter Tryz.func225,Tryz.ntmps225
  go_wp2
  exact Bp (yc rfl _ _ _) rfl ⟨rfl,rfl⟩
 ·go_enter Tryz.func225,Tryz.ntmps225
  go_wp2
  exact Bp (yc rfl _ _ _) rfl ⟨rfl,rfl⟩
 ·go_enter Tryz.func225,Tryz.ntmps225
  go_wp2
  exact Bp (yc rfl _ _ _) rfl ⟨rfl,rfl⟩
 ·go_enter Tryz.func225,Tryz.ntmps225
  go_wp2
  exact Bp (yc rfl _ _ _) rfl ⟨rfl,rfl⟩
 ·go_enter Tryz.func225,Tryz.ntmps225
  go_wp2
  exact Bp (yc rfl _ _ _) rfl ⟨rfl,rfl⟩
 ·go_enter Tryz.func225,Tryz.ntmps225
  go_wp2
  exact Bp (yc rfl _ _ _) rfl ⟨rfl,rfl⟩
 ·go_enter Tryz.func225,Tryz.ntmps225
  go_wp2
  exact Bp (yc rfl _ _ _) rfl ⟨rfl,rfl⟩
 ·go_enter Tryz.func225,Tryz.ntmps225
  go_wp2
  exact Bp (yc rfl _ _ _) rfl ⟨rfl,rfl⟩
theorem qiQ (L:List Int)(hL:Words 32 16 L)(D q J I:Nat)(ha:D<16)(hb:q<16)(hc:J<16)(hd:I<16)(ad:D≠q)(af:D≠J)(aj:D≠I)(ab:q≠J)(ag:q≠I)(ah:J≠I)
  (x y:Int) (w:World):
  Calls Tryz.prog 226 #[.agg (qi .u32 L),.int .i64 D,.int .i64 q,.int .i64 J,.int .i64 I,.int .u32 x,.int .u32 y] w fun e w'=>e= .returned (.tuple #[.agg (qi .u32 (mixSmall.step L D q J I x y)),.int .i64 0])∧Below w.heap.size w w':=by
 obtain⟨b0,aE⟩:=Ex w.heap.size;have hm: ∀z,IntKind.u32.wrap z=z%2^32:=fun z=>IntKind.wrap_u32 z
 obtain⟨A1,ax⟩:=Ex ((wd L D+wd L q+x)%4294967296);obtain⟨X1,aq⟩:=Ex (bits BinOp.xor .u32 (wd L I) A1);obtain⟨D1,an⟩:=Ex (Q6 32 16 X1);obtain⟨C1,av⟩:=Ex ((wd L J+D1)%4294967296);obtain⟨X2,ar⟩:=Ex (bits BinOp.xor .u32 (wd L q) C1);obtain⟨B1,ap⟩:=Ex (Q6 32 12 X2);obtain⟨A2,aF⟩:=Ex ((A1+B1+y)%4294967296);obtain⟨X3,aA⟩:=Ex (bits BinOp.xor .u32 D1 A2);obtain⟨D2,ao⟩:=Ex (Q6 32 8 X3);obtain⟨C2,aD⟩:=Ex ((C1+D2)%4294967296);obtain⟨X4,au⟩:=Ex (bits BinOp.xor .u32 B1 C2);obtain⟨B2,am⟩:=Ex (Q6 32 7 X4);have R1:=hid (fun w=>qgf X1 w (aq▸Qb .xor .u32 32 hm _ _));have R2:=hid (fun w=>qgg X2 w (ar▸Qb .xor .u32 32 hm _ _));have R3:=hid (fun w=>qg3 X3 w (aA▸Qb .xor .u32 32 hm _ _));have R4:=hid (fun w=>qg4 X4 w (au▸Qb .xor .u32 32 hm _ _));have ES:mixSmall.step L D q J I x y=(((L.set D A2).set I D2).set J C2).set q B2:=by
  have e1:A1=mixSmall.a1 (wd L D) (wd L q) x:=by rw[←ax];rfl
  have e2:D1=mixSmall.d1 (wd L D) (wd L q) (wd L I) x:=by rw[←an,←aq,e1];rfl
  have e3:C1=mixSmall.c1 (wd L D) (wd L q) (wd L J) (wd L I) x:=by rw[←av,e2];rfl
  have e4:B1=mixSmall.b1 (wd L D) (wd L q) (wd L J) (wd L I) x:=by rw[←ap,←ar,e3];rfl
  have e5:A2=mixSmall.a2 (wd L D) (wd L q) (wd L J) (wd L I) x y:=by rw[←aF,e1,e4];rfl
  have e6:D2=mixSmall.d2 (wd L D) (wd L q) (wd L J) (wd L I) x y:=by rw[←ao,←aA,e2,e5];rfl
  have e7:C2=mixSmall.c2 (wd L D) (wd L q) (wd L J) (wd L I) x y:=by rw[←aD,e3,e6];rfl
  have e8:B2=mixSmall.b2 (wd L D) (wd L q) (wd L J) (wd L I) x y:=by rw[←am,←au,e4,e7];rfl
  rw[e5,e6,e7,e8];rfl
 have aC:=hid (show Ending.returned (.tuple #[.agg (qi .u32 ((((L.set D A2).set I D2).set J C2).set q B2)),.int .i64 0])= .returned (.tuple #[.agg (qi .u32 (mixSmall.step L D q J I x y)),.int .i64 0]) by rw[ES]);rw[an]at R1;rw[ap]at R2;rw[ao]at R3;rw[am]at R4;clear an ap ao am ES hm;obtain⟨va,ai⟩:=Ex (wd L D);obtain⟨vb,aa⟩:=Ex (wd L q);obtain⟨vc,ae⟩:=Ex (wd L J);obtain⟨vd,ac⟩:=Ex (wd L I);rw[ai,aa]at ax;rw[ac]at aq;rw[ae]at av;rw[aa]at ar;have ay:=hid (And.intro ai (And.intro aa (And.intro ae ac)));clear ai aa ae ac;have HN:=hid (And.intro ad (And.intro af (And.intro aj (And.intro ab (And.intro ag ah)))));go_enter Tryz.func226,Tryz.ntmps226
 go_wp2_with fail
 refine(qff D q J I ha hb hc hd ad af aj ab ag ah _).mono ?_;rintro r w1 ⟨rfl,al⟩;clear ad af aj ab ag ah;go_wp2_with fail
 obtain⟨ad,af,aj,ab,ag,ah⟩:=HN.out;refine qm ?_;intro W o;have hv:W.heap[b0]? =some (.cells (qi .u32 L) 298 (0,0)):=by
  rw[o];exact(al.block b0 (by simp;omega)).trans ((Bh _ _ _ (by simp;omega)).trans (qe _ _ aE.symm))
 have hr:W.heap[b0+1]? =some (.cells #[.int .u32 0,.int .u32 0,.int .u32 0,.int .u32 0,.int .u32 0,.int .u32 0,.int .u32 0,.int .u32 0,.int .u32 0,.int .u32 0,.int .u32 0,.int .u32 0,.int .u32 0,.int .u32 0,.int .u32 0,.int .u32 0] 298 (0,0)):=by
  rw[o];exact(al.block (b0+1) (by simp;omega)).trans (qe _ _ (by simp;omega))
 have hB:Below w.heap.size w W:=by
  rw[o];exact(((Below.refl w.heap.size w).alloc Nl _).alloc (by simp) _).trans (al.mono (by simp;omega))
 clear o al;obtain⟨ai,aa,ae,ac⟩:=ay.out;have h0:At4 .u32 b0 298 D q J I W L va vb vc vd W:=⟨hv,hL.1,ai,aa,ae,ac,⟨ha,hb,hc,hd⟩,⟨ad,af,aj,ab,ag,ah⟩,But.refl _ _⟩;have HR:=hid hr;have HB:=hid hB;clear hv hr hB ai aa ae ac ay;refine qm ?_;intro W0 o;have H0:=hid (h0.letter o);obtain⟨V,X,U,O,Y,Z⟩:=H0.out.facts;clear o h0;refine qj (by dsimp only[List.dropLast]) (by rfl) (by rfl) (by kernel_rfl) (by kernel_rfl) (by kernel_rfl) (by kernel_rfl) ?_;repeat(go_big_quiet_step (fail))
 refine wpQuiet_nil ?_;intro _ G;obtain⟨n0,rfl⟩:=G;go_wp2_with fail
 clear V X U O Y Z;have h1:=H0.out.setA n0 A1;clear H0;refine qm ?_;intro W1 o;have H1:=hid (h1.letter o);obtain⟨V,X,U,O,Y,Z⟩:=H1.out.facts;clear o h1;refine qj (by dsimp only[List.dropLast]) (by rfl) (by rfl) (by kernel_rfl) (by kernel_rfl) (by kernel_rfl) (by kernel_rfl) ?_;repeat(go_big_quiet_step (exact Calls.quiet_of_same (R1.out _)))
 refine wpQuiet_nil ?_;intro _ G;obtain⟨n1,rfl⟩:=G;go_wp2_with fail
 clear V X U O Y Z;have h2:=H1.out.setD n1 D1;clear H1;refine qm ?_;intro W2 o;have H2:=hid (h2.letter o);obtain⟨V,X,U,O,Y,Z⟩:=H2.out.facts;clear o h2;refine qj (by dsimp only[List.dropLast]) (by rfl) (by rfl) (by kernel_rfl) (by kernel_rfl) (by kernel_rfl) (by kernel_rfl) ?_;repeat(go_big_quiet_step (fail))
 refine wpQuiet_nil ?_;intro _ G;obtain⟨n2,rfl⟩:=G;go_wp2_with fail
 clear V X U O Y Z;have h3:=H2.out.setC n2 C1;clear H2;refine qm ?_;intro W3 o;have H3:=hid (h3.letter o);obtain⟨V,X,U,O,Y,Z⟩:=H3.out.facts;clear o h3;refine qj (by dsimp only[List.dropLast]) (by rfl) (by rfl) (by kernel_rfl) (by kernel_rfl) (by kernel_rfl) (by kernel_rfl) ?_;repeat(go_big_quiet_step (exact Calls.quiet_of_same (R2.out _)))
 refine wpQuiet_nil ?_;intro _ G;obtain⟨n3,rfl⟩:=G;go_wp2_with fail
 clear V X U O Y Z;have h4:=H3.out.setB n3 B1;clear H3;refine qm ?_;intro W4 o;have H4:=hid (h4.letter o);obtain⟨V,X,U,O,Y,Z⟩:=H4.out.facts;clear o h4;refine qj (by dsimp only[List.dropLast]) (by rfl) (by rfl) (by kernel_rfl) (by kernel_rfl) (by kernel_rfl) (by kernel_rfl) ?_;repeat(go_big_quiet_step (fail))
 refine wpQuiet_nil ?_;intro _ G;obtain⟨n4,rfl⟩:=G;go_wp2_with fail
 clear V X U O Y Z;have h5:=H4.out.setA n4 A2;clear H4;refine qm ?_;intro W5 o;have H5:=hid (h5.letter o);obtain⟨V,X,U,O,Y,Z⟩:=H5.out.facts;clear o h5;refine qj (by dsimp only[List.dropLast]) (by rfl) (by rfl) (by kernel_rfl) (by kernel_rfl) (by kernel_rfl) (by kernel_rfl) ?_;repeat(go_big_quiet_step (exact Calls.quiet_of_same (R3.out _)))
 refine wpQuiet_nil ?_;intro _ G;obtain⟨n5,rfl⟩:=G;go_wp2_with fail
 clear V X U O Y Z;have h6:=H5.out.setD n5 D2;clear H5;refine qm ?_;intro W6 o;have H6:=hid (h6.letter o);obtain⟨V,X,U,O,Y,Z⟩:=H6.out.facts;clear o h6;refine qj (by dsimp only[List.dropLast]) (by rfl) (by rfl) (by kernel_rfl) (by kernel_rfl) (by kernel_rfl) (by kernel_rfl) ?_;repeat(go_big_quiet_step (fail))
 refine wpQuiet_nil ?_;intro _ G;obtain⟨n6,rfl⟩:=G;go_wp2_with fail
 clear V X U O Y Z;have h7:=H6.out.setC n6 C2;clear H6;refine qm ?_;intro W7 o;have H7:=hid (h7.letter o);obtain⟨V,X,U,O,Y,Z⟩:=H7.out.facts;clear o h7;refine qj (by dsimp only[List.dropLast]) (by rfl) (by rfl) (by kernel_rfl) (by kernel_rfl) (by kernel_rfl) (by kernel_rfl) ?_;repeat(go_big_quiet_step (exact Calls.quiet_of_same (R4.out _)))
 refine wpQuiet_nil ?_;intro _ G;obtain⟨n7,rfl⟩:=G;go_upto_region 11 with(fail)
 clear V X U O Y Z;have h8:=H7.out.setB n7 B2;clear H7;have ak:((((L.set D A2).set I D2).set J C2).set q B2).length=16:=by simpa using hL.1
 have aw:=(h8.but.block (b0+1) (Ai HR.out).1 (by omega)).trans HR.out;have az:=h8.heap;have aB:=hid (HB.out.trans (h8.but.below (by omega) HB.out.size));rw[qim ad af aj ab ag ah]at az;generalize (((L.set D A2).set I D2).set J C2).set q B2=L8 at*;clear h8;apply wp_region_lit
 refine wpList_load_row rfl 298 _ rfl b0 rfl _ _ _ _ az Tryz.underlying298 rfl (by rw[qf,ak];kernel_rfl) ?_;refine wpList_store_row rfl 298 _ _ rfl (b0+1) (qi .u32 L8) rfl rfl 298 _ aw (by rw[qf,ak];kernel_rfl) (by rw[qf,ak];rfl) qA ?_;simp only[Act.put,Ls];go_wp2_with fail
 exact Bp (qE rfl _ _ _ _ _ _ _ rfl (setRow_heap _ _ _ _ _ _ aw) Tryz.underlying298 rfl (by rw[qf,ak];kernel_rfl)) rfl ⟨Eq.trans (b:= .returned (.tuple #[.agg (qi .u32 L8),.int .i64 0])) rfl aC.out,below_setRow (aB.out.mono (by omega)) (by omega) _⟩
end Go.Proofs.YthjoojnlnlmljaaGreat

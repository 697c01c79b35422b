/- The beginning of the rounds, by the program. No condition. -/
import Derived.Test.YthjoojnlnlmljaaGreatP00
import Derived.Test.YthjoojnlnlmljaaGreatB19
import Derived.Laws.CopyOwn
import Derived.Laws.Strings
import Derived.Laws.ResultCell
set_option linter.all false
set_option maxRecDepth 100000
set_option maxHeartbeats 8000000
namespace Go.Proofs.YthjoojnlnlmljaaGreat
open Go.ChangeShapes Go.WideShapes Go.ChangeAt Go.RowKit Go.Joins
open Go.Lib (hid)
attribute [local go_sem] Oper.semAt_some
def IVb:List Int:=[7640891576956012808,13503953896175478587,4354685564936845355,11912009170470909681,5840696475078001361,11170449401992604703,2270897969802886507,6620516959819538809]
def IVs:List Int:=[1779033703,3144134277,1013904242,2773480762,1359893119,2600822924,528734635,1541459225]
theorem QU {B:Nat}{w:World}(n:Nat):Below B w (w.drewN n):=⟨rfl,rfl,rfl,Nat.le_refl _,fun _ _=>rfl⟩
theorem qjJ (g off j:Nat):(⟨g,off,none⟩:Addr).add j=⟨g,off+j,none⟩:=by unfold Addr.add;split<;>simp_all
theorem jH {W:World}{b:Nat}{cs:List Value}{T:TypeId}{fr:Nat×Nat}(h:W.heap[b]? =some (.cells cs.toArray T fr)): ∀j v,cs[j]? =some v→W.cell? ((⟨b,0,none⟩:Addr).add j)=some v:=fun j v o=>by
 rw[qjJ,Nat.zero_add,qq h];simpa using o
def YS (k:IntKind)(iv:List Int)(h:List Int)(x y:Int)(last node:Bool):List Int:=
 [wd h 0,wd h 1,wd h 2,wd h 3,wd h 4,wd h 5,wd h 6,wd h 7,wd iv 0,wd iv 1,wd iv 2,wd iv 3,bits .xor k (wd iv 4) x,bits .xor k (wd iv 5) y,
  if last then bits .xor k k.max (wd iv 6) else wd iv 6,if node then bits .xor k k.max (wd iv 7) else wd iv 7]
theorem qgS (w:World):Calls Tryz.prog 197 #[] w fun e w'=>e= .returned (.agg #[.int .u64 7640891576956012808,.int .u64 13503953896175478587,.int .u64 4354685564936845355,.int .u64 11912009170470909681,.int .u64 5840696475078001361,.int .u64 11170449401992604703,.int .u64 2270897969802886507,.int .u64 6620516959819538809])∧Below w.heap.size w w':=by
 go_enter Tryz.func197,Tryz.ntmps197
 go_wp2
 exact Bp (results_cell_row rfl _ _ _ _ _ _ _ rfl (Wn _ _) Tryz.underlying274 rfl rfl) rfl ⟨rfl,Br.alloc Nl _⟩
theorem qgR (w:World):Calls Tryz.prog 202 #[] w fun e w'=>e= .returned (.agg Ki)∧Below w.heap.size w w':=by
 go_enter Tryz.func202,Tryz.ntmps202
 go_wp2
 exact Bp (results_cell_row rfl _ _ _ _ _ _ _ rfl (Wn _ _) Tryz.underlying284 rfl rfl) rfl ⟨rfl,Br.alloc Nl _⟩
theorem qgb (h:List Int)(lo hi:Int)(V node:Bool)(w:World):Calls Tryz.prog 214 #[.agg #[.int .u64 (wd h 0),.int .u64 (wd h 1),.int .u64 (wd h 2),.int .u64 (wd h 3),.int .u64 (wd h 4),.int .u64 (wd h 5),.int .u64 (wd h 6),.int .u64 (wd h 7)],.agg #[.int .u64 lo,.int .u64 hi],.bool V,.bool node] w fun e w'=>e= .returned (.agg (qj .u64 (YS .u64 IVb h lo hi V node)))∧Below w.heap.size w w':=by
 obtain⟨q,al⟩:=Ex w.heap.size;go_enter Tryz.func214,Tryz.ntmps214
 go_wp2_with fail
 refine qm ?_;intro W o;have hh:W.heap[q]? =some (.cells #[.int .u64 (wd h 0),.int .u64 (wd h 1),.int .u64 (wd h 2),.int .u64 (wd h 3),.int .u64 (wd h 4),.int .u64 (wd h 5),.int .u64 (wd h 6),.int .u64 (wd h 7)] 274 (0,0)):=by
  rw[o];exact(Bh _ _ _ (by simp;omega)).trans ((Bh _ _ _ (by simp;omega)).trans ((Bh _ _ _ (by simp;omega)).trans (qe _ _ al.symm)))
 have hc:W.heap[q+1]? =some (.cells #[.int .u64 lo,.int .u64 hi] 281 (0,0)):=by
  rw[o];exact(Bh _ _ _ (by simp;omega)).trans ((Bh _ _ _ (by simp;omega)).trans (qe _ _ (by simp;omega)))
 have hr:W.heap[q+1+1]? =some (.cells Ka 252 (0,0)):=by
  rw[o];exact(Bh _ _ _ (by simp;omega)).trans (qe _ _ (by simp;omega))
 have hv:W.heap[q+1+1+1]? =some (.cells Ka 252 (0,0)):=by
  rw[o];exact qe _ _ (by simp;omega)
 have hB:Below w.heap.size w W:=by
  rw[o];exact(((Br.alloc Nl _).alloc (by simp) _).alloc (by simp;omega) _).alloc (by simp;omega) _
 have hs:W.heap.size=q+4:=by rw[o];simp;omega
 clear o;refine qk (by dsimp only[List.dropLast]) (by rfl) (by rfl) (by kernel_rfl) (by kernel_rfl) (by kernel_rfl) (by kernel_rfl) ?_;repeat(go_big_quiet_step (fail))
 refine wpQuiet_nil ?_;intro _ ab;obtain⟨n1,rfl⟩:=ab;refine wpList_copy_own rfl _ _ _ _ rfl 44 Tryz.underlying105 rfl (q+1+1+1) 0 8 16 ⟨q,0,none⟩ 8 8 rfl rfl Ka 252 hv [.int .u64 (wd h 0),.int .u64 (wd h 1),.int .u64 (wd h 2),.int .u64 (wd h 3),.int .u64 (wd h 4),.int .u64 (wd h 5),.int .u64 (wd h 6),.int .u64 (wd h 7)] rfl
  (jH (W:=W.drewN n1) hh) (by simp) (by simp[Value.oneCell']) ?_
 go_wp2_with fail
 refine(qgS _).mono ?_;rintro e1 w1 ⟨rfl,U⟩;have ac:=(U.block (q+1+1+1) (by simp;omega)).trans (setRow_heap (W.drewN n1) _ _ _ _ _ hv);have ak:=(U.block (q+1) (by simp;omega)).trans ((setRow_other (W.drewN n1) _ _ _ (by omega)).trans hc);have ag:=(U.block (q+1+1) (by simp;omega)).trans ((setRow_other (W.drewN n1) _ _ _ (by omega)).trans hr);have am:q+4≤w1.heap.size:=by have:=U.size;simp at this;omega
 have aj:Below w.heap.size w w1:=(below_setRow (hB.trans (QU n1)) (by omega) _).trans (U.mono (by simp;omega));clear U hv hc hr hh hB;go_wp2_with fail
 refine qk (by dsimp only[List.dropLast]) (by rfl) (by rfl) (by kernel_rfl) (by kernel_rfl) (by kernel_rfl) (by kernel_rfl) ?_;repeat(go_big_quiet_step (fail))
 refine wpQuiet_nil ?_;intro _ ab;obtain⟨n2,rfl⟩:=ab;refine wpList_copy_own rfl _ _ _ _ rfl 44 Tryz.underlying105 rfl (q+1+1+1) 8 8 8 ⟨w1.heap.size,0,none⟩ 8 8 rfl rfl #[.int .u64 (wd h 0),.int .u64 (wd h 1),.int .u64 (wd h 2),.int .u64 (wd h 3),.int .u64 (wd h 4),.int .u64 (wd h 5),.int .u64 (wd h 6),.int .u64 (wd h 7),.int .u64 0,.int .u64 0,.int .u64 0,.int .u64 0,.int .u64 0,.int .u64 0,.int .u64 0,.int .u64 0] 252 ((Bh _ _ _ (by omega)).trans ac) [.int .u64 7640891576956012808,.int .u64 13503953896175478587,.int .u64 4354685564936845355,.int .u64 11912009170470909681,.int .u64 5840696475078001361,.int .u64 11170449401992604703,.int .u64 2270897969802886507,.int .u64 6620516959819538809] rfl
  (jH (W:=(w1.alloc _).drewN n2) (Wn _ _)) (by simp) (by simp[Value.oneCell']) ?_
 go_upto_region 5 with(fail)
 refine qm ?_;intro W4 o;have X:W4.heap[q+1+1+1]? =some (.cells #[.int .u64 (wd h 0),.int .u64 (wd h 1),.int .u64 (wd h 2),.int .u64 (wd h 3),.int .u64 (wd h 4),.int .u64 (wd h 5),.int .u64 (wd h 6),.int .u64 (wd h 7),.int .u64 7640891576956012808,.int .u64 13503953896175478587,.int .u64 4354685564936845355,.int .u64 11912009170470909681,.int .u64 5840696475078001361,.int .u64 11170449401992604703,.int .u64 2270897969802886507,.int .u64 6620516959819538809] 252 (0,0)):=by
  rw[o];exact setRow_heap ((w1.alloc _).drewN n2) _ _ _ _ _ ((Bh _ _ _ (by omega)).trans ac)
 have ai:W4.heap[q+1]? =some (.cells #[.int .u64 lo,.int .u64 hi] 281 (0,0)):=by
  rw[o];exact(setRow_other ((w1.alloc _).drewN n2) _ _ _ (by omega)).trans ((Bh _ _ _ (by omega)).trans ak)
 have af:W4.heap[q+1+1]? =some (.cells Ka 252 (0,0)):=by
  rw[o];exact(setRow_other ((w1.alloc _).drewN n2) _ _ _ (by omega)).trans ((Bh _ _ _ (by omega)).trans ag)
 have aa:Below w.heap.size w W4:=by
  rw[o];exact below_setRow ((aj.alloc (by omega) _).trans (QU n2)) (by omega) _
 clear o ac ak ag aj;have an:q+4≤W4.heap.size:=by have:=aa.size;have:=(Ai X).1;omega
 obtain⟨Y,Z⟩:=qR X;obtain⟨cc,fc⟩:=qR ai;have I:=hid X;have J:=hid af;have G:=hid aa;clear X ai af aa;go_upto_region 7 with(fail)
 refine qm ?_;intro W5 o;have ad:W5.heap[q+1+1+1]? =some (.cells #[.int .u64 (wd h 0),.int .u64 (wd h 1),.int .u64 (wd h 2),.int .u64 (wd h 3),.int .u64 (wd h 4),.int .u64 (wd h 5),.int .u64 (wd h 6),.int .u64 (wd h 7),.int .u64 7640891576956012808,.int .u64 13503953896175478587,.int .u64 4354685564936845355,.int .u64 11912009170470909681,.int .u64 (bits .xor .u64 5840696475078001361 lo),.int .u64 (bits .xor .u64 11170449401992604703 hi),.int .u64 2270897969802886507,.int .u64 6620516959819538809] 252 (0,0)):=by
  rw[o];exact block_setCell (i:=13) (block_setCell (i:=12) I.out _) _
 have ah:W5.heap[q+1+1]? =some (.cells Ka 252 (0,0)):=by
  rw[o];exact(Below.heap_setCell _ _ _ _ (by simp)).trans ((Below.heap_setCell _ _ _ _ (by simp)).trans J.out)
 have ae:Below w.heap.size w W5:=by
  rw[o];exact(G.out.setCell (by simp;omega) _).setCell (by simp;omega) _
 clear o I J G Y Z cc fc;obtain⟨Y,Z⟩:=qR ad;have I:=hid ad;have J:=hid ah;have G:=hid ae;clear ad ah ae
 cases V<;>cases node
 ·go_upto_region 11 with(fail)
  refine qm ?_;intro D o;have O:D.heap[q+1+1+1]? =some (.cells #[.int .u64 (wd h 0),.int .u64 (wd h 1),.int .u64 (wd h 2),.int .u64 (wd h 3),.int .u64 (wd h 4),.int .u64 (wd h 5),.int .u64 (wd h 6),.int .u64 (wd h 7),.int .u64 7640891576956012808,.int .u64 13503953896175478587,.int .u64 4354685564936845355,.int .u64 11912009170470909681,.int .u64 (bits .xor .u64 5840696475078001361 lo),.int .u64 (bits .xor .u64 11170449401992604703 hi),.int .u64 2270897969802886507,.int .u64 6620516959819538809] 252 (0,0)):=by
   rw[o];exact I.out
  have r:D.heap[q+1+1]? =some (.cells Ka 252 (0,0)):=by
   rw[o];exact J.out
  have S:Below w.heap.size w D:=by
   rw[o];exact G.out
  clear o I J G Y Z;apply wp_region_lit
  refine wpList_load_row rfl 252 _ rfl (q+1+1+1) rfl _ _ _ _ O Tryz.underlying252 rfl (by kernel_rfl) ?_;refine wpList_store_row rfl 252 _ _ rfl (q+1+1) _ rfl rfl 252 _ r (by kernel_rfl) (by kernel_rfl) (by kernel_rfl) ?_;simp only[Act.put,Ls];go_wp2_with fail
  exact Bp (results_cell_row rfl _ _ _ _ _ _ _ rfl (setRow_heap _ _ _ _ _ _ r) Tryz.underlying252 rfl (by kernel_rfl)) rfl ⟨rfl,below_setRow (S.mono (by omega)) (by omega) _⟩
 ·go_upto_region 11 with(fail)
  refine qm ?_;intro D o;have O:D.heap[q+1+1+1]? =some (.cells #[.int .u64 (wd h 0),.int .u64 (wd h 1),.int .u64 (wd h 2),.int .u64 (wd h 3),.int .u64 (wd h 4),.int .u64 (wd h 5),.int .u64 (wd h 6),.int .u64 (wd h 7),.int .u64 7640891576956012808,.int .u64 13503953896175478587,.int .u64 4354685564936845355,.int .u64 11912009170470909681,.int .u64 (bits .xor .u64 5840696475078001361 lo),.int .u64 (bits .xor .u64 11170449401992604703 hi),.int .u64 2270897969802886507,.int .u64 (bits .xor .u64 (IntKind.max .u64) 6620516959819538809)] 252 (0,0)):=by
   rw[o];exact(block_setCell (i:=15) I.out _)
  have r:D.heap[q+1+1]? =some (.cells Ka 252 (0,0)):=by
   rw[o];exact((Below.heap_setCell _ _ _ _ (by simp)).trans J.out)
  have S:Below w.heap.size w D:=by
   rw[o];exact(G.out.setCell (by simp;omega) _)
  clear o I J G Y Z;apply wp_region_lit
  refine wpList_load_row rfl 252 _ rfl (q+1+1+1) rfl _ _ _ _ O Tryz.underlying252 rfl (by kernel_rfl) ?_;refine wpList_store_row rfl 252 _ _ rfl (q+1+1) _ rfl rfl 252 _ r (by kernel_rfl) (by kernel_rfl) (by kernel_rfl) ?_;simp only[Act.put,Ls];go_wp2_with fail
  exact Bp (results_cell_row rfl _ _ _ _ _ _ _ rfl (setRow_heap _ _ _ _ _ _ r) Tryz.underlying252 rfl (by kernel_rfl)) rfl ⟨rfl,below_setRow (S.mono (by omega)) (by omega) _⟩
 ·go_upto_region 11 with(fail)
  refine qm ?_;intro D o;have O:D.heap[q+1+1+1]? =some (.cells #[.int .u64 (wd h 0),.int .u64 (wd h 1),.int .u64 (wd h 2),.int .u64 (wd h 3),.int .u64 (wd h 4),.int .u64 (wd h 5),.int .u64 (wd h 6),.int .u64 (wd h 7),.int .u64 7640891576956012808,.int .u64 13503953896175478587,.int .u64 4354685564936845355,.int .u64 11912009170470909681,.int .u64 (bits .xor .u64 5840696475078001361 lo),.int .u64 (bits .xor .u64 11170449401992604703 hi),.int .u64 (bits .xor .u64 (IntKind.max .u64) 2270897969802886507),.int .u64 6620516959819538809] 252 (0,0)):=by
   rw[o];exact(block_setCell (i:=14) I.out _)
  have r:D.heap[q+1+1]? =some (.cells Ka 252 (0,0)):=by
   rw[o];exact((Below.heap_setCell _ _ _ _ (by simp)).trans J.out)
  have S:Below w.heap.size w D:=by
   rw[o];exact(G.out.setCell (by simp;omega) _)
  clear o I J G Y Z;apply wp_region_lit
  refine wpList_load_row rfl 252 _ rfl (q+1+1+1) rfl _ _ _ _ O Tryz.underlying252 rfl (by kernel_rfl) ?_;refine wpList_store_row rfl 252 _ _ rfl (q+1+1) _ rfl rfl 252 _ r (by kernel_rfl) (by kernel_rfl) (by kernel_rfl) ?_;simp only[Act.put,Ls];go_wp2_with fail
  exact Bp (results_cell_row rfl _ _ _ _ _ _ _ rfl (setRow_heap _ _ _ _ _ _ r) Tryz.underlying252 rfl (by kernel_rfl)) rfl ⟨rfl,below_setRow (S.mono (by omega)) (by omega) _⟩
 ·go_upto_region 11 with(fail)
  refine qm ?_;intro D o;have O:D.heap[q+1+1+1]? =some (.cells #[.int .u64 (wd h 0),.int .u64 (wd h 1),.int .u64 (wd h 2),.int .u64 (wd h 3),.int .u64 (wd h 4),.int .u64 (wd h 5),.int .u64 (wd h 6),.int .u64 (wd h 7),.int .u64 7640891576956012808,.int .u64 13503953896175478587,.int .u64 4354685564936845355,.int .u64 11912009170470909681,.int .u64 (bits .xor .u64 5840696475078001361 lo),.int .u64 (bits .xor .u64 11170449401992604703 hi),.int .u64 (bits .xor .u64 (IntKind.max .u64) 2270897969802886507),.int .u64 (bits .xor .u64 (IntKind.max .u64) 6620516959819538809)] 252 (0,0)):=by
   rw[o];exact(block_setCell (i:=15) (block_setCell (i:=14) I.out _) _)
  have r:D.heap[q+1+1]? =some (.cells Ka 252 (0,0)):=by
   rw[o];exact((Below.heap_setCell _ _ _ _ (by simp)).trans ((Below.heap_setCell _ _ _ _ (by simp)).trans J.out))
  have S:Below w.heap.size w D:=by
   rw[o];exact((G.out.setCell (by simp;omega) _).setCell (by simp;omega) _)
  clear o I J G Y Z;apply wp_region_lit
  refine wpList_load_row rfl 252 _ rfl (q+1+1+1) rfl _ _ _ _ O Tryz.underlying252 rfl (by kernel_rfl) ?_;refine wpList_store_row rfl 252 _ _ rfl (q+1+1) _ rfl rfl 252 _ r (by kernel_rfl) (by kernel_rfl) (by kernel_rfl) ?_;simp only[Act.put,Ls];go_wp2_with fail
  exact Bp (results_cell_row rfl _ _ _ _ _ _ _ rfl (setRow_heap _ _ _ _ _ _ r) Tryz.underlying252 rfl (by kernel_rfl)) rfl ⟨rfl,below_setRow (S.mono (by omega)) (by omega) _⟩
theorem qfk (h:List Int)(c:Int)(ar:0≤c)(au:c<18446744073709551616)(X node:Bool)(w:World):Calls Tryz.prog 217 #[.agg #[.int .u32 (wd h 0),.int .u32 (wd h 1),.int .u32 (wd h 2),.int .u32 (wd h 3),.int .u32 (wd h 4),.int .u32 (wd h 5),.int .u32 (wd h 6),.int .u32 (wd h 7)],.int .u64 c,.bool X,.bool node] w fun e w'=>e= .returned (.agg (qj .u32 (YS .u32 IVs h (c%4294967296) (c/4294967296) X node)))∧Below w.heap.size w w':=by
 obtain⟨q,an⟩:=Ex w.heap.size;go_enter Tryz.func217,Tryz.ntmps217
 go_wp2_with fail
 refine(qgR _).mono ?_;rintro e1 w1 ⟨rfl,U⟩;have al:=(U.block q (by simp;omega)).trans ((Bh _ _ _ (by simp;omega)).trans ((Bh _ _ _ (by simp;omega)).trans (qe _ _ an.symm)));have ai:=(U.block (q+1) (by simp;omega)).trans ((Bh _ _ _ (by simp;omega)).trans (qe _ _ (by simp;omega)));have ag:=(U.block (q+1+1) (by simp;omega)).trans (qe _ _ (by simp;omega));have ao:q+3≤w1.heap.size:=by have:=U.size;simp at this;omega
 have ak:Below w.heap.size w w1:=((((Below.refl w.heap.size w).alloc Nl _).alloc (by simp) _).alloc (by simp;omega) _).trans (U.mono (by simp;omega));clear U;go_wp2_with fail
 refine qm ?_;intro W o;have hh:W.heap[q]? =some (.cells #[.int .u32 (wd h 0),.int .u32 (wd h 1),.int .u32 (wd h 2),.int .u32 (wd h 3),.int .u32 (wd h 4),.int .u32 (wd h 5),.int .u32 (wd h 6),.int .u32 (wd h 7)] 284 (0,0)):=by
  rw[o];exact(Bh _ _ _ (by omega)).trans al
 have hr:W.heap[q+1]? =some (.cells Kd 298 (0,0)):=by
  rw[o];exact(Bh _ _ _ (by omega)).trans ai
 have hv:W.heap[q+1+1]? =some (.cells Kd 298 (0,0)):=by
  rw[o];exact(Bh _ _ _ (by omega)).trans ag
 have hi:W.heap[w1.heap.size]? =some (.cells Ki 284 (0,0)):=by
  rw[o];exact Wn _ _
 have hB:Below w.heap.size w W:=by rw[o];exact ak.alloc (by omega) _
 have hs:W.heap.size=w1.heap.size+1:=by rw[o];simp
 clear o al ai ag ak;refine qk (by dsimp only[List.dropLast]) (by rfl) (by rfl) (by kernel_rfl) (by kernel_rfl) (by kernel_rfl) (by kernel_rfl) ?_;repeat(go_big_quiet_step (fail))
 refine wpQuiet_nil ?_;intro _ aa;obtain⟨n1,rfl⟩:=aa;refine wpList_copy_own rfl _ _ _ _ rfl 23 Tryz.underlying308 rfl (q+1+1) 0 8 16 ⟨q,0,none⟩ 8 8 rfl rfl Kd 298 hv [.int .u32 (wd h 0),.int .u32 (wd h 1),.int .u32 (wd h 2),.int .u32 (wd h 3),.int .u32 (wd h 4),.int .u32 (wd h 5),.int .u32 (wd h 6),.int .u32 (wd h 7)] rfl
  (jH (W:=W.drewN n1) hh) (by simp) (by simp[Value.oneCell']) ?_
 refine wpList_nil ?_;simp only[Act.put,Ls];go_wp2_with fail
 refine qm ?_;intro V o;have ab:V.heap[q+1+1]? =some (.cells #[.int .u32 (wd h 0),.int .u32 (wd h 1),.int .u32 (wd h 2),.int .u32 (wd h 3),.int .u32 (wd h 4),.int .u32 (wd h 5),.int .u32 (wd h 6),.int .u32 (wd h 7),.int .u32 0,.int .u32 0,.int .u32 0,.int .u32 0,.int .u32 0,.int .u32 0,.int .u32 0,.int .u32 0] 298 (0,0)):=by
  rw[o];exact setRow_heap (W.drewN n1) _ _ _ _ _ hv
 have ac:V.heap[q+1]? =some (.cells Kd 298 (0,0)):=by
  rw[o];exact(setRow_other (W.drewN n1) _ _ _ (by omega)).trans hr
 have af:V.heap[w1.heap.size]? =some (.cells Ki 284 (0,0)):=by
  rw[o];exact(setRow_other (W.drewN n1) _ _ _ (by omega)).trans hi
 have am:Below w.heap.size w V:=by rw[o];exact below_setRow (hB.trans (QU n1)) (by omega) _
 clear o hh hr hv hi hB;refine qk (by dsimp only[List.dropLast]) (by rfl) (by rfl) (by kernel_rfl) (by kernel_rfl) (by kernel_rfl) (by kernel_rfl) ?_;repeat(go_big_quiet_step (fail))
 refine wpQuiet_nil ?_;intro _ aa;obtain⟨n2,rfl⟩:=aa;refine wpList_copy_own rfl _ _ _ _ rfl 23 Tryz.underlying308 rfl (q+1+1) 8 8 8 ⟨w1.heap.size,0,none⟩ 8 8 rfl rfl #[.int .u32 (wd h 0),.int .u32 (wd h 1),.int .u32 (wd h 2),.int .u32 (wd h 3),.int .u32 (wd h 4),.int .u32 (wd h 5),.int .u32 (wd h 6),.int .u32 (wd h 7),.int .u32 0,.int .u32 0,.int .u32 0,.int .u32 0,.int .u32 0,.int .u32 0,.int .u32 0,.int .u32 0] 298 ab [.int .u32 1779033703,.int .u32 3144134277,.int .u32 1013904242,.int .u32 2773480762,.int .u32 1359893119,.int .u32 2600822924,.int .u32 528734635,.int .u32 1541459225] rfl
  (jH (W:=V.drewN n2) af) (by simp) (by simp[Value.oneCell']) ?_
 go_upto_region 5 with(fail)
 refine qm ?_;intro W4 o;have Z:W4.heap[q+1+1]? =some (.cells #[.int .u32 (wd h 0),.int .u32 (wd h 1),.int .u32 (wd h 2),.int .u32 (wd h 3),.int .u32 (wd h 4),.int .u32 (wd h 5),.int .u32 (wd h 6),.int .u32 (wd h 7),.int .u32 1779033703,.int .u32 3144134277,.int .u32 1013904242,.int .u32 2773480762,.int .u32 1359893119,.int .u32 2600822924,.int .u32 528734635,.int .u32 1541459225] 298 (0,0)):=by
  rw[o];exact setRow_heap (V.drewN n2) _ _ _ _ _ ab
 have ah:W4.heap[q+1]? =some (.cells Kd 298 (0,0)):=by
  rw[o];exact(setRow_other (V.drewN n2) _ _ _ (by omega)).trans ac
 have ad:Below w.heap.size w W4:=by rw[o];exact below_setRow (am.trans (QU n2)) (by omega) _
 clear o ab ac af am hs;have ap:=(Ai Z).1;obtain⟨cv,fv⟩:=qR Z;have I:=hid Z;have J:=hid ah;have G:=hid ad;clear Z ah ad;go_upto_region 7 with(fail)
 refine qm ?_;intro W5 o;have Y:W5.heap[q+1+1]? =some (.cells #[.int .u32 (wd h 0),.int .u32 (wd h 1),.int .u32 (wd h 2),.int .u32 (wd h 3),.int .u32 (wd h 4),.int .u32 (wd h 5),.int .u32 (wd h 6),.int .u32 (wd h 7),.int .u32 1779033703,.int .u32 3144134277,.int .u32 1013904242,.int .u32 2773480762,.int .u32 (bits .xor .u32 1359893119 (c%4294967296)),.int .u32 (bits .xor .u32 2600822924 (c/4294967296)),.int .u32 528734635,.int .u32 1541459225] 298 (0,0)):=by
  rw[o];exact block_setCell (i:=13) (block_setCell (i:=12) I.out _) _
 have aj:W5.heap[q+1]? =some (.cells Kd 298 (0,0)):=by
  rw[o];exact(Below.heap_setCell _ _ _ _ (by simp)).trans ((Below.heap_setCell _ _ _ _ (by simp)).trans J.out)
 have ae:Below w.heap.size w W5:=by
  rw[o];exact(G.out.setCell (by simp;omega) _).setCell (by simp;omega) _
 clear o I J G cv fv;have aq:=(Ai Y).1;obtain⟨cv,fv⟩:=qR Y;have I:=hid Y;have J:=hid aj;have G:=hid ae;clear Y aj ae
 cases X<;>cases node
 ·go_upto_region 11 with(fail)
  refine qm ?_;intro D o;have O:D.heap[q+1+1]? =some (.cells #[.int .u32 (wd h 0),.int .u32 (wd h 1),.int .u32 (wd h 2),.int .u32 (wd h 3),.int .u32 (wd h 4),.int .u32 (wd h 5),.int .u32 (wd h 6),.int .u32 (wd h 7),.int .u32 1779033703,.int .u32 3144134277,.int .u32 1013904242,.int .u32 2773480762,.int .u32 (bits .xor .u32 1359893119 (c%4294967296)),.int .u32 (bits .xor .u32 2600822924 (c/4294967296)),.int .u32 528734635,.int .u32 1541459225] 298 (0,0)):=by
   rw[o];exact I.out
  have r:D.heap[q+1]? =some (.cells Kd 298 (0,0)):=by
   rw[o];exact J.out
  have S:Below w.heap.size w D:=by
   rw[o];exact G.out
  clear o I J G cv fv;apply wp_region_lit
  refine wpList_load_row rfl 298 _ rfl (q+1+1) rfl _ _ _ _ O Tryz.underlying298 rfl (by kernel_rfl) ?_;refine wpList_store_row rfl 298 _ _ rfl (q+1) _ rfl rfl 298 _ r (by kernel_rfl) (by kernel_rfl) (by kernel_rfl) ?_;simp only[Act.put,Ls];go_wp2_with fail
  exact Bp (results_cell_row rfl _ _ _ _ _ _ _ rfl (setRow_heap _ _ _ _ _ _ r) Tryz.underlying298 rfl (by kernel_rfl)) rfl ⟨rfl,below_setRow (S.mono (by omega)) (by omega) _⟩
 ·go_upto_region 11 with(fail)
  refine qm ?_;intro D o;have O:D.heap[q+1+1]? =some (.cells #[.int .u32 (wd h 0),.int .u32 (wd h 1),.int .u32 (wd h 2),.int .u32 (wd h 3),.int .u32 (wd h 4),.int .u32 (wd h 5),.int .u32 (wd h 6),.int .u32 (wd h 7),.int .u32 1779033703,.int .u32 3144134277,.int .u32 1013904242,.int .u32 2773480762,.int .u32 (bits .xor .u32 1359893119 (c%4294967296)),.int .u32 (bits .xor .u32 2600822924 (c/4294967296)),.int .u32 528734635,.int .u32 (bits .xor .u32 (IntKind.max .u32) 1541459225)] 298 (0,0)):=by
   rw[o];exact(block_setCell (i:=15) I.out _)
  have r:D.heap[q+1]? =some (.cells Kd 298 (0,0)):=by
   rw[o];exact((Below.heap_setCell _ _ _ _ (by simp)).trans J.out)
  have S:Below w.heap.size w D:=by
   rw[o];exact(G.out.setCell (by simp;omega) _)
  clear o I J G cv fv;apply wp_region_lit
  refine wpList_load_row rfl 298 _ rfl (q+1+1) rfl _ _ _ _ O Tryz.underlying298 rfl (by kernel_rfl) ?_;refine wpList_store_row rfl 298 _ _ rfl (q+1) _ rfl rfl 298 _ r (by kernel_rfl) (by kernel_rfl) (by kernel_rfl) ?_;simp only[Act.put,Ls];go_wp2_with fail
  exact Bp (results_cell_row rfl _ _ _ _ _ _ _ rfl (setRow_heap _ _ _ _ _ _ r) Tryz.underlying298 rfl (by kernel_rfl)) rfl ⟨rfl,below_setRow (S.mono (by omega)) (by omega) _⟩
 ·go_upto_region 11 with(fail)
  refine qm ?_;intro D o;have O:D.heap[q+1+1]? =some (.cells #[.int .u32 (wd h 0),.int .u32 (wd h 1),.int .u32 (wd h 2),.int .u32 (wd h 3),.int .u32 (wd h 4),.int .u32 (wd h 5),.int .u32 (wd h 6),.int .u32 (wd h 7),.int .u32 1779033703,.int .u32 3144134277,.int .u32 1013904242,.int .u32 2773480762,.int .u32 (bits .xor .u32 1359893119 (c%4294967296)),.int .u32 (bits .xor .u32 2600822924 (c/4294967296)),.int .u32 (bits .xor .u32 (IntKind.max .u32) 528734635),.int .u32 1541459225] 298 (0,0)):=by
   rw[o];exact(block_setCell (i:=14) I.out _)
  have r:D.heap[q+1]? =some (.cells Kd 298 (0,0)):=by
   rw[o];exact((Below.heap_setCell _ _ _ _ (by simp)).trans J.out)
  have S:Below w.heap.size w D:=by
   rw[o];exact(G.out.setCell (by simp;omega) _)
  clear o I J G cv fv;apply wp_region_lit
  refine wpList_load_row rfl 298 _ rfl (q+1+1) rfl _ _ _ _ O Tryz.underlying298 rfl (by kernel_rfl) ?_;refine wpList_store_row rfl 298 _ _ rfl (q+1) _ rfl rfl 298 _ r (by kernel_rfl) (by kernel_rfl) (by kernel_rfl) ?_;simp only[Act.put,Ls];go_wp2_with fail
  exact Bp (results_cell_row rfl _ _ _ _ _ _ _ rfl (setRow_heap _ _ _ _ _ _ r) Tryz.underlying298 rfl (by kernel_rfl)) rfl ⟨rfl,below_setRow (S.mono (by omega)) (by omega) _⟩
 ·go_upto_region 11 with(fail)
  refine qm ?_;intro D o;have O:D.heap[q+1+1]? =some (.cells #[.int .u32 (wd h 0),.int .u32 (wd h 1),.int .u32 (wd h 2),.int .u32 (wd h 3),.int .u32 (wd h 4),.int .u32 (wd h 5),.int .u32 (wd h 6),.int .u32 (wd h 7),.int .u32 1779033703,.int .u32 3144134277,.int .u32 1013904242,.int .u32 2773480762,.int .u32 (bits .xor .u32 1359893119 (c%4294967296)),.int .u32 (bits .xor .u32 2600822924 (c/4294967296)),.int .u32 (bits .xor .u32 (IntKind.max .u32) 528734635),.int .u32 (bits .xor .u32 (IntKind.max .u32) 1541459225)] 298 (0,0)):=by
   rw[o];exact(block_setCell (i:=15) (block_setCell (i:=14) I.out _) _)
  have r:D.heap[q+1]? =some (.cells Kd 298 (0,0)):=by
   rw[o];exact((Below.heap_setCell _ _ _ _ (by simp)).trans ((Below.heap_setCell _ _ _ _ (by simp)).trans J.out))
  have S:Below w.heap.size w D:=by
   rw[o];exact((G.out.setCell (by simp;omega) _).setCell (by simp;omega) _)
  clear o I J G cv fv;apply wp_region_lit
  refine wpList_load_row rfl 298 _ rfl (q+1+1) rfl _ _ _ _ O Tryz.underlying298 rfl (by kernel_rfl) ?_;refine wpList_store_row rfl 298 _ _ rfl (q+1) _ rfl rfl 298 _ r (by kernel_rfl) (by kernel_rfl) (by kernel_rfl) ?_;simp only[Act.put,Ls];go_wp2_with fail
  exact Bp (results_cell_row rfl _ _ _ _ _ _ _ rfl (setRow_heap _ _ _ _ _ _ r) Tryz.underlying298 rfl (by kernel_rfl)) rfl ⟨rfl,below_setRow (S.mono (by omega)) (by omega) _⟩
def YW (k:IntKind)(h v:List Int):Nat→List Int
 | 0=>h
 | i+1=>(YW k h v i).set i (bits .xor k (wd h i) (bits .xor k (wd v i) (wd v (i+8))))
def Zl (K:MixK)(iv:List Int)(n:Nat)(h M:List Int)(x y:Int)(last node:Bool):List Int:=
 YW K.k h (K.rounds (YS K.k iv h x y last node) M n) 8
theorem QQ {k:IntKind}{N:Nat}(o: ∀z,k.wrap z=z%2^N){h v:List Int}(q:Words N 8 h): ∀i,Words N 8 (YW k h v i)
 | 0=>q
 | i+1=>Words.set (QQ o q i) (Qd _ _ _ o _ _)
theorem zW {k:IntKind}{h v:List Int}: ∀i j,i≤j→wd (YW k h v i) j=wd h j
 | 0,j,_=>rfl
 | i+1,j,hj=>by
  have o:=zW (k:=k) (h:=h) (v:=v) i j (by omega);simp only[YW];unfold wd at*;rw[Lg,List.getElem?_set,if_neg (by omega),←Lg];exact o
theorem qg {k:IntKind}{L:List Int}:(qj k L).size=L.length:=by simp[qj]
theorem qy {k:IntKind}{L:List Int}:(qj k L).all (·.oneCell')=true:=by simp[qj,Value.oneCell']
theorem Zi {k:IntKind}{N:Nat}(G: ∀z,k.wrap z=z%2^N){r h:List Int}(hi:Words N 8 r)(I:Words N 8 h)(x y:Int)(o node:Bool):Words N 16 (YS k r h x y o node):=by
 refine⟨rfl,fun z q=>?_⟩;simp only[YS,List.mem_cons,List.not_mem_nil,or_false]at q;have D:=fun a b=>Qd .xor k N G a b
 rcases q with rfl|rfl|rfl|rfl|rfl|rfl|rfl|rfl|rfl|rfl|rfl|rfl|rfl|rfl|rfl|rfl
 all_goals first|exact I.at (by decide)|exact hi.at (by decide)|exact D _ _|skip
 all_goals split
 all_goals first|exact hi.at (by decide)|exact D _ _
theorem qdj:Words 64 8 IVb:=⟨rfl,by decide⟩
theorem qaK:Words 32 8 IVs:=⟨rfl,by decide⟩
theorem Zp {k:IntKind}{N:Nat}{L:List Int}(h:Words N 8 L):qj k L= #[.int k (wd L 0),.int k (wd L 1),.int k (wd L 2),.int k (wd L 3),.int k (wd L 4),.int k (wd L 5),.int k (wd L 6),.int k (wd L 7)]:=by
 obtain⟨o, -⟩:=h;match L,o with
 | [a,b,c,d,e,f,g,i],_=>rfl
theorem qjN (h M:List Int)(J:Words 64 8 h)(hM:Words 64 16 M)(lo hi:Int)(r node:Bool)(w:World):Calls Tryz.prog 199 #[.agg (qj .u64 h),.agg (qj .u64 M),.agg #[.int .u64 lo,.int .u64 hi],.bool r,.bool node] w fun e w'=>e= .returned (.agg (qj .u64 (Zl mixBig IVb 12 h M lo hi r node)))∧Below w.heap.size w w':=by
 obtain⟨q,av⟩:=Ex w.heap.size;have HC:=hid (qgb h lo hi r node);have Y:=Zi (k:= .u64) (fun z=>IntKind.wrap_u64 z) qdj J lo hi r node;unfold Zl;rw[show mixBig.k= .u64 from rfl];generalize YS .u64 IVb h lo hi r node=L0 at*;have ad:=J;rw[Zp J];go_enter Tryz.func199,Tryz.ntmps199
 go_wp2_with fail
 refine(HC.out _).mono ?_;rintro e1 w1 ⟨rfl,G⟩;have au:=(G.block q (by simp;omega)).trans ((Bh _ _ _ (by simp;omega)).trans ((Bh _ _ _ (by simp;omega)).trans ((Bh _ _ _ (by simp;omega)).trans (qe _ _ av.symm))));have an:=(G.block (q+1) (by simp;omega)).trans ((Bh _ _ _ (by simp;omega)).trans ((Bh _ _ _ (by simp;omega)).trans (qe _ _ (by simp;omega))));have ao:=(G.block (q+1+1+1) (by simp;omega)).trans (qe _ _ (by simp;omega));have az:q+4≤w1.heap.size:=by have:=G.size;simp at this;omega
 have al:Below w.heap.size w w1:=(((((Below.refl w.heap.size w).alloc Nl _).alloc (by simp) _).alloc (by simp;omega) _).alloc (by simp;omega) _).trans (G.mono (by simp;omega));clear G HC;go_wp2_with ((with_reducible show wpList _ _ _ (Oper.mk none (Op.store 252 _ _) _ _ _ _::_) _ _);refine wpList_store_row rfl 252 _ _ rfl w1.heap.size (qj .u64 L0) rfl rfl 252 _ (Wn _ _) (by rw[qg,Y.1];kernel_rfl) (by rw[qg,Y.1];rfl) qy ?_)
 clear J;refine qm ?_;intro W Z;obtain⟨D,ac⟩:=Ex w1.heap.size;have J:W.heap[q]? =some (.cells #[.int .u64 (wd h 0),.int .u64 (wd h 1),.int .u64 (wd h 2),.int .u64 (wd h 3),.int .u64 (wd h 4),.int .u64 (wd h 5),.int .u64 (wd h 6),.int .u64 (wd h 7)] 274 (0,0)):=by
  rw[Z];exact(setRow_other (w1.alloc _) _ _ _ (by omega)).trans ((Bh _ _ _ (by omega)).trans au)
 have hm:W.heap[q+1]? =some (.cells (qj .u64 M) 252 (0,0)):=by
  rw[Z];exact(setRow_other (w1.alloc _) _ _ _ (by omega)).trans ((Bh _ _ _ (by omega)).trans an)
 have hr:W.heap[q+1+1+1]? =some (.cells Kg 274 (0,0)):=by
  rw[Z];exact(setRow_other (w1.alloc _) _ _ _ (by omega)).trans ((Bh _ _ _ (by omega)).trans ao)
 have hv:W.heap[D]? =some (.cells (qj .u64 L0) 252 (0,0)):=by
  rw[Z,←ac];exact setRow_heap _ _ _ _ _ _ (Wn _ _)
 have hB:Below w.heap.size w W:=by
  rw[Z];exact below_setRow (al.alloc (by omega) _) (by omega) _
 rw[←Zp ad]at J;rw[ac];have aK:q+4≤D:=by omega
 clear Z au an ao az al ac;have HH:=hid J;have HM:=hid hm;have HR:=hid hr;have HV:=hid hv;have HB:=hid hB;have aJ:D<W.heap.size:=(Ai hv).1;clear J hm hr hv hB;go_loopw [19] (fun i wr=> ∃j:Nat,i= .int .i64 j∧j≤12∧wr.heap[D]? =some (.cells (qj .u64 (mixBig.rounds L0 M j)) 252 (0,0))∧But D W wr) (fun i _=>12 - (intOf i).toNat)
 case atStart=>exact⟨0,rfl,Nat.zero_le _,HV.out,But.refl _ _⟩
 case round=>
  obtain⟨j,rfl,hj,hv,hB⟩:=hrel;have hm:=(hB.block (q+1) (by omega) (by omega)).trans HM.out;have U:=hid hv;have ah:=hid hm;have O:=hid hB;clear hv hm hB;by_cases ab:j<12
  ·go_wp2_with fail
   refine(qfw D (q+1) (by omega) (mixBig.rounds L0 M j) M (Q8 QL Y j) hM j ab 252 252 _ U.out ah.out).mono ?_;rintro e2 w2 ⟨rfl,ar,am⟩
   have aF:=hid ar;have aw:=hid (O.out.trans am);clear ar am;go_wp2
   exact⟨⟨j+1,rfl,by omega,aF.out,aw.out⟩,by simp[intOf];omega⟩
  ·obtain rfl:j=12:=by omega
   go_wp2_with fail
   have hV:=Q8 QL Y (M:=M) 12;obtain⟨V,ae⟩:=Ex (mixBig.rounds L0 M 12);have aA:=hid (show Ending.returned (.agg (qj .u64 (YW .u64 h V 8)))= .returned (.agg (qj .u64 (YW .u64 h (mixBig.rounds L0 M 12) 8))) by rw[ae]);rw[ae]at hV U;clear ae;have ag:=(O.out.block q (by omega) (by omega)).trans HH.out;have ai:=(O.out.block (q+1+1+1) (by omega) (by omega)).trans HR.out;have aa:=U.out;have ak:Below w.heap.size w wr:=HB.out.trans (O.out.below (by omega) HB.out.size);have aE:=hid ag;have aD:=hid ai;have ap:=hid ak;have ax:D<wr.heap.size:=(Ai aa).1;have aC:=hid aa;clear ag ai ak U ah O HH HR HM HV HB aa;generalize wr=w3 at*;go_loopw [25] (fun i w4=> ∃j:Nat,i= .int .i64 j∧j≤8∧w4.heap[q]? =some (.cells (qj .u64 (YW .u64 h V j)) 274 (0,0))∧But q w3 w4) (fun i _=>8 - (intOf i).toNat)
   case atStart=>exact⟨0,rfl,Nat.zero_le _,aE.out,But.refl _ _⟩
   case round=>
    obtain⟨j,rfl,hj,S,I⟩:=hrel;have aI:=I.size;have X:=(I.block D ax (by omega)).trans aC.out;have q1:D<wr.heap.size:=by omega
    have q2:q<wr.heap.size:=by omega
    have aq:=hid S;have af:=hid I;by_cases ab:j<8
    ·have c1:wr.cell? ⟨q,j,none⟩=some (.int .u64 (wd h j)):=by
      rw[qq S,qE (QQ (fun z=>IntKind.wrap_u64 z) ad j) ab,zW j j Nl]
     have c2:wr.cell? ⟨D,j,none⟩=some (.int .u64 (wd V j)):=(qq X _).trans (qE hV (by omega));have c3:wr.cell? ⟨D,j+8,none⟩=some (.int .u64 (wd V (j+8))):=(qq X _).trans (qE hV (by omega));have f1: ∀o,wr.frozen? ⟨q,o,none⟩=false:=(qR S).2;have aH:IntKind.i64.wrap ((j:Int)+8)=((j+8:Nat):Int):=by rw[IntKind.wrap_i64];omega
     have aG:j+8<16:=by omega
     clear S X I;go_wp2_with fail
     refine qk (by dsimp only[List.dropLast]) (by rfl) (by rfl) (by kernel_rfl) (by kernel_rfl) (by kernel_rfl) (by kernel_rfl) ?_;repeat(go_big_quiet_step (fail))
     refine wpQuiet_nil ?_;intro _ ay;obtain⟨n1,rfl⟩:=ay;go_wp2_with fail
     exact⟨⟨j+1,rfl,by omega,by rw[YW,←Qj];exact block_setCell (w:=wr.drewN n1) aq.out _,(af.out.drewN n1).set _ _⟩,by simp[intOf];omega⟩
    ·obtain rfl:j=8:=by omega
     have aj:=(I.block (q+1+1+1) (by omega) (by omega)).trans aD.out;have hF:=QQ (k:= .u64) (fun z=>IntKind.wrap_u64 z) (v:=V) ad 8;have aB:=hid (ap.out.trans (af.out.below (by omega) ap.out.size));clear S X I;go_upto_region 12 with(fail)
     apply wp_region_lit
     refine wpList_load_row rfl 274 _ rfl q rfl _ _ _ _ aq.out Tryz.underlying274 rfl (by rw[qg,hF.1];kernel_rfl) ?_;refine wpList_store_row rfl 274 _ _ rfl (q+1+1+1) (qj .u64 (YW .u64 h V 8)) rfl rfl 274 _ aj (by rw[qg,hF.1];kernel_rfl) (by rw[qg,hF.1];rfl) qy ?_;simp only[Act.put,Ls];go_wp2_with fail
     exact Bp (results_cell_row rfl _ _ _ _ _ _ _ rfl (setRow_heap _ _ _ _ _ _ aj) Tryz.underlying274 rfl (by rw[qg,hF.1];kernel_rfl)) rfl ⟨aA.out,below_setRow (aB.out.mono (by omega)) (by omega) _⟩
theorem qhF (h V:List Int)(ab:Words 32 8 h)(hV:Words 32 16 V)(w:World):Calls Tryz.prog 219 #[.agg (qj .u32 h),.agg (qj .u32 V)] w fun e w'=>e= .returned (.agg (qj .u32 (YW .u32 h V 8)))∧Below w.heap.size w w':=by
 obtain⟨q,ag⟩:=Ex w.heap.size;go_enter Tryz.func219,Tryz.ntmps219
 go_wp2_with fail
 refine qm ?_;intro G O;have Z:G.heap[q]? =some (.cells (qj .u32 h) 284 (0,0)):=by
  rw[O];exact(Bh _ _ _ (by simp;omega)).trans ((Bh _ _ _ (by simp;omega)).trans (qe _ _ ag.symm))
 have S:G.heap[q+1]? =some (.cells (qj .u32 V) 298 (0,0)):=by
  rw[O];exact(Bh _ _ _ (by simp;omega)).trans (qe _ _ (by simp;omega))
 have J:G.heap[q+1+1]? =some (.cells Kf 284 (0,0)):=by
  rw[O];exact qe _ _ (by simp;omega)
 have ad:Below w.heap.size w G:=by
  rw[O];exact(((Below.refl w.heap.size w).alloc Nl _).alloc (by simp) _).alloc (by simp;omega) _
 clear O;have ae:=hid Z;have aj:=hid S;have al:=hid J;have aa:=hid ad;have af:q+1<G.heap.size:=(Ai S).1;have an:q+1+1<G.heap.size:=(Ai J).1;clear Z S J ad;go_loopw [6] (fun i w4=> ∃j:Nat,i= .int .i64 j∧j≤8∧w4.heap[q]? =some (.cells (qj .u32 (YW .u32 h V j)) 284 (0,0))∧But q G w4) (fun i _=>8 - (intOf i).toNat)
 case atStart=>exact⟨0,rfl,Nat.zero_le _,ae.out,But.refl _ _⟩
 case round=>
  obtain⟨j,rfl,hj,D,r⟩:=hrel;have ao:=r.size;have I:=(r.block (q+1) af (by omega)).trans aj.out;have q1:q+1<wr.heap.size:=by omega
  have q2:q<wr.heap.size:=by omega
  have Y:=hid D;have X:=hid r;by_cases ak:j<8
  ·have c1:wr.cell? ⟨q,j,none⟩=some (.int .u32 (wd h j)):=by
    rw[qq D,qE (QQ (fun z=>IntKind.wrap_u32 z) ab j) ak,zW j j Nl]
   have c2:wr.cell? ⟨q+1,j,none⟩=some (.int .u32 (wd V j)):=(qq I _).trans (qE hV (by omega));have c3:wr.cell? ⟨q+1,j+8,none⟩=some (.int .u32 (wd V (j+8))):=(qq I _).trans (qE hV (by omega));have f1: ∀o,wr.frozen? ⟨q,o,none⟩=false:=(qR D).2;have ap:IntKind.i64.wrap ((j:Int)+8)=((j+8:Nat):Int):=by rw[IntKind.wrap_i64];omega
   have am:j+8<16:=by omega
   clear D I r;go_wp2_with fail
   refine qk (by dsimp only[List.dropLast]) (by rfl) (by rfl) (by kernel_rfl) (by kernel_rfl) (by kernel_rfl) (by kernel_rfl) ?_;repeat(go_big_quiet_step (fail))
   refine wpQuiet_nil ?_;intro _ ah;obtain⟨n1,rfl⟩:=ah;go_wp2_with fail
   exact⟨⟨j+1,rfl,by omega,by rw[YW,←Qj];exact block_setCell (w:=wr.drewN n1) Y.out _,(X.out.drewN n1).set _ _⟩,by simp[intOf];omega⟩
  ·obtain rfl:j=8:=by omega
   have ac:=(r.block (q+1+1) (by omega) (by omega)).trans al.out;have U:=QQ (k:= .u32) (fun z=>IntKind.wrap_u32 z) (v:=V) ab 8;have ai:=hid (aa.out.trans (X.out.below (by omega) aa.out.size));clear D I r;go_upto_region 6 with(fail)
   apply wp_region_lit
   refine wpList_load_row rfl 284 _ rfl q rfl _ _ _ _ Y.out Tryz.underlying284 rfl (by rw[qg,U.1];kernel_rfl) ?_;refine wpList_store_row rfl 284 _ _ rfl (q+1+1) (qj .u32 (YW .u32 h V 8)) rfl rfl 284 _ ac (by rw[qg,U.1];kernel_rfl) (by rw[qg,U.1];rfl) qy ?_;simp only[Act.put,Ls];go_wp2_with fail
   exact Bp (results_cell_row rfl _ _ _ _ _ _ _ rfl (setRow_heap _ _ _ _ _ _ ac) Tryz.underlying284 rfl (by rw[qg,U.1];kernel_rfl)) rfl ⟨rfl,below_setRow (ai.out.mono (by omega)) (by omega) _⟩
theorem qjO (h M:List Int)(D:Words 32 8 h)(hM:Words 32 16 M)(c:Int)(aw:0≤c)(aA:c<18446744073709551616)(q node:Bool)(w:World):Calls Tryz.prog 204 #[.agg (qj .u32 h),.agg (qj .u32 M),.int .u64 c,.bool q,.bool node] w fun e w'=>e= .returned (.agg (qj .u32 (Zl mixSmall IVs 10 h M (c%4294967296) (c/4294967296) q node)))∧Below w.heap.size w w':=by
 obtain⟨o,ar⟩:=Ex w.heap.size;have HC:=hid (qfk h c aw aA q node);have O:=Zi (k:= .u32) (fun z=>IntKind.wrap_u32 z) qaK D (c%4294967296) (c/4294967296) q node;unfold Zl;rw[show mixSmall.k= .u32 from rfl];generalize YS .u32 IVs h (c%4294967296) (c/4294967296) q node=U at*;have J:=D;rw[Zp D];go_enter Tryz.func204,Tryz.ntmps204
 go_wp2_with fail
 refine(HC.out _).mono ?_;rintro e1 w1 ⟨rfl,r⟩;have an:=(r.block o (by simp;omega)).trans ((Bh _ _ _ (by simp;omega)).trans ((Bh _ _ _ (by simp;omega)).trans (qe _ _ ar.symm)));have ae:=(r.block (o+1) (by simp;omega)).trans ((Bh _ _ _ (by simp;omega)).trans (qe _ _ (by simp;omega)));have ai:=(r.block (o+1+1) (by simp;omega)).trans (qe _ _ (by simp;omega));have au:o+3≤w1.heap.size:=by have:=r.size;simp at this;omega
 have am:Below w.heap.size w w1:=((((Below.refl w.heap.size w).alloc Nl _).alloc (by simp) _).alloc (by simp;omega) _).trans (r.mono (by simp;omega));clear r HC;go_wp2_with ((with_reducible show wpList _ _ _ (Oper.mk none (Op.store 298 _ _) _ _ _ _::_) _ _);refine wpList_store_row rfl 298 _ _ rfl w1.heap.size (qj .u32 U) rfl rfl 298 _ (Wn _ _) (by rw[qg,O.1];kernel_rfl) (by rw[qg,O.1];rfl) qy ?_)
 clear D;refine qm ?_;intro W Y;obtain⟨I,aa⟩:=Ex w1.heap.size;have D:W.heap[o]? =some (.cells #[.int .u32 (wd h 0),.int .u32 (wd h 1),.int .u32 (wd h 2),.int .u32 (wd h 3),.int .u32 (wd h 4),.int .u32 (wd h 5),.int .u32 (wd h 6),.int .u32 (wd h 7)] 284 (0,0)):=by
  rw[Y];exact(setRow_other (w1.alloc _) _ _ _ (by omega)).trans ((Bh _ _ _ (by omega)).trans an)
 have hm:W.heap[o+1]? =some (.cells (qj .u32 M) 298 (0,0)):=by
  rw[Y];exact(setRow_other (w1.alloc _) _ _ _ (by omega)).trans ((Bh _ _ _ (by omega)).trans ae)
 have hr:W.heap[o+1+1]? =some (.cells Kf 284 (0,0)):=by
  rw[Y];exact(setRow_other (w1.alloc _) _ _ _ (by omega)).trans ((Bh _ _ _ (by omega)).trans ai)
 have Z:W.heap[I]? =some (.cells (qj .u32 U) 298 (0,0)):=by
  rw[Y,←aa];exact setRow_heap _ _ _ _ _ _ (Wn _ _)
 have X:Below w.heap.size w W:=by
  rw[Y];exact below_setRow (am.alloc (by omega) _) (by omega) _
 rw[←Zp J]at D;rw[aa];have aE:o+3≤I:=by omega
 clear Y an ae ai au am aa;have HH:=hid D;have HM:=hid hm;have HR:=hid hr;have HV:=hid Z;have HB:=hid X;have aC:I<W.heap.size:=(Ai Z).1;clear D hm hr Z X;go_loopw [18] (fun i wr=> ∃j:Nat,i= .int .i64 j∧j≤10∧wr.heap[I]? =some (.cells (qj .u32 (mixSmall.rounds U M j)) 298 (0,0))∧But I W wr) (fun i _=>10 - (intOf i).toNat)
 case atStart=>exact⟨0,rfl,Nat.zero_le _,HV.out,But.refl _ _⟩
 case round=>
  obtain⟨j,rfl,hj,Z,X⟩:=hrel;have hm:=(X.block (o+1) (by omega) (by omega)).trans HM.out;have S:=hid Z;have ag:=hid hm;have G:=hid X;clear Z hm X;by_cases aD:j<10
  ·go_wp2_with fail
   refine(qfx I (o+1) (by omega) (mixSmall.rounds U M j) M (Q8 Qr O j) hM j (by omega) 298 298 _ S.out ag.out).mono ?_;rintro e2 w2 ⟨rfl,al,ao⟩
   have aq:=hid al;have ax:=hid (G.out.trans ao);clear al ao;go_wp2
   exact⟨⟨j+1,rfl,by omega,aq.out,ax.out⟩,by simp[intOf];omega⟩
  ·obtain rfl:j=10:=by omega
   have hV:=Q8 Qr O (M:=M) 10;obtain⟨V,ab⟩:=Ex (mixSmall.rounds U M 10);have av:=hid (show Ending.returned (.agg (qj .u32 (YW .u32 h V 8)))= .returned (.agg (qj .u32 (YW .u32 h (mixSmall.rounds U M 10) 8))) by rw[ab]);rw[ab]at hV S;clear ab;have af:=(G.out.block o (by omega) (by omega)).trans HH.out;have ah:=(G.out.block (o+1+1) (by omega) (by omega)).trans HR.out;have ak:Below w.heap.size w wr:=HB.out.trans (G.out.below (by omega) HB.out.size);have ap:=hid af;have az:=hid ah;have aj:=hid ak;have aB:I<wr.heap.size:=(Ai S.out).1;have hF:=QQ (k:= .u32) (fun z=>IntKind.wrap_u32 z) (v:=V) J 8;clear af ah ak ag G HH HR HM HV HB;go_upto_region 7 with(fail)
   apply wp_region_lit
   refine wpList_load_row rfl 284 _ rfl o rfl _ _ _ _ ap.out Tryz.underlying284 rfl (by rw[qg,J.1];kernel_rfl) ?_;refine wpList_load_row rfl 298 _ rfl I rfl _ _ _ _ S.out Tryz.underlying298 rfl (by rw[qg,hV.1];kernel_rfl) ?_;simp only[Act.put,Ls];go_wp2_with fail
   refine(qhF h V J hV _).mono ?_;rintro e6 w6 ⟨rfl,ac⟩
   have ad:=(ac.block (o+1+1) (by omega)).trans az.out;have ay:=hid (aj.out.trans (ac.mono aj.out.size));clear ac;go_wp2_with ((with_reducible show wpList _ _ _ (Oper.mk none (Op.store 284 _ _) _ _ _ _::_) _ _);refine wpList_store_row rfl 284 _ _ rfl (o+1+1) (qj .u32 (YW .u32 h V 8)) rfl rfl 284 _ ad (by rw[qg,hF.1];kernel_rfl) (by rw[qg,hF.1];rfl) qy ?_)
   exact Bp (results_cell_row rfl _ _ _ _ _ _ _ rfl (setRow_heap _ _ _ _ _ _ ad) Tryz.underlying284 rfl (by rw[qg,hF.1];kernel_rfl)) rfl ⟨av.out,below_setRow (ay.out.mono (by omega)) (by omega) _⟩
theorem qcS (i:Nat)(hi:i<8)(w:World):Calls Tryz.prog 220 #[.int .i64 i] w fun e w'=>e= .returned (.int .u64 (wd IVb i))∧Below w.heap.size w w':=by
 rcases(show i=0∨i=1∨i=2∨i=3∨i=4∨i=5∨i=6∨i=7 by omega)with rfl|rfl|rfl|rfl|rfl|rfl|rfl|rfl
 ·go_enter Tryz.func220,Tryz.ntmps220
  go_wp2
  go_ret
  exact⟨rfl,Br.alloc Nl _⟩
 ·go_enter Tryz.func220,Tryz.ntmps220
  go_wp2
  go_ret
  exact⟨rfl,Br.alloc Nl _⟩
 ·go_enter Tryz.func220,Tryz.ntmps220
  go_wp2
  go_ret
  exact⟨rfl,Br.alloc Nl _⟩
 ·go_enter Tryz.func220,Tryz.ntmps220
  go_wp2
  go_ret
  exact⟨rfl,Br.alloc Nl _⟩
 ·go_enter Tryz.func220,Tryz.ntmps220
  go_wp2
  go_ret
  exact⟨rfl,Br.alloc Nl _⟩
 ·go_enter Tryz.func220,Tryz.ntmps220
  go_wp2
  go_ret
  exact⟨rfl,Br.alloc Nl _⟩
 ·go_enter Tryz.func220,Tryz.ntmps220
  go_wp2
  go_ret
  exact⟨rfl,Br.alloc Nl _⟩
 ·go_enter Tryz.func220,Tryz.ntmps220
  go_wp2
  go_ret
  exact⟨rfl,Br.alloc Nl _⟩
theorem qir (a:Nat)(o:a<16)(w:World):Calls Tryz.prog 232 #[.int .i64 a] w fun e w'=>e= .returned (.bool true)∧w'=w:=by
 have q:(0:Int)≤a:=by omega
 have r:(a:Int)≤15:=by omega
 go_enter Tryz.func232,Tryz.ntmps232
 go_wp2
 go_ret
 exact⟨rfl,rfl⟩
def qgo (n:Nat):Nat:=if n<10 then 48+n else 87+n
theorem qiQ (n:Nat)(q:n<16)(w:World):Calls Tryz.prog 234 #[.int .u8 (qgo n)] w fun e w'=>e= .returned (.int .i64 n)∧w'=w:=by
 by_cases h:n<10
 ·have o:=hid (YQ (k:= .i64) (show 48+(n:Int) - 48=n by omega));rw[show qgo n=48+n by unfold qgo;rw[if_pos h]];go_enter Tryz.func234,Tryz.ntmps234
  go_wp2
  go_ret
  exact⟨o.out,rfl⟩
 ·have o:=hid (YQ (k:= .i64) (show 87+(n:Int) - 97+10=n by omega));rw[show qgo n=87+n by unfold qgo;rw[if_neg h]];go_enter Tryz.func234,Tryz.ntmps234
  go_wp2
  go_ret
  exact⟨o.out,rfl⟩
def okTab (s:ByteArray):Bool:=(List.range 160).all fun k=>match s.data[k]? with|some b=>b.toNat==qgo (sigT.flatten.getD k 0)|none=>false
theorem qiR (s:ByteArray)(r p i:Nat)(O:p<10)(hi:i<16)(q:r%10=p)(h:16*p+i<s.size)(I:okTab s=true)(w:World):
  Calls Tryz.prog 234 #[.int .u8 ((s[16*p+i]'h).toNat:Nat)] w fun e w'=>e= .returned (.int .i64 (qu r i))∧w'=w:=by
 have o:=List.all_eq_true.1 I (16*p+i) (List.mem_range.2 (by omega));have J:s.data[16*p+i]? =some (s[16*p+i]'h):=Array.getElem?_eq_getElem h;rw[J]at o;have D: ∀p<10,∀i<16,sigT.flatten.getD (16*p+i) 0=(sigT.getD p []).getD i 0:=by decide+kernel
 have G:(s[16*p+i]'h).toNat=qgo (qu r i):=by
  have:=beq_iff_eq.1 o
  rw[this,D p O i hi];unfold qu;rw[q]
 rw[G];exact qiQ _ (qW r i) w
theorem qaR (r i:Nat)(I:r<12)(hi:i<16)(w:World):Calls Tryz.prog 224 #[.int .i64 r,.int .i64 i] w fun e w'=>e= .returned (.int .i64 (qu r i))∧w'=w:=by
 have D:=hid (Zy r 10 w (by decide));have o:=Nat.mod_lt r (show 0<10 by decide);go_enter Tryz.func224,Tryz.ntmps224
 go_wp2_with fail
 refine D.out.mono ?_;rintro S w1 ⟨rfl,rfl⟩;obtain⟨p,q⟩:=Ex (r%10);rw[q]at o⊢;have G:=hid q;clear q D;go_wp2_with fail
 refine(qiR _ r p i o hi G.out _ (by kernel_rfl) _).mono ?_;rintro O J ⟨rfl,rfl⟩;go_wp2
 go_ret
 exact⟨rfl,rfl⟩
theorem qhl (i j:Nat)(hi:i<8)(o:j<4):zS[i*4+j]? =some (.int .i64 ((Y2 i).getD j 0:Nat)):=by
 have h: ∀i<8,∀j<4,((List.range 8).flatMap Y2)[i*4+j]? =some ((Y2 i).getD j 0):=by decide+kernel
 unfold zS yN;rw[List.getElem?_toArray,List.getElem?_map,h i hi j o];rfl
theorem qdC (i:Nat)(hi:i<8)(w:World):Calls Tryz.prog 222 #[.int .i64 i] w fun e w'=>e= .returned (.agg #[.int .i64 (plA i),.int .i64 (plB i),.int .i64 (plC i),.int .i64 (plD i)])∧Below w.heap.size w w':=by
 obtain⟨o,G⟩:=Ex w.heap.size;go_enter Tryz.func222,Tryz.ntmps222
 go_upto_region 1 with(fail)
 apply wp_region_lit
 refine wpList_buildTo rfl 330 _ rfl (some 4) rfl (yN (Y2 0)) (by kernel_rfl) ?_;simp only[Act.put,Ls];refine wpList_buildTo rfl 330 _ rfl (some 5) rfl (yN (Y2 1)) (by kernel_rfl) ?_;simp only[Act.put,Ls];refine wpList_buildTo rfl 330 _ rfl (some 6) rfl (yN (Y2 2)) (by kernel_rfl) ?_;simp only[Act.put,Ls];refine wpList_buildTo rfl 330 _ rfl (some 7) rfl (yN (Y2 3)) (by kernel_rfl) ?_;simp only[Act.put,Ls];refine wpList_buildTo rfl 330 _ rfl (some 8) rfl (yN (Y2 4)) (by kernel_rfl) ?_;simp only[Act.put,Ls];refine wpList_buildTo rfl 330 _ rfl (some 9) rfl (yN (Y2 5)) (by kernel_rfl) ?_;simp only[Act.put,Ls];refine wpList_buildTo rfl 330 _ rfl (some 10) rfl (yN (Y2 6)) (by kernel_rfl) ?_;simp only[Act.put,Ls];refine wpList_buildTo rfl 330 _ rfl (some 11) rfl (yN (Y2 7)) (by kernel_rfl) ?_;simp only[Act.put,Ls];refine wpList_buildTo rfl 339 _ rfl (some 12) rfl zS (by kernel_rfl) ?_;simp only[Act.put,Ls];refine wpList_plain rfl fun _ J=>?_
 go_simp
 refine J _ _ ?_;clear J;refine wpList_store_row rfl 339 _ _ rfl (o+1) zS rfl rfl 339 _ (qe _ _ (by simp;omega)) (by kernel_rfl) (by kernel_rfl) (by kernel_rfl) ?_;simp only[Act.put,Ls];go_upto_region 2 with(fail)
 refine qm ?_;intro W r;have O:W.heap[o+1]? =some (.cells zS 339 (0,0)):=by
  rw[r];exact setRow_heap _ _ _ _ _ _ (qe _ _ (by simp;omega))
 have D:W.heap[o]? =some (.cells #[.int .i64 0,.int .i64 0,.int .i64 0,.int .i64 0] 330 (0,0)):=by
  rw[r];exact(setRow_other _ _ _ _ (by omega)).trans ((Bh _ _ _ (by simp;omega)).trans (qe _ _ G.symm))
 have U:Below w.heap.size w W:=by
  rw[r];exact below_setRow (((Below.refl w.heap.size w).alloc Nl _).alloc (by simp) _) (by omega) _
 clear r;have q:=fun j V=>(qq O (i*4+j)).trans (qhl i j hi V)
 have Y:W.cell? ⟨o+1,i*4,none⟩=some (.int .i64 (plA i)):=q 0 (by decide);have c1:W.cell? ⟨o+1,i*4+1,none⟩=some (.int .i64 (plB i)):=q 1 (by decide);have c2:W.cell? ⟨o+1,i*4+2,none⟩=some (.int .i64 (plC i)):=q 2 (by decide);have Z:W.cell? ⟨o+1,i*4+3,none⟩=some (.int .i64 (plD i)):=q 3 (by decide);have hE:((i:Nat):Int).tmod 8=(i:Int):=by rw[Int.tmod_eq_emod_of_nonneg (by omega)];omega
 have S:(i:Int)<8:=by omega
 have X:=hid D;obtain⟨cR,fR⟩:=qR D;clear O q D;go_wp2_with fail
 have I:=block_setCell (i:=3) (block_setCell (i:=2) (block_setCell (i:=1) (block_setCell (i:=0) X.out (.int .i64 (plA i))) (.int .i64 (plB i))) (.int .i64 (plC i))) (.int .i64 (plD i));exact Bp (results_cell_row rfl _ _ _ _ _ _ _ rfl I Tryz.underlying330 rfl rfl) rfl ⟨rfl,(((U.setCell (by simp;omega) _).setCell (by simp;omega) _).setCell (by simp;omega) _).setCell (by simp;omega) _ |>.mono (by omega)⟩
theorem qH {P:Program}{fn:Func}{p u:Tmp}{o:TypeId}(h:fn.results= #[.cell p o,.tmp u])(tmps:Array Value)(w:World)(g:Nat)(t:TypeId)(cs:Array Value)(fr:Nat×Nat)(d:TypeDesc)
  (r:tmps.getD p undef= .pointer (some ⟨g,0,none⟩)) (D:w.heap[g]? =some (.cells cs t fr))
  (G:P.underlying o=some d) (q:(match d with| .struct _| .array _ _=>true|_=>false)=true) (hi:(P.info? o).map (·.size)=some cs.size):
  (results fn tmps).run P w= .ok (.tuple #[.agg cs,tmps.getD u undef]) w:=by
 rw[results_cell_tmp h,r];simp[asAddr,run_loadVar_row w g t o cs fr d D G q hi]
theorem qjY (L:List Int)(hL:Words 64 16 L)(D q I G:Nat)(ha:D<16)(hb:q<16)(hc:I<16)(hd:G<16)(ah:D≠q)(af:D≠I)(ai:D≠G)(ae:q≠I)(ag:q≠G)(ad:I≠G)
  (x y:Int) (w:World):
  Calls Tryz.prog 223 #[.agg (qj .u64 L),.int .i64 D,.int .i64 q,.int .i64 I,.int .i64 G,.int .u64 x,.int .u64 y] w fun e w'=>e= .returned (.tuple #[.agg (qj .u64 (mixBig.step L D q I G x y)),.int .i64 0])∧Below w.heap.size w w':=by
 obtain⟨b0,az⟩:=Ex w.heap.size;have hm: ∀z,IntKind.u64.wrap z=z%2^64:=fun z=>IntKind.wrap_u64 z
 obtain⟨A1,av⟩:=Ex (IntKind.u64.wrap (IntKind.u64.wrap (wd L D+wd L q)+x));obtain⟨X1,am⟩:=Ex (bits BinOp.xor .u64 (wd L G) A1);obtain⟨D1,ap⟩:=Ex (yh 64 32 X1);obtain⟨C1,aw⟩:=Ex (IntKind.u64.wrap (wd L I+D1));obtain⟨X2,al⟩:=Ex (bits BinOp.xor .u64 (wd L q) C1);obtain⟨B1,an⟩:=Ex (yh 64 24 X2);obtain⟨A2,aC⟩:=Ex (IntKind.u64.wrap (IntKind.u64.wrap (A1+B1)+y));obtain⟨X3,au⟩:=Ex (bits BinOp.xor .u64 D1 A2);obtain⟨D2,ak⟩:=Ex (yh 64 16 X3);obtain⟨C2,aB⟩:=Ex (IntKind.u64.wrap (C1+D2));obtain⟨X4,ax⟩:=Ex (bits BinOp.xor .u64 B1 C2);obtain⟨B2,ao⟩:=Ex (yh 64 63 X4);have R1:=hid (fun w=>qg6 X1 w (am▸Qd .xor .u64 64 hm _ _));have R2:=hid (fun w=>qg7 X2 w (al▸Qd .xor .u64 64 hm _ _));have R3:=hid (fun w=>qg8 X3 w (au▸Qd .xor .u64 64 hm _ _));have R4:=hid (fun w=>qg5 X4 w (ax▸Qd .xor .u64 64 hm _ _));have ES:mixBig.step L D q I G x y=(((L.set D A2).set G D2).set I C2).set q B2:=by
  have e1:A1=mixBig.a1 (wd L D) (wd L q) x:=by rw[←av];exact qjQ 64 .u64 hm _ _ _
  have e2:D1=mixBig.d1 (wd L D) (wd L q) (wd L G) x:=by rw[←ap,←am,e1];rfl
  have e3:C1=mixBig.c1 (wd L D) (wd L q) (wd L I) (wd L G) x:=by rw[←aw,e2];exact hm _
  have e4:B1=mixBig.b1 (wd L D) (wd L q) (wd L I) (wd L G) x:=by rw[←an,←al,e3];rfl
  have e5:A2=mixBig.a2 (wd L D) (wd L q) (wd L I) (wd L G) x y:=by rw[←aC,e1,e4];exact qjQ 64 .u64 hm _ _ _
  have e6:D2=mixBig.d2 (wd L D) (wd L q) (wd L I) (wd L G) x y:=by rw[←ak,←au,e2,e5];rfl
  have e7:C2=mixBig.c2 (wd L D) (wd L q) (wd L I) (wd L G) x y:=by rw[←aB,e3,e6];exact hm _
  have e8:B2=mixBig.b2 (wd L D) (wd L q) (wd L I) (wd L G) x y:=by rw[←ao,←ax,e4,e7];rfl
  rw[e5,e6,e7,e8];rfl
 have aA:=hid (show Ending.returned (.tuple #[.agg (qj .u64 ((((L.set D A2).set G D2).set I C2).set q B2)),.int .i64 0])= .returned (.tuple #[.agg (qj .u64 (mixBig.step L D q I G x y)),.int .i64 0]) by rw[ES]);rw[ap]at R1;rw[an]at R2;rw[ak]at R3;rw[ao]at R4;clear ap an ak ao ES hm;obtain⟨va,aa⟩:=Ex (wd L D);obtain⟨vb,Z⟩:=Ex (wd L q);obtain⟨vc,ab⟩:=Ex (wd L I);obtain⟨vd,ac⟩:=Ex (wd L G);rw[aa,Z]at av;rw[ac]at am;rw[ab]at aw;rw[Z]at al;have ar:=hid (And.intro aa (And.intro Z (And.intro ab ac)));clear aa Z ab ac;have HN:=hid (And.intro ah (And.intro af (And.intro ai (And.intro ae (And.intro ag ad)))));have n0:((D:Int)==(q:Int))=false:=by rw[beq_eq_false_iff_ne];omega
 have n1:((D:Int)==(I:Int))=false:=by rw[beq_eq_false_iff_ne];omega
 have n2:((D:Int)==(G:Int))=false:=by rw[beq_eq_false_iff_ne];omega
 have n3:((q:Int)==(I:Int))=false:=by rw[beq_eq_false_iff_ne];omega
 have n4:((q:Int)==(G:Int))=false:=by rw[beq_eq_false_iff_ne];omega
 have n5:((I:Int)==(G:Int))=false:=by rw[beq_eq_false_iff_ne];omega
 go_enter Tryz.func223,Tryz.ntmps223
 clear ah af ai ae ag ad;iterate 4
  go_wp2_with fail
  refine(qir _ (by assumption) _).mono ?_;rintro r w1 ⟨rfl,rfl⟩
 go_wp2_with fail
 obtain⟨ah,af,ai,ae,ag,ad⟩:=HN.out;refine qm ?_;intro W o;have hv:W.heap[b0]? =some (.cells (qj .u64 L) 252 (0,0)):=by
  rw[o];exact(Bh _ _ _ (by simp;omega)).trans (qe _ _ az.symm)
 have hr:W.heap[b0+1]? =some (.cells Ka 252 (0,0)):=by
  rw[o];exact qe _ _ (by simp;omega)
 have hB:Below w.heap.size w W:=by
  rw[o];exact((Below.refl w.heap.size w).alloc Nl _).alloc (by simp) _
 clear o;obtain⟨aa,Z,ab,ac⟩:=ar.out;have h0:At4 .u64 b0 252 D q I G W L va vb vc vd W:=⟨hv,hL.1,aa,Z,ab,ac,⟨ha,hb,hc,hd⟩,⟨ah,af,ai,ae,ag,ad⟩,But.refl _ _⟩;have HR:=hid hr;have HB:=hid hB;clear hv hr hB aa Z ab ac ar;refine qm ?_;intro W0 o;have H0:=hid (h0.letter o);obtain⟨O,Y,X,U,S,V⟩:=H0.out.facts;clear o h0;refine qk (by dsimp only[List.dropLast]) (by rfl) (by rfl) (by kernel_rfl) (by kernel_rfl) (by kernel_rfl) (by kernel_rfl) ?_;repeat(go_big_quiet_step (fail))
 refine wpQuiet_nil ?_;intro _ J;obtain⟨n0,rfl⟩:=J;go_wp2_with fail
 clear O Y X U S V;have h1:=H0.out.setA n0 A1;clear H0;refine qm ?_;intro W1 o;have H1:=hid (h1.letter o);obtain⟨O,Y,X,U,S,V⟩:=H1.out.facts;clear o h1;refine qk (by dsimp only[List.dropLast]) (by rfl) (by rfl) (by kernel_rfl) (by kernel_rfl) (by kernel_rfl) (by kernel_rfl) ?_;repeat(go_big_quiet_step (exact Calls.quiet_of (R1.out _)))
 refine wpQuiet_nil ?_;intro _ J;obtain⟨n1,rfl⟩:=J;go_wp2_with fail
 clear O Y X U S V;have h2:=H1.out.setD n1 D1;clear H1;refine qm ?_;intro W2 o;have H2:=hid (h2.letter o);obtain⟨O,Y,X,U,S,V⟩:=H2.out.facts;clear o h2;refine qk (by dsimp only[List.dropLast]) (by rfl) (by rfl) (by kernel_rfl) (by kernel_rfl) (by kernel_rfl) (by kernel_rfl) ?_;repeat(go_big_quiet_step (fail))
 refine wpQuiet_nil ?_;intro _ J;obtain⟨n2,rfl⟩:=J;go_wp2_with fail
 clear O Y X U S V;have h3:=H2.out.setC n2 C1;clear H2;refine qm ?_;intro W3 o;have H3:=hid (h3.letter o);obtain⟨O,Y,X,U,S,V⟩:=H3.out.facts;clear o h3;refine qk (by dsimp only[List.dropLast]) (by rfl) (by rfl) (by kernel_rfl) (by kernel_rfl) (by kernel_rfl) (by kernel_rfl) ?_;repeat(go_big_quiet_step (exact Calls.quiet_of (R2.out _)))
 refine wpQuiet_nil ?_;intro _ J;obtain⟨n3,rfl⟩:=J;go_wp2_with fail
 clear O Y X U S V;have h4:=H3.out.setB n3 B1;clear H3;refine qm ?_;intro W4 o;have H4:=hid (h4.letter o);obtain⟨O,Y,X,U,S,V⟩:=H4.out.facts;clear o h4;refine qk (by dsimp only[List.dropLast]) (by rfl) (by rfl) (by kernel_rfl) (by kernel_rfl) (by kernel_rfl) (by kernel_rfl) ?_;repeat(go_big_quiet_step (fail))
 refine wpQuiet_nil ?_;intro _ J;obtain⟨n4,rfl⟩:=J;go_wp2_with fail
 clear O Y X U S V;have h5:=H4.out.setA n4 A2;clear H4;refine qm ?_;intro W5 o;have H5:=hid (h5.letter o);obtain⟨O,Y,X,U,S,V⟩:=H5.out.facts;clear o h5;refine qk (by dsimp only[List.dropLast]) (by rfl) (by rfl) (by kernel_rfl) (by kernel_rfl) (by kernel_rfl) (by kernel_rfl) ?_;repeat(go_big_quiet_step (exact Calls.quiet_of (R3.out _)))
 refine wpQuiet_nil ?_;intro _ J;obtain⟨n5,rfl⟩:=J;go_wp2_with fail
 clear O Y X U S V;have h6:=H5.out.setD n5 D2;clear H5;refine qm ?_;intro W6 o;have H6:=hid (h6.letter o);obtain⟨O,Y,X,U,S,V⟩:=H6.out.facts;clear o h6;refine qk (by dsimp only[List.dropLast]) (by rfl) (by rfl) (by kernel_rfl) (by kernel_rfl) (by kernel_rfl) (by kernel_rfl) ?_;repeat(go_big_quiet_step (fail))
 refine wpQuiet_nil ?_;intro _ J;obtain⟨n6,rfl⟩:=J;go_wp2_with fail
 clear O Y X U S V;have h7:=H6.out.setC n6 C2;clear H6;refine qm ?_;intro W7 o;have H7:=hid (h7.letter o);obtain⟨O,Y,X,U,S,V⟩:=H7.out.facts;clear o h7;refine qk (by dsimp only[List.dropLast]) (by rfl) (by rfl) (by kernel_rfl) (by kernel_rfl) (by kernel_rfl) (by kernel_rfl) ?_;repeat(go_big_quiet_step (exact Calls.quiet_of (R4.out _)))
 refine wpQuiet_nil ?_;intro _ J;obtain⟨n7,rfl⟩:=J;go_upto_region 11 with(fail)
 clear O Y X U S V;have h8:=H7.out.setB n7 B2;clear H7;have aj:((((L.set D A2).set G D2).set I C2).set q B2).length=16:=by simpa using hL.1
 have ay:=(h8.but.block (b0+1) (Ai HR.out).1 (by omega)).trans HR.out;have aq:=h8.heap;have aD:=hid (HB.out.trans (h8.but.below (by omega) HB.out.size));rw[qjn ah af ai ae ag ad]at aq;generalize (((L.set D A2).set G D2).set I C2).set q B2=L8 at*;clear h8;apply wp_region_lit
 refine wpList_load_row rfl 252 _ rfl b0 rfl _ _ _ _ aq Tryz.underlying252 rfl (by rw[qg,aj];kernel_rfl) ?_;refine wpList_store_row rfl 252 _ _ rfl (b0+1) (qj .u64 L8) rfl rfl 252 _ ay (by rw[qg,aj];kernel_rfl) (by rw[qg,aj];rfl) qy ?_;simp only[Act.put,Ls];go_wp2_with fail
 exact Bp (qH rfl _ _ _ _ _ _ _ rfl (setRow_heap _ _ _ _ _ _ ay) Tryz.underlying252 rfl (by rw[qg,aj];kernel_rfl)) rfl ⟨Eq.trans (b:= .returned (.tuple #[.agg (qj .u64 L8),.int .i64 0])) rfl aA.out,below_setRow (aD.out.mono (by omega)) (by omega) _⟩
def n4 (a b c d:Nat)(i:Nat):Nat:=match i with|0=>a|1=>b|2=>c|_=>d
theorem qfW (o D q r:Nat)(ha:o<16)(hb:D<16)(hc:q<16)(hd:r<16)(V:o≠D)(Z:o≠q)(Y:o≠r)(X:D≠q)(O:D≠r)(U:q≠r)(w:World):
  Calls Tryz.prog 236 #[.int .i64 o,.int .i64 D,.int .i64 q,.int .i64 r] w fun e w'=>e= .returned (.bool true)∧Below w.heap.size w w':=by
 have G: ∀i,i<4→n4 o D q r i<16:=fun i hi=>by
  match i,hi with
  | 0,_=>exact ha
  | 1,_=>exact hb
  | 2,_=>exact hc
  | 3,_=>exact hd
 have S: ∀i j,i<4→j<i→n4 o D q r i≠n4 o D q r j:=fun i j hi hj=>by
  match i,j,hi,hj with
  | 1,0,_,_=>exact Ne.symm V
  | 2,0,_,_=>exact Ne.symm Z
  | 2,1,_,_=>exact Ne.symm X
  | 3,0,_,_=>exact Ne.symm Y
  | 3,1,_,_=>exact Ne.symm O
  | 3,2,_,_=>exact Ne.symm U
 have ad:=hid G;have aa:=hid S;clear ha hb hc hd V Z Y X O U G S;obtain⟨b0,ab⟩:=Ex w.heap.size;go_enter Tryz.func236,Tryz.ntmps236
 go_wp2_with fail
 refine qm ?_;intro W hW;have hl:W.heap[b0]? =some (.cells #[.int .i64 o,.int .i64 D,.int .i64 q,.int .i64 r] 3 (0,0)):=by
  rw[hW];exact qe _ _ ab.symm
 have hB:Below w.heap.size w W:=by rw[hW];exact Br.alloc Nl _
 have I: ∀i,i<4→W.cell? ⟨b0,i,none⟩=some (.int .i64 (n4 o D q r i)):=fun i hi=>by
  rw[qq hl];match i,hi with
  | 0,_=>rfl
  | 1,_=>rfl
  | 2,_=>rfl
  | 3,_=>rfl
 have HC:=hid I;clear hW hl I;go_loopw [10] (fun i wr=> ∃j m:Nat,i= .int .i64 j∧j≤4∧wr=W.drewN m) (fun i _=>4 - (intOf i).toNat)
 case atStart=>exact⟨0,0,rfl,Nat.zero_le _,rfl⟩
 case round=>
  obtain⟨j,m,rfl,hj,rfl⟩:=hrel;by_cases G:j<4
  ·have c1:=HC.out j G;have l1:=ad.out j G;have HN:=hid (fun k hk=>aa.out j k G hk);have ac:=hid (fun k (hk:k<j)=>HC.out k (by omega));generalize n4 o D q r j=x at*;have q1: ¬((x:Int)<0):=by omega
   have q2: ¬(15<(x:Int)):=by omega
   go_wp2_with fail
   go_loopw [11] (fun i wr=> ∃k m:Nat,i= .int .i64 k∧k≤j∧wr=W.drewN m) (fun i _=>j - (intOf i).toNat)
   case atStart=>exact⟨0,m,rfl,Nat.zero_le _,rfl⟩
   case round=>
    obtain⟨k,m2,rfl,hk,rfl⟩:=hrel;by_cases J:k<j
    ·have c2:=ac.out k J;have n2:=HN.out k J;generalize n4 o D q r k=y at*;have n3:((x:Int)==(y:Int))=false:=by rw[beq_eq_false_iff_ne];omega
     have q3:k<4:=by omega
     clear n2;go_wp2_with fail
     go_quiet (fail)
     go_wp2
     exact⟨⟨k+1,_,rfl,by omega,rfl⟩,by simp[intOf];omega⟩
    ·obtain rfl:k=j:=by omega
     go_wp2
     exact⟨⟨k+1,m2,rfl,by omega,rfl⟩,by simp[intOf];omega⟩
  ·obtain rfl:j=4:=by omega
   go_wp2
   go_ret
   exact⟨rfl,hB.trans (QU _)⟩
theorem yp {fn:Func}{t u v x:Tmp}(h:fn.results= #[.tmp t,.tmp u,.tmp v,.tmp x])(tmps:Array Value)(P:Program)(w:World):
  (results fn tmps).run P w= .ok (.tuple #[tmps.getD t undef,tmps.getD u undef,tmps.getD v undef,tmps.getD x undef]) w:=by
 simp[results,h]
theorem qjG (i:Nat)(hi:i<8)(w:World):Calls Tryz.prog 225 #[.int .i64 i] w fun e w'=>e= .returned (.tuple #[.int .i64 (plA i),.int .i64 (plB i),.int .i64 (plC i),.int .i64 (plD i)])∧w'=w:=by
 rcases(show i=0∨i=1∨i=2∨i=3∨i=4∨i=5∨i=6∨i=7 by omega)with rfl|rfl|rfl|rfl|rfl|rfl|rfl|rfl
 ·go_enter Tryz.func225,Tryz.ntmps225
  go_wp2
  exact Bp (yp rfl _ _ _) rfl ⟨rfl,rfl⟩
 ·go_enter Tryz.func225,Tryz.ntmps225
  go_wp2
  exact Bp (yp rfl _ _ _) rfl ⟨rfl,rfl⟩
 ·go_enter Tryz.func225,Tryz.ntmps225
  go_wp2
  exact Bp (yp rfl _ _ _) rfl ⟨rfl,rfl⟩
 ·go_enter Tryz.func225,Tryz.ntmps225
  go_wp2
  exact Bp (yp rfl _ _ _) rfl ⟨rfl,rfl⟩
 ·go_enter Tryz.func225,Tryz.ntmps225
  go_wp2
  exact Bp (yp rfl _ _ _) rfl ⟨rfl,rfl⟩
 ·go_enter Tryz.func225,Tryz.ntmps225
  go_wp2
  exact Bp (yp rfl _ _ _) rfl ⟨rfl,rfl⟩
 ·go_enter Tryz.func225,Tryz.ntmps225
  go_wp2
  exact Bp (yp rfl _ _ _) rfl ⟨rfl,rfl⟩
 ·go_enter Tryz.func225,Tryz.ntmps225
  go_wp2
  exact Bp (yp rfl _ _ _) rfl ⟨rfl,rfl⟩
theorem qjZ (L:List Int)(hL:Words 32 16 L)(D q J I:Nat)(ha:D<16)(hb:q<16)(hc:J<16)(hd:I<16)(af:D≠q)(ad:D≠J)(ai:D≠I)(ab:q≠J)(ae:q≠I)(aa:J≠I)
  (x y:Int) (w:World):
  Calls Tryz.prog 226 #[.agg (qj .u32 L),.int .i64 D,.int .i64 q,.int .i64 J,.int .i64 I,.int .u32 x,.int .u32 y] w fun e w'=>e= .returned (.tuple #[.agg (qj .u32 (mixSmall.step L D q J I x y)),.int .i64 0])∧Below w.heap.size w w':=by
 obtain⟨b0,aA⟩:=Ex w.heap.size;have hm: ∀z,IntKind.u32.wrap z=z%2^32:=fun z=>IntKind.wrap_u32 z
 obtain⟨A1,aw⟩:=Ex ((wd L D+wd L q+x)%4294967296);obtain⟨X1,an⟩:=Ex (bits BinOp.xor .u32 (wd L I) A1);obtain⟨D1,aq⟩:=Ex (yh 32 16 X1);obtain⟨C1,ax⟩:=Ex ((wd L J+D1)%4294967296);obtain⟨X2,am⟩:=Ex (bits BinOp.xor .u32 (wd L q) C1);obtain⟨B1,ao⟩:=Ex (yh 32 12 X2);obtain⟨A2,aD⟩:=Ex ((A1+B1+y)%4294967296);obtain⟨X3,av⟩:=Ex (bits BinOp.xor .u32 D1 A2);obtain⟨D2,al⟩:=Ex (yh 32 8 X3);obtain⟨C2,aC⟩:=Ex ((C1+D2)%4294967296);obtain⟨X4,ay⟩:=Ex (bits BinOp.xor .u32 B1 C2);obtain⟨B2,ap⟩:=Ex (yh 32 7 X4);have R1:=hid (fun w=>qg9 X1 w (an▸Qd .xor .u32 32 hm _ _));have R2:=hid (fun w=>qha X2 w (am▸Qd .xor .u32 32 hm _ _));have R3:=hid (fun w=>qhW X3 w (av▸Qd .xor .u32 32 hm _ _));have R4:=hid (fun w=>qhX X4 w (ay▸Qd .xor .u32 32 hm _ _));have ES:mixSmall.step L D q J I x y=(((L.set D A2).set I D2).set J C2).set q B2:=by
  have e1:A1=mixSmall.a1 (wd L D) (wd L q) x:=by rw[←aw];rfl
  have e2:D1=mixSmall.d1 (wd L D) (wd L q) (wd L I) x:=by rw[←aq,←an,e1];rfl
  have e3:C1=mixSmall.c1 (wd L D) (wd L q) (wd L J) (wd L I) x:=by rw[←ax,e2];rfl
  have e4:B1=mixSmall.b1 (wd L D) (wd L q) (wd L J) (wd L I) x:=by rw[←ao,←am,e3];rfl
  have e5:A2=mixSmall.a2 (wd L D) (wd L q) (wd L J) (wd L I) x y:=by rw[←aD,e1,e4];rfl
  have e6:D2=mixSmall.d2 (wd L D) (wd L q) (wd L J) (wd L I) x y:=by rw[←al,←av,e2,e5];rfl
  have e7:C2=mixSmall.c2 (wd L D) (wd L q) (wd L J) (wd L I) x y:=by rw[←aC,e3,e6];rfl
  have e8:B2=mixSmall.b2 (wd L D) (wd L q) (wd L J) (wd L I) x y:=by rw[←ap,←ay,e4,e7];rfl
  rw[e5,e6,e7,e8];rfl
 have aB:=hid (show Ending.returned (.tuple #[.agg (qj .u32 ((((L.set D A2).set I D2).set J C2).set q B2)),.int .i64 0])= .returned (.tuple #[.agg (qj .u32 (mixSmall.step L D q J I x y)),.int .i64 0]) by rw[ES]);rw[aq]at R1;rw[ao]at R2;rw[al]at R3;rw[ap]at R4;clear aq ao al ap ES hm;obtain⟨va,ac⟩:=Ex (wd L D);obtain⟨vb,Z⟩:=Ex (wd L q);obtain⟨vc,ag⟩:=Ex (wd L J);obtain⟨vd,ah⟩:=Ex (wd L I);rw[ac,Z]at aw;rw[ah]at an;rw[ag]at ax;rw[Z]at am;have au:=hid (And.intro ac (And.intro Z (And.intro ag ah)));clear ac Z ag ah;have HN:=hid (And.intro af (And.intro ad (And.intro ai (And.intro ab (And.intro ae aa)))));go_enter Tryz.func226,Tryz.ntmps226
 go_wp2_with fail
 refine(qfW D q J I ha hb hc hd af ad ai ab ae aa _).mono ?_;rintro r w1 ⟨rfl,ak⟩;clear af ad ai ab ae aa;go_wp2_with fail
 obtain⟨af,ad,ai,ab,ae,aa⟩:=HN.out;refine qm ?_;intro W o;have hv:W.heap[b0]? =some (.cells (qj .u32 L) 298 (0,0)):=by
  rw[o];exact(ak.block b0 (by simp;omega)).trans ((Bh _ _ _ (by simp;omega)).trans (qe _ _ aA.symm))
 have hr:W.heap[b0+1]? =some (.cells Kd 298 (0,0)):=by
  rw[o];exact(ak.block (b0+1) (by simp;omega)).trans (qe _ _ (by simp;omega))
 have hB:Below w.heap.size w W:=by
  rw[o];exact(((Below.refl w.heap.size w).alloc Nl _).alloc (by simp) _).trans (ak.mono (by simp;omega))
 clear o ak;obtain⟨ac,Z,ag,ah⟩:=au.out;have h0:At4 .u32 b0 298 D q J I W L va vb vc vd W:=⟨hv,hL.1,ac,Z,ag,ah,⟨ha,hb,hc,hd⟩,⟨af,ad,ai,ab,ae,aa⟩,But.refl _ _⟩;have HR:=hid hr;have HB:=hid hB;clear hv hr hB ac Z ag ah au;refine qm ?_;intro W0 o;have H0:=hid (h0.letter o);obtain⟨O,Y,X,U,S,V⟩:=H0.out.facts;clear o h0;refine qk (by dsimp only[List.dropLast]) (by rfl) (by rfl) (by kernel_rfl) (by kernel_rfl) (by kernel_rfl) (by kernel_rfl) ?_;repeat(go_big_quiet_step (fail))
 refine wpQuiet_nil ?_;intro _ G;obtain⟨n0,rfl⟩:=G;go_wp2_with fail
 clear O Y X U S V;have h1:=H0.out.setA n0 A1;clear H0;refine qm ?_;intro W1 o;have H1:=hid (h1.letter o);obtain⟨O,Y,X,U,S,V⟩:=H1.out.facts;clear o h1;refine qk (by dsimp only[List.dropLast]) (by rfl) (by rfl) (by kernel_rfl) (by kernel_rfl) (by kernel_rfl) (by kernel_rfl) ?_;repeat(go_big_quiet_step (exact Calls.quiet_of_same (R1.out _)))
 refine wpQuiet_nil ?_;intro _ G;obtain⟨n1,rfl⟩:=G;go_wp2_with fail
 clear O Y X U S V;have h2:=H1.out.setD n1 D1;clear H1;refine qm ?_;intro W2 o;have H2:=hid (h2.letter o);obtain⟨O,Y,X,U,S,V⟩:=H2.out.facts;clear o h2;refine qk (by dsimp only[List.dropLast]) (by rfl) (by rfl) (by kernel_rfl) (by kernel_rfl) (by kernel_rfl) (by kernel_rfl) ?_;repeat(go_big_quiet_step (fail))
 refine wpQuiet_nil ?_;intro _ G;obtain⟨n2,rfl⟩:=G;go_wp2_with fail
 clear O Y X U S V;have h3:=H2.out.setC n2 C1;clear H2;refine qm ?_;intro W3 o;have H3:=hid (h3.letter o);obtain⟨O,Y,X,U,S,V⟩:=H3.out.facts;clear o h3;refine qk (by dsimp only[List.dropLast]) (by rfl) (by rfl) (by kernel_rfl) (by kernel_rfl) (by kernel_rfl) (by kernel_rfl) ?_;repeat(go_big_quiet_step (exact Calls.quiet_of_same (R2.out _)))
 refine wpQuiet_nil ?_;intro _ G;obtain⟨n3,rfl⟩:=G;go_wp2_with fail
 clear O Y X U S V;have h4:=H3.out.setB n3 B1;clear H3;refine qm ?_;intro W4 o;have H4:=hid (h4.letter o);obtain⟨O,Y,X,U,S,V⟩:=H4.out.facts;clear o h4;refine qk (by dsimp only[List.dropLast]) (by rfl) (by rfl) (by kernel_rfl) (by kernel_rfl) (by kernel_rfl) (by kernel_rfl) ?_;repeat(go_big_quiet_step (fail))
 refine wpQuiet_nil ?_;intro _ G;obtain⟨n4,rfl⟩:=G;go_wp2_with fail
 clear O Y X U S V;have h5:=H4.out.setA n4 A2;clear H4;refine qm ?_;intro W5 o;have H5:=hid (h5.letter o);obtain⟨O,Y,X,U,S,V⟩:=H5.out.facts;clear o h5;refine qk (by dsimp only[List.dropLast]) (by rfl) (by rfl) (by kernel_rfl) (by kernel_rfl) (by kernel_rfl) (by kernel_rfl) ?_;repeat(go_big_quiet_step (exact Calls.quiet_of_same (R3.out _)))
 refine wpQuiet_nil ?_;intro _ G;obtain⟨n5,rfl⟩:=G;go_wp2_with fail
 clear O Y X U S V;have h6:=H5.out.setD n5 D2;clear H5;refine qm ?_;intro W6 o;have H6:=hid (h6.letter o);obtain⟨O,Y,X,U,S,V⟩:=H6.out.facts;clear o h6;refine qk (by dsimp only[List.dropLast]) (by rfl) (by rfl) (by kernel_rfl) (by kernel_rfl) (by kernel_rfl) (by kernel_rfl) ?_;repeat(go_big_quiet_step (fail))
 refine wpQuiet_nil ?_;intro _ G;obtain⟨n6,rfl⟩:=G;go_wp2_with fail
 clear O Y X U S V;have h7:=H6.out.setC n6 C2;clear H6;refine qm ?_;intro W7 o;have H7:=hid (h7.letter o);obtain⟨O,Y,X,U,S,V⟩:=H7.out.facts;clear o h7;refine qk (by dsimp only[List.dropLast]) (by rfl) (by rfl) (by kernel_rfl) (by kernel_rfl) (by kernel_rfl) (by kernel_rfl) ?_;repeat(go_big_quiet_step (exact Calls.quiet_of_same (R4.out _)))
 refine wpQuiet_nil ?_;intro _ G;obtain⟨n7,rfl⟩:=G;go_upto_region 11 with(fail)
 clear O Y X U S V;have h8:=H7.out.setB n7 B2;clear H7;have aj:((((L.set D A2).set I D2).set J C2).set q B2).length=16:=by simpa using hL.1
 have az:=(h8.but.block (b0+1) (Ai HR.out).1 (by omega)).trans HR.out;have ar:=h8.heap;have aE:=hid (HB.out.trans (h8.but.below (by omega) HB.out.size));rw[qjn af ad ai ab ae aa]at ar;generalize (((L.set D A2).set I D2).set J C2).set q B2=L8 at*;clear h8;apply wp_region_lit
 refine wpList_load_row rfl 298 _ rfl b0 rfl _ _ _ _ ar Tryz.underlying298 rfl (by rw[qg,aj];kernel_rfl) ?_;refine wpList_store_row rfl 298 _ _ rfl (b0+1) (qj .u32 L8) rfl rfl 298 _ az (by rw[qg,aj];kernel_rfl) (by rw[qg,aj];rfl) qy ?_;simp only[Act.put,Ls];go_wp2_with fail
 exact Bp (qH rfl _ _ _ _ _ _ _ rfl (setRow_heap _ _ _ _ _ _ az) Tryz.underlying298 rfl (by rw[qg,aj];kernel_rfl)) rfl ⟨Eq.trans (b:= .returned (.tuple #[.agg (qj .u32 L8),.int .i64 0])) rfl aB.out,below_setRow (aE.out.mono (by omega)) (by omega) _⟩
end Go.Proofs.YthjoojnlnlmljaaGreat

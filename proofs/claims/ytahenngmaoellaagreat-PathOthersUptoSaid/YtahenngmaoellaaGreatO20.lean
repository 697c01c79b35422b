/- Lemmas. No condition. -/
import Derived.Test.YtahenngmaoellaaGreatO19
import Derived.Laws.CopyOwn
set_option linter.all false
set_option maxRecDepth 100000
set_option maxHeartbeats 0
namespace Go.Proofs.YtahenngmaoellaaGreat
open Go.ChangeShapes Go.WideShapes Go.ChangeAt Go.RowKit Go.Joins
open Go.Lib (hid)
variable{k:IntKind}{L:List Int}{N:Nat}{fn:Func}{u:Tmp}
attribute [local go_sem] Oper.semAt_some
def IVb:List Int:=[7640891576956012808,13503953896175478587,4354685564936845355,11912009170470909681,5840696475078001361,11170449401992604703,2270897969802886507,6620516959819538809]
def IVs:List Int:=[1779033703,3144134277,1013904242,2773480762,1359893119,2600822924,528734635,1541459225]
theorem QY {B:Nat}{w:World}(n:Nat):Below B w (w.drewN n):=⟨rfl,rfl,rfl,Nat.le_refl _,fun _ _=>rfl⟩
theorem qj6 (g off j:Nat):(⟨g,off,none⟩:Addr).add j=⟨g,off+j,none⟩:=by unfold Addr.add;split<;>simp_all
theorem jU {W:World}{b:Nat}{cs:List Value}{T:TypeId}{fr:Nat×Nat}(h:W.heap[b]? =some (.cells cs.toArray T fr)): ∀j v,cs[j]? =some v->W.cell? ((⟨b,0,none⟩:Addr).add j)=some v:=fun j v o=>by
 rw[qj6,Nat.zero_add,qq h];simpa using o
def Y6 (k:IntKind)(iv:List Int)(h:List Int)(x y:Int)(last node:Bool):List Int:=
 [wd h 0,wd h 1,wd h 2,wd h 3,wd h 4,wd h 5,wd h 6,wd h 7,wd iv 0,wd iv 1,wd iv 2,wd iv 3,bits .xor k (wd iv 4) x,bits .xor k (wd iv 5) y,
  if last then bits .xor k k.max (wd iv 6) else wd iv 6,if node then bits .xor k k.max (wd iv 7) else wd iv 7]
theorem qhe (w:World):Calls Tryz.prog 202 #[] w fun e w'=>e= .returned (.agg #[.int .u64 7640891576956012808,.int .u64 13503953896175478587,.int .u64 4354685564936845355,.int .u64 11912009170470909681,.int .u64 5840696475078001361,.int .u64 11170449401992604703,.int .u64 2270897969802886507,.int .u64 6620516959819538809])/\Below w.heap.size w w':=by
 go_enter Tryz.func202,Tryz.ntmps202
 go_wp2
 exact Bp (results_cell_row rfl _ _ _ _ _ _ _ rfl (Wn _ _) Tryz.underlying278 rfl rfl) rfl ⟨rfl,Br.alloc Nl _⟩
theorem qhd (w:World):Calls Tryz.prog 207 #[] w fun e w'=>e= .returned (.agg Ki)/\Below w.heap.size w w':=by
 go_enter Tryz.func207,Tryz.ntmps207
 go_wp2
 exact Bp (results_cell_row rfl _ _ _ _ _ _ _ rfl (Wn _ _) Tryz.underlying288 rfl rfl) rfl ⟨rfl,Br.alloc Nl _⟩
theorem qgx (h:List Int)(lo hi:Int)(V node:Bool)(w:World):Calls Tryz.prog 219 #[.agg #[.int .u64 (wd h 0),.int .u64 (wd h 1),.int .u64 (wd h 2),.int .u64 (wd h 3),.int .u64 (wd h 4),.int .u64 (wd h 5),.int .u64 (wd h 6),.int .u64 (wd h 7)],.agg #[.int .u64 lo,.int .u64 hi],.bool V,.bool node] w fun e w'=>e= .returned (.agg (qj .u64 (Y6 .u64 IVb h lo hi V node)))/\Below w.heap.size w w':=by
 obtain⟨q,al⟩:=Ex w.heap.size;go_enter Tryz.func219,Tryz.ntmps219
 go_wp2_with fail
 refine qm ?_;intro W o;have hh:W.heap[q]? =some (.cells #[.int .u64 (wd h 0),.int .u64 (wd h 1),.int .u64 (wd h 2),.int .u64 (wd h 3),.int .u64 (wd h 4),.int .u64 (wd h 5),.int .u64 (wd h 6),.int .u64 (wd h 7)] 278 (0,0)):=by
  rw[o];exact(Bh _ _ _ (by simp;omega)).trans ((Bh _ _ _ (by simp;omega)).trans ((Bh _ _ _ (by simp;omega)).trans (qe _ _ al.symm)))
 have hc:W.heap[q+1]? =some (.cells #[.int .u64 lo,.int .u64 hi] 285 (0,0)):=by
  rw[o];exact(Bh _ _ _ (by simp;omega)).trans ((Bh _ _ _ (by simp;omega)).trans (qe _ _ (by simp;omega)))
 have hr:W.heap[q+1+1]? =some (.cells Ka 257 (0,0)):=by
  rw[o];exact(Bh _ _ _ (by simp;omega)).trans (qe _ _ (by simp;omega))
 have hv:W.heap[q+1+1+1]? =some (.cells Ka 257 (0,0)):=by
  rw[o];exact qe _ _ (by simp;omega)
 have hB:Below w.heap.size w W:=by
  rw[o];exact(((Br.alloc Nl _).alloc (by simp) _).alloc (by simp;omega) _).alloc (by simp;omega) _
 have hs:W.heap.size=q+4:=by rw[o];simp;omega
 clear o;refine qk (by dsimp only[List.dropLast]) (by rfl) (by rfl) (by kernel_rfl) (by kernel_rfl) (by kernel_rfl) (by kernel_rfl) ?_;repeat(go_big_quiet_step (fail))
 refine wpQuiet_nil ?_;intro _ ab;obtain⟨n1,rfl⟩:=ab;refine wpList_copy_own rfl _ _ _ _ rfl 44 Tryz.underlying109 rfl (q+1+1+1) 0 8 16 ⟨q,0,none⟩ 8 8 rfl rfl Ka 257 hv [.int .u64 (wd h 0),.int .u64 (wd h 1),.int .u64 (wd h 2),.int .u64 (wd h 3),.int .u64 (wd h 4),.int .u64 (wd h 5),.int .u64 (wd h 6),.int .u64 (wd h 7)] rfl
  (jU (W:=W.drewN n1) hh) (by simp) (by simp[Value.oneCell']) ?_
 go_wp2_with fail
 refine(qhe _).mono ?_;rintro e1 w1 ⟨rfl,U⟩;have ad:=(U.block (q+1+1+1) (by simp;omega)).trans (setRow_heap (W.drewN n1) _ _ _ _ _ hv);have af:=(U.block (q+1) (by simp;omega)).trans ((setRow_other (W.drewN n1) _ _ _ (by omega)).trans hc);have ae:=(U.block (q+1+1) (by simp;omega)).trans ((setRow_other (W.drewN n1) _ _ _ (by omega)).trans hr);have an:q+4<=w1.heap.size:=by have:=U.size;simp at this;omega
 have ag:Below w.heap.size w w1:=(below_setRow (hB.trans (QY n1)) (by omega) _).trans (U.mono (by simp;omega));clear U hv hc hr hh hB;go_wp2_with fail
 refine qk (by dsimp only[List.dropLast]) (by rfl) (by rfl) (by kernel_rfl) (by kernel_rfl) (by kernel_rfl) (by kernel_rfl) ?_;repeat(go_big_quiet_step (fail))
 refine wpQuiet_nil ?_;intro _ ab;obtain⟨n2,rfl⟩:=ab;refine wpList_copy_own rfl _ _ _ _ rfl 44 Tryz.underlying109 rfl (q+1+1+1) 8 8 8 ⟨w1.heap.size,0,none⟩ 8 8 rfl rfl #[.int .u64 (wd h 0),.int .u64 (wd h 1),.int .u64 (wd h 2),.int .u64 (wd h 3),.int .u64 (wd h 4),.int .u64 (wd h 5),.int .u64 (wd h 6),.int .u64 (wd h 7),.int .u64 0,.int .u64 0,.int .u64 0,.int .u64 0,.int .u64 0,.int .u64 0,.int .u64 0,.int .u64 0] 257 ((Bh _ _ _ (by omega)).trans ad) [.int .u64 7640891576956012808,.int .u64 13503953896175478587,.int .u64 4354685564936845355,.int .u64 11912009170470909681,.int .u64 5840696475078001361,.int .u64 11170449401992604703,.int .u64 2270897969802886507,.int .u64 6620516959819538809] rfl
  (jU (W:=(w1.alloc _).drewN n2) (Wn _ _)) (by simp) (by simp[Value.oneCell']) ?_
 go_upto_region 5 with(fail)
 refine qm ?_;intro W4 o;have X:W4.heap[q+1+1+1]? =some (.cells #[.int .u64 (wd h 0),.int .u64 (wd h 1),.int .u64 (wd h 2),.int .u64 (wd h 3),.int .u64 (wd h 4),.int .u64 (wd h 5),.int .u64 (wd h 6),.int .u64 (wd h 7),.int .u64 7640891576956012808,.int .u64 13503953896175478587,.int .u64 4354685564936845355,.int .u64 11912009170470909681,.int .u64 5840696475078001361,.int .u64 11170449401992604703,.int .u64 2270897969802886507,.int .u64 6620516959819538809] 257 (0,0)):=by
  rw[o];exact setRow_heap ((w1.alloc _).drewN n2) _ _ _ _ _ ((Bh _ _ _ (by omega)).trans ad)
 have ai:W4.heap[q+1]? =some (.cells #[.int .u64 lo,.int .u64 hi] 285 (0,0)):=by
  rw[o];exact(setRow_other ((w1.alloc _).drewN n2) _ _ _ (by omega)).trans ((Bh _ _ _ (by omega)).trans af)
 have ak:W4.heap[q+1+1]? =some (.cells Ka 257 (0,0)):=by
  rw[o];exact(setRow_other ((w1.alloc _).drewN n2) _ _ _ (by omega)).trans ((Bh _ _ _ (by omega)).trans ae)
 have aa:Below w.heap.size w W4:=by
  rw[o];exact below_setRow ((ag.alloc (by omega) _).trans (QY n2)) (by omega) _
 clear o ad af ae ag;have am:q+4<=W4.heap.size:=by have:=aa.size;have:=(Ai X).1;omega
 obtain⟨Y,Z⟩:=qR X;obtain⟨cc,fc⟩:=qR ai;have G:=hid X;have O:=hid ak;have I:=hid aa;clear X ai ak aa;go_upto_region 7 with(fail)
 refine qm ?_;intro W5 o;have ac:W5.heap[q+1+1+1]? =some (.cells #[.int .u64 (wd h 0),.int .u64 (wd h 1),.int .u64 (wd h 2),.int .u64 (wd h 3),.int .u64 (wd h 4),.int .u64 (wd h 5),.int .u64 (wd h 6),.int .u64 (wd h 7),.int .u64 7640891576956012808,.int .u64 13503953896175478587,.int .u64 4354685564936845355,.int .u64 11912009170470909681,.int .u64 (bits .xor .u64 5840696475078001361 lo),.int .u64 (bits .xor .u64 11170449401992604703 hi),.int .u64 2270897969802886507,.int .u64 6620516959819538809] 257 (0,0)):=by
  rw[o];exact block_setCell (i:=13) (block_setCell (i:=12) G.out _) _
 have aj:W5.heap[q+1+1]? =some (.cells Ka 257 (0,0)):=by
  rw[o];exact(Below.heap_setCell _ _ _ _ (by simp)).trans ((Below.heap_setCell _ _ _ _ (by simp)).trans O.out)
 have ah:Below w.heap.size w W5:=by
  rw[o];exact(I.out.setCell (by simp;omega) _).setCell (by simp;omega) _
 clear o G O I Y Z cc fc;obtain⟨Y,Z⟩:=qR ac;have G:=hid ac;have O:=hid aj;have I:=hid ah;clear ac aj ah
 cases V<;>cases node
 ·go_upto_region 11 with(fail)
  refine qm ?_;intro D o;have S:D.heap[q+1+1+1]? =some (.cells #[.int .u64 (wd h 0),.int .u64 (wd h 1),.int .u64 (wd h 2),.int .u64 (wd h 3),.int .u64 (wd h 4),.int .u64 (wd h 5),.int .u64 (wd h 6),.int .u64 (wd h 7),.int .u64 7640891576956012808,.int .u64 13503953896175478587,.int .u64 4354685564936845355,.int .u64 11912009170470909681,.int .u64 (bits .xor .u64 5840696475078001361 lo),.int .u64 (bits .xor .u64 11170449401992604703 hi),.int .u64 2270897969802886507,.int .u64 6620516959819538809] 257 (0,0)):=by
   rw[o];exact G.out
  have r:D.heap[q+1+1]? =some (.cells Ka 257 (0,0)):=by
   rw[o];exact O.out
  have J:Below w.heap.size w D:=by
   rw[o];exact I.out
  clear o G O I Y Z;apply wp_region_lit
  refine wpList_load_row rfl 257 _ rfl (q+1+1+1) rfl _ _ _ _ S Tryz.underlying257 rfl (by kernel_rfl) ?_;refine wpList_store_row rfl 257 _ _ rfl (q+1+1) _ rfl rfl 257 _ r (by kernel_rfl) (by kernel_rfl) (by kernel_rfl) ?_;simp only[Act.put,Ls];go_wp2_with fail
  exact Bp (results_cell_row rfl _ _ _ _ _ _ _ rfl (setRow_heap _ _ _ _ _ _ r) Tryz.underlying257 rfl (by kernel_rfl)) rfl ⟨rfl,below_setRow (J.mono (by omega)) (by omega) _⟩
 ·go_upto_region 11 with(fail)
  refine qm ?_;intro D o;have S:D.heap[q+1+1+1]? =some (.cells #[.int .u64 (wd h 0),.int .u64 (wd h 1),.int .u64 (wd h 2),.int .u64 (wd h 3),.int .u64 (wd h 4),.int .u64 (wd h 5),.int .u64 (wd h 6),.int .u64 (wd h 7),.int .u64 7640891576956012808,.int .u64 13503953896175478587,.int .u64 4354685564936845355,.int .u64 11912009170470909681,.int .u64 (bits .xor .u64 5840696475078001361 lo),.int .u64 (bits .xor .u64 11170449401992604703 hi),.int .u64 2270897969802886507,.int .u64 (bits .xor .u64 (IntKind.max .u64) 6620516959819538809)] 257 (0,0)):=by
   rw[o];exact(block_setCell (i:=15) G.out _)
  have r:D.heap[q+1+1]? =some (.cells Ka 257 (0,0)):=by
   rw[o];exact((Below.heap_setCell _ _ _ _ (by simp)).trans O.out)
  have J:Below w.heap.size w D:=by
   rw[o];exact(I.out.setCell (by simp;omega) _)
  clear o G O I Y Z;apply wp_region_lit
  refine wpList_load_row rfl 257 _ rfl (q+1+1+1) rfl _ _ _ _ S Tryz.underlying257 rfl (by kernel_rfl) ?_;refine wpList_store_row rfl 257 _ _ rfl (q+1+1) _ rfl rfl 257 _ r (by kernel_rfl) (by kernel_rfl) (by kernel_rfl) ?_;simp only[Act.put,Ls];go_wp2_with fail
  exact Bp (results_cell_row rfl _ _ _ _ _ _ _ rfl (setRow_heap _ _ _ _ _ _ r) Tryz.underlying257 rfl (by kernel_rfl)) rfl ⟨rfl,below_setRow (J.mono (by omega)) (by omega) _⟩
 ·go_upto_region 11 with(fail)
  refine qm ?_;intro D o;have S:D.heap[q+1+1+1]? =some (.cells #[.int .u64 (wd h 0),.int .u64 (wd h 1),.int .u64 (wd h 2),.int .u64 (wd h 3),.int .u64 (wd h 4),.int .u64 (wd h 5),.int .u64 (wd h 6),.int .u64 (wd h 7),.int .u64 7640891576956012808,.int .u64 13503953896175478587,.int .u64 4354685564936845355,.int .u64 11912009170470909681,.int .u64 (bits .xor .u64 5840696475078001361 lo),.int .u64 (bits .xor .u64 11170449401992604703 hi),.int .u64 (bits .xor .u64 (IntKind.max .u64) 2270897969802886507),.int .u64 6620516959819538809] 257 (0,0)):=by
   rw[o];exact(block_setCell (i:=14) G.out _)
  have r:D.heap[q+1+1]? =some (.cells Ka 257 (0,0)):=by
   rw[o];exact((Below.heap_setCell _ _ _ _ (by simp)).trans O.out)
  have J:Below w.heap.size w D:=by
   rw[o];exact(I.out.setCell (by simp;omega) _)
  clear o G O I Y Z;apply wp_region_lit
  refine wpList_load_row rfl 257 _ rfl (q+1+1+1) rfl _ _ _ _ S Tryz.underlying257 rfl (by kernel_rfl) ?_;refine wpList_store_row rfl 257 _ _ rfl (q+1+1) _ rfl rfl 257 _ r (by kernel_rfl) (by kernel_rfl) (by kernel_rfl) ?_;simp only[Act.put,Ls];go_wp2_with fail
  exact Bp (results_cell_row rfl _ _ _ _ _ _ _ rfl (setRow_heap _ _ _ _ _ _ r) Tryz.underlying257 rfl (by kernel_rfl)) rfl ⟨rfl,below_setRow (J.mono (by omega)) (by omega) _⟩
 ·go_upto_region 11 with(fail)
  refine qm ?_;intro D o;have S:D.heap[q+1+1+1]? =some (.cells #[.int .u64 (wd h 0),.int .u64 (wd h 1),.int .u64 (wd h 2),.int .u64 (wd h 3),.int .u64 (wd h 4),.int .u64 (wd h 5),.int .u64 (wd h 6),.int .u64 (wd h 7),.int .u64 7640891576956012808,.int .u64 13503953896175478587,.int .u64 4354685564936845355,.int .u64 11912009170470909681,.int .u64 (bits .xor .u64 5840696475078001361 lo),.int .u64 (bits .xor .u64 11170449401992604703 hi),.int .u64 (bits .xor .u64 (IntKind.max .u64) 2270897969802886507),.int .u64 (bits .xor .u64 (IntKind.max .u64) 6620516959819538809)] 257 (0,0)):=by
   rw[o];exact(block_setCell (i:=15) (block_setCell (i:=14) G.out _) _)
  have r:D.heap[q+1+1]? =some (.cells Ka 257 (0,0)):=by
   rw[o];exact((Below.heap_setCell _ _ _ _ (by simp)).trans ((Below.heap_setCell _ _ _ _ (by simp)).trans O.out))
  have J:Below w.heap.size w D:=by
   rw[o];exact((I.out.setCell (by simp;omega) _).setCell (by simp;omega) _)
  clear o G O I Y Z;apply wp_region_lit
  refine wpList_load_row rfl 257 _ rfl (q+1+1+1) rfl _ _ _ _ S Tryz.underlying257 rfl (by kernel_rfl) ?_;refine wpList_store_row rfl 257 _ _ rfl (q+1+1) _ rfl rfl 257 _ r (by kernel_rfl) (by kernel_rfl) (by kernel_rfl) ?_;simp only[Act.put,Ls];go_wp2_with fail
  exact Bp (results_cell_row rfl _ _ _ _ _ _ _ rfl (setRow_heap _ _ _ _ _ _ r) Tryz.underlying257 rfl (by kernel_rfl)) rfl ⟨rfl,below_setRow (J.mono (by omega)) (by omega) _⟩
theorem qfG (h:List Int)(c:Int)(ar:0<=c)(ao:c<18446744073709551616)(X node:Bool)(w:World):Calls Tryz.prog 222 #[.agg #[.int .u32 (wd h 0),.int .u32 (wd h 1),.int .u32 (wd h 2),.int .u32 (wd h 3),.int .u32 (wd h 4),.int .u32 (wd h 5),.int .u32 (wd h 6),.int .u32 (wd h 7)],.int .u64 c,.bool X,.bool node] w fun e w'=>e= .returned (.agg (qj .u32 (Y6 .u32 IVs h (c%4294967296) (c/4294967296) X node)))/\Below w.heap.size w w':=by
 obtain⟨q,an⟩:=Ex w.heap.size;go_enter Tryz.func222,Tryz.ntmps222
 go_wp2_with fail
 refine(qhd _).mono ?_;rintro e1 w1 ⟨rfl,U⟩;have ai:=(U.block q (by simp;omega)).trans ((Bh _ _ _ (by simp;omega)).trans ((Bh _ _ _ (by simp;omega)).trans (qe _ _ an.symm)));have ac:=(U.block (q+1) (by simp;omega)).trans ((Bh _ _ _ (by simp;omega)).trans (qe _ _ (by simp;omega)));have ak:=(U.block (q+1+1) (by simp;omega)).trans (qe _ _ (by simp;omega));have aq:q+3<=w1.heap.size:=by have:=U.size;simp at this;omega
 have af:Below w.heap.size w w1:=((((Below.refl w.heap.size w).alloc Nl _).alloc (by simp) _).alloc (by simp;omega) _).trans (U.mono (by simp;omega));clear U;go_wp2_with fail
 refine qm ?_;intro W o;have hh:W.heap[q]? =some (.cells #[.int .u32 (wd h 0),.int .u32 (wd h 1),.int .u32 (wd h 2),.int .u32 (wd h 3),.int .u32 (wd h 4),.int .u32 (wd h 5),.int .u32 (wd h 6),.int .u32 (wd h 7)] 288 (0,0)):=by
  rw[o];exact(Bh _ _ _ (by omega)).trans ai
 have hr:W.heap[q+1]? =some (.cells Kd 302 (0,0)):=by
  rw[o];exact(Bh _ _ _ (by omega)).trans ac
 have hv:W.heap[q+1+1]? =some (.cells Kd 302 (0,0)):=by
  rw[o];exact(Bh _ _ _ (by omega)).trans ak
 have hi:W.heap[w1.heap.size]? =some (.cells Ki 288 (0,0)):=by
  rw[o];exact Wn _ _
 have hB:Below w.heap.size w W:=by rw[o];exact af.alloc (by omega) _
 have hs:W.heap.size=w1.heap.size+1:=by rw[o];simp
 clear o ai ac ak af;refine qk (by dsimp only[List.dropLast]) (by rfl) (by rfl) (by kernel_rfl) (by kernel_rfl) (by kernel_rfl) (by kernel_rfl) ?_;repeat(go_big_quiet_step (fail))
 refine wpQuiet_nil ?_;intro _ aa;obtain⟨n1,rfl⟩:=aa;refine wpList_copy_own rfl _ _ _ _ rfl 23 Tryz.underlying312 rfl (q+1+1) 0 8 16 ⟨q,0,none⟩ 8 8 rfl rfl Kd 302 hv [.int .u32 (wd h 0),.int .u32 (wd h 1),.int .u32 (wd h 2),.int .u32 (wd h 3),.int .u32 (wd h 4),.int .u32 (wd h 5),.int .u32 (wd h 6),.int .u32 (wd h 7)] rfl
  (jU (W:=W.drewN n1) hh) (by simp) (by simp[Value.oneCell']) ?_
 refine wpList_nil ?_;simp only[Act.put,Ls];go_wp2_with fail
 refine qm ?_;intro V o;have ab:V.heap[q+1+1]? =some (.cells #[.int .u32 (wd h 0),.int .u32 (wd h 1),.int .u32 (wd h 2),.int .u32 (wd h 3),.int .u32 (wd h 4),.int .u32 (wd h 5),.int .u32 (wd h 6),.int .u32 (wd h 7),.int .u32 0,.int .u32 0,.int .u32 0,.int .u32 0,.int .u32 0,.int .u32 0,.int .u32 0,.int .u32 0] 302 (0,0)):=by
  rw[o];exact setRow_heap (W.drewN n1) _ _ _ _ _ hv
 have ah:V.heap[q+1]? =some (.cells Kd 302 (0,0)):=by
  rw[o];exact(setRow_other (W.drewN n1) _ _ _ (by omega)).trans hr
 have al:V.heap[w1.heap.size]? =some (.cells Ki 288 (0,0)):=by
  rw[o];exact(setRow_other (W.drewN n1) _ _ _ (by omega)).trans hi
 have ae:Below w.heap.size w V:=by rw[o];exact below_setRow (hB.trans (QY n1)) (by omega) _
 clear o hh hr hv hi hB;refine qk (by dsimp only[List.dropLast]) (by rfl) (by rfl) (by kernel_rfl) (by kernel_rfl) (by kernel_rfl) (by kernel_rfl) ?_;repeat(go_big_quiet_step (fail))
 refine wpQuiet_nil ?_;intro _ aa;obtain⟨n2,rfl⟩:=aa;refine wpList_copy_own rfl _ _ _ _ rfl 23 Tryz.underlying312 rfl (q+1+1) 8 8 8 ⟨w1.heap.size,0,none⟩ 8 8 rfl rfl #[.int .u32 (wd h 0),.int .u32 (wd h 1),.int .u32 (wd h 2),.int .u32 (wd h 3),.int .u32 (wd h 4),.int .u32 (wd h 5),.int .u32 (wd h 6),.int .u32 (wd h 7),.int .u32 0,.int .u32 0,.int .u32 0,.int .u32 0,.int .u32 0,.int .u32 0,.int .u32 0,.int .u32 0] 302 ab [.int .u32 1779033703,.int .u32 3144134277,.int .u32 1013904242,.int .u32 2773480762,.int .u32 1359893119,.int .u32 2600822924,.int .u32 528734635,.int .u32 1541459225] rfl
  (jU (W:=V.drewN n2) al) (by simp) (by simp[Value.oneCell']) ?_
 go_upto_region 5 with(fail)
 refine qm ?_;intro W4 o;have Z:W4.heap[q+1+1]? =some (.cells #[.int .u32 (wd h 0),.int .u32 (wd h 1),.int .u32 (wd h 2),.int .u32 (wd h 3),.int .u32 (wd h 4),.int .u32 (wd h 5),.int .u32 (wd h 6),.int .u32 (wd h 7),.int .u32 1779033703,.int .u32 3144134277,.int .u32 1013904242,.int .u32 2773480762,.int .u32 1359893119,.int .u32 2600822924,.int .u32 528734635,.int .u32 1541459225] 302 (0,0)):=by
  rw[o];exact setRow_heap (V.drewN n2) _ _ _ _ _ ab
 have am:W4.heap[q+1]? =some (.cells Kd 302 (0,0)):=by
  rw[o];exact(setRow_other (V.drewN n2) _ _ _ (by omega)).trans ah
 have ad:Below w.heap.size w W4:=by rw[o];exact below_setRow (ae.trans (QY n2)) (by omega) _
 clear o ab ah al ae hs;have ap:=(Ai Z).1;obtain⟨cv,fv⟩:=qR Z;have G:=hid Z;have O:=hid am;have I:=hid ad;clear Z am ad;go_upto_region 7 with(fail)
 refine qm ?_;intro W5 o;have Y:W5.heap[q+1+1]? =some (.cells #[.int .u32 (wd h 0),.int .u32 (wd h 1),.int .u32 (wd h 2),.int .u32 (wd h 3),.int .u32 (wd h 4),.int .u32 (wd h 5),.int .u32 (wd h 6),.int .u32 (wd h 7),.int .u32 1779033703,.int .u32 3144134277,.int .u32 1013904242,.int .u32 2773480762,.int .u32 (bits .xor .u32 1359893119 (c%4294967296)),.int .u32 (bits .xor .u32 2600822924 (c/4294967296)),.int .u32 528734635,.int .u32 1541459225] 302 (0,0)):=by
  rw[o];exact block_setCell (i:=13) (block_setCell (i:=12) G.out _) _
 have aj:W5.heap[q+1]? =some (.cells Kd 302 (0,0)):=by
  rw[o];exact(Below.heap_setCell _ _ _ _ (by simp)).trans ((Below.heap_setCell _ _ _ _ (by simp)).trans O.out)
 have ag:Below w.heap.size w W5:=by
  rw[o];exact(I.out.setCell (by simp;omega) _).setCell (by simp;omega) _
 clear o G O I cv fv;have au:=(Ai Y).1;obtain⟨cv,fv⟩:=qR Y;have G:=hid Y;have O:=hid aj;have I:=hid ag;clear Y aj ag
 cases X<;>cases node
 ·go_upto_region 11 with(fail)
  refine qm ?_;intro D o;have S:D.heap[q+1+1]? =some (.cells #[.int .u32 (wd h 0),.int .u32 (wd h 1),.int .u32 (wd h 2),.int .u32 (wd h 3),.int .u32 (wd h 4),.int .u32 (wd h 5),.int .u32 (wd h 6),.int .u32 (wd h 7),.int .u32 1779033703,.int .u32 3144134277,.int .u32 1013904242,.int .u32 2773480762,.int .u32 (bits .xor .u32 1359893119 (c%4294967296)),.int .u32 (bits .xor .u32 2600822924 (c/4294967296)),.int .u32 528734635,.int .u32 1541459225] 302 (0,0)):=by
   rw[o];exact G.out
  have r:D.heap[q+1]? =some (.cells Kd 302 (0,0)):=by
   rw[o];exact O.out
  have J:Below w.heap.size w D:=by
   rw[o];exact I.out
  clear o G O I cv fv;apply wp_region_lit
  refine wpList_load_row rfl 302 _ rfl (q+1+1) rfl _ _ _ _ S Tryz.underlying302 rfl (by kernel_rfl) ?_;refine wpList_store_row rfl 302 _ _ rfl (q+1) _ rfl rfl 302 _ r (by kernel_rfl) (by kernel_rfl) (by kernel_rfl) ?_;simp only[Act.put,Ls];go_wp2_with fail
  exact Bp (results_cell_row rfl _ _ _ _ _ _ _ rfl (setRow_heap _ _ _ _ _ _ r) Tryz.underlying302 rfl (by kernel_rfl)) rfl ⟨rfl,below_setRow (J.mono (by omega)) (by omega) _⟩
 ·go_upto_region 11 with(fail)
  refine qm ?_;intro D o;have S:D.heap[q+1+1]? =some (.cells #[.int .u32 (wd h 0),.int .u32 (wd h 1),.int .u32 (wd h 2),.int .u32 (wd h 3),.int .u32 (wd h 4),.int .u32 (wd h 5),.int .u32 (wd h 6),.int .u32 (wd h 7),.int .u32 1779033703,.int .u32 3144134277,.int .u32 1013904242,.int .u32 2773480762,.int .u32 (bits .xor .u32 1359893119 (c%4294967296)),.int .u32 (bits .xor .u32 2600822924 (c/4294967296)),.int .u32 528734635,.int .u32 (bits .xor .u32 (IntKind.max .u32) 1541459225)] 302 (0,0)):=by
   rw[o];exact(block_setCell (i:=15) G.out _)
  have r:D.heap[q+1]? =some (.cells Kd 302 (0,0)):=by
   rw[o];exact((Below.heap_setCell _ _ _ _ (by simp)).trans O.out)
  have J:Below w.heap.size w D:=by
   rw[o];exact(I.out.setCell (by simp;omega) _)
  clear o G O I cv fv;apply wp_region_lit
  refine wpList_load_row rfl 302 _ rfl (q+1+1) rfl _ _ _ _ S Tryz.underlying302 rfl (by kernel_rfl) ?_;refine wpList_store_row rfl 302 _ _ rfl (q+1) _ rfl rfl 302 _ r (by kernel_rfl) (by kernel_rfl) (by kernel_rfl) ?_;simp only[Act.put,Ls];go_wp2_with fail
  exact Bp (results_cell_row rfl _ _ _ _ _ _ _ rfl (setRow_heap _ _ _ _ _ _ r) Tryz.underlying302 rfl (by kernel_rfl)) rfl ⟨rfl,below_setRow (J.mono (by omega)) (by omega) _⟩
 ·go_upto_region 11 with(fail)
  refine qm ?_;intro D o;have S:D.heap[q+1+1]? =some (.cells #[.int .u32 (wd h 0),.int .u32 (wd h 1),.int .u32 (wd h 2),.int .u32 (wd h 3),.int .u32 (wd h 4),.int .u32 (wd h 5),.int .u32 (wd h 6),.int .u32 (wd h 7),.int .u32 1779033703,.int .u32 3144134277,.int .u32 1013904242,.int .u32 2773480762,.int .u32 (bits .xor .u32 1359893119 (c%4294967296)),.int .u32 (bits .xor .u32 2600822924 (c/4294967296)),.int .u32 (bits .xor .u32 (IntKind.max .u32) 528734635),.int .u32 1541459225] 302 (0,0)):=by
   rw[o];exact(block_setCell (i:=14) G.out _)
  have r:D.heap[q+1]? =some (.cells Kd 302 (0,0)):=by
   rw[o];exact((Below.heap_setCell _ _ _ _ (by simp)).trans O.out)
  have J:Below w.heap.size w D:=by
   rw[o];exact(I.out.setCell (by simp;omega) _)
  clear o G O I cv fv;apply wp_region_lit
  refine wpList_load_row rfl 302 _ rfl (q+1+1) rfl _ _ _ _ S Tryz.underlying302 rfl (by kernel_rfl) ?_;refine wpList_store_row rfl 302 _ _ rfl (q+1) _ rfl rfl 302 _ r (by kernel_rfl) (by kernel_rfl) (by kernel_rfl) ?_;simp only[Act.put,Ls];go_wp2_with fail
  exact Bp (results_cell_row rfl _ _ _ _ _ _ _ rfl (setRow_heap _ _ _ _ _ _ r) Tryz.underlying302 rfl (by kernel_rfl)) rfl ⟨rfl,below_setRow (J.mono (by omega)) (by omega) _⟩
 ·go_upto_region 11 with(fail)
  refine qm ?_;intro D o;have S:D.heap[q+1+1]? =some (.cells #[.int .u32 (wd h 0),.int .u32 (wd h 1),.int .u32 (wd h 2),.int .u32 (wd h 3),.int .u32 (wd h 4),.int .u32 (wd h 5),.int .u32 (wd h 6),.int .u32 (wd h 7),.int .u32 1779033703,.int .u32 3144134277,.int .u32 1013904242,.int .u32 2773480762,.int .u32 (bits .xor .u32 1359893119 (c%4294967296)),.int .u32 (bits .xor .u32 2600822924 (c/4294967296)),.int .u32 (bits .xor .u32 (IntKind.max .u32) 528734635),.int .u32 (bits .xor .u32 (IntKind.max .u32) 1541459225)] 302 (0,0)):=by
   rw[o];exact(block_setCell (i:=15) (block_setCell (i:=14) G.out _) _)
  have r:D.heap[q+1]? =some (.cells Kd 302 (0,0)):=by
   rw[o];exact((Below.heap_setCell _ _ _ _ (by simp)).trans ((Below.heap_setCell _ _ _ _ (by simp)).trans O.out))
  have J:Below w.heap.size w D:=by
   rw[o];exact((I.out.setCell (by simp;omega) _).setCell (by simp;omega) _)
  clear o G O I cv fv;apply wp_region_lit
  refine wpList_load_row rfl 302 _ rfl (q+1+1) rfl _ _ _ _ S Tryz.underlying302 rfl (by kernel_rfl) ?_;refine wpList_store_row rfl 302 _ _ rfl (q+1) _ rfl rfl 302 _ r (by kernel_rfl) (by kernel_rfl) (by kernel_rfl) ?_;simp only[Act.put,Ls];go_wp2_with fail
  exact Bp (results_cell_row rfl _ _ _ _ _ _ _ rfl (setRow_heap _ _ _ _ _ _ r) Tryz.underlying302 rfl (by kernel_rfl)) rfl ⟨rfl,below_setRow (J.mono (by omega)) (by omega) _⟩
def Y9 (k:IntKind)(h v:List Int):Nat->List Int
 | 0=>h
 | i+1=>(Y9 k h v i).set i (bits .xor k (wd h i) (bits .xor k (wd v i) (wd v (i+8))))
def Zy (K:MixK)(iv:List Int)(n:Nat)(h M:List Int)(x y:Int)(last node:Bool):List Int:=
 Y9 K.k h (K.rounds (Y6 K.k iv h x y last node) M n) 8
theorem QR {k:IntKind}{N:Nat}(o: ∀z,k.wrap z=z%2^N){h v:List Int}(q:Words N 8 h): ∀i,Words N 8 (Y9 k h v i)
 | 0=>q
 | i+1=>Words.set (QR o q i) (Qe _ _ _ o _ _)
theorem Ze {k:IntKind}{h v:List Int}: ∀i j,i<=j->wd (Y9 k h v i) j=wd h j
 | 0,j,_=>rfl
 | i+1,j,hj=>by
  have o:=Ze (k:=k) (h:=h) (v:=v) i j (by omega);simp only[Y9];unfold wd at*;rw[Lg,List.getElem?_set,if_neg (by omega),<-Lg];exact o
theorem qg :(qj k L).size=L.length:=by simp[qj]
theorem qA :(qj k L).all (·.oneCell')=true:=by simp[qj,Value.oneCell']
theorem Zv (G: ∀z,k.wrap z=z%2^N){q h:List Int}(hi:Words N 8 q)(I:Words N 8 h)(x y:Int)(o node:Bool):Words N 16 (Y6 k q h x y o node):=by
 refine⟨rfl,fun z r=>?_⟩;simp only[Y6,List.mem_cons,List.not_mem_nil,or_false]at r;have D:=fun a b=>Qe .xor k N G a b
 rcases r with rfl|rfl|rfl|rfl|rfl|rfl|rfl|rfl|rfl|rfl|rfl|rfl|rfl|rfl|rfl|rfl
 all_goals first|exact I.at (by decide)|exact hi.at (by decide)|exact D _ _|skip
 all_goals split
 all_goals first|exact hi.at (by decide)|exact D _ _
theorem qdz:Words 64 8 IVb:=⟨rfl,by decide⟩
theorem qaX:Words 32 8 IVs:=⟨rfl,by decide⟩
theorem ZC (h:Words N 8 L):qj k L= #[.int k (wd L 0),.int k (wd L 1),.int k (wd L 2),.int k (wd L 3),.int k (wd L 4),.int k (wd L 5),.int k (wd L 6),.int k (wd L 7)]:=by
 obtain⟨o, -⟩:=h;match L,o with
 | [a,b,c,d,e,f,g,i],_=>rfl
theorem qka (h M:List Int)(S:Words 64 8 h)(hM:Words 64 16 M)(lo hi:Int)(D node:Bool)(w:World):Calls Tryz.prog 204 #[.agg (qj .u64 h),.agg (qj .u64 M),.agg #[.int .u64 lo,.int .u64 hi],.bool D,.bool node] w fun e w'=>e= .returned (.agg (qj .u64 (Zy mixBig IVb 12 h M lo hi D node)))/\Below w.heap.size w w':=by
 obtain⟨q,av⟩:=Ex w.heap.size;have HC:=hid (qgx h lo hi D node);have X:=Zv (k:= .u64) (fun z=>IntKind.wrap_u64 z) qdz S lo hi D node;unfold Zy;rw[show mixBig.k= .u64 from rfl];generalize Y6 .u64 IVb h lo hi D node=L0 at*;have aa:=S;rw[ZC S];go_enter Tryz.func204,Tryz.ntmps204
 go_wp2_with fail
 refine(HC.out _).mono ?_;rintro e1 w1 ⟨rfl,I⟩;have ag:=(I.block q (by simp;omega)).trans ((Bh _ _ _ (by simp;omega)).trans ((Bh _ _ _ (by simp;omega)).trans ((Bh _ _ _ (by simp;omega)).trans (qe _ _ av.symm))));have aq:=(I.block (q+1) (by simp;omega)).trans ((Bh _ _ _ (by simp;omega)).trans ((Bh _ _ _ (by simp;omega)).trans (qe _ _ (by simp;omega))));have af:=(I.block (q+1+1+1) (by simp;omega)).trans (qe _ _ (by simp;omega));have az:q+4<=w1.heap.size:=by have:=I.size;simp at this;omega
 have ap:Below w.heap.size w w1:=(((((Below.refl w.heap.size w).alloc Nl _).alloc (by simp) _).alloc (by simp;omega) _).alloc (by simp;omega) _).trans (I.mono (by simp;omega));clear I HC;go_wp2_with ((with_reducible show wpList _ _ _ (Oper.mk none (Op.store 257 _ _) _ _ _ _::_) _ _);refine wpList_store_row rfl 257 _ _ rfl w1.heap.size (qj .u64 L0) rfl rfl 257 _ (Wn _ _) (by rw[qg,X.1];kernel_rfl) (by rw[qg,X.1];rfl) qA ?_)
 clear S;refine qm ?_;intro W Z;obtain⟨r,ac⟩:=Ex w1.heap.size;have S:W.heap[q]? =some (.cells #[.int .u64 (wd h 0),.int .u64 (wd h 1),.int .u64 (wd h 2),.int .u64 (wd h 3),.int .u64 (wd h 4),.int .u64 (wd h 5),.int .u64 (wd h 6),.int .u64 (wd h 7)] 278 (0,0)):=by
  rw[Z];exact(setRow_other (w1.alloc _) _ _ _ (by omega)).trans ((Bh _ _ _ (by omega)).trans ag)
 have hm:W.heap[q+1]? =some (.cells (qj .u64 M) 257 (0,0)):=by
  rw[Z];exact(setRow_other (w1.alloc _) _ _ _ (by omega)).trans ((Bh _ _ _ (by omega)).trans aq)
 have hr:W.heap[q+1+1+1]? =some (.cells Kg 278 (0,0)):=by
  rw[Z];exact(setRow_other (w1.alloc _) _ _ _ (by omega)).trans ((Bh _ _ _ (by omega)).trans af)
 have hv:W.heap[r]? =some (.cells (qj .u64 L0) 257 (0,0)):=by
  rw[Z,<-ac];exact setRow_heap _ _ _ _ _ _ (Wn _ _)
 have hB:Below w.heap.size w W:=by
  rw[Z];exact below_setRow (ap.alloc (by omega) _) (by omega) _
 rw[<-ZC aa]at S;rw[ac];have aK:q+4<=r:=by omega
 clear Z ag aq af az ap ac;have HH:=hid S;have HM:=hid hm;have HR:=hid hr;have HV:=hid hv;have HB:=hid hB;have aI:r<W.heap.size:=(Ai hv).1;clear S hm hr hv hB;go_loopw [19] (fun i wr=> ∃j:Nat,i= .int .i64 j/\j<=12/\wr.heap[r]? =some (.cells (qj .u64 (mixBig.rounds L0 M j)) 257 (0,0))/\But r W wr) (fun i _=>12 - (intOf i).toNat)
 case atStart=>exact⟨0,rfl,Nat.zero_le _,HV.out,But.refl _ _⟩
 case round=>
  obtain⟨j,rfl,hj,hv,hB⟩:=hrel;have hm:=(hB.block (q+1) (by omega) (by omega)).trans HM.out;have Y:=hid hv;have ai:=hid hm;have O:=hid hB;clear hv hm hB;by_cases ad:j<12
  ·go_wp2_with fail
   refine(qfR r (q+1) (by omega) (mixBig.rounds L0 M j) M (yd QM X j) hM j ad 257 257 _ Y.out ai.out).mono ?_;rintro e2 w2 ⟨rfl,ar,an⟩
   have ax:=hid ar;have aD:=hid (O.out.trans an);clear ar an;go_wp2
   exact⟨⟨j+1,rfl,by omega,ax.out,aD.out⟩,by simp[intOf];omega⟩
  ·obtain rfl:j=12:=by omega
   go_wp2_with fail
   have hV:=yd QM X (M:=M) 12;obtain⟨V,ab⟩:=Ex (mixBig.rounds L0 M 12);have aE:=hid (show Ending.returned (.agg (qj .u64 (Y9 .u64 h V 8)))= .returned (.agg (qj .u64 (Y9 .u64 h (mixBig.rounds L0 M 12) 8))) by rw[ab]);rw[ab]at hV Y;clear ab;have am:=(O.out.block q (by omega) (by omega)).trans HH.out;have aj:=(O.out.block (q+1+1+1) (by omega) (by omega)).trans HR.out;have ae:=Y.out;have au:Below w.heap.size w wr:=HB.out.trans (O.out.below (by omega) HB.out.size);have aC:=hid am;have aF:=hid aj;have al:=hid au;have aA:r<wr.heap.size:=(Ai ae).1;have ay:=hid ae;clear am aj au Y ai O HH HR HM HV HB ae;generalize wr=w3 at*;go_loopw [25] (fun i w4=> ∃j:Nat,i= .int .i64 j/\j<=8/\w4.heap[q]? =some (.cells (qj .u64 (Y9 .u64 h V j)) 278 (0,0))/\But q w3 w4) (fun i _=>8 - (intOf i).toNat)
   case atStart=>exact⟨0,rfl,Nat.zero_le _,aC.out,But.refl _ _⟩
   case round=>
    obtain⟨j,rfl,hj,J,G⟩:=hrel;have aH:=G.size;have U:=(G.block r aA (by omega)).trans ay.out;have q1:r<wr.heap.size:=by omega
    have q2:q<wr.heap.size:=by omega
    have ao:=hid J;have ak:=hid G;by_cases ad:j<8
    ·have c1:wr.cell? ⟨q,j,none⟩=some (.int .u64 (wd h j)):=by
      rw[qq J,qF (QR (fun z=>IntKind.wrap_u64 z) aa j) ad,Ze j j Nl]
     have c2:wr.cell? ⟨r,j,none⟩=some (.int .u64 (wd V j)):=(qq U _).trans (qF hV (by omega));have c3:wr.cell? ⟨r,j+8,none⟩=some (.int .u64 (wd V (j+8))):=(qq U _).trans (qF hV (by omega));have f1: ∀o,wr.frozen? ⟨q,o,none⟩=false:=(qR J).2;have aJ:IntKind.i64.wrap ((j:Int)+8)=((j+8:Nat):Int):=by rw[IntKind.wrap_i64];omega
     have aG:j+8<16:=by omega
     clear J U G;go_wp2_with fail
     refine qk (by dsimp only[List.dropLast]) (by rfl) (by rfl) (by kernel_rfl) (by kernel_rfl) (by kernel_rfl) (by kernel_rfl) ?_;repeat(go_big_quiet_step (fail))
     refine wpQuiet_nil ?_;intro _ aB;obtain⟨n1,rfl⟩:=aB;go_wp2_with fail
     exact⟨⟨j+1,rfl,by omega,by rw[Y9,<-Qk];exact block_setCell (w:=wr.drewN n1) ao.out _,(ak.out.drewN n1).set _ _⟩,by simp[intOf];omega⟩
    ·obtain rfl:j=8:=by omega
     have ah:=(G.block (q+1+1+1) (by omega) (by omega)).trans aF.out;have hF:=QR (k:= .u64) (fun z=>IntKind.wrap_u64 z) (v:=V) aa 8;have aw:=hid (al.out.trans (ak.out.below (by omega) al.out.size));clear J U G;go_upto_region 12 with(fail)
     apply wp_region_lit
     refine wpList_load_row rfl 278 _ rfl q rfl _ _ _ _ ao.out Tryz.underlying278 rfl (by rw[qg,hF.1];kernel_rfl) ?_;refine wpList_store_row rfl 278 _ _ rfl (q+1+1+1) (qj .u64 (Y9 .u64 h V 8)) rfl rfl 278 _ ah (by rw[qg,hF.1];kernel_rfl) (by rw[qg,hF.1];rfl) qA ?_;simp only[Act.put,Ls];go_wp2_with fail
     exact Bp (results_cell_row rfl _ _ _ _ _ _ _ rfl (setRow_heap _ _ _ _ _ _ ah) Tryz.underlying278 rfl (by rw[qg,hF.1];kernel_rfl)) rfl ⟨aE.out,below_setRow (aw.out.mono (by omega)) (by omega) _⟩
theorem qh3 (h V:List Int)(ac:Words 32 8 h)(hV:Words 32 16 V)(w:World):Calls Tryz.prog 224 #[.agg (qj .u32 h),.agg (qj .u32 V)] w fun e w'=>e= .returned (.agg (qj .u32 (Y9 .u32 h V 8)))/\Below w.heap.size w w':=by
 obtain⟨q,ag⟩:=Ex w.heap.size;go_enter Tryz.func224,Tryz.ntmps224
 go_wp2_with fail
 refine qm ?_;intro G S;have ad:G.heap[q]? =some (.cells (qj .u32 h) 288 (0,0)):=by
  rw[S];exact(Bh _ _ _ (by simp;omega)).trans ((Bh _ _ _ (by simp;omega)).trans (qe _ _ ag.symm))
 have O:G.heap[q+1]? =some (.cells (qj .u32 V) 302 (0,0)):=by
  rw[S];exact(Bh _ _ _ (by simp;omega)).trans (qe _ _ (by simp;omega))
 have J:G.heap[q+1+1]? =some (.cells Kf 288 (0,0)):=by
  rw[S];exact qe _ _ (by simp;omega)
 have aa:Below w.heap.size w G:=by
  rw[S];exact(((Below.refl w.heap.size w).alloc Nl _).alloc (by simp) _).alloc (by simp;omega) _
 clear S;have af:=hid ad;have ai:=hid O;have aj:=hid J;have Z:=hid aa;have al:q+1<G.heap.size:=(Ai O).1;have an:q+1+1<G.heap.size:=(Ai J).1;clear ad O J aa;go_loopw [6] (fun i w4=> ∃j:Nat,i= .int .i64 j/\j<=8/\w4.heap[q]? =some (.cells (qj .u32 (Y9 .u32 h V j)) 288 (0,0))/\But q G w4) (fun i _=>8 - (intOf i).toNat)
 case atStart=>exact⟨0,rfl,Nat.zero_le _,af.out,But.refl _ _⟩
 case round=>
  obtain⟨j,rfl,hj,D,r⟩:=hrel;have ap:=r.size;have I:=(r.block (q+1) al (by omega)).trans ai.out;have q1:q+1<wr.heap.size:=by omega
  have q2:q<wr.heap.size:=by omega
  have Y:=hid D;have X:=hid r;by_cases ak:j<8
  ·have c1:wr.cell? ⟨q,j,none⟩=some (.int .u32 (wd h j)):=by
    rw[qq D,qF (QR (fun z=>IntKind.wrap_u32 z) ac j) ak,Ze j j Nl]
   have c2:wr.cell? ⟨q+1,j,none⟩=some (.int .u32 (wd V j)):=(qq I _).trans (qF hV (by omega));have c3:wr.cell? ⟨q+1,j+8,none⟩=some (.int .u32 (wd V (j+8))):=(qq I _).trans (qF hV (by omega));have f1: ∀o,wr.frozen? ⟨q,o,none⟩=false:=(qR D).2;have ao:IntKind.i64.wrap ((j:Int)+8)=((j+8:Nat):Int):=by rw[IntKind.wrap_i64];omega
   have am:j+8<16:=by omega
   clear D I r;go_wp2_with fail
   refine qk (by dsimp only[List.dropLast]) (by rfl) (by rfl) (by kernel_rfl) (by kernel_rfl) (by kernel_rfl) (by kernel_rfl) ?_;repeat(go_big_quiet_step (fail))
   refine wpQuiet_nil ?_;intro _ ae;obtain⟨n1,rfl⟩:=ae;go_wp2_with fail
   exact⟨⟨j+1,rfl,by omega,by rw[Y9,<-Qk];exact block_setCell (w:=wr.drewN n1) Y.out _,(X.out.drewN n1).set _ _⟩,by simp[intOf];omega⟩
  ·obtain rfl:j=8:=by omega
   have ab:=(r.block (q+1+1) (by omega) (by omega)).trans aj.out;have U:=QR (k:= .u32) (fun z=>IntKind.wrap_u32 z) (v:=V) ac 8;have ah:=hid (Z.out.trans (X.out.below (by omega) Z.out.size));clear D I r;go_upto_region 6 with(fail)
   apply wp_region_lit
   refine wpList_load_row rfl 288 _ rfl q rfl _ _ _ _ Y.out Tryz.underlying288 rfl (by rw[qg,U.1];kernel_rfl) ?_;refine wpList_store_row rfl 288 _ _ rfl (q+1+1) (qj .u32 (Y9 .u32 h V 8)) rfl rfl 288 _ ab (by rw[qg,U.1];kernel_rfl) (by rw[qg,U.1];rfl) qA ?_;simp only[Act.put,Ls];go_wp2_with fail
   exact Bp (results_cell_row rfl _ _ _ _ _ _ _ rfl (setRow_heap _ _ _ _ _ _ ab) Tryz.underlying288 rfl (by rw[qg,U.1];kernel_rfl)) rfl ⟨rfl,below_setRow (ah.out.mono (by omega)) (by omega) _⟩
theorem qkb (h M:List Int)(G:Words 32 8 h)(hM:Words 32 16 M)(c:Int)(aA:0<=c)(ap:c<18446744073709551616)(q node:Bool)(w:World):Calls Tryz.prog 209 #[.agg (qj .u32 h),.agg (qj .u32 M),.int .u64 c,.bool q,.bool node] w fun e w'=>e= .returned (.agg (qj .u32 (Zy mixSmall IVs 10 h M (c%4294967296) (c/4294967296) q node)))/\Below w.heap.size w w':=by
 obtain⟨o,ar⟩:=Ex w.heap.size;have HC:=hid (qfG h c aA ap q node);have S:=Zv (k:= .u32) (fun z=>IntKind.wrap_u32 z) qaX G (c%4294967296) (c/4294967296) q node;unfold Zy;rw[show mixSmall.k= .u32 from rfl];generalize Y6 .u32 IVs h (c%4294967296) (c/4294967296) q node=X at*;have O:=G;rw[ZC G];go_enter Tryz.func209,Tryz.ntmps209
 go_wp2_with fail
 refine(HC.out _).mono ?_;rintro e1 w1 ⟨rfl,r⟩;have am:=(r.block o (by simp;omega)).trans ((Bh _ _ _ (by simp;omega)).trans ((Bh _ _ _ (by simp;omega)).trans (qe _ _ ar.symm)));have aj:=(r.block (o+1) (by simp;omega)).trans ((Bh _ _ _ (by simp;omega)).trans (qe _ _ (by simp;omega)));have ad:=(r.block (o+1+1) (by simp;omega)).trans (qe _ _ (by simp;omega));have aw:o+3<=w1.heap.size:=by have:=r.size;simp at this;omega
 have ah:Below w.heap.size w w1:=((((Below.refl w.heap.size w).alloc Nl _).alloc (by simp) _).alloc (by simp;omega) _).trans (r.mono (by simp;omega));clear r HC;go_wp2_with ((with_reducible show wpList _ _ _ (Oper.mk none (Op.store 302 _ _) _ _ _ _::_) _ _);refine wpList_store_row rfl 302 _ _ rfl w1.heap.size (qj .u32 X) rfl rfl 302 _ (Wn _ _) (by rw[qg,S.1];kernel_rfl) (by rw[qg,S.1];rfl) qA ?_)
 clear G;refine qm ?_;intro W Y;obtain⟨D,ab⟩:=Ex w1.heap.size;have G:W.heap[o]? =some (.cells #[.int .u32 (wd h 0),.int .u32 (wd h 1),.int .u32 (wd h 2),.int .u32 (wd h 3),.int .u32 (wd h 4),.int .u32 (wd h 5),.int .u32 (wd h 6),.int .u32 (wd h 7)] 288 (0,0)):=by
  rw[Y];exact(setRow_other (w1.alloc _) _ _ _ (by omega)).trans ((Bh _ _ _ (by omega)).trans am)
 have hm:W.heap[o+1]? =some (.cells (qj .u32 M) 302 (0,0)):=by
  rw[Y];exact(setRow_other (w1.alloc _) _ _ _ (by omega)).trans ((Bh _ _ _ (by omega)).trans aj)
 have hr:W.heap[o+1+1]? =some (.cells Kf 288 (0,0)):=by
  rw[Y];exact(setRow_other (w1.alloc _) _ _ _ (by omega)).trans ((Bh _ _ _ (by omega)).trans ad)
 have Z:W.heap[D]? =some (.cells (qj .u32 X) 302 (0,0)):=by
  rw[Y,<-ab];exact setRow_heap _ _ _ _ _ _ (Wn _ _)
 have U:Below w.heap.size w W:=by
  rw[Y];exact below_setRow (ah.alloc (by omega) _) (by omega) _
 rw[<-ZC O]at G;rw[ab];have aB:o+3<=D:=by omega
 clear Y am aj ad aw ah ab;have HH:=hid G;have HM:=hid hm;have HR:=hid hr;have HV:=hid Z;have HB:=hid U;have aC:D<W.heap.size:=(Ai Z).1;clear G hm hr Z U;go_loopw [18] (fun i wr=> ∃j:Nat,i= .int .i64 j/\j<=10/\wr.heap[D]? =some (.cells (qj .u32 (mixSmall.rounds X M j)) 302 (0,0))/\But D W wr) (fun i _=>10 - (intOf i).toNat)
 case atStart=>exact⟨0,rfl,Nat.zero_le _,HV.out,But.refl _ _⟩
 case round=>
  obtain⟨j,rfl,hj,Z,U⟩:=hrel;have hm:=(U.block (o+1) (by omega) (by omega)).trans HM.out;have J:=hid Z;have an:=hid hm;have I:=hid U;clear Z hm U;by_cases aD:j<10
  ·go_wp2_with fail
   refine(qfS D (o+1) (by omega) (mixSmall.rounds X M j) M (yd Qr S j) hM j (by omega) 302 302 _ J.out an.out).mono ?_;rintro e2 w2 ⟨rfl,ak,ag⟩
   have au:=hid ak;have ay:=hid (I.out.trans ag);clear ak ag;go_wp2
   exact⟨⟨j+1,rfl,by omega,au.out,ay.out⟩,by simp[intOf];omega⟩
  ·obtain rfl:j=10:=by omega
   have hV:=yd Qr S (M:=M) 10;obtain⟨V,ac⟩:=Ex (mixSmall.rounds X M 10);have ax:=hid (show Ending.returned (.agg (qj .u32 (Y9 .u32 h V 8)))= .returned (.agg (qj .u32 (Y9 .u32 h (mixSmall.rounds X M 10) 8))) by rw[ac]);rw[ac]at hV J;clear ac;have ao:=(I.out.block o (by omega) (by omega)).trans HH.out;have ae:=(I.out.block (o+1+1) (by omega) (by omega)).trans HR.out;have al:Below w.heap.size w wr:=HB.out.trans (I.out.below (by omega) HB.out.size);have aq:=hid ao;have av:=hid ae;have ai:=hid al;have aE:D<wr.heap.size:=(Ai J.out).1;have hF:=QR (k:= .u32) (fun z=>IntKind.wrap_u32 z) (v:=V) O 8;clear ao ae al an I HH HR HM HV HB;go_upto_region 7 with(fail)
   apply wp_region_lit
   refine wpList_load_row rfl 288 _ rfl o rfl _ _ _ _ aq.out Tryz.underlying288 rfl (by rw[qg,O.1];kernel_rfl) ?_;refine wpList_load_row rfl 302 _ rfl D rfl _ _ _ _ J.out Tryz.underlying302 rfl (by rw[qg,hV.1];kernel_rfl) ?_;simp only[Act.put,Ls];go_wp2_with fail
   refine(qh3 h V O hV _).mono ?_;rintro e6 w6 ⟨rfl,aa⟩
   have af:=(aa.block (o+1+1) (by omega)).trans av.out;have az:=hid (ai.out.trans (aa.mono ai.out.size));clear aa;go_wp2_with ((with_reducible show wpList _ _ _ (Oper.mk none (Op.store 288 _ _) _ _ _ _::_) _ _);refine wpList_store_row rfl 288 _ _ rfl (o+1+1) (qj .u32 (Y9 .u32 h V 8)) rfl rfl 288 _ af (by rw[qg,hF.1];kernel_rfl) (by rw[qg,hF.1];rfl) qA ?_)
   exact Bp (results_cell_row rfl _ _ _ _ _ _ _ rfl (setRow_heap _ _ _ _ _ _ af) Tryz.underlying288 rfl (by rw[qg,hF.1];kernel_rfl)) rfl ⟨ax.out,below_setRow (az.out.mono (by omega)) (by omega) _⟩
theorem qdb (i:Nat)(hi:i<8)(w:World):Calls Tryz.prog 225 #[.int .i64 i] w fun e w'=>e= .returned (.int .u64 (wd IVb i))/\Below w.heap.size w w':=by
 rcases(show i=0\/i=1\/i=2\/i=3\/i=4\/i=5\/i=6\/i=7 by omega)with rfl|rfl|rfl|rfl|rfl|rfl|rfl|rfl
 ·go_enter Tryz.func225,Tryz.ntmps225
  go_wp2
  go_ret
  exact⟨rfl,Br.alloc Nl _⟩
 ·go_enter Tryz.func225,Tryz.ntmps225
  go_wp2
  go_ret
  exact⟨rfl,Br.alloc Nl _⟩
 ·go_enter Tryz.func225,Tryz.ntmps225
  go_wp2
  go_ret
  exact⟨rfl,Br.alloc Nl _⟩
 ·go_enter Tryz.func225,Tryz.ntmps225
  go_wp2
  go_ret
  exact⟨rfl,Br.alloc Nl _⟩
 ·go_enter Tryz.func225,Tryz.ntmps225
  go_wp2
  go_ret
  exact⟨rfl,Br.alloc Nl _⟩
 ·go_enter Tryz.func225,Tryz.ntmps225
  go_wp2
  go_ret
  exact⟨rfl,Br.alloc Nl _⟩
 ·go_enter Tryz.func225,Tryz.ntmps225
  go_wp2
  go_ret
  exact⟨rfl,Br.alloc Nl _⟩
 ·go_enter Tryz.func225,Tryz.ntmps225
  go_wp2
  go_ret
  exact⟨rfl,Br.alloc Nl _⟩
theorem qiO (a:Nat)(q:a<16)(w:World):Calls Tryz.prog 237 #[.int .i64 a] w fun e w'=>e= .returned (.bool true)/\w'=w:=by
 have o:(0:Int)<=a:=by omega
 have r:(a:Int)<=15:=by omega
 go_enter Tryz.func237,Tryz.ntmps237
 go_wp2
 go_ret
 exact⟨rfl,rfl⟩
def qgK (n:Nat):Nat:=if n<10 then 48+n else 87+n
theorem qjd (n:Nat)(q:n<16)(w:World):Calls Tryz.prog 239 #[.int .u8 (qgK n)] w fun e w'=>e= .returned (.int .i64 n)/\w'=w:=by
 by_cases h:n<10
 ·have o:=hid (Y4 (k:= .i64) (show 48+(n:Int) - 48=n by omega));rw[show qgK n=48+n by unfold qgK;rw[if_pos h]];go_enter Tryz.func239,Tryz.ntmps239
  go_wp2
  go_ret
  exact⟨o.out,rfl⟩
 ·have o:=hid (Y4 (k:= .i64) (show 87+(n:Int) - 97+10=n by omega));rw[show qgK n=87+n by unfold qgK;rw[if_neg h]];go_enter Tryz.func239,Tryz.ntmps239
  go_wp2
  go_ret
  exact⟨o.out,rfl⟩
def okTab (s:ByteArray):Bool:=(List.range 160).all fun k=>match s.data[k]? with|some b=>b.toNat==qgK (sigT.flatten.getD k 0)|none=>false
theorem qje (s:ByteArray)(r p i:Nat)(J:p<10)(hi:i<16)(D:r%10=p)(h:16*p+i<s.size)(q:okTab s=true)(w:World):
  Calls Tryz.prog 239 #[.int .u8 ((s[16*p+i]'h).toNat:Nat)] w fun e w'=>e= .returned (.int .i64 (qv r i))/\w'=w:=by
 have o:=List.all_eq_true.1 q (16*p+i) (List.mem_range.2 (by omega));have I:s.data[16*p+i]? =some (s[16*p+i]'h):=Array.getElem?_eq_getElem h;rw[I]at o;have G: ∀p<10,∀i<16,sigT.flatten.getD (16*p+i) 0=(sigT.getD p []).getD i 0:=by decide+kernel
 have O:(s[16*p+i]'h).toNat=qgK (qv r i):=by
  have:=beq_iff_eq.1 o
  rw[this,G p J i hi];unfold qv;rw[D]
 rw[O];exact qjd _ (qW r i) w
theorem qa2 (r i:Nat)(O:r<12)(hi:i<16)(w:World):Calls Tryz.prog 229 #[.int .i64 r,.int .i64 i] w fun e w'=>e= .returned (.int .i64 (qv r i))/\w'=w:=by
 have D:=hid (ZM r 10 w (by decide));have o:=Nat.mod_lt r (show 0<10 by decide);go_enter Tryz.func229,Tryz.ntmps229
 go_wp2_with fail
 refine D.out.mono ?_;rintro J w1 ⟨rfl,rfl⟩;obtain⟨p,q⟩:=Ex (r%10);rw[q]at o⊢;have G:=hid q;clear q D;go_wp2_with fail
 refine(qje _ r p i o hi G.out _ (by kernel_rfl) _).mono ?_;rintro S I ⟨rfl,rfl⟩;go_wp2
 go_ret
 exact⟨rfl,rfl⟩
theorem qhH (i j:Nat)(hi:i<8)(o:j<4):Za[i*4+j]? =some (.int .i64 ((ze i).getD j 0:Nat)):=by
 have h: ∀i<8,∀j<4,((List.range 8).flatMap ze)[i*4+j]? =some ((ze i).getD j 0):=by decide+kernel
 unfold Za yU;rw[List.getElem?_toArray,List.getElem?_map,h i hi j o];rfl
theorem qdR (i:Nat)(hi:i<8)(w:World):Calls Tryz.prog 227 #[.int .i64 i] w fun e w'=>e= .returned (.agg #[.int .i64 (plA i),.int .i64 (plB i),.int .i64 (plC i),.int .i64 (plD i)])/\Below w.heap.size w w':=by
 obtain⟨o,G⟩:=Ex w.heap.size;go_enter Tryz.func227,Tryz.ntmps227
 go_upto_region 1 with(fail)
 apply wp_region_lit
 refine wpList_buildTo rfl 334 _ rfl (some 4) rfl (yU (ze 0)) (by kernel_rfl) ?_;simp only[Act.put,Ls];refine wpList_buildTo rfl 334 _ rfl (some 5) rfl (yU (ze 1)) (by kernel_rfl) ?_;simp only[Act.put,Ls];refine wpList_buildTo rfl 334 _ rfl (some 6) rfl (yU (ze 2)) (by kernel_rfl) ?_;simp only[Act.put,Ls];refine wpList_buildTo rfl 334 _ rfl (some 7) rfl (yU (ze 3)) (by kernel_rfl) ?_;simp only[Act.put,Ls];refine wpList_buildTo rfl 334 _ rfl (some 8) rfl (yU (ze 4)) (by kernel_rfl) ?_;simp only[Act.put,Ls];refine wpList_buildTo rfl 334 _ rfl (some 9) rfl (yU (ze 5)) (by kernel_rfl) ?_;simp only[Act.put,Ls];refine wpList_buildTo rfl 334 _ rfl (some 10) rfl (yU (ze 6)) (by kernel_rfl) ?_;simp only[Act.put,Ls];refine wpList_buildTo rfl 334 _ rfl (some 11) rfl (yU (ze 7)) (by kernel_rfl) ?_;simp only[Act.put,Ls];refine wpList_buildTo rfl 343 _ rfl (some 12) rfl Za (by kernel_rfl) ?_;simp only[Act.put,Ls];refine wpList_plain rfl fun _ J=>?_
 go_simp
 refine J _ _ ?_;clear J;refine wpList_store_row rfl 343 _ _ rfl (o+1) Za rfl rfl 343 _ (qe _ _ (by simp;omega)) (by kernel_rfl) (by kernel_rfl) (by kernel_rfl) ?_;simp only[Act.put,Ls];go_upto_region 2 with(fail)
 refine qm ?_;intro W r;have I:W.heap[o+1]? =some (.cells Za 343 (0,0)):=by
  rw[r];exact setRow_heap _ _ _ _ _ _ (qe _ _ (by simp;omega))
 have D:W.heap[o]? =some (.cells #[.int .i64 0,.int .i64 0,.int .i64 0,.int .i64 0] 334 (0,0)):=by
  rw[r];exact(setRow_other _ _ _ _ (by omega)).trans ((Bh _ _ _ (by simp;omega)).trans (qe _ _ G.symm))
 have S:Below w.heap.size w W:=by
  rw[r];exact below_setRow (((Below.refl w.heap.size w).alloc Nl _).alloc (by simp) _) (by omega) _
 clear r;have q:=fun j X=>(qq I (i*4+j)).trans (qhH i j hi X)
 have c0:W.cell? ⟨o+1,i*4,none⟩=some (.int .i64 (plA i)):=q 0 (by decide);have c1:W.cell? ⟨o+1,i*4+1,none⟩=some (.int .i64 (plB i)):=q 1 (by decide);have c2:W.cell? ⟨o+1,i*4+2,none⟩=some (.int .i64 (plC i)):=q 2 (by decide);have c3:W.cell? ⟨o+1,i*4+3,none⟩=some (.int .i64 (plD i)):=q 3 (by decide);have Z:((i:Nat):Int).tmod 8=(i:Int):=by rw[Int.tmod_eq_emod_of_nonneg (by omega)];omega
 have U:(i:Int)<8:=by omega
 have V:=hid D;obtain⟨Y,fR⟩:=qR D;clear I q D;go_wp2_with fail
 have O:=block_setCell (i:=3) (block_setCell (i:=2) (block_setCell (i:=1) (block_setCell (i:=0) V.out (.int .i64 (plA i))) (.int .i64 (plB i))) (.int .i64 (plC i))) (.int .i64 (plD i));exact Bp (results_cell_row rfl _ _ _ _ _ _ _ rfl O Tryz.underlying334 rfl rfl) rfl ⟨rfl,(((S.setCell (by simp;omega) _).setCell (by simp;omega) _).setCell (by simp;omega) _).setCell (by simp;omega) _ |>.mono (by omega)⟩
theorem qI {P:Program}{p:Tmp}{o:TypeId}(h:fn.results= #[.cell p o,.tmp u])(tmps:Array Value)(w:World)(g:Nat)(t:TypeId)(cs:Array Value)(fr:Nat×Nat)(d:TypeDesc)
  (D:tmps.getD p undef= .pointer (some ⟨g,0,none⟩)) (G:w.heap[g]? =some (.cells cs t fr))
  (q:P.underlying o=some d) (r:(match d with| .struct _| .array _ _=>true|_=>false)=true) (hi:(P.info? o).map (·.size)=some cs.size):
  (results fn tmps).run P w= .ok (.tuple #[.agg cs,tmps.getD u undef]) w:=by
 rw[results_cell_tmp h,D];simp[asAddr,run_loadVar_row w g t o cs fr d G q r hi]
theorem qkl (L:List Int)(hL:Words 64 16 L)(D q I G:Nat)(ha:D<16)(hb:q<16)(hc:I<16)(hd:G<16)(ae:D≠q)(ag:D≠I)(ah:D≠G)(af:q≠I)(ad:q≠G)(ai:I≠G)
  (x y:Int) (w:World):
  Calls Tryz.prog 228 #[.agg (qj .u64 L),.int .i64 D,.int .i64 q,.int .i64 I,.int .i64 G,.int .u64 x,.int .u64 y] w fun e w'=>e= .returned (.tuple #[.agg (qj .u64 (mixBig.step L D q I G x y)),.int .i64 0])/\Below w.heap.size w w':=by
 obtain⟨b0,az⟩:=Ex w.heap.size;have hm: ∀z,IntKind.u64.wrap z=z%2^64:=fun z=>IntKind.wrap_u64 z
 obtain⟨A1,aw⟩:=Ex (IntKind.u64.wrap (IntKind.u64.wrap (wd L D+wd L q)+x));obtain⟨X1,ak⟩:=Ex (bits BinOp.xor .u64 (wd L G) A1);obtain⟨D1,ao⟩:=Ex (yo 64 32 X1);obtain⟨C1,ax⟩:=Ex (IntKind.u64.wrap (wd L I+D1));obtain⟨X2,al⟩:=Ex (bits BinOp.xor .u64 (wd L q) C1);obtain⟨B1,an⟩:=Ex (yo 64 24 X2);obtain⟨A2,aB⟩:=Ex (IntKind.u64.wrap (IntKind.u64.wrap (A1+B1)+y));obtain⟨X3,aq⟩:=Ex (bits BinOp.xor .u64 D1 A2);obtain⟨D2,ap⟩:=Ex (yo 64 16 X3);obtain⟨C2,aA⟩:=Ex (IntKind.u64.wrap (C1+D2));obtain⟨X4,ar⟩:=Ex (bits BinOp.xor .u64 B1 C2);obtain⟨B2,am⟩:=Ex (yo 64 63 X4);have R1:=hid (fun w=>qhs X1 w (ak▸Qe .xor .u64 64 hm _ _));have R2:=hid (fun w=>qht X2 w (al▸Qe .xor .u64 64 hm _ _));have R3:=hid (fun w=>qhu X3 w (aq▸Qe .xor .u64 64 hm _ _));have R4:=hid (fun w=>qhr X4 w (ar▸Qe .xor .u64 64 hm _ _));have ES:mixBig.step L D q I G x y=(((L.set D A2).set G D2).set I C2).set q B2:=by
  have e1:A1=mixBig.a1 (wd L D) (wd L q) x:=by rw[<-aw];exact qkd 64 .u64 hm _ _ _
  have e2:D1=mixBig.d1 (wd L D) (wd L q) (wd L G) x:=by rw[<-ao,<-ak,e1];rfl
  have e3:C1=mixBig.c1 (wd L D) (wd L q) (wd L I) (wd L G) x:=by rw[<-ax,e2];exact hm _
  have e4:B1=mixBig.b1 (wd L D) (wd L q) (wd L I) (wd L G) x:=by rw[<-an,<-al,e3];rfl
  have e5:A2=mixBig.a2 (wd L D) (wd L q) (wd L I) (wd L G) x y:=by rw[<-aB,e1,e4];exact qkd 64 .u64 hm _ _ _
  have e6:D2=mixBig.d2 (wd L D) (wd L q) (wd L I) (wd L G) x y:=by rw[<-ap,<-aq,e2,e5];rfl
  have e7:C2=mixBig.c2 (wd L D) (wd L q) (wd L I) (wd L G) x y:=by rw[<-aA,e3,e6];exact hm _
  have e8:B2=mixBig.b2 (wd L D) (wd L q) (wd L I) (wd L G) x y:=by rw[<-am,<-ar,e4,e7];rfl
  rw[e5,e6,e7,e8];rfl
 have aD:=hid (show Ending.returned (.tuple #[.agg (qj .u64 ((((L.set D A2).set G D2).set I C2).set q B2)),.int .i64 0])= .returned (.tuple #[.agg (qj .u64 (mixBig.step L D q I G x y)),.int .i64 0]) by rw[ES]);rw[ao]at R1;rw[an]at R2;rw[ap]at R3;rw[am]at R4;clear ao an ap am ES hm;obtain⟨va,ac⟩:=Ex (wd L D);obtain⟨vb,Z⟩:=Ex (wd L q);obtain⟨vc,ab⟩:=Ex (wd L I);obtain⟨vd,aa⟩:=Ex (wd L G);rw[ac,Z]at aw;rw[aa]at ak;rw[ab]at ax;rw[Z]at al;have av:=hid (And.intro ac (And.intro Z (And.intro ab aa)));clear ac Z ab aa;have HN:=hid (And.intro ae (And.intro ag (And.intro ah (And.intro af (And.intro ad ai)))));have n0:((D:Int)==(q:Int))=false:=by rw[beq_eq_false_iff_ne];omega
 have n1:((D:Int)==(I:Int))=false:=by rw[beq_eq_false_iff_ne];omega
 have n2:((D:Int)==(G:Int))=false:=by rw[beq_eq_false_iff_ne];omega
 have n3:((q:Int)==(I:Int))=false:=by rw[beq_eq_false_iff_ne];omega
 have n4:((q:Int)==(G:Int))=false:=by rw[beq_eq_false_iff_ne];omega
 have n5:((I:Int)==(G:Int))=false:=by rw[beq_eq_false_iff_ne];omega
 go_enter Tryz.func228,Tryz.ntmps228
 clear ae ag ah af ad ai;iterate 4
  go_wp2_with fail
  refine(qiO _ (by assumption) _).mono ?_;rintro r w1 ⟨rfl,rfl⟩
 go_wp2_with fail
 obtain⟨ae,ag,ah,af,ad,ai⟩:=HN.out;refine qm ?_;intro W o;have hv:W.heap[b0]? =some (.cells (qj .u64 L) 257 (0,0)):=by
  rw[o];exact(Bh _ _ _ (by simp;omega)).trans (qe _ _ az.symm)
 have hr:W.heap[b0+1]? =some (.cells Ka 257 (0,0)):=by
  rw[o];exact qe _ _ (by simp;omega)
 have hB:Below w.heap.size w W:=by
  rw[o];exact((Below.refl w.heap.size w).alloc Nl _).alloc (by simp) _
 clear o;obtain⟨ac,Z,ab,aa⟩:=av.out;have h0:At4 .u64 b0 257 D q I G W L va vb vc vd W:=⟨hv,hL.1,ac,Z,ab,aa,⟨ha,hb,hc,hd⟩,⟨ae,ag,ah,af,ad,ai⟩,But.refl _ _⟩;have HR:=hid hr;have HB:=hid hB;clear hv hr hB ac Z ab aa av;refine qm ?_;intro W0 o;have H0:=hid (h0.letter o);obtain⟨X,V,S,U,O,Y⟩:=H0.out.facts;clear o h0;refine qk (by dsimp only[List.dropLast]) (by rfl) (by rfl) (by kernel_rfl) (by kernel_rfl) (by kernel_rfl) (by kernel_rfl) ?_;repeat(go_big_quiet_step (fail))
 refine wpQuiet_nil ?_;intro _ J;obtain⟨n0,rfl⟩:=J;go_wp2_with fail
 clear X V S U O Y;have h1:=H0.out.setA n0 A1;clear H0;refine qm ?_;intro W1 o;have H1:=hid (h1.letter o);obtain⟨X,V,S,U,O,Y⟩:=H1.out.facts;clear o h1;refine qk (by dsimp only[List.dropLast]) (by rfl) (by rfl) (by kernel_rfl) (by kernel_rfl) (by kernel_rfl) (by kernel_rfl) ?_;repeat(go_big_quiet_step (exact Calls.quiet_of (R1.out _)))
 refine wpQuiet_nil ?_;intro _ J;obtain⟨n1,rfl⟩:=J;go_wp2_with fail
 clear X V S U O Y;have h2:=H1.out.setD n1 D1;clear H1;refine qm ?_;intro W2 o;have H2:=hid (h2.letter o);obtain⟨X,V,S,U,O,Y⟩:=H2.out.facts;clear o h2;refine qk (by dsimp only[List.dropLast]) (by rfl) (by rfl) (by kernel_rfl) (by kernel_rfl) (by kernel_rfl) (by kernel_rfl) ?_;repeat(go_big_quiet_step (fail))
 refine wpQuiet_nil ?_;intro _ J;obtain⟨n2,rfl⟩:=J;go_wp2_with fail
 clear X V S U O Y;have h3:=H2.out.setC n2 C1;clear H2;refine qm ?_;intro W3 o;have H3:=hid (h3.letter o);obtain⟨X,V,S,U,O,Y⟩:=H3.out.facts;clear o h3;refine qk (by dsimp only[List.dropLast]) (by rfl) (by rfl) (by kernel_rfl) (by kernel_rfl) (by kernel_rfl) (by kernel_rfl) ?_;repeat(go_big_quiet_step (exact Calls.quiet_of (R2.out _)))
 refine wpQuiet_nil ?_;intro _ J;obtain⟨n3,rfl⟩:=J;go_wp2_with fail
 clear X V S U O Y;have h4:=H3.out.setB n3 B1;clear H3;refine qm ?_;intro W4 o;have H4:=hid (h4.letter o);obtain⟨X,V,S,U,O,Y⟩:=H4.out.facts;clear o h4;refine qk (by dsimp only[List.dropLast]) (by rfl) (by rfl) (by kernel_rfl) (by kernel_rfl) (by kernel_rfl) (by kernel_rfl) ?_;repeat(go_big_quiet_step (fail))
 refine wpQuiet_nil ?_;intro _ J;obtain⟨n4,rfl⟩:=J;go_wp2_with fail
 clear X V S U O Y;have h5:=H4.out.setA n4 A2;clear H4;refine qm ?_;intro W5 o;have H5:=hid (h5.letter o);obtain⟨X,V,S,U,O,Y⟩:=H5.out.facts;clear o h5;refine qk (by dsimp only[List.dropLast]) (by rfl) (by rfl) (by kernel_rfl) (by kernel_rfl) (by kernel_rfl) (by kernel_rfl) ?_;repeat(go_big_quiet_step (exact Calls.quiet_of (R3.out _)))
 refine wpQuiet_nil ?_;intro _ J;obtain⟨n5,rfl⟩:=J;go_wp2_with fail
 clear X V S U O Y;have h6:=H5.out.setD n5 D2;clear H5;refine qm ?_;intro W6 o;have H6:=hid (h6.letter o);obtain⟨X,V,S,U,O,Y⟩:=H6.out.facts;clear o h6;refine qk (by dsimp only[List.dropLast]) (by rfl) (by rfl) (by kernel_rfl) (by kernel_rfl) (by kernel_rfl) (by kernel_rfl) ?_;repeat(go_big_quiet_step (fail))
 refine wpQuiet_nil ?_;intro _ J;obtain⟨n6,rfl⟩:=J;go_wp2_with fail
 clear X V S U O Y;have h7:=H6.out.setC n6 C2;clear H6;refine qm ?_;intro W7 o;have H7:=hid (h7.letter o);obtain⟨X,V,S,U,O,Y⟩:=H7.out.facts;clear o h7;refine qk (by dsimp only[List.dropLast]) (by rfl) (by rfl) (by kernel_rfl) (by kernel_rfl) (by kernel_rfl) (by kernel_rfl) ?_;repeat(go_big_quiet_step (exact Calls.quiet_of (R4.out _)))
 refine wpQuiet_nil ?_;intro _ J;obtain⟨n7,rfl⟩:=J;go_upto_region 11 with(fail)
 clear X V S U O Y;have h8:=H7.out.setB n7 B2;clear H7;have aj:((((L.set D A2).set G D2).set I C2).set q B2).length=16:=by simpa using hL.1
 have au:=(h8.but.block (b0+1) (Ai HR.out).1 (by omega)).trans HR.out;have ay:=h8.heap;have aC:=hid (HB.out.trans (h8.but.below (by omega) HB.out.size));rw[qjK ae ag ah af ad ai]at ay;generalize (((L.set D A2).set G D2).set I C2).set q B2=L8 at*;clear h8;apply wp_region_lit
 refine wpList_load_row rfl 257 _ rfl b0 rfl _ _ _ _ ay Tryz.underlying257 rfl (by rw[qg,aj];kernel_rfl) ?_;refine wpList_store_row rfl 257 _ _ rfl (b0+1) (qj .u64 L8) rfl rfl 257 _ au (by rw[qg,aj];kernel_rfl) (by rw[qg,aj];rfl) qA ?_;simp only[Act.put,Ls];go_wp2_with fail
 exact Bp (qI rfl _ _ _ _ _ _ _ rfl (setRow_heap _ _ _ _ _ _ au) Tryz.underlying257 rfl (by rw[qg,aj];kernel_rfl)) rfl ⟨Eq.trans (b:= .returned (.tuple #[.agg (qj .u64 L8),.int .i64 0])) rfl aD.out,below_setRow (aC.out.mono (by omega)) (by omega) _⟩
def n4 (a b c d:Nat)(i:Nat):Nat:=match i with|0=>a|1=>b|2=>c|_=>d
theorem qgj (D r o q:Nat)(ha:D<16)(hb:r<16)(hc:o<16)(hd:q<16)(V:D≠r)(O:D≠o)(X:D≠q)(U:r≠o)(S:r≠q)(Y:o≠q)(w:World):
  Calls Tryz.prog 241 #[.int .i64 D,.int .i64 r,.int .i64 o,.int .i64 q] w fun e w'=>e= .returned (.bool true)/\Below w.heap.size w w':=by
 have G: ∀i,i<4->n4 D r o q i<16:=fun i hi=>by
  match i,hi with
  | 0,_=>exact ha
  | 1,_=>exact hb
  | 2,_=>exact hc
  | 3,_=>exact hd
 have Z: ∀i j,i<4->j<i->n4 D r o q i≠n4 D r o q j:=fun i j hi hj=>by
  match i,j,hi,hj with
  | 1,0,_,_=>exact Ne.symm V
  | 2,0,_,_=>exact Ne.symm O
  | 2,1,_,_=>exact Ne.symm U
  | 3,0,_,_=>exact Ne.symm X
  | 3,1,_,_=>exact Ne.symm S
  | 3,2,_,_=>exact Ne.symm Y
 have ad:=hid G;have ab:=hid Z;clear ha hb hc hd V O X U S Y G Z;obtain⟨b0,aa⟩:=Ex w.heap.size;go_enter Tryz.func241,Tryz.ntmps241
 go_wp2_with fail
 refine qm ?_;intro W hW;have hl:W.heap[b0]? =some (.cells #[.int .i64 D,.int .i64 r,.int .i64 o,.int .i64 q] 3 (0,0)):=by
  rw[hW];exact qe _ _ aa.symm
 have hB:Below w.heap.size w W:=by rw[hW];exact Br.alloc Nl _
 have I: ∀i,i<4->W.cell? ⟨b0,i,none⟩=some (.int .i64 (n4 D r o q i)):=fun i hi=>by
  rw[qq hl];match i,hi with
  | 0,_=>rfl
  | 1,_=>rfl
  | 2,_=>rfl
  | 3,_=>rfl
 have HC:=hid I;clear hW hl I;go_loopw [10] (fun i wr=> ∃j m:Nat,i= .int .i64 j/\j<=4/\wr=W.drewN m) (fun i _=>4 - (intOf i).toNat)
 case atStart=>exact⟨0,0,rfl,Nat.zero_le _,rfl⟩
 case round=>
  obtain⟨j,m,rfl,hj,rfl⟩:=hrel;by_cases G:j<4
  ·have c1:=HC.out j G;have l1:=ad.out j G;have HN:=hid (fun k hk=>ab.out j k G hk);have ac:=hid (fun k (hk:k<j)=>HC.out k (by omega));generalize n4 D r o q j=x at*;have q1: ¬((x:Int)<0):=by omega
   have q2: ¬(15<(x:Int)):=by omega
   go_wp2_with fail
   go_loopw [11] (fun i wr=> ∃k m:Nat,i= .int .i64 k/\k<=j/\wr=W.drewN m) (fun i _=>j - (intOf i).toNat)
   case atStart=>exact⟨0,m,rfl,Nat.zero_le _,rfl⟩
   case round=>
    obtain⟨k,m2,rfl,hk,rfl⟩:=hrel;by_cases J:k<j
    ·have c2:=ac.out k J;have n2:=HN.out k J;generalize n4 D r o q k=y at*;have n3:((x:Int)==(y:Int))=false:=by rw[beq_eq_false_iff_ne];omega
     have q3:k<4:=by omega
     clear n2;go_wp2_with fail
     go_quiet (fail)
     go_wp2
     exact⟨⟨k+1,_,rfl,by omega,rfl⟩,by simp[intOf];omega⟩
    ·obtain rfl:k=j:=by omega
     go_wp2
     exact⟨⟨k+1,m2,rfl,by omega,rfl⟩,by simp[intOf];omega⟩
  ·obtain rfl:j=4:=by omega
   go_wp2
   go_ret
   exact⟨rfl,hB.trans (QY _)⟩
theorem yx {t v x:Tmp}(h:fn.results= #[.tmp t,.tmp u,.tmp v,.tmp x])(tmps:Array Value)(P:Program)(w:World):
  (results fn tmps).run P w= .ok (.tuple #[tmps.getD t undef,tmps.getD u undef,tmps.getD v undef,tmps.getD x undef]) w:=by
 simp[results,h]
theorem qj2 (i:Nat)(hi:i<8)(w:World):Calls Tryz.prog 230 #[.int .i64 i] w fun e w'=>e= .returned (.tuple #[.int .i64 (plA i),.int .i64 (plB i),.int .i64 (plC i),.int .i64 (plD i)])/\w'=w:=by
 rcases(show i=0\/i=1\/i=2\/i=3\/i=4\/i=5\/i=6\/i=7 by omega)with rfl|rfl|rfl|rfl|rfl|rfl|rfl|rfl
 ·go_enter Tryz.func230,Tryz.ntmps230
  go_wp2
  exact Bp (yx rfl _ _ _) rfl ⟨rfl,rfl⟩
 ·go_enter Tryz.func230,Tryz.ntmps230
  go_wp2
  exact Bp (yx rfl _ _ _) rfl ⟨rfl,rfl⟩
 ·go_enter Tryz.func230,Tryz.ntmps230
  go_wp2
  exact Bp (yx rfl _ _ _) rfl ⟨rfl,rfl⟩
 ·go_enter Tryz.func230,Tryz.ntmps230
  go_wp2
  exact Bp (yx rfl _ _ _) rfl ⟨rfl,rfl⟩
 ·go_enter Tryz.func230,Tryz.ntmps230
  go_wp2
  exact Bp (yx rfl _ _ _) rfl ⟨rfl,rfl⟩
 ·go_enter Tryz.func230,Tryz.ntmps230
  go_wp2
  exact Bp (yx rfl _ _ _) rfl ⟨rfl,rfl⟩
 ·go_enter Tryz.func230,Tryz.ntmps230
  go_wp2
  exact Bp (yx rfl _ _ _) rfl ⟨rfl,rfl⟩
 ·go_enter Tryz.func230,Tryz.ntmps230
  go_wp2
  exact Bp (yx rfl _ _ _) rfl ⟨rfl,rfl⟩
theorem qkm (L:List Int)(hL:Words 32 16 L)(D q J I:Nat)(ha:D<16)(hb:q<16)(hc:J<16)(hd:I<16)(ac:D≠q)(ag:D≠J)(ah:D≠I)(ad:q≠J)(aa:q≠I)(ai:J≠I)
  (x y:Int) (w:World):
  Calls Tryz.prog 231 #[.agg (qj .u32 L),.int .i64 D,.int .i64 q,.int .i64 J,.int .i64 I,.int .u32 x,.int .u32 y] w fun e w'=>e= .returned (.tuple #[.agg (qj .u32 (mixSmall.step L D q J I x y)),.int .i64 0])/\Below w.heap.size w w':=by
 obtain⟨b0,aA⟩:=Ex w.heap.size;have hm: ∀z,IntKind.u32.wrap z=z%2^32:=fun z=>IntKind.wrap_u32 z
 obtain⟨A1,ax⟩:=Ex ((wd L D+wd L q+x)%4294967296);obtain⟨X1,al⟩:=Ex (bits BinOp.xor .u32 (wd L I) A1);obtain⟨D1,ap⟩:=Ex (yo 32 16 X1);obtain⟨C1,ay⟩:=Ex ((wd L J+D1)%4294967296);obtain⟨X2,am⟩:=Ex (bits BinOp.xor .u32 (wd L q) C1);obtain⟨B1,ao⟩:=Ex (yo 32 12 X2);obtain⟨A2,aC⟩:=Ex ((A1+B1+y)%4294967296);obtain⟨X3,ar⟩:=Ex (bits BinOp.xor .u32 D1 A2);obtain⟨D2,aq⟩:=Ex (yo 32 8 X3);obtain⟨C2,aB⟩:=Ex ((C1+D2)%4294967296);obtain⟨X4,au⟩:=Ex (bits BinOp.xor .u32 B1 C2);obtain⟨B2,an⟩:=Ex (yo 32 7 X4);have R1:=hid (fun w=>qhv X1 w (al▸Qe .xor .u32 32 hm _ _));have R2:=hid (fun w=>qhw X2 w (am▸Qe .xor .u32 32 hm _ _));have R3:=hid (fun w=>qik X3 w (ar▸Qe .xor .u32 32 hm _ _));have R4:=hid (fun w=>qil X4 w (au▸Qe .xor .u32 32 hm _ _));have ES:mixSmall.step L D q J I x y=(((L.set D A2).set I D2).set J C2).set q B2:=by
  have e1:A1=mixSmall.a1 (wd L D) (wd L q) x:=by rw[<-ax];rfl
  have e2:D1=mixSmall.d1 (wd L D) (wd L q) (wd L I) x:=by rw[<-ap,<-al,e1];rfl
  have e3:C1=mixSmall.c1 (wd L D) (wd L q) (wd L J) (wd L I) x:=by rw[<-ay,e2];rfl
  have e4:B1=mixSmall.b1 (wd L D) (wd L q) (wd L J) (wd L I) x:=by rw[<-ao,<-am,e3];rfl
  have e5:A2=mixSmall.a2 (wd L D) (wd L q) (wd L J) (wd L I) x y:=by rw[<-aC,e1,e4];rfl
  have e6:D2=mixSmall.d2 (wd L D) (wd L q) (wd L J) (wd L I) x y:=by rw[<-aq,<-ar,e2,e5];rfl
  have e7:C2=mixSmall.c2 (wd L D) (wd L q) (wd L J) (wd L I) x y:=by rw[<-aB,e3,e6];rfl
  have e8:B2=mixSmall.b2 (wd L D) (wd L q) (wd L J) (wd L I) x y:=by rw[<-an,<-au,e4,e7];rfl
  rw[e5,e6,e7,e8];rfl
 have aE:=hid (show Ending.returned (.tuple #[.agg (qj .u32 ((((L.set D A2).set I D2).set J C2).set q B2)),.int .i64 0])= .returned (.tuple #[.agg (qj .u32 (mixSmall.step L D q J I x y)),.int .i64 0]) by rw[ES]);rw[ap]at R1;rw[ao]at R2;rw[aq]at R3;rw[an]at R4;clear ap ao aq an ES hm;obtain⟨va,af⟩:=Ex (wd L D);obtain⟨vb,Z⟩:=Ex (wd L q);obtain⟨vc,ae⟩:=Ex (wd L J);obtain⟨vd,ab⟩:=Ex (wd L I);rw[af,Z]at ax;rw[ab]at al;rw[ae]at ay;rw[Z]at am;have aw:=hid (And.intro af (And.intro Z (And.intro ae ab)));clear af Z ae ab;have HN:=hid (And.intro ac (And.intro ag (And.intro ah (And.intro ad (And.intro aa ai)))));go_enter Tryz.func231,Tryz.ntmps231
 go_wp2_with fail
 refine(qgj D q J I ha hb hc hd ac ag ah ad aa ai _).mono ?_;rintro r w1 ⟨rfl,ak⟩;clear ac ag ah ad aa ai;go_wp2_with fail
 obtain⟨ac,ag,ah,ad,aa,ai⟩:=HN.out;refine qm ?_;intro W o;have hv:W.heap[b0]? =some (.cells (qj .u32 L) 302 (0,0)):=by
  rw[o];exact(ak.block b0 (by simp;omega)).trans ((Bh _ _ _ (by simp;omega)).trans (qe _ _ aA.symm))
 have hr:W.heap[b0+1]? =some (.cells Kd 302 (0,0)):=by
  rw[o];exact(ak.block (b0+1) (by simp;omega)).trans (qe _ _ (by simp;omega))
 have hB:Below w.heap.size w W:=by
  rw[o];exact(((Below.refl w.heap.size w).alloc Nl _).alloc (by simp) _).trans (ak.mono (by simp;omega))
 clear o ak;obtain⟨af,Z,ae,ab⟩:=aw.out;have h0:At4 .u32 b0 302 D q J I W L va vb vc vd W:=⟨hv,hL.1,af,Z,ae,ab,⟨ha,hb,hc,hd⟩,⟨ac,ag,ah,ad,aa,ai⟩,But.refl _ _⟩;have HR:=hid hr;have HB:=hid hB;clear hv hr hB af Z ae ab aw;refine qm ?_;intro W0 o;have H0:=hid (h0.letter o);obtain⟨X,V,S,U,O,Y⟩:=H0.out.facts;clear o h0;refine qk (by dsimp only[List.dropLast]) (by rfl) (by rfl) (by kernel_rfl) (by kernel_rfl) (by kernel_rfl) (by kernel_rfl) ?_;repeat(go_big_quiet_step (fail))
 refine wpQuiet_nil ?_;intro _ G;obtain⟨n0,rfl⟩:=G;go_wp2_with fail
 clear X V S U O Y;have h1:=H0.out.setA n0 A1;clear H0;refine qm ?_;intro W1 o;have H1:=hid (h1.letter o);obtain⟨X,V,S,U,O,Y⟩:=H1.out.facts;clear o h1;refine qk (by dsimp only[List.dropLast]) (by rfl) (by rfl) (by kernel_rfl) (by kernel_rfl) (by kernel_rfl) (by kernel_rfl) ?_;repeat(go_big_quiet_step (exact Calls.quiet_of_same (R1.out _)))
 refine wpQuiet_nil ?_;intro _ G;obtain⟨n1,rfl⟩:=G;go_wp2_with fail
 clear X V S U O Y;have h2:=H1.out.setD n1 D1;clear H1;refine qm ?_;intro W2 o;have H2:=hid (h2.letter o);obtain⟨X,V,S,U,O,Y⟩:=H2.out.facts;clear o h2;refine qk (by dsimp only[List.dropLast]) (by rfl) (by rfl) (by kernel_rfl) (by kernel_rfl) (by kernel_rfl) (by kernel_rfl) ?_;repeat(go_big_quiet_step (fail))
 refine wpQuiet_nil ?_;intro _ G;obtain⟨n2,rfl⟩:=G;go_wp2_with fail
 clear X V S U O Y;have h3:=H2.out.setC n2 C1;clear H2;refine qm ?_;intro W3 o;have H3:=hid (h3.letter o);obtain⟨X,V,S,U,O,Y⟩:=H3.out.facts;clear o h3;refine qk (by dsimp only[List.dropLast]) (by rfl) (by rfl) (by kernel_rfl) (by kernel_rfl) (by kernel_rfl) (by kernel_rfl) ?_;repeat(go_big_quiet_step (exact Calls.quiet_of_same (R2.out _)))
 refine wpQuiet_nil ?_;intro _ G;obtain⟨n3,rfl⟩:=G;go_wp2_with fail
 clear X V S U O Y;have h4:=H3.out.setB n3 B1;clear H3;refine qm ?_;intro W4 o;have H4:=hid (h4.letter o);obtain⟨X,V,S,U,O,Y⟩:=H4.out.facts;clear o h4;refine qk (by dsimp only[List.dropLast]) (by rfl) (by rfl) (by kernel_rfl) (by kernel_rfl) (by kernel_rfl) (by kernel_rfl) ?_;repeat(go_big_quiet_step (fail))
 refine wpQuiet_nil ?_;intro _ G;obtain⟨n4,rfl⟩:=G;go_wp2_with fail
 clear X V S U O Y;have h5:=H4.out.setA n4 A2;clear H4;refine qm ?_;intro W5 o;have H5:=hid (h5.letter o);obtain⟨X,V,S,U,O,Y⟩:=H5.out.facts;clear o h5;refine qk (by dsimp only[List.dropLast]) (by rfl) (by rfl) (by kernel_rfl) (by kernel_rfl) (by kernel_rfl) (by kernel_rfl) ?_;repeat(go_big_quiet_step (exact Calls.quiet_of_same (R3.out _)))
 refine wpQuiet_nil ?_;intro _ G;obtain⟨n5,rfl⟩:=G;go_wp2_with fail
 clear X V S U O Y;have h6:=H5.out.setD n5 D2;clear H5;refine qm ?_;intro W6 o;have H6:=hid (h6.letter o);obtain⟨X,V,S,U,O,Y⟩:=H6.out.facts;clear o h6;refine qk (by dsimp only[List.dropLast]) (by rfl) (by rfl) (by kernel_rfl) (by kernel_rfl) (by kernel_rfl) (by kernel_rfl) ?_;repeat(go_big_quiet_step (fail))
 refine wpQuiet_nil ?_;intro _ G;obtain⟨n6,rfl⟩:=G;go_wp2_with fail
 clear X V S U O Y;have h7:=H6.out.setC n6 C2;clear H6;refine qm ?_;intro W7 o;have H7:=hid (h7.letter o);obtain⟨X,V,S,U,O,Y⟩:=H7.out.facts;clear o h7;refine qk (by dsimp only[List.dropLast]) (by rfl) (by rfl) (by kernel_rfl) (by kernel_rfl) (by kernel_rfl) (by kernel_rfl) ?_;repeat(go_big_quiet_step (exact Calls.quiet_of_same (R4.out _)))
 refine wpQuiet_nil ?_;intro _ G;obtain⟨n7,rfl⟩:=G;go_upto_region 11 with(fail)
 clear X V S U O Y;have h8:=H7.out.setB n7 B2;clear H7;have aj:((((L.set D A2).set I D2).set J C2).set q B2).length=16:=by simpa using hL.1
 have av:=(h8.but.block (b0+1) (Ai HR.out).1 (by omega)).trans HR.out;have az:=h8.heap;have aD:=hid (HB.out.trans (h8.but.below (by omega) HB.out.size));rw[qjK ac ag ah ad aa ai]at az;generalize (((L.set D A2).set I D2).set J C2).set q B2=L8 at*;clear h8;apply wp_region_lit
 refine wpList_load_row rfl 302 _ rfl b0 rfl _ _ _ _ az Tryz.underlying302 rfl (by rw[qg,aj];kernel_rfl) ?_;refine wpList_store_row rfl 302 _ _ rfl (b0+1) (qj .u32 L8) rfl rfl 302 _ av (by rw[qg,aj];kernel_rfl) (by rw[qg,aj];rfl) qA ?_;simp only[Act.put,Ls];go_wp2_with fail
 exact Bp (qI rfl _ _ _ _ _ _ _ rfl (setRow_heap _ _ _ _ _ _ av) Tryz.underlying302 rfl (by rw[qg,aj];kernel_rfl)) rfl ⟨Eq.trans (b:= .returned (.tuple #[.agg (qj .u32 L8),.int .i64 0])) rfl aE.out,below_setRow (aD.out.mono (by omega)) (by omega) _⟩

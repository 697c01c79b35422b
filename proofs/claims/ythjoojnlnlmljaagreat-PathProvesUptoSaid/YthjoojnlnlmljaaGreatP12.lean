/- The beginning of the rounds, by the program. No condition. -/
import Derived.Test.YthjoojnlnlmljaaGreatP11
import Derived.Laws.CopyOwn
import Derived.Laws.Strings
import Derived.Laws.ResultCell
set_option linter.all false
set_option maxRecDepth 100000
set_option maxHeartbeats 8000000
namespace Go.Proofs.YthjoojnlnlmljaaGreat
open Go.ChangeShapes Go.WideShapes Go.ChangeAt Go.RowKit Go.Joins
open Go.Lib (hid)
attribute [local go_sem] Oper.semAt_some
def IVb:List Int:=[7640891576956012808,13503953896175478587,4354685564936845355,11912009170470909681,5840696475078001361,11170449401992604703,2270897969802886507,6620516959819538809]
def IVs:List Int:=[1779033703,3144134277,1013904242,2773480762,1359893119,2600822924,528734635,1541459225]
theorem QR {B:Nat}{w:World}(n:Nat):Below B w (w.drewN n):=⟨rfl,rfl,rfl,Nat.le_refl _,fun _ _=>rfl⟩
theorem qiE (g off j:Nat):(⟨g,off,none⟩:Addr).add j=⟨g,off+j,none⟩:=by unfold Addr.add;split<;>simp_all
theorem zJ {W:World}{b:Nat}{cs:List Value}{T:TypeId}{fr:Nat×Nat}(h:W.heap[b]? =some (.cells cs.toArray T fr)): ∀j v,cs[j]? =some v→W.cell? ((⟨b,0,none⟩:Addr).add j)=some v:=fun j v o=>by
 rw[qiE,Nat.zero_add,qq h];simpa using o
def YC (k:IntKind)(iv:List Int)(h:List Int)(x y:Int)(last node:Bool):List Int:=
 [wd h 0,wd h 1,wd h 2,wd h 3,wd h 4,wd h 5,wd h 6,wd h 7,wd iv 0,wd iv 1,wd iv 2,wd iv 3,bits .xor k (wd iv 4) x,bits .xor k (wd iv 5) y,
  if last then bits .xor k k.max (wd iv 6) else wd iv 6,if node then bits .xor k k.max (wd iv 7) else wd iv 7]
theorem qfT (w:World):Calls Tryz.prog 197 #[] w fun e w'=>e= .returned (.agg #[.int .u64 7640891576956012808,.int .u64 13503953896175478587,.int .u64 4354685564936845355,.int .u64 11912009170470909681,.int .u64 5840696475078001361,.int .u64 11170449401992604703,.int .u64 2270897969802886507,.int .u64 6620516959819538809])∧Below w.heap.size w w':=by
 go_enter Tryz.func197,Tryz.ntmps197
 go_wp2
 exact Bp (results_cell_row rfl _ _ _ _ _ _ _ rfl (Wn _ _) Tryz.underlying274 rfl rfl) rfl ⟨rfl,Br.alloc Nl _⟩
theorem qfS (w:World):Calls Tryz.prog 202 #[] w fun e w'=>e= .returned (.agg #[.int .u32 1779033703,.int .u32 3144134277,.int .u32 1013904242,.int .u32 2773480762,.int .u32 1359893119,.int .u32 2600822924,.int .u32 528734635,.int .u32 1541459225])∧Below w.heap.size w w':=by
 go_enter Tryz.func202,Tryz.ntmps202
 go_wp2
 exact Bp (results_cell_row rfl _ _ _ _ _ _ _ rfl (Wn _ _) Tryz.underlying284 rfl rfl) rfl ⟨rfl,Br.alloc Nl _⟩
theorem qfm (h:List Int)(X Y:Int)(Z node:Bool)(w:World):Calls Tryz.prog 214 #[.agg #[.int .u64 (wd h 0),.int .u64 (wd h 1),.int .u64 (wd h 2),.int .u64 (wd h 3),.int .u64 (wd h 4),.int .u64 (wd h 5),.int .u64 (wd h 6),.int .u64 (wd h 7)],.agg #[.int .u64 X,.int .u64 Y],.bool Z,.bool node] w fun e w'=>e= .returned (.agg (qj .u64 (YC .u64 IVb h X Y Z node)))∧Below w.heap.size w w':=by
 obtain⟨q,am⟩:=Ex w.heap.size;go_enter Tryz.func214,Tryz.ntmps214
 go_wp2_with fail
 refine qn ?_;intro W o;have hh:W.heap[q]? =some (.cells #[.int .u64 (wd h 0),.int .u64 (wd h 1),.int .u64 (wd h 2),.int .u64 (wd h 3),.int .u64 (wd h 4),.int .u64 (wd h 5),.int .u64 (wd h 6),.int .u64 (wd h 7)] 274 (0,0)):=by
  rw[o];exact(Bh _ _ _ (by simp;omega)).trans ((Bh _ _ _ (by simp;omega)).trans ((Bh _ _ _ (by simp;omega)).trans (qe _ _ am.symm)))
 have hc:W.heap[q+1]? =some (.cells #[.int .u64 X,.int .u64 Y] 281 (0,0)):=by
  rw[o];exact(Bh _ _ _ (by simp;omega)).trans ((Bh _ _ _ (by simp;omega)).trans (qe _ _ (by simp;omega)))
 have hr:W.heap[q+1+1]? =some (.cells #[.int .u64 0,.int .u64 0,.int .u64 0,.int .u64 0,.int .u64 0,.int .u64 0,.int .u64 0,.int .u64 0,.int .u64 0,.int .u64 0,.int .u64 0,.int .u64 0,.int .u64 0,.int .u64 0,.int .u64 0,.int .u64 0] 252 (0,0)):=by
  rw[o];exact(Bh _ _ _ (by simp;omega)).trans (qe _ _ (by simp;omega))
 have hv:W.heap[q+1+1+1]? =some (.cells #[.int .u64 0,.int .u64 0,.int .u64 0,.int .u64 0,.int .u64 0,.int .u64 0,.int .u64 0,.int .u64 0,.int .u64 0,.int .u64 0,.int .u64 0,.int .u64 0,.int .u64 0,.int .u64 0,.int .u64 0,.int .u64 0] 252 (0,0)):=by
  rw[o];exact qe _ _ (by simp;omega)
 have hB:Below w.heap.size w W:=by
  rw[o];exact(((Br.alloc Nl _).alloc (by simp) _).alloc (by simp;omega) _).alloc (by simp;omega) _
 have hs:W.heap.size=q+4:=by rw[o];simp;omega
 clear o;refine qk (by dsimp only[List.dropLast]) (by rfl) (by rfl) (by kernel_rfl) (by kernel_rfl) (by kernel_rfl) (by kernel_rfl) ?_;repeat(go_big_quiet_step (fail))
 refine wpQuiet_nil ?_;intro _ ad;obtain⟨n1,rfl⟩:=ad;refine wpList_copy_own rfl _ _ _ _ rfl 44 Tryz.underlying105 rfl (q+1+1+1) 0 8 16 ⟨q,0,none⟩ 8 8 rfl rfl #[.int .u64 0,.int .u64 0,.int .u64 0,.int .u64 0,.int .u64 0,.int .u64 0,.int .u64 0,.int .u64 0,.int .u64 0,.int .u64 0,.int .u64 0,.int .u64 0,.int .u64 0,.int .u64 0,.int .u64 0,.int .u64 0] 252 hv [.int .u64 (wd h 0),.int .u64 (wd h 1),.int .u64 (wd h 2),.int .u64 (wd h 3),.int .u64 (wd h 4),.int .u64 (wd h 5),.int .u64 (wd h 6),.int .u64 (wd h 7)] rfl
  (zJ (W:=W.drewN n1) hh) (by simp) (by simp[Value.oneCell']) ?_
 go_wp2_with fail
 refine(qfT _).mono ?_;rintro e1 w1 ⟨rfl,V⟩;have ae:=(V.block (q+1+1+1) (by simp;omega)).trans (setRow_heap (W.drewN n1) _ _ _ _ _ hv);have ai:=(V.block (q+1) (by simp;omega)).trans ((setRow_other (W.drewN n1) _ _ _ (by omega)).trans hc);have ak:=(V.block (q+1+1) (by simp;omega)).trans ((setRow_other (W.drewN n1) _ _ _ (by omega)).trans hr);have an:q+4≤w1.heap.size:=by have:=V.size;simp at this;omega
 have ah:Below w.heap.size w w1:=(below_setRow (hB.trans (QR n1)) (by omega) _).trans (V.mono (by simp;omega));clear V hv hc hr hh hB;go_wp2_with fail
 refine qk (by dsimp only[List.dropLast]) (by rfl) (by rfl) (by kernel_rfl) (by kernel_rfl) (by kernel_rfl) (by kernel_rfl) ?_;repeat(go_big_quiet_step (fail))
 refine wpQuiet_nil ?_;intro _ ad;obtain⟨n2,rfl⟩:=ad;refine wpList_copy_own rfl _ _ _ _ rfl 44 Tryz.underlying105 rfl (q+1+1+1) 8 8 8 ⟨w1.heap.size,0,none⟩ 8 8 rfl rfl #[.int .u64 (wd h 0),.int .u64 (wd h 1),.int .u64 (wd h 2),.int .u64 (wd h 3),.int .u64 (wd h 4),.int .u64 (wd h 5),.int .u64 (wd h 6),.int .u64 (wd h 7),.int .u64 0,.int .u64 0,.int .u64 0,.int .u64 0,.int .u64 0,.int .u64 0,.int .u64 0,.int .u64 0] 252 ((Bh _ _ _ (by omega)).trans ae) [.int .u64 7640891576956012808,.int .u64 13503953896175478587,.int .u64 4354685564936845355,.int .u64 11912009170470909681,.int .u64 5840696475078001361,.int .u64 11170449401992604703,.int .u64 2270897969802886507,.int .u64 6620516959819538809] rfl
  (zJ (W:=(w1.alloc _).drewN n2) (Wn _ _)) (by simp) (by simp[Value.oneCell']) ?_
 go_upto_region 5 with(fail)
 refine qn ?_;intro W4 o;have aa:W4.heap[q+1+1+1]? =some (.cells #[.int .u64 (wd h 0),.int .u64 (wd h 1),.int .u64 (wd h 2),.int .u64 (wd h 3),.int .u64 (wd h 4),.int .u64 (wd h 5),.int .u64 (wd h 6),.int .u64 (wd h 7),.int .u64 7640891576956012808,.int .u64 13503953896175478587,.int .u64 4354685564936845355,.int .u64 11912009170470909681,.int .u64 5840696475078001361,.int .u64 11170449401992604703,.int .u64 2270897969802886507,.int .u64 6620516959819538809] 252 (0,0)):=by
  rw[o];exact setRow_heap ((w1.alloc _).drewN n2) _ _ _ _ _ ((Bh _ _ _ (by omega)).trans ae)
 have af:W4.heap[q+1]? =some (.cells #[.int .u64 X,.int .u64 Y] 281 (0,0)):=by
  rw[o];exact(setRow_other ((w1.alloc _).drewN n2) _ _ _ (by omega)).trans ((Bh _ _ _ (by omega)).trans ai)
 have ag:W4.heap[q+1+1]? =some (.cells #[.int .u64 0,.int .u64 0,.int .u64 0,.int .u64 0,.int .u64 0,.int .u64 0,.int .u64 0,.int .u64 0,.int .u64 0,.int .u64 0,.int .u64 0,.int .u64 0,.int .u64 0,.int .u64 0,.int .u64 0,.int .u64 0] 252 (0,0)):=by
  rw[o];exact(setRow_other ((w1.alloc _).drewN n2) _ _ _ (by omega)).trans ((Bh _ _ _ (by omega)).trans ak)
 have ab:Below w.heap.size w W4:=by
  rw[o];exact below_setRow ((ah.alloc (by omega) _).trans (QR n2)) (by omega) _
 clear o ae ai ak ah;have ao:q+4≤W4.heap.size:=by have:=ab.size;have:=(Ai aa).1;omega
 obtain⟨cv,fv⟩:=qO aa;obtain⟨cc,fc⟩:=qO af;have J:=hid aa;have U:=hid ag;have G:=hid ab;clear aa af ag ab;go_upto_region 7 with(fail)
 refine qn ?_;intro W5 o;have ac:W5.heap[q+1+1+1]? =some (.cells #[.int .u64 (wd h 0),.int .u64 (wd h 1),.int .u64 (wd h 2),.int .u64 (wd h 3),.int .u64 (wd h 4),.int .u64 (wd h 5),.int .u64 (wd h 6),.int .u64 (wd h 7),.int .u64 7640891576956012808,.int .u64 13503953896175478587,.int .u64 4354685564936845355,.int .u64 11912009170470909681,.int .u64 (bits .xor .u64 5840696475078001361 X),.int .u64 (bits .xor .u64 11170449401992604703 Y),.int .u64 2270897969802886507,.int .u64 6620516959819538809] 252 (0,0)):=by
  rw[o];exact block_setCell (i:=13) (block_setCell (i:=12) J.out _) _
 have aj:W5.heap[q+1+1]? =some (.cells #[.int .u64 0,.int .u64 0,.int .u64 0,.int .u64 0,.int .u64 0,.int .u64 0,.int .u64 0,.int .u64 0,.int .u64 0,.int .u64 0,.int .u64 0,.int .u64 0,.int .u64 0,.int .u64 0,.int .u64 0,.int .u64 0] 252 (0,0)):=by
  rw[o];exact(Below.heap_setCell _ _ _ _ (by simp)).trans ((Below.heap_setCell _ _ _ _ (by simp)).trans U.out)
 have al:Below w.heap.size w W5:=by
  rw[o];exact(G.out.setCell (by simp;omega) _).setCell (by simp;omega) _
 clear o J U G cv fv cc fc;obtain⟨cv,fv⟩:=qO ac;have J:=hid ac;have U:=hid aj;have G:=hid al;clear ac aj al
 cases Z<;>cases node
 ·go_upto_region 11 with(fail)
  refine qn ?_;intro D o;have I:D.heap[q+1+1+1]? =some (.cells #[.int .u64 (wd h 0),.int .u64 (wd h 1),.int .u64 (wd h 2),.int .u64 (wd h 3),.int .u64 (wd h 4),.int .u64 (wd h 5),.int .u64 (wd h 6),.int .u64 (wd h 7),.int .u64 7640891576956012808,.int .u64 13503953896175478587,.int .u64 4354685564936845355,.int .u64 11912009170470909681,.int .u64 (bits .xor .u64 5840696475078001361 X),.int .u64 (bits .xor .u64 11170449401992604703 Y),.int .u64 2270897969802886507,.int .u64 6620516959819538809] 252 (0,0)):=by
   rw[o];exact J.out
  have r:D.heap[q+1+1]? =some (.cells #[.int .u64 0,.int .u64 0,.int .u64 0,.int .u64 0,.int .u64 0,.int .u64 0,.int .u64 0,.int .u64 0,.int .u64 0,.int .u64 0,.int .u64 0,.int .u64 0,.int .u64 0,.int .u64 0,.int .u64 0,.int .u64 0] 252 (0,0)):=by
   rw[o];exact U.out
  have O:Below w.heap.size w D:=by
   rw[o];exact G.out
  clear o J U G cv fv;apply wp_region_lit
  refine wpList_load_row rfl 252 _ rfl (q+1+1+1) rfl _ _ _ _ I Tryz.underlying252 rfl (by kernel_rfl) ?_;refine wpList_store_row rfl 252 _ _ rfl (q+1+1) _ rfl rfl 252 _ r (by kernel_rfl) (by kernel_rfl) (by kernel_rfl) ?_;simp only[Act.put,Ls];go_wp2_with fail
  exact Bp (results_cell_row rfl _ _ _ _ _ _ _ rfl (setRow_heap _ _ _ _ _ _ r) Tryz.underlying252 rfl (by kernel_rfl)) rfl ⟨rfl,below_setRow (O.mono (by omega)) (by omega) _⟩
 ·go_upto_region 11 with(fail)
  refine qn ?_;intro D o;have I:D.heap[q+1+1+1]? =some (.cells #[.int .u64 (wd h 0),.int .u64 (wd h 1),.int .u64 (wd h 2),.int .u64 (wd h 3),.int .u64 (wd h 4),.int .u64 (wd h 5),.int .u64 (wd h 6),.int .u64 (wd h 7),.int .u64 7640891576956012808,.int .u64 13503953896175478587,.int .u64 4354685564936845355,.int .u64 11912009170470909681,.int .u64 (bits .xor .u64 5840696475078001361 X),.int .u64 (bits .xor .u64 11170449401992604703 Y),.int .u64 2270897969802886507,.int .u64 (bits .xor .u64 (IntKind.max .u64) 6620516959819538809)] 252 (0,0)):=by
   rw[o];exact(block_setCell (i:=15) J.out _)
  have r:D.heap[q+1+1]? =some (.cells #[.int .u64 0,.int .u64 0,.int .u64 0,.int .u64 0,.int .u64 0,.int .u64 0,.int .u64 0,.int .u64 0,.int .u64 0,.int .u64 0,.int .u64 0,.int .u64 0,.int .u64 0,.int .u64 0,.int .u64 0,.int .u64 0] 252 (0,0)):=by
   rw[o];exact((Below.heap_setCell _ _ _ _ (by simp)).trans U.out)
  have O:Below w.heap.size w D:=by
   rw[o];exact(G.out.setCell (by simp;omega) _)
  clear o J U G cv fv;apply wp_region_lit
  refine wpList_load_row rfl 252 _ rfl (q+1+1+1) rfl _ _ _ _ I Tryz.underlying252 rfl (by kernel_rfl) ?_;refine wpList_store_row rfl 252 _ _ rfl (q+1+1) _ rfl rfl 252 _ r (by kernel_rfl) (by kernel_rfl) (by kernel_rfl) ?_;simp only[Act.put,Ls];go_wp2_with fail
  exact Bp (results_cell_row rfl _ _ _ _ _ _ _ rfl (setRow_heap _ _ _ _ _ _ r) Tryz.underlying252 rfl (by kernel_rfl)) rfl ⟨rfl,below_setRow (O.mono (by omega)) (by omega) _⟩
 ·go_upto_region 11 with(fail)
  refine qn ?_;intro D o;have I:D.heap[q+1+1+1]? =some (.cells #[.int .u64 (wd h 0),.int .u64 (wd h 1),.int .u64 (wd h 2),.int .u64 (wd h 3),.int .u64 (wd h 4),.int .u64 (wd h 5),.int .u64 (wd h 6),.int .u64 (wd h 7),.int .u64 7640891576956012808,.int .u64 13503953896175478587,.int .u64 4354685564936845355,.int .u64 11912009170470909681,.int .u64 (bits .xor .u64 5840696475078001361 X),.int .u64 (bits .xor .u64 11170449401992604703 Y),.int .u64 (bits .xor .u64 (IntKind.max .u64) 2270897969802886507),.int .u64 6620516959819538809] 252 (0,0)):=by
   rw[o];exact(block_setCell (i:=14) J.out _)
  have r:D.heap[q+1+1]? =some (.cells #[.int .u64 0,.int .u64 0,.int .u64 0,.int .u64 0,.int .u64 0,.int .u64 0,.int .u64 0,.int .u64 0,.int .u64 0,.int .u64 0,.int .u64 0,.int .u64 0,.int .u64 0,.int .u64 0,.int .u64 0,.int .u64 0] 252 (0,0)):=by
   rw[o];exact((Below.heap_setCell _ _ _ _ (by simp)).trans U.out)
  have O:Below w.heap.size w D:=by
   rw[o];exact(G.out.setCell (by simp;omega) _)
  clear o J U G cv fv;apply wp_region_lit
  refine wpList_load_row rfl 252 _ rfl (q+1+1+1) rfl _ _ _ _ I Tryz.underlying252 rfl (by kernel_rfl) ?_;refine wpList_store_row rfl 252 _ _ rfl (q+1+1) _ rfl rfl 252 _ r (by kernel_rfl) (by kernel_rfl) (by kernel_rfl) ?_;simp only[Act.put,Ls];go_wp2_with fail
  exact Bp (results_cell_row rfl _ _ _ _ _ _ _ rfl (setRow_heap _ _ _ _ _ _ r) Tryz.underlying252 rfl (by kernel_rfl)) rfl ⟨rfl,below_setRow (O.mono (by omega)) (by omega) _⟩
 ·go_upto_region 11 with(fail)
  refine qn ?_;intro D o;have I:D.heap[q+1+1+1]? =some (.cells #[.int .u64 (wd h 0),.int .u64 (wd h 1),.int .u64 (wd h 2),.int .u64 (wd h 3),.int .u64 (wd h 4),.int .u64 (wd h 5),.int .u64 (wd h 6),.int .u64 (wd h 7),.int .u64 7640891576956012808,.int .u64 13503953896175478587,.int .u64 4354685564936845355,.int .u64 11912009170470909681,.int .u64 (bits .xor .u64 5840696475078001361 X),.int .u64 (bits .xor .u64 11170449401992604703 Y),.int .u64 (bits .xor .u64 (IntKind.max .u64) 2270897969802886507),.int .u64 (bits .xor .u64 (IntKind.max .u64) 6620516959819538809)] 252 (0,0)):=by
   rw[o];exact(block_setCell (i:=15) (block_setCell (i:=14) J.out _) _)
  have r:D.heap[q+1+1]? =some (.cells #[.int .u64 0,.int .u64 0,.int .u64 0,.int .u64 0,.int .u64 0,.int .u64 0,.int .u64 0,.int .u64 0,.int .u64 0,.int .u64 0,.int .u64 0,.int .u64 0,.int .u64 0,.int .u64 0,.int .u64 0,.int .u64 0] 252 (0,0)):=by
   rw[o];exact((Below.heap_setCell _ _ _ _ (by simp)).trans ((Below.heap_setCell _ _ _ _ (by simp)).trans U.out))
  have O:Below w.heap.size w D:=by
   rw[o];exact((G.out.setCell (by simp;omega) _).setCell (by simp;omega) _)
  clear o J U G cv fv;apply wp_region_lit
  refine wpList_load_row rfl 252 _ rfl (q+1+1+1) rfl _ _ _ _ I Tryz.underlying252 rfl (by kernel_rfl) ?_;refine wpList_store_row rfl 252 _ _ rfl (q+1+1) _ rfl rfl 252 _ r (by kernel_rfl) (by kernel_rfl) (by kernel_rfl) ?_;simp only[Act.put,Ls];go_wp2_with fail
  exact Bp (results_cell_row rfl _ _ _ _ _ _ _ rfl (setRow_heap _ _ _ _ _ _ r) Tryz.underlying252 rfl (by kernel_rfl)) rfl ⟨rfl,below_setRow (O.mono (by omega)) (by omega) _⟩
theorem qew (h:List Int)(c:Int)(aq:0≤c)(av:c<18446744073709551616)(Y node:Bool)(w:World):Calls Tryz.prog 217 #[.agg #[.int .u32 (wd h 0),.int .u32 (wd h 1),.int .u32 (wd h 2),.int .u32 (wd h 3),.int .u32 (wd h 4),.int .u32 (wd h 5),.int .u32 (wd h 6),.int .u32 (wd h 7)],.int .u64 c,.bool Y,.bool node] w fun e w'=>e= .returned (.agg (qj .u32 (YC .u32 IVs h (c%4294967296) (c/4294967296) Y node)))∧Below w.heap.size w w':=by
 obtain⟨q,ao⟩:=Ex w.heap.size;go_enter Tryz.func217,Tryz.ntmps217
 go_wp2_with fail
 refine(qfS _).mono ?_;rintro e1 w1 ⟨rfl,V⟩;have ad:=(V.block q (by simp;omega)).trans ((Bh _ _ _ (by simp;omega)).trans ((Bh _ _ _ (by simp;omega)).trans (qe _ _ ao.symm)));have ak:=(V.block (q+1) (by simp;omega)).trans ((Bh _ _ _ (by simp;omega)).trans (qe _ _ (by simp;omega)));have an:=(V.block (q+1+1) (by simp;omega)).trans (qe _ _ (by simp;omega));have ap:q+3≤w1.heap.size:=by have:=V.size;simp at this;omega
 have ah:Below w.heap.size w w1:=((((Below.refl w.heap.size w).alloc Nl _).alloc (by simp) _).alloc (by simp;omega) _).trans (V.mono (by simp;omega));clear V;go_wp2_with fail
 refine qn ?_;intro W o;have hh:W.heap[q]? =some (.cells #[.int .u32 (wd h 0),.int .u32 (wd h 1),.int .u32 (wd h 2),.int .u32 (wd h 3),.int .u32 (wd h 4),.int .u32 (wd h 5),.int .u32 (wd h 6),.int .u32 (wd h 7)] 284 (0,0)):=by
  rw[o];exact(Bh _ _ _ (by omega)).trans ad
 have hr:W.heap[q+1]? =some (.cells #[.int .u32 0,.int .u32 0,.int .u32 0,.int .u32 0,.int .u32 0,.int .u32 0,.int .u32 0,.int .u32 0,.int .u32 0,.int .u32 0,.int .u32 0,.int .u32 0,.int .u32 0,.int .u32 0,.int .u32 0,.int .u32 0] 298 (0,0)):=by
  rw[o];exact(Bh _ _ _ (by omega)).trans ak
 have hv:W.heap[q+1+1]? =some (.cells #[.int .u32 0,.int .u32 0,.int .u32 0,.int .u32 0,.int .u32 0,.int .u32 0,.int .u32 0,.int .u32 0,.int .u32 0,.int .u32 0,.int .u32 0,.int .u32 0,.int .u32 0,.int .u32 0,.int .u32 0,.int .u32 0] 298 (0,0)):=by
  rw[o];exact(Bh _ _ _ (by omega)).trans an
 have hi:W.heap[w1.heap.size]? =some (.cells #[.int .u32 1779033703,.int .u32 3144134277,.int .u32 1013904242,.int .u32 2773480762,.int .u32 1359893119,.int .u32 2600822924,.int .u32 528734635,.int .u32 1541459225] 284 (0,0)):=by
  rw[o];exact Wn _ _
 have hB:Below w.heap.size w W:=by rw[o];exact ah.alloc (by omega) _
 have hs:W.heap.size=w1.heap.size+1:=by rw[o];simp
 clear o ad ak an ah;refine qk (by dsimp only[List.dropLast]) (by rfl) (by rfl) (by kernel_rfl) (by kernel_rfl) (by kernel_rfl) (by kernel_rfl) ?_;repeat(go_big_quiet_step (fail))
 refine wpQuiet_nil ?_;intro _ ac;obtain⟨n1,rfl⟩:=ac;refine wpList_copy_own rfl _ _ _ _ rfl 23 Tryz.underlying308 rfl (q+1+1) 0 8 16 ⟨q,0,none⟩ 8 8 rfl rfl #[.int .u32 0,.int .u32 0,.int .u32 0,.int .u32 0,.int .u32 0,.int .u32 0,.int .u32 0,.int .u32 0,.int .u32 0,.int .u32 0,.int .u32 0,.int .u32 0,.int .u32 0,.int .u32 0,.int .u32 0,.int .u32 0] 298 hv [.int .u32 (wd h 0),.int .u32 (wd h 1),.int .u32 (wd h 2),.int .u32 (wd h 3),.int .u32 (wd h 4),.int .u32 (wd h 5),.int .u32 (wd h 6),.int .u32 (wd h 7)] rfl
  (zJ (W:=W.drewN n1) hh) (by simp) (by simp[Value.oneCell']) ?_
 refine wpList_nil ?_;simp only[Act.put,Ls];go_wp2_with fail
 refine qn ?_;intro X o;have ab:X.heap[q+1+1]? =some (.cells #[.int .u32 (wd h 0),.int .u32 (wd h 1),.int .u32 (wd h 2),.int .u32 (wd h 3),.int .u32 (wd h 4),.int .u32 (wd h 5),.int .u32 (wd h 6),.int .u32 (wd h 7),.int .u32 0,.int .u32 0,.int .u32 0,.int .u32 0,.int .u32 0,.int .u32 0,.int .u32 0,.int .u32 0] 298 (0,0)):=by
  rw[o];exact setRow_heap (W.drewN n1) _ _ _ _ _ hv
 have ai:X.heap[q+1]? =some (.cells #[.int .u32 0,.int .u32 0,.int .u32 0,.int .u32 0,.int .u32 0,.int .u32 0,.int .u32 0,.int .u32 0,.int .u32 0,.int .u32 0,.int .u32 0,.int .u32 0,.int .u32 0,.int .u32 0,.int .u32 0,.int .u32 0] 298 (0,0)):=by
  rw[o];exact(setRow_other (W.drewN n1) _ _ _ (by omega)).trans hr
 have al:X.heap[w1.heap.size]? =some (.cells #[.int .u32 1779033703,.int .u32 3144134277,.int .u32 1013904242,.int .u32 2773480762,.int .u32 1359893119,.int .u32 2600822924,.int .u32 528734635,.int .u32 1541459225] 284 (0,0)):=by
  rw[o];exact(setRow_other (W.drewN n1) _ _ _ (by omega)).trans hi
 have ae:Below w.heap.size w X:=by rw[o];exact below_setRow (hB.trans (QR n1)) (by omega) _
 clear o hh hr hv hi hB;refine qk (by dsimp only[List.dropLast]) (by rfl) (by rfl) (by kernel_rfl) (by kernel_rfl) (by kernel_rfl) (by kernel_rfl) ?_;repeat(go_big_quiet_step (fail))
 refine wpQuiet_nil ?_;intro _ ac;obtain⟨n2,rfl⟩:=ac;refine wpList_copy_own rfl _ _ _ _ rfl 23 Tryz.underlying308 rfl (q+1+1) 8 8 8 ⟨w1.heap.size,0,none⟩ 8 8 rfl rfl #[.int .u32 (wd h 0),.int .u32 (wd h 1),.int .u32 (wd h 2),.int .u32 (wd h 3),.int .u32 (wd h 4),.int .u32 (wd h 5),.int .u32 (wd h 6),.int .u32 (wd h 7),.int .u32 0,.int .u32 0,.int .u32 0,.int .u32 0,.int .u32 0,.int .u32 0,.int .u32 0,.int .u32 0] 298 ab [.int .u32 1779033703,.int .u32 3144134277,.int .u32 1013904242,.int .u32 2773480762,.int .u32 1359893119,.int .u32 2600822924,.int .u32 528734635,.int .u32 1541459225] rfl
  (zJ (W:=X.drewN n2) al) (by simp) (by simp[Value.oneCell']) ?_
 go_upto_region 5 with(fail)
 refine qn ?_;intro W4 o;have aa:W4.heap[q+1+1]? =some (.cells #[.int .u32 (wd h 0),.int .u32 (wd h 1),.int .u32 (wd h 2),.int .u32 (wd h 3),.int .u32 (wd h 4),.int .u32 (wd h 5),.int .u32 (wd h 6),.int .u32 (wd h 7),.int .u32 1779033703,.int .u32 3144134277,.int .u32 1013904242,.int .u32 2773480762,.int .u32 1359893119,.int .u32 2600822924,.int .u32 528734635,.int .u32 1541459225] 298 (0,0)):=by
  rw[o];exact setRow_heap (X.drewN n2) _ _ _ _ _ ab
 have ag:W4.heap[q+1]? =some (.cells #[.int .u32 0,.int .u32 0,.int .u32 0,.int .u32 0,.int .u32 0,.int .u32 0,.int .u32 0,.int .u32 0,.int .u32 0,.int .u32 0,.int .u32 0,.int .u32 0,.int .u32 0,.int .u32 0,.int .u32 0,.int .u32 0] 298 (0,0)):=by
  rw[o];exact(setRow_other (X.drewN n2) _ _ _ (by omega)).trans ai
 have af:Below w.heap.size w W4:=by rw[o];exact below_setRow (ae.trans (QR n2)) (by omega) _
 clear o ab ai al ae hs;have au:=(Ai aa).1;obtain⟨cv,fv⟩:=qO aa;have J:=hid aa;have U:=hid ag;have G:=hid af;clear aa ag af;go_upto_region 7 with(fail)
 refine qn ?_;intro W5 o;have Z:W5.heap[q+1+1]? =some (.cells #[.int .u32 (wd h 0),.int .u32 (wd h 1),.int .u32 (wd h 2),.int .u32 (wd h 3),.int .u32 (wd h 4),.int .u32 (wd h 5),.int .u32 (wd h 6),.int .u32 (wd h 7),.int .u32 1779033703,.int .u32 3144134277,.int .u32 1013904242,.int .u32 2773480762,.int .u32 (bits .xor .u32 1359893119 (c%4294967296)),.int .u32 (bits .xor .u32 2600822924 (c/4294967296)),.int .u32 528734635,.int .u32 1541459225] 298 (0,0)):=by
  rw[o];exact block_setCell (i:=13) (block_setCell (i:=12) J.out _) _
 have aj:W5.heap[q+1]? =some (.cells #[.int .u32 0,.int .u32 0,.int .u32 0,.int .u32 0,.int .u32 0,.int .u32 0,.int .u32 0,.int .u32 0,.int .u32 0,.int .u32 0,.int .u32 0,.int .u32 0,.int .u32 0,.int .u32 0,.int .u32 0,.int .u32 0] 298 (0,0)):=by
  rw[o];exact(Below.heap_setCell _ _ _ _ (by simp)).trans ((Below.heap_setCell _ _ _ _ (by simp)).trans U.out)
 have am:Below w.heap.size w W5:=by
  rw[o];exact(G.out.setCell (by simp;omega) _).setCell (by simp;omega) _
 clear o J U G cv fv;have ar:=(Ai Z).1;obtain⟨cv,fv⟩:=qO Z;have J:=hid Z;have U:=hid aj;have G:=hid am;clear Z aj am
 cases Y<;>cases node
 ·go_upto_region 11 with(fail)
  refine qn ?_;intro D o;have I:D.heap[q+1+1]? =some (.cells #[.int .u32 (wd h 0),.int .u32 (wd h 1),.int .u32 (wd h 2),.int .u32 (wd h 3),.int .u32 (wd h 4),.int .u32 (wd h 5),.int .u32 (wd h 6),.int .u32 (wd h 7),.int .u32 1779033703,.int .u32 3144134277,.int .u32 1013904242,.int .u32 2773480762,.int .u32 (bits .xor .u32 1359893119 (c%4294967296)),.int .u32 (bits .xor .u32 2600822924 (c/4294967296)),.int .u32 528734635,.int .u32 1541459225] 298 (0,0)):=by
   rw[o];exact J.out
  have r:D.heap[q+1]? =some (.cells #[.int .u32 0,.int .u32 0,.int .u32 0,.int .u32 0,.int .u32 0,.int .u32 0,.int .u32 0,.int .u32 0,.int .u32 0,.int .u32 0,.int .u32 0,.int .u32 0,.int .u32 0,.int .u32 0,.int .u32 0,.int .u32 0] 298 (0,0)):=by
   rw[o];exact U.out
  have O:Below w.heap.size w D:=by
   rw[o];exact G.out
  clear o J U G cv fv;apply wp_region_lit
  refine wpList_load_row rfl 298 _ rfl (q+1+1) rfl _ _ _ _ I Tryz.underlying298 rfl (by kernel_rfl) ?_;refine wpList_store_row rfl 298 _ _ rfl (q+1) _ rfl rfl 298 _ r (by kernel_rfl) (by kernel_rfl) (by kernel_rfl) ?_;simp only[Act.put,Ls];go_wp2_with fail
  exact Bp (results_cell_row rfl _ _ _ _ _ _ _ rfl (setRow_heap _ _ _ _ _ _ r) Tryz.underlying298 rfl (by kernel_rfl)) rfl ⟨rfl,below_setRow (O.mono (by omega)) (by omega) _⟩
 ·go_upto_region 11 with(fail)
  refine qn ?_;intro D o;have I:D.heap[q+1+1]? =some (.cells #[.int .u32 (wd h 0),.int .u32 (wd h 1),.int .u32 (wd h 2),.int .u32 (wd h 3),.int .u32 (wd h 4),.int .u32 (wd h 5),.int .u32 (wd h 6),.int .u32 (wd h 7),.int .u32 1779033703,.int .u32 3144134277,.int .u32 1013904242,.int .u32 2773480762,.int .u32 (bits .xor .u32 1359893119 (c%4294967296)),.int .u32 (bits .xor .u32 2600822924 (c/4294967296)),.int .u32 528734635,.int .u32 (bits .xor .u32 (IntKind.max .u32) 1541459225)] 298 (0,0)):=by
   rw[o];exact(block_setCell (i:=15) J.out _)
  have r:D.heap[q+1]? =some (.cells #[.int .u32 0,.int .u32 0,.int .u32 0,.int .u32 0,.int .u32 0,.int .u32 0,.int .u32 0,.int .u32 0,.int .u32 0,.int .u32 0,.int .u32 0,.int .u32 0,.int .u32 0,.int .u32 0,.int .u32 0,.int .u32 0] 298 (0,0)):=by
   rw[o];exact((Below.heap_setCell _ _ _ _ (by simp)).trans U.out)
  have O:Below w.heap.size w D:=by
   rw[o];exact(G.out.setCell (by simp;omega) _)
  clear o J U G cv fv;apply wp_region_lit
  refine wpList_load_row rfl 298 _ rfl (q+1+1) rfl _ _ _ _ I Tryz.underlying298 rfl (by kernel_rfl) ?_;refine wpList_store_row rfl 298 _ _ rfl (q+1) _ rfl rfl 298 _ r (by kernel_rfl) (by kernel_rfl) (by kernel_rfl) ?_;simp only[Act.put,Ls];go_wp2_with fail
  exact Bp (results_cell_row rfl _ _ _ _ _ _ _ rfl (setRow_heap _ _ _ _ _ _ r) Tryz.underlying298 rfl (by kernel_rfl)) rfl ⟨rfl,below_setRow (O.mono (by omega)) (by omega) _⟩
 ·go_upto_region 11 with(fail)
  refine qn ?_;intro D o;have I:D.heap[q+1+1]? =some (.cells #[.int .u32 (wd h 0),.int .u32 (wd h 1),.int .u32 (wd h 2),.int .u32 (wd h 3),.int .u32 (wd h 4),.int .u32 (wd h 5),.int .u32 (wd h 6),.int .u32 (wd h 7),.int .u32 1779033703,.int .u32 3144134277,.int .u32 1013904242,.int .u32 2773480762,.int .u32 (bits .xor .u32 1359893119 (c%4294967296)),.int .u32 (bits .xor .u32 2600822924 (c/4294967296)),.int .u32 (bits .xor .u32 (IntKind.max .u32) 528734635),.int .u32 1541459225] 298 (0,0)):=by
   rw[o];exact(block_setCell (i:=14) J.out _)
  have r:D.heap[q+1]? =some (.cells #[.int .u32 0,.int .u32 0,.int .u32 0,.int .u32 0,.int .u32 0,.int .u32 0,.int .u32 0,.int .u32 0,.int .u32 0,.int .u32 0,.int .u32 0,.int .u32 0,.int .u32 0,.int .u32 0,.int .u32 0,.int .u32 0] 298 (0,0)):=by
   rw[o];exact((Below.heap_setCell _ _ _ _ (by simp)).trans U.out)
  have O:Below w.heap.size w D:=by
   rw[o];exact(G.out.setCell (by simp;omega) _)
  clear o J U G cv fv;apply wp_region_lit
  refine wpList_load_row rfl 298 _ rfl (q+1+1) rfl _ _ _ _ I Tryz.underlying298 rfl (by kernel_rfl) ?_;refine wpList_store_row rfl 298 _ _ rfl (q+1) _ rfl rfl 298 _ r (by kernel_rfl) (by kernel_rfl) (by kernel_rfl) ?_;simp only[Act.put,Ls];go_wp2_with fail
  exact Bp (results_cell_row rfl _ _ _ _ _ _ _ rfl (setRow_heap _ _ _ _ _ _ r) Tryz.underlying298 rfl (by kernel_rfl)) rfl ⟨rfl,below_setRow (O.mono (by omega)) (by omega) _⟩
 ·go_upto_region 11 with(fail)
  refine qn ?_;intro D o;have I:D.heap[q+1+1]? =some (.cells #[.int .u32 (wd h 0),.int .u32 (wd h 1),.int .u32 (wd h 2),.int .u32 (wd h 3),.int .u32 (wd h 4),.int .u32 (wd h 5),.int .u32 (wd h 6),.int .u32 (wd h 7),.int .u32 1779033703,.int .u32 3144134277,.int .u32 1013904242,.int .u32 2773480762,.int .u32 (bits .xor .u32 1359893119 (c%4294967296)),.int .u32 (bits .xor .u32 2600822924 (c/4294967296)),.int .u32 (bits .xor .u32 (IntKind.max .u32) 528734635),.int .u32 (bits .xor .u32 (IntKind.max .u32) 1541459225)] 298 (0,0)):=by
   rw[o];exact(block_setCell (i:=15) (block_setCell (i:=14) J.out _) _)
  have r:D.heap[q+1]? =some (.cells #[.int .u32 0,.int .u32 0,.int .u32 0,.int .u32 0,.int .u32 0,.int .u32 0,.int .u32 0,.int .u32 0,.int .u32 0,.int .u32 0,.int .u32 0,.int .u32 0,.int .u32 0,.int .u32 0,.int .u32 0,.int .u32 0] 298 (0,0)):=by
   rw[o];exact((Below.heap_setCell _ _ _ _ (by simp)).trans ((Below.heap_setCell _ _ _ _ (by simp)).trans U.out))
  have O:Below w.heap.size w D:=by
   rw[o];exact((G.out.setCell (by simp;omega) _).setCell (by simp;omega) _)
  clear o J U G cv fv;apply wp_region_lit
  refine wpList_load_row rfl 298 _ rfl (q+1+1) rfl _ _ _ _ I Tryz.underlying298 rfl (by kernel_rfl) ?_;refine wpList_store_row rfl 298 _ _ rfl (q+1) _ rfl rfl 298 _ r (by kernel_rfl) (by kernel_rfl) (by kernel_rfl) ?_;simp only[Act.put,Ls];go_wp2_with fail
  exact Bp (results_cell_row rfl _ _ _ _ _ _ _ rfl (setRow_heap _ _ _ _ _ _ r) Tryz.underlying298 rfl (by kernel_rfl)) rfl ⟨rfl,below_setRow (O.mono (by omega)) (by omega) _⟩
def YF (k:IntKind)(h v:List Int):Nat→List Int
 | 0=>h
 | i+1=>(YF k h v i).set i (bits .xor k (wd h i) (bits .xor k (wd v i) (wd v (i+8))))
def zV (K:MixK)(iv:List Int)(n:Nat)(h M:List Int)(x y:Int)(last node:Bool):List Int:=
 YF K.k h (K.rounds (YC K.k iv h x y last node) M n) 8
theorem QO {k:IntKind}{N:Nat}(o: ∀z,k.wrap z=z%2^N){h v:List Int}(q:Words N 8 h): ∀i,Words N 8 (YF k h v i)
 | 0=>q
 | i+1=>Words.set (QO o q i) (Qa _ _ _ o _ _)
theorem zC {k:IntKind}{h v:List Int}: ∀i j,i≤j→wd (YF k h v i) j=wd h j
 | 0,j,_=>rfl
 | i+1,j,hj=>by
  have o:=zC (k:=k) (h:=h) (v:=v) i j (by omega);simp only[YF];unfold wd at*;rw[Lg,List.getElem?_set,if_neg (by omega),←Lg];exact o
theorem qf {k:IntKind}{L:List Int}:(qj k L).size=L.length:=by simp[qj]
theorem qy {k:IntKind}{L:List Int}:(qj k L).all (·.oneCell')=true:=by simp[qj,Value.oneCell']
theorem zS {k:IntKind}{N:Nat}(I: ∀z,k.wrap z=z%2^N){D h:List Int}(G:Words N 8 D)(J:Words N 8 h)(x y:Int)(o node:Bool):Words N 16 (YC k D h x y o node):=by
 refine⟨rfl,fun z r=>?_⟩;simp only[YC,List.mem_cons,List.not_mem_nil,or_false]at r;have q:=fun a b=>Qa .xor k N I a b
 rcases r with rfl|rfl|rfl|rfl|rfl|rfl|rfl|rfl|rfl|rfl|rfl|rfl|rfl|rfl|rfl|rfl
 all_goals first|exact J.at (by decide)|exact G.at (by decide)|exact q _ _|skip
 all_goals split
 all_goals first|exact G.at (by decide)|exact q _ _
theorem qcM:Words 64 8 IVb:=⟨rfl,by decide⟩
theorem qap:Words 32 8 IVs:=⟨rfl,by decide⟩
theorem zZ {k:IntKind}{N:Nat}{L:List Int}(h:Words N 8 L):qj k L= #[.int k (wd L 0),.int k (wd L 1),.int k (wd L 2),.int k (wd L 3),.int k (wd L 4),.int k (wd L 5),.int k (wd L 6),.int k (wd L 7)]:=by
 obtain⟨o, -⟩:=h;match L,o with
 | [a,b,c,d,e,f,g,i],_=>rfl
theorem qiH (h M:List Int)(J:Words 64 8 h)(hM:Words 64 16 M)(lo hi:Int)(D node:Bool)(w:World):Calls Tryz.prog 199 #[.agg (qj .u64 h),.agg (qj .u64 M),.agg #[.int .u64 lo,.int .u64 hi],.bool D,.bool node] w fun e w'=>e= .returned (.agg (qj .u64 (zV mixBig IVb 12 h M lo hi D node)))∧Below w.heap.size w w':=by
 obtain⟨q,aD⟩:=Ex w.heap.size;have HC:=hid (qfm h lo hi D node);have Y:=zS (k:= .u64) (fun z=>IntKind.wrap_u64 z) qcM J lo hi D node;unfold zV;rw[show mixBig.k= .u64 from rfl];generalize YC .u64 IVb h lo hi D node=L0 at*;have ad:=J;rw[zZ J];go_enter Tryz.func199,Tryz.ntmps199
 go_wp2_with fail
 refine(HC.out _).mono ?_;rintro e1 w1 ⟨rfl,I⟩;have ah:=(I.block q (by simp;omega)).trans ((Bh _ _ _ (by simp;omega)).trans ((Bh _ _ _ (by simp;omega)).trans ((Bh _ _ _ (by simp;omega)).trans (qe _ _ aD.symm))));have aq:=(I.block (q+1) (by simp;omega)).trans ((Bh _ _ _ (by simp;omega)).trans ((Bh _ _ _ (by simp;omega)).trans (qe _ _ (by simp;omega))));have ap:=(I.block (q+1+1+1) (by simp;omega)).trans (qe _ _ (by simp;omega));have ax:q+4≤w1.heap.size:=by have:=I.size;simp at this;omega
 have an:Below w.heap.size w w1:=(((((Below.refl w.heap.size w).alloc Nl _).alloc (by simp) _).alloc (by simp;omega) _).alloc (by simp;omega) _).trans (I.mono (by simp;omega));clear I HC;go_wp2_with ((with_reducible show wpList _ _ _ (Oper.mk none (Op.store 252 _ _) _ _ _ _::_) _ _);refine wpList_store_row rfl 252 _ _ rfl w1.heap.size (qj .u64 L0) rfl rfl 252 _ (Wn _ _) (by rw[qf,Y.1];kernel_rfl) (by rw[qf,Y.1];rfl) qy ?_)
 clear J;refine qn ?_;intro W hW;obtain⟨r,aa⟩:=Ex w1.heap.size;have J:W.heap[q]? =some (.cells #[.int .u64 (wd h 0),.int .u64 (wd h 1),.int .u64 (wd h 2),.int .u64 (wd h 3),.int .u64 (wd h 4),.int .u64 (wd h 5),.int .u64 (wd h 6),.int .u64 (wd h 7)] 274 (0,0)):=by
  rw[hW];exact(setRow_other (w1.alloc _) _ _ _ (by omega)).trans ((Bh _ _ _ (by omega)).trans ah)
 have hm:W.heap[q+1]? =some (.cells (qj .u64 M) 252 (0,0)):=by
  rw[hW];exact(setRow_other (w1.alloc _) _ _ _ (by omega)).trans ((Bh _ _ _ (by omega)).trans aq)
 have hr:W.heap[q+1+1+1]? =some (.cells #[.int .u64 0,.int .u64 0,.int .u64 0,.int .u64 0,.int .u64 0,.int .u64 0,.int .u64 0,.int .u64 0] 274 (0,0)):=by
  rw[hW];exact(setRow_other (w1.alloc _) _ _ _ (by omega)).trans ((Bh _ _ _ (by omega)).trans ap)
 have hv:W.heap[r]? =some (.cells (qj .u64 L0) 252 (0,0)):=by
  rw[hW,←aa];exact setRow_heap _ _ _ _ _ _ (Wn _ _)
 have hB:Below w.heap.size w W:=by
  rw[hW];exact below_setRow (an.alloc (by omega) _) (by omega) _
 rw[←zZ ad]at J;rw[aa];have aJ:q+4≤r:=by omega
 clear hW ah aq ap ax an aa;have HH:=hid J;have HM:=hid hm;have HR:=hid hr;have HV:=hid hv;have HB:=hid hB;have aI:r<W.heap.size:=(Ai hv).1;clear J hm hr hv hB;go_loopw [19] (fun i wr=> ∃j:Nat,i= .int .i64 j∧j≤12∧wr.heap[r]? =some (.cells (qj .u64 (mixBig.rounds L0 M j)) 252 (0,0))∧But r W wr) (fun i _=>12 - (intOf i).toNat)
 case atStart=>exact⟨0,rfl,Nat.zero_le _,HV.out,But.refl _ _⟩
 case round=>
  obtain⟨j,rfl,hj,hv,hB⟩:=hrel;have hm:=(hB.block (q+1) (by omega) (by omega)).trans HM.out;have Z:=hid hv;have al:=hid hm;have O:=hid hB;clear hv hm hB;by_cases ac:j<12
  ·go_wp2_with fail
   refine(qeH r (q+1) (by omega) (mixBig.rounds L0 M j) M (Q3 QK Y j) hM j ac 252 252 _ Z.out al.out).mono ?_;rintro e2 w2 ⟨rfl,ak,ai⟩
   have az:=hid ak;have aF:=hid (O.out.trans ai);clear ak ai;go_wp2
   exact⟨⟨j+1,rfl,by omega,az.out,aF.out⟩,by simp[intOf];omega⟩
  ·obtain rfl:j=12:=by omega
   go_wp2_with fail
   have hV:=Q3 QK Y (M:=M) 12;obtain⟨V,ae⟩:=Ex (mixBig.rounds L0 M 12);have aB:=hid (show Ending.returned (.agg (qj .u64 (YF .u64 h V 8)))= .returned (.agg (qj .u64 (YF .u64 h (mixBig.rounds L0 M 12) 8))) by rw[ae]);rw[ae]at hV Z;clear ae;have ag:=(O.out.block q (by omega) (by omega)).trans HH.out;have af:=(O.out.block (q+1+1+1) (by omega) (by omega)).trans HR.out;have ab:=Z.out;have am:Below w.heap.size w wr:=HB.out.trans (O.out.below (by omega) HB.out.size);have aw:=hid ag;have ay:=hid af;have ao:=hid am;have aC:r<wr.heap.size:=(Ai ab).1;have av:=hid ab;clear ag af am Z al O HH HR HM HV HB ab;generalize wr=w3 at*;go_loopw [25] (fun i w4=> ∃j:Nat,i= .int .i64 j∧j≤8∧w4.heap[q]? =some (.cells (qj .u64 (YF .u64 h V j)) 274 (0,0))∧But q w3 w4) (fun i _=>8 - (intOf i).toNat)
   case atStart=>exact⟨0,rfl,Nat.zero_le _,aw.out,But.refl _ _⟩
   case round=>
    obtain⟨j,rfl,hj,U,G⟩:=hrel;have aH:=G.size;have X:=(G.block r aC (by omega)).trans av.out;have q1:r<wr.heap.size:=by omega
    have q2:q<wr.heap.size:=by omega
    have aj:=hid U;have au:=hid G;by_cases ac:j<8
    ·have c1:wr.cell? ⟨q,j,none⟩=some (.int .u64 (wd h j)):=by
      rw[qq U,qC (QO (fun z=>IntKind.wrap_u64 z) ad j) ac,zC j j Nl]
     have c2:wr.cell? ⟨r,j,none⟩=some (.int .u64 (wd V j)):=(qq X _).trans (qC hV (by omega));have c3:wr.cell? ⟨r,j+8,none⟩=some (.int .u64 (wd V (j+8))):=(qq X _).trans (qC hV (by omega));have f1: ∀o,wr.frozen? ⟨q,o,none⟩=false:=(qO U).2;have aK:IntKind.i64.wrap ((j:Int)+8)=((j+8:Nat):Int):=by rw[IntKind.wrap_i64];omega
     have aG:j+8<16:=by omega
     clear U X G;go_wp2_with fail
     refine qk (by dsimp only[List.dropLast]) (by rfl) (by rfl) (by kernel_rfl) (by kernel_rfl) (by kernel_rfl) (by kernel_rfl) ?_;repeat(go_big_quiet_step (fail))
     refine wpQuiet_nil ?_;intro _ aA;obtain⟨n1,rfl⟩:=aA;go_wp2_with fail
     exact⟨⟨j+1,rfl,by omega,by rw[YF,←Qe];exact block_setCell (w:=wr.drewN n1) aj.out _,(au.out.drewN n1).set _ _⟩,by simp[intOf];omega⟩
    ·obtain rfl:j=8:=by omega
     have ar:=(G.block (q+1+1+1) (by omega) (by omega)).trans ay.out;have hF:=QO (k:= .u64) (fun z=>IntKind.wrap_u64 z) (v:=V) ad 8;have aE:=hid (ao.out.trans (au.out.below (by omega) ao.out.size));clear U X G;go_upto_region 12 with(fail)
     apply wp_region_lit
     refine wpList_load_row rfl 274 _ rfl q rfl _ _ _ _ aj.out Tryz.underlying274 rfl (by rw[qf,hF.1];kernel_rfl) ?_;refine wpList_store_row rfl 274 _ _ rfl (q+1+1+1) (qj .u64 (YF .u64 h V 8)) rfl rfl 274 _ ar (by rw[qf,hF.1];kernel_rfl) (by rw[qf,hF.1];rfl) qy ?_;simp only[Act.put,Ls];go_wp2_with fail
     exact Bp (results_cell_row rfl _ _ _ _ _ _ _ rfl (setRow_heap _ _ _ _ _ _ ar) Tryz.underlying274 rfl (by rw[qf,hF.1];kernel_rfl)) rfl ⟨aB.out,below_setRow (aE.out.mono (by omega)) (by omega) _⟩
theorem qgF (h V:List Int)(ab:Words 32 8 h)(hV:Words 32 16 V)(w:World):Calls Tryz.prog 219 #[.agg (qj .u32 h),.agg (qj .u32 V)] w fun e w'=>e= .returned (.agg (qj .u32 (YF .u32 h V 8)))∧Below w.heap.size w w':=by
 obtain⟨q,ak⟩:=Ex w.heap.size;go_enter Tryz.func219,Tryz.ntmps219
 go_wp2_with fail
 refine qn ?_;intro G U;have Y:G.heap[q]? =some (.cells (qj .u32 h) 284 (0,0)):=by
  rw[U];exact(Bh _ _ _ (by simp;omega)).trans ((Bh _ _ _ (by simp;omega)).trans (qe _ _ ak.symm))
 have O:G.heap[q+1]? =some (.cells (qj .u32 V) 298 (0,0)):=by
  rw[U];exact(Bh _ _ _ (by simp;omega)).trans (qe _ _ (by simp;omega))
 have J:G.heap[q+1+1]? =some (.cells #[.int .u32 0,.int .u32 0,.int .u32 0,.int .u32 0,.int .u32 0,.int .u32 0,.int .u32 0,.int .u32 0] 284 (0,0)):=by
  rw[U];exact qe _ _ (by simp;omega)
 have Z:Below w.heap.size w G:=by
  rw[U];exact(((Below.refl w.heap.size w).alloc Nl _).alloc (by simp) _).alloc (by simp;omega) _
 clear U;have ai:=hid Y;have af:=hid O;have ag:=hid J;have ae:=hid Z;have ah:q+1<G.heap.size:=(Ai O).1;have ao:q+1+1<G.heap.size:=(Ai J).1;clear Y O J Z;go_loopw [6] (fun i w4=> ∃j:Nat,i= .int .i64 j∧j≤8∧w4.heap[q]? =some (.cells (qj .u32 (YF .u32 h V j)) 284 (0,0))∧But q G w4) (fun i _=>8 - (intOf i).toNat)
 case atStart=>exact⟨0,rfl,Nat.zero_le _,ai.out,But.refl _ _⟩
 case round=>
  obtain⟨j,rfl,hj,D,r⟩:=hrel;have ap:=r.size;have I:=(r.block (q+1) ah (by omega)).trans af.out;have q1:q+1<wr.heap.size:=by omega
  have q2:q<wr.heap.size:=by omega
  have aa:=hid D;have ad:=hid r;by_cases am:j<8
  ·have c1:wr.cell? ⟨q,j,none⟩=some (.int .u32 (wd h j)):=by
    rw[qq D,qC (QO (fun z=>IntKind.wrap_u32 z) ab j) am,zC j j Nl]
   have c2:wr.cell? ⟨q+1,j,none⟩=some (.int .u32 (wd V j)):=(qq I _).trans (qC hV (by omega));have c3:wr.cell? ⟨q+1,j+8,none⟩=some (.int .u32 (wd V (j+8))):=(qq I _).trans (qC hV (by omega));have f1: ∀o,wr.frozen? ⟨q,o,none⟩=false:=(qO D).2;have aq:IntKind.i64.wrap ((j:Int)+8)=((j+8:Nat):Int):=by rw[IntKind.wrap_i64];omega
   have an:j+8<16:=by omega
   clear D I r;go_wp2_with fail
   refine qk (by dsimp only[List.dropLast]) (by rfl) (by rfl) (by kernel_rfl) (by kernel_rfl) (by kernel_rfl) (by kernel_rfl) ?_;repeat(go_big_quiet_step (fail))
   refine wpQuiet_nil ?_;intro _ aj;obtain⟨n1,rfl⟩:=aj;go_wp2_with fail
   exact⟨⟨j+1,rfl,by omega,by rw[YF,←Qe];exact block_setCell (w:=wr.drewN n1) aa.out _,(ad.out.drewN n1).set _ _⟩,by simp[intOf];omega⟩
  ·obtain rfl:j=8:=by omega
   have ac:=(r.block (q+1+1) (by omega) (by omega)).trans ag.out;have X:=QO (k:= .u32) (fun z=>IntKind.wrap_u32 z) (v:=V) ab 8;have al:=hid (ae.out.trans (ad.out.below (by omega) ae.out.size));clear D I r;go_upto_region 6 with(fail)
   apply wp_region_lit
   refine wpList_load_row rfl 284 _ rfl q rfl _ _ _ _ aa.out Tryz.underlying284 rfl (by rw[qf,X.1];kernel_rfl) ?_;refine wpList_store_row rfl 284 _ _ rfl (q+1+1) (qj .u32 (YF .u32 h V 8)) rfl rfl 284 _ ac (by rw[qf,X.1];kernel_rfl) (by rw[qf,X.1];rfl) qy ?_;simp only[Act.put,Ls];go_wp2_with fail
   exact Bp (results_cell_row rfl _ _ _ _ _ _ _ rfl (setRow_heap _ _ _ _ _ _ ac) Tryz.underlying284 rfl (by rw[qf,X.1];kernel_rfl)) rfl ⟨rfl,below_setRow (al.out.mono (by omega)) (by omega) _⟩
theorem qiI (h M:List Int)(I:Words 32 8 h)(hM:Words 32 16 M)(c:Int)(au:0≤c)(aw:c<18446744073709551616)(q node:Bool)(w:World):Calls Tryz.prog 204 #[.agg (qj .u32 h),.agg (qj .u32 M),.int .u64 c,.bool q,.bool node] w fun e w'=>e= .returned (.agg (qj .u32 (zV mixSmall IVs 10 h M (c%4294967296) (c/4294967296) q node)))∧Below w.heap.size w w':=by
 obtain⟨o,aA⟩:=Ex w.heap.size;have HC:=hid (qew h c au aw q node);have J:=zS (k:= .u32) (fun z=>IntKind.wrap_u32 z) qap I (c%4294967296) (c/4294967296) q node;unfold zV;rw[show mixSmall.k= .u32 from rfl];generalize YC .u32 IVs h (c%4294967296) (c/4294967296) q node=X at*;have O:=I;rw[zZ I];go_enter Tryz.func204,Tryz.ntmps204
 go_wp2_with fail
 refine(HC.out _).mono ?_;rintro e1 w1 ⟨rfl,r⟩;have af:=(r.block o (by simp;omega)).trans ((Bh _ _ _ (by simp;omega)).trans ((Bh _ _ _ (by simp;omega)).trans (qe _ _ aA.symm)));have ak:=(r.block (o+1) (by simp;omega)).trans ((Bh _ _ _ (by simp;omega)).trans (qe _ _ (by simp;omega)));have an:=(r.block (o+1+1) (by simp;omega)).trans (qe _ _ (by simp;omega));have aq:o+3≤w1.heap.size:=by have:=r.size;simp at this;omega
 have aj:Below w.heap.size w w1:=((((Below.refl w.heap.size w).alloc Nl _).alloc (by simp) _).alloc (by simp;omega) _).trans (r.mono (by simp;omega));clear r HC;go_wp2_with ((with_reducible show wpList _ _ _ (Oper.mk none (Op.store 298 _ _) _ _ _ _::_) _ _);refine wpList_store_row rfl 298 _ _ rfl w1.heap.size (qj .u32 X) rfl rfl 298 _ (Wn _ _) (by rw[qf,J.1];kernel_rfl) (by rw[qf,J.1];rfl) qy ?_)
 clear I;refine qn ?_;intro W hW;obtain⟨G,aa⟩:=Ex w1.heap.size;have I:W.heap[o]? =some (.cells #[.int .u32 (wd h 0),.int .u32 (wd h 1),.int .u32 (wd h 2),.int .u32 (wd h 3),.int .u32 (wd h 4),.int .u32 (wd h 5),.int .u32 (wd h 6),.int .u32 (wd h 7)] 284 (0,0)):=by
  rw[hW];exact(setRow_other (w1.alloc _) _ _ _ (by omega)).trans ((Bh _ _ _ (by omega)).trans af)
 have hm:W.heap[o+1]? =some (.cells (qj .u32 M) 298 (0,0)):=by
  rw[hW];exact(setRow_other (w1.alloc _) _ _ _ (by omega)).trans ((Bh _ _ _ (by omega)).trans ak)
 have hr:W.heap[o+1+1]? =some (.cells #[.int .u32 0,.int .u32 0,.int .u32 0,.int .u32 0,.int .u32 0,.int .u32 0,.int .u32 0,.int .u32 0] 284 (0,0)):=by
  rw[hW];exact(setRow_other (w1.alloc _) _ _ _ (by omega)).trans ((Bh _ _ _ (by omega)).trans an)
 have Z:W.heap[G]? =some (.cells (qj .u32 X) 298 (0,0)):=by
  rw[hW,←aa];exact setRow_heap _ _ _ _ _ _ (Wn _ _)
 have Y:Below w.heap.size w W:=by
  rw[hW];exact below_setRow (aj.alloc (by omega) _) (by omega) _
 rw[←zZ O]at I;rw[aa];have aB:o+3≤G:=by omega
 clear hW af ak an aq aj aa;have HH:=hid I;have HM:=hid hm;have HR:=hid hr;have HV:=hid Z;have HB:=hid Y;have aE:G<W.heap.size:=(Ai Z).1;clear I hm hr Z Y;go_loopw [18] (fun i wr=> ∃j:Nat,i= .int .i64 j∧j≤10∧wr.heap[G]? =some (.cells (qj .u32 (mixSmall.rounds X M j)) 298 (0,0))∧But G W wr) (fun i _=>10 - (intOf i).toNat)
 case atStart=>exact⟨0,rfl,Nat.zero_le _,HV.out,But.refl _ _⟩
 case round=>
  obtain⟨j,rfl,hj,Z,Y⟩:=hrel;have hm:=(Y.block (o+1) (by omega) (by omega)).trans HM.out;have U:=hid Z;have ah:=hid hm;have D:=hid Y;clear Z hm Y;by_cases aD:j<10
  ·go_wp2_with fail
   refine(qeI G (o+1) (by omega) (mixSmall.rounds X M j) M (Q3 Qn J j) hM j (by omega) 298 298 _ U.out ah.out).mono ?_;rintro e2 w2 ⟨rfl,am,ag⟩
   have ax:=hid am;have ay:=hid (D.out.trans ag);clear am ag;go_wp2
   exact⟨⟨j+1,rfl,by omega,ax.out,ay.out⟩,by simp[intOf];omega⟩
  ·obtain rfl:j=10:=by omega
   have hV:=Q3 Qn J (M:=M) 10;obtain⟨V,ac⟩:=Ex (mixSmall.rounds X M 10);have ap:=hid (show Ending.returned (.agg (qj .u32 (YF .u32 h V 8)))= .returned (.agg (qj .u32 (YF .u32 h (mixSmall.rounds X M 10) 8))) by rw[ac]);rw[ac]at hV U;clear ac;have ae:=(D.out.block o (by omega) (by omega)).trans HH.out;have ad:=(D.out.block (o+1+1) (by omega) (by omega)).trans HR.out;have ai:Below w.heap.size w wr:=HB.out.trans (D.out.below (by omega) HB.out.size);have az:=hid ae;have ar:=hid ad;have ao:=hid ai;have aC:G<wr.heap.size:=(Ai U.out).1;have hF:=QO (k:= .u32) (fun z=>IntKind.wrap_u32 z) (v:=V) O 8;clear ae ad ai ah D HH HR HM HV HB;go_upto_region 7 with(fail)
   apply wp_region_lit
   refine wpList_load_row rfl 284 _ rfl o rfl _ _ _ _ az.out Tryz.underlying284 rfl (by rw[qf,O.1];kernel_rfl) ?_;refine wpList_load_row rfl 298 _ rfl G rfl _ _ _ _ U.out Tryz.underlying298 rfl (by rw[qf,hV.1];kernel_rfl) ?_;simp only[Act.put,Ls];go_wp2_with fail
   refine(qgF h V O hV _).mono ?_;rintro e6 w6 ⟨rfl,ab⟩
   have al:=(ab.block (o+1+1) (by omega)).trans ar.out;have av:=hid (ao.out.trans (ab.mono ao.out.size));clear ab;go_wp2_with ((with_reducible show wpList _ _ _ (Oper.mk none (Op.store 284 _ _) _ _ _ _::_) _ _);refine wpList_store_row rfl 284 _ _ rfl (o+1+1) (qj .u32 (YF .u32 h V 8)) rfl rfl 284 _ al (by rw[qf,hF.1];kernel_rfl) (by rw[qf,hF.1];rfl) qy ?_)
   exact Bp (results_cell_row rfl _ _ _ _ _ _ _ rfl (setRow_heap _ _ _ _ _ _ al) Tryz.underlying284 rfl (by rw[qf,hF.1];kernel_rfl)) rfl ⟨ap.out,below_setRow (av.out.mono (by omega)) (by omega) _⟩
theorem qcs (i:Nat)(o:i<8)(w:World):Calls Tryz.prog 220 #[.int .i64 i] w fun e w'=>e= .returned (.int .u64 (wd IVb i))∧Below w.heap.size w w':=by
 rcases(show i=0∨i=1∨i=2∨i=3∨i=4∨i=5∨i=6∨i=7 by omega)with rfl|rfl|rfl|rfl|rfl|rfl|rfl|rfl
 ·go_enter Tryz.func220,Tryz.ntmps220
  go_wp2
  go_ret
  exact⟨rfl,Br.alloc Nl _⟩
 ·go_enter Tryz.func220,Tryz.ntmps220
  go_wp2
  go_ret
  exact⟨rfl,Br.alloc Nl _⟩
 ·go_enter Tryz.func220,Tryz.ntmps220
  go_wp2
  go_ret
  exact⟨rfl,Br.alloc Nl _⟩
 ·go_enter Tryz.func220,Tryz.ntmps220
  go_wp2
  go_ret
  exact⟨rfl,Br.alloc Nl _⟩
 ·go_enter Tryz.func220,Tryz.ntmps220
  go_wp2
  go_ret
  exact⟨rfl,Br.alloc Nl _⟩
 ·go_enter Tryz.func220,Tryz.ntmps220
  go_wp2
  go_ret
  exact⟨rfl,Br.alloc Nl _⟩
 ·go_enter Tryz.func220,Tryz.ntmps220
  go_wp2
  go_ret
  exact⟨rfl,Br.alloc Nl _⟩
 ·go_enter Tryz.func220,Tryz.ntmps220
  go_wp2
  go_ret
  exact⟨rfl,Br.alloc Nl _⟩
theorem qhp (a:Nat)(q:a<16)(w:World):Calls Tryz.prog 232 #[.int .i64 a] w fun e w'=>e= .returned (.bool true)∧w'=w:=by
 have r:(0:Int)≤a:=by omega
 have o:(a:Int)≤15:=by omega
 go_enter Tryz.func232,Tryz.ntmps232
 go_wp2
 go_ret
 exact⟨rfl,rfl⟩
def qfw (n:Nat):Nat:=if n<10 then 48+n else 87+n
theorem qhN (n:Nat)(q:n<16)(w:World):Calls Tryz.prog 234 #[.int .u8 (qfw n:Nat)] w fun e w'=>e= .returned (.int .i64 n)∧w'=w:=by
 by_cases h:n<10
 ·have o:=hid (YA (k:= .i64) (show 48+(n:Int) - 48=n by omega));rw[show qfw n=48+n by unfold qfw;rw[if_pos h]];go_enter Tryz.func234,Tryz.ntmps234
  go_wp2
  go_ret
  exact⟨o.out,rfl⟩
 ·have o:=hid (YA (k:= .i64) (show 87+(n:Int) - 97+10=n by omega));rw[show qfw n=87+n by unfold qfw;rw[if_neg h]];go_enter Tryz.func234,Tryz.ntmps234
  go_wp2
  go_ret
  exact⟨o.out,rfl⟩
def okTab (s:ByteArray):Bool:=(List.range 160).all fun k=>match s.data[k]? with|some b=>b.toNat==qfw (sigT.flatten.getD k 0)|none=>false
theorem qhO (s:ByteArray)(r p i:Nat)(I:p<10)(J:i<16)(O:r%10=p)(h:16*p+i<s.size)(G:okTab s=true)(w:World):
  Calls Tryz.prog 234 #[.int .u8 ((s[16*p+i]'h).toNat:Nat)] w fun e w'=>e= .returned (.int .i64 (qv r i:Nat))∧w'=w:=by
 have o:=List.all_eq_true.1 G (16*p+i) (List.mem_range.2 (by omega));have q:s.data[16*p+i]? =some (s[16*p+i]'h):=Array.getElem?_eq_getElem h;rw[q]at o;have U: ∀p<10,∀i<16,sigT.flatten.getD (16*p+i) 0=(sigT.getD p []).getD i 0:=by decide+kernel
 have D:(s[16*p+i]'h).toNat=qfw (qv r i):=by
  have:=beq_iff_eq.1 o
  rw[this,U p I i J];unfold qv;rw[O]
 rw[D];exact qhN _ (qU r i) w
theorem qat (r i:Nat)(V:r<12)(I:i<16)(w:World):Calls Tryz.prog 224 #[.int .i64 r,.int .i64 i] w fun e w'=>e= .returned (.int .i64 (qv r i:Nat))∧w'=w:=by
 have D:=hid (Zh r 10 w (by decide));have o:=Nat.mod_lt r (show 0<10 by decide);go_enter Tryz.func224,Tryz.ntmps224
 go_wp2_with fail
 refine D.out.mono ?_;rintro O w1 ⟨rfl,rfl⟩;obtain⟨p,q⟩:=Ex (r%10);rw[q]at o⊢;have G:=hid q;clear q D;go_wp2_with fail
 refine(qhO _ r p i o I G.out _ (by kernel_rfl) _).mono ?_;rintro U J ⟨rfl,rfl⟩;go_wp2
 go_ret
 exact⟨rfl,rfl⟩
theorem qgl (i j:Nat)(o:i<8)(q:j<4):zz[i*4+j]? =some (.int .i64 ((YL i).getD j 0:Nat)):=by
 have h: ∀i<8,∀j<4,((List.range 8).flatMap YL)[i*4+j]? =some ((YL i).getD j 0):=by decide+kernel
 unfold zz yG;rw[List.getElem?_toArray,List.getElem?_map,h i o j q];rfl
theorem qc1 (i:Nat)(V:i<8)(w:World):Calls Tryz.prog 222 #[.int .i64 i] w fun e w'=>e= .returned (.agg #[.int .i64 (plA i:Nat),.int .i64 (plB i:Nat),.int .i64 (plC i:Nat),.int .i64 (plD i:Nat)])∧Below w.heap.size w w':=by
 obtain⟨o,O⟩:=Ex w.heap.size;go_enter Tryz.func222,Tryz.ntmps222
 go_upto_region 1 with(fail)
 apply wp_region_lit
 refine wpList_buildTo rfl 330 _ rfl (some 4) rfl (yG (YL 0)) (by kernel_rfl) ?_;simp only[Act.put,Ls];refine wpList_buildTo rfl 330 _ rfl (some 5) rfl (yG (YL 1)) (by kernel_rfl) ?_;simp only[Act.put,Ls];refine wpList_buildTo rfl 330 _ rfl (some 6) rfl (yG (YL 2)) (by kernel_rfl) ?_;simp only[Act.put,Ls];refine wpList_buildTo rfl 330 _ rfl (some 7) rfl (yG (YL 3)) (by kernel_rfl) ?_;simp only[Act.put,Ls];refine wpList_buildTo rfl 330 _ rfl (some 8) rfl (yG (YL 4)) (by kernel_rfl) ?_;simp only[Act.put,Ls];refine wpList_buildTo rfl 330 _ rfl (some 9) rfl (yG (YL 5)) (by kernel_rfl) ?_;simp only[Act.put,Ls];refine wpList_buildTo rfl 330 _ rfl (some 10) rfl (yG (YL 6)) (by kernel_rfl) ?_;simp only[Act.put,Ls];refine wpList_buildTo rfl 330 _ rfl (some 11) rfl (yG (YL 7)) (by kernel_rfl) ?_;simp only[Act.put,Ls];refine wpList_buildTo rfl 339 _ rfl (some 12) rfl zz (by kernel_rfl) ?_;simp only[Act.put,Ls];refine wpList_plain rfl fun _ I=>?_
 go_simp
 refine I _ _ ?_;clear I;refine wpList_store_row rfl 339 _ _ rfl (o+1) zz rfl rfl 339 _ (qe _ _ (by simp;omega)) (by kernel_rfl) (by kernel_rfl) (by kernel_rfl) ?_;simp only[Act.put,Ls];go_upto_region 2 with(fail)
 refine qn ?_;intro W r;have G:W.heap[o+1]? =some (.cells zz 339 (0,0)):=by
  rw[r];exact setRow_heap _ _ _ _ _ _ (qe _ _ (by simp;omega))
 have D:W.heap[o]? =some (.cells #[.int .i64 0,.int .i64 0,.int .i64 0,.int .i64 0] 330 (0,0)):=by
  rw[r];exact(setRow_other _ _ _ _ (by omega)).trans ((Bh _ _ _ (by simp;omega)).trans (qe _ _ O.symm))
 have U:Below w.heap.size w W:=by
  rw[r];exact below_setRow (((Below.refl w.heap.size w).alloc Nl _).alloc (by simp) _) (by omega) _
 clear r;have q:=fun j X=>(qq G (i*4+j)).trans (qgl i j V X)
 have c0:W.cell? ⟨o+1,i*4,none⟩=some (.int .i64 (plA i:Nat)):=q 0 (by decide);have c1:W.cell? ⟨o+1,i*4+1,none⟩=some (.int .i64 (plB i:Nat)):=q 1 (by decide);have c2:W.cell? ⟨o+1,i*4+2,none⟩=some (.int .i64 (plC i:Nat)):=q 2 (by decide);have c3:W.cell? ⟨o+1,i*4+3,none⟩=some (.int .i64 (plD i:Nat)):=q 3 (by decide);have hE:((i:Nat):Int).tmod 8=(i:Int):=by rw[Int.tmod_eq_emod_of_nonneg (by omega)];omega
 have Z:(i:Int)<8:=by omega
 have Y:=hid D;obtain⟨cR,fR⟩:=qO D;clear G q D;go_wp2_with fail
 have J:=block_setCell (i:=3) (block_setCell (i:=2) (block_setCell (i:=1) (block_setCell (i:=0) Y.out (.int .i64 (plA i:Nat))) (.int .i64 (plB i:Nat))) (.int .i64 (plC i:Nat))) (.int .i64 (plD i:Nat));exact Bp (results_cell_row rfl _ _ _ _ _ _ _ rfl J Tryz.underlying330 rfl rfl) rfl ⟨rfl,(((U.setCell (by simp;omega) _).setCell (by simp;omega) _).setCell (by simp;omega) _).setCell (by simp;omega) _ |>.mono (by omega)⟩
theorem qA {P:Program}{fn:Func}{p u:Tmp}{o:TypeId}(h:fn.results= #[.cell p o,.tmp u])(tmps:Array Value)(w:World)(g:Nat)(t:TypeId)(cs:Array Value)(fr:Nat×Nat)(d:TypeDesc)
  (I:tmps.getD p undef= .pointer (some ⟨g,0,none⟩)) (D:w.heap[g]? =some (.cells cs t fr))
  (q:P.underlying o=some d) (G:(match d with| .struct _| .array _ _=>true|_=>false)=true) (r:(P.info? o).map (·.size)=some cs.size):
  (results fn tmps).run P w= .ok (.tuple #[.agg cs,tmps.getD u undef]) w:=by
 rw[results_cell_tmp h,I];simp[asAddr,run_loadVar_row w g t o cs fr d D q G r]
theorem qiR (L:List Int)(hL:Words 64 16 L)(D q I G:Nat)(ha:D<16)(hb:q<16)(hc:I<16)(hd:G<16)(af:D≠q)(ah:D≠I)(ag:D≠G)(aj:q≠I)(ae:q≠G)(ai:I≠G)
  (x y:Int) (w:World):
  Calls Tryz.prog 223 #[.agg (qj .u64 L),.int .i64 D,.int .i64 q,.int .i64 I,.int .i64 G,.int .u64 x,.int .u64 y] w fun e w'=>e= .returned (.tuple #[.agg (qj .u64 (mixBig.step L D q I G x y)),.int .i64 0])∧Below w.heap.size w w':=by
 obtain⟨b0,aE⟩:=Ex w.heap.size;have hm: ∀z,IntKind.u64.wrap z=z%2^64:=fun z=>IntKind.wrap_u64 z
 obtain⟨A1,az⟩:=Ex (IntKind.u64.wrap (IntKind.u64.wrap (wd L D+wd L q)+x));obtain⟨X1,ap⟩:=Ex (bits BinOp.xor .u64 (wd L G) A1);obtain⟨D1,al⟩:=Ex (yd 64 32 X1);obtain⟨C1,av⟩:=Ex (IntKind.u64.wrap (wd L I+D1));obtain⟨X2,ao⟩:=Ex (bits BinOp.xor .u64 (wd L q) C1);obtain⟨B1,an⟩:=Ex (yd 64 24 X2);obtain⟨A2,aD⟩:=Ex (IntKind.u64.wrap (IntKind.u64.wrap (A1+B1)+y));obtain⟨X3,aw⟩:=Ex (bits BinOp.xor .u64 D1 A2);obtain⟨D2,aq⟩:=Ex (yd 64 16 X3);obtain⟨C2,aB⟩:=Ex (IntKind.u64.wrap (C1+D2));obtain⟨X4,ax⟩:=Ex (bits BinOp.xor .u64 B1 C2);obtain⟨B2,am⟩:=Ex (yd 64 63 X4);have R1:=hid (fun w=>qf5 X1 w (ap▸Qa .xor .u64 64 hm _ _));have R2:=hid (fun w=>qf6 X2 w (ao▸Qa .xor .u64 64 hm _ _));have R3:=hid (fun w=>qf7 X3 w (aw▸Qa .xor .u64 64 hm _ _));have R4:=hid (fun w=>qf4 X4 w (ax▸Qa .xor .u64 64 hm _ _));have ES:mixBig.step L D q I G x y=(((L.set D A2).set G D2).set I C2).set q B2:=by
  have e1:A1=mixBig.a1 (wd L D) (wd L q) x:=by rw[←az];exact qiK 64 .u64 hm _ _ _
  have e2:D1=mixBig.d1 (wd L D) (wd L q) (wd L G) x:=by rw[←al,←ap,e1];rfl
  have e3:C1=mixBig.c1 (wd L D) (wd L q) (wd L I) (wd L G) x:=by rw[←av,e2];exact hm _
  have e4:B1=mixBig.b1 (wd L D) (wd L q) (wd L I) (wd L G) x:=by rw[←an,←ao,e3];rfl
  have e5:A2=mixBig.a2 (wd L D) (wd L q) (wd L I) (wd L G) x y:=by rw[←aD,e1,e4];exact qiK 64 .u64 hm _ _ _
  have e6:D2=mixBig.d2 (wd L D) (wd L q) (wd L I) (wd L G) x y:=by rw[←aq,←aw,e2,e5];rfl
  have e7:C2=mixBig.c2 (wd L D) (wd L q) (wd L I) (wd L G) x y:=by rw[←aB,e3,e6];exact hm _
  have e8:B2=mixBig.b2 (wd L D) (wd L q) (wd L I) (wd L G) x y:=by rw[←am,←ax,e4,e7];rfl
  rw[e5,e6,e7,e8];rfl
 have aA:=hid (show Ending.returned (.tuple #[.agg (qj .u64 ((((L.set D A2).set G D2).set I C2).set q B2)),.int .i64 0])= .returned (.tuple #[.agg (qj .u64 (mixBig.step L D q I G x y)),.int .i64 0]) by rw[ES]);rw[al]at R1;rw[an]at R2;rw[aq]at R3;rw[am]at R4;clear al an aq am ES hm;obtain⟨va,ab⟩:=Ex (wd L D);obtain⟨vb,aa⟩:=Ex (wd L q);obtain⟨vc,ad⟩:=Ex (wd L I);obtain⟨vd,ac⟩:=Ex (wd L G);rw[ab,aa]at az;rw[ac]at ap;rw[ad]at av;rw[aa]at ao;have au:=hid (And.intro ab (And.intro aa (And.intro ad ac)));clear ab aa ad ac;have HN:=hid (And.intro af (And.intro ah (And.intro ag (And.intro aj (And.intro ae ai)))));have n0:((D:Int)==(q:Int))=false:=by rw[beq_eq_false_iff_ne];omega
 have n1:((D:Int)==(I:Int))=false:=by rw[beq_eq_false_iff_ne];omega
 have n2:((D:Int)==(G:Int))=false:=by rw[beq_eq_false_iff_ne];omega
 have n3:((q:Int)==(I:Int))=false:=by rw[beq_eq_false_iff_ne];omega
 have n4:((q:Int)==(G:Int))=false:=by rw[beq_eq_false_iff_ne];omega
 have n5:((I:Int)==(G:Int))=false:=by rw[beq_eq_false_iff_ne];omega
 go_enter Tryz.func223,Tryz.ntmps223
 clear af ah ag aj ae ai;iterate 4
  go_wp2_with fail
  refine(qhp _ (by assumption) _).mono ?_;rintro r w1 ⟨rfl,rfl⟩
 go_wp2_with fail
 obtain⟨af,ah,ag,aj,ae,ai⟩:=HN.out;refine qn ?_;intro W o;have hv:W.heap[b0]? =some (.cells (qj .u64 L) 252 (0,0)):=by
  rw[o];exact(Bh _ _ _ (by simp;omega)).trans (qe _ _ aE.symm)
 have hr:W.heap[b0+1]? =some (.cells #[.int .u64 0,.int .u64 0,.int .u64 0,.int .u64 0,.int .u64 0,.int .u64 0,.int .u64 0,.int .u64 0,.int .u64 0,.int .u64 0,.int .u64 0,.int .u64 0,.int .u64 0,.int .u64 0,.int .u64 0,.int .u64 0] 252 (0,0)):=by
  rw[o];exact qe _ _ (by simp;omega)
 have hB:Below w.heap.size w W:=by
  rw[o];exact((Below.refl w.heap.size w).alloc Nl _).alloc (by simp) _
 clear o;obtain⟨ab,aa,ad,ac⟩:=au.out;have h0:At4 .u64 b0 252 D q I G W L va vb vc vd W:=⟨hv,hL.1,ab,aa,ad,ac,⟨ha,hb,hc,hd⟩,⟨af,ah,ag,aj,ae,ai⟩,But.refl _ _⟩;have HR:=hid hr;have HB:=hid hB;clear hv hr hB ab aa ad ac au;refine qn ?_;intro W0 o;have H0:=hid (h0.letter o);obtain⟨U,O,X,V,Z,Y⟩:=H0.out.facts;clear o h0;refine qk (by dsimp only[List.dropLast]) (by rfl) (by rfl) (by kernel_rfl) (by kernel_rfl) (by kernel_rfl) (by kernel_rfl) ?_;repeat(go_big_quiet_step (fail))
 refine wpQuiet_nil ?_;intro _ J;obtain⟨n0,rfl⟩:=J;go_wp2_with fail
 clear U O X V Z Y;have h1:=H0.out.setA n0 A1;clear H0;refine qn ?_;intro W1 o;have H1:=hid (h1.letter o);obtain⟨U,O,X,V,Z,Y⟩:=H1.out.facts;clear o h1;refine qk (by dsimp only[List.dropLast]) (by rfl) (by rfl) (by kernel_rfl) (by kernel_rfl) (by kernel_rfl) (by kernel_rfl) ?_;repeat(go_big_quiet_step (exact Calls.quiet_of (R1.out _)))
 refine wpQuiet_nil ?_;intro _ J;obtain⟨n1,rfl⟩:=J;go_wp2_with fail
 clear U O X V Z Y;have h2:=H1.out.setD n1 D1;clear H1;refine qn ?_;intro W2 o;have H2:=hid (h2.letter o);obtain⟨U,O,X,V,Z,Y⟩:=H2.out.facts;clear o h2;refine qk (by dsimp only[List.dropLast]) (by rfl) (by rfl) (by kernel_rfl) (by kernel_rfl) (by kernel_rfl) (by kernel_rfl) ?_;repeat(go_big_quiet_step (fail))
 refine wpQuiet_nil ?_;intro _ J;obtain⟨n2,rfl⟩:=J;go_wp2_with fail
 clear U O X V Z Y;have h3:=H2.out.setC n2 C1;clear H2;refine qn ?_;intro W3 o;have H3:=hid (h3.letter o);obtain⟨U,O,X,V,Z,Y⟩:=H3.out.facts;clear o h3;refine qk (by dsimp only[List.dropLast]) (by rfl) (by rfl) (by kernel_rfl) (by kernel_rfl) (by kernel_rfl) (by kernel_rfl) ?_;repeat(go_big_quiet_step (exact Calls.quiet_of (R2.out _)))
 refine wpQuiet_nil ?_;intro _ J;obtain⟨n3,rfl⟩:=J;go_wp2_with fail
 clear U O X V Z Y;have h4:=H3.out.setB n3 B1;clear H3;refine qn ?_;intro W4 o;have H4:=hid (h4.letter o);obtain⟨U,O,X,V,Z,Y⟩:=H4.out.facts;clear o h4;refine qk (by dsimp only[List.dropLast]) (by rfl) (by rfl) (by kernel_rfl) (by kernel_rfl) (by kernel_rfl) (by kernel_rfl) ?_;repeat(go_big_quiet_step (fail))
 refine wpQuiet_nil ?_;intro _ J;obtain⟨n4,rfl⟩:=J;go_wp2_with fail
 clear U O X V Z Y;have h5:=H4.out.setA n4 A2;clear H4;refine qn ?_;intro W5 o;have H5:=hid (h5.letter o);obtain⟨U,O,X,V,Z,Y⟩:=H5.out.facts;clear o h5;refine qk (by dsimp only[List.dropLast]) (by rfl) (by rfl) (by kernel_rfl) (by kernel_rfl) (by kernel_rfl) (by kernel_rfl) ?_;repeat(go_big_quiet_step (exact Calls.quiet_of (R3.out _)))
 refine wpQuiet_nil ?_;intro _ J;obtain⟨n5,rfl⟩:=J;go_wp2_with fail
 clear U O X V Z Y;have h6:=H5.out.setD n5 D2;clear H5;refine qn ?_;intro W6 o;have H6:=hid (h6.letter o);obtain⟨U,O,X,V,Z,Y⟩:=H6.out.facts;clear o h6;refine qk (by dsimp only[List.dropLast]) (by rfl) (by rfl) (by kernel_rfl) (by kernel_rfl) (by kernel_rfl) (by kernel_rfl) ?_;repeat(go_big_quiet_step (fail))
 refine wpQuiet_nil ?_;intro _ J;obtain⟨n6,rfl⟩:=J;go_wp2_with fail
 clear U O X V Z Y;have h7:=H6.out.setC n6 C2;clear H6;refine qn ?_;intro W7 o;have H7:=hid (h7.letter o);obtain⟨U,O,X,V,Z,Y⟩:=H7.out.facts;clear o h7;refine qk (by dsimp only[List.dropLast]) (by rfl) (by rfl) (by kernel_rfl) (by kernel_rfl) (by kernel_rfl) (by kernel_rfl) ?_;repeat(go_big_quiet_step (exact Calls.quiet_of (R4.out _)))
 refine wpQuiet_nil ?_;intro _ J;obtain⟨n7,rfl⟩:=J;go_upto_region 11 with(fail)
 clear U O X V Z Y;have h8:=H7.out.setB n7 B2;clear H7;have ak:((((L.set D A2).set G D2).set I C2).set q B2).length=16:=by simpa using hL.1
 have ar:=(h8.but.block (b0+1) (Ai HR.out).1 (by omega)).trans HR.out;have ay:=h8.heap;have aC:=hid (HB.out.trans (h8.but.below (by omega) HB.out.size));rw[qio af ah ag aj ae ai]at ay;generalize (((L.set D A2).set G D2).set I C2).set q B2=L8 at*;clear h8;apply wp_region_lit
 refine wpList_load_row rfl 252 _ rfl b0 rfl _ _ _ _ ay Tryz.underlying252 rfl (by rw[qf,ak];kernel_rfl) ?_;refine wpList_store_row rfl 252 _ _ rfl (b0+1) (qj .u64 L8) rfl rfl 252 _ ar (by rw[qf,ak];kernel_rfl) (by rw[qf,ak];rfl) qy ?_;simp only[Act.put,Ls];go_wp2_with fail
 exact Bp (qA rfl _ _ _ _ _ _ _ rfl (setRow_heap _ _ _ _ _ _ ar) Tryz.underlying252 rfl (by rw[qf,ak];kernel_rfl)) rfl ⟨Eq.trans (b:= .returned (.tuple #[.agg (qj .u64 L8),.int .i64 0])) rfl aA.out,below_setRow (aC.out.mono (by omega)) (by omega) _⟩
def n4 (a b c d:Nat)(i:Nat):Nat:=match i with|0=>a|1=>b|2=>c|_=>d
theorem qfb (D r q o:Nat)(ha:D<16)(hb:r<16)(hc:q<16)(hd:o<16)(Y:D≠r)(U:D≠q)(ab:D≠o)(aa:r≠q)(V:r≠o)(Z:q≠o)(w:World):
  Calls Tryz.prog 236 #[.int .i64 D,.int .i64 r,.int .i64 q,.int .i64 o] w fun e w'=>e= .returned (.bool true)∧Below w.heap.size w w':=by
 have G: ∀i,i<4→n4 D r q o i<16:=fun i O=>by
  match i,O with
  | 0,_=>exact ha
  | 1,_=>exact hb
  | 2,_=>exact hc
  | 3,_=>exact hd
 have X: ∀i j,i<4→j<i→n4 D r q o i≠n4 D r q o j:=fun i j O hj=>by
  match i,j,O,hj with
  | 1,0,_,_=>exact Ne.symm Y
  | 2,0,_,_=>exact Ne.symm U
  | 2,1,_,_=>exact Ne.symm aa
  | 3,0,_,_=>exact Ne.symm ab
  | 3,1,_,_=>exact Ne.symm V
  | 3,2,_,_=>exact Ne.symm Z
 have ac:=hid G;have ad:=hid X;clear ha hb hc hd Y U ab aa V Z G X;obtain⟨b0,af⟩:=Ex w.heap.size;go_enter Tryz.func236,Tryz.ntmps236
 go_wp2_with fail
 refine qn ?_;intro W hW;have hl:W.heap[b0]? =some (.cells #[.int .i64 D,.int .i64 r,.int .i64 q,.int .i64 o] 3 (0,0)):=by
  rw[hW];exact qe _ _ af.symm
 have hB:Below w.heap.size w W:=by rw[hW];exact Br.alloc Nl _
 have I: ∀i,i<4→W.cell? ⟨b0,i,none⟩=some (.int .i64 (n4 D r q o i)):=fun i O=>by
  rw[qq hl];match i,O with
  | 0,_=>rfl
  | 1,_=>rfl
  | 2,_=>rfl
  | 3,_=>rfl
 have HC:=hid I;clear hW hl I;go_loopw [10] (fun i wr=> ∃j m:Nat,i= .int .i64 j∧j≤4∧wr=W.drewN m) (fun i _=>4 - (intOf i).toNat)
 case atStart=>exact⟨0,0,rfl,Nat.zero_le _,rfl⟩
 case round=>
  obtain⟨j,m,rfl,hj,rfl⟩:=hrel;by_cases G:j<4
  ·have c1:=HC.out j G;have l1:=ac.out j G;have HN:=hid (fun k hk=>ad.out j k G hk);have ae:=hid (fun k (hk:k<j)=>HC.out k (by omega));generalize n4 D r q o j=x at*;have q1: ¬((x:Int)<0):=by omega
   have q2: ¬(15<(x:Int)):=by omega
   go_wp2_with fail
   go_loopw [11] (fun i wr=> ∃k m:Nat,i= .int .i64 k∧k≤j∧wr=W.drewN m) (fun i _=>j - (intOf i).toNat)
   case atStart=>exact⟨0,m,rfl,Nat.zero_le _,rfl⟩
   case round=>
    obtain⟨k,m2,rfl,hk,rfl⟩:=hrel;by_cases J:k<j
    ·have c2:=ae.out k J;have n2:=HN.out k J;generalize n4 D r q o k=y at*;have n3:((x:Int)==(y:Int))=false:=by rw[beq_eq_false_iff_ne];omega
     have q3:k<4:=by omega
     clear n2;go_wp2_with fail
     go_quiet (fail)
     go_wp2
     exact⟨⟨k+1,_,rfl,by omega,rfl⟩,by simp[intOf];omega⟩
    ·obtain rfl:k=j:=by omega
     go_wp2
     exact⟨⟨k+1,m2,rfl,by omega,rfl⟩,by simp[intOf];omega⟩
  ·obtain rfl:j=4:=by omega
   go_wp2
   go_ret
   exact⟨rfl,hB.trans (QR _)⟩
theorem yk {fn:Func}{t u v x:Tmp}(h:fn.results= #[.tmp t,.tmp u,.tmp v,.tmp x])(tmps:Array Value)(P:Program)(w:World):
  (results fn tmps).run P w= .ok (.tuple #[tmps.getD t undef,tmps.getD u undef,tmps.getD v undef,tmps.getD x undef]) w:=by
 simp[results,h]
theorem qiC (i:Nat)(o:i<8)(w:World):Calls Tryz.prog 225 #[.int .i64 i] w fun e w'=>e= .returned (.tuple #[.int .i64 (plA i:Nat),.int .i64 (plB i:Nat),.int .i64 (plC i:Nat),.int .i64 (plD i:Nat)])∧w'=w:=by
 rcases(show i=0∨i=1∨i=2∨i=3∨i=4∨i=5∨i=6∨i=7 by omega)with rfl|rfl|rfl|rfl|rfl|rfl|rfl|rfl
 ·go_enter Tryz.func225,Tryz.ntmps225
  go_wp2
  exact Bp (yk rfl _ _ _) rfl ⟨rfl,rfl⟩
 ·go_enter Tryz.func225,Tryz.ntmps225
  go_wp2
  exact Bp (yk rfl _ _ _) rfl ⟨rfl,rfl⟩
 ·go_enter Tryz.func225,Tryz.ntmps225
  go_wp2
  exact Bp (yk rfl _ _ _) rfl ⟨rfl,rfl⟩
 ·go_enter Tryz.func225,Tryz.ntmps225
  go_wp2
  exact Bp (yk rfl _ _ _) rfl ⟨rfl,rfl⟩
 ·go_enter Tryz.func225,Tryz.ntmps225
  go_wp2
  exact Bp (yk rfl _ _ _) rfl ⟨rfl,rfl⟩
 ·go_enter Tryz.func225,Tryz.ntmps225
  go_wp2
  exact Bp (yk rfl _ _ _) rfl ⟨rfl,rfl⟩
 ·go_enter Tryz.func225,Tryz.ntmps225
  go_wp2
  exact Bp (yk rfl _ _ _) rfl ⟨rfl,rfl⟩
 ·go_enter Tryz.func225,Tryz.ntmps225
  go_wp2
  exact Bp (yk rfl _ _ _) rfl ⟨rfl,rfl⟩
theorem qiS (L:List Int)(hL:Words 32 16 L)(D q J I:Nat)(ha:D<16)(hb:q<16)(hc:J<16)(hd:I<16)(ad:D≠q)(ag:D≠J)(af:D≠I)(aj:q≠J)(ab:q≠I)(ai:J≠I)
  (x y:Int) (w:World):
  Calls Tryz.prog 226 #[.agg (qj .u32 L),.int .i64 D,.int .i64 q,.int .i64 J,.int .i64 I,.int .u32 x,.int .u32 y] w fun e w'=>e= .returned (.tuple #[.agg (qj .u32 (mixSmall.step L D q J I x y)),.int .i64 0])∧Below w.heap.size w w':=by
 obtain⟨b0,aF⟩:=Ex w.heap.size;have hm: ∀z,IntKind.u32.wrap z=z%2^32:=fun z=>IntKind.wrap_u32 z
 obtain⟨A1,aA⟩:=Ex ((wd L D+wd L q+x)%4294967296);obtain⟨X1,aq⟩:=Ex (bits BinOp.xor .u32 (wd L I) A1);obtain⟨D1,am⟩:=Ex (yd 32 16 X1);obtain⟨C1,aw⟩:=Ex ((wd L J+D1)%4294967296);obtain⟨X2,ap⟩:=Ex (bits BinOp.xor .u32 (wd L q) C1);obtain⟨B1,ao⟩:=Ex (yd 32 12 X2);obtain⟨A2,aE⟩:=Ex ((A1+B1+y)%4294967296);obtain⟨X3,ax⟩:=Ex (bits BinOp.xor .u32 D1 A2);obtain⟨D2,ar⟩:=Ex (yd 32 8 X3);obtain⟨C2,aC⟩:=Ex ((C1+D2)%4294967296);obtain⟨X4,ay⟩:=Ex (bits BinOp.xor .u32 B1 C2);obtain⟨B2,an⟩:=Ex (yd 32 7 X4);have R1:=hid (fun w=>qf8 X1 w (aq▸Qa .xor .u32 32 hm _ _));have R2:=hid (fun w=>qf9 X2 w (ap▸Qa .xor .u32 32 hm _ _));have R3:=hid (fun w=>qgY X3 w (ax▸Qa .xor .u32 32 hm _ _));have R4:=hid (fun w=>qgZ X4 w (ay▸Qa .xor .u32 32 hm _ _));have ES:mixSmall.step L D q J I x y=(((L.set D A2).set I D2).set J C2).set q B2:=by
  have e1:A1=mixSmall.a1 (wd L D) (wd L q) x:=by rw[←aA];rfl
  have e2:D1=mixSmall.d1 (wd L D) (wd L q) (wd L I) x:=by rw[←am,←aq,e1];rfl
  have e3:C1=mixSmall.c1 (wd L D) (wd L q) (wd L J) (wd L I) x:=by rw[←aw,e2];rfl
  have e4:B1=mixSmall.b1 (wd L D) (wd L q) (wd L J) (wd L I) x:=by rw[←ao,←ap,e3];rfl
  have e5:A2=mixSmall.a2 (wd L D) (wd L q) (wd L J) (wd L I) x y:=by rw[←aE,e1,e4];rfl
  have e6:D2=mixSmall.d2 (wd L D) (wd L q) (wd L J) (wd L I) x y:=by rw[←ar,←ax,e2,e5];rfl
  have e7:C2=mixSmall.c2 (wd L D) (wd L q) (wd L J) (wd L I) x y:=by rw[←aC,e3,e6];rfl
  have e8:B2=mixSmall.b2 (wd L D) (wd L q) (wd L J) (wd L I) x y:=by rw[←an,←ay,e4,e7];rfl
  rw[e5,e6,e7,e8];rfl
 have aB:=hid (show Ending.returned (.tuple #[.agg (qj .u32 ((((L.set D A2).set I D2).set J C2).set q B2)),.int .i64 0])= .returned (.tuple #[.agg (qj .u32 (mixSmall.step L D q J I x y)),.int .i64 0]) by rw[ES]);rw[am]at R1;rw[ao]at R2;rw[ar]at R3;rw[an]at R4;clear am ao ar an ES hm;obtain⟨va,ac⟩:=Ex (wd L D);obtain⟨vb,aa⟩:=Ex (wd L q);obtain⟨vc,ah⟩:=Ex (wd L J);obtain⟨vd,ae⟩:=Ex (wd L I);rw[ac,aa]at aA;rw[ae]at aq;rw[ah]at aw;rw[aa]at ap;have av:=hid (And.intro ac (And.intro aa (And.intro ah ae)));clear ac aa ah ae;have HN:=hid (And.intro ad (And.intro ag (And.intro af (And.intro aj (And.intro ab ai)))));go_enter Tryz.func226,Tryz.ntmps226
 go_wp2_with fail
 refine(qfb D q J I ha hb hc hd ad ag af aj ab ai _).mono ?_;rintro r w1 ⟨rfl,al⟩;clear ad ag af aj ab ai;go_wp2_with fail
 obtain⟨ad,ag,af,aj,ab,ai⟩:=HN.out;refine qn ?_;intro W o;have hv:W.heap[b0]? =some (.cells (qj .u32 L) 298 (0,0)):=by
  rw[o];exact(al.block b0 (by simp;omega)).trans ((Bh _ _ _ (by simp;omega)).trans (qe _ _ aF.symm))
 have hr:W.heap[b0+1]? =some (.cells #[.int .u32 0,.int .u32 0,.int .u32 0,.int .u32 0,.int .u32 0,.int .u32 0,.int .u32 0,.int .u32 0,.int .u32 0,.int .u32 0,.int .u32 0,.int .u32 0,.int .u32 0,.int .u32 0,.int .u32 0,.int .u32 0] 298 (0,0)):=by
  rw[o];exact(al.block (b0+1) (by simp;omega)).trans (qe _ _ (by simp;omega))
 have hB:Below w.heap.size w W:=by
  rw[o];exact(((Below.refl w.heap.size w).alloc Nl _).alloc (by simp) _).trans (al.mono (by simp;omega))
 clear o al;obtain⟨ac,aa,ah,ae⟩:=av.out;have h0:At4 .u32 b0 298 D q J I W L va vb vc vd W:=⟨hv,hL.1,ac,aa,ah,ae,⟨ha,hb,hc,hd⟩,⟨ad,ag,af,aj,ab,ai⟩,But.refl _ _⟩;have HR:=hid hr;have HB:=hid hB;clear hv hr hB ac aa ah ae av;refine qn ?_;intro W0 o;have H0:=hid (h0.letter o);obtain⟨U,O,X,V,Z,Y⟩:=H0.out.facts;clear o h0;refine qk (by dsimp only[List.dropLast]) (by rfl) (by rfl) (by kernel_rfl) (by kernel_rfl) (by kernel_rfl) (by kernel_rfl) ?_;repeat(go_big_quiet_step (fail))
 refine wpQuiet_nil ?_;intro _ G;obtain⟨n0,rfl⟩:=G;go_wp2_with fail
 clear U O X V Z Y;have h1:=H0.out.setA n0 A1;clear H0;refine qn ?_;intro W1 o;have H1:=hid (h1.letter o);obtain⟨U,O,X,V,Z,Y⟩:=H1.out.facts;clear o h1;refine qk (by dsimp only[List.dropLast]) (by rfl) (by rfl) (by kernel_rfl) (by kernel_rfl) (by kernel_rfl) (by kernel_rfl) ?_;repeat(go_big_quiet_step (exact Calls.quiet_of_same (R1.out _)))
 refine wpQuiet_nil ?_;intro _ G;obtain⟨n1,rfl⟩:=G;go_wp2_with fail
 clear U O X V Z Y;have h2:=H1.out.setD n1 D1;clear H1;refine qn ?_;intro W2 o;have H2:=hid (h2.letter o);obtain⟨U,O,X,V,Z,Y⟩:=H2.out.facts;clear o h2;refine qk (by dsimp only[List.dropLast]) (by rfl) (by rfl) (by kernel_rfl) (by kernel_rfl) (by kernel_rfl) (by kernel_rfl) ?_;repeat(go_big_quiet_step (fail))
 refine wpQuiet_nil ?_;intro _ G;obtain⟨n2,rfl⟩:=G;go_wp2_with fail
 clear U O X V Z Y;have h3:=H2.out.setC n2 C1;clear H2;refine qn ?_;intro W3 o;have H3:=hid (h3.letter o);obtain⟨U,O,X,V,Z,Y⟩:=H3.out.facts;clear o h3;refine qk (by dsimp only[List.dropLast]) (by rfl) (by rfl) (by kernel_rfl) (by kernel_rfl) (by kernel_rfl) (by kernel_rfl) ?_;repeat(go_big_quiet_step (exact Calls.quiet_of_same (R2.out _)))
 refine wpQuiet_nil ?_;intro _ G;obtain⟨n3,rfl⟩:=G;go_wp2_with fail
 clear U O X V Z Y;have h4:=H3.out.setB n3 B1;clear H3;refine qn ?_;intro W4 o;have H4:=hid (h4.letter o);obtain⟨U,O,X,V,Z,Y⟩:=H4.out.facts;clear o h4;refine qk (by dsimp only[List.dropLast]) (by rfl) (by rfl) (by kernel_rfl) (by kernel_rfl) (by kernel_rfl) (by kernel_rfl) ?_;repeat(go_big_quiet_step (fail))
 refine wpQuiet_nil ?_;intro _ G;obtain⟨n4,rfl⟩:=G;go_wp2_with fail
 clear U O X V Z Y;have h5:=H4.out.setA n4 A2;clear H4;refine qn ?_;intro W5 o;have H5:=hid (h5.letter o);obtain⟨U,O,X,V,Z,Y⟩:=H5.out.facts;clear o h5;refine qk (by dsimp only[List.dropLast]) (by rfl) (by rfl) (by kernel_rfl) (by kernel_rfl) (by kernel_rfl) (by kernel_rfl) ?_;repeat(go_big_quiet_step (exact Calls.quiet_of_same (R3.out _)))
 refine wpQuiet_nil ?_;intro _ G;obtain⟨n5,rfl⟩:=G;go_wp2_with fail
 clear U O X V Z Y;have h6:=H5.out.setD n5 D2;clear H5;refine qn ?_;intro W6 o;have H6:=hid (h6.letter o);obtain⟨U,O,X,V,Z,Y⟩:=H6.out.facts;clear o h6;refine qk (by dsimp only[List.dropLast]) (by rfl) (by rfl) (by kernel_rfl) (by kernel_rfl) (by kernel_rfl) (by kernel_rfl) ?_;repeat(go_big_quiet_step (fail))
 refine wpQuiet_nil ?_;intro _ G;obtain⟨n6,rfl⟩:=G;go_wp2_with fail
 clear U O X V Z Y;have h7:=H6.out.setC n6 C2;clear H6;refine qn ?_;intro W7 o;have H7:=hid (h7.letter o);obtain⟨U,O,X,V,Z,Y⟩:=H7.out.facts;clear o h7;refine qk (by dsimp only[List.dropLast]) (by rfl) (by rfl) (by kernel_rfl) (by kernel_rfl) (by kernel_rfl) (by kernel_rfl) ?_;repeat(go_big_quiet_step (exact Calls.quiet_of_same (R4.out _)))
 refine wpQuiet_nil ?_;intro _ G;obtain⟨n7,rfl⟩:=G;go_upto_region 11 with(fail)
 clear U O X V Z Y;have h8:=H7.out.setB n7 B2;clear H7;have ak:((((L.set D A2).set I D2).set J C2).set q B2).length=16:=by simpa using hL.1
 have au:=(h8.but.block (b0+1) (Ai HR.out).1 (by omega)).trans HR.out;have az:=h8.heap;have aD:=hid (HB.out.trans (h8.but.below (by omega) HB.out.size));rw[qio ad ag af aj ab ai]at az;generalize (((L.set D A2).set I D2).set J C2).set q B2=L8 at*;clear h8;apply wp_region_lit
 refine wpList_load_row rfl 298 _ rfl b0 rfl _ _ _ _ az Tryz.underlying298 rfl (by rw[qf,ak];kernel_rfl) ?_;refine wpList_store_row rfl 298 _ _ rfl (b0+1) (qj .u32 L8) rfl rfl 298 _ au (by rw[qf,ak];kernel_rfl) (by rw[qf,ak];rfl) qy ?_;simp only[Act.put,Ls];go_wp2_with fail
 exact Bp (qA rfl _ _ _ _ _ _ _ rfl (setRow_heap _ _ _ _ _ _ au) Tryz.underlying298 rfl (by rw[qf,ak];kernel_rfl)) rfl ⟨Eq.trans (b:= .returned (.tuple #[.agg (qj .u32 L8),.int .i64 0])) rfl aB.out,below_setRow (aD.out.mono (by omega)) (by omega) _⟩
end Go.Proofs.YthjoojnlnlmljaaGreat

/- Lemmas. No condition. -/
import Derived.Test.YtahenngmaoellaaGreatO17
import Derived.Deep.Cut
import Derived.Great.BuildSlice
import Derived.Great.Frames
set_option linter.all false
set_option maxRecDepth 100000
set_option maxHeartbeats 0
namespace Go.Proofs.YtahenngmaoellaaGreat
open Go.ChangeShapes Go.WideShapes Go.ChangeAt Go.RowKit Go.Joins
open Go.Lib (hid)
attribute [local go_sem] Oper.semAt_some
theorem qe (w:World)(o:Obj){n:Nat}(q:n=w.heap.size):(w.alloc o).heap[n]? =some o:=by subst q;exact Wn w o
def yU (l:List Nat):Array Value:=(l.map fun(n:Nat)=>Value.int .i64 (n:Int)).toArray
def qau (r:Nat):List Nat:=sigT.getD (r%10) []
def qbS:Array Value:=yU sigT.flatten
def ze (i:Nat):List Nat:=[plA i,plB i,plC i,plD i]
def Za:Array Value:=yU ((List.range 8).flatMap ze)
theorem qhB (r j:Nat)(o:r<10)(q:j<16):qbS[16*r+j]? =some (.int .i64 (qv r j)):=by
 have h: ∀r<10,∀j<16,sigT.flatten[16*r+j]? =some (qv r j):=by decide+kernel
 unfold qbS yU;rw[List.getElem?_toArray,List.getElem?_map,h r o j q];rfl
theorem qhA (r:Nat)(V:r<12)(w:World):Calls Tryz.prog 232 #[.int .i64 r] w fun e w'=>e= .returned (.agg (yU (qau r)))/\Below w.heap.size w w':=by
 go_enter Tryz.func232,Tryz.ntmps232
 go_upto_region 1 with(fail)
 apply wp_region_lit
 refine wpList_buildTo rfl 341 _ rfl (some 4) rfl (yU (qau 0)) (by kernel_rfl) ?_;simp only[Act.put,Ls];refine wpList_buildTo rfl 341 _ rfl (some 5) rfl (yU (qau 1)) (by kernel_rfl) ?_;simp only[Act.put,Ls];refine wpList_buildTo rfl 341 _ rfl (some 6) rfl (yU (qau 2)) (by kernel_rfl) ?_;simp only[Act.put,Ls];refine wpList_buildTo rfl 341 _ rfl (some 7) rfl (yU (qau 3)) (by kernel_rfl) ?_;simp only[Act.put,Ls];refine wpList_buildTo rfl 341 _ rfl (some 8) rfl (yU (qau 4)) (by kernel_rfl) ?_;simp only[Act.put,Ls];refine wpList_buildTo rfl 341 _ rfl (some 9) rfl (yU (qau 5)) (by kernel_rfl) ?_;simp only[Act.put,Ls];refine wpList_buildTo rfl 341 _ rfl (some 10) rfl (yU (qau 6)) (by kernel_rfl) ?_;simp only[Act.put,Ls];refine wpList_buildTo rfl 341 _ rfl (some 11) rfl (yU (qau 7)) (by kernel_rfl) ?_;simp only[Act.put,Ls];refine wpList_buildTo rfl 341 _ rfl (some 12) rfl (yU (qau 8)) (by kernel_rfl) ?_;simp only[Act.put,Ls];refine wpList_buildTo rfl 341 _ rfl (some 13) rfl (yU (qau 9)) (by kernel_rfl) ?_;simp only[Act.put,Ls];refine wpList_buildTo rfl 351 _ rfl (some 14) rfl qbS (by kernel_rfl) ?_;simp only[Act.put,Ls];refine wpList_plain rfl fun _ D=>?_
 go_simp
 refine D _ _ ?_;clear D;refine wpList_store_row rfl 351 _ _ rfl (w.heap.size+1) qbS rfl rfl 351 _ (qe _ _ (by simp)) (by kernel_rfl) (by kernel_rfl) (by kernel_rfl) ?_;simp only[Act.put,Ls];go_upto_region 2 with(fail)
 refine qm ?_;intro W G;have I:W.heap[w.heap.size+1]? =some (.cells qbS 351 (0,0)):=by
  rw[G];exact setRow_heap _ _ _ _ _ _ (qe _ _ (by simp))
 have U:W.heap[w.heap.size]? =some (.cells (Array.replicate 16 (.int .i64 0)) 341 (0,0)):=by
  rw[G];exact(setRow_other _ _ _ _ (by omega)).trans ((Bh _ _ _ (by simp)).trans (Wn _ _))
 have X:Below w.heap.size w W:=by
  rw[G];have h2:=((Below.refl w.heap.size w).alloc Nl (.cells (Array.replicate 16 (.int .i64 0)) 341 (0,0))).alloc (by simp) (.cells (Array.replicate 160 (.int .i64 0)) 351 (0,0));exact h2.trans ⟨rfl,rfl,rfl,by simp,fun g hg=>setRow_other _ _ _ _ (by omega)⟩
 clear G;have J: ∀j,j<16->W.cell? ⟨w.heap.size+1,r%10*16+j,none⟩=some (.int .i64 (qv r j)):=fun j O=>by
  rw[qq I,Nat.mul_comm,qhB (r%10) j (Nat.mod_lt _ (by decide)) O];unfold qv;rw[Nat.mod_mod]
 have hf: ∀o,W.frozen? ⟨w.heap.size+1,o,none⟩=false:=(qR I).2;have aj:W.cell? ⟨w.heap.size+1,r%10*16,none⟩=some (.int .i64 (qv r 0)):=J 0 (by decide);have H:=hid J;have S:=hid U;clear I J U;have ah:=Nat.mod_lt r (show 0<10 by decide);have q: ∀j,0<j->j<16->W.cell? ⟨w.heap.size+1,r%10*16+j,none⟩=some (.int .i64 (qv r j)):=fun j _ O=>H.out j O
 have c1:=q 1 (by decide) (by decide);have c2:=q 2 (by decide) (by decide);have c3:=q 3 (by decide) (by decide);have c4:=q 4 (by decide) (by decide);have c5:=q 5 (by decide) (by decide);have c6:=q 6 (by decide) (by decide);have c7:=q 7 (by decide) (by decide);have c8:=q 8 (by decide) (by decide);have c9:=q 9 (by decide) (by decide);have ae:=q 10 (by decide) (by decide);have ad:=q 11 (by decide) (by decide);have ag:=q 12 (by decide) (by decide);have ab:=q 13 (by decide) (by decide);have af:=q 14 (by decide) (by decide);have ac:=q 15 (by decide) (by decide);clear q H;have aa:((r:Nat):Int).tmod 10=((r%10:Nat):Int):=by rw[Int.tmod_eq_emod_of_nonneg (by omega)];omega
 have ai:IntKind.i64.wrap (((r%10:Nat):Int)+10)=((r%10:Nat):Int)+10:=by rw[IntKind.wrap_i64];omega
 have ak:(((r%10:Nat):Int)+10).tmod 10=((r%10:Nat):Int):=by rw[Int.tmod_eq_emod_of_nonneg (by omega)];omega
 have Z:((r%10:Nat):Int)<10:=by omega
 generalize r%10=p at*;apply wp_region_lit
 iterate 6
  refine wpList_plain rfl fun _ D=>?_
  go_simp
  refine D _ _ ?_;clear D
 refine wpList_store_row rfl 341 _ _ rfl w.heap.size _ rfl rfl 341 _ S.out (by kernel_rfl) (by kernel_rfl) (by kernel_rfl) ?_;simp only[Act.put,Ls];go_wp2_with fail
 have Y: ∀r<12,[qv r 0,qv r 1,qv r 2,qv r 3,qv r 4,qv r 5,qv r 6,qv r 7,qv r 8,qv r 9,qv r 10,qv r 11,qv r 12,qv r 13,qv r 14,qv r 15]=qau r:=by decide+kernel
 exact Bp (results_cell_row rfl _ _ _ _ _ _ _ rfl (setRow_heap _ _ _ _ _ _ S.out) Tryz.underlying341 rfl (by kernel_rfl)) rfl ⟨by rw[<-Y r V];rfl,X.trans ⟨rfl,rfl,rfl,by simp,fun g hg=>setRow_other _ _ _ _ (by omega)⟩⟩
theorem qgi (w:World):Calls Tryz.prog 233 #[] w fun e w'=>e= .returned (.agg Za)/\Below w.heap.size w w':=by
 go_enter Tryz.func233,Tryz.ntmps233
 go_upto_region 1 with(fail)
 apply wp_region_lit
 refine wpList_buildTo rfl 334 _ rfl (some 1) rfl (yU (ze 0)) (by kernel_rfl) ?_;simp only[Act.put,Ls];refine wpList_buildTo rfl 334 _ rfl (some 2) rfl (yU (ze 1)) (by kernel_rfl) ?_;simp only[Act.put,Ls];refine wpList_buildTo rfl 334 _ rfl (some 3) rfl (yU (ze 2)) (by kernel_rfl) ?_;simp only[Act.put,Ls];refine wpList_buildTo rfl 334 _ rfl (some 4) rfl (yU (ze 3)) (by kernel_rfl) ?_;simp only[Act.put,Ls];refine wpList_buildTo rfl 334 _ rfl (some 5) rfl (yU (ze 4)) (by kernel_rfl) ?_;simp only[Act.put,Ls];refine wpList_buildTo rfl 334 _ rfl (some 6) rfl (yU (ze 5)) (by kernel_rfl) ?_;simp only[Act.put,Ls];refine wpList_buildTo rfl 334 _ rfl (some 7) rfl (yU (ze 6)) (by kernel_rfl) ?_;simp only[Act.put,Ls];refine wpList_buildTo rfl 334 _ rfl (some 8) rfl (yU (ze 7)) (by kernel_rfl) ?_;simp only[Act.put,Ls];refine wpList_buildTo rfl 343 _ rfl (some 9) rfl Za (by kernel_rfl) ?_;simp only[Act.put,Ls];refine wpList_store_row rfl 343 _ _ rfl w.heap.size Za rfl rfl 343 _ (Wn _ _) (by kernel_rfl) (by kernel_rfl) (by kernel_rfl) ?_;simp only[Act.put,Ls];go_wp2_with fail
 exact Bp (results_cell_row rfl _ _ _ _ _ _ _ rfl (setRow_heap _ _ _ _ _ _ (Wn _ _)) Tryz.underlying343 rfl (by kernel_rfl)) rfl ⟨rfl,((Below.refl w.heap.size w).alloc Nl _).trans ⟨rfl,rfl,rfl,by simp,fun g o=>setRow_other _ _ _ _ (by omega)⟩⟩

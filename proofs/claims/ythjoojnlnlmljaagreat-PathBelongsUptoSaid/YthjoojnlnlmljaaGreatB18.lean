/- The orders and places of the rounds, by the program. No condition. -/
import Derived.Test.YthjoojnlnlmljaaGreatB17
import Derived.Laws.Rows
import Derived.Deep.Cut
import Derived.Great.BuildSlice
import Derived.Great.Frames
import Derived.RangeFuncRecord
set_option linter.all false
set_option maxRecDepth 100000
set_option maxHeartbeats 8000000
namespace Go.Proofs.YthjoojnlnlmljaaGreat
open Go.ChangeShapes Go.WideShapes Go.ChangeAt Go.RowKit Go.Joins
open Go.Lib (hid)
attribute [local go_sem] Oper.semAt_some
theorem qe (w:World)(o:Obj){n:Nat}(q:n=w.heap.size):(w.alloc o).heap[n]? =some o:=by subst q;exact Wn w o
def yN (l:List Nat):Array Value:=(l.map fun(n:Nat)=>Value.int .i64 (n:Int)).toArray
def qaf (r:Nat):List Nat:=sigT.getD (r%10) []
def qbD:Array Value:=yN sigT.flatten
def Y2 (i:Nat):List Nat:=[plA i,plB i,plC i,plD i]
def zS:Array Value:=yN ((List.range 8).flatMap Y2)
theorem qhg (r j:Nat)(o:r<10)(q:j<16):qbD[16*r+j]? =some (.int .i64 (qu r j)):=by
 have h: ∀r<10,∀j<16,sigT.flatten[16*r+j]? =some (qu r j):=by decide+kernel
 unfold qbD yN;rw[List.getElem?_toArray,List.getElem?_map,h r o j q];rfl
theorem qhf (r:Nat)(V:r<12)(w:World):Calls Tryz.prog 227 #[.int .i64 r] w fun e w'=>e= .returned (.agg (yN (qaf r)))∧Below w.heap.size w w':=by
 go_enter Tryz.func227,Tryz.ntmps227
 go_upto_region 1 with(fail)
 apply wp_region_lit
 refine wpList_buildTo rfl 337 _ rfl (some 4) rfl (yN (qaf 0)) (by kernel_rfl) ?_;simp only[Act.put,Ls];refine wpList_buildTo rfl 337 _ rfl (some 5) rfl (yN (qaf 1)) (by kernel_rfl) ?_;simp only[Act.put,Ls];refine wpList_buildTo rfl 337 _ rfl (some 6) rfl (yN (qaf 2)) (by kernel_rfl) ?_;simp only[Act.put,Ls];refine wpList_buildTo rfl 337 _ rfl (some 7) rfl (yN (qaf 3)) (by kernel_rfl) ?_;simp only[Act.put,Ls];refine wpList_buildTo rfl 337 _ rfl (some 8) rfl (yN (qaf 4)) (by kernel_rfl) ?_;simp only[Act.put,Ls];refine wpList_buildTo rfl 337 _ rfl (some 9) rfl (yN (qaf 5)) (by kernel_rfl) ?_;simp only[Act.put,Ls];refine wpList_buildTo rfl 337 _ rfl (some 10) rfl (yN (qaf 6)) (by kernel_rfl) ?_;simp only[Act.put,Ls];refine wpList_buildTo rfl 337 _ rfl (some 11) rfl (yN (qaf 7)) (by kernel_rfl) ?_;simp only[Act.put,Ls];refine wpList_buildTo rfl 337 _ rfl (some 12) rfl (yN (qaf 8)) (by kernel_rfl) ?_;simp only[Act.put,Ls];refine wpList_buildTo rfl 337 _ rfl (some 13) rfl (yN (qaf 9)) (by kernel_rfl) ?_;simp only[Act.put,Ls];refine wpList_buildTo rfl 347 _ rfl (some 14) rfl qbD (by kernel_rfl) ?_;simp only[Act.put,Ls];refine wpList_plain rfl fun _ D=>?_
 go_simp
 refine D _ _ ?_;clear D;refine wpList_store_row rfl 347 _ _ rfl (w.heap.size+1) qbD rfl rfl 347 _ (qe _ _ (by simp)) (by kernel_rfl) (by kernel_rfl) (by kernel_rfl) ?_;simp only[Act.put,Ls];go_upto_region 2 with(fail)
 refine qm ?_;intro W G;have O:W.heap[w.heap.size+1]? =some (.cells qbD 347 (0,0)):=by
  rw[G];exact setRow_heap _ _ _ _ _ _ (qe _ _ (by simp))
 have U:W.heap[w.heap.size]? =some (.cells (Array.replicate 16 (.int .i64 0)) 337 (0,0)):=by
  rw[G];exact(setRow_other _ _ _ _ (by omega)).trans ((Bh _ _ _ (by simp)).trans (Wn _ _))
 have HB:Below w.heap.size w W:=by
  rw[G];have Y:=((Below.refl w.heap.size w).alloc Nl (.cells (Array.replicate 16 (.int .i64 0)) 337 (0,0))).alloc (by simp) (.cells (Array.replicate 160 (.int .i64 0)) 347 (0,0));exact Y.trans ⟨rfl,rfl,rfl,by simp,fun g Z=>setRow_other _ _ _ _ (by omega)⟩
 clear G;have I: ∀j,j<16→W.cell? ⟨w.heap.size+1,r%10*16+j,none⟩=some (.int .i64 (qu r j)):=fun j J=>by
  rw[qq O,Nat.mul_comm,qhg (r%10) j (Nat.mod_lt _ (by decide)) J];unfold qu;rw[Nat.mod_mod]
 have hf: ∀o,W.frozen? ⟨w.heap.size+1,o,none⟩=false:=(qR O).2;have ag:W.cell? ⟨w.heap.size+1,r%10*16,none⟩=some (.int .i64 (qu r 0)):=I 0 (by decide);have H:=hid I;have S:=hid U;clear O I U;have ae:=Nat.mod_lt r (show 0<10 by decide);have q: ∀j,0<j→j<16→W.cell? ⟨w.heap.size+1,r%10*16+j,none⟩=some (.int .i64 (qu r j)):=fun j _ J=>H.out j J
 have c1:=q 1 (by decide) (by decide);have c2:=q 2 (by decide) (by decide);have c3:=q 3 (by decide) (by decide);have c4:=q 4 (by decide) (by decide);have c5:=q 5 (by decide) (by decide);have c6:=q 6 (by decide) (by decide);have c7:=q 7 (by decide) (by decide);have c8:=q 8 (by decide) (by decide);have c9:=q 9 (by decide) (by decide);have ac:=q 10 (by decide) (by decide);have af:=q 11 (by decide) (by decide);have ak:=q 12 (by decide) (by decide);have ah:=q 13 (by decide) (by decide);have al:=q 14 (by decide) (by decide);have ad:=q 15 (by decide) (by decide);clear q H;have ai:((r:Nat):Int).tmod 10=((r%10:Nat):Int):=by rw[Int.tmod_eq_emod_of_nonneg (by omega)];omega
 have aj:IntKind.i64.wrap (((r%10:Nat):Int)+10)=((r%10:Nat):Int)+10:=by rw[IntKind.wrap_i64];omega
 have ab:(((r%10:Nat):Int)+10).tmod 10=((r%10:Nat):Int):=by rw[Int.tmod_eq_emod_of_nonneg (by omega)];omega
 have aa:((r%10:Nat):Int)<10:=by omega
 generalize r%10=p at*;apply wp_region_lit
 iterate 6
  refine wpList_plain rfl fun _ D=>?_
  go_simp
  refine D _ _ ?_;clear D
 refine wpList_store_row rfl 337 _ _ rfl w.heap.size _ rfl rfl 337 _ S.out (by kernel_rfl) (by kernel_rfl) (by kernel_rfl) ?_;simp only[Act.put,Ls];go_wp2_with fail
 have X: ∀r<12,[qu r 0,qu r 1,qu r 2,qu r 3,qu r 4,qu r 5,qu r 6,qu r 7,qu r 8,qu r 9,qu r 10,qu r 11,qu r 12,qu r 13,qu r 14,qu r 15]=qaf r:=by decide+kernel
 exact Bp (results_cell_row rfl _ _ _ _ _ _ _ rfl (setRow_heap _ _ _ _ _ _ S.out) Tryz.underlying337 rfl (by kernel_rfl)) rfl ⟨by rw[←X r V];rfl,HB.trans ⟨rfl,rfl,rfl,by simp,fun g Z=>setRow_other _ _ _ _ (by omega)⟩⟩
theorem qfV (w:World):Calls Tryz.prog 228 #[] w fun e w'=>e= .returned (.agg zS)∧Below w.heap.size w w':=by
 go_enter Tryz.func228,Tryz.ntmps228
 go_upto_region 1 with(fail)
 apply wp_region_lit
 refine wpList_buildTo rfl 330 _ rfl (some 1) rfl (yN (Y2 0)) (by kernel_rfl) ?_;simp only[Act.put,Ls];refine wpList_buildTo rfl 330 _ rfl (some 2) rfl (yN (Y2 1)) (by kernel_rfl) ?_;simp only[Act.put,Ls];refine wpList_buildTo rfl 330 _ rfl (some 3) rfl (yN (Y2 2)) (by kernel_rfl) ?_;simp only[Act.put,Ls];refine wpList_buildTo rfl 330 _ rfl (some 4) rfl (yN (Y2 3)) (by kernel_rfl) ?_;simp only[Act.put,Ls];refine wpList_buildTo rfl 330 _ rfl (some 5) rfl (yN (Y2 4)) (by kernel_rfl) ?_;simp only[Act.put,Ls];refine wpList_buildTo rfl 330 _ rfl (some 6) rfl (yN (Y2 5)) (by kernel_rfl) ?_;simp only[Act.put,Ls];refine wpList_buildTo rfl 330 _ rfl (some 7) rfl (yN (Y2 6)) (by kernel_rfl) ?_;simp only[Act.put,Ls];refine wpList_buildTo rfl 330 _ rfl (some 8) rfl (yN (Y2 7)) (by kernel_rfl) ?_;simp only[Act.put,Ls];refine wpList_buildTo rfl 339 _ rfl (some 9) rfl zS (by kernel_rfl) ?_;simp only[Act.put,Ls];refine wpList_store_row rfl 339 _ _ rfl w.heap.size zS rfl rfl 339 _ (Wn _ _) (by kernel_rfl) (by kernel_rfl) (by kernel_rfl) ?_;simp only[Act.put,Ls];go_wp2_with fail
 exact Bp (results_cell_row rfl _ _ _ _ _ _ _ rfl (setRow_heap _ _ _ _ _ _ (Wn _ _)) Tryz.underlying339 rfl (by kernel_rfl)) rfl ⟨rfl,((Below.refl w.heap.size w).alloc Nl _).trans ⟨rfl,rfl,rfl,by simp,fun g o=>setRow_other _ _ _ _ (by omega)⟩⟩
end Go.Proofs.YthjoojnlnlmljaaGreat

/- The orders and places of the rounds, by the program. No condition. -/
import Derived.Test.YthjoojnlnlmljaaGreatG09
import Derived.Laws.Rows
import Derived.Deep.Cut
import Derived.Great.BuildSlice
import Derived.Great.Frames
import Derived.RangeFuncRecord
set_option linter.all false
set_option maxRecDepth 100000
set_option maxHeartbeats 8000000
namespace Go.Proofs.YthjoojnlnlmljaaGreat
open Go.ChangeShapes Go.WideShapes Go.ChangeAt Go.RowKit Go.Joins
open Go.Lib (hid)
attribute [local go_sem] Oper.semAt_some
theorem qe (w:World)(o:Obj){n:Nat}(q:n=w.heap.size):(w.alloc o).heap[n]? =some o:=by subst q;exact Wn w o
def yv (l:List Nat):Array Value:=(l.map fun(n:Nat)=>Value.int .i64 (n:Int)).toArray
def JX (r:Nat):List Nat:=sigT.getD (r%10) []
def qba:Array Value:=yv sigT.flatten
def YC (i:Nat):List Nat:=[plA i,plB i,plC i,plD i]
def zb:Array Value:=yv ((List.range 8).flatMap YC)
theorem qgl (r j:Nat)(o:r<10)(q:j<16):qba[16*r+j]? =some (.int .i64 (qw r j:Nat)):=by
 have h: ∀r<10,∀j<16,sigT.flatten[16*r+j]? =some (qw r j):=by decide+kernel
 unfold qba yv;rw[List.getElem?_toArray,List.getElem?_map,h r o j q];rfl
theorem qgk (r:Nat)(hr:r<12)(w:World):Calls Tryz.prog 227 #[.int .i64 r] w fun e w'=>e= .returned (.agg (yv (JX r)))∧Below w.heap.size w w':=by
 go_enter Tryz.func227,Tryz.ntmps227
 go_upto_region 1 with(fail)
 apply wp_region_lit
 refine wpList_buildTo rfl 337 _ rfl (some 4) rfl (yv (JX 0)) (by kernel_rfl) ?_;simp only[Act.put,Ls];refine wpList_buildTo rfl 337 _ rfl (some 5) rfl (yv (JX 1)) (by kernel_rfl) ?_;simp only[Act.put,Ls];refine wpList_buildTo rfl 337 _ rfl (some 6) rfl (yv (JX 2)) (by kernel_rfl) ?_;simp only[Act.put,Ls];refine wpList_buildTo rfl 337 _ rfl (some 7) rfl (yv (JX 3)) (by kernel_rfl) ?_;simp only[Act.put,Ls];refine wpList_buildTo rfl 337 _ rfl (some 8) rfl (yv (JX 4)) (by kernel_rfl) ?_;simp only[Act.put,Ls];refine wpList_buildTo rfl 337 _ rfl (some 9) rfl (yv (JX 5)) (by kernel_rfl) ?_;simp only[Act.put,Ls];refine wpList_buildTo rfl 337 _ rfl (some 10) rfl (yv (JX 6)) (by kernel_rfl) ?_;simp only[Act.put,Ls];refine wpList_buildTo rfl 337 _ rfl (some 11) rfl (yv (JX 7)) (by kernel_rfl) ?_;simp only[Act.put,Ls];refine wpList_buildTo rfl 337 _ rfl (some 12) rfl (yv (JX 8)) (by kernel_rfl) ?_;simp only[Act.put,Ls];refine wpList_buildTo rfl 337 _ rfl (some 13) rfl (yv (JX 9)) (by kernel_rfl) ?_;simp only[Act.put,Ls];refine wpList_buildTo rfl 347 _ rfl (some 14) rfl qba (by kernel_rfl) ?_;simp only[Act.put,Ls];refine wpList_plain rfl fun _ D=>?_
 go_simp
 refine D _ _ ?_;clear D;refine wpList_store_row rfl 347 _ _ rfl (w.heap.size+1) qba rfl rfl 347 _ (qe _ _ (by simp)) (by kernel_rfl) (by kernel_rfl) (by kernel_rfl) ?_;simp only[Act.put,Ls];go_upto_region 2 with(fail)
 refine qm ?_;intro W G;have I:W.heap[w.heap.size+1]? =some (.cells qba 347 (0,0)):=by
  rw[G];exact setRow_heap _ _ _ _ _ _ (qe _ _ (by simp))
 have V:W.heap[w.heap.size]? =some (.cells (Array.replicate 16 (.int .i64 0)) 337 (0,0)):=by
  rw[G];exact(setRow_other _ _ _ _ (by omega)).trans ((Bh _ _ _ (by simp)).trans (Wn _ _))
 have Y:Below w.heap.size w W:=by
  rw[G];have X:=((Below.refl w.heap.size w).alloc Nl (.cells (Array.replicate 16 (.int .i64 0)) 337 (0,0))).alloc (by simp) (.cells (Array.replicate 160 (.int .i64 0)) 347 (0,0));exact X.trans ⟨rfl,rfl,rfl,by simp,fun g hg=>setRow_other _ _ _ _ (by omega)⟩
 clear G;have J: ∀j,j<16→W.cell? ⟨w.heap.size+1,r%10*16+j,none⟩=some (.int .i64 (qw r j:Nat)):=fun j O=>by
  rw[qs I,Nat.mul_comm,qgl (r%10) j (Nat.mod_lt _ (by decide)) O];unfold qw;rw[Nat.mod_mod]
 have hf: ∀o,W.frozen? ⟨w.heap.size+1,o,none⟩=false:=(qO I).2;have ai:W.cell? ⟨w.heap.size+1,r%10*16,none⟩=some (.int .i64 (qw r 0:Nat)):=J 0 (by decide);have H:=hid J;have U:=hid V;clear I J V;have ae:=Nat.mod_lt r (show 0<10 by decide);have q: ∀j,0<j→j<16→W.cell? ⟨w.heap.size+1,r%10*16+j,none⟩=some (.int .i64 (qw r j:Nat)):=fun j _ O=>H.out j O
 have c1:=q 1 (by decide) (by decide);have c2:=q 2 (by decide) (by decide);have c3:=q 3 (by decide) (by decide);have c4:=q 4 (by decide) (by decide);have c5:=q 5 (by decide) (by decide);have c6:=q 6 (by decide) (by decide);have c7:=q 7 (by decide) (by decide);have c8:=q 8 (by decide) (by decide);have c9:=q 9 (by decide) (by decide);have ac:=q 10 (by decide) (by decide);have ab:=q 11 (by decide) (by decide);have ag:=q 12 (by decide) (by decide);have ad:=q 13 (by decide) (by decide);have al:=q 14 (by decide) (by decide);have af:=q 15 (by decide) (by decide);clear q H;have ah:((r:Nat):Int).tmod 10=((r%10:Nat):Int):=by rw[Int.tmod_eq_emod_of_nonneg (by omega)];omega
 have aj:IntKind.i64.wrap (((r%10:Nat):Int)+10)=((r%10:Nat):Int)+10:=by rw[IntKind.wrap_i64];omega
 have ak:(((r%10:Nat):Int)+10).tmod 10=((r%10:Nat):Int):=by rw[Int.tmod_eq_emod_of_nonneg (by omega)];omega
 have aa:((r%10:Nat):Int)<10:=by omega
 generalize r%10=p at*;apply wp_region_lit
 iterate 6
  refine wpList_plain rfl fun _ D=>?_
  go_simp
  refine D _ _ ?_;clear D
 refine wpList_store_row rfl 337 _ _ rfl w.heap.size _ rfl rfl 337 _ U.out (by kernel_rfl) (by kernel_rfl) (by kernel_rfl) ?_;simp only[Act.put,Ls];go_wp2_with fail
 have Z: ∀r<12,[qw r 0,qw r 1,qw r 2,qw r 3,qw r 4,qw r 5,qw r 6,qw r 7,qw r 8,qw r 9,qw r 10,qw r 11,qw r 12,qw r 13,qw r 14,qw r 15]=JX r:=by decide+kernel
 exact Bp (results_cell_row rfl _ _ _ _ _ _ _ rfl (setRow_heap _ _ _ _ _ _ U.out) Tryz.underlying337 rfl (by kernel_rfl)) rfl ⟨by rw[←Z r hr];rfl,Y.trans ⟨rfl,rfl,rfl,by simp,fun g hg=>setRow_other _ _ _ _ (by omega)⟩⟩
theorem qfe (w:World):Calls Tryz.prog 228 #[] w fun e w'=>e= .returned (.agg zb)∧Below w.heap.size w w':=by
 go_enter Tryz.func228,Tryz.ntmps228
 go_upto_region 1 with(fail)
 apply wp_region_lit
 refine wpList_buildTo rfl 330 _ rfl (some 1) rfl (yv (YC 0)) (by kernel_rfl) ?_;simp only[Act.put,Ls];refine wpList_buildTo rfl 330 _ rfl (some 2) rfl (yv (YC 1)) (by kernel_rfl) ?_;simp only[Act.put,Ls];refine wpList_buildTo rfl 330 _ rfl (some 3) rfl (yv (YC 2)) (by kernel_rfl) ?_;simp only[Act.put,Ls];refine wpList_buildTo rfl 330 _ rfl (some 4) rfl (yv (YC 3)) (by kernel_rfl) ?_;simp only[Act.put,Ls];refine wpList_buildTo rfl 330 _ rfl (some 5) rfl (yv (YC 4)) (by kernel_rfl) ?_;simp only[Act.put,Ls];refine wpList_buildTo rfl 330 _ rfl (some 6) rfl (yv (YC 5)) (by kernel_rfl) ?_;simp only[Act.put,Ls];refine wpList_buildTo rfl 330 _ rfl (some 7) rfl (yv (YC 6)) (by kernel_rfl) ?_;simp only[Act.put,Ls];refine wpList_buildTo rfl 330 _ rfl (some 8) rfl (yv (YC 7)) (by kernel_rfl) ?_;simp only[Act.put,Ls];refine wpList_buildTo rfl 339 _ rfl (some 9) rfl zb (by kernel_rfl) ?_;simp only[Act.put,Ls];refine wpList_store_row rfl 339 _ _ rfl w.heap.size zb rfl rfl 339 _ (Wn _ _) (by kernel_rfl) (by kernel_rfl) (by kernel_rfl) ?_;simp only[Act.put,Ls];go_wp2_with fail
 exact Bp (results_cell_row rfl _ _ _ _ _ _ _ rfl (setRow_heap _ _ _ _ _ _ (Wn _ _)) Tryz.underlying339 rfl (by kernel_rfl)) rfl ⟨rfl,((Below.refl w.heap.size w).alloc Nl _).trans ⟨rfl,rfl,rfl,by simp,fun g o=>setRow_other _ _ _ _ (by omega)⟩⟩
end Go.Proofs.YthjoojnlnlmljaaGreat

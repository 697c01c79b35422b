/- The orders and places of the rounds, by the program. No condition. -/
import Derived.Test.YthjoojnlnlmljaaGreatF09
import Derived.Laws.Rows
import Derived.Deep.Cut
import Derived.Great.BuildSlice
import Derived.Great.Frames
import Derived.RangeFuncRecord
set_option linter.all false
set_option maxRecDepth 100000
set_option maxHeartbeats 8000000
namespace Go.Proofs.YthjoojnlnlmljaaGreat
open Go.ChangeShapes Go.WideShapes Go.ChangeAt Go.RowKit Go.Joins
open Go.Lib (hid)
attribute [local go_sem] Oper.semAt_some
theorem qc (w:World)(o:Obj){n:Nat}(q:n=w.heap.size):(w.alloc o).heap[n]? =some o:=by subst q;exact Wn w o
def ym (l:List Nat):Array Value:=(l.map fun(n:Nat)=>Value.int .i64 (n:Int)).toArray
def Jw (r:Nat):List Nat:=sigT.getD (r%10) []
def qaD:Array Value:=ym sigT.flatten
def Yt (i:Nat):List Nat:=[plA i,plB i,plC i,plD i]
def YZ:Array Value:=ym ((List.range 8).flatMap Yt)
theorem qfO (r j:Nat)(q:r<10)(o:j<16):qaD[16*r+j]? =some (.int .i64 (qr r j:Nat)):=by
 have h: ∀r<10,∀j<16,sigT.flatten[16*r+j]? =some (qr r j):=by decide+kernel
 unfold qaD ym;rw[List.getElem?_toArray,List.getElem?_map,h r q j o];rfl
theorem qfN (r:Nat)(hr:r<12)(w:World):Calls Tryz.prog 227 #[.int .i64 r] w fun e w'=>e= .returned (.agg (ym (Jw r)))∧Below w.heap.size w w':=by
 go_enter Tryz.func227,Tryz.ntmps227
 go_upto_region 1 with(fail)
 apply wp_region_lit
 refine wpList_buildTo rfl 337 _ rfl (some 4) rfl (ym (Jw 0)) (by kernel_rfl) ?_;simp only[Act.put,Ls];refine wpList_buildTo rfl 337 _ rfl (some 5) rfl (ym (Jw 1)) (by kernel_rfl) ?_;simp only[Act.put,Ls];refine wpList_buildTo rfl 337 _ rfl (some 6) rfl (ym (Jw 2)) (by kernel_rfl) ?_;simp only[Act.put,Ls];refine wpList_buildTo rfl 337 _ rfl (some 7) rfl (ym (Jw 3)) (by kernel_rfl) ?_;simp only[Act.put,Ls];refine wpList_buildTo rfl 337 _ rfl (some 8) rfl (ym (Jw 4)) (by kernel_rfl) ?_;simp only[Act.put,Ls];refine wpList_buildTo rfl 337 _ rfl (some 9) rfl (ym (Jw 5)) (by kernel_rfl) ?_;simp only[Act.put,Ls];refine wpList_buildTo rfl 337 _ rfl (some 10) rfl (ym (Jw 6)) (by kernel_rfl) ?_;simp only[Act.put,Ls];refine wpList_buildTo rfl 337 _ rfl (some 11) rfl (ym (Jw 7)) (by kernel_rfl) ?_;simp only[Act.put,Ls];refine wpList_buildTo rfl 337 _ rfl (some 12) rfl (ym (Jw 8)) (by kernel_rfl) ?_;simp only[Act.put,Ls];refine wpList_buildTo rfl 337 _ rfl (some 13) rfl (ym (Jw 9)) (by kernel_rfl) ?_;simp only[Act.put,Ls];refine wpList_buildTo rfl 347 _ rfl (some 14) rfl qaD (by kernel_rfl) ?_;simp only[Act.put,Ls];refine wpList_plain rfl fun _ D=>?_
 go_simp
 refine D _ _ ?_;clear D;refine wpList_store_row rfl 347 _ _ rfl (w.heap.size+1) qaD rfl rfl 347 _ (qc _ _ (by simp)) (by kernel_rfl) (by kernel_rfl) (by kernel_rfl) ?_;simp only[Act.put,Ls];go_upto_region 2 with(fail)
 refine qj ?_;intro W G;have I:W.heap[w.heap.size+1]? =some (.cells qaD 347 (0,0)):=by
  rw[G];exact setRow_heap _ _ _ _ _ _ (qc _ _ (by simp))
 have S:W.heap[w.heap.size]? =some (.cells (Array.replicate 16 (.int .i64 0)) 337 (0,0)):=by
  rw[G];exact(setRow_other _ _ _ _ (by omega)).trans ((Bh _ _ _ (by simp)).trans (Wn _ _))
 have HB:Below w.heap.size w W:=by
  rw[G];have V:=((Below.refl w.heap.size w).alloc Nl (.cells (Array.replicate 16 (.int .i64 0)) 337 (0,0))).alloc (by simp) (.cells (Array.replicate 160 (.int .i64 0)) 347 (0,0));exact V.trans ⟨rfl,rfl,rfl,by simp,fun g X=>setRow_other _ _ _ _ (by omega)⟩
 clear G;have O: ∀j,j<16→W.cell? ⟨w.heap.size+1,r%10*16+j,none⟩=some (.int .i64 (qr r j:Nat)):=fun j J=>by
  rw[qm I,Nat.mul_comm,qfO (r%10) j (Nat.mod_lt _ (by decide)) J];unfold qr;rw[Nat.mod_mod]
 have hf: ∀o,W.frozen? ⟨w.heap.size+1,o,none⟩=false:=(qK I).2;have af:W.cell? ⟨w.heap.size+1,r%10*16,none⟩=some (.int .i64 (qr r 0:Nat)):=O 0 (by decide);have H:=hid O;have U:=hid S;clear I O S;have aa:=Nat.mod_lt r (show 0<10 by decide);have q: ∀j,0<j→j<16→W.cell? ⟨w.heap.size+1,r%10*16+j,none⟩=some (.int .i64 (qr r j:Nat)):=fun j _ J=>H.out j J
 have c1:=q 1 (by decide) (by decide);have c2:=q 2 (by decide) (by decide);have c3:=q 3 (by decide) (by decide);have c4:=q 4 (by decide) (by decide);have c5:=q 5 (by decide) (by decide);have c6:=q 6 (by decide) (by decide);have c7:=q 7 (by decide) (by decide);have c8:=q 8 (by decide) (by decide);have c9:=q 9 (by decide) (by decide);have ab:=q 10 (by decide) (by decide);have ag:=q 11 (by decide) (by decide);have ah:=q 12 (by decide) (by decide);have ak:=q 13 (by decide) (by decide);have ad:=q 14 (by decide) (by decide);have ac:=q 15 (by decide) (by decide);clear q H;have aj:((r:Nat):Int).tmod 10=((r%10:Nat):Int):=by rw[Int.tmod_eq_emod_of_nonneg (by omega)];omega
 have ae:IntKind.i64.wrap (((r%10:Nat):Int)+10)=((r%10:Nat):Int)+10:=by rw[IntKind.wrap_i64];omega
 have ai:(((r%10:Nat):Int)+10).tmod 10=((r%10:Nat):Int):=by rw[Int.tmod_eq_emod_of_nonneg (by omega)];omega
 have Z:((r%10:Nat):Int)<10:=by omega
 generalize r%10=p at*;apply wp_region_lit
 iterate 6
  refine wpList_plain rfl fun _ D=>?_
  go_simp
  refine D _ _ ?_;clear D
 refine wpList_store_row rfl 337 _ _ rfl w.heap.size _ rfl rfl 337 _ U.out (by kernel_rfl) (by kernel_rfl) (by kernel_rfl) ?_;simp only[Act.put,Ls];go_wp2_with fail
 have Y: ∀r<12,[qr r 0,qr r 1,qr r 2,qr r 3,qr r 4,qr r 5,qr r 6,qr r 7,qr r 8,qr r 9,qr r 10,qr r 11,qr r 12,qr r 13,qr r 14,qr r 15]=Jw r:=by decide+kernel
 exact Bp (results_cell_row rfl _ _ _ _ _ _ _ rfl (setRow_heap _ _ _ _ _ _ U.out) Tryz.underlying337 rfl (by kernel_rfl)) rfl ⟨by rw[←Y r hr];rfl,HB.trans ⟨rfl,rfl,rfl,by simp,fun g X=>setRow_other _ _ _ _ (by omega)⟩⟩
theorem qeE (w:World):Calls Tryz.prog 228 #[] w fun e w'=>e= .returned (.agg YZ)∧Below w.heap.size w w':=by
 go_enter Tryz.func228,Tryz.ntmps228
 go_upto_region 1 with(fail)
 apply wp_region_lit
 refine wpList_buildTo rfl 330 _ rfl (some 1) rfl (ym (Yt 0)) (by kernel_rfl) ?_;simp only[Act.put,Ls];refine wpList_buildTo rfl 330 _ rfl (some 2) rfl (ym (Yt 1)) (by kernel_rfl) ?_;simp only[Act.put,Ls];refine wpList_buildTo rfl 330 _ rfl (some 3) rfl (ym (Yt 2)) (by kernel_rfl) ?_;simp only[Act.put,Ls];refine wpList_buildTo rfl 330 _ rfl (some 4) rfl (ym (Yt 3)) (by kernel_rfl) ?_;simp only[Act.put,Ls];refine wpList_buildTo rfl 330 _ rfl (some 5) rfl (ym (Yt 4)) (by kernel_rfl) ?_;simp only[Act.put,Ls];refine wpList_buildTo rfl 330 _ rfl (some 6) rfl (ym (Yt 5)) (by kernel_rfl) ?_;simp only[Act.put,Ls];refine wpList_buildTo rfl 330 _ rfl (some 7) rfl (ym (Yt 6)) (by kernel_rfl) ?_;simp only[Act.put,Ls];refine wpList_buildTo rfl 330 _ rfl (some 8) rfl (ym (Yt 7)) (by kernel_rfl) ?_;simp only[Act.put,Ls];refine wpList_buildTo rfl 339 _ rfl (some 9) rfl YZ (by kernel_rfl) ?_;simp only[Act.put,Ls];refine wpList_store_row rfl 339 _ _ rfl w.heap.size YZ rfl rfl 339 _ (Wn _ _) (by kernel_rfl) (by kernel_rfl) (by kernel_rfl) ?_;simp only[Act.put,Ls];go_wp2_with fail
 exact Bp (results_cell_row rfl _ _ _ _ _ _ _ rfl (setRow_heap _ _ _ _ _ _ (Wn _ _)) Tryz.underlying339 rfl (by kernel_rfl)) rfl ⟨rfl,((Below.refl w.heap.size w).alloc Nl _).trans ⟨rfl,rfl,rfl,by simp,fun g o=>setRow_other _ _ _ _ (by omega)⟩⟩
end Go.Proofs.YthjoojnlnlmljaaGreat

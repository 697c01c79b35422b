/- The orders and places of the rounds, by the program. No condition. -/
import Derived.Test.YtdndeffmlhaipaaGreatDoorS09
import Derived.Laws.Rows
import Derived.Deep.Cut
import Derived.Great.BuildSlice
import Derived.Great.Frames
import Derived.RangeFuncRecord
set_option linter.all false
set_option maxRecDepth 100000
set_option maxHeartbeats 8000000
namespace Go.Proofs.YtdndeffmlhaipaaGreatDoor
open Go.ChangeShapes Go.WideShapes Go.ChangeAt Go.RowKit Go.Joins
open Go.Lib (hid)
attribute [local go_sem] Oper.semAt_some
theorem qc (w:World)(o:Obj){n:Nat}(hn:n=w.heap.size):(w.alloc o).heap[n]? =some o:=by subst hn;exact Wn w o
def Q7 (l:List Nat):Array Value:=(l.map fun(n:Nat)=>Value.int .i64 (n:Int)).toArray
def jy (r:Nat):List Nat:=sigT.getD (r%10) []
def JC:Array Value:=Q7 sigT.flatten
def yW (i:Nat):List Nat:=[plA i,plB i,plC i,plD i]
def YC:Array Value:=Q7 ((List.range 8).flatMap yW)
theorem qd2 (r j:Nat)(hr:r<10)(hj:j<16):JC[16*r+j]? =some (.int .i64 (qs r j:Nat)):=by
 have h: ∀r<10,∀j<16,sigT.flatten[16*r+j]? =some (qs r j):=by decide+kernel
 unfold JC Q7;rw[List.getElem?_toArray,List.getElem?_map,h r hr j hj];rfl
theorem qd1 (r:Nat)(hr:r<12)(w:World):Calls Tryz.prog 152 #[.int .i64 r] w fun e w'=>e= .returned (.agg (Q7 (jy r)))∧Below w.heap.size w w':=by
 go_enter Tryz.func152,Tryz.ntmps152
 go_upto_region 1 with(fail)
 apply wp_region_lit
 refine wpList_buildTo rfl 236 _ rfl (some 4) rfl (Q7 (jy 0)) (by kernel_rfl) ?_;simp only[Act.put,Ls];refine wpList_buildTo rfl 236 _ rfl (some 5) rfl (Q7 (jy 1)) (by kernel_rfl) ?_;simp only[Act.put,Ls];refine wpList_buildTo rfl 236 _ rfl (some 6) rfl (Q7 (jy 2)) (by kernel_rfl) ?_;simp only[Act.put,Ls];refine wpList_buildTo rfl 236 _ rfl (some 7) rfl (Q7 (jy 3)) (by kernel_rfl) ?_;simp only[Act.put,Ls];refine wpList_buildTo rfl 236 _ rfl (some 8) rfl (Q7 (jy 4)) (by kernel_rfl) ?_;simp only[Act.put,Ls];refine wpList_buildTo rfl 236 _ rfl (some 9) rfl (Q7 (jy 5)) (by kernel_rfl) ?_;simp only[Act.put,Ls];refine wpList_buildTo rfl 236 _ rfl (some 10) rfl (Q7 (jy 6)) (by kernel_rfl) ?_;simp only[Act.put,Ls];refine wpList_buildTo rfl 236 _ rfl (some 11) rfl (Q7 (jy 7)) (by kernel_rfl) ?_;simp only[Act.put,Ls];refine wpList_buildTo rfl 236 _ rfl (some 12) rfl (Q7 (jy 8)) (by kernel_rfl) ?_;simp only[Act.put,Ls];refine wpList_buildTo rfl 236 _ rfl (some 13) rfl (Q7 (jy 9)) (by kernel_rfl) ?_;simp only[Act.put,Ls];refine wpList_buildTo rfl 252 _ rfl (some 14) rfl JC (by kernel_rfl) ?_;simp only[Act.put,Ls];refine wpList_plain rfl fun _ hK=>?_
 go_simp
 refine hK _ _ ?_;clear hK;refine wpList_store_row rfl 252 _ _ rfl (w.heap.size+1) JC rfl rfl 252 _ (qc _ _ (by simp)) (by kernel_rfl) (by kernel_rfl) (by kernel_rfl) ?_;simp only[Act.put,Ls];go_upto_region 2 with(fail)
 refine qj ?_;intro W hW;have hT:W.heap[w.heap.size+1]? =some (.cells JC 252 (0,0)):=by
  rw[hW];exact setRow_heap _ _ _ _ _ _ (qc _ _ (by simp))
 have hR:W.heap[w.heap.size]? =some (.cells (Array.replicate 16 (.int .i64 0)) 236 (0,0)):=by
  rw[hW];exact(setRow_other _ _ _ _ (by omega)).trans ((Bh _ _ _ (by simp)).trans (Wn _ _))
 have HB:Below w.heap.size w W:=by
  rw[hW];have h2:=((Below.refl w.heap.size w).alloc Nl (.cells (Array.replicate 16 (.int .i64 0)) 236 (0,0))).alloc (by simp) (.cells (Array.replicate 160 (.int .i64 0)) 252 (0,0));exact h2.trans ⟨rfl,rfl,rfl,by simp,fun g hg=>setRow_other _ _ _ _ (by omega)⟩
 clear hW;have hc: ∀j,j<16→W.cell? ⟨w.heap.size+1,r%10*16+j,none⟩=some (.int .i64 (qs r j:Nat)):=fun j hj=>by
  rw[qk hT,Nat.mul_comm,qd2 (r%10) j (Nat.mod_lt _ (by decide)) hj];unfold qs;rw[Nat.mod_mod]
 have hf: ∀o,W.frozen? ⟨w.heap.size+1,o,none⟩=false:=(qE hT).2;have hc0:W.cell? ⟨w.heap.size+1,r%10*16,none⟩=some (.int .i64 (qs r 0:Nat)):=hc 0 (by decide);have H:=hid hc;have HR:=hid hR;clear hT hc hR;have hlt:=Nat.mod_lt r (show 0<10 by decide);have hcs: ∀j,0<j→j<16→W.cell? ⟨w.heap.size+1,r%10*16+j,none⟩=some (.int .i64 (qs r j:Nat)):=fun j _ hj=>H.out j hj
 have c1:=hcs 1 (by decide) (by decide);have c2:=hcs 2 (by decide) (by decide);have c3:=hcs 3 (by decide) (by decide);have c4:=hcs 4 (by decide) (by decide);have c5:=hcs 5 (by decide) (by decide);have c6:=hcs 6 (by decide) (by decide);have c7:=hcs 7 (by decide) (by decide);have c8:=hcs 8 (by decide) (by decide);have c9:=hcs 9 (by decide) (by decide);have c10:=hcs 10 (by decide) (by decide);have c11:=hcs 11 (by decide) (by decide);have c12:=hcs 12 (by decide) (by decide);have c13:=hcs 13 (by decide) (by decide);have c14:=hcs 14 (by decide) (by decide);have c15:=hcs 15 (by decide) (by decide);clear hcs H;have hE1:((r:Nat):Int).tmod 10=((r%10:Nat):Int):=by rw[Int.tmod_eq_emod_of_nonneg (by omega)];omega
 have hE2:IntKind.i64.wrap (((r%10:Nat):Int)+10)=((r%10:Nat):Int)+10:=by rw[IntKind.wrap_i64];omega
 have hE3:(((r%10:Nat):Int)+10).tmod 10=((r%10:Nat):Int):=by rw[Int.tmod_eq_emod_of_nonneg (by omega)];omega
 have hltI:((r%10:Nat):Int)<10:=by omega
 generalize r%10=p at*;apply wp_region_lit
 iterate 6
  refine wpList_plain rfl fun _ hK=>?_
  go_simp
  refine hK _ _ ?_;clear hK
 refine wpList_store_row rfl 236 _ _ rfl w.heap.size _ rfl rfl 236 _ HR.out (by kernel_rfl) (by kernel_rfl) (by kernel_rfl) ?_;simp only[Act.put,Ls];go_wp2_with fail
 have hl: ∀r<12,[qs r 0,qs r 1,qs r 2,qs r 3,qs r 4,qs r 5,qs r 6,qs r 7,qs r 8,qs r 9,qs r 10,qs r 11,qs r 12,qs r 13,qs r 14,qs r 15]=jy r:=by decide+kernel
 exact Bp (results_cell_row rfl _ _ _ _ _ _ _ rfl (setRow_heap _ _ _ _ _ _ HR.out) Tryz.underlying236 rfl (by kernel_rfl)) rfl ⟨by rw[←hl r hr];rfl,HB.trans ⟨rfl,rfl,rfl,by simp,fun g hg=>setRow_other _ _ _ _ (by omega)⟩⟩
theorem qc5 (w:World):Calls Tryz.prog 153 #[] w fun e w'=>e= .returned (.agg YC)∧Below w.heap.size w w':=by
 go_enter Tryz.func153,Tryz.ntmps153
 go_upto_region 1 with(fail)
 apply wp_region_lit
 refine wpList_buildTo rfl 238 _ rfl (some 1) rfl (Q7 (yW 0)) (by kernel_rfl) ?_;simp only[Act.put,Ls];refine wpList_buildTo rfl 238 _ rfl (some 2) rfl (Q7 (yW 1)) (by kernel_rfl) ?_;simp only[Act.put,Ls];refine wpList_buildTo rfl 238 _ rfl (some 3) rfl (Q7 (yW 2)) (by kernel_rfl) ?_;simp only[Act.put,Ls];refine wpList_buildTo rfl 238 _ rfl (some 4) rfl (Q7 (yW 3)) (by kernel_rfl) ?_;simp only[Act.put,Ls];refine wpList_buildTo rfl 238 _ rfl (some 5) rfl (Q7 (yW 4)) (by kernel_rfl) ?_;simp only[Act.put,Ls];refine wpList_buildTo rfl 238 _ rfl (some 6) rfl (Q7 (yW 5)) (by kernel_rfl) ?_;simp only[Act.put,Ls];refine wpList_buildTo rfl 238 _ rfl (some 7) rfl (Q7 (yW 6)) (by kernel_rfl) ?_;simp only[Act.put,Ls];refine wpList_buildTo rfl 238 _ rfl (some 8) rfl (Q7 (yW 7)) (by kernel_rfl) ?_;simp only[Act.put,Ls];refine wpList_buildTo rfl 239 _ rfl (some 9) rfl YC (by kernel_rfl) ?_;simp only[Act.put,Ls];refine wpList_store_row rfl 239 _ _ rfl w.heap.size YC rfl rfl 239 _ (Wn _ _) (by kernel_rfl) (by kernel_rfl) (by kernel_rfl) ?_;simp only[Act.put,Ls];go_wp2_with fail
 exact Bp (results_cell_row rfl _ _ _ _ _ _ _ rfl (setRow_heap _ _ _ _ _ _ (Wn _ _)) Tryz.underlying239 rfl (by kernel_rfl)) rfl ⟨rfl,((Below.refl w.heap.size w).alloc Nl _).trans ⟨rfl,rfl,rfl,by simp,fun g hg=>setRow_other _ _ _ _ (by omega)⟩⟩
end Go.Proofs.YtdndeffmlhaipaaGreatDoor

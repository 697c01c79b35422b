/- The orders and places of the rounds, by the program. No condition. -/
import Derived.Test.YtdndeffmlhaipaaGreatDoorM09
import Derived.Laws.Rows
import Derived.Deep.Cut
import Derived.Great.BuildSlice
import Derived.Great.Frames
import Derived.RangeFuncRecord
set_option linter.all false
set_option maxRecDepth 100000
set_option maxHeartbeats 8000000
namespace Go.Proofs.YtdndeffmlhaipaaGreatDoor
open Go.ChangeShapes Go.WideShapes Go.ChangeAt Go.RowKit Go.Joins
open Go.Lib (hid)
attribute [local go_sem] Oper.semAt_some
theorem qc (w:World)(o:Obj){n:Nat}(hn:n=w.heap.size):(w.alloc o).heap[n]? =some o:=by subst hn;exact Wn w o
def Q9 (l:List Nat):Array Value:=(l.map fun(n:Nat)=>Value.int .i64 (n:Int)).toArray
def Z0 (r:Nat):List Nat:=sigT.getD (r%10) []
def j6:Array Value:=Q9 sigT.flatten
def ze (i:Nat):List Nat:=[plA i,plB i,plC i,plD i]
def Z3:Array Value:=Q9 ((List.range 8).flatMap ze)
theorem qc4 (r j:Nat)(hr:r<10)(hj:j<16):j6[16*r+j]? =some (.int .i64 (qk r j:Nat)):=by
 have h: ∀r<10,∀j<16,sigT.flatten[16*r+j]? =some (qk r j):=by decide+kernel
 unfold j6 Q9;rw[List.getElem?_toArray,List.getElem?_map,h r hr j hj];rfl
theorem qc3 (r:Nat)(hr:r<12)(w:World):Calls Tryz.prog 152 #[.int .i64 r] w fun e w'=>e= .returned (.agg (Q9 (Z0 r)))∧Below w.heap.size w w':=by
 go_enter Tryz.func152,Tryz.ntmps152
 go_upto_region 1 with(fail)
 apply wp_region_lit
 refine wpList_buildTo rfl 236 _ rfl (some 4) rfl (Q9 (Z0 0)) (by kernel_rfl) ?_;simp only[Act.put,Ls];refine wpList_buildTo rfl 236 _ rfl (some 5) rfl (Q9 (Z0 1)) (by kernel_rfl) ?_;simp only[Act.put,Ls];refine wpList_buildTo rfl 236 _ rfl (some 6) rfl (Q9 (Z0 2)) (by kernel_rfl) ?_;simp only[Act.put,Ls];refine wpList_buildTo rfl 236 _ rfl (some 7) rfl (Q9 (Z0 3)) (by kernel_rfl) ?_;simp only[Act.put,Ls];refine wpList_buildTo rfl 236 _ rfl (some 8) rfl (Q9 (Z0 4)) (by kernel_rfl) ?_;simp only[Act.put,Ls];refine wpList_buildTo rfl 236 _ rfl (some 9) rfl (Q9 (Z0 5)) (by kernel_rfl) ?_;simp only[Act.put,Ls];refine wpList_buildTo rfl 236 _ rfl (some 10) rfl (Q9 (Z0 6)) (by kernel_rfl) ?_;simp only[Act.put,Ls];refine wpList_buildTo rfl 236 _ rfl (some 11) rfl (Q9 (Z0 7)) (by kernel_rfl) ?_;simp only[Act.put,Ls];refine wpList_buildTo rfl 236 _ rfl (some 12) rfl (Q9 (Z0 8)) (by kernel_rfl) ?_;simp only[Act.put,Ls];refine wpList_buildTo rfl 236 _ rfl (some 13) rfl (Q9 (Z0 9)) (by kernel_rfl) ?_;simp only[Act.put,Ls];refine wpList_buildTo rfl 252 _ rfl (some 14) rfl j6 (by kernel_rfl) ?_;simp only[Act.put,Ls];refine wpList_plain rfl fun _ hK=>?_
 go_simp
 refine hK _ _ ?_;clear hK;refine wpList_store_row rfl 252 _ _ rfl (w.heap.size+1) j6 rfl rfl 252 _ (qc _ _ (by simp)) (by kernel_rfl) (by kernel_rfl) (by kernel_rfl) ?_;simp only[Act.put,Ls];go_upto_region 2 with(fail)
 refine qj ?_;intro W hW;have hT:W.heap[w.heap.size+1]? =some (.cells j6 252 (0,0)):=by
  rw[hW];exact setRow_heap _ _ _ _ _ _ (qc _ _ (by simp))
 have hR:W.heap[w.heap.size]? =some (.cells (Array.replicate 16 (.int .i64 0)) 236 (0,0)):=by
  rw[hW];exact(setRow_other _ _ _ _ (by omega)).trans ((Bh _ _ _ (by simp)).trans (Wn _ _))
 have HB:Below w.heap.size w W:=by
  rw[hW];have h2:=((Below.refl w.heap.size w).alloc Nl (.cells (Array.replicate 16 (.int .i64 0)) 236 (0,0))).alloc (by simp) (.cells (Array.replicate 160 (.int .i64 0)) 252 (0,0));exact h2.trans ⟨rfl,rfl,rfl,by simp,fun g hg=>setRow_other _ _ _ _ (by omega)⟩
 clear hW;have hc: ∀j,j<16→W.cell? ⟨w.heap.size+1,r%10*16+j,none⟩=some (.int .i64 (qk r j:Nat)):=fun j hj=>by
  rw[qi hT,Nat.mul_comm,qc4 (r%10) j (Nat.mod_lt _ (by decide)) hj];unfold qk;rw[Nat.mod_mod]
 have hf: ∀o,W.frozen? ⟨w.heap.size+1,o,none⟩=false:=(Qd hT).2;have hc0:W.cell? ⟨w.heap.size+1,r%10*16,none⟩=some (.int .i64 (qk r 0:Nat)):=hc 0 (by decide);have H:=hid hc;have HR:=hid hR;clear hT hc hR;have hlt:=Nat.mod_lt r (show 0<10 by decide);have hcs: ∀j,0<j→j<16→W.cell? ⟨w.heap.size+1,r%10*16+j,none⟩=some (.int .i64 (qk r j:Nat)):=fun j _ hj=>H.out j hj
 have c1:=hcs 1 (by decide) (by decide);have c2:=hcs 2 (by decide) (by decide);have c3:=hcs 3 (by decide) (by decide);have c4:=hcs 4 (by decide) (by decide);have c5:=hcs 5 (by decide) (by decide);have c6:=hcs 6 (by decide) (by decide);have c7:=hcs 7 (by decide) (by decide);have c8:=hcs 8 (by decide) (by decide);have c9:=hcs 9 (by decide) (by decide);have c10:=hcs 10 (by decide) (by decide);have c11:=hcs 11 (by decide) (by decide);have c12:=hcs 12 (by decide) (by decide);have c13:=hcs 13 (by decide) (by decide);have c14:=hcs 14 (by decide) (by decide);have c15:=hcs 15 (by decide) (by decide);clear hcs H;have hE1:((r:Nat):Int).tmod 10=((r%10:Nat):Int):=by rw[Int.tmod_eq_emod_of_nonneg (by omega)];omega
 have hE2:IntKind.i64.wrap (((r%10:Nat):Int)+10)=((r%10:Nat):Int)+10:=by rw[IntKind.wrap_i64];omega
 have hE3:(((r%10:Nat):Int)+10).tmod 10=((r%10:Nat):Int):=by rw[Int.tmod_eq_emod_of_nonneg (by omega)];omega
 have hltI:((r%10:Nat):Int)<10:=by omega
 generalize r%10=p at*;apply wp_region_lit
 iterate 6
  refine wpList_plain rfl fun _ hK=>?_
  go_simp
  refine hK _ _ ?_;clear hK
 refine wpList_store_row rfl 236 _ _ rfl w.heap.size _ rfl rfl 236 _ HR.out (by kernel_rfl) (by kernel_rfl) (by kernel_rfl) ?_;simp only[Act.put,Ls];go_wp2_with fail
 have hl: ∀r<12,[qk r 0,qk r 1,qk r 2,qk r 3,qk r 4,qk r 5,qk r 6,qk r 7,qk r 8,qk r 9,qk r 10,qk r 11,qk r 12,qk r 13,qk r 14,qk r 15]=Z0 r:=by decide+kernel
 exact Bp (results_cell_row rfl _ _ _ _ _ _ _ rfl (setRow_heap _ _ _ _ _ _ HR.out) Tryz.underlying236 rfl (by kernel_rfl)) rfl ⟨by rw[←hl r hr];rfl,HB.trans ⟨rfl,rfl,rfl,by simp,fun g hg=>setRow_other _ _ _ _ (by omega)⟩⟩
theorem qb8 (w:World):Calls Tryz.prog 153 #[] w fun e w'=>e= .returned (.agg Z3)∧Below w.heap.size w w':=by
 go_enter Tryz.func153,Tryz.ntmps153
 go_upto_region 1 with(fail)
 apply wp_region_lit
 refine wpList_buildTo rfl 238 _ rfl (some 1) rfl (Q9 (ze 0)) (by kernel_rfl) ?_;simp only[Act.put,Ls];refine wpList_buildTo rfl 238 _ rfl (some 2) rfl (Q9 (ze 1)) (by kernel_rfl) ?_;simp only[Act.put,Ls];refine wpList_buildTo rfl 238 _ rfl (some 3) rfl (Q9 (ze 2)) (by kernel_rfl) ?_;simp only[Act.put,Ls];refine wpList_buildTo rfl 238 _ rfl (some 4) rfl (Q9 (ze 3)) (by kernel_rfl) ?_;simp only[Act.put,Ls];refine wpList_buildTo rfl 238 _ rfl (some 5) rfl (Q9 (ze 4)) (by kernel_rfl) ?_;simp only[Act.put,Ls];refine wpList_buildTo rfl 238 _ rfl (some 6) rfl (Q9 (ze 5)) (by kernel_rfl) ?_;simp only[Act.put,Ls];refine wpList_buildTo rfl 238 _ rfl (some 7) rfl (Q9 (ze 6)) (by kernel_rfl) ?_;simp only[Act.put,Ls];refine wpList_buildTo rfl 238 _ rfl (some 8) rfl (Q9 (ze 7)) (by kernel_rfl) ?_;simp only[Act.put,Ls];refine wpList_buildTo rfl 239 _ rfl (some 9) rfl Z3 (by kernel_rfl) ?_;simp only[Act.put,Ls];refine wpList_store_row rfl 239 _ _ rfl w.heap.size Z3 rfl rfl 239 _ (Wn _ _) (by kernel_rfl) (by kernel_rfl) (by kernel_rfl) ?_;simp only[Act.put,Ls];go_wp2_with fail
 exact Bp (results_cell_row rfl _ _ _ _ _ _ _ rfl (setRow_heap _ _ _ _ _ _ (Wn _ _)) Tryz.underlying239 rfl (by kernel_rfl)) rfl ⟨rfl,((Below.refl w.heap.size w).alloc Nl _).trans ⟨rfl,rfl,rfl,by simp,fun g hg=>setRow_other _ _ _ _ (by omega)⟩⟩
end Go.Proofs.YtdndeffmlhaipaaGreatDoor

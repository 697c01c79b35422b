/- The walk of shape.Spot, where the tree may be. No condition. -/
import Derived.Test.YthjoojnlnlmljaaGreatG26
import Derived.Sort.QuietIn
import Derived.BigRegionIn
import Derived.Test.YthjoojnlnlmljaaGreatG27
import Derived.Test.YthjoojnlnlmljaaGreatG05
import Derived.Deep.RegionHeld3
set_option linter.all false
set_option maxRecDepth 100000
set_option maxHeartbeats 8000000
namespace Go.Proofs.YthjoojnlnlmljaaGreat
open Go.ChangeShapes Go.WideShapes Go.ChangeAt Go.RowKit Go.Joins Go.Shelf Go.Maps
open Go.Lib (hid)
attribute [local go_sem] Oper.semAt_some
theorem YK {G X:Prop}(h:G→X)(g:G):X:=h g
theorem qih (t:TreeV)(hl:0≤t.l∧t.l≤4294967295)(total:Nat)(ht:(total:Int)≤18446744073709551615)(h:t.err total=0)(row:Int)(at_:Nat)(w:World):
    Calls Tryz.prog 105 #[t.val,.int .u64 total,.int .i64 row,.int .u64 at_] w fun e w'=>e= .returned (.tuple #[(if t.there total row at_ then(t.spot total row.toNat at_).val else SpotV.zero.val),.int .i64 (if t.there total row at_ then 0 else 6)])∧Below w.heap.size w w':=by
  have hv:=qW h;obtain⟨L,hL⟩:=Ex (t.rowsOf total);obtain⟨am,aH,al, -⟩:=QF hl h;have aA:=qq hv;have aj:t.f=(t.fn:Int):=by unfold TreeV.fn;omega
  have aG:(t.fn:Int)≤18446744073709551615:=by omega
  have aD:RowsIs t.fn t.pn (lvs total t.ln) L:=by rw[←hL];exact qM h
  have ar:=jh am ht aD;have HF:=hid aj;have aq:=hid al;clear aj al aA;have H:=hid h;clear h;refine(callsIn_wide (n:=9)).1 ?_;refine callsIn_of_wp_marks Tryz.func105 rfl trivial ?_ rfl;unfold TreeV.val;simp only[Tryz.ntmps105,List.size_toArray,List.length_cons,List.length_nil,Nat.reduceAdd,Nat.reduceSub,Array.replicate_succ,Array.replicate_zero,List.push_toArray,List.append_toArray,List.nil_append,List.cons_append];gi_wp2_with fail
  refine qaJ ?_;gi_wp2_with fail
  refine⟨trivial,?_⟩;refine(callsIn_wide.2 (jX t hl total ht _)).mono ?_;rintro e I ⟨rfl,ae⟩;rw[H.out];obtain⟨hc,hf⟩:=zi ae;have au:=ae.size;simp at au
  have k0:w.heap.size<I.heap.size:=by omega
  have k1:w.heap.size+1<I.heap.size:=by omega
  have k2:w.heap.size+1+1<I.heap.size:=by omega
  have k3:w.heap.size+1+1+1<I.heap.size:=by omega
  have k4:w.heap.size+1+1+1+1<I.heap.size:=by omega
  have k5:w.heap.size+1+1+1+1+1<I.heap.size:=by omega
  have ac:Below w.heap.size w I:=by
    refine Below.trans ?_ (ae.mono (by simp;omega));repeat(first|exact Below.refl _ _|(refine Below.alloc ?_ (by simp;omega) _)|(refine Below.alloc ?_ (by simp) _))
  gi_wp2_with fail
  refine wpIn_label ?_;gi_wp2_with fail
  refine⟨trivial,?_⟩;refine(callsIn_wide.2 (qek t total _)).mono ?_;rintro e w2 ⟨rfl,rfl⟩;gi_wp2_with fail
  have aE:I.cell? ⟨w.heap.size,2,none⟩=some (.int .i64 t.f):=(hc _ _ (by simp;omega)).trans (by simp[go_sem]);have az:I.cell? ⟨w.heap.size,4,none⟩=some (.int .u32 t.l):=(hc _ _ (by simp;omega)).trans (by simp[go_sem]);have r1:I.cell? ⟨w.heap.size+1,0,none⟩=some (.int .u64 total):=(hc _ _ (by simp)).trans (by simp[go_sem]);have r2:I.cell? ⟨w.heap.size+1+1,0,none⟩=some (.int .i64 row):=(hc _ _ (by simp)).trans (by simp[go_sem]);have r3:I.cell? ⟨w.heap.size+1+1+1,0,none⟩=some (.int .u64 at_):=(hc _ _ (by simp)).trans (by simp[go_sem]);have b4:I.heap[w.heap.size+1+1+1+1]? =some (Obj.cells #[.int .i64 0,.int .u64 0,.int .u64 0,.int .u64 0,.bool false,.bool false] 96 (0,0)):=by
    rw[ae.block _ (by simp)];rw[Bh _ _ _ (by simp)];exact qn _ _ (by simp)
  have b5:I.heap[w.heap.size+1+1+1+1+1]? =some (Obj.cells #[.int .i64 0] 30 (0,0)):=by
    rw[ae.block _ (by simp)];exact qn _ _ (by simp)
  have aC:(((I.alloc (.cells #[.int .u64 0] 44)).alloc (.cells t.arr 26)).alloc (.cells #[.int .u64 total] 44)).heap[I.heap.size]? =some (Obj.cells #[.int .u64 0] 44 (0,0)):=by
    rw[Bh _ _ _ (by simp;omega),Bh _ _ _ (by simp)];exact Wn _ _
  have ax:(((I.alloc (.cells #[.int .u64 0] 44)).alloc (.cells t.arr 26)).alloc (.cells #[.int .u64 total] 44)).heap[I.heap.size+1]? =some (Obj.cells t.arr 26 (0,0)):=by
    rw[Bh _ _ _ (by simp)];exact qn _ _ (by simp)
  have ap:(((I.alloc (.cells #[.int .u64 0] 44)).alloc (.cells t.arr 26)).alloc (.cells #[.int .u64 total] 44)).heap[I.heap.size+1+1]? =some (Obj.cells #[.int .u64 total] 44 (0,0)):=
    qn _ _ (by simp)
  have aB:Below I.heap.size I (((I.alloc (.cells #[.int .u64 0] 44)).alloc (.cells t.arr 26)).alloc (.cells #[.int .u64 total] 44)):=(((Below.refl _ I).alloc Nl _).alloc (by simp) _).alloc (by simp;omega) _;have ay:=qbA (9 - 1) t hl total ht hv _ _ _ ax ap L hL;refine wpIn_rangeFunc_ownG rfl (by omega) (gf:=146) (lb:= #[.pointer (some ⟨I.heap.size+1,0,none⟩),.pointer (some ⟨I.heap.size+1+1,0,none⟩)]) rfl trivial (enters_of Tryz.func146 (by kernel_rfl) rfl)
    ay (fun h k=>h.trans k) (fun W l o o' _ hl ho _=>KpT.putObj W l o o' hl ho) Br (fun _=>rfl)
    (SpotI I L row) (SpotX w t total L row at_)
    (SpotI.own (by simp;omega)) (fun c=>SpotX.own (by simp;omega))
    ⟨fun k J=>(by cases J),aC,aB⟩
    (fun x=> { tmps:= #[.agg #[.int .i64 t.k,.int .i64 t.d,.int .i64 t.f,.int .i64 t.p,.int .u32 t.l,.int .i64 t.i,.slice t.ka t.kl t.kc,.slice t.sa t.sl t.sc,.slice t.pa t.pl t.pc],.int .u64 total,.int .i64 row,.int .u64 at_,.pointer (some ⟨w.heap.size,0,none⟩),.pointer (some ⟨w.heap.size+1,0,none⟩),.pointer (some ⟨w.heap.size+1+1,0,none⟩),.pointer (some ⟨w.heap.size+1+1+1,0,none⟩),.pointer (some ⟨w.heap.size+1+1+1+1,0,none⟩),.pointer (some ⟨w.heap.size+1+1+1+1+1,0,none⟩),.int .i64 0,
      .pointer (some ⟨I.heap.size,0,none⟩),.int .i64 (x.1:Nat),.int .u64 (nth L x.1:Nat),undef,undef,undef,.agg #[.int .i64 t.k,.int .i64 t.d,.int .i64 t.f,.int .i64 t.p,.int .u32 t.l,.int .i64 t.i,.slice t.ka t.kl t.kc,.slice t.sa t.sl t.sc,.slice t.pa t.pl t.pc],.int .u64 total,.int .i64 0,.int .i64 0,.bool false,undef,undef,.agg #[.int .i64 t.k,.int .i64 t.d,.int .i64 t.f,.int .i64 t.p,.int .u32 t.l,.int .i64 t.i,.slice t.ka t.kl t.kc,.slice t.sa t.sl t.sc,.slice t.pa t.pl t.pc],.int .u64 total,
      .func (.func 146) #[] #[.pointer (some ⟨I.heap.size+1,0,none⟩),.pointer (some ⟨I.heap.size+1+1,0,none⟩)],.int .i64 (x.1:Nat),.int .u64 (nth L x.1:Nat),undef,undef,undef,undef,undef,undef,undef,undef,undef,undef,undef,undef,undef,undef,undef,undef,undef,undef,undef,undef,undef,undef,undef,undef,undef,undef,undef,undef,undef,undef,undef,undef,undef,undef,undef,undef,undef,undef,undef,undef,undef,undef,undef,undef,undef,undef,undef,undef,undef,undef,undef,undef,undef,undef,undef,undef,undef,undef,undef,undef,undef],defers:=[] }) ?assign ?body ?done ?stop
  case assign=>
    intro l x W K q;simp only[qiA];gi_wp2
    exact q
  case body=>
    rintro l ag x W ⟨V,ab,U⟩ -
    have aF:=U.size;have gf:W.cell? ⟨w.heap.size,2,none⟩=some (.int .i64 t.fn):=by rw[←HF.out];exact(U.cell (p:=⟨w.heap.size,2,none⟩) k0).trans aE
    have gl:W.cell? ⟨w.heap.size,4,none⟩=some (.int .u32 t.ln):=by rw[←aq.out];exact(U.cell (p:=⟨w.heap.size,4,none⟩) k0).trans az
    have g1:=(U.cell (p:=⟨w.heap.size+1,0,none⟩) k1).trans r1;have g2:=(U.cell (p:=⟨w.heap.size+1+1,0,none⟩) k2).trans r2;have g3:=(U.cell (p:=⟨w.heap.size+1+1+1,0,none⟩) k3).trans r3;have G:=(U.block _ k4).trans b4;have X:=(U.block _ k5).trans b5;have gb:=qd ab 0;have fb:=unfrozen_of_block ab 0;have f0:=unfrozen_of_block G 0;have f1:=unfrozen_of_block G 1;have f2:=unfrozen_of_block G 2;have f3:=unfrozen_of_block G 3;have f4:=unfrozen_of_block G 4;have f5:=unfrozen_of_block G 5;have f6:=unfrozen_of_block X 0;have c0:=qd G 0;have c1:=qd G 1;have c2:=qd G 2;have c3:=qd G 3;have c4:=qd G 4;have c5:=qd G 5;have c6:=qd X 0;simp only[List.getElem?_toArray,List.getElem?_cons_zero,List.getElem?_cons_succ]at c0 c1 c2 c3 c4 c5 c6 gb;have m0:w.heap.size<W.heap.size:=by omega
    have m1:w.heap.size+1<W.heap.size:=by omega
    have m2:w.heap.size+1+1<W.heap.size:=by omega
    have m3:w.heap.size+1+1+1<W.heap.size:=by omega
    have m4:w.heap.size+1+1+1+1<W.heap.size:=by omega
    have m5:w.heap.size+1+1+1+1+1<W.heap.size:=by omega
    have m6:I.heap.size<W.heap.size:=(Ai ab).1;have aa:=hid (ac.trans (U.mono (by omega)));have Z:=hid V;have HB:=hid U;have ak:=hid ab;have D4:=hid G;have D5:=hid X;clear V U ab G X;have aJ:(nth L x.1:Int)≤18446744073709551615:=ar x.1 x.2;by_cases hA:(x.1:Int)<row
    · gi_wp2
      go_goals
      exact⟨(KeepsOthers.setCell _ _ _).from _,KpT.setCell (p:=⟨I.heap.size,0,none⟩) ak.out (by decide) (by decide) _,fun k J=>by
        rcases List.mem_append.1 J with h|h
        · exact Z.out k h
        · rw[List.mem_singleton.1 h];exact hA,by rw[qaE];exact block_setCell ak.out _,HB.out.setCell Nl _⟩
    · by_cases hC:row<0
      · gi_wp2
        go_goals
        exact⟨KeepsFrom.refl _ _,⟨ag,x,rfl,Z.out,by omega,.inr ⟨rfl,.inl hC,D4.out,D5.out⟩⟩,aa.out⟩
      · have q0:(row<0)=False:=eq_false (by omega)
        by_cases av:(nth L x.1:Nat)≤at_
        · have q1:((nth L x.1:Int)≤(at_:Int))=True:=eq_true (by omega)
          gi_wp2
          go_goals
          exact⟨KeepsFrom.refl _ _,⟨ag,x,rfl,Z.out,by omega,.inr ⟨rfl,.inr av,D4.out,D5.out⟩⟩,aa.out⟩
        · have q1:((nth L x.1:Int)≤(at_:Int))=False:=eq_false (by omega)
          have z0:0≤row:=by omega
          have z1:row≤(x.1:Nat):=by omega
          have z2:at_<nth L x.1:=by omega
          by_cases hR:1≤row
          · have z3:row.toNat≠0:=by omega
            have q2:(1≤row)=True:=eq_true hR;by_cases hN:nth L x.1=1
            · have q3:((nth L x.1:Int)==1)=true:=by rw[beq_iff_eq];omega
              have HN:=hid hN;clear hN;gi_wp2
              apply YK
              · intro J
                gi_region
                all_goals exact J
              gi_wp2
              apply YK
              · intro J
                gi_region
                all_goals exact J
              gi_wp2
              go_goals
              exact RetP.drew (RetP.drew (ZG Z.out z0 z1 z2 aa.out D4.out D5.out (by unfold ZI;rw[Int.toNat_of_nonneg z0,if_pos ⟨Nat.pos_of_ne_zero z3,HN.out⟩])))
            · have q3:((nth L x.1:Int)==1)=false:=by rw[beq_eq_false_iff_ne];omega
              by_cases Y:(at_:Int)=(nth L x.1:Int) - 1
              · have q4:((at_:Int)==(nth L x.1:Int) - 1)=true:=by rw[beq_iff_eq];exact Y
                have HZ:=hid Y;clear Y;gi_wp2
                apply YK
                · intro J
                  gi_region
                  all_goals exact J
                gi_wp2
                apply YK
                · intro J
                  gi_region
                  all_goals exact J
                gi_wp2
                go_goals
                exact RetP.drew (RetP.drew (ZG Z.out z0 z1 z2 aa.out D4.out D5.out (by unfold ZI;rw[Int.toNat_of_nonneg z0,if_neg (fun h=>hN h.2),if_pos HZ.out,if_neg z3,if_neg z3])))
              · have q4:((at_:Int)==(nth L x.1:Int) - 1)=false:=by rw[beq_eq_false_iff_ne];exact Y
                have HZ:=hid Y;clear Y;gi_wp2
                apply YK
                · intro J
                  gi_region
                  all_goals exact J
                gi_wp2
                apply YK
                · intro J
                  gi_region
                  all_goals exact J
                gi_wp2
                apply YK
                · intro J
                  refine Jp (F:=Fence.wide) (by kernel_rfl) (by kernel_rfl) ?_;refine wpAnyIn_take (i:=1) (v:=?_) rfl rfl (by kernel_rfl) (by kernel_rfl) (by kernel_rfl) (fun _ _ _ h=>h) ⟨Or.inl ⟨by rfl,?_⟩,fun _=>rfl⟩ ?_;rotate_left
                  · (intro w;go_simp;try with_reducible rfl)
                  refine wpAnyIn_take (i:=5) (v:=?_) rfl rfl (by kernel_rfl) (by kernel_rfl) (by kernel_rfl) (fun _ _ _ h=>h) ⟨Or.inl ⟨by rfl,?_⟩,fun _=>rfl⟩ ?_;rotate_left
                  · (intro w;go_simp;try with_reducible rfl)
                  refine wpAnyIn_ready (rs:=[0,3]) (by kernel_rfl) (by simp) ?_;refine AllReadyIn.cons rfl (fun K q=>?_) ?_
                  · go_simp
                    refine q _ _ ?_;clear q K;refine wpAnyIn_take (i:=2) (v:=?_) rfl rfl (by kernel_rfl) (by kernel_rfl) (by kernel_rfl) (fun _ _ _ h=>h) ⟨Or.inl ⟨by rfl,?_⟩,fun _=>rfl⟩ ?_;rotate_left
                    · (intro w;go_simp;try with_reducible rfl)
                    refine wpAnyIn_take (i:=7) (v:=?_) rfl rfl (by kernel_rfl) (by kernel_rfl) (by kernel_rfl) (fun _ _ _ h=>h) ⟨Or.inl ⟨by rfl,?_⟩,fun _=>rfl⟩ ?_;rotate_left
                    · (intro w;go_simp;try with_reducible rfl)
                    refine wpAnyIn_ready (rs:=[3,8]) (by kernel_rfl) (by simp) ?_;refine AllReadyIn.cons rfl (fun K q=>?_) ?_
                    · go_simp
                      refine q _ _ ?_;clear q K;refine wpAnyIn_take (i:=4) (v:=?_) rfl rfl (by kernel_rfl) (by kernel_rfl) (by kernel_rfl) (fun _ _ _ h=>h) ⟨Or.inl ⟨by rfl,?_⟩,fun _=>rfl⟩ ?_;rotate_left
                      · (intro w;go_simp;try with_reducible rfl)
                      refine wpAnyIn_take (i:=6) (v:=?_) rfl rfl (by kernel_rfl) (by kernel_rfl) (by kernel_rfl) (fun _ _ _ h=>h) ⟨Or.inl ⟨by rfl,?_⟩,fun _=>rfl⟩ ?_;rotate_left
                      · (intro w;go_simp;try with_reducible rfl)
                      refine wpAnyIn_ready (rs:=[8]) (by kernel_rfl) (by simp) ?_;refine AllReadyIn.cons rfl (fun K q=>?_) ?_
                      · go_simp
                        refine q _ _ ?_;clear q K;refine wpAnyIn_take (i:=9) (v:=?_) rfl rfl (by kernel_rfl) (by kernel_rfl) (by kernel_rfl) (fun _ _ _ h=>h) ⟨Or.inl ⟨by rfl,?_⟩,fun _=>rfl⟩ ?_;rotate_left
                        · (intro w;go_simp;try with_reducible rfl)
                        refine wpAnyIn_ready (rs:=[10]) (by kernel_rfl) (by simp) ?_;refine AllReadyIn.cons rfl (fun K q=>?_) ?_
                        · go_simp
                          refine q _ _ ?_;clear q K;refine wpAnyIn_done (by kernel_rfl) ?_ _;exact J
                        exact AllReadyIn.nil
                      exact AllReadyIn.nil
                    refine AllReadyIn.cons rfl (fun K q=>?_) ?_
                    · go_simp
                      refine q _ _ ?_;clear q K;refine wpAnyIn_ready (rs:=[3]) (by kernel_rfl) (by simp) ?_;refine AllReadyIn.cons rfl (fun K q=>?_) ?_
                      · go_simp
                        refine q _ _ ?_;clear q K;refine wpAnyIn_take (i:=4) (v:=?_) rfl rfl (by kernel_rfl) (by kernel_rfl) (by kernel_rfl) (fun _ _ _ h=>h) ⟨Or.inl ⟨by rfl,?_⟩,fun _=>rfl⟩ ?_;rotate_left
                        · (intro w;go_simp;try with_reducible rfl)
                        refine wpAnyIn_take (i:=6) (v:=?_) rfl rfl (by kernel_rfl) (by kernel_rfl) (by kernel_rfl) (fun _ _ _ h=>h) ⟨Or.inl ⟨by rfl,?_⟩,fun _=>rfl⟩ ?_;rotate_left
                        · (intro w;go_simp;try with_reducible rfl)
                        refine wpAnyIn_take (i:=9) (v:=?_) rfl rfl (by kernel_rfl) (by kernel_rfl) (by kernel_rfl) (fun _ _ _ h=>h) ⟨Or.inl ⟨by rfl,?_⟩,fun _=>rfl⟩ ?_;rotate_left
                        · (intro w;go_simp;try with_reducible rfl)
                        refine wpAnyIn_ready (rs:=[10]) (by kernel_rfl) (by simp) ?_;refine AllReadyIn.cons rfl (fun K q=>?_) ?_
                        · go_simp
                          refine q _ _ ?_;clear q K;refine wpAnyIn_done (by kernel_rfl) ?_ _;exact J
                        exact AllReadyIn.nil
                      exact AllReadyIn.nil
                    exact AllReadyIn.nil
                  refine AllReadyIn.cons rfl (fun K q=>?_) ?_
                  · go_simp
                    refine q _ _ ?_;clear q K;refine wpAnyIn_take (i:=4) (v:=?_) rfl rfl (by kernel_rfl) (by kernel_rfl) (by kernel_rfl) (fun _ _ _ h=>h) ⟨Or.inl ⟨by rfl,?_⟩,fun _=>rfl⟩ ?_;rotate_left
                    · (intro w;go_simp;try with_reducible rfl)
                    refine wpAnyIn_take (i:=6) (v:=?_) rfl rfl (by kernel_rfl) (by kernel_rfl) (by kernel_rfl) (fun _ _ _ h=>h) ⟨Or.inl ⟨by rfl,?_⟩,fun _=>rfl⟩ ?_;rotate_left
                    · (intro w;go_simp;try with_reducible rfl)
                    refine wpAnyIn_ready (rs:=[0]) (by kernel_rfl) (by simp) ?_;refine AllReadyIn.cons rfl (fun K q=>?_) ?_
                    · go_simp
                      refine q _ _ ?_;clear q K;refine wpAnyIn_take (i:=2) (v:=?_) rfl rfl (by kernel_rfl) (by kernel_rfl) (by kernel_rfl) (fun _ _ _ h=>h) ⟨Or.inl ⟨by rfl,?_⟩,fun _=>rfl⟩ ?_;rotate_left
                      · (intro w;go_simp;try with_reducible rfl)
                      refine wpAnyIn_take (i:=7) (v:=?_) rfl rfl (by kernel_rfl) (by kernel_rfl) (by kernel_rfl) (fun _ _ _ h=>h) ⟨Or.inl ⟨by rfl,?_⟩,fun _=>rfl⟩ ?_;rotate_left
                      · (intro w;go_simp;try with_reducible rfl)
                      refine wpAnyIn_ready (rs:=[8]) (by kernel_rfl) (by simp) ?_;refine AllReadyIn.cons rfl (fun K q=>?_) ?_
                      · go_simp
                        refine q _ _ ?_;clear q K;refine wpAnyIn_take (i:=9) (v:=?_) rfl rfl (by kernel_rfl) (by kernel_rfl) (by kernel_rfl) (fun _ _ _ h=>h) ⟨Or.inl ⟨by rfl,?_⟩,fun _=>rfl⟩ ?_;rotate_left
                        · (intro w;go_simp;try with_reducible rfl)
                        refine wpAnyIn_ready (rs:=[10]) (by kernel_rfl) (by simp) ?_;refine AllReadyIn.cons rfl (fun K q=>?_) ?_
                        · go_simp
                          refine q _ _ ?_;clear q K;refine wpAnyIn_done (by kernel_rfl) ?_ _;exact J
                        exact AllReadyIn.nil
                      exact AllReadyIn.nil
                    exact AllReadyIn.nil
                  exact AllReadyIn.nil
                gi_wp2
                go_goals
                exact RetP.drew (RetP.drew (RetP.drew (ZG Z.out z0 z1 z2 aa.out D4.out D5.out (by unfold ZI;rw[Int.toNat_of_nonneg z0,if_neg (fun h=>hN h.2),if_neg HZ.out,if_neg z3]))))
          · have z4:row.toNat=0:=by omega
            have q2:(1≤row)=False:=eq_false hR;by_cases Y:(at_:Int)=(nth L x.1:Int) - 1
            · have q4:((at_:Int)==(nth L x.1:Int) - 1)=true:=by rw[beq_iff_eq];exact Y
              have HZ:=hid Y;clear Y;gi_wp2
              apply YK
              · intro J
                gi_region
                all_goals exact J
              gi_wp2
              go_goals
              exact RetP.drew (ZG Z.out z0 z1 z2 aa.out D4.out D5.out (by unfold ZI;rw[Int.toNat_of_nonneg z0,if_neg (fun h=>Nat.not_succ_le_zero _ (z4▸h.1)),if_pos HZ.out,if_pos z4,if_pos z4]))
            · have q4:((at_:Int)==(nth L x.1:Int) - 1)=false:=by rw[beq_eq_false_iff_ne];exact Y
              have HZ:=hid Y;clear Y;gi_wp2
              apply YK
              · intro J
                gi_region
                all_goals exact J
              gi_wp2
              apply YK
              · intro J
                refine Jp (F:=Fence.wide) (by kernel_rfl) (by kernel_rfl) ?_;refine wpAnyIn_take (i:=1) (v:=?_) rfl rfl (by kernel_rfl) (by kernel_rfl) (by kernel_rfl) (fun _ _ _ h=>h) ⟨Or.inl ⟨by rfl,?_⟩,fun _=>rfl⟩ ?_;rotate_left
                · (intro w;go_simp;try with_reducible rfl)
                refine wpAnyIn_take (i:=5) (v:=?_) rfl rfl (by kernel_rfl) (by kernel_rfl) (by kernel_rfl) (fun _ _ _ h=>h) ⟨Or.inl ⟨by rfl,?_⟩,fun _=>rfl⟩ ?_;rotate_left
                · (intro w;go_simp;try with_reducible rfl)
                refine wpAnyIn_ready (rs:=[0,3]) (by kernel_rfl) (by simp) ?_;refine AllReadyIn.cons rfl (fun K q=>?_) ?_
                · go_simp
                  refine q _ _ ?_;clear q K;refine wpAnyIn_take (i:=2) (v:=?_) rfl rfl (by kernel_rfl) (by kernel_rfl) (by kernel_rfl) (fun _ _ _ h=>h) ⟨Or.inl ⟨by rfl,?_⟩,fun _=>rfl⟩ ?_;rotate_left
                  · (intro w;go_simp;try with_reducible rfl)
                  refine wpAnyIn_take (i:=7) (v:=?_) rfl rfl (by kernel_rfl) (by kernel_rfl) (by kernel_rfl) (fun _ _ _ h=>h) ⟨Or.inl ⟨by rfl,?_⟩,fun _=>rfl⟩ ?_;rotate_left
                  · (intro w;go_simp;try with_reducible rfl)
                  refine wpAnyIn_ready (rs:=[3,8]) (by kernel_rfl) (by simp) ?_;refine AllReadyIn.cons rfl (fun K q=>?_) ?_
                  · go_simp
                    refine q _ _ ?_;clear q K;refine wpAnyIn_take (i:=4) (v:=?_) rfl rfl (by kernel_rfl) (by kernel_rfl) (by kernel_rfl) (fun _ _ _ h=>h) ⟨Or.inl ⟨by rfl,?_⟩,fun _=>rfl⟩ ?_;rotate_left
                    · (intro w;go_simp;try with_reducible rfl)
                    refine wpAnyIn_take (i:=6) (v:=?_) rfl rfl (by kernel_rfl) (by kernel_rfl) (by kernel_rfl) (fun _ _ _ h=>h) ⟨Or.inl ⟨by rfl,?_⟩,fun _=>rfl⟩ ?_;rotate_left
                    · (intro w;go_simp;try with_reducible rfl)
                    refine wpAnyIn_ready (rs:=[8]) (by kernel_rfl) (by simp) ?_;refine AllReadyIn.cons rfl (fun K q=>?_) ?_
                    · go_simp
                      refine q _ _ ?_;clear q K;refine wpAnyIn_take (i:=9) (v:=?_) rfl rfl (by kernel_rfl) (by kernel_rfl) (by kernel_rfl) (fun _ _ _ h=>h) ⟨Or.inl ⟨by rfl,?_⟩,fun _=>rfl⟩ ?_;rotate_left
                      · (intro w;go_simp;try with_reducible rfl)
                      refine wpAnyIn_ready (rs:=[10]) (by kernel_rfl) (by simp) ?_;refine AllReadyIn.cons rfl (fun K q=>?_) ?_
                      · go_simp
                        refine q _ _ ?_;clear q K;refine wpAnyIn_done (by kernel_rfl) ?_ _;exact J
                      exact AllReadyIn.nil
                    exact AllReadyIn.nil
                  refine AllReadyIn.cons rfl (fun K q=>?_) ?_
                  · go_simp
                    refine q _ _ ?_;clear q K;refine wpAnyIn_ready (rs:=[3]) (by kernel_rfl) (by simp) ?_;refine AllReadyIn.cons rfl (fun K q=>?_) ?_
                    · go_simp
                      refine q _ _ ?_;clear q K;refine wpAnyIn_take (i:=4) (v:=?_) rfl rfl (by kernel_rfl) (by kernel_rfl) (by kernel_rfl) (fun _ _ _ h=>h) ⟨Or.inl ⟨by rfl,?_⟩,fun _=>rfl⟩ ?_;rotate_left
                      · (intro w;go_simp;try with_reducible rfl)
                      refine wpAnyIn_take (i:=6) (v:=?_) rfl rfl (by kernel_rfl) (by kernel_rfl) (by kernel_rfl) (fun _ _ _ h=>h) ⟨Or.inl ⟨by rfl,?_⟩,fun _=>rfl⟩ ?_;rotate_left
                      · (intro w;go_simp;try with_reducible rfl)
                      refine wpAnyIn_take (i:=9) (v:=?_) rfl rfl (by kernel_rfl) (by kernel_rfl) (by kernel_rfl) (fun _ _ _ h=>h) ⟨Or.inl ⟨by rfl,?_⟩,fun _=>rfl⟩ ?_;rotate_left
                      · (intro w;go_simp;try with_reducible rfl)
                      refine wpAnyIn_ready (rs:=[10]) (by kernel_rfl) (by simp) ?_;refine AllReadyIn.cons rfl (fun K q=>?_) ?_
                      · go_simp
                        refine q _ _ ?_;clear q K;refine wpAnyIn_done (by kernel_rfl) ?_ _;exact J
                      exact AllReadyIn.nil
                    exact AllReadyIn.nil
                  exact AllReadyIn.nil
                refine AllReadyIn.cons rfl (fun K q=>?_) ?_
                · go_simp
                  refine q _ _ ?_;clear q K;refine wpAnyIn_take (i:=4) (v:=?_) rfl rfl (by kernel_rfl) (by kernel_rfl) (by kernel_rfl) (fun _ _ _ h=>h) ⟨Or.inl ⟨by rfl,?_⟩,fun _=>rfl⟩ ?_;rotate_left
                  · (intro w;go_simp;try with_reducible rfl)
                  refine wpAnyIn_take (i:=6) (v:=?_) rfl rfl (by kernel_rfl) (by kernel_rfl) (by kernel_rfl) (fun _ _ _ h=>h) ⟨Or.inl ⟨by rfl,?_⟩,fun _=>rfl⟩ ?_;rotate_left
                  · (intro w;go_simp;try with_reducible rfl)
                  refine wpAnyIn_ready (rs:=[0]) (by kernel_rfl) (by simp) ?_;refine AllReadyIn.cons rfl (fun K q=>?_) ?_
                  · go_simp
                    refine q _ _ ?_;clear q K;refine wpAnyIn_take (i:=2) (v:=?_) rfl rfl (by kernel_rfl) (by kernel_rfl) (by kernel_rfl) (fun _ _ _ h=>h) ⟨Or.inl ⟨by rfl,?_⟩,fun _=>rfl⟩ ?_;rotate_left
                    · (intro w;go_simp;try with_reducible rfl)
                    refine wpAnyIn_take (i:=7) (v:=?_) rfl rfl (by kernel_rfl) (by kernel_rfl) (by kernel_rfl) (fun _ _ _ h=>h) ⟨Or.inl ⟨by rfl,?_⟩,fun _=>rfl⟩ ?_;rotate_left
                    · (intro w;go_simp;try with_reducible rfl)
                    refine wpAnyIn_ready (rs:=[8]) (by kernel_rfl) (by simp) ?_;refine AllReadyIn.cons rfl (fun K q=>?_) ?_
                    · go_simp
                      refine q _ _ ?_;clear q K;refine wpAnyIn_take (i:=9) (v:=?_) rfl rfl (by kernel_rfl) (by kernel_rfl) (by kernel_rfl) (fun _ _ _ h=>h) ⟨Or.inl ⟨by rfl,?_⟩,fun _=>rfl⟩ ?_;rotate_left
                      · (intro w;go_simp;try with_reducible rfl)
                      refine wpAnyIn_ready (rs:=[10]) (by kernel_rfl) (by simp) ?_;refine AllReadyIn.cons rfl (fun K q=>?_) ?_
                      · go_simp
                        refine q _ _ ?_;clear q K;refine wpAnyIn_done (by kernel_rfl) ?_ _;exact J
                      exact AllReadyIn.nil
                    exact AllReadyIn.nil
                  exact AllReadyIn.nil
                exact AllReadyIn.nil
              gi_wp2
              go_goals
              exact RetP.drew (RetP.drew (ZG Z.out z0 z1 z2 aa.out D4.out D5.out (by unfold ZI;rw[Int.toNat_of_nonneg z0,if_neg (fun h=>Nat.not_succ_le_zero _ (z4▸h.1)),if_neg HZ.out,if_pos z4])))
  case done=>
    rintro D ys W hD ah ⟨V,ab,U⟩ q
    have an: ¬t.there total row at_:=by subst hL;exact qgi ah V
    have ao:=U.size;have ac:=ac.trans (U.mono (by omega));have G:=(U.block _ k4).trans b4;have X:=(U.block _ k5).trans b5;have af:I.heap.size≤D:=by simp at hD;omega
    have f0:=unfrozen_of_block G 0;have f1:=unfrozen_of_block G 1;have f2:=unfrozen_of_block G 2;have f3:=unfrozen_of_block G 3;have f4:=unfrozen_of_block G 4;have f5:=unfrozen_of_block G 5;have f6:=unfrozen_of_block X 0;have c0:=qd G 0;have c1:=qd G 1;have c2:=qd G 2;have c3:=qd G 3;have c4:=qd G 4;have c5:=qd G 5;have c6:=qd X 0;simp only[List.getElem?_toArray,List.getElem?_cons_zero,List.getElem?_cons_succ]at c0 c1 c2 c3 c4 c5 c6;have m4:w.heap.size+1+1+1+1<W.heap.size:=by omega
    have m5:w.heap.size+1+1+1+1+1<W.heap.size:=by omega
    have HB:=hid U;have HK:=hid q;have D4:=hid G;have D5:=hid X;have HY:=hid ah;have HT:=hid V;clear U ab G X q ah V;gi_wp2
    have e4:=(Below.heap_setCell ((((((W.setCell ⟨w.heap.size+1+1+1+1,0,none⟩ (.int .i64 0)).setCell ⟨w.heap.size+1+1+1+1,1,none⟩ (.int .u64 0)).setCell ⟨w.heap.size+1+1+1+1,2,none⟩ (.int .u64 0)).setCell ⟨w.heap.size+1+1+1+1,3,none⟩ (.int .u64 0)).setCell ⟨w.heap.size+1+1+1+1,4,none⟩ (.bool false)).setCell ⟨w.heap.size+1+1+1+1,5,none⟩ (.bool false)) ⟨w.heap.size+1+1+1+1+1,0,none⟩ (.int .i64 6) (w.heap.size+1+1+1+1) (by simp)).trans (yx D4.out (.int .i64 0) (.int .u64 0) (.int .u64 0) (.int .u64 0) (.bool false) (.bool false));have e5:=block_setCell (i:=0) ((YF (c:=w.heap.size+1+1+1+1+1) (b:=w.heap.size+1+1+1+1) (by omega) (.int .i64 0) (.int .u64 0) (.int .u64 0) (.int .u64 0) (.bool false) (.bool false)).trans D5.out) (.int .i64 6);have eK:=(Below.heap_setCell ((((((W.setCell ⟨w.heap.size+1+1+1+1,0,none⟩ (.int .i64 0)).setCell ⟨w.heap.size+1+1+1+1,1,none⟩ (.int .u64 0)).setCell ⟨w.heap.size+1+1+1+1,2,none⟩ (.int .u64 0)).setCell ⟨w.heap.size+1+1+1+1,3,none⟩ (.int .u64 0)).setCell ⟨w.heap.size+1+1+1+1,4,none⟩ (.bool false)).setCell ⟨w.heap.size+1+1+1+1,5,none⟩ (.bool false)) ⟨w.heap.size+1+1+1+1+1,0,none⟩ (.int .i64 6) D (by show D≠w.heap.size+1+1+1+1+1;omega)).trans ((YF (c:=D) (b:=w.heap.size+1+1+1+1) (by omega) (.int .i64 0) (.int .u64 0) (.int .u64 0) (.int .u64 0) (.bool false) (.bool false)).trans HK.out);have eB:=(yy ac (b:=w.heap.size+1+1+1+1) (by omega) (.int .i64 0) (.int .u64 0) (.int .u64 0) (.int .u64 0) (.bool false) (.bool false)).setCell (p:=⟨w.heap.size+1+1+1+1+1,0,none⟩) (by show w.heap.size≤w.heap.size+1+1+1+1+1;omega) (.int .i64 6);have O:=belowK_b (w:=I) Nl _ D _ (.deferred none) af eK rfl rfl;refine⟨by simp,.inl ⟨_,_,rfl,run_takeDeferred eK,?_⟩⟩;refine⟨_,Y2 rfl rfl rfl (b:=w.heap.size+1+1+1+1) (c:=w.heap.size+1+1+1+1+1) ((O.block _ k4).trans e4) ((O.block _ k5).trans e5) rfl,?_,eB.trans (O.mono (by omega))⟩;rfl
  case stop=>
    rintro D c ag W hD ad ⟨⟨aw,k,rfl,V,J,ai⟩,U⟩ q
    have af:I.heap.size≤D:=by simp at hD;omega
    rcases ai with⟨rfl,r0,r1,e4,e5⟩|⟨rfl,r0,G,X⟩
    · have hh:t.there total row at_∧ZI t.fn t.ln total row.toNat at_ (nth L k.1) (Zq _ aw)=(t.spot total row.toNat at_).val.cells:=by subst hL;exact qeV ht am H.out ad.1 V J r0 r1
      rw[hh.2]at e4;have E4:=hid e4;have E5:=hid e5;have HK:=hid q;have aI:=hh.1;clear e4 e5 q hh V ad;gi_wp2
      have O:=belowK_b (w:=I) Nl W D _ (.deferred none) af HK.out rfl rfl;refine⟨by simp,.inl ⟨_,_,rfl,run_takeDeferred HK.out,?_⟩⟩;refine⟨_,Y2 rfl rfl rfl (b:=w.heap.size+1+1+1+1) (c:=w.heap.size+1+1+1+1+1) ((O.block _ k4).trans E4.out) ((O.block _ k5).trans E5.out) rfl,?_,U.trans (O.mono (by omega))⟩;rfl
    · have an: ¬t.there total row at_:=by subst hL;exact qbS ad.1 V J r0
      have ao:=(Ai q).1;have ac:=U;replace G:W.heap[w.heap.size+1+1+1+1]? =some (Obj.cells #[.int .i64 0,.int .u64 0,.int .u64 0,.int .u64 0,.bool false,.bool false] 96 (0,0)):=G
      clear U V ad;have f0:=unfrozen_of_block G 0;have f1:=unfrozen_of_block G 1;have f2:=unfrozen_of_block G 2;have f3:=unfrozen_of_block G 3;have f4:=unfrozen_of_block G 4;have f5:=unfrozen_of_block G 5;have f6:=unfrozen_of_block X 0;have c0:=qd G 0;have c1:=qd G 1;have c2:=qd G 2;have c3:=qd G 3;have c4:=qd G 4;have c5:=qd G 5;have c6:=qd X 0;simp only[List.getElem?_toArray,List.getElem?_cons_zero,List.getElem?_cons_succ]at c0 c1 c2 c3 c4 c5 c6;have m4:w.heap.size+1+1+1+1<W.heap.size:=by omega
      have m5:w.heap.size+1+1+1+1+1<W.heap.size:=by omega
      have HK:=hid q;have D4:=hid G;have D5:=hid X;clear G X q;gi_wp2
      have e4:=(Below.heap_setCell ((((((W.setCell ⟨w.heap.size+1+1+1+1,0,none⟩ (.int .i64 0)).setCell ⟨w.heap.size+1+1+1+1,1,none⟩ (.int .u64 0)).setCell ⟨w.heap.size+1+1+1+1,2,none⟩ (.int .u64 0)).setCell ⟨w.heap.size+1+1+1+1,3,none⟩ (.int .u64 0)).setCell ⟨w.heap.size+1+1+1+1,4,none⟩ (.bool false)).setCell ⟨w.heap.size+1+1+1+1,5,none⟩ (.bool false)) ⟨w.heap.size+1+1+1+1+1,0,none⟩ (.int .i64 6) (w.heap.size+1+1+1+1) (by simp)).trans (yx D4.out (.int .i64 0) (.int .u64 0) (.int .u64 0) (.int .u64 0) (.bool false) (.bool false));have e5:=block_setCell (i:=0) ((YF (c:=w.heap.size+1+1+1+1+1) (b:=w.heap.size+1+1+1+1) (by omega) (.int .i64 0) (.int .u64 0) (.int .u64 0) (.int .u64 0) (.bool false) (.bool false)).trans D5.out) (.int .i64 6);have eK:=(Below.heap_setCell ((((((W.setCell ⟨w.heap.size+1+1+1+1,0,none⟩ (.int .i64 0)).setCell ⟨w.heap.size+1+1+1+1,1,none⟩ (.int .u64 0)).setCell ⟨w.heap.size+1+1+1+1,2,none⟩ (.int .u64 0)).setCell ⟨w.heap.size+1+1+1+1,3,none⟩ (.int .u64 0)).setCell ⟨w.heap.size+1+1+1+1,4,none⟩ (.bool false)).setCell ⟨w.heap.size+1+1+1+1,5,none⟩ (.bool false)) ⟨w.heap.size+1+1+1+1+1,0,none⟩ (.int .i64 6) D (by show D≠w.heap.size+1+1+1+1+1;omega)).trans ((YF (c:=D) (b:=w.heap.size+1+1+1+1) (by omega) (.int .i64 0) (.int .u64 0) (.int .u64 0) (.int .u64 0) (.bool false) (.bool false)).trans HK.out);have eB:=(yy ac (b:=w.heap.size+1+1+1+1) (by omega) (.int .i64 0) (.int .u64 0) (.int .u64 0) (.int .u64 0) (.bool false) (.bool false)).setCell (p:=⟨w.heap.size+1+1+1+1+1,0,none⟩) (by show w.heap.size≤w.heap.size+1+1+1+1+1;omega) (.int .i64 6);have O:=belowK_b (w:=I) Nl _ D _ (.deferred none) af eK rfl rfl;refine⟨by simp,.inl ⟨_,_,rfl,run_takeDeferred eK,?_⟩⟩;refine⟨_,Y2 rfl rfl rfl (b:=w.heap.size+1+1+1+1) (c:=w.heap.size+1+1+1+1+1) ((O.block _ k4).trans e4) ((O.block _ k5).trans e5) rfl,?_,eB.trans (O.mono (by omega))⟩;rfl
theorem yW {P:Program}{fn:Func}{tmps:Array Value}{W:World}{b:Nat}{U V O G I Y e:Value}{T:TypeId}{fr:Nat×Nat}
    (hr:fn.results= #[.cell 8 96,.tmp 9]) (Z:tmps[8]?.getD undef= .pointer (some ⟨b,0,none⟩)) (h9:tmps[9]?.getD undef=e)
    (o:W.heap[b]? =some (Obj.cells #[U,V,O,G,I,Y] T fr)) (hP:P=Tryz.prog):
    (results fn tmps).run P W= .ok (.tuple #[.agg #[U,V,O,G,I,Y],e]) W:=by
  subst hP;have J:=qd o 0;have c1:=qd o 1;have c2:=qd o 2;have D:=qd o 3;have X:=qd o 4;have q:=qd o 5;simp only[List.getElem?_toArray,List.getElem?_cons_zero,List.getElem?_cons_succ]at J c1 c2 D X q;simp[results,hr,Z,h9,go_sem,J,c1,c2,D,X,q]
def TreeV.spotR (t:TreeV)(total:Nat)(row:Int)(at_:Nat):SpotV:=if t.err total=0∧t.there total row at_ then t.spot total row.toNat at_ else SpotV.zero
def TreeV.spotE (t:TreeV)(total:Nat)(row:Int)(at_:Nat):Int:=if t.err total≠0 then t.err total else if t.there total row at_ then 0 else 6
theorem qdM (t:TreeV)(I:0≤t.l∧t.l≤4294967295)(total:Nat)(G:(total:Int)≤18446744073709551615)(h:t.err total≠0)(row:Int)(at_:Nat)(w:World):
    Calls Tryz.prog 52 #[t.val,.int .u64 total,.int .i64 row,.int .u64 at_] w fun e w'=>e= .returned (.tuple #[SpotV.zero.val,.int .i64 (t.err total)])∧Below w.heap.size w w':=by
  have U:(t.err total != 0)=true:=by rw[bne_iff_ne];exact h
  have H:=hid h;clear h;unfold TreeV.val;go_enter Tryz.func52,Tryz.ntmps52
  go_wp2_with fail
  refine(qdO t I total G H.out _).mono ?_;rintro e q ⟨rfl,o⟩;obtain⟨X,Y⟩:=zi o;have D:=o.size;simp at D
  have V:w.heap.size<q.heap.size:=by omega
  have O:w.heap.size+1<q.heap.size:=by omega
  have b1:q.heap[w.heap.size+1]? =some (Obj.cells #[.int .i64 0,.int .u64 0,.int .u64 0,.int .u64 0,.bool false,.bool false] 96 (0,0)):=by
    rw[o.block _ (by simp)];exact qn _ _ (by simp)
  have J:=hid b1;clear b1;go_wp2
  refine Bp (yW rfl rfl rfl (b:=w.heap.size+1) (T:=96) (fr:=(0,0)) (yx J.out _ _ _ _ _ _) rfl) rfl ⟨rfl,yy (qH _ (Below.trans (Br.alloc Nl _) (o.mono (by simp)))) (by omega) _ _ _ _ _ _⟩
theorem qdL {L:List Nat}(t:TreeV)(total:Nat)(O:1≤L.length)
    (Z:Hid (∀w,Calls Tryz.prog 87 #[t.val,.int .u64 total] w fun e w'=> ∃v,e= .returned (.tuple #[v,.int .i64 0])∧w'.ownsRow w.heap.size 44 1 v L.length (L.map z7)∧Below w.heap.size w w'))
    (V:Hid (∀k,k<L.length→(nth L k:Int)≤18446744073709551615)) (row:Int) (at_:Nat) (Y:Hid (¬(0≤row∧row.toNat<L.length∧at_<nth L row.toNat))) (w:World):
    Calls Tryz.prog 52 #[t.val,.int .u64 total,.int .i64 row,.int .u64 at_] w fun e w'=>e= .returned (.tuple #[SpotV.zero.val,.int .i64 6])∧Below w.heap.size w w':=by
  unfold TreeV.val;go_enter Tryz.func52,Tryz.ntmps52
  go_wp2_with fail
  refine(Z.out _).mono ?_;rintro e I ⟨v,rfl,G,o⟩;obtain⟨g,ab,rfl, -,ad,ae,q⟩:=zU G O;clear G;have X:=hid q;clear q;obtain⟨hc,hf⟩:=zi o;have U:=o.size;simp at U
  have k0:w.heap.size<I.heap.size:=by omega
  have k1:w.heap.size+1<I.heap.size:=by omega
  have b1:I.heap[w.heap.size+1]? =some (Obj.cells #[.int .i64 0,.int .u64 0,.int .u64 0,.int .u64 0,.bool false,.bool false] 96 (0,0)):=by
    rw[o.block _ (by simp)];exact qn _ _ (by simp)
  have J:=hid b1;have D:Below w.heap.size w I:=qH _ (Below.trans (Br.alloc Nl _) (o.mono (by simp)));clear b1 o;by_cases hA:row<0
  · go_wp2
    refine Bp (yW rfl rfl rfl (b:=w.heap.size+1) (T:=96) (fr:=(0,0)) (yx J.out _ _ _ _ _ _) rfl) rfl ⟨rfl,yy D (by omega) _ _ _ _ _ _⟩
  · by_cases ac:(L.length:Int)≤row
    · go_wp2
      refine Bp (yW rfl rfl rfl (b:=w.heap.size+1) (T:=96) (fr:=(0,0)) (yx J.out _ _ _ _ _ _) rfl) rfl ⟨rfl,yy D (by omega) _ _ _ _ _ _⟩
    · obtain⟨k,rfl⟩: ∃k:Nat,row=k:=⟨row.toNat,by omega⟩
      have hx:=X.out k (by omega);have aa:=V.out k (by omega);have q1:((nth L k:Int)≤(at_:Int)):=by
        have:=Y.out
        rw[Int.toNat_natCast]at this;omega
      go_wp2
      refine Bp (yW rfl rfl rfl (b:=w.heap.size+1) (T:=96) (fr:=(0,0)) (yx J.out _ _ _ _ _ _) rfl) rfl ⟨rfl,yy D (by omega) _ _ _ _ _ _⟩
def qdS (f l:Int)(total k at_ n b:Nat)(root:Bool):Array Value:=
  if root=true then #[.int .i64 k,.int .u64 at_,.int .u64 0,.int .u64 b,.bool ((at_:Int)==(n:Int) - 1),.bool true]
  else if(at_:Int)=(n:Int) - 1 then #[.int .i64 k,.int .u64 at_,.int .u64 (IntKind.u64.wrap (at_*(if k=0 then l else f))),.int .u64 (if k=0 then total else b:Nat),.bool true,.bool false]
  else #[.int .i64 k,.int .u64 at_,.int .u64 (IntKind.u64.wrap (at_*(if k=0 then l else f))),.int .u64 (IntKind.u64.wrap (IntKind.u64.wrap (at_*(if k=0 then l else f))+(if k=0 then l else f))),.bool false,.bool false]
def JP (t:TreeV)(L:List Nat)(total k at_:Nat)(A:Array Value):Prop:=A=qdS t.f t.l total k at_ (nth L k) (nth L (k - 1)) (decide (k=L.length - 1))
theorem ZQ {t:TreeV}{L:List Nat}{total k at_:Nat}{fn:Func}{tmps:Array Value}{w q:World}{a0 a1 a2 Y a4 V J O I D G U:Value}{o:Obj}
    (hr:fn.results= #[.cell 8 96,.tmp 9]) (Z:tmps[8]?.getD undef= .pointer (some ⟨w.heap.size+1,0,none⟩)) (h9:tmps[9]?.getD undef= .int .i64 0)
    (hb:q.heap[w.heap.size+1]? =some (Obj.cells #[a0,a1,a2,Y,a4,V] 96 (0,0))) (hB:Below w.heap.size w q) (k1:w.heap.size+1<q.heap.size)
    (X:JP t L total k at_ #[J,O,I,D,G,U]):
    bodyPost Tryz.prog fn (fun e w'=>(∃A,e=Ending.returned (.tuple #[.agg A,.int .i64 0])∧JP t L total k at_ A)∧Below w.heap.size w w') Exit.ret ⟨tmps,[]⟩
      (((((((q.setCell ⟨w.heap.size+1,0,none⟩ J).setCell ⟨w.heap.size+1,1,none⟩ O).setCell ⟨w.heap.size+1,2,none⟩ I).setCell ⟨w.heap.size+1,3,none⟩ D).setCell ⟨w.heap.size+1,4,none⟩ G).setCell ⟨w.heap.size+1,5,none⟩ U).alloc o):=by
  refine Bp (yW hr Z h9 (b:=w.heap.size+1) (T:=96) (fr:=(0,0)) ?_ rfl) rfl ⟨⟨_,rfl,X⟩,(yy hB (by omega) _ _ _ _ _ _).alloc (by simp;omega) _⟩;rw[Bh _ _ _ (by simp;omega)];exact yx hb _ _ _ _ _ _
theorem qcV {L:List Nat}(t:TreeV)(total:Nat)(G:1≤L.length)(ai:2≤L.length)
    (HR:Hid (∀w,Calls Tryz.prog 87 #[t.val,.int .u64 total] w fun e w'=> ∃v,e= .returned (.tuple #[v,.int .i64 0])∧w'.ownsRow w.heap.size 44 1 v L.length (L.map z7)∧Below w.heap.size w w'))
    (J:Hid (∀k,k<L.length→(nth L k:Int)≤18446744073709551615)) (aj:0≤t.f) (ag:t.f≤18446744073709551615) (ah:0≤t.l) (ad:t.l≤4294967295) (al:(L.length:Int)≤9223372036854775807)
    (k:Nat) (at_:Nat) (z1:k<L.length) (z2:at_<nth L k) (w:World):
    Calls Tryz.prog 52 #[t.val,.int .u64 total,.int .i64 k,.int .u64 at_] w fun e w'=>(∃A,e= .returned (.tuple #[.agg A,.int .i64 0])∧JP t L total k at_ A)∧Below w.heap.size w w':=by
  unfold TreeV.val;go_enter Tryz.func52,Tryz.ntmps52
  go_wp2_with fail
  refine(HR.out _).mono ?_;rintro e w1 ⟨v,rfl,X,q⟩;obtain⟨g,af,rfl, -,ak,am,I⟩:=zU X G;clear X;have O:=hid I;clear I;obtain⟨hc,hf⟩:=zi q;have ac:=q.size;simp at ac
  have k0:w.heap.size<w1.heap.size:=by omega
  have V:w.heap.size+1<w1.heap.size:=by omega
  have b1:w1.heap[w.heap.size+1]? =some (Obj.cells #[.int .i64 0,.int .u64 0,.int .u64 0,.int .u64 0,.bool false,.bool false] 96 (0,0)):=by
    rw[q.block _ (by simp)];exact qn _ _ (by simp)
  have Y:=hid b1;have D:Below w.heap.size w w1:=qH _ (Below.trans (Br.alloc Nl _) (q.mono (by simp)));clear b1 q;have hx:=O.out k z1;have ae:=J.out k z1;have q0:((L.length:Int)≤(k:Int))=False:=eq_false (by omega);have q1:((nth L k:Int)≤(at_:Int))=False:=eq_false (by omega);by_cases hR:k=L.length - 1
  · have q2:((k:Int)==(L.length:Int) - 1)=true:=by rw[beq_iff_eq];omega
    obtain⟨j,rfl⟩: ∃j,k=j+1:=⟨k - 1,by omega⟩;have hy:=O.out j (by omega);have aa:=J.out j (by omega);have o:=hid hR;clear hR;go_wp2
    refine ZQ (t:=t) (L:=L) (total:=total) (k:=j+1) (at_:=at_) (fn:=Tryz.f52) ?_ ?_ ?_ Y.out D V ?_
    · rfl
    · rfl
    · rfl
    unfold JP qdS;rw[if_pos (decide_eq_true o.out)];rfl
  · have q2:((k:Int)==(L.length:Int) - 1)=false:=by rw[beq_eq_false_iff_ne];omega
    have o:=hid hR;clear hR;by_cases U:(at_:Int)=(nth L k:Int) - 1
    · have q4:((at_:Int)==(nth L k:Int) - 1)=true:=by rw[beq_iff_eq];exact U
      have Z:=hid U;clear U
      cases k with
      | zero=>
        have ab:(L=[])=False:=eq_false (by intro h;rw[h]at G;simp at G);go_wp2
        refine ZQ (t:=t) (L:=L) (total:=total) (k:=0) (at_:=at_) (fn:=Tryz.f52) ?_ ?_ ?_ Y.out D V ?_
        · rfl
        · rfl
        · rfl
        unfold JP qdS;rw[if_neg (by simp;exact o.out),if_pos Z.out];simp
      | succ j=>
        have hy:=O.out j (by omega);have aa:=J.out j (by omega);go_wp2
        refine ZQ (t:=t) (L:=L) (total:=total) (k:=j+1) (at_:=at_) (fn:=Tryz.f52) ?_ ?_ ?_ Y.out D V ?_
        · rfl
        · rfl
        · rfl
        unfold JP qdS;rw[if_neg (by simp;exact o.out),if_pos Z.out];simp
    · have q4:((at_:Int)==(nth L k:Int) - 1)=false:=by rw[beq_eq_false_iff_ne];exact U
      have Z:=hid U;clear U
      cases k with
      | zero=>
        have ab:(L=[])=False:=eq_false (by intro h;rw[h]at G;simp at G);go_wp2
        refine ZQ (t:=t) (L:=L) (total:=total) (k:=0) (at_:=at_) (fn:=Tryz.f52) ?_ ?_ ?_ Y.out D V ?_
        · rfl
        · rfl
        · rfl
        unfold JP qdS;rw[if_neg (by simp;exact o.out),if_neg Z.out];simp
      | succ j=>
        have hy:=O.out j (by omega);have aa:=J.out j (by omega);go_wp2
        refine ZQ (t:=t) (L:=L) (total:=total) (k:=j+1) (at_:=at_) (fn:=Tryz.f52) ?_ ?_ ?_ Y.out D V ?_
        · rfl
        · rfl
        · rfl
        unfold JP qdS;rw[if_neg (by simp;exact o.out),if_neg Z.out];simp
end Go.Proofs.YthjoojnlnlmljaaGreat
namespace Go.Proofs.YthjoojnlnlmljaaGreat
open Go.ChangeShapes Go.WideShapes Go.ChangeAt Go.RowKit Go.Joins Go.Shelf Go.Maps
open Go.Lib (hid)
theorem qhl {t:TreeV}{p total:Nat}{L:List Nat}(Y:t.f=(t.fn:Int))(V:t.l=(t.ln:Int))(O:1≤t.ln)(J:(total:Int)≤18446744073709551615)(h:RowsIs t.fn p (lvs total t.ln) L){row at_:Nat}(D:row<L.length)(ha:at_<nth L row):
    qdS t.f t.l total row at_ (nth L row) (nth L (row - 1)) (decide (row=L.length - 1))=(Qv t.fn t.ln total L row at_).val.cells:=by
  have G:((at_:Int)==(nth L row:Int) - 1)=decide (at_=nth L row - 1):=by
    rw[Bool.eq_iff_iff,beq_iff_eq,decide_eq_true_iff];omega
  rw[Y,V];generalize t.fn=f at*;generalize t.ln=l at*;unfold qdS Qv;by_cases o:1≤row∧nth L row=1
  · rw[if_pos (decide_eq_true ((h.root_iff D).1 o)),if_pos o,G];rfl
  · have U: ¬row=L.length - 1:=fun e=>o ((h.root_iff D).2 e)
    obtain⟨b1,b2, -⟩:=ZH O h D ha o;have aa:((if row=0 then total else nth L (row - 1):Nat):Int)≤18446744073709551615:=by
      by_cases I:row=0
      · rw[if_pos I];exact J
      · rw[if_neg I];exact jh O J h _ (by omega)
    have Z:(if row=0 then(l:Int) else(f:Int))=((if row=0 then l else f:Nat):Int):=by split<;>rfl
    have w1:IntKind.u64.wrap ((at_:Int)*((if row=0 then l else f:Nat):Int))=((at_*(if row=0 then l else f):Nat):Int):=by
      rw[wrap_u64,←Int.natCast_mul];omega
    rw[Z,if_neg (by simp;exact U),if_neg o,w1];by_cases q:at_=nth L row - 1
    · rw[if_pos (show(at_:Int)=(nth L row:Int) - 1 by omega),if_pos q];rfl
    · have X:=b2 q
      have w2:IntKind.u64.wrap (((at_*(if row=0 then l else f):Nat):Int)+((if row=0 then l else f:Nat):Int))=(((at_+1)*(if row=0 then l else f):Nat):Int):=by
        rw[Nat.add_mul,Nat.one_mul]at X⊢;rw[wrap_u64,←Int.natCast_add];omega
      rw[if_neg (show ¬(at_:Int)=(nth L row:Int) - 1 by omega),if_neg q,w2];rfl
theorem ZS (t:TreeV)(O:0≤t.l∧t.l≤4294967295)(total:Nat)(D:(total:Int)≤18446744073709551615)(row:Int)(at_:Nat)(w:World):
    Calls Tryz.prog 52 #[t.val,.int .u64 total,.int .i64 row,.int .u64 at_] w fun e w'=>e= .returned (.tuple #[(t.spotR total row at_).val,.int .i64 (t.spotE total row at_)])∧Below w.heap.size w w':=by
  by_cases q:t.err total=0
  · obtain⟨I,ab,U,Z⟩:=QF O q
    have ad:=qq Z;have V:t.f=(t.fn:Int):=by unfold TreeV.fn;omega
    have G:=qM q;have J:=jh I D G;have ac:=G.len;have hp:(t.pn:Int)≤255:=by unfold TreeV.pn;omega
    have aa:=G.most;have X:=hid (fun w=>qbd t O total D q w);by_cases o:t.there total row at_
    · unfold TreeV.spotR TreeV.spotE
      rw[if_pos ⟨q,o⟩,if_neg (by simp[q]),if_pos o];obtain⟨z0,z1,z2⟩:=o;obtain⟨k,rfl⟩: ∃k:Nat,row=k:=⟨row.toNat,by omega⟩;rw[Int.toNat_natCast]at z1 z2⊢;refine(qcV (L:=t.rowsOf total) t total (by omega) (by omega) X (hid J) (by omega) (by omega) (by omega) (by omega) (by omega) k at_ z1 z2 w).mono ?_;rintro e w' ⟨⟨A,rfl,Y⟩,hb⟩
      refine⟨?_,hb⟩;unfold JP at Y;rw[Y,qhl V U I D G z1 z2];rfl
    · unfold TreeV.spotR TreeV.spotE
      rw[if_neg (fun h=>o h.2),if_neg (by simp[q]),if_neg o];exact qdL (L:=t.rowsOf total) t total (by omega) X (hid J) row at_ (hid o) w
  · unfold TreeV.spotR TreeV.spotE
    rw[if_neg (fun h=>q h.1),if_pos q];exact qdM t O total D q row at_ w
theorem qdG (t:TreeV)(G:0≤t.l∧t.l≤4294967295)(total:Nat)(D:(total:Int)≤18446744073709551615)(row:Int)(at_:Nat)(w:World):
    Calls Tryz.prog 105 #[t.val,.int .u64 total,.int .i64 row,.int .u64 at_] w fun e w'=>e= .returned (.tuple #[(t.spotR total row at_).val,.int .i64 (t.spotE total row at_)])∧Below w.heap.size w w':=by
  by_cases q:t.err total=0
  · refine(qih t G total D q row at_ w).mono ?_
    rintro e w' ⟨rfl,I⟩
    refine⟨?_,I⟩;unfold TreeV.spotR TreeV.spotE;by_cases o:t.there total row at_
    · rw[if_pos (show t.err total=0∧t.there total row at_ from⟨q,o⟩),if_neg (show ¬(t.err total≠0) by simp[q]),if_pos o,if_pos o]
    · rw[if_neg (show ¬(t.err total=0∧t.there total row at_) from fun h=>o h.2),if_neg (show ¬(t.err total≠0) by simp[q]),if_neg o,if_neg o]
  · unfold TreeV.spotR TreeV.spotE
    rw[if_neg (fun h=>q h.1),if_pos q];exact qg7 t G total D q row at_ w
end Go.Proofs.YthjoojnlnlmljaaGreat
namespace Go.Proofs.YthjoojnlnlmljaaGreat
open Go.ChangeShapes Go.WideShapes Go.ChangeAt Go.RowKit Go.Joins Go.Shelf Go.Maps
open Go.Lib (hid)
attribute [local go_sem] Oper.semAt_some
theorem qaD {W:World}{b:Nat}{a0 a1 a2 a3 a4 a5 a6 a7 Z X I:Value}{T:TypeId}{fr:Nat×Nat}(h:W.heap[b]? =some (Obj.cells #[a0,a1,a2,a3,a4,a5,a6,a7,Z,X,I] T fr))(o q D G J O U V Y v9 aa:Value):
    (((((((((((W.setCell ⟨b,0,none⟩ o).setCell ⟨b,1,none⟩ q).setCell ⟨b,2,none⟩ D).setCell ⟨b,3,none⟩ G).setCell ⟨b,4,none⟩ J).setCell ⟨b,5,none⟩ O).setCell ⟨b,6,none⟩ U).setCell ⟨b,7,none⟩ V).setCell ⟨b,8,none⟩ Y).setCell ⟨b,9,none⟩ v9).setCell ⟨b,10,none⟩ aa).heap[b]? =some (Obj.cells #[o,q,D,G,J,O,U,V,Y,v9,aa] T fr):=by
  have h0:(W.setCell ⟨b,0,none⟩ o).heap[b]? =some (Obj.cells #[o,a1,a2,a3,a4,a5,a6,a7,Z,X,I] T fr):=block_setCell h o;have h1:((W.setCell ⟨b,0,none⟩ o).setCell ⟨b,1,none⟩ q).heap[b]? =some (Obj.cells #[o,q,a2,a3,a4,a5,a6,a7,Z,X,I] T fr):=block_setCell h0 q;have h2:(((W.setCell ⟨b,0,none⟩ o).setCell ⟨b,1,none⟩ q).setCell ⟨b,2,none⟩ D).heap[b]? =some (Obj.cells #[o,q,D,a3,a4,a5,a6,a7,Z,X,I] T fr):=block_setCell h1 D;have h3:((((W.setCell ⟨b,0,none⟩ o).setCell ⟨b,1,none⟩ q).setCell ⟨b,2,none⟩ D).setCell ⟨b,3,none⟩ G).heap[b]? =some (Obj.cells #[o,q,D,G,a4,a5,a6,a7,Z,X,I] T fr):=block_setCell h2 G;have h4:(((((W.setCell ⟨b,0,none⟩ o).setCell ⟨b,1,none⟩ q).setCell ⟨b,2,none⟩ D).setCell ⟨b,3,none⟩ G).setCell ⟨b,4,none⟩ J).heap[b]? =some (Obj.cells #[o,q,D,G,J,a5,a6,a7,Z,X,I] T fr):=block_setCell h3 J;have h5:((((((W.setCell ⟨b,0,none⟩ o).setCell ⟨b,1,none⟩ q).setCell ⟨b,2,none⟩ D).setCell ⟨b,3,none⟩ G).setCell ⟨b,4,none⟩ J).setCell ⟨b,5,none⟩ O).heap[b]? =some (Obj.cells #[o,q,D,G,J,O,a6,a7,Z,X,I] T fr):=block_setCell h4 O;have h6:(((((((W.setCell ⟨b,0,none⟩ o).setCell ⟨b,1,none⟩ q).setCell ⟨b,2,none⟩ D).setCell ⟨b,3,none⟩ G).setCell ⟨b,4,none⟩ J).setCell ⟨b,5,none⟩ O).setCell ⟨b,6,none⟩ U).heap[b]? =some (Obj.cells #[o,q,D,G,J,O,U,a7,Z,X,I] T fr):=block_setCell h5 U;have h7:((((((((W.setCell ⟨b,0,none⟩ o).setCell ⟨b,1,none⟩ q).setCell ⟨b,2,none⟩ D).setCell ⟨b,3,none⟩ G).setCell ⟨b,4,none⟩ J).setCell ⟨b,5,none⟩ O).setCell ⟨b,6,none⟩ U).setCell ⟨b,7,none⟩ V).heap[b]? =some (Obj.cells #[o,q,D,G,J,O,U,V,Z,X,I] T fr):=block_setCell h6 V;have h8:(((((((((W.setCell ⟨b,0,none⟩ o).setCell ⟨b,1,none⟩ q).setCell ⟨b,2,none⟩ D).setCell ⟨b,3,none⟩ G).setCell ⟨b,4,none⟩ J).setCell ⟨b,5,none⟩ O).setCell ⟨b,6,none⟩ U).setCell ⟨b,7,none⟩ V).setCell ⟨b,8,none⟩ Y).heap[b]? =some (Obj.cells #[o,q,D,G,J,O,U,V,Y,X,I] T fr):=block_setCell h7 Y;have h9:((((((((((W.setCell ⟨b,0,none⟩ o).setCell ⟨b,1,none⟩ q).setCell ⟨b,2,none⟩ D).setCell ⟨b,3,none⟩ G).setCell ⟨b,4,none⟩ J).setCell ⟨b,5,none⟩ O).setCell ⟨b,6,none⟩ U).setCell ⟨b,7,none⟩ V).setCell ⟨b,8,none⟩ Y).setCell ⟨b,9,none⟩ v9).heap[b]? =some (Obj.cells #[o,q,D,G,J,O,U,V,Y,v9,I] T fr):=block_setCell h8 v9;have ab:(((((((((((W.setCell ⟨b,0,none⟩ o).setCell ⟨b,1,none⟩ q).setCell ⟨b,2,none⟩ D).setCell ⟨b,3,none⟩ G).setCell ⟨b,4,none⟩ J).setCell ⟨b,5,none⟩ O).setCell ⟨b,6,none⟩ U).setCell ⟨b,7,none⟩ V).setCell ⟨b,8,none⟩ Y).setCell ⟨b,9,none⟩ v9).setCell ⟨b,10,none⟩ aa).heap[b]? =some (Obj.cells #[o,q,D,G,J,O,U,V,Y,v9,aa] T fr):=block_setCell h9 aa;exact ab
theorem jb {B:Nat}{a W:World}(h:Below B a W){b:Nat}(o:B≤b)(I D G U V Y X O J Z q:Value):
    Below B a (((((((((((W.setCell ⟨b,0,none⟩ I).setCell ⟨b,1,none⟩ D).setCell ⟨b,2,none⟩ G).setCell ⟨b,3,none⟩ U).setCell ⟨b,4,none⟩ V).setCell ⟨b,5,none⟩ Y).setCell ⟨b,6,none⟩ X).setCell ⟨b,7,none⟩ O).setCell ⟨b,8,none⟩ J).setCell ⟨b,9,none⟩ Z).setCell ⟨b,10,none⟩ q):=
  (((((((((((h.setCell (p:=⟨b,0,none⟩) o I).setCell (p:=⟨b,1,none⟩) o D).setCell (p:=⟨b,2,none⟩) o G).setCell (p:=⟨b,3,none⟩) o U).setCell (p:=⟨b,4,none⟩) o V).setCell (p:=⟨b,5,none⟩) o Y).setCell (p:=⟨b,6,none⟩) o X).setCell (p:=⟨b,7,none⟩) o O).setCell (p:=⟨b,8,none⟩) o J).setCell (p:=⟨b,9,none⟩) o Z).setCell (p:=⟨b,10,none⟩) o q)
theorem ZV {P:Program}{fn:Func}{tmps:Array Value}{W:World}{b:Nat}{v0 v1 Y O U v5 v6 v7 J v9 D e:Value}{T:TypeId}{fr:Nat×Nat}
    (hr:fn.results= #[.cell 8 171,.tmp 9]) (h8:tmps[8]?.getD undef= .pointer (some ⟨b,0,none⟩)) (h9:tmps[9]?.getD undef=e)
    (o:W.heap[b]? =some (Obj.cells #[v0,v1,Y,O,U,v5,v6,v7,J,v9,D] T fr)) (hP:P=Tryz.prog):
    (results fn tmps).run P W= .ok (.tuple #[.agg #[v0,v1,Y,O,U,v5,v6,v7,J,v9,D],e]) W:=by
  subst hP;have V:=qd o 0;have c1:=qd o 1;have c2:=qd o 2;have I:=qd o 3;have Z:=qd o 4;have G:=qd o 5;have X:=qd o 6;have c7:=qd o 7;have c8:=qd o 8;have c9:=qd o 9;have q:=qd o 10;simp only[List.getElem?_toArray,List.getElem?_cons_zero,List.getElem?_cons_succ]at V c1 c2 I Z G X c7 c8 c9 q;simp[results,hr,h8,h9,go_sem,V,c1,c2,I,Z,G,X,c7,c8,c9,q]
theorem zA {W:World}{b c:Nat}(h:c≠b)(I D G U V X q O J Y o:Value):(((((((((((W.setCell ⟨b,0,none⟩ I).setCell ⟨b,1,none⟩ D).setCell ⟨b,2,none⟩ G).setCell ⟨b,3,none⟩ U).setCell ⟨b,4,none⟩ V).setCell ⟨b,5,none⟩ X).setCell ⟨b,6,none⟩ q).setCell ⟨b,7,none⟩ O).setCell ⟨b,8,none⟩ J).setCell ⟨b,9,none⟩ Y).setCell ⟨b,10,none⟩ o).heap[c]? =W.heap[c]? :=
  (Below.heap_setCell _ _ _ _ h).trans ((Below.heap_setCell _ _ _ _ h).trans ((Below.heap_setCell _ _ _ _ h).trans ((Below.heap_setCell _ _ _ _ h).trans ((Below.heap_setCell _ _ _ _ h).trans ((Below.heap_setCell _ _ _ _ h).trans ((Below.heap_setCell _ _ _ _ h).trans ((Below.heap_setCell _ _ _ _ h).trans ((Below.heap_setCell _ _ _ _ h).trans ((Below.heap_setCell _ _ _ _ h).trans (Below.heap_setCell _ _ _ _ h))))))))))
theorem qc4 {W W':World}{base:Nat}{e:TypeId}{size:Nat}{v:Value}{n:Nat}{D:List Value}(h:W.ownsRow base e size v n D)(J: ∀g,base≤g→g<W.heap.size→W'.heap[g]? =W.heap[g]?):W'.ownsRow base e size v n D:=by
  refine⟨h.1,?_⟩;rcases h.2 with o|⟨g,q,G,O,o,I,U⟩
  · exact .inl o
  · exact .inr ⟨g,q,G,O,o,(J g o (Ai I).1).trans I,U⟩
theorem SideIs.same {W W':World}{base:Nat}{zs:List Int}{v:Value}(h:SideIs base W zs v)(q: ∀g,base≤g→g<W.heap.size→W'.heap[g]? =W.heap[g]?):SideIs base W' zs v:=by
  rcases h with h|⟨D,o⟩
  · exact .inl h
  · exact .inr ⟨D,qc4 o q⟩
theorem qf4 {W:World}{b:Nat}{a0 a1 a2 U Z D a6 G a8 I o:Value}{T:TypeId}(h:W.heap[b]? =some (Obj.cells #[a0,a1,a2,U,Z,D,a6,G,a8,I,o] T (0,0))):
    W.cell? ⟨b,0,none⟩=some a0∧W.cell? ⟨b,1,none⟩=some a1∧W.cell? ⟨b,2,none⟩=some a2∧W.cell? ⟨b,3,none⟩=some U∧W.cell? ⟨b,4,none⟩=some Z∧W.cell? ⟨b,5,none⟩=some D∧W.cell? ⟨b,6,none⟩=some a6∧W.cell? ⟨b,7,none⟩=some G∧W.cell? ⟨b,8,none⟩=some a8∧W.cell? ⟨b,9,none⟩=some I∧W.cell? ⟨b,10,none⟩=some o∧ ∀i,W.frozen? ⟨b,i,none⟩=false:=by
  have V:=qd h 0;have c1:=qd h 1;have c2:=qd h 2;have O:=qd h 3;have Y:=qd h 4;have J:=qd h 5;have X:=qd h 6;have c7:=qd h 7;have c8:=qd h 8;have c9:=qd h 9;have q:=qd h 10;simp only[List.getElem?_toArray,List.getElem?_cons_zero,List.getElem?_cons_succ]at V c1 c2 O Y J X c7 c8 c9 q;exact⟨V,c1,c2,O,Y,J,X,c7,c8,c9,q,fun i=>by simp[World.frozen?,h]⟩
theorem SideIs.form {W:World}{base:Nat}{zs:List Int}{v:Value}(h:SideIs base W zs v): ∃a n c,v= .slice a n c:=by
  rcases h with⟨h, -⟩|⟨-,o⟩
  · exact⟨_,_,_,h⟩
  · rcases ownsRow_forms o with⟨h, -⟩|⟨g,q,h⟩
    · exact⟨_,_,_,h⟩
    · exact⟨_,_,_,h⟩
theorem SideIs.le {W:World}{base base':Nat}{zs:List Int}{v:Value}(h:SideIs base W zs v)(q:base'≤base):SideIs base' W zs v:=by
  rcases h with h|⟨D,o⟩
  · exact .inl h
  · exact .inr ⟨D,ownsRow_le o q⟩
def J1 (t:TreeV)(row:Int)(at_:Nat)(s p:Value):Value:= .agg #[.int .i64 t.d,.int .i64 t.kl,.int .i64 t.f,.int .i64 t.p,.int .u32 t.l,.int .u64 at_,.int .u32 0,.int .i64 row,.int .i64 t.i,s,p]
theorem qhG {W Y:World}{c b:Nat}(J:c<b)(h: ∀o,W.cell? ⟨c,o,none⟩=Y.cell? ⟨c,o,none⟩)(U G I O Z v5 D X V v9 q:Value)(o:Nat):(((((((((((W.setCell ⟨b,0,none⟩ U).setCell ⟨b,1,none⟩ G).setCell ⟨b,2,none⟩ I).setCell ⟨b,3,none⟩ O).setCell ⟨b,4,none⟩ Z).setCell ⟨b,5,none⟩ v5).setCell ⟨b,6,none⟩ D).setCell ⟨b,7,none⟩ X).setCell ⟨b,8,none⟩ V).setCell ⟨b,9,none⟩ v9).setCell ⟨b,10,none⟩ q).cell? ⟨c,o,none⟩=Y.cell? ⟨c,o,none⟩:=
  ((jb (Below.refl b W) (Nat.le_refl b) U G I O Z v5 D X V v9 q).cell (p:=⟨c,o,none⟩) J).trans (h o)
theorem qgx (t:TreeV)(total:Nat)(row:Int)(at_:Nat){z0:Int}{z1 z2 z3:Int}{z4 z5:Bool}{U J:List Int}
    (H1:Hid (∀w,Calls Tryz.prog 105 #[t.val,.int .u64 total,.int .i64 row,.int .u64 at_] w fun r w'=>r= .returned (.tuple #[.agg #[.int .i64 z0,.int .u64 z1,.int .u64 z2,.int .u64 z3,.bool z4,.bool z5],.int .i64 0])∧Below w.heap.size w w')) (w:World)
    (ad:Hid (Holds8 w (.slice t.sa t.sl t.sc) U)) (ae:Hid (Holds8 w (.slice t.pa t.pl t.pc) J)) (ah:Hid (∀z∈U,0≤z∧z≤255)) (ac:Hid (∀z∈J,0≤z∧z≤255)) (aj:Hid (U.length≤65535)) (ag:Hid (J.length≤65535)):
    Calls Tryz.prog 157 #[t.val,.int .u64 total,.int .i64 row,.int .u64 at_] w fun r w'=> ∃s p,r= .returned (.tuple #[J1 t row at_ s p,.int .i64 0])∧SideIs w.heap.size w' U s∧SideIs w.heap.size w' J p∧Below w.heap.size w w':=by
  unfold TreeV.val J1 at*;go_enter Tryz.func157,Tryz.ntmps157
  go_wp2_with fail
  refine(H1.out _).mono ?_;rintro r q ⟨rfl,D⟩;obtain⟨hc,af⟩:=zi D;have ai:=D.size;simp at ai
  have X:w.heap.size<q.heap.size:=by omega
  have k1:w.heap.size+1<q.heap.size:=by omega
  have b1:q.heap[w.heap.size+1]? =some (Obj.cells #[.int .i64 0,.int .i64 0,.int .i64 0,.int .i64 0,.int .u32 0,.int .u64 0,.int .u32 0,.int .i64 0,.int .i64 0,.slice none 0 0,.slice none 0 0] 171 (0,0)):=by
    rw[D.block _ (by simp)];exact qn _ _ (by simp)
  have B1:=hid b1;have O:Below w.heap.size w q:=qH _ (Below.trans (Br.alloc Nl _) (D.mono (by simp)));clear b1;go_wp2_with fail
  go_region_held3 (fun w'=> ∀o,w'.cell? ⟨w.heap.size,o,none⟩=q.cell? ⟨w.heap.size,o,none⟩) (first|with_reducible assumption|with_reducible exact qhG (Nat.lt_succ_self _) K3 _ _ _ _ _ _ _ _ _ _ _|(intro o;exact((Below.refl _ q).alloc Nl _).drew.cell (p:=⟨w.heap.size,o,none⟩) X)|(intro o;exact(Below.refl _ q).drew.cell (p:=⟨w.heap.size,o,none⟩) X)) (first
    | (go_at_call_of 182 (Value.slice t.sa t.sl t.sc);refine(qdH U _ _ ?_ ah.out aj.out).mono ?_;exact Qc ad.out (O.trans (by first|exact((Below.refl _ q).alloc Nl _).drew.mono (by omega)|exact(Below.refl _ q).drew.mono (by omega)));rintro e w2 ⟨u,rfl,hu,aa⟩;obtain⟨ua,un,uc,rfl⟩:=hu.form;have G:Below q.heap.size q w2:=(by first|exact(((Below.refl _ q).alloc Nl _).drew).trans (aa.mono (by simp))|exact(Below.refl _ q).drew.trans (aa.mono (by simp)));have K2: ∀o,w2.cell? ⟨w.heap.size,o,none⟩=q.cell? ⟨w.heap.size,o,none⟩:=fun o=>G.cell (p:=⟨w.heap.size,o,none⟩) X;have Z:=G.size;have ab:q.heap.size≤w2.heap.size:=Z)
    | (go_at_call_of 182 (Value.slice t.pa t.pl t.pc);refine(qdH J _ _ ?_ ac.out ag.out).mono ?_;exact Qc ae.out (O.trans (G.mono (by omega)));rintro e w3 ⟨p,rfl,hp,Y⟩;obtain⟨pa,pn,pc,rfl⟩:=hp.form;have I:Below q.heap.size q w3:=G.trans (Y.mono Z);have V:=(I.block _ k1).trans B1.out;obtain⟨x0,x1,x2,x3,x4,x5,x6,x7,x8,x9,am,xf⟩:=qf4 V;have V:=hid V;have K3: ∀o,w3.cell? ⟨w.heap.size,o,none⟩=q.cell? ⟨w.heap.size,o,none⟩:=fun o=>I.cell (p:=⟨w.heap.size,o,none⟩) X;have an:=I.size;clear af))
  go_wp2
  have ak:=hu.le (base':=q.heap.size) (by first|(show q.heap.size≤(q.alloc _).heap.size;simp)|exact Nat.le_refl _);have al:=hp.le (base':=q.heap.size) ab;refine Bp (ZV rfl rfl rfl (b:=w.heap.size+1) (T:=171) (fr:=(0,0)) (qaD V.out _ _ _ _ _ _ _ _ _ _ _) rfl) rfl ⟨_,_,rfl,(ak.same fun g g1 g2=>?_).le (by omega),(al.same fun g g1 g2=>?_).le (by omega),jb (O.trans (I.mono (by omega))) (by omega) _ _ _ _ _ _ _ _ _ _ _⟩
  · exact(zA (by omega) _ _ _ _ _ _ _ _ _ _ _).trans (Y.block g g2)
  · exact zA (by omega) _ _ _ _ _ _ _ _ _ _ _
theorem qcX (t:TreeV)(total:Nat)(row:Int)(at_:Nat){z0:Int}{z1 z2 z3:Int}{z4 z5:Bool}{U J:List Int}
    (H1:Hid (∀w,Calls Tryz.prog 52 #[t.val,.int .u64 total,.int .i64 row,.int .u64 at_] w fun r w'=>r= .returned (.tuple #[.agg #[.int .i64 z0,.int .u64 z1,.int .u64 z2,.int .u64 z3,.bool z4,.bool z5],.int .i64 0])∧Below w.heap.size w w')) (w:World)
    (ad:Hid (Holds8 w (.slice t.sa t.sl t.sc) U)) (ae:Hid (Holds8 w (.slice t.pa t.pl t.pc) J)) (ah:Hid (∀z∈U,0≤z∧z≤255)) (ac:Hid (∀z∈J,0≤z∧z≤255)) (aj:Hid (U.length≤65535)) (ag:Hid (J.length≤65535)):
    Calls Tryz.prog 137 #[t.val,.int .u64 total,.int .i64 row,.int .u64 at_] w fun r w'=> ∃s p,r= .returned (.tuple #[J1 t row at_ s p,.int .i64 0])∧SideIs w.heap.size w' U s∧SideIs w.heap.size w' J p∧Below w.heap.size w w':=by
  unfold TreeV.val J1 at*;go_enter Tryz.func137,Tryz.ntmps137
  go_wp2_with fail
  refine(H1.out _).mono ?_;rintro r q ⟨rfl,D⟩;obtain⟨hc,af⟩:=zi D;have ai:=D.size;simp at ai
  have X:w.heap.size<q.heap.size:=by omega
  have k1:w.heap.size+1<q.heap.size:=by omega
  have b1:q.heap[w.heap.size+1]? =some (Obj.cells #[.int .i64 0,.int .i64 0,.int .i64 0,.int .i64 0,.int .u32 0,.int .u64 0,.int .u32 0,.int .i64 0,.int .i64 0,.slice none 0 0,.slice none 0 0] 171 (0,0)):=by
    rw[D.block _ (by simp)];exact qn _ _ (by simp)
  have B1:=hid b1;have O:Below w.heap.size w q:=qH _ (Below.trans (Br.alloc Nl _) (D.mono (by simp)));clear b1;go_wp2_with fail
  go_region_held3 (fun w'=> ∀o,w'.cell? ⟨w.heap.size,o,none⟩=q.cell? ⟨w.heap.size,o,none⟩) (first|with_reducible assumption|with_reducible exact qhG (Nat.lt_succ_self _) K3 _ _ _ _ _ _ _ _ _ _ _|(intro o;exact((Below.refl _ q).alloc Nl _).drew.cell (p:=⟨w.heap.size,o,none⟩) X)|(intro o;exact(Below.refl _ q).drew.cell (p:=⟨w.heap.size,o,none⟩) X)) (first
    | (go_at_call_of 162 (Value.slice t.sa t.sl t.sc);refine(qeb U _ _ ?_ ah.out aj.out).mono ?_;exact Qc ad.out (O.trans (by first|exact((Below.refl _ q).alloc Nl _).drew.mono (by omega)|exact(Below.refl _ q).drew.mono (by omega)));rintro e w2 ⟨u,rfl,hu,aa⟩;obtain⟨ua,un,uc,rfl⟩:=hu.form;have G:Below q.heap.size q w2:=(by first|exact(((Below.refl _ q).alloc Nl _).drew).trans (aa.mono (by simp))|exact(Below.refl _ q).drew.trans (aa.mono (by simp)));have K2: ∀o,w2.cell? ⟨w.heap.size,o,none⟩=q.cell? ⟨w.heap.size,o,none⟩:=fun o=>G.cell (p:=⟨w.heap.size,o,none⟩) X;have Z:=G.size;have ab:q.heap.size≤w2.heap.size:=Z)
    | (go_at_call_of 162 (Value.slice t.pa t.pl t.pc);refine(qeb J _ _ ?_ ac.out ag.out).mono ?_;exact Qc ae.out (O.trans (G.mono (by omega)));rintro e w3 ⟨p,rfl,hp,Y⟩;obtain⟨pa,pn,pc,rfl⟩:=hp.form;have I:Below q.heap.size q w3:=G.trans (Y.mono Z);have V:=(I.block _ k1).trans B1.out;obtain⟨x0,x1,x2,x3,x4,x5,x6,x7,x8,x9,am,xf⟩:=qf4 V;have V:=hid V;have K3: ∀o,w3.cell? ⟨w.heap.size,o,none⟩=q.cell? ⟨w.heap.size,o,none⟩:=fun o=>I.cell (p:=⟨w.heap.size,o,none⟩) X;have an:=I.size;clear af))
  go_wp2
  have ak:=hu.le (base':=q.heap.size) (by first|(show q.heap.size≤(q.alloc _).heap.size;simp)|exact Nat.le_refl _);have al:=hp.le (base':=q.heap.size) ab;refine Bp (ZV rfl rfl rfl (b:=w.heap.size+1) (T:=171) (fr:=(0,0)) (qaD V.out _ _ _ _ _ _ _ _ _ _ _) rfl) rfl ⟨_,_,rfl,(ak.same fun g g1 g2=>?_).le (by omega),(al.same fun g g1 g2=>?_).le (by omega),jb (O.trans (I.mono (by omega))) (by omega) _ _ _ _ _ _ _ _ _ _ _⟩
  · exact(zA (by omega) _ _ _ _ _ _ _ _ _ _ _).trans (Y.block g g2)
  · exact zA (by omega) _ _ _ _ _ _ _ _ _ _ _
end Go.Proofs.YthjoojnlnlmljaaGreat

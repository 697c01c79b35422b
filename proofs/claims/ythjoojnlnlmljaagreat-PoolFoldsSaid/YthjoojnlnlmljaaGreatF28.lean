/- The walk of shape.Spot, where the tree may be. No condition. -/
import Derived.Test.YthjoojnlnlmljaaGreatF26
import Derived.Sort.QuietIn
import Derived.BigRegionIn
import Derived.Test.YthjoojnlnlmljaaGreatF27
import Derived.Test.YthjoojnlnlmljaaGreatF05
import Derived.Deep.RegionHeld3
set_option linter.all false
set_option maxRecDepth 100000
set_option maxHeartbeats 8000000
namespace Go.Proofs.YthjoojnlnlmljaaGreat
open Go.ChangeShapes Go.WideShapes Go.ChangeAt Go.RowKit Go.Joins Go.Shelf Go.Maps
open Go.Lib (hid)
attribute [local go_sem] Oper.semAt_some
theorem YC {G X:Prop}(h:G→X)(g:G):X:=h g
theorem qhD (t:TreeV)(hl:0≤t.l∧t.l≤4294967295)(total:Nat)(ht:(total:Int)≤18446744073709551615)(h:t.err total=0)(row:Int)(at_:Nat)(w:World):
    Calls Tryz.prog 105 #[t.val,.int .u64 total,.int .i64 row,.int .u64 at_] w fun e w'=>e= .returned (.tuple #[(if t.there total row at_ then(t.spot total row.toNat at_).val else SpotV.zero.val),.int .i64 (if t.there total row at_ then 0 else 6)])∧Below w.heap.size w w':=by
  have hv:=qG h;obtain⟨L,hL⟩:=Ex (t.rowsOf total);obtain⟨ak,aJ,al, -⟩:=yj hl h;have aC:=qq hv;have am:t.f=(t.fn:Int):=by unfold TreeV.fn;omega
  have aH:(t.fn:Int)≤18446744073709551615:=by omega
  have ap:RowsIs t.fn t.pn (lvs total t.ln) L:=by rw[←hL];exact qM h
  have aq:=ZY ak ht ap;have HF:=hid am;have ax:=hid al;clear am al aC;have H:=hid h;clear h;refine(callsIn_wide (n:=9)).1 ?_;refine callsIn_of_wp_marks Tryz.func105 rfl trivial ?_ rfl;unfold TreeV.val;simp only[Tryz.ntmps105,List.size_toArray,List.length_cons,List.length_nil,Nat.reduceAdd,Nat.reduceSub,Array.replicate_succ,Array.replicate_zero,List.push_toArray,List.append_toArray,List.nil_append,List.cons_append];gi_wp2_with fail
  refine qah ?_;gi_wp2_with fail
  refine⟨trivial,?_⟩;refine(callsIn_wide.2 (zS t hl total ht _)).mono ?_;rintro e I ⟨rfl,ae⟩;rw[H.out];obtain⟨hc,hf⟩:=Y6 ae;have aE:=ae.size;simp at aE
  have k0:w.heap.size<I.heap.size:=by omega
  have k1:w.heap.size+1<I.heap.size:=by omega
  have k2:w.heap.size+1+1<I.heap.size:=by omega
  have k3:w.heap.size+1+1+1<I.heap.size:=by omega
  have k4:w.heap.size+1+1+1+1<I.heap.size:=by omega
  have k5:w.heap.size+1+1+1+1+1<I.heap.size:=by omega
  have ac:Below w.heap.size w I:=by
    refine Below.trans ?_ (ae.mono (by simp;omega));repeat(first|exact Below.refl _ _|(refine Below.alloc ?_ (by simp;omega) _)|(refine Below.alloc ?_ (by simp) _))
  gi_wp2_with fail
  refine wpIn_label ?_;gi_wp2_with fail
  refine⟨trivial,?_⟩;refine(callsIn_wide.2 (qdL t total _)).mono ?_;rintro e w2 ⟨rfl,rfl⟩;gi_wp2_with fail
  have az:I.cell? ⟨w.heap.size,2,none⟩=some (.int .i64 t.f):=(hc _ _ (by simp;omega)).trans (by simp[go_sem]);have ar:I.cell? ⟨w.heap.size,4,none⟩=some (.int .u32 t.l):=(hc _ _ (by simp;omega)).trans (by simp[go_sem]);have r1:I.cell? ⟨w.heap.size+1,0,none⟩=some (.int .u64 total):=(hc _ _ (by simp)).trans (by simp[go_sem]);have r2:I.cell? ⟨w.heap.size+1+1,0,none⟩=some (.int .i64 row):=(hc _ _ (by simp)).trans (by simp[go_sem]);have r3:I.cell? ⟨w.heap.size+1+1+1,0,none⟩=some (.int .u64 at_):=(hc _ _ (by simp)).trans (by simp[go_sem]);have b4:I.heap[w.heap.size+1+1+1+1]? =some (Obj.cells #[.int .i64 0,.int .u64 0,.int .u64 0,.int .u64 0,.bool false,.bool false] 96 (0,0)):=by
    rw[ae.block _ (by simp)];rw[Bh _ _ _ (by simp)];exact qk _ _ (by simp)
  have b5:I.heap[w.heap.size+1+1+1+1+1]? =some (Obj.cells #[.int .i64 0] 30 (0,0)):=by
    rw[ae.block _ (by simp)];exact qk _ _ (by simp)
  have aB:(((I.alloc (.cells #[.int .u64 0] 44)).alloc (.cells t.arr 26)).alloc (.cells #[.int .u64 total] 44)).heap[I.heap.size]? =some (Obj.cells #[.int .u64 0] 44 (0,0)):=by
    rw[Bh _ _ _ (by simp;omega),Bh _ _ _ (by simp)];exact Wn _ _
  have au:(((I.alloc (.cells #[.int .u64 0] 44)).alloc (.cells t.arr 26)).alloc (.cells #[.int .u64 total] 44)).heap[I.heap.size+1]? =some (Obj.cells t.arr 26 (0,0)):=by
    rw[Bh _ _ _ (by simp)];exact qk _ _ (by simp)
  have ay:(((I.alloc (.cells #[.int .u64 0] 44)).alloc (.cells t.arr 26)).alloc (.cells #[.int .u64 total] 44)).heap[I.heap.size+1+1]? =some (Obj.cells #[.int .u64 total] 44 (0,0)):=
    qk _ _ (by simp)
  have aA:Below I.heap.size I (((I.alloc (.cells #[.int .u64 0] 44)).alloc (.cells t.arr 26)).alloc (.cells #[.int .u64 total] 44)):=(((Below.refl _ I).alloc Nl _).alloc (by simp) _).alloc (by simp;omega) _;have av:=qa6 (9 - 1) t hl total ht hv _ _ _ au ay L hL;refine wpIn_rangeFunc_ownG rfl (by omega) (gf:=146) (lb:= #[.pointer (some ⟨I.heap.size+1,0,none⟩),.pointer (some ⟨I.heap.size+1+1,0,none⟩)]) rfl trivial (enters_of Tryz.func146 (by kernel_rfl) rfl)
    av (fun h k=>h.trans k) (fun W l o o' _ hl ho _=>KpT.putObj W l o o' hl ho) Br (fun _=>rfl)
    (SpotI I L row) (SpotX w t total L row at_)
    (SpotI.own (by simp;omega)) (fun c=>SpotX.own (by simp;omega))
    ⟨fun k J=>(by cases J),aB,aA⟩
    (fun x=> { tmps:= #[.agg #[.int .i64 t.k,.int .i64 t.d,.int .i64 t.f,.int .i64 t.p,.int .u32 t.l,.int .i64 t.i,.slice t.ka t.kl t.kc,.slice t.sa t.sl t.sc,.slice t.pa t.pl t.pc],.int .u64 total,.int .i64 row,.int .u64 at_,.pointer (some ⟨w.heap.size,0,none⟩),.pointer (some ⟨w.heap.size+1,0,none⟩),.pointer (some ⟨w.heap.size+1+1,0,none⟩),.pointer (some ⟨w.heap.size+1+1+1,0,none⟩),.pointer (some ⟨w.heap.size+1+1+1+1,0,none⟩),.pointer (some ⟨w.heap.size+1+1+1+1+1,0,none⟩),.int .i64 0,
      .pointer (some ⟨I.heap.size,0,none⟩),.int .i64 (x.1:Nat),.int .u64 (nth L x.1:Nat),undef,undef,undef,.agg #[.int .i64 t.k,.int .i64 t.d,.int .i64 t.f,.int .i64 t.p,.int .u32 t.l,.int .i64 t.i,.slice t.ka t.kl t.kc,.slice t.sa t.sl t.sc,.slice t.pa t.pl t.pc],.int .u64 total,.int .i64 0,.int .i64 0,.bool false,undef,undef,.agg #[.int .i64 t.k,.int .i64 t.d,.int .i64 t.f,.int .i64 t.p,.int .u32 t.l,.int .i64 t.i,.slice t.ka t.kl t.kc,.slice t.sa t.sl t.sc,.slice t.pa t.pl t.pc],.int .u64 total,
      .func (.func 146) #[] #[.pointer (some ⟨I.heap.size+1,0,none⟩),.pointer (some ⟨I.heap.size+1+1,0,none⟩)],.int .i64 (x.1:Nat),.int .u64 (nth L x.1:Nat),undef,undef,undef,undef,undef,undef,undef,undef,undef,undef,undef,undef,undef,undef,undef,undef,undef,undef,undef,undef,undef,undef,undef,undef,undef,undef,undef,undef,undef,undef,undef,undef,undef,undef,undef,undef,undef,undef,undef,undef,undef,undef,undef,undef,undef,undef,undef,undef,undef,undef,undef,undef,undef,undef,undef,undef,undef,undef,undef,undef,undef],defers:=[] }) ?assign ?body ?done ?stop
  case assign=>
    intro l x W K q;simp only[qhV];gi_wp2
    exact q
  case body=>
    rintro l ah x W ⟨U,aa,S⟩ -
    have aF:=S.size;have gf:W.cell? ⟨w.heap.size,2,none⟩=some (.int .i64 t.fn):=by rw[←HF.out];exact(S.cell (p:=⟨w.heap.size,2,none⟩) k0).trans az
    have gl:W.cell? ⟨w.heap.size,4,none⟩=some (.int .u32 t.ln):=by rw[←ax.out];exact(S.cell (p:=⟨w.heap.size,4,none⟩) k0).trans ar
    have g1:=(S.cell (p:=⟨w.heap.size+1,0,none⟩) k1).trans r1;have g2:=(S.cell (p:=⟨w.heap.size+1+1,0,none⟩) k2).trans r2;have g3:=(S.cell (p:=⟨w.heap.size+1+1+1,0,none⟩) k3).trans r3;have G:=(S.block _ k4).trans b4;have V:=(S.block _ k5).trans b5;have gb:=qa aa 0;have fb:=unfrozen_of_block aa 0;have f0:=unfrozen_of_block G 0;have f1:=unfrozen_of_block G 1;have f2:=unfrozen_of_block G 2;have f3:=unfrozen_of_block G 3;have f4:=unfrozen_of_block G 4;have f5:=unfrozen_of_block G 5;have f6:=unfrozen_of_block V 0;have c0:=qa G 0;have c1:=qa G 1;have c2:=qa G 2;have c3:=qa G 3;have c4:=qa G 4;have c5:=qa G 5;have c6:=qa V 0;simp only[List.getElem?_toArray,List.getElem?_cons_zero,List.getElem?_cons_succ]at c0 c1 c2 c3 c4 c5 c6 gb;have m0:w.heap.size<W.heap.size:=by omega
    have m1:w.heap.size+1<W.heap.size:=by omega
    have m2:w.heap.size+1+1<W.heap.size:=by omega
    have m3:w.heap.size+1+1+1<W.heap.size:=by omega
    have m4:w.heap.size+1+1+1+1<W.heap.size:=by omega
    have m5:w.heap.size+1+1+1+1+1<W.heap.size:=by omega
    have m6:I.heap.size<W.heap.size:=(Ai aa).1;have ab:=hid (ac.trans (S.mono (by omega)));have Y:=hid U;have HB:=hid S;have aj:=hid aa;have D4:=hid G;have Z:=hid V;clear U S aa G V;have aG:(nth L x.1:Int)≤18446744073709551615:=aq x.1 x.2;by_cases hA:(x.1:Int)<row
    · gi_wp2
      go_goals
      exact⟨(KeepsOthers.setCell _ _ _).from _,KpT.setCell (p:=⟨I.heap.size,0,none⟩) aj.out (by decide) (by decide) _,fun k J=>by
        rcases List.mem_append.1 J with h|h
        · exact Y.out k h
        · rw[List.mem_singleton.1 h];exact hA,by rw[qac];exact block_setCell aj.out _,HB.out.setCell Nl _⟩
    · by_cases hC:row<0
      · gi_wp2
        go_goals
        exact⟨KeepsFrom.refl _ _,⟨ah,x,rfl,Y.out,by omega,.inr ⟨rfl,.inl hC,D4.out,Z.out⟩⟩,ab.out⟩
      · have q0:(row<0)=False:=eq_false (by omega)
        by_cases aD:(nth L x.1:Nat)≤at_
        · have q1:((nth L x.1:Int)≤(at_:Int))=True:=eq_true (by omega)
          gi_wp2
          go_goals
          exact⟨KeepsFrom.refl _ _,⟨ah,x,rfl,Y.out,by omega,.inr ⟨rfl,.inr aD,D4.out,Z.out⟩⟩,ab.out⟩
        · have q1:((nth L x.1:Int)≤(at_:Int))=False:=eq_false (by omega)
          have z0:0≤row:=by omega
          have z1:row≤(x.1:Nat):=by omega
          have z2:at_<nth L x.1:=by omega
          by_cases hR:1≤row
          · have z3:row.toNat≠0:=by omega
            have q2:(1≤row)=True:=eq_true hR;by_cases hN:nth L x.1=1
            · have q3:((nth L x.1:Int)==1)=true:=by rw[beq_iff_eq];omega
              have HN:=hid hN;clear hN;gi_wp2
              apply YC
              · intro J
                gi_region
                all_goals exact J
              gi_wp2
              apply YC
              · intro J
                gi_region
                all_goals exact J
              gi_wp2
              go_goals
              exact RetP.drew (RetP.drew (Zs Y.out z0 z1 z2 ab.out D4.out Z.out (by unfold Zu;rw[Int.toNat_of_nonneg z0,if_pos ⟨Nat.pos_of_ne_zero z3,HN.out⟩])))
            · have q3:((nth L x.1:Int)==1)=false:=by rw[beq_eq_false_iff_ne];omega
              by_cases X:(at_:Int)=(nth L x.1:Int) - 1
              · have q4:((at_:Int)==(nth L x.1:Int) - 1)=true:=by rw[beq_iff_eq];exact X
                have HZ:=hid X;clear X;gi_wp2
                apply YC
                · intro J
                  gi_region
                  all_goals exact J
                gi_wp2
                apply YC
                · intro J
                  gi_region
                  all_goals exact J
                gi_wp2
                go_goals
                exact RetP.drew (RetP.drew (Zs Y.out z0 z1 z2 ab.out D4.out Z.out (by unfold Zu;rw[Int.toNat_of_nonneg z0,if_neg (fun h=>hN h.2),if_pos HZ.out,if_neg z3,if_neg z3])))
              · have q4:((at_:Int)==(nth L x.1:Int) - 1)=false:=by rw[beq_eq_false_iff_ne];exact X
                have HZ:=hid X;clear X;gi_wp2
                apply YC
                · intro J
                  gi_region
                  all_goals exact J
                gi_wp2
                apply YC
                · intro J
                  gi_region
                  all_goals exact J
                gi_wp2
                apply YC
                · intro J
                  refine jW (F:=Fence.wide) (by kernel_rfl) (by kernel_rfl) ?_;refine wpAnyIn_take (i:=1) (v:=?_) rfl rfl (by kernel_rfl) (by kernel_rfl) (by kernel_rfl) (fun _ _ _ h=>h) ⟨Or.inl ⟨by rfl,?_⟩,fun _=>rfl⟩ ?_;rotate_left
                  · (intro w;go_simp;try with_reducible rfl)
                  refine wpAnyIn_take (i:=5) (v:=?_) rfl rfl (by kernel_rfl) (by kernel_rfl) (by kernel_rfl) (fun _ _ _ h=>h) ⟨Or.inl ⟨by rfl,?_⟩,fun _=>rfl⟩ ?_;rotate_left
                  · (intro w;go_simp;try with_reducible rfl)
                  refine wpAnyIn_ready (rs:=[0,3]) (by kernel_rfl) (by simp) ?_;refine AllReadyIn.cons rfl (fun K q=>?_) ?_
                  · go_simp
                    refine q _ _ ?_;clear q K;refine wpAnyIn_take (i:=2) (v:=?_) rfl rfl (by kernel_rfl) (by kernel_rfl) (by kernel_rfl) (fun _ _ _ h=>h) ⟨Or.inl ⟨by rfl,?_⟩,fun _=>rfl⟩ ?_;rotate_left
                    · (intro w;go_simp;try with_reducible rfl)
                    refine wpAnyIn_take (i:=7) (v:=?_) rfl rfl (by kernel_rfl) (by kernel_rfl) (by kernel_rfl) (fun _ _ _ h=>h) ⟨Or.inl ⟨by rfl,?_⟩,fun _=>rfl⟩ ?_;rotate_left
                    · (intro w;go_simp;try with_reducible rfl)
                    refine wpAnyIn_ready (rs:=[3,8]) (by kernel_rfl) (by simp) ?_;refine AllReadyIn.cons rfl (fun K q=>?_) ?_
                    · go_simp
                      refine q _ _ ?_;clear q K;refine wpAnyIn_take (i:=4) (v:=?_) rfl rfl (by kernel_rfl) (by kernel_rfl) (by kernel_rfl) (fun _ _ _ h=>h) ⟨Or.inl ⟨by rfl,?_⟩,fun _=>rfl⟩ ?_;rotate_left
                      · (intro w;go_simp;try with_reducible rfl)
                      refine wpAnyIn_take (i:=6) (v:=?_) rfl rfl (by kernel_rfl) (by kernel_rfl) (by kernel_rfl) (fun _ _ _ h=>h) ⟨Or.inl ⟨by rfl,?_⟩,fun _=>rfl⟩ ?_;rotate_left
                      · (intro w;go_simp;try with_reducible rfl)
                      refine wpAnyIn_ready (rs:=[8]) (by kernel_rfl) (by simp) ?_;refine AllReadyIn.cons rfl (fun K q=>?_) ?_
                      · go_simp
                        refine q _ _ ?_;clear q K;refine wpAnyIn_take (i:=9) (v:=?_) rfl rfl (by kernel_rfl) (by kernel_rfl) (by kernel_rfl) (fun _ _ _ h=>h) ⟨Or.inl ⟨by rfl,?_⟩,fun _=>rfl⟩ ?_;rotate_left
                        · (intro w;go_simp;try with_reducible rfl)
                        refine wpAnyIn_ready (rs:=[10]) (by kernel_rfl) (by simp) ?_;refine AllReadyIn.cons rfl (fun K q=>?_) ?_
                        · go_simp
                          refine q _ _ ?_;clear q K;refine wpAnyIn_done (by kernel_rfl) ?_ _;exact J
                        exact AllReadyIn.nil
                      exact AllReadyIn.nil
                    refine AllReadyIn.cons rfl (fun K q=>?_) ?_
                    · go_simp
                      refine q _ _ ?_;clear q K;refine wpAnyIn_ready (rs:=[3]) (by kernel_rfl) (by simp) ?_;refine AllReadyIn.cons rfl (fun K q=>?_) ?_
                      · go_simp
                        refine q _ _ ?_;clear q K;refine wpAnyIn_take (i:=4) (v:=?_) rfl rfl (by kernel_rfl) (by kernel_rfl) (by kernel_rfl) (fun _ _ _ h=>h) ⟨Or.inl ⟨by rfl,?_⟩,fun _=>rfl⟩ ?_;rotate_left
                        · (intro w;go_simp;try with_reducible rfl)
                        refine wpAnyIn_take (i:=6) (v:=?_) rfl rfl (by kernel_rfl) (by kernel_rfl) (by kernel_rfl) (fun _ _ _ h=>h) ⟨Or.inl ⟨by rfl,?_⟩,fun _=>rfl⟩ ?_;rotate_left
                        · (intro w;go_simp;try with_reducible rfl)
                        refine wpAnyIn_take (i:=9) (v:=?_) rfl rfl (by kernel_rfl) (by kernel_rfl) (by kernel_rfl) (fun _ _ _ h=>h) ⟨Or.inl ⟨by rfl,?_⟩,fun _=>rfl⟩ ?_;rotate_left
                        · (intro w;go_simp;try with_reducible rfl)
                        refine wpAnyIn_ready (rs:=[10]) (by kernel_rfl) (by simp) ?_;refine AllReadyIn.cons rfl (fun K q=>?_) ?_
                        · go_simp
                          refine q _ _ ?_;clear q K;refine wpAnyIn_done (by kernel_rfl) ?_ _;exact J
                        exact AllReadyIn.nil
                      exact AllReadyIn.nil
                    exact AllReadyIn.nil
                  refine AllReadyIn.cons rfl (fun K q=>?_) ?_
                  · go_simp
                    refine q _ _ ?_;clear q K;refine wpAnyIn_take (i:=4) (v:=?_) rfl rfl (by kernel_rfl) (by kernel_rfl) (by kernel_rfl) (fun _ _ _ h=>h) ⟨Or.inl ⟨by rfl,?_⟩,fun _=>rfl⟩ ?_;rotate_left
                    · (intro w;go_simp;try with_reducible rfl)
                    refine wpAnyIn_take (i:=6) (v:=?_) rfl rfl (by kernel_rfl) (by kernel_rfl) (by kernel_rfl) (fun _ _ _ h=>h) ⟨Or.inl ⟨by rfl,?_⟩,fun _=>rfl⟩ ?_;rotate_left
                    · (intro w;go_simp;try with_reducible rfl)
                    refine wpAnyIn_ready (rs:=[0]) (by kernel_rfl) (by simp) ?_;refine AllReadyIn.cons rfl (fun K q=>?_) ?_
                    · go_simp
                      refine q _ _ ?_;clear q K;refine wpAnyIn_take (i:=2) (v:=?_) rfl rfl (by kernel_rfl) (by kernel_rfl) (by kernel_rfl) (fun _ _ _ h=>h) ⟨Or.inl ⟨by rfl,?_⟩,fun _=>rfl⟩ ?_;rotate_left
                      · (intro w;go_simp;try with_reducible rfl)
                      refine wpAnyIn_take (i:=7) (v:=?_) rfl rfl (by kernel_rfl) (by kernel_rfl) (by kernel_rfl) (fun _ _ _ h=>h) ⟨Or.inl ⟨by rfl,?_⟩,fun _=>rfl⟩ ?_;rotate_left
                      · (intro w;go_simp;try with_reducible rfl)
                      refine wpAnyIn_ready (rs:=[8]) (by kernel_rfl) (by simp) ?_;refine AllReadyIn.cons rfl (fun K q=>?_) ?_
                      · go_simp
                        refine q _ _ ?_;clear q K;refine wpAnyIn_take (i:=9) (v:=?_) rfl rfl (by kernel_rfl) (by kernel_rfl) (by kernel_rfl) (fun _ _ _ h=>h) ⟨Or.inl ⟨by rfl,?_⟩,fun _=>rfl⟩ ?_;rotate_left
                        · (intro w;go_simp;try with_reducible rfl)
                        refine wpAnyIn_ready (rs:=[10]) (by kernel_rfl) (by simp) ?_;refine AllReadyIn.cons rfl (fun K q=>?_) ?_
                        · go_simp
                          refine q _ _ ?_;clear q K;refine wpAnyIn_done (by kernel_rfl) ?_ _;exact J
                        exact AllReadyIn.nil
                      exact AllReadyIn.nil
                    exact AllReadyIn.nil
                  exact AllReadyIn.nil
                gi_wp2
                go_goals
                exact RetP.drew (RetP.drew (RetP.drew (Zs Y.out z0 z1 z2 ab.out D4.out Z.out (by unfold Zu;rw[Int.toNat_of_nonneg z0,if_neg (fun h=>hN h.2),if_neg HZ.out,if_neg z3]))))
          · have z4:row.toNat=0:=by omega
            have q2:(1≤row)=False:=eq_false hR;by_cases X:(at_:Int)=(nth L x.1:Int) - 1
            · have q4:((at_:Int)==(nth L x.1:Int) - 1)=true:=by rw[beq_iff_eq];exact X
              have HZ:=hid X;clear X;gi_wp2
              apply YC
              · intro J
                gi_region
                all_goals exact J
              gi_wp2
              go_goals
              exact RetP.drew (Zs Y.out z0 z1 z2 ab.out D4.out Z.out (by unfold Zu;rw[Int.toNat_of_nonneg z0,if_neg (fun h=>Nat.not_succ_le_zero _ (z4▸h.1)),if_pos HZ.out,if_pos z4,if_pos z4]))
            · have q4:((at_:Int)==(nth L x.1:Int) - 1)=false:=by rw[beq_eq_false_iff_ne];exact X
              have HZ:=hid X;clear X;gi_wp2
              apply YC
              · intro J
                gi_region
                all_goals exact J
              gi_wp2
              apply YC
              · intro J
                refine jW (F:=Fence.wide) (by kernel_rfl) (by kernel_rfl) ?_;refine wpAnyIn_take (i:=1) (v:=?_) rfl rfl (by kernel_rfl) (by kernel_rfl) (by kernel_rfl) (fun _ _ _ h=>h) ⟨Or.inl ⟨by rfl,?_⟩,fun _=>rfl⟩ ?_;rotate_left
                · (intro w;go_simp;try with_reducible rfl)
                refine wpAnyIn_take (i:=5) (v:=?_) rfl rfl (by kernel_rfl) (by kernel_rfl) (by kernel_rfl) (fun _ _ _ h=>h) ⟨Or.inl ⟨by rfl,?_⟩,fun _=>rfl⟩ ?_;rotate_left
                · (intro w;go_simp;try with_reducible rfl)
                refine wpAnyIn_ready (rs:=[0,3]) (by kernel_rfl) (by simp) ?_;refine AllReadyIn.cons rfl (fun K q=>?_) ?_
                · go_simp
                  refine q _ _ ?_;clear q K;refine wpAnyIn_take (i:=2) (v:=?_) rfl rfl (by kernel_rfl) (by kernel_rfl) (by kernel_rfl) (fun _ _ _ h=>h) ⟨Or.inl ⟨by rfl,?_⟩,fun _=>rfl⟩ ?_;rotate_left
                  · (intro w;go_simp;try with_reducible rfl)
                  refine wpAnyIn_take (i:=7) (v:=?_) rfl rfl (by kernel_rfl) (by kernel_rfl) (by kernel_rfl) (fun _ _ _ h=>h) ⟨Or.inl ⟨by rfl,?_⟩,fun _=>rfl⟩ ?_;rotate_left
                  · (intro w;go_simp;try with_reducible rfl)
                  refine wpAnyIn_ready (rs:=[3,8]) (by kernel_rfl) (by simp) ?_;refine AllReadyIn.cons rfl (fun K q=>?_) ?_
                  · go_simp
                    refine q _ _ ?_;clear q K;refine wpAnyIn_take (i:=4) (v:=?_) rfl rfl (by kernel_rfl) (by kernel_rfl) (by kernel_rfl) (fun _ _ _ h=>h) ⟨Or.inl ⟨by rfl,?_⟩,fun _=>rfl⟩ ?_;rotate_left
                    · (intro w;go_simp;try with_reducible rfl)
                    refine wpAnyIn_take (i:=6) (v:=?_) rfl rfl (by kernel_rfl) (by kernel_rfl) (by kernel_rfl) (fun _ _ _ h=>h) ⟨Or.inl ⟨by rfl,?_⟩,fun _=>rfl⟩ ?_;rotate_left
                    · (intro w;go_simp;try with_reducible rfl)
                    refine wpAnyIn_ready (rs:=[8]) (by kernel_rfl) (by simp) ?_;refine AllReadyIn.cons rfl (fun K q=>?_) ?_
                    · go_simp
                      refine q _ _ ?_;clear q K;refine wpAnyIn_take (i:=9) (v:=?_) rfl rfl (by kernel_rfl) (by kernel_rfl) (by kernel_rfl) (fun _ _ _ h=>h) ⟨Or.inl ⟨by rfl,?_⟩,fun _=>rfl⟩ ?_;rotate_left
                      · (intro w;go_simp;try with_reducible rfl)
                      refine wpAnyIn_ready (rs:=[10]) (by kernel_rfl) (by simp) ?_;refine AllReadyIn.cons rfl (fun K q=>?_) ?_
                      · go_simp
                        refine q _ _ ?_;clear q K;refine wpAnyIn_done (by kernel_rfl) ?_ _;exact J
                      exact AllReadyIn.nil
                    exact AllReadyIn.nil
                  refine AllReadyIn.cons rfl (fun K q=>?_) ?_
                  · go_simp
                    refine q _ _ ?_;clear q K;refine wpAnyIn_ready (rs:=[3]) (by kernel_rfl) (by simp) ?_;refine AllReadyIn.cons rfl (fun K q=>?_) ?_
                    · go_simp
                      refine q _ _ ?_;clear q K;refine wpAnyIn_take (i:=4) (v:=?_) rfl rfl (by kernel_rfl) (by kernel_rfl) (by kernel_rfl) (fun _ _ _ h=>h) ⟨Or.inl ⟨by rfl,?_⟩,fun _=>rfl⟩ ?_;rotate_left
                      · (intro w;go_simp;try with_reducible rfl)
                      refine wpAnyIn_take (i:=6) (v:=?_) rfl rfl (by kernel_rfl) (by kernel_rfl) (by kernel_rfl) (fun _ _ _ h=>h) ⟨Or.inl ⟨by rfl,?_⟩,fun _=>rfl⟩ ?_;rotate_left
                      · (intro w;go_simp;try with_reducible rfl)
                      refine wpAnyIn_take (i:=9) (v:=?_) rfl rfl (by kernel_rfl) (by kernel_rfl) (by kernel_rfl) (fun _ _ _ h=>h) ⟨Or.inl ⟨by rfl,?_⟩,fun _=>rfl⟩ ?_;rotate_left
                      · (intro w;go_simp;try with_reducible rfl)
                      refine wpAnyIn_ready (rs:=[10]) (by kernel_rfl) (by simp) ?_;refine AllReadyIn.cons rfl (fun K q=>?_) ?_
                      · go_simp
                        refine q _ _ ?_;clear q K;refine wpAnyIn_done (by kernel_rfl) ?_ _;exact J
                      exact AllReadyIn.nil
                    exact AllReadyIn.nil
                  exact AllReadyIn.nil
                refine AllReadyIn.cons rfl (fun K q=>?_) ?_
                · go_simp
                  refine q _ _ ?_;clear q K;refine wpAnyIn_take (i:=4) (v:=?_) rfl rfl (by kernel_rfl) (by kernel_rfl) (by kernel_rfl) (fun _ _ _ h=>h) ⟨Or.inl ⟨by rfl,?_⟩,fun _=>rfl⟩ ?_;rotate_left
                  · (intro w;go_simp;try with_reducible rfl)
                  refine wpAnyIn_take (i:=6) (v:=?_) rfl rfl (by kernel_rfl) (by kernel_rfl) (by kernel_rfl) (fun _ _ _ h=>h) ⟨Or.inl ⟨by rfl,?_⟩,fun _=>rfl⟩ ?_;rotate_left
                  · (intro w;go_simp;try with_reducible rfl)
                  refine wpAnyIn_ready (rs:=[0]) (by kernel_rfl) (by simp) ?_;refine AllReadyIn.cons rfl (fun K q=>?_) ?_
                  · go_simp
                    refine q _ _ ?_;clear q K;refine wpAnyIn_take (i:=2) (v:=?_) rfl rfl (by kernel_rfl) (by kernel_rfl) (by kernel_rfl) (fun _ _ _ h=>h) ⟨Or.inl ⟨by rfl,?_⟩,fun _=>rfl⟩ ?_;rotate_left
                    · (intro w;go_simp;try with_reducible rfl)
                    refine wpAnyIn_take (i:=7) (v:=?_) rfl rfl (by kernel_rfl) (by kernel_rfl) (by kernel_rfl) (fun _ _ _ h=>h) ⟨Or.inl ⟨by rfl,?_⟩,fun _=>rfl⟩ ?_;rotate_left
                    · (intro w;go_simp;try with_reducible rfl)
                    refine wpAnyIn_ready (rs:=[8]) (by kernel_rfl) (by simp) ?_;refine AllReadyIn.cons rfl (fun K q=>?_) ?_
                    · go_simp
                      refine q _ _ ?_;clear q K;refine wpAnyIn_take (i:=9) (v:=?_) rfl rfl (by kernel_rfl) (by kernel_rfl) (by kernel_rfl) (fun _ _ _ h=>h) ⟨Or.inl ⟨by rfl,?_⟩,fun _=>rfl⟩ ?_;rotate_left
                      · (intro w;go_simp;try with_reducible rfl)
                      refine wpAnyIn_ready (rs:=[10]) (by kernel_rfl) (by simp) ?_;refine AllReadyIn.cons rfl (fun K q=>?_) ?_
                      · go_simp
                        refine q _ _ ?_;clear q K;refine wpAnyIn_done (by kernel_rfl) ?_ _;exact J
                      exact AllReadyIn.nil
                    exact AllReadyIn.nil
                  exact AllReadyIn.nil
                exact AllReadyIn.nil
              gi_wp2
              go_goals
              exact RetP.drew (RetP.drew (Zs Y.out z0 z1 z2 ab.out D4.out Z.out (by unfold Zu;rw[Int.toNat_of_nonneg z0,if_neg (fun h=>Nat.not_succ_le_zero _ (z4▸h.1)),if_neg HZ.out,if_pos z4])))
  case done=>
    rintro D ys W hD ag ⟨U,aa,S⟩ q
    have an: ¬t.there total row at_:=by subst hL;exact qfL ag U
    have ao:=S.size;have ac:=ac.trans (S.mono (by omega));have G:=(S.block _ k4).trans b4;have V:=(S.block _ k5).trans b5;have af:I.heap.size≤D:=by simp at hD;omega
    have f0:=unfrozen_of_block G 0;have f1:=unfrozen_of_block G 1;have f2:=unfrozen_of_block G 2;have f3:=unfrozen_of_block G 3;have f4:=unfrozen_of_block G 4;have f5:=unfrozen_of_block G 5;have f6:=unfrozen_of_block V 0;have c0:=qa G 0;have c1:=qa G 1;have c2:=qa G 2;have c3:=qa G 3;have c4:=qa G 4;have c5:=qa G 5;have c6:=qa V 0;simp only[List.getElem?_toArray,List.getElem?_cons_zero,List.getElem?_cons_succ]at c0 c1 c2 c3 c4 c5 c6;have m4:w.heap.size+1+1+1+1<W.heap.size:=by omega
    have m5:w.heap.size+1+1+1+1+1<W.heap.size:=by omega
    have HB:=hid S;have HK:=hid q;have D4:=hid G;have Z:=hid V;have HY:=hid ag;have HT:=hid U;clear S aa G V q ag U;gi_wp2
    have e4:=(Below.heap_setCell ((((((W.setCell ⟨w.heap.size+1+1+1+1,0,none⟩ (.int .i64 0)).setCell ⟨w.heap.size+1+1+1+1,1,none⟩ (.int .u64 0)).setCell ⟨w.heap.size+1+1+1+1,2,none⟩ (.int .u64 0)).setCell ⟨w.heap.size+1+1+1+1,3,none⟩ (.int .u64 0)).setCell ⟨w.heap.size+1+1+1+1,4,none⟩ (.bool false)).setCell ⟨w.heap.size+1+1+1+1,5,none⟩ (.bool false)) ⟨w.heap.size+1+1+1+1+1,0,none⟩ (.int .i64 6) (w.heap.size+1+1+1+1) (by simp)).trans (yp D4.out (.int .i64 0) (.int .u64 0) (.int .u64 0) (.int .u64 0) (.bool false) (.bool false));have e5:=block_setCell (i:=0) ((Yx (c:=w.heap.size+1+1+1+1+1) (b:=w.heap.size+1+1+1+1) (by omega) (.int .i64 0) (.int .u64 0) (.int .u64 0) (.int .u64 0) (.bool false) (.bool false)).trans Z.out) (.int .i64 6);have eK:=(Below.heap_setCell ((((((W.setCell ⟨w.heap.size+1+1+1+1,0,none⟩ (.int .i64 0)).setCell ⟨w.heap.size+1+1+1+1,1,none⟩ (.int .u64 0)).setCell ⟨w.heap.size+1+1+1+1,2,none⟩ (.int .u64 0)).setCell ⟨w.heap.size+1+1+1+1,3,none⟩ (.int .u64 0)).setCell ⟨w.heap.size+1+1+1+1,4,none⟩ (.bool false)).setCell ⟨w.heap.size+1+1+1+1,5,none⟩ (.bool false)) ⟨w.heap.size+1+1+1+1+1,0,none⟩ (.int .i64 6) D (by show D≠w.heap.size+1+1+1+1+1;omega)).trans ((Yx (c:=D) (b:=w.heap.size+1+1+1+1) (by omega) (.int .i64 0) (.int .u64 0) (.int .u64 0) (.int .u64 0) (.bool false) (.bool false)).trans HK.out);have eB:=(yq ac (b:=w.heap.size+1+1+1+1) (by omega) (.int .i64 0) (.int .u64 0) (.int .u64 0) (.int .u64 0) (.bool false) (.bool false)).setCell (p:=⟨w.heap.size+1+1+1+1+1,0,none⟩) (by show w.heap.size≤w.heap.size+1+1+1+1+1;omega) (.int .i64 6);have O:=belowK_b (w:=I) Nl _ D _ (.deferred none) af eK rfl rfl;refine⟨by simp,.inl ⟨_,_,rfl,run_takeDeferred eK,?_⟩⟩;refine⟨_,YR rfl rfl rfl (b:=w.heap.size+1+1+1+1) (c:=w.heap.size+1+1+1+1+1) ((O.block _ k4).trans e4) ((O.block _ k5).trans e5) rfl,?_,eB.trans (O.mono (by omega))⟩;rfl
  case stop=>
    rintro D c ah W hD ad ⟨⟨aw,k,rfl,U,J,ai⟩,S⟩ q
    have af:I.heap.size≤D:=by simp at hD;omega
    rcases ai with⟨rfl,r0,r1,e4,e5⟩|⟨rfl,r0,G,V⟩
    · have hh:t.there total row at_∧Zu t.fn t.ln total row.toNat at_ (nth L k.1) (Zf _ aw)=(t.spot total row.toNat at_).val.cells:=by subst hL;exact qej ht ak H.out ad.1 U J r0 r1
      rw[hh.2]at e4;have E4:=hid e4;have E5:=hid e5;have HK:=hid q;have aI:=hh.1;clear e4 e5 q hh U ad;gi_wp2
      have O:=belowK_b (w:=I) Nl W D _ (.deferred none) af HK.out rfl rfl;refine⟨by simp,.inl ⟨_,_,rfl,run_takeDeferred HK.out,?_⟩⟩;refine⟨_,YR rfl rfl rfl (b:=w.heap.size+1+1+1+1) (c:=w.heap.size+1+1+1+1+1) ((O.block _ k4).trans E4.out) ((O.block _ k5).trans E5.out) rfl,?_,S.trans (O.mono (by omega))⟩;rfl
    · have an: ¬t.there total row at_:=by subst hL;exact qbq ad.1 U J r0
      have ao:=(Ai q).1;have ac:=S;replace G:W.heap[w.heap.size+1+1+1+1]? =some (Obj.cells #[.int .i64 0,.int .u64 0,.int .u64 0,.int .u64 0,.bool false,.bool false] 96 (0,0)):=G
      clear S U ad;have f0:=unfrozen_of_block G 0;have f1:=unfrozen_of_block G 1;have f2:=unfrozen_of_block G 2;have f3:=unfrozen_of_block G 3;have f4:=unfrozen_of_block G 4;have f5:=unfrozen_of_block G 5;have f6:=unfrozen_of_block V 0;have c0:=qa G 0;have c1:=qa G 1;have c2:=qa G 2;have c3:=qa G 3;have c4:=qa G 4;have c5:=qa G 5;have c6:=qa V 0;simp only[List.getElem?_toArray,List.getElem?_cons_zero,List.getElem?_cons_succ]at c0 c1 c2 c3 c4 c5 c6;have m4:w.heap.size+1+1+1+1<W.heap.size:=by omega
      have m5:w.heap.size+1+1+1+1+1<W.heap.size:=by omega
      have HK:=hid q;have D4:=hid G;have Z:=hid V;clear G V q;gi_wp2
      have e4:=(Below.heap_setCell ((((((W.setCell ⟨w.heap.size+1+1+1+1,0,none⟩ (.int .i64 0)).setCell ⟨w.heap.size+1+1+1+1,1,none⟩ (.int .u64 0)).setCell ⟨w.heap.size+1+1+1+1,2,none⟩ (.int .u64 0)).setCell ⟨w.heap.size+1+1+1+1,3,none⟩ (.int .u64 0)).setCell ⟨w.heap.size+1+1+1+1,4,none⟩ (.bool false)).setCell ⟨w.heap.size+1+1+1+1,5,none⟩ (.bool false)) ⟨w.heap.size+1+1+1+1+1,0,none⟩ (.int .i64 6) (w.heap.size+1+1+1+1) (by simp)).trans (yp D4.out (.int .i64 0) (.int .u64 0) (.int .u64 0) (.int .u64 0) (.bool false) (.bool false));have e5:=block_setCell (i:=0) ((Yx (c:=w.heap.size+1+1+1+1+1) (b:=w.heap.size+1+1+1+1) (by omega) (.int .i64 0) (.int .u64 0) (.int .u64 0) (.int .u64 0) (.bool false) (.bool false)).trans Z.out) (.int .i64 6);have eK:=(Below.heap_setCell ((((((W.setCell ⟨w.heap.size+1+1+1+1,0,none⟩ (.int .i64 0)).setCell ⟨w.heap.size+1+1+1+1,1,none⟩ (.int .u64 0)).setCell ⟨w.heap.size+1+1+1+1,2,none⟩ (.int .u64 0)).setCell ⟨w.heap.size+1+1+1+1,3,none⟩ (.int .u64 0)).setCell ⟨w.heap.size+1+1+1+1,4,none⟩ (.bool false)).setCell ⟨w.heap.size+1+1+1+1,5,none⟩ (.bool false)) ⟨w.heap.size+1+1+1+1+1,0,none⟩ (.int .i64 6) D (by show D≠w.heap.size+1+1+1+1+1;omega)).trans ((Yx (c:=D) (b:=w.heap.size+1+1+1+1) (by omega) (.int .i64 0) (.int .u64 0) (.int .u64 0) (.int .u64 0) (.bool false) (.bool false)).trans HK.out);have eB:=(yq ac (b:=w.heap.size+1+1+1+1) (by omega) (.int .i64 0) (.int .u64 0) (.int .u64 0) (.int .u64 0) (.bool false) (.bool false)).setCell (p:=⟨w.heap.size+1+1+1+1+1,0,none⟩) (by show w.heap.size≤w.heap.size+1+1+1+1+1;omega) (.int .i64 6);have O:=belowK_b (w:=I) Nl _ D _ (.deferred none) af eK rfl rfl;refine⟨by simp,.inl ⟨_,_,rfl,run_takeDeferred eK,?_⟩⟩;refine⟨_,YR rfl rfl rfl (b:=w.heap.size+1+1+1+1) (c:=w.heap.size+1+1+1+1+1) ((O.block _ k4).trans e4) ((O.block _ k5).trans e5) rfl,?_,eB.trans (O.mono (by omega))⟩;rfl
theorem yN {P:Program}{fn:Func}{tmps:Array Value}{W:World}{b:Nat}{X J I S O U e:Value}{T:TypeId}{fr:Nat×Nat}
    (hr:fn.results= #[.cell 8 96,.tmp 9]) (Y:tmps[8]?.getD undef= .pointer (some ⟨b,0,none⟩)) (h9:tmps[9]?.getD undef=e)
    (o:W.heap[b]? =some (Obj.cells #[X,J,I,S,O,U] T fr)) (Z:P=Tryz.prog):
    (results fn tmps).run P W= .ok (.tuple #[.agg #[X,J,I,S,O,U],e]) W:=by
  subst Z;have V:=qa o 0;have c1:=qa o 1;have c2:=qa o 2;have D:=qa o 3;have G:=qa o 4;have q:=qa o 5;simp only[List.getElem?_toArray,List.getElem?_cons_zero,List.getElem?_cons_succ]at V c1 c2 D G q;simp[results,hr,Y,h9,go_sem,V,c1,c2,D,G,q]
def TreeV.spotR (t:TreeV)(total:Nat)(row:Int)(at_:Nat):SpotV:=if t.err total=0∧t.there total row at_ then t.spot total row.toNat at_ else SpotV.zero
def TreeV.spotE (t:TreeV)(total:Nat)(row:Int)(at_:Nat):Int:=if t.err total≠0 then t.err total else if t.there total row at_ then 0 else 6
theorem qdh (t:TreeV)(I:0≤t.l∧t.l≤4294967295)(total:Nat)(J:(total:Int)≤18446744073709551615)(h:t.err total≠0)(row:Int)(at_:Nat)(w:World):
    Calls Tryz.prog 52 #[t.val,.int .u64 total,.int .i64 row,.int .u64 at_] w fun e w'=>e= .returned (.tuple #[SpotV.zero.val,.int .i64 (t.err total)])∧Below w.heap.size w w':=by
  have X:(t.err total != 0)=true:=by rw[bne_iff_ne];exact h
  have H:=hid h;clear h;unfold TreeV.val;go_enter Tryz.func52,Tryz.ntmps52
  go_wp2_with fail
  refine(qdj t I total J H.out _).mono ?_;rintro e q ⟨rfl,o⟩;obtain⟨V,O⟩:=Y6 o;have D:=o.size;simp at D
  have S:w.heap.size<q.heap.size:=by omega
  have U:w.heap.size+1<q.heap.size:=by omega
  have b1:q.heap[w.heap.size+1]? =some (Obj.cells #[.int .i64 0,.int .u64 0,.int .u64 0,.int .u64 0,.bool false,.bool false] 96 (0,0)):=by
    rw[o.block _ (by simp)];exact qk _ _ (by simp)
  have G:=hid b1;clear b1;go_wp2
  refine Bp (yN rfl rfl rfl (b:=w.heap.size+1) (T:=96) (fr:=(0,0)) (yp G.out _ _ _ _ _ _) rfl) rfl ⟨rfl,yq (qB _ (Below.trans (Br.alloc Nl _) (o.mono (by simp)))) (by omega) _ _ _ _ _ _⟩
theorem qdg {L:List Nat}(t:TreeV)(total:Nat)(S:1≤L.length)
    (X:Hid (∀w,Calls Tryz.prog 87 #[t.val,.int .u64 total] w fun e w'=> ∃v,e= .returned (.tuple #[v,.int .i64 0])∧w'.ownsRow w.heap.size 44 1 v L.length (L.map zM)∧Below w.heap.size w w'))
    (U:Hid (∀k,k<L.length→(nth L k:Int)≤18446744073709551615)) (row:Int) (at_:Nat) (Y:Hid (¬(0≤row∧row.toNat<L.length∧at_<nth L row.toNat))) (w:World):
    Calls Tryz.prog 52 #[t.val,.int .u64 total,.int .i64 row,.int .u64 at_] w fun e w'=>e= .returned (.tuple #[SpotV.zero.val,.int .i64 6])∧Below w.heap.size w w':=by
  unfold TreeV.val;go_enter Tryz.func52,Tryz.ntmps52
  go_wp2_with fail
  refine(X.out _).mono ?_;rintro e I ⟨v,rfl,D,o⟩;obtain⟨g,ab,rfl, -,aa,ac,q⟩:=zE D S;clear D;have O:=hid q;clear q;obtain⟨hc,hf⟩:=Y6 o;have V:=o.size;simp at V
  have k0:w.heap.size<I.heap.size:=by omega
  have k1:w.heap.size+1<I.heap.size:=by omega
  have b1:I.heap[w.heap.size+1]? =some (Obj.cells #[.int .i64 0,.int .u64 0,.int .u64 0,.int .u64 0,.bool false,.bool false] 96 (0,0)):=by
    rw[o.block _ (by simp)];exact qk _ _ (by simp)
  have J:=hid b1;have G:Below w.heap.size w I:=qB _ (Below.trans (Br.alloc Nl _) (o.mono (by simp)));clear b1 o;by_cases hA:row<0
  · go_wp2
    refine Bp (yN rfl rfl rfl (b:=w.heap.size+1) (T:=96) (fr:=(0,0)) (yp J.out _ _ _ _ _ _) rfl) rfl ⟨rfl,yq G (by omega) _ _ _ _ _ _⟩
  · by_cases Z:(L.length:Int)≤row
    · go_wp2
      refine Bp (yN rfl rfl rfl (b:=w.heap.size+1) (T:=96) (fr:=(0,0)) (yp J.out _ _ _ _ _ _) rfl) rfl ⟨rfl,yq G (by omega) _ _ _ _ _ _⟩
    · obtain⟨k,rfl⟩: ∃k:Nat,row=k:=⟨row.toNat,by omega⟩
      have hx:=O.out k (by omega);have ad:=U.out k (by omega);have q1:((nth L k:Int)≤(at_:Int)):=by
        have:=Y.out
        rw[Int.toNat_natCast]at this;omega
      go_wp2
      refine Bp (yN rfl rfl rfl (b:=w.heap.size+1) (T:=96) (fr:=(0,0)) (yp J.out _ _ _ _ _ _) rfl) rfl ⟨rfl,yq G (by omega) _ _ _ _ _ _⟩
def qdm (f l:Int)(total k at_ n b:Nat)(root:Bool):Array Value:=
  if root=true then #[.int .i64 k,.int .u64 at_,.int .u64 0,.int .u64 b,.bool ((at_:Int)==(n:Int) - 1),.bool true]
  else if(at_:Int)=(n:Int) - 1 then #[.int .i64 k,.int .u64 at_,.int .u64 (IntKind.u64.wrap (at_*(if k=0 then l else f))),.int .u64 (if k=0 then total else b:Nat),.bool true,.bool false]
  else #[.int .i64 k,.int .u64 at_,.int .u64 (IntKind.u64.wrap (at_*(if k=0 then l else f))),.int .u64 (IntKind.u64.wrap (IntKind.u64.wrap (at_*(if k=0 then l else f))+(if k=0 then l else f))),.bool false,.bool false]
def Jo (t:TreeV)(L:List Nat)(total k at_:Nat)(A:Array Value):Prop:=A=qdm t.f t.l total k at_ (nth L k) (nth L (k - 1)) (decide (k=L.length - 1))
theorem ZB {t:TreeV}{L:List Nat}{total k at_:Nat}{fn:Func}{tmps:Array Value}{w q:World}{a0 a1 a2 a3 a4 V S G D J I O:Value}{o:Obj}
    (Y:fn.results= #[.cell 8 96,.tmp 9]) (X:tmps[8]?.getD undef= .pointer (some ⟨w.heap.size+1,0,none⟩)) (h9:tmps[9]?.getD undef= .int .i64 0)
    (U:q.heap[w.heap.size+1]? =some (Obj.cells #[a0,a1,a2,a3,a4,V] 96 (0,0))) (hB:Below w.heap.size w q) (k1:w.heap.size+1<q.heap.size)
    (Z:Jo t L total k at_ #[S,G,D,J,I,O]):
    bodyPost Tryz.prog fn (fun e w'=>(∃A,e=Ending.returned (.tuple #[.agg A,.int .i64 0])∧Jo t L total k at_ A)∧Below w.heap.size w w') Exit.ret ⟨tmps,[]⟩
      (((((((q.setCell ⟨w.heap.size+1,0,none⟩ S).setCell ⟨w.heap.size+1,1,none⟩ G).setCell ⟨w.heap.size+1,2,none⟩ D).setCell ⟨w.heap.size+1,3,none⟩ J).setCell ⟨w.heap.size+1,4,none⟩ I).setCell ⟨w.heap.size+1,5,none⟩ O).alloc o):=by
  refine Bp (yN Y X h9 (b:=w.heap.size+1) (T:=96) (fr:=(0,0)) ?_ rfl) rfl ⟨⟨_,rfl,Z⟩,(yq hB (by omega) _ _ _ _ _ _).alloc (by simp;omega) _⟩;rw[Bh _ _ _ (by simp;omega)];exact yp U _ _ _ _ _ _
theorem qco {L:List Nat}(t:TreeV)(total:Nat)(G:1≤L.length)(ak:2≤L.length)
    (HR:Hid (∀w,Calls Tryz.prog 87 #[t.val,.int .u64 total] w fun e w'=> ∃v,e= .returned (.tuple #[v,.int .i64 0])∧w'.ownsRow w.heap.size 44 1 v L.length (L.map zM)∧Below w.heap.size w w'))
    (J:Hid (∀k,k<L.length→(nth L k:Int)≤18446744073709551615)) (aj:0≤t.f) (ad:t.f≤18446744073709551615) (ai:0≤t.l) (am:t.l≤4294967295) (ae:(L.length:Int)≤9223372036854775807)
    (k:Nat) (at_:Nat) (z1:k<L.length) (z2:at_<nth L k) (w:World):
    Calls Tryz.prog 52 #[t.val,.int .u64 total,.int .i64 k,.int .u64 at_] w fun e w'=>(∃A,e= .returned (.tuple #[.agg A,.int .i64 0])∧Jo t L total k at_ A)∧Below w.heap.size w w':=by
  unfold TreeV.val;go_enter Tryz.func52,Tryz.ntmps52
  go_wp2_with fail
  refine(HR.out _).mono ?_;rintro e w1 ⟨v,rfl,U,D⟩;obtain⟨g,ag,rfl, -,af,ah,O⟩:=zE U G;clear U;have I:=hid O;clear O;obtain⟨hc,hf⟩:=Y6 D;have ac:=D.size;simp at ac
  have k0:w.heap.size<w1.heap.size:=by omega
  have Y:w.heap.size+1<w1.heap.size:=by omega
  have b1:w1.heap[w.heap.size+1]? =some (Obj.cells #[.int .i64 0,.int .u64 0,.int .u64 0,.int .u64 0,.bool false,.bool false] 96 (0,0)):=by
    rw[D.block _ (by simp)];exact qk _ _ (by simp)
  have X:=hid b1;have q:Below w.heap.size w w1:=qB _ (Below.trans (Br.alloc Nl _) (D.mono (by simp)));clear b1 D;have hx:=I.out k z1;have al:=J.out k z1;have q0:((L.length:Int)≤(k:Int))=False:=eq_false (by omega);have q1:((nth L k:Int)≤(at_:Int))=False:=eq_false (by omega);by_cases Z:k=L.length - 1
  · have q2:((k:Int)==(L.length:Int) - 1)=true:=by rw[beq_iff_eq];omega
    obtain⟨j,rfl⟩: ∃j,k=j+1:=⟨k - 1,by omega⟩;have hy:=I.out j (by omega);have aa:=J.out j (by omega);have o:=hid Z;clear Z;go_wp2
    refine ZB (t:=t) (L:=L) (total:=total) (k:=j+1) (at_:=at_) (fn:=Tryz.f52) ?_ ?_ ?_ X.out q Y ?_
    · rfl
    · rfl
    · rfl
    unfold Jo qdm;rw[if_pos (decide_eq_true o.out)];rfl
  · have q2:((k:Int)==(L.length:Int) - 1)=false:=by rw[beq_eq_false_iff_ne];omega
    have o:=hid Z;clear Z;by_cases S:(at_:Int)=(nth L k:Int) - 1
    · have q4:((at_:Int)==(nth L k:Int) - 1)=true:=by rw[beq_iff_eq];exact S
      have V:=hid S;clear S
      cases k with
      | zero=>
        have ab:(L=[])=False:=eq_false (by intro h;rw[h]at G;simp at G);go_wp2
        refine ZB (t:=t) (L:=L) (total:=total) (k:=0) (at_:=at_) (fn:=Tryz.f52) ?_ ?_ ?_ X.out q Y ?_
        · rfl
        · rfl
        · rfl
        unfold Jo qdm;rw[if_neg (by simp;exact o.out),if_pos V.out];simp
      | succ j=>
        have hy:=I.out j (by omega);have aa:=J.out j (by omega);go_wp2
        refine ZB (t:=t) (L:=L) (total:=total) (k:=j+1) (at_:=at_) (fn:=Tryz.f52) ?_ ?_ ?_ X.out q Y ?_
        · rfl
        · rfl
        · rfl
        unfold Jo qdm;rw[if_neg (by simp;exact o.out),if_pos V.out];simp
    · have q4:((at_:Int)==(nth L k:Int) - 1)=false:=by rw[beq_eq_false_iff_ne];exact S
      have V:=hid S;clear S
      cases k with
      | zero=>
        have ab:(L=[])=False:=eq_false (by intro h;rw[h]at G;simp at G);go_wp2
        refine ZB (t:=t) (L:=L) (total:=total) (k:=0) (at_:=at_) (fn:=Tryz.f52) ?_ ?_ ?_ X.out q Y ?_
        · rfl
        · rfl
        · rfl
        unfold Jo qdm;rw[if_neg (by simp;exact o.out),if_neg V.out];simp
      | succ j=>
        have hy:=I.out j (by omega);have aa:=J.out j (by omega);go_wp2
        refine ZB (t:=t) (L:=L) (total:=total) (k:=j+1) (at_:=at_) (fn:=Tryz.f52) ?_ ?_ ?_ X.out q Y ?_
        · rfl
        · rfl
        · rfl
        unfold Jo qdm;rw[if_neg (by simp;exact o.out),if_neg V.out];simp
end Go.Proofs.YthjoojnlnlmljaaGreat
namespace Go.Proofs.YthjoojnlnlmljaaGreat
open Go.ChangeShapes Go.WideShapes Go.ChangeAt Go.RowKit Go.Joins Go.Shelf Go.Maps
open Go.Lib (hid)
theorem qgI {t:TreeV}{p total:Nat}{L:List Nat}(I:t.f=(t.fn:Int))(S:t.l=(t.ln:Int))(G:1≤t.ln)(O:(total:Int)≤18446744073709551615)(h:RowsIs t.fn p (lvs total t.ln) L){row at_:Nat}(q:row<L.length)(Y:at_<nth L row):
    qdm t.f t.l total row at_ (nth L row) (nth L (row - 1)) (decide (row=L.length - 1))=(Qs t.fn t.ln total L row at_).val.cells:=by
  have U:((at_:Int)==(nth L row:Int) - 1)=decide (at_=nth L row - 1):=by
    rw[Bool.eq_iff_iff,beq_iff_eq,decide_eq_true_iff];omega
  rw[I,S];generalize t.fn=f at*;generalize t.ln=l at*;unfold qdm Qs;by_cases o:1≤row∧nth L row=1
  · rw[if_pos (decide_eq_true ((h.root_iff q).1 o)),if_pos o,U];rfl
  · have J: ¬row=L.length - 1:=fun e=>o ((h.root_iff q).2 e)
    obtain⟨b1,b2, -⟩:=Zt G h q Y o;have aa:((if row=0 then total else nth L (row - 1):Nat):Int)≤18446744073709551615:=by
      by_cases V:row=0
      · rw[if_pos V];exact O
      · rw[if_neg V];exact ZY G O h _ (by omega)
    have Z:(if row=0 then(l:Int) else(f:Int))=((if row=0 then l else f:Nat):Int):=by split<;>rfl
    have w1:IntKind.u64.wrap ((at_:Int)*((if row=0 then l else f:Nat):Int))=((at_*(if row=0 then l else f):Nat):Int):=by
      rw[wrap_u64,←Int.natCast_mul];omega
    rw[Z,if_neg (by simp;exact J),if_neg o,w1];by_cases D:at_=nth L row - 1
    · rw[if_pos (show(at_:Int)=(nth L row:Int) - 1 by omega),if_pos D];rfl
    · have X:=b2 D
      have w2:IntKind.u64.wrap (((at_*(if row=0 then l else f):Nat):Int)+((if row=0 then l else f:Nat):Int))=(((at_+1)*(if row=0 then l else f):Nat):Int):=by
        rw[Nat.add_mul,Nat.one_mul]at X⊢;rw[wrap_u64,←Int.natCast_add];omega
      rw[if_neg (show ¬(at_:Int)=(nth L row:Int) - 1 by omega),if_neg D,w2];rfl
theorem JV (t:TreeV)(O:0≤t.l∧t.l≤4294967295)(total:Nat)(G:(total:Int)≤18446744073709551615)(row:Int)(at_:Nat)(w:World):
    Calls Tryz.prog 52 #[t.val,.int .u64 total,.int .i64 row,.int .u64 at_] w fun e w'=>e= .returned (.tuple #[(t.spotR total row at_).val,.int .i64 (t.spotE total row at_)])∧Below w.heap.size w w':=by
  by_cases q:t.err total=0
  · obtain⟨J,ab,U,Z⟩:=yj O q
    have aa:=qq Z;have X:t.f=(t.fn:Int):=by unfold TreeV.fn;omega
    have D:=qM q;have I:=ZY J G D;have ac:=D.len;have hp:(t.pn:Int)≤255:=by unfold TreeV.pn;omega
    have ad:=D.most;have S:=hid (fun w=>qaH t O total G q w);by_cases o:t.there total row at_
    · unfold TreeV.spotR TreeV.spotE
      rw[if_pos ⟨q,o⟩,if_neg (by simp[q]),if_pos o];obtain⟨z0,z1,z2⟩:=o;obtain⟨k,rfl⟩: ∃k:Nat,row=k:=⟨row.toNat,by omega⟩;rw[Int.toNat_natCast]at z1 z2⊢;refine(qco (L:=t.rowsOf total) t total (by omega) (by omega) S (hid I) (by omega) (by omega) (by omega) (by omega) (by omega) k at_ z1 z2 w).mono ?_;rintro e w' ⟨⟨A,rfl,V⟩,Y⟩
      refine⟨?_,Y⟩;unfold Jo at V;rw[V,qgI X U J G D z1 z2];rfl
    · unfold TreeV.spotR TreeV.spotE
      rw[if_neg (fun h=>o h.2),if_neg (by simp[q]),if_neg o];exact qdg (L:=t.rowsOf total) t total (by omega) S (hid I) row at_ (hid o) w
  · unfold TreeV.spotR TreeV.spotE
    rw[if_neg (fun h=>q h.1),if_pos q];exact qdh t O total G q row at_ w
theorem qdb (t:TreeV)(D:0≤t.l∧t.l≤4294967295)(total:Nat)(G:(total:Int)≤18446744073709551615)(row:Int)(at_:Nat)(w:World):
    Calls Tryz.prog 105 #[t.val,.int .u64 total,.int .i64 row,.int .u64 at_] w fun e w'=>e= .returned (.tuple #[(t.spotR total row at_).val,.int .i64 (t.spotE total row at_)])∧Below w.heap.size w w':=by
  by_cases q:t.err total=0
  · refine(qhD t D total G q row at_ w).mono ?_
    rintro e w' ⟨rfl,I⟩
    refine⟨?_,I⟩;unfold TreeV.spotR TreeV.spotE;by_cases o:t.there total row at_
    · rw[if_pos (show t.err total=0∧t.there total row at_ from⟨q,o⟩),if_neg (show ¬(t.err total≠0) by simp[q]),if_pos o,if_pos o]
    · rw[if_neg (show ¬(t.err total=0∧t.there total row at_) from fun h=>o h.2),if_neg (show ¬(t.err total≠0) by simp[q]),if_neg o,if_neg o]
  · unfold TreeV.spotR TreeV.spotE
    rw[if_neg (fun h=>q h.1),if_pos q];exact qgu t D total G q row at_ w
end Go.Proofs.YthjoojnlnlmljaaGreat
namespace Go.Proofs.YthjoojnlnlmljaaGreat
open Go.ChangeShapes Go.WideShapes Go.ChangeAt Go.RowKit Go.Joins Go.Shelf Go.Maps
open Go.Lib (hid)
attribute [local go_sem] Oper.semAt_some
theorem qab {W:World}{b:Nat}{a0 a1 a2 a3 a4 a5 a6 Z Y V I:Value}{T:TypeId}{fr:Nat×Nat}(h:W.heap[b]? =some (Obj.cells #[a0,a1,a2,a3,a4,a5,a6,Z,Y,V,I] T fr))(o q D G J O S U X v9 aa:Value):
    (((((((((((W.setCell ⟨b,0,none⟩ o).setCell ⟨b,1,none⟩ q).setCell ⟨b,2,none⟩ D).setCell ⟨b,3,none⟩ G).setCell ⟨b,4,none⟩ J).setCell ⟨b,5,none⟩ O).setCell ⟨b,6,none⟩ S).setCell ⟨b,7,none⟩ U).setCell ⟨b,8,none⟩ X).setCell ⟨b,9,none⟩ v9).setCell ⟨b,10,none⟩ aa).heap[b]? =some (Obj.cells #[o,q,D,G,J,O,S,U,X,v9,aa] T fr):=by
  have h0:(W.setCell ⟨b,0,none⟩ o).heap[b]? =some (Obj.cells #[o,a1,a2,a3,a4,a5,a6,Z,Y,V,I] T fr):=block_setCell h o;have h1:((W.setCell ⟨b,0,none⟩ o).setCell ⟨b,1,none⟩ q).heap[b]? =some (Obj.cells #[o,q,a2,a3,a4,a5,a6,Z,Y,V,I] T fr):=block_setCell h0 q;have h2:(((W.setCell ⟨b,0,none⟩ o).setCell ⟨b,1,none⟩ q).setCell ⟨b,2,none⟩ D).heap[b]? =some (Obj.cells #[o,q,D,a3,a4,a5,a6,Z,Y,V,I] T fr):=block_setCell h1 D;have h3:((((W.setCell ⟨b,0,none⟩ o).setCell ⟨b,1,none⟩ q).setCell ⟨b,2,none⟩ D).setCell ⟨b,3,none⟩ G).heap[b]? =some (Obj.cells #[o,q,D,G,a4,a5,a6,Z,Y,V,I] T fr):=block_setCell h2 G;have h4:(((((W.setCell ⟨b,0,none⟩ o).setCell ⟨b,1,none⟩ q).setCell ⟨b,2,none⟩ D).setCell ⟨b,3,none⟩ G).setCell ⟨b,4,none⟩ J).heap[b]? =some (Obj.cells #[o,q,D,G,J,a5,a6,Z,Y,V,I] T fr):=block_setCell h3 J;have h5:((((((W.setCell ⟨b,0,none⟩ o).setCell ⟨b,1,none⟩ q).setCell ⟨b,2,none⟩ D).setCell ⟨b,3,none⟩ G).setCell ⟨b,4,none⟩ J).setCell ⟨b,5,none⟩ O).heap[b]? =some (Obj.cells #[o,q,D,G,J,O,a6,Z,Y,V,I] T fr):=block_setCell h4 O;have h6:(((((((W.setCell ⟨b,0,none⟩ o).setCell ⟨b,1,none⟩ q).setCell ⟨b,2,none⟩ D).setCell ⟨b,3,none⟩ G).setCell ⟨b,4,none⟩ J).setCell ⟨b,5,none⟩ O).setCell ⟨b,6,none⟩ S).heap[b]? =some (Obj.cells #[o,q,D,G,J,O,S,Z,Y,V,I] T fr):=block_setCell h5 S;have h7:((((((((W.setCell ⟨b,0,none⟩ o).setCell ⟨b,1,none⟩ q).setCell ⟨b,2,none⟩ D).setCell ⟨b,3,none⟩ G).setCell ⟨b,4,none⟩ J).setCell ⟨b,5,none⟩ O).setCell ⟨b,6,none⟩ S).setCell ⟨b,7,none⟩ U).heap[b]? =some (Obj.cells #[o,q,D,G,J,O,S,U,Y,V,I] T fr):=block_setCell h6 U;have h8:(((((((((W.setCell ⟨b,0,none⟩ o).setCell ⟨b,1,none⟩ q).setCell ⟨b,2,none⟩ D).setCell ⟨b,3,none⟩ G).setCell ⟨b,4,none⟩ J).setCell ⟨b,5,none⟩ O).setCell ⟨b,6,none⟩ S).setCell ⟨b,7,none⟩ U).setCell ⟨b,8,none⟩ X).heap[b]? =some (Obj.cells #[o,q,D,G,J,O,S,U,X,V,I] T fr):=block_setCell h7 X;have h9:((((((((((W.setCell ⟨b,0,none⟩ o).setCell ⟨b,1,none⟩ q).setCell ⟨b,2,none⟩ D).setCell ⟨b,3,none⟩ G).setCell ⟨b,4,none⟩ J).setCell ⟨b,5,none⟩ O).setCell ⟨b,6,none⟩ S).setCell ⟨b,7,none⟩ U).setCell ⟨b,8,none⟩ X).setCell ⟨b,9,none⟩ v9).heap[b]? =some (Obj.cells #[o,q,D,G,J,O,S,U,X,v9,I] T fr):=block_setCell h8 v9;have ab:(((((((((((W.setCell ⟨b,0,none⟩ o).setCell ⟨b,1,none⟩ q).setCell ⟨b,2,none⟩ D).setCell ⟨b,3,none⟩ G).setCell ⟨b,4,none⟩ J).setCell ⟨b,5,none⟩ O).setCell ⟨b,6,none⟩ S).setCell ⟨b,7,none⟩ U).setCell ⟨b,8,none⟩ X).setCell ⟨b,9,none⟩ v9).setCell ⟨b,10,none⟩ aa).heap[b]? =some (Obj.cells #[o,q,D,G,J,O,S,U,X,v9,aa] T fr):=block_setCell h9 aa;exact ab
theorem ZS {B:Nat}{a W:World}(h:Below B a W){b:Nat}(o:B≤b)(V O D Y X S I U J G q:Value):
    Below B a (((((((((((W.setCell ⟨b,0,none⟩ V).setCell ⟨b,1,none⟩ O).setCell ⟨b,2,none⟩ D).setCell ⟨b,3,none⟩ Y).setCell ⟨b,4,none⟩ X).setCell ⟨b,5,none⟩ S).setCell ⟨b,6,none⟩ I).setCell ⟨b,7,none⟩ U).setCell ⟨b,8,none⟩ J).setCell ⟨b,9,none⟩ G).setCell ⟨b,10,none⟩ q):=
  (((((((((((h.setCell (p:=⟨b,0,none⟩) o V).setCell (p:=⟨b,1,none⟩) o O).setCell (p:=⟨b,2,none⟩) o D).setCell (p:=⟨b,3,none⟩) o Y).setCell (p:=⟨b,4,none⟩) o X).setCell (p:=⟨b,5,none⟩) o S).setCell (p:=⟨b,6,none⟩) o I).setCell (p:=⟨b,7,none⟩) o U).setCell (p:=⟨b,8,none⟩) o J).setCell (p:=⟨b,9,none⟩) o G).setCell (p:=⟨b,10,none⟩) o q)
theorem ZE {P:Program}{fn:Func}{tmps:Array Value}{W:World}{b:Nat}{v0 Y V v3 v4 v5 X Z I S D e:Value}{T:TypeId}{fr:Nat×Nat}
    (hr:fn.results= #[.cell 8 171,.tmp 9]) (h8:tmps[8]?.getD undef= .pointer (some ⟨b,0,none⟩)) (h9:tmps[9]?.getD undef=e)
    (o:W.heap[b]? =some (Obj.cells #[v0,Y,V,v3,v4,v5,X,Z,I,S,D] T fr)) (hP:P=Tryz.prog):
    (results fn tmps).run P W= .ok (.tuple #[.agg #[v0,Y,V,v3,v4,v5,X,Z,I,S,D],e]) W:=by
  subst hP;have c0:=qa o 0;have c1:=qa o 1;have c2:=qa o 2;have J:=qa o 3;have U:=qa o 4;have G:=qa o 5;have O:=qa o 6;have c7:=qa o 7;have c8:=qa o 8;have c9:=qa o 9;have q:=qa o 10;simp only[List.getElem?_toArray,List.getElem?_cons_zero,List.getElem?_cons_succ]at c0 c1 c2 J U G O c7 c8 c9 q;simp[results,hr,h8,h9,go_sem,c0,c1,c2,J,U,G,O,c7,c8,c9,q]
theorem zh {W:World}{b c:Nat}(h:c≠b)(U J q X V O G S I D o:Value):(((((((((((W.setCell ⟨b,0,none⟩ U).setCell ⟨b,1,none⟩ J).setCell ⟨b,2,none⟩ q).setCell ⟨b,3,none⟩ X).setCell ⟨b,4,none⟩ V).setCell ⟨b,5,none⟩ O).setCell ⟨b,6,none⟩ G).setCell ⟨b,7,none⟩ S).setCell ⟨b,8,none⟩ I).setCell ⟨b,9,none⟩ D).setCell ⟨b,10,none⟩ o).heap[c]? =W.heap[c]? :=
  (Below.heap_setCell _ _ _ _ h).trans ((Below.heap_setCell _ _ _ _ h).trans ((Below.heap_setCell _ _ _ _ h).trans ((Below.heap_setCell _ _ _ _ h).trans ((Below.heap_setCell _ _ _ _ h).trans ((Below.heap_setCell _ _ _ _ h).trans ((Below.heap_setCell _ _ _ _ h).trans ((Below.heap_setCell _ _ _ _ h).trans ((Below.heap_setCell _ _ _ _ h).trans ((Below.heap_setCell _ _ _ _ h).trans (Below.heap_setCell _ _ _ _ h))))))))))
theorem qcz {W W':World}{base:Nat}{e:TypeId}{size:Nat}{v:Value}{n:Nat}{G:List Value}(h:W.ownsRow base e size v n G)(J: ∀g,base≤g→g<W.heap.size→W'.heap[g]? =W.heap[g]?):W'.ownsRow base e size v n G:=by
  refine⟨h.1,?_⟩;rcases h.2 with o|⟨g,q,I,S,o,D,O⟩
  · exact .inl o
  · exact .inr ⟨g,q,I,S,o,(J g o (Ai D).1).trans D,O⟩
theorem SideIs.same {W W':World}{base:Nat}{zs:List Int}{v:Value}(h:SideIs base W zs v)(q: ∀g,base≤g→g<W.heap.size→W'.heap[g]? =W.heap[g]?):SideIs base W' zs v:=by
  rcases h with h|⟨D,o⟩
  · exact .inl h
  · exact .inr ⟨D,qcz o q⟩
theorem qfu {W:World}{b:Nat}{a0 a1 a2 a3 Y G X D U J o:Value}{T:TypeId}(h:W.heap[b]? =some (Obj.cells #[a0,a1,a2,a3,Y,G,X,D,U,J,o] T (0,0))):
    W.cell? ⟨b,0,none⟩=some a0∧W.cell? ⟨b,1,none⟩=some a1∧W.cell? ⟨b,2,none⟩=some a2∧W.cell? ⟨b,3,none⟩=some a3∧W.cell? ⟨b,4,none⟩=some Y∧W.cell? ⟨b,5,none⟩=some G∧W.cell? ⟨b,6,none⟩=some X∧W.cell? ⟨b,7,none⟩=some D∧W.cell? ⟨b,8,none⟩=some U∧W.cell? ⟨b,9,none⟩=some J∧W.cell? ⟨b,10,none⟩=some o∧ ∀i,W.frozen? ⟨b,i,none⟩=false:=by
  have c0:=qa h 0;have c1:=qa h 1;have c2:=qa h 2;have O:=qa h 3;have V:=qa h 4;have I:=qa h 5;have S:=qa h 6;have c7:=qa h 7;have c8:=qa h 8;have Z:=qa h 9;have q:=qa h 10;simp only[List.getElem?_toArray,List.getElem?_cons_zero,List.getElem?_cons_succ]at c0 c1 c2 O V I S c7 c8 Z q;exact⟨c0,c1,c2,O,V,I,S,c7,c8,Z,q,fun i=>by simp[World.frozen?,h]⟩
theorem SideIs.form {W:World}{base:Nat}{zs:List Int}{v:Value}(h:SideIs base W zs v): ∃a n c,v= .slice a n c:=by
  rcases h with⟨h, -⟩|⟨-,o⟩
  · exact⟨_,_,_,h⟩
  · rcases ownsRow_forms o with⟨h, -⟩|⟨g,q,h⟩
    · exact⟨_,_,_,h⟩
    · exact⟨_,_,_,h⟩
theorem SideIs.le {W:World}{base base':Nat}{zs:List Int}{v:Value}(h:SideIs base W zs v)(q:base'≤base):SideIs base' W zs v:=by
  rcases h with h|⟨D,o⟩
  · exact .inl h
  · exact .inr ⟨D,ownsRow_le o q⟩
def JD (t:TreeV)(row:Int)(at_:Nat)(s p:Value):Value:= .agg #[.int .i64 t.d,.int .i64 t.kl,.int .i64 t.f,.int .i64 t.p,.int .u32 t.l,.int .u64 at_,.int .u32 0,.int .i64 row,.int .i64 t.i,s,p]
theorem qg6 {W Y:World}{c b:Nat}(I:c<b)(h: ∀o,W.cell? ⟨c,o,none⟩=Y.cell? ⟨c,o,none⟩)(X O D v3 Z S J V U G q:Value)(o:Nat):(((((((((((W.setCell ⟨b,0,none⟩ X).setCell ⟨b,1,none⟩ O).setCell ⟨b,2,none⟩ D).setCell ⟨b,3,none⟩ v3).setCell ⟨b,4,none⟩ Z).setCell ⟨b,5,none⟩ S).setCell ⟨b,6,none⟩ J).setCell ⟨b,7,none⟩ V).setCell ⟨b,8,none⟩ U).setCell ⟨b,9,none⟩ G).setCell ⟨b,10,none⟩ q).cell? ⟨c,o,none⟩=Y.cell? ⟨c,o,none⟩:=
  ((ZS (Below.refl b W) (Nat.le_refl b) X O D v3 Z S J V U G q).cell (p:=⟨c,o,none⟩) I).trans (h o)
theorem qfZ (t:TreeV)(total:Nat)(row:Int)(at_:Nat){z0:Int}{z1 z2 z3:Int}{z4 z5:Bool}{O S:List Int}
    (H1:Hid (∀w,Calls Tryz.prog 105 #[t.val,.int .u64 total,.int .i64 row,.int .u64 at_] w fun r w'=>r= .returned (.tuple #[.agg #[.int .i64 z0,.int .u64 z1,.int .u64 z2,.int .u64 z3,.bool z4,.bool z5],.int .i64 0])∧Below w.heap.size w w')) (w:World)
    (ab:Hid (Holds8 w (.slice t.sa t.sl t.sc) O)) (af:Hid (Holds8 w (.slice t.pa t.pl t.pc) S)) (ac:Hid (∀z∈O,0≤z∧z≤255)) (ag:Hid (∀z∈S,0≤z∧z≤255)) (aa:Hid (O.length≤65535)) (ae:Hid (S.length≤65535)):
    Calls Tryz.prog 157 #[t.val,.int .u64 total,.int .i64 row,.int .u64 at_] w fun r w'=> ∃s p,r= .returned (.tuple #[JD t row at_ s p,.int .i64 0])∧SideIs w.heap.size w' O s∧SideIs w.heap.size w' S p∧Below w.heap.size w w':=by
  unfold TreeV.val JD at*;go_enter Tryz.func157,Tryz.ntmps157
  go_wp2_with fail
  refine(H1.out _).mono ?_;rintro r q ⟨rfl,G⟩;obtain⟨hc,ah⟩:=Y6 G;have ai:=G.size;simp at ai
  have U:w.heap.size<q.heap.size:=by omega
  have k1:w.heap.size+1<q.heap.size:=by omega
  have b1:q.heap[w.heap.size+1]? =some (Obj.cells #[.int .i64 0,.int .i64 0,.int .i64 0,.int .i64 0,.int .u32 0,.int .u64 0,.int .u32 0,.int .i64 0,.int .i64 0,.slice none 0 0,.slice none 0 0] 171 (0,0)):=by
    rw[G.block _ (by simp)];exact qk _ _ (by simp)
  have B1:=hid b1;have J:Below w.heap.size w q:=qB _ (Below.trans (Br.alloc Nl _) (G.mono (by simp)));clear b1;go_wp2_with fail
  go_region_held3 (fun w'=> ∀o,w'.cell? ⟨w.heap.size,o,none⟩=q.cell? ⟨w.heap.size,o,none⟩) (first|with_reducible assumption|with_reducible exact qg6 (Nat.lt_succ_self _) K3 _ _ _ _ _ _ _ _ _ _ _|(intro o;exact((Below.refl _ q).alloc Nl _).drew.cell (p:=⟨w.heap.size,o,none⟩) U)|(intro o;exact(Below.refl _ q).drew.cell (p:=⟨w.heap.size,o,none⟩) U)) (first
    | (go_at_call_of 182 (Value.slice t.sa t.sl t.sc);refine(qdc O _ _ ?_ ac.out aa.out).mono ?_;exact qW ab.out (J.trans (by first|exact((Below.refl _ q).alloc Nl _).drew.mono (by omega)|exact(Below.refl _ q).drew.mono (by omega)));rintro e w2 ⟨u,rfl,hu,Z⟩;obtain⟨ua,un,uc,rfl⟩:=hu.form;have D:Below q.heap.size q w2:=(by first|exact(((Below.refl _ q).alloc Nl _).drew).trans (Z.mono (by simp))|exact(Below.refl _ q).drew.trans (Z.mono (by simp)));have K2: ∀o,w2.cell? ⟨w.heap.size,o,none⟩=q.cell? ⟨w.heap.size,o,none⟩:=fun o=>D.cell (p:=⟨w.heap.size,o,none⟩) U;have Y:=D.size;have ad:q.heap.size≤w2.heap.size:=Y)
    | (go_at_call_of 182 (Value.slice t.pa t.pl t.pc);refine(qdc S _ _ ?_ ag.out ae.out).mono ?_;exact qW af.out (J.trans (D.mono (by omega)));rintro e w3 ⟨p,rfl,hp,X⟩;obtain⟨pa,pn,pc,rfl⟩:=hp.form;have I:Below q.heap.size q w3:=D.trans (X.mono Y);have V:=(I.block _ k1).trans B1.out;obtain⟨x0,x1,x2,x3,x4,x5,x6,x7,x8,x9,am,xf⟩:=qfu V;have V:=hid V;have K3: ∀o,w3.cell? ⟨w.heap.size,o,none⟩=q.cell? ⟨w.heap.size,o,none⟩:=fun o=>I.cell (p:=⟨w.heap.size,o,none⟩) U;have al:=I.size;clear ah))
  go_wp2
  have aj:=hu.le (base':=q.heap.size) (by first|(show q.heap.size≤(q.alloc _).heap.size;simp)|exact Nat.le_refl _);have ak:=hp.le (base':=q.heap.size) ad;refine Bp (ZE rfl rfl rfl (b:=w.heap.size+1) (T:=171) (fr:=(0,0)) (qab V.out _ _ _ _ _ _ _ _ _ _ _) rfl) rfl ⟨_,_,rfl,(aj.same fun g g1 g2=>?_).le (by omega),(ak.same fun g g1 g2=>?_).le (by omega),ZS (J.trans (I.mono (by omega))) (by omega) _ _ _ _ _ _ _ _ _ _ _⟩
  · exact(zh (by omega) _ _ _ _ _ _ _ _ _ _ _).trans (X.block g g2)
  · exact zh (by omega) _ _ _ _ _ _ _ _ _ _ _
theorem qcq (t:TreeV)(total:Nat)(row:Int)(at_:Nat){z0:Int}{z1 z2 z3:Int}{z4 z5:Bool}{O S:List Int}
    (H1:Hid (∀w,Calls Tryz.prog 52 #[t.val,.int .u64 total,.int .i64 row,.int .u64 at_] w fun r w'=>r= .returned (.tuple #[.agg #[.int .i64 z0,.int .u64 z1,.int .u64 z2,.int .u64 z3,.bool z4,.bool z5],.int .i64 0])∧Below w.heap.size w w')) (w:World)
    (ab:Hid (Holds8 w (.slice t.sa t.sl t.sc) O)) (af:Hid (Holds8 w (.slice t.pa t.pl t.pc) S)) (ac:Hid (∀z∈O,0≤z∧z≤255)) (ag:Hid (∀z∈S,0≤z∧z≤255)) (aa:Hid (O.length≤65535)) (ae:Hid (S.length≤65535)):
    Calls Tryz.prog 137 #[t.val,.int .u64 total,.int .i64 row,.int .u64 at_] w fun r w'=> ∃s p,r= .returned (.tuple #[JD t row at_ s p,.int .i64 0])∧SideIs w.heap.size w' O s∧SideIs w.heap.size w' S p∧Below w.heap.size w w':=by
  unfold TreeV.val JD at*;go_enter Tryz.func137,Tryz.ntmps137
  go_wp2_with fail
  refine(H1.out _).mono ?_;rintro r q ⟨rfl,G⟩;obtain⟨hc,ah⟩:=Y6 G;have ai:=G.size;simp at ai
  have U:w.heap.size<q.heap.size:=by omega
  have k1:w.heap.size+1<q.heap.size:=by omega
  have b1:q.heap[w.heap.size+1]? =some (Obj.cells #[.int .i64 0,.int .i64 0,.int .i64 0,.int .i64 0,.int .u32 0,.int .u64 0,.int .u32 0,.int .i64 0,.int .i64 0,.slice none 0 0,.slice none 0 0] 171 (0,0)):=by
    rw[G.block _ (by simp)];exact qk _ _ (by simp)
  have B1:=hid b1;have J:Below w.heap.size w q:=qB _ (Below.trans (Br.alloc Nl _) (G.mono (by simp)));clear b1;go_wp2_with fail
  go_region_held3 (fun w'=> ∀o,w'.cell? ⟨w.heap.size,o,none⟩=q.cell? ⟨w.heap.size,o,none⟩) (first|with_reducible assumption|with_reducible exact qg6 (Nat.lt_succ_self _) K3 _ _ _ _ _ _ _ _ _ _ _|(intro o;exact((Below.refl _ q).alloc Nl _).drew.cell (p:=⟨w.heap.size,o,none⟩) U)|(intro o;exact(Below.refl _ q).drew.cell (p:=⟨w.heap.size,o,none⟩) U)) (first
    | (go_at_call_of 162 (Value.slice t.sa t.sl t.sc);refine(qdD O _ _ ?_ ac.out aa.out).mono ?_;exact qW ab.out (J.trans (by first|exact((Below.refl _ q).alloc Nl _).drew.mono (by omega)|exact(Below.refl _ q).drew.mono (by omega)));rintro e w2 ⟨u,rfl,hu,Z⟩;obtain⟨ua,un,uc,rfl⟩:=hu.form;have D:Below q.heap.size q w2:=(by first|exact(((Below.refl _ q).alloc Nl _).drew).trans (Z.mono (by simp))|exact(Below.refl _ q).drew.trans (Z.mono (by simp)));have K2: ∀o,w2.cell? ⟨w.heap.size,o,none⟩=q.cell? ⟨w.heap.size,o,none⟩:=fun o=>D.cell (p:=⟨w.heap.size,o,none⟩) U;have Y:=D.size;have ad:q.heap.size≤w2.heap.size:=Y)
    | (go_at_call_of 162 (Value.slice t.pa t.pl t.pc);refine(qdD S _ _ ?_ ag.out ae.out).mono ?_;exact qW af.out (J.trans (D.mono (by omega)));rintro e w3 ⟨p,rfl,hp,X⟩;obtain⟨pa,pn,pc,rfl⟩:=hp.form;have I:Below q.heap.size q w3:=D.trans (X.mono Y);have V:=(I.block _ k1).trans B1.out;obtain⟨x0,x1,x2,x3,x4,x5,x6,x7,x8,x9,am,xf⟩:=qfu V;have V:=hid V;have K3: ∀o,w3.cell? ⟨w.heap.size,o,none⟩=q.cell? ⟨w.heap.size,o,none⟩:=fun o=>I.cell (p:=⟨w.heap.size,o,none⟩) U;have al:=I.size;clear ah))
  go_wp2
  have aj:=hu.le (base':=q.heap.size) (by first|(show q.heap.size≤(q.alloc _).heap.size;simp)|exact Nat.le_refl _);have ak:=hp.le (base':=q.heap.size) ad;refine Bp (ZE rfl rfl rfl (b:=w.heap.size+1) (T:=171) (fr:=(0,0)) (qab V.out _ _ _ _ _ _ _ _ _ _ _) rfl) rfl ⟨_,_,rfl,(aj.same fun g g1 g2=>?_).le (by omega),(ak.same fun g g1 g2=>?_).le (by omega),ZS (J.trans (I.mono (by omega))) (by omega) _ _ _ _ _ _ _ _ _ _ _⟩
  · exact(zh (by omega) _ _ _ _ _ _ _ _ _ _ _).trans (X.block g g2)
  · exact zh (by omega) _ _ _ _ _ _ _ _ _ _ _
end Go.Proofs.YthjoojnlnlmljaaGreat

/- The walk of shape.Spot, where the tree may be. No condition. -/
import Derived.Test.YthjoojnlnlmljaaGreatP26
import Derived.Sort.QuietIn
import Derived.BigRegionIn
import Derived.Test.YthjoojnlnlmljaaGreatP27
import Derived.Test.YthjoojnlnlmljaaGreatP05
import Derived.Deep.RegionHeld3
set_option linter.all false
set_option maxRecDepth 100000
set_option maxHeartbeats 8000000
namespace Go.Proofs.YthjoojnlnlmljaaGreat
open Go.ChangeShapes Go.WideShapes Go.ChangeAt Go.RowKit Go.Joins Go.Shelf Go.Maps
open Go.Lib (hid)
attribute [local go_sem] Oper.semAt_some
theorem YV {G X:Prop}(h:G→X)(g:G):X:=h g
theorem qii (t:TreeV)(hl:0≤t.l∧t.l≤4294967295)(total:Nat)(ht:(total:Int)≤18446744073709551615)(h:t.err total=0)(row:Int)(at_:Nat)(w:World):
    Calls Tryz.prog 105 #[t.val,.int .u64 total,.int .i64 row,.int .u64 at_] w fun e w'=>e= .returned (.tuple #[(if t.there total row at_ then(t.spot total row.toNat at_).val else SpotV.zero.val),.int .i64 (if t.there total row at_ then 0 else 6)])∧Below w.heap.size w w':=by
  have hv:=Q0 h;obtain⟨L,hL⟩:=Ex (t.rowsOf total);obtain⟨ak,aF,ai, -⟩:=Qx hl h;have az:=qo hv;have al:t.f=(t.fn:Int):=by unfold TreeV.fn;omega
  have aH:(t.fn:Int)≤18446744073709551615:=by omega
  have aC:RowsIs t.fn t.pn (lvs total t.ln) L:=by rw[←hL];exact qM h
  have aw:=zl ak ht aC;have HF:=hid al;have ax:=hid ai;clear al ai az;have H:=hid h;clear h;refine(callsIn_wide (n:=9)).1 ?_;refine callsIn_of_wp_marks Tryz.func105 rfl trivial ?_ rfl;unfold TreeV.val;simp only[Tryz.ntmps105,List.size_toArray,List.length_cons,List.length_nil,Nat.reduceAdd,Nat.reduceSub,Array.replicate_succ,Array.replicate_zero,List.push_toArray,List.append_toArray,List.nil_append,List.cons_append];gi_wp2_with fail
  refine qaL ?_;gi_wp2_with fail
  refine⟨trivial,?_⟩;refine(callsIn_wide.2 (qba t hl total ht _)).mono ?_;rintro e w1 ⟨rfl,ad⟩;rw[H.out];obtain⟨hc,hf⟩:=Q5 ad;have au:=ad.size;simp at au
  have k0:w.heap.size<w1.heap.size:=by omega
  have k1:w.heap.size+1<w1.heap.size:=by omega
  have k2:w.heap.size+1+1<w1.heap.size:=by omega
  have k3:w.heap.size+1+1+1<w1.heap.size:=by omega
  have k4:w.heap.size+1+1+1+1<w1.heap.size:=by omega
  have k5:w.heap.size+1+1+1+1+1<w1.heap.size:=by omega
  have ab:Below w.heap.size w w1:=by
    refine Below.trans ?_ (ad.mono (by simp;omega));repeat(first|exact Below.refl _ _|(refine Below.alloc ?_ (by simp;omega) _)|(refine Below.alloc ?_ (by simp) _))
  gi_wp2_with fail
  refine wpIn_label ?_;gi_wp2_with fail
  refine⟨trivial,?_⟩;refine(callsIn_wide.2 (qhL t total _)).mono ?_;rintro e w2 ⟨rfl,rfl⟩;gi_wp2_with fail
  have ar:w1.cell? ⟨w.heap.size,2,none⟩=some (.int .i64 t.f):=(hc _ _ (by simp;omega)).trans (by simp[go_sem]);have aA:w1.cell? ⟨w.heap.size,4,none⟩=some (.int .u32 t.l):=(hc _ _ (by simp;omega)).trans (by simp[go_sem]);have r1:w1.cell? ⟨w.heap.size+1,0,none⟩=some (.int .u64 total):=(hc _ _ (by simp)).trans (by simp[go_sem]);have r2:w1.cell? ⟨w.heap.size+1+1,0,none⟩=some (.int .i64 row):=(hc _ _ (by simp)).trans (by simp[go_sem]);have r3:w1.cell? ⟨w.heap.size+1+1+1,0,none⟩=some (.int .u64 at_):=(hc _ _ (by simp)).trans (by simp[go_sem]);have b4:w1.heap[w.heap.size+1+1+1+1]? =some (Obj.cells #[.int .i64 0,.int .u64 0,.int .u64 0,.int .u64 0,.bool false,.bool false] 96 (0,0)):=by
    rw[ad.block _ (by simp)];rw[Bh _ _ _ (by simp)];exact qD _ _ (by simp)
  have b5:w1.heap[w.heap.size+1+1+1+1+1]? =some (Obj.cells #[.int .i64 0] 30 (0,0)):=by
    rw[ad.block _ (by simp)];exact qD _ _ (by simp)
  have ao:(((w1.alloc (.cells #[.int .u64 0] 44)).alloc (.cells t.arr 26)).alloc (.cells #[.int .u64 total] 44)).heap[w1.heap.size]? =some (Obj.cells #[.int .u64 0] 44 (0,0)):=by
    rw[Bh _ _ _ (by simp;omega),Bh _ _ _ (by simp)];exact Wn _ _
  have ap:(((w1.alloc (.cells #[.int .u64 0] 44)).alloc (.cells t.arr 26)).alloc (.cells #[.int .u64 total] 44)).heap[w1.heap.size+1]? =some (Obj.cells t.arr 26 (0,0)):=by
    rw[Bh _ _ _ (by simp)];exact qD _ _ (by simp)
  have aq:(((w1.alloc (.cells #[.int .u64 0] 44)).alloc (.cells t.arr 26)).alloc (.cells #[.int .u64 total] 44)).heap[w1.heap.size+1+1]? =some (Obj.cells #[.int .u64 total] 44 (0,0)):=
    qD _ _ (by simp)
  have aD:Below w1.heap.size w1 (((w1.alloc (.cells #[.int .u64 0] 44)).alloc (.cells t.arr 26)).alloc (.cells #[.int .u64 total] 44)):=(((Below.refl _ w1).alloc Nl _).alloc (by simp) _).alloc (by simp;omega) _;have aB:=qfu (9 - 1) t hl total ht hv _ _ _ ap aq L hL;refine wpIn_rangeFunc_ownG rfl (by omega) (gf:=146) (lb:= #[.pointer (some ⟨w1.heap.size+1,0,none⟩),.pointer (some ⟨w1.heap.size+1+1,0,none⟩)]) rfl trivial (enters_of Tryz.func146 (by kernel_rfl) rfl)
    aB (fun h k=>h.trans k) (fun W l o o' _ hl ho _=>KpT.putObj W l o o' hl ho) Br (fun _=>rfl)
    (SpotI w1 L row) (SpotX w t total L row at_)
    (SpotI.own (by simp;omega)) (fun c=>SpotX.own (by simp;omega))
    ⟨fun k G=>(by cases G),ao,aD⟩
    (fun x=> { tmps:= #[.agg #[.int .i64 t.k,.int .i64 t.d,.int .i64 t.f,.int .i64 t.p,.int .u32 t.l,.int .i64 t.i,.slice t.ka t.kl t.kc,.slice t.sa t.sl t.sc,.slice t.pa t.pl t.pc],.int .u64 total,.int .i64 row,.int .u64 at_,.pointer (some ⟨w.heap.size,0,none⟩),.pointer (some ⟨w.heap.size+1,0,none⟩),.pointer (some ⟨w.heap.size+1+1,0,none⟩),.pointer (some ⟨w.heap.size+1+1+1,0,none⟩),.pointer (some ⟨w.heap.size+1+1+1+1,0,none⟩),.pointer (some ⟨w.heap.size+1+1+1+1+1,0,none⟩),.int .i64 0,
      .pointer (some ⟨w1.heap.size,0,none⟩),.int .i64 (x.1:Nat),.int .u64 (nth L x.1:Nat),undef,undef,undef,.agg #[.int .i64 t.k,.int .i64 t.d,.int .i64 t.f,.int .i64 t.p,.int .u32 t.l,.int .i64 t.i,.slice t.ka t.kl t.kc,.slice t.sa t.sl t.sc,.slice t.pa t.pl t.pc],.int .u64 total,.int .i64 0,.int .i64 0,.bool false,undef,undef,.agg #[.int .i64 t.k,.int .i64 t.d,.int .i64 t.f,.int .i64 t.p,.int .u32 t.l,.int .i64 t.i,.slice t.ka t.kl t.kc,.slice t.sa t.sl t.sc,.slice t.pa t.pl t.pc],.int .u64 total,
      .func (.func 146) #[] #[.pointer (some ⟨w1.heap.size+1,0,none⟩),.pointer (some ⟨w1.heap.size+1+1,0,none⟩)],.int .i64 (x.1:Nat),.int .u64 (nth L x.1:Nat),undef,undef,undef,undef,undef,undef,undef,undef,undef,undef,undef,undef,undef,undef,undef,undef,undef,undef,undef,undef,undef,undef,undef,undef,undef,undef,undef,undef,undef,undef,undef,undef,undef,undef,undef,undef,undef,undef,undef,undef,undef,undef,undef,undef,undef,undef,undef,undef,undef,undef,undef,undef,undef,undef,undef,undef,undef,undef,undef,undef,undef],defers:=[] }) ?assign ?body ?done ?stop
  case assign=>
    intro l x W K q;simp only[qiZ];gi_wp2
    exact q
  case body=>
    rintro l ag x W ⟨O,aa,J⟩ -
    have aG:=J.size;have gf:W.cell? ⟨w.heap.size,2,none⟩=some (.int .i64 t.fn):=by rw[←HF.out];exact(J.cell (p:=⟨w.heap.size,2,none⟩) k0).trans ar
    have gl:W.cell? ⟨w.heap.size,4,none⟩=some (.int .u32 t.ln):=by rw[←ax.out];exact(J.cell (p:=⟨w.heap.size,4,none⟩) k0).trans aA
    have g1:=(J.cell (p:=⟨w.heap.size+1,0,none⟩) k1).trans r1;have g2:=(J.cell (p:=⟨w.heap.size+1+1,0,none⟩) k2).trans r2;have g3:=(J.cell (p:=⟨w.heap.size+1+1+1,0,none⟩) k3).trans r3;have r:=(J.block _ k4).trans b4;have U:=(J.block _ k5).trans b5;have gb:=qd aa 0;have fb:=unfrozen_of_block aa 0;have f0:=unfrozen_of_block r 0;have f1:=unfrozen_of_block r 1;have f2:=unfrozen_of_block r 2;have f3:=unfrozen_of_block r 3;have f4:=unfrozen_of_block r 4;have f5:=unfrozen_of_block r 5;have f6:=unfrozen_of_block U 0;have c0:=qd r 0;have c1:=qd r 1;have c2:=qd r 2;have c3:=qd r 3;have c4:=qd r 4;have c5:=qd r 5;have c6:=qd U 0;simp only[List.getElem?_toArray,List.getElem?_cons_zero,List.getElem?_cons_succ]at c0 c1 c2 c3 c4 c5 c6 gb;have m0:w.heap.size<W.heap.size:=by omega
    have m1:w.heap.size+1<W.heap.size:=by omega
    have m2:w.heap.size+1+1<W.heap.size:=by omega
    have m3:w.heap.size+1+1+1<W.heap.size:=by omega
    have m4:w.heap.size+1+1+1+1<W.heap.size:=by omega
    have m5:w.heap.size+1+1+1+1+1<W.heap.size:=by omega
    have m6:w1.heap.size<W.heap.size:=(Ai aa).1;have Y:=hid (ab.trans (J.mono (by omega)));have X:=hid O;have HB:=hid J;have aj:=hid aa;have D4:=hid r;have Z:=hid U;clear O J aa r U;have aI:(nth L x.1:Int)≤18446744073709551615:=aw x.1 x.2;by_cases hA:(x.1:Int)<row
    · gi_wp2
      go_goals
      exact⟨(KeepsOthers.setCell _ _ _).from _,KpT.setCell (p:=⟨w1.heap.size,0,none⟩) aj.out (by decide) (by decide) _,fun k G=>by
        rcases List.mem_append.1 G with h|h
        · exact X.out k h
        · rw[List.mem_singleton.1 h];exact hA,by rw[qaH];exact block_setCell aj.out _,HB.out.setCell Nl _⟩
    · by_cases hC:row<0
      · gi_wp2
        go_goals
        exact⟨KeepsFrom.refl _ _,⟨ag,x,rfl,X.out,by omega,.inr ⟨rfl,.inl hC,D4.out,Z.out⟩⟩,Y.out⟩
      · have q0:(row<0)=False:=eq_false (by omega)
        by_cases av:(nth L x.1:Nat)≤at_
        · have q1:((nth L x.1:Int)≤(at_:Int))=True:=eq_true (by omega)
          gi_wp2
          go_goals
          exact⟨KeepsFrom.refl _ _,⟨ag,x,rfl,X.out,by omega,.inr ⟨rfl,.inr av,D4.out,Z.out⟩⟩,Y.out⟩
        · have q1:((nth L x.1:Int)≤(at_:Int))=False:=eq_false (by omega)
          have z0:0≤row:=by omega
          have z1:row≤(x.1:Nat):=by omega
          have z2:at_<nth L x.1:=by omega
          by_cases hR:1≤row
          · have z3:row.toNat≠0:=by omega
            have q2:(1≤row)=True:=eq_true hR;by_cases hN:nth L x.1=1
            · have q3:((nth L x.1:Int)==1)=true:=by rw[beq_iff_eq];omega
              have HN:=hid hN;clear hN;gi_wp2
              apply YV
              · intro G
                gi_region
                all_goals exact G
              gi_wp2
              apply YV
              · intro G
                gi_region
                all_goals exact G
              gi_wp2
              go_goals
              exact RetP.drew (RetP.drew (ZW X.out z0 z1 z2 Y.out D4.out Z.out (by unfold ZZ;rw[Int.toNat_of_nonneg z0,if_pos ⟨Nat.pos_of_ne_zero z3,HN.out⟩])))
            · have q3:((nth L x.1:Int)==1)=false:=by rw[beq_eq_false_iff_ne];omega
              by_cases V:(at_:Int)=(nth L x.1:Int) - 1
              · have q4:((at_:Int)==(nth L x.1:Int) - 1)=true:=by rw[beq_iff_eq];exact V
                have HZ:=hid V;clear V;gi_wp2
                apply YV
                · intro G
                  gi_region
                  all_goals exact G
                gi_wp2
                apply YV
                · intro G
                  gi_region
                  all_goals exact G
                gi_wp2
                go_goals
                exact RetP.drew (RetP.drew (ZW X.out z0 z1 z2 Y.out D4.out Z.out (by unfold ZZ;rw[Int.toNat_of_nonneg z0,if_neg (fun h=>hN h.2),if_pos HZ.out,if_neg z3,if_neg z3])))
              · have q4:((at_:Int)==(nth L x.1:Int) - 1)=false:=by rw[beq_eq_false_iff_ne];exact V
                have HZ:=hid V;clear V;gi_wp2
                apply YV
                · intro G
                  gi_region
                  all_goals exact G
                gi_wp2
                apply YV
                · intro G
                  gi_region
                  all_goals exact G
                gi_wp2
                apply YV
                · intro G
                  refine JB (F:=Fence.wide) (by kernel_rfl) (by kernel_rfl) ?_;refine wpAnyIn_take (i:=1) (v:=?_) rfl rfl (by kernel_rfl) (by kernel_rfl) (by kernel_rfl) (fun _ _ _ h=>h) ⟨Or.inl ⟨by rfl,?_⟩,fun _=>rfl⟩ ?_;rotate_left
                  · (intro w;go_simp;try with_reducible rfl)
                  refine wpAnyIn_take (i:=5) (v:=?_) rfl rfl (by kernel_rfl) (by kernel_rfl) (by kernel_rfl) (fun _ _ _ h=>h) ⟨Or.inl ⟨by rfl,?_⟩,fun _=>rfl⟩ ?_;rotate_left
                  · (intro w;go_simp;try with_reducible rfl)
                  refine wpAnyIn_ready (rs:=[0,3]) (by kernel_rfl) (by simp) ?_;refine AllReadyIn.cons rfl (fun K q=>?_) ?_
                  · go_simp
                    refine q _ _ ?_;clear q K;refine wpAnyIn_take (i:=2) (v:=?_) rfl rfl (by kernel_rfl) (by kernel_rfl) (by kernel_rfl) (fun _ _ _ h=>h) ⟨Or.inl ⟨by rfl,?_⟩,fun _=>rfl⟩ ?_;rotate_left
                    · (intro w;go_simp;try with_reducible rfl)
                    refine wpAnyIn_take (i:=7) (v:=?_) rfl rfl (by kernel_rfl) (by kernel_rfl) (by kernel_rfl) (fun _ _ _ h=>h) ⟨Or.inl ⟨by rfl,?_⟩,fun _=>rfl⟩ ?_;rotate_left
                    · (intro w;go_simp;try with_reducible rfl)
                    refine wpAnyIn_ready (rs:=[3,8]) (by kernel_rfl) (by simp) ?_;refine AllReadyIn.cons rfl (fun K q=>?_) ?_
                    · go_simp
                      refine q _ _ ?_;clear q K;refine wpAnyIn_take (i:=4) (v:=?_) rfl rfl (by kernel_rfl) (by kernel_rfl) (by kernel_rfl) (fun _ _ _ h=>h) ⟨Or.inl ⟨by rfl,?_⟩,fun _=>rfl⟩ ?_;rotate_left
                      · (intro w;go_simp;try with_reducible rfl)
                      refine wpAnyIn_take (i:=6) (v:=?_) rfl rfl (by kernel_rfl) (by kernel_rfl) (by kernel_rfl) (fun _ _ _ h=>h) ⟨Or.inl ⟨by rfl,?_⟩,fun _=>rfl⟩ ?_;rotate_left
                      · (intro w;go_simp;try with_reducible rfl)
                      refine wpAnyIn_ready (rs:=[8]) (by kernel_rfl) (by simp) ?_;refine AllReadyIn.cons rfl (fun K q=>?_) ?_
                      · go_simp
                        refine q _ _ ?_;clear q K;refine wpAnyIn_take (i:=9) (v:=?_) rfl rfl (by kernel_rfl) (by kernel_rfl) (by kernel_rfl) (fun _ _ _ h=>h) ⟨Or.inl ⟨by rfl,?_⟩,fun _=>rfl⟩ ?_;rotate_left
                        · (intro w;go_simp;try with_reducible rfl)
                        refine wpAnyIn_ready (rs:=[10]) (by kernel_rfl) (by simp) ?_;refine AllReadyIn.cons rfl (fun K q=>?_) ?_
                        · go_simp
                          refine q _ _ ?_;clear q K;refine wpAnyIn_done (by kernel_rfl) ?_ _;exact G
                        exact AllReadyIn.nil
                      exact AllReadyIn.nil
                    refine AllReadyIn.cons rfl (fun K q=>?_) ?_
                    · go_simp
                      refine q _ _ ?_;clear q K;refine wpAnyIn_ready (rs:=[3]) (by kernel_rfl) (by simp) ?_;refine AllReadyIn.cons rfl (fun K q=>?_) ?_
                      · go_simp
                        refine q _ _ ?_;clear q K;refine wpAnyIn_take (i:=4) (v:=?_) rfl rfl (by kernel_rfl) (by kernel_rfl) (by kernel_rfl) (fun _ _ _ h=>h) ⟨Or.inl ⟨by rfl,?_⟩,fun _=>rfl⟩ ?_;rotate_left
                        · (intro w;go_simp;try with_reducible rfl)
                        refine wpAnyIn_take (i:=6) (v:=?_) rfl rfl (by kernel_rfl) (by kernel_rfl) (by kernel_rfl) (fun _ _ _ h=>h) ⟨Or.inl ⟨by rfl,?_⟩,fun _=>rfl⟩ ?_;rotate_left
                        · (intro w;go_simp;try with_reducible rfl)
                        refine wpAnyIn_take (i:=9) (v:=?_) rfl rfl (by kernel_rfl) (by kernel_rfl) (by kernel_rfl) (fun _ _ _ h=>h) ⟨Or.inl ⟨by rfl,?_⟩,fun _=>rfl⟩ ?_;rotate_left
                        · (intro w;go_simp;try with_reducible rfl)
                        refine wpAnyIn_ready (rs:=[10]) (by kernel_rfl) (by simp) ?_;refine AllReadyIn.cons rfl (fun K q=>?_) ?_
                        · go_simp
                          refine q _ _ ?_;clear q K;refine wpAnyIn_done (by kernel_rfl) ?_ _;exact G
                        exact AllReadyIn.nil
                      exact AllReadyIn.nil
                    exact AllReadyIn.nil
                  refine AllReadyIn.cons rfl (fun K q=>?_) ?_
                  · go_simp
                    refine q _ _ ?_;clear q K;refine wpAnyIn_take (i:=4) (v:=?_) rfl rfl (by kernel_rfl) (by kernel_rfl) (by kernel_rfl) (fun _ _ _ h=>h) ⟨Or.inl ⟨by rfl,?_⟩,fun _=>rfl⟩ ?_;rotate_left
                    · (intro w;go_simp;try with_reducible rfl)
                    refine wpAnyIn_take (i:=6) (v:=?_) rfl rfl (by kernel_rfl) (by kernel_rfl) (by kernel_rfl) (fun _ _ _ h=>h) ⟨Or.inl ⟨by rfl,?_⟩,fun _=>rfl⟩ ?_;rotate_left
                    · (intro w;go_simp;try with_reducible rfl)
                    refine wpAnyIn_ready (rs:=[0]) (by kernel_rfl) (by simp) ?_;refine AllReadyIn.cons rfl (fun K q=>?_) ?_
                    · go_simp
                      refine q _ _ ?_;clear q K;refine wpAnyIn_take (i:=2) (v:=?_) rfl rfl (by kernel_rfl) (by kernel_rfl) (by kernel_rfl) (fun _ _ _ h=>h) ⟨Or.inl ⟨by rfl,?_⟩,fun _=>rfl⟩ ?_;rotate_left
                      · (intro w;go_simp;try with_reducible rfl)
                      refine wpAnyIn_take (i:=7) (v:=?_) rfl rfl (by kernel_rfl) (by kernel_rfl) (by kernel_rfl) (fun _ _ _ h=>h) ⟨Or.inl ⟨by rfl,?_⟩,fun _=>rfl⟩ ?_;rotate_left
                      · (intro w;go_simp;try with_reducible rfl)
                      refine wpAnyIn_ready (rs:=[8]) (by kernel_rfl) (by simp) ?_;refine AllReadyIn.cons rfl (fun K q=>?_) ?_
                      · go_simp
                        refine q _ _ ?_;clear q K;refine wpAnyIn_take (i:=9) (v:=?_) rfl rfl (by kernel_rfl) (by kernel_rfl) (by kernel_rfl) (fun _ _ _ h=>h) ⟨Or.inl ⟨by rfl,?_⟩,fun _=>rfl⟩ ?_;rotate_left
                        · (intro w;go_simp;try with_reducible rfl)
                        refine wpAnyIn_ready (rs:=[10]) (by kernel_rfl) (by simp) ?_;refine AllReadyIn.cons rfl (fun K q=>?_) ?_
                        · go_simp
                          refine q _ _ ?_;clear q K;refine wpAnyIn_done (by kernel_rfl) ?_ _;exact G
                        exact AllReadyIn.nil
                      exact AllReadyIn.nil
                    exact AllReadyIn.nil
                  exact AllReadyIn.nil
                gi_wp2
                go_goals
                exact RetP.drew (RetP.drew (RetP.drew (ZW X.out z0 z1 z2 Y.out D4.out Z.out (by unfold ZZ;rw[Int.toNat_of_nonneg z0,if_neg (fun h=>hN h.2),if_neg HZ.out,if_neg z3]))))
          · have z4:row.toNat=0:=by omega
            have q2:(1≤row)=False:=eq_false hR;by_cases V:(at_:Int)=(nth L x.1:Int) - 1
            · have q4:((at_:Int)==(nth L x.1:Int) - 1)=true:=by rw[beq_iff_eq];exact V
              have HZ:=hid V;clear V;gi_wp2
              apply YV
              · intro G
                gi_region
                all_goals exact G
              gi_wp2
              go_goals
              exact RetP.drew (ZW X.out z0 z1 z2 Y.out D4.out Z.out (by unfold ZZ;rw[Int.toNat_of_nonneg z0,if_neg (fun h=>Nat.not_succ_le_zero _ (z4▸h.1)),if_pos HZ.out,if_pos z4,if_pos z4]))
            · have q4:((at_:Int)==(nth L x.1:Int) - 1)=false:=by rw[beq_eq_false_iff_ne];exact V
              have HZ:=hid V;clear V;gi_wp2
              apply YV
              · intro G
                gi_region
                all_goals exact G
              gi_wp2
              apply YV
              · intro G
                refine JB (F:=Fence.wide) (by kernel_rfl) (by kernel_rfl) ?_;refine wpAnyIn_take (i:=1) (v:=?_) rfl rfl (by kernel_rfl) (by kernel_rfl) (by kernel_rfl) (fun _ _ _ h=>h) ⟨Or.inl ⟨by rfl,?_⟩,fun _=>rfl⟩ ?_;rotate_left
                · (intro w;go_simp;try with_reducible rfl)
                refine wpAnyIn_take (i:=5) (v:=?_) rfl rfl (by kernel_rfl) (by kernel_rfl) (by kernel_rfl) (fun _ _ _ h=>h) ⟨Or.inl ⟨by rfl,?_⟩,fun _=>rfl⟩ ?_;rotate_left
                · (intro w;go_simp;try with_reducible rfl)
                refine wpAnyIn_ready (rs:=[0,3]) (by kernel_rfl) (by simp) ?_;refine AllReadyIn.cons rfl (fun K q=>?_) ?_
                · go_simp
                  refine q _ _ ?_;clear q K;refine wpAnyIn_take (i:=2) (v:=?_) rfl rfl (by kernel_rfl) (by kernel_rfl) (by kernel_rfl) (fun _ _ _ h=>h) ⟨Or.inl ⟨by rfl,?_⟩,fun _=>rfl⟩ ?_;rotate_left
                  · (intro w;go_simp;try with_reducible rfl)
                  refine wpAnyIn_take (i:=7) (v:=?_) rfl rfl (by kernel_rfl) (by kernel_rfl) (by kernel_rfl) (fun _ _ _ h=>h) ⟨Or.inl ⟨by rfl,?_⟩,fun _=>rfl⟩ ?_;rotate_left
                  · (intro w;go_simp;try with_reducible rfl)
                  refine wpAnyIn_ready (rs:=[3,8]) (by kernel_rfl) (by simp) ?_;refine AllReadyIn.cons rfl (fun K q=>?_) ?_
                  · go_simp
                    refine q _ _ ?_;clear q K;refine wpAnyIn_take (i:=4) (v:=?_) rfl rfl (by kernel_rfl) (by kernel_rfl) (by kernel_rfl) (fun _ _ _ h=>h) ⟨Or.inl ⟨by rfl,?_⟩,fun _=>rfl⟩ ?_;rotate_left
                    · (intro w;go_simp;try with_reducible rfl)
                    refine wpAnyIn_take (i:=6) (v:=?_) rfl rfl (by kernel_rfl) (by kernel_rfl) (by kernel_rfl) (fun _ _ _ h=>h) ⟨Or.inl ⟨by rfl,?_⟩,fun _=>rfl⟩ ?_;rotate_left
                    · (intro w;go_simp;try with_reducible rfl)
                    refine wpAnyIn_ready (rs:=[8]) (by kernel_rfl) (by simp) ?_;refine AllReadyIn.cons rfl (fun K q=>?_) ?_
                    · go_simp
                      refine q _ _ ?_;clear q K;refine wpAnyIn_take (i:=9) (v:=?_) rfl rfl (by kernel_rfl) (by kernel_rfl) (by kernel_rfl) (fun _ _ _ h=>h) ⟨Or.inl ⟨by rfl,?_⟩,fun _=>rfl⟩ ?_;rotate_left
                      · (intro w;go_simp;try with_reducible rfl)
                      refine wpAnyIn_ready (rs:=[10]) (by kernel_rfl) (by simp) ?_;refine AllReadyIn.cons rfl (fun K q=>?_) ?_
                      · go_simp
                        refine q _ _ ?_;clear q K;refine wpAnyIn_done (by kernel_rfl) ?_ _;exact G
                      exact AllReadyIn.nil
                    exact AllReadyIn.nil
                  refine AllReadyIn.cons rfl (fun K q=>?_) ?_
                  · go_simp
                    refine q _ _ ?_;clear q K;refine wpAnyIn_ready (rs:=[3]) (by kernel_rfl) (by simp) ?_;refine AllReadyIn.cons rfl (fun K q=>?_) ?_
                    · go_simp
                      refine q _ _ ?_;clear q K;refine wpAnyIn_take (i:=4) (v:=?_) rfl rfl (by kernel_rfl) (by kernel_rfl) (by kernel_rfl) (fun _ _ _ h=>h) ⟨Or.inl ⟨by rfl,?_⟩,fun _=>rfl⟩ ?_;rotate_left
                      · (intro w;go_simp;try with_reducible rfl)
                      refine wpAnyIn_take (i:=6) (v:=?_) rfl rfl (by kernel_rfl) (by kernel_rfl) (by kernel_rfl) (fun _ _ _ h=>h) ⟨Or.inl ⟨by rfl,?_⟩,fun _=>rfl⟩ ?_;rotate_left
                      · (intro w;go_simp;try with_reducible rfl)
                      refine wpAnyIn_take (i:=9) (v:=?_) rfl rfl (by kernel_rfl) (by kernel_rfl) (by kernel_rfl) (fun _ _ _ h=>h) ⟨Or.inl ⟨by rfl,?_⟩,fun _=>rfl⟩ ?_;rotate_left
                      · (intro w;go_simp;try with_reducible rfl)
                      refine wpAnyIn_ready (rs:=[10]) (by kernel_rfl) (by simp) ?_;refine AllReadyIn.cons rfl (fun K q=>?_) ?_
                      · go_simp
                        refine q _ _ ?_;clear q K;refine wpAnyIn_done (by kernel_rfl) ?_ _;exact G
                      exact AllReadyIn.nil
                    exact AllReadyIn.nil
                  exact AllReadyIn.nil
                refine AllReadyIn.cons rfl (fun K q=>?_) ?_
                · go_simp
                  refine q _ _ ?_;clear q K;refine wpAnyIn_take (i:=4) (v:=?_) rfl rfl (by kernel_rfl) (by kernel_rfl) (by kernel_rfl) (fun _ _ _ h=>h) ⟨Or.inl ⟨by rfl,?_⟩,fun _=>rfl⟩ ?_;rotate_left
                  · (intro w;go_simp;try with_reducible rfl)
                  refine wpAnyIn_take (i:=6) (v:=?_) rfl rfl (by kernel_rfl) (by kernel_rfl) (by kernel_rfl) (fun _ _ _ h=>h) ⟨Or.inl ⟨by rfl,?_⟩,fun _=>rfl⟩ ?_;rotate_left
                  · (intro w;go_simp;try with_reducible rfl)
                  refine wpAnyIn_ready (rs:=[0]) (by kernel_rfl) (by simp) ?_;refine AllReadyIn.cons rfl (fun K q=>?_) ?_
                  · go_simp
                    refine q _ _ ?_;clear q K;refine wpAnyIn_take (i:=2) (v:=?_) rfl rfl (by kernel_rfl) (by kernel_rfl) (by kernel_rfl) (fun _ _ _ h=>h) ⟨Or.inl ⟨by rfl,?_⟩,fun _=>rfl⟩ ?_;rotate_left
                    · (intro w;go_simp;try with_reducible rfl)
                    refine wpAnyIn_take (i:=7) (v:=?_) rfl rfl (by kernel_rfl) (by kernel_rfl) (by kernel_rfl) (fun _ _ _ h=>h) ⟨Or.inl ⟨by rfl,?_⟩,fun _=>rfl⟩ ?_;rotate_left
                    · (intro w;go_simp;try with_reducible rfl)
                    refine wpAnyIn_ready (rs:=[8]) (by kernel_rfl) (by simp) ?_;refine AllReadyIn.cons rfl (fun K q=>?_) ?_
                    · go_simp
                      refine q _ _ ?_;clear q K;refine wpAnyIn_take (i:=9) (v:=?_) rfl rfl (by kernel_rfl) (by kernel_rfl) (by kernel_rfl) (fun _ _ _ h=>h) ⟨Or.inl ⟨by rfl,?_⟩,fun _=>rfl⟩ ?_;rotate_left
                      · (intro w;go_simp;try with_reducible rfl)
                      refine wpAnyIn_ready (rs:=[10]) (by kernel_rfl) (by simp) ?_;refine AllReadyIn.cons rfl (fun K q=>?_) ?_
                      · go_simp
                        refine q _ _ ?_;clear q K;refine wpAnyIn_done (by kernel_rfl) ?_ _;exact G
                      exact AllReadyIn.nil
                    exact AllReadyIn.nil
                  exact AllReadyIn.nil
                exact AllReadyIn.nil
              gi_wp2
              go_goals
              exact RetP.drew (RetP.drew (ZW X.out z0 z1 z2 Y.out D4.out Z.out (by unfold ZZ;rw[Int.toNat_of_nonneg z0,if_neg (fun h=>Nat.not_succ_le_zero _ (z4▸h.1)),if_neg HZ.out,if_pos z4])))
  case done=>
    rintro D ys W hD af ⟨O,aa,J⟩ q
    have am: ¬t.there total row at_:=by subst hL;exact qga af O
    have an:=J.size;have ab:=ab.trans (J.mono (by omega));have r:=(J.block _ k4).trans b4;have U:=(J.block _ k5).trans b5;have ae:w1.heap.size≤D:=by simp at hD;omega
    have f0:=unfrozen_of_block r 0;have f1:=unfrozen_of_block r 1;have f2:=unfrozen_of_block r 2;have f3:=unfrozen_of_block r 3;have f4:=unfrozen_of_block r 4;have f5:=unfrozen_of_block r 5;have f6:=unfrozen_of_block U 0;have c0:=qd r 0;have c1:=qd r 1;have c2:=qd r 2;have c3:=qd r 3;have c4:=qd r 4;have c5:=qd r 5;have c6:=qd U 0;simp only[List.getElem?_toArray,List.getElem?_cons_zero,List.getElem?_cons_succ]at c0 c1 c2 c3 c4 c5 c6;have m4:w.heap.size+1+1+1+1<W.heap.size:=by omega
    have m5:w.heap.size+1+1+1+1+1<W.heap.size:=by omega
    have HB:=hid J;have HK:=hid q;have D4:=hid r;have Z:=hid U;have HY:=hid af;have HT:=hid O;clear J aa r U q af O;gi_wp2
    have e4:=(Below.heap_setCell ((((((W.setCell ⟨w.heap.size+1+1+1+1,0,none⟩ (.int .i64 0)).setCell ⟨w.heap.size+1+1+1+1,1,none⟩ (.int .u64 0)).setCell ⟨w.heap.size+1+1+1+1,2,none⟩ (.int .u64 0)).setCell ⟨w.heap.size+1+1+1+1,3,none⟩ (.int .u64 0)).setCell ⟨w.heap.size+1+1+1+1,4,none⟩ (.bool false)).setCell ⟨w.heap.size+1+1+1+1,5,none⟩ (.bool false)) ⟨w.heap.size+1+1+1+1+1,0,none⟩ (.int .i64 6) (w.heap.size+1+1+1+1) (by simp)).trans (ya D4.out (.int .i64 0) (.int .u64 0) (.int .u64 0) (.int .u64 0) (.bool false) (.bool false));have e5:=block_setCell (i:=0) ((YO (c:=w.heap.size+1+1+1+1+1) (b:=w.heap.size+1+1+1+1) (by omega) (.int .i64 0) (.int .u64 0) (.int .u64 0) (.int .u64 0) (.bool false) (.bool false)).trans Z.out) (.int .i64 6);have eK:=(Below.heap_setCell ((((((W.setCell ⟨w.heap.size+1+1+1+1,0,none⟩ (.int .i64 0)).setCell ⟨w.heap.size+1+1+1+1,1,none⟩ (.int .u64 0)).setCell ⟨w.heap.size+1+1+1+1,2,none⟩ (.int .u64 0)).setCell ⟨w.heap.size+1+1+1+1,3,none⟩ (.int .u64 0)).setCell ⟨w.heap.size+1+1+1+1,4,none⟩ (.bool false)).setCell ⟨w.heap.size+1+1+1+1,5,none⟩ (.bool false)) ⟨w.heap.size+1+1+1+1+1,0,none⟩ (.int .i64 6) D (by show D≠w.heap.size+1+1+1+1+1;omega)).trans ((YO (c:=D) (b:=w.heap.size+1+1+1+1) (by omega) (.int .i64 0) (.int .u64 0) (.int .u64 0) (.int .u64 0) (.bool false) (.bool false)).trans HK.out);have eB:=(yb ab (b:=w.heap.size+1+1+1+1) (by omega) (.int .i64 0) (.int .u64 0) (.int .u64 0) (.int .u64 0) (.bool false) (.bool false)).setCell (p:=⟨w.heap.size+1+1+1+1+1,0,none⟩) (by show w.heap.size≤w.heap.size+1+1+1+1+1;omega) (.int .i64 6);have I:=belowK_b (w:=w1) Nl _ D _ (.deferred none) ae eK rfl rfl;refine⟨by simp,.inl ⟨_,_,rfl,run_takeDeferred eK,?_⟩⟩;refine⟨_,zi rfl rfl rfl (b:=w.heap.size+1+1+1+1) (c:=w.heap.size+1+1+1+1+1) ((I.block _ k4).trans e4) ((I.block _ k5).trans e5) rfl,?_,eB.trans (I.mono (by omega))⟩;rfl
  case stop=>
    rintro D c ag W hD ac ⟨⟨ay,k,rfl,O,G,ah⟩,J⟩ q
    have ae:w1.heap.size≤D:=by simp at hD;omega
    rcases ah with⟨rfl,r0,r1,e4,e5⟩|⟨rfl,r0,r,U⟩
    · have hh:t.there total row at_∧ZZ t.fn t.ln total row.toNat at_ (nth L k.1) (ZF _ ay)=(t.spot total row.toNat at_).val.cells:=by subst hL;exact qeQ ht ak H.out ac.1 O G r0 r1
      rw[hh.2]at e4;have E4:=hid e4;have E5:=hid e5;have HK:=hid q;have aE:=hh.1;clear e4 e5 q hh O ac;gi_wp2
      have I:=belowK_b (w:=w1) Nl W D _ (.deferred none) ae HK.out rfl rfl;refine⟨by simp,.inl ⟨_,_,rfl,run_takeDeferred HK.out,?_⟩⟩;refine⟨_,zi rfl rfl rfl (b:=w.heap.size+1+1+1+1) (c:=w.heap.size+1+1+1+1+1) ((I.block _ k4).trans E4.out) ((I.block _ k5).trans E5.out) rfl,?_,J.trans (I.mono (by omega))⟩;rfl
    · have am: ¬t.there total row at_:=by subst hL;exact qbZ ac.1 O G r0
      have an:=(Ai q).1;have ab:=J;replace r:W.heap[w.heap.size+1+1+1+1]? =some (Obj.cells #[.int .i64 0,.int .u64 0,.int .u64 0,.int .u64 0,.bool false,.bool false] 96 (0,0)):=r
      clear J O ac;have f0:=unfrozen_of_block r 0;have f1:=unfrozen_of_block r 1;have f2:=unfrozen_of_block r 2;have f3:=unfrozen_of_block r 3;have f4:=unfrozen_of_block r 4;have f5:=unfrozen_of_block r 5;have f6:=unfrozen_of_block U 0;have c0:=qd r 0;have c1:=qd r 1;have c2:=qd r 2;have c3:=qd r 3;have c4:=qd r 4;have c5:=qd r 5;have c6:=qd U 0;simp only[List.getElem?_toArray,List.getElem?_cons_zero,List.getElem?_cons_succ]at c0 c1 c2 c3 c4 c5 c6;have m4:w.heap.size+1+1+1+1<W.heap.size:=by omega
      have m5:w.heap.size+1+1+1+1+1<W.heap.size:=by omega
      have HK:=hid q;have D4:=hid r;have Z:=hid U;clear r U q;gi_wp2
      have e4:=(Below.heap_setCell ((((((W.setCell ⟨w.heap.size+1+1+1+1,0,none⟩ (.int .i64 0)).setCell ⟨w.heap.size+1+1+1+1,1,none⟩ (.int .u64 0)).setCell ⟨w.heap.size+1+1+1+1,2,none⟩ (.int .u64 0)).setCell ⟨w.heap.size+1+1+1+1,3,none⟩ (.int .u64 0)).setCell ⟨w.heap.size+1+1+1+1,4,none⟩ (.bool false)).setCell ⟨w.heap.size+1+1+1+1,5,none⟩ (.bool false)) ⟨w.heap.size+1+1+1+1+1,0,none⟩ (.int .i64 6) (w.heap.size+1+1+1+1) (by simp)).trans (ya D4.out (.int .i64 0) (.int .u64 0) (.int .u64 0) (.int .u64 0) (.bool false) (.bool false));have e5:=block_setCell (i:=0) ((YO (c:=w.heap.size+1+1+1+1+1) (b:=w.heap.size+1+1+1+1) (by omega) (.int .i64 0) (.int .u64 0) (.int .u64 0) (.int .u64 0) (.bool false) (.bool false)).trans Z.out) (.int .i64 6);have eK:=(Below.heap_setCell ((((((W.setCell ⟨w.heap.size+1+1+1+1,0,none⟩ (.int .i64 0)).setCell ⟨w.heap.size+1+1+1+1,1,none⟩ (.int .u64 0)).setCell ⟨w.heap.size+1+1+1+1,2,none⟩ (.int .u64 0)).setCell ⟨w.heap.size+1+1+1+1,3,none⟩ (.int .u64 0)).setCell ⟨w.heap.size+1+1+1+1,4,none⟩ (.bool false)).setCell ⟨w.heap.size+1+1+1+1,5,none⟩ (.bool false)) ⟨w.heap.size+1+1+1+1+1,0,none⟩ (.int .i64 6) D (by show D≠w.heap.size+1+1+1+1+1;omega)).trans ((YO (c:=D) (b:=w.heap.size+1+1+1+1) (by omega) (.int .i64 0) (.int .u64 0) (.int .u64 0) (.int .u64 0) (.bool false) (.bool false)).trans HK.out);have eB:=(yb ab (b:=w.heap.size+1+1+1+1) (by omega) (.int .i64 0) (.int .u64 0) (.int .u64 0) (.int .u64 0) (.bool false) (.bool false)).setCell (p:=⟨w.heap.size+1+1+1+1+1,0,none⟩) (by show w.heap.size≤w.heap.size+1+1+1+1+1;omega) (.int .i64 6);have I:=belowK_b (w:=w1) Nl _ D _ (.deferred none) ae eK rfl rfl;refine⟨by simp,.inl ⟨_,_,rfl,run_takeDeferred eK,?_⟩⟩;refine⟨_,zi rfl rfl rfl (b:=w.heap.size+1+1+1+1) (c:=w.heap.size+1+1+1+1+1) ((I.block _ k4).trans e4) ((I.block _ k5).trans e5) rfl,?_,eB.trans (I.mono (by omega))⟩;rfl
theorem Yc {P:Program}{fn:Func}{tmps:Array Value}{W:World}{b:Nat}{O U G q I J e:Value}{T:TypeId}{fr:Nat×Nat}
    (hr:fn.results= #[.cell 8 96,.tmp 9]) (Y:tmps[8]?.getD undef= .pointer (some ⟨b,0,none⟩)) (h9:tmps[9]?.getD undef=e)
    (o:W.heap[b]? =some (Obj.cells #[O,U,G,q,I,J] T fr)) (Z:P=Tryz.prog):
    (results fn tmps).run P W= .ok (.tuple #[.agg #[O,U,G,q,I,J],e]) W:=by
  subst Z;have r:=qd o 0;have c1:=qd o 1;have c2:=qd o 2;have X:=qd o 3;have D:=qd o 4;have V:=qd o 5;simp only[List.getElem?_toArray,List.getElem?_cons_zero,List.getElem?_cons_succ]at r c1 c2 X D V;simp[results,hr,Y,h9,go_sem,r,c1,c2,X,D,V]
def TreeV.spotR (t:TreeV)(total:Nat)(row:Int)(at_:Nat):SpotV:=if t.err total=0∧t.there total row at_ then t.spot total row.toNat at_ else SpotV.zero
def TreeV.spotE (t:TreeV)(total:Nat)(row:Int)(at_:Nat):Int:=if t.err total≠0 then t.err total else if t.there total row at_ then 0 else 6
theorem qdK (t:TreeV)(r:0≤t.l∧t.l≤4294967295)(total:Nat)(D:(total:Int)≤18446744073709551615)(h:t.err total≠0)(row:Int)(at_:Nat)(w:World):
    Calls Tryz.prog 52 #[t.val,.int .u64 total,.int .i64 row,.int .u64 at_] w fun e w'=>e= .returned (.tuple #[SpotV.zero.val,.int .i64 (t.err total)])∧Below w.heap.size w w':=by
  have J:(t.err total != 0)=true:=by rw[bne_iff_ne];exact h
  have H:=hid h;clear h;unfold TreeV.val;go_enter Tryz.func52,Tryz.ntmps52
  go_wp2_with fail
  refine(qdO t r total D H.out _).mono ?_;rintro e w1 ⟨rfl,o⟩;obtain⟨I,U⟩:=Q5 o;have q:=o.size;simp at q
  have V:w.heap.size<w1.heap.size:=by omega
  have O:w.heap.size+1<w1.heap.size:=by omega
  have b1:w1.heap[w.heap.size+1]? =some (Obj.cells #[.int .i64 0,.int .u64 0,.int .u64 0,.int .u64 0,.bool false,.bool false] 96 (0,0)):=by
    rw[o.block _ (by simp)];exact qD _ _ (by simp)
  have G:=hid b1;clear b1;go_wp2
  refine Bp (Yc rfl rfl rfl (b:=w.heap.size+1) (T:=96) (fr:=(0,0)) (ya G.out _ _ _ _ _ _) rfl) rfl ⟨rfl,yb (qu _ (Below.trans (Br.alloc Nl _) (o.mono (by simp)))) (by omega) _ _ _ _ _ _⟩
theorem qdJ {L:List Nat}(t:TreeV)(total:Nat)(U:1≤L.length)
    (V:Hid (∀w,Calls Tryz.prog 87 #[t.val,.int .u64 total] w fun e w'=> ∃v,e= .returned (.tuple #[v,.int .i64 0])∧w'.ownsRow w.heap.size 44 1 v L.length (L.map qaR)∧Below w.heap.size w w'))
    (O:Hid (∀k,k<L.length→(nth L k:Int)≤18446744073709551615)) (row:Int) (at_:Nat) (X:Hid (¬(0≤row∧row.toNat<L.length∧at_<nth L row.toNat))) (w:World):
    Calls Tryz.prog 52 #[t.val,.int .u64 total,.int .i64 row,.int .u64 at_] w fun e w'=>e= .returned (.tuple #[SpotV.zero.val,.int .i64 6])∧Below w.heap.size w w':=by
  unfold TreeV.val;go_enter Tryz.func52,Tryz.ntmps52
  go_wp2_with fail
  refine(V.out _).mono ?_;rintro e w1 ⟨v,rfl,D,o⟩;obtain⟨g,Z,rfl, -,ac,aa,q⟩:=Ye D U;clear D;have J:=hid q;clear q;obtain⟨hc,hf⟩:=Q5 o;have I:=o.size;simp at I
  have k0:w.heap.size<w1.heap.size:=by omega
  have k1:w.heap.size+1<w1.heap.size:=by omega
  have b1:w1.heap[w.heap.size+1]? =some (Obj.cells #[.int .i64 0,.int .u64 0,.int .u64 0,.int .u64 0,.bool false,.bool false] 96 (0,0)):=by
    rw[o.block _ (by simp)];exact qD _ _ (by simp)
  have G:=hid b1;have r:Below w.heap.size w w1:=qu _ (Below.trans (Br.alloc Nl _) (o.mono (by simp)));clear b1 o;by_cases hA:row<0
  · go_wp2
    refine Bp (Yc rfl rfl rfl (b:=w.heap.size+1) (T:=96) (fr:=(0,0)) (ya G.out _ _ _ _ _ _) rfl) rfl ⟨rfl,yb r (by omega) _ _ _ _ _ _⟩
  · by_cases Y:(L.length:Int)≤row
    · go_wp2
      refine Bp (Yc rfl rfl rfl (b:=w.heap.size+1) (T:=96) (fr:=(0,0)) (ya G.out _ _ _ _ _ _) rfl) rfl ⟨rfl,yb r (by omega) _ _ _ _ _ _⟩
    · obtain⟨k,rfl⟩: ∃k:Nat,row=k:=⟨row.toNat,by omega⟩
      have hx:=J.out k (by omega);have ab:=O.out k (by omega);have q1:((nth L k:Int)≤(at_:Int)):=by
        have:=X.out
        rw[Int.toNat_natCast]at this;omega
      go_wp2
      refine Bp (Yc rfl rfl rfl (b:=w.heap.size+1) (T:=96) (fr:=(0,0)) (ya G.out _ _ _ _ _ _) rfl) rfl ⟨rfl,yb r (by omega) _ _ _ _ _ _⟩
def qdS (f l:Int)(total k at_ n b:Nat)(root:Bool):Array Value:=
  if root=true then #[.int .i64 k,.int .u64 at_,.int .u64 0,.int .u64 b,.bool ((at_:Int)==(n:Int) - 1),.bool true]
  else if(at_:Int)=(n:Int) - 1 then #[.int .i64 k,.int .u64 at_,.int .u64 (IntKind.u64.wrap (at_*(if k=0 then l else f))),.int .u64 (if k=0 then total else b:Nat),.bool true,.bool false]
  else #[.int .i64 k,.int .u64 at_,.int .u64 (IntKind.u64.wrap (at_*(if k=0 then l else f))),.int .u64 (IntKind.u64.wrap (IntKind.u64.wrap (at_*(if k=0 then l else f))+(if k=0 then l else f))),.bool false,.bool false]
def JX (t:TreeV)(L:List Nat)(total k at_:Nat)(A:Array Value):Prop:=A=qdS t.f t.l total k at_ (nth L k) (nth L (k - 1)) (decide (k=L.length - 1))
theorem Z6 {t:TreeV}{L:List Nat}{total k at_:Nat}{fn:Func}{tmps:Array Value}{w w1:World}{a0 a1 a2 Z a4 X I J r q D G:Value}{o:Obj}
    (hr:fn.results= #[.cell 8 96,.tmp 9]) (U:tmps[8]?.getD undef= .pointer (some ⟨w.heap.size+1,0,none⟩)) (h9:tmps[9]?.getD undef= .int .i64 0)
    (V:w1.heap[w.heap.size+1]? =some (Obj.cells #[a0,a1,a2,Z,a4,X] 96 (0,0))) (Y:Below w.heap.size w w1) (k1:w.heap.size+1<w1.heap.size)
    (O:JX t L total k at_ #[I,J,r,q,D,G]):
    bodyPost Tryz.prog fn (fun e w'=>(∃A,e=Ending.returned (.tuple #[.agg A,.int .i64 0])∧JX t L total k at_ A)∧Below w.heap.size w w') Exit.ret ⟨tmps,[]⟩
      (((((((w1.setCell ⟨w.heap.size+1,0,none⟩ I).setCell ⟨w.heap.size+1,1,none⟩ J).setCell ⟨w.heap.size+1,2,none⟩ r).setCell ⟨w.heap.size+1,3,none⟩ q).setCell ⟨w.heap.size+1,4,none⟩ D).setCell ⟨w.heap.size+1,5,none⟩ G).alloc o):=by
  refine Bp (Yc hr U h9 (b:=w.heap.size+1) (T:=96) (fr:=(0,0)) ?_ rfl) rfl ⟨⟨_,rfl,O⟩,(yb Y (by omega) _ _ _ _ _ _).alloc (by simp;omega) _⟩;rw[Bh _ _ _ (by simp;omega)];exact ya V _ _ _ _ _ _
theorem qcZ {L:List Nat}(t:TreeV)(total:Nat)(r:1≤L.length)(af:2≤L.length)
    (HR:Hid (∀w,Calls Tryz.prog 87 #[t.val,.int .u64 total] w fun e w'=> ∃v,e= .returned (.tuple #[v,.int .i64 0])∧w'.ownsRow w.heap.size 44 1 v L.length (L.map qaR)∧Below w.heap.size w w'))
    (J:Hid (∀k,k<L.length→(nth L k:Int)≤18446744073709551615)) (ad:0≤t.f) (ae:t.f≤18446744073709551615) (al:0≤t.l) (ak:t.l≤4294967295) (aj:(L.length:Int)≤9223372036854775807)
    (k:Nat) (at_:Nat) (z1:k<L.length) (z2:at_<nth L k) (w:World):
    Calls Tryz.prog 52 #[t.val,.int .u64 total,.int .i64 k,.int .u64 at_] w fun e w'=>(∃A,e= .returned (.tuple #[.agg A,.int .i64 0])∧JX t L total k at_ A)∧Below w.heap.size w w':=by
  unfold TreeV.val;go_enter Tryz.func52,Tryz.ntmps52
  go_wp2_with fail
  refine(HR.out _).mono ?_;rintro e w1 ⟨v,rfl,Y,D⟩;obtain⟨g,ag,rfl, -,am,ah,G⟩:=Ye Y r;clear Y;have I:=hid G;clear G;obtain⟨hc,hf⟩:=Q5 D;have ac:=D.size;simp at ac
  have k0:w.heap.size<w1.heap.size:=by omega
  have V:w.heap.size+1<w1.heap.size:=by omega
  have b1:w1.heap[w.heap.size+1]? =some (Obj.cells #[.int .i64 0,.int .u64 0,.int .u64 0,.int .u64 0,.bool false,.bool false] 96 (0,0)):=by
    rw[D.block _ (by simp)];exact qD _ _ (by simp)
  have X:=hid b1;have q:Below w.heap.size w w1:=qu _ (Below.trans (Br.alloc Nl _) (D.mono (by simp)));clear b1 D;have hx:=I.out k z1;have ai:=J.out k z1;have q0:((L.length:Int)≤(k:Int))=False:=eq_false (by omega);have q1:((nth L k:Int)≤(at_:Int))=False:=eq_false (by omega);by_cases Z:k=L.length - 1
  · have q2:((k:Int)==(L.length:Int) - 1)=true:=by rw[beq_iff_eq];omega
    obtain⟨j,rfl⟩: ∃j,k=j+1:=⟨k - 1,by omega⟩;have hy:=I.out j (by omega);have aa:=J.out j (by omega);have o:=hid Z;clear Z;go_wp2
    refine Z6 (t:=t) (L:=L) (total:=total) (k:=j+1) (at_:=at_) (fn:=Tryz.f52) ?_ ?_ ?_ X.out q V ?_
    · rfl
    · rfl
    · rfl
    unfold JX qdS;rw[if_pos (decide_eq_true o.out)];rfl
  · have q2:((k:Int)==(L.length:Int) - 1)=false:=by rw[beq_eq_false_iff_ne];omega
    have o:=hid Z;clear Z;by_cases O:(at_:Int)=(nth L k:Int) - 1
    · have q4:((at_:Int)==(nth L k:Int) - 1)=true:=by rw[beq_iff_eq];exact O
      have U:=hid O;clear O
      cases k with
      | zero=>
        have ab:(L=[])=False:=eq_false (by intro h;rw[h]at r;simp at r);go_wp2
        refine Z6 (t:=t) (L:=L) (total:=total) (k:=0) (at_:=at_) (fn:=Tryz.f52) ?_ ?_ ?_ X.out q V ?_
        · rfl
        · rfl
        · rfl
        unfold JX qdS;rw[if_neg (by simp;exact o.out),if_pos U.out];simp
      | succ j=>
        have hy:=I.out j (by omega);have aa:=J.out j (by omega);go_wp2
        refine Z6 (t:=t) (L:=L) (total:=total) (k:=j+1) (at_:=at_) (fn:=Tryz.f52) ?_ ?_ ?_ X.out q V ?_
        · rfl
        · rfl
        · rfl
        unfold JX qdS;rw[if_neg (by simp;exact o.out),if_pos U.out];simp
    · have q4:((at_:Int)==(nth L k:Int) - 1)=false:=by rw[beq_eq_false_iff_ne];exact O
      have U:=hid O;clear O
      cases k with
      | zero=>
        have ab:(L=[])=False:=eq_false (by intro h;rw[h]at r;simp at r);go_wp2
        refine Z6 (t:=t) (L:=L) (total:=total) (k:=0) (at_:=at_) (fn:=Tryz.f52) ?_ ?_ ?_ X.out q V ?_
        · rfl
        · rfl
        · rfl
        unfold JX qdS;rw[if_neg (by simp;exact o.out),if_neg U.out];simp
      | succ j=>
        have hy:=I.out j (by omega);have aa:=J.out j (by omega);go_wp2
        refine Z6 (t:=t) (L:=L) (total:=total) (k:=j+1) (at_:=at_) (fn:=Tryz.f52) ?_ ?_ ?_ X.out q V ?_
        · rfl
        · rfl
        · rfl
        unfold JX qdS;rw[if_neg (by simp;exact o.out),if_neg U.out];simp
end Go.Proofs.YthjoojnlnlmljaaGreat
namespace Go.Proofs.YthjoojnlnlmljaaGreat
open Go.ChangeShapes Go.WideShapes Go.ChangeAt Go.RowKit Go.Joins Go.Shelf Go.Maps
open Go.Lib (hid)
theorem qhl {t:TreeV}{p total:Nat}{L:List Nat}(X:t.f=(t.fn:Int))(D:t.l=(t.ln:Int))(O:1≤t.ln)(U:(total:Int)≤18446744073709551615)(h:RowsIs t.fn p (lvs total t.ln) L){row at_:Nat}(r:row<L.length)(Z:at_<nth L row):
    qdS t.f t.l total row at_ (nth L row) (nth L (row - 1)) (decide (row=L.length - 1))=(QT t.fn t.ln total L row at_).val.cells:=by
  have J:((at_:Int)==(nth L row:Int) - 1)=decide (at_=nth L row - 1):=by
    rw[Bool.eq_iff_iff,beq_iff_eq,decide_eq_true_iff];omega
  rw[X,D];generalize t.fn=f at*;generalize t.ln=l at*;unfold qdS QT;by_cases o:1≤row∧nth L row=1
  · rw[if_pos (decide_eq_true ((h.root_iff r).1 o)),if_pos o,J];rfl
  · have I: ¬row=L.length - 1:=fun e=>o ((h.root_iff r).2 e)
    obtain⟨b1,b2, -⟩:=ZY O h r Z o;have aa:((if row=0 then total else nth L (row - 1):Nat):Int)≤18446744073709551615:=by
      by_cases G:row=0
      · rw[if_pos G];exact U
      · rw[if_neg G];exact zl O U h _ (by omega)
    have e0:(if row=0 then(l:Int) else(f:Int))=((if row=0 then l else f:Nat):Int):=by split<;>rfl
    have w1:IntKind.u64.wrap ((at_:Int)*((if row=0 then l else f:Nat):Int))=((at_*(if row=0 then l else f):Nat):Int):=by
      rw[wrap_u64,←Int.natCast_mul];omega
    rw[e0,if_neg (by simp;exact I),if_neg o,w1];by_cases q:at_=nth L row - 1
    · rw[if_pos (show(at_:Int)=(nth L row:Int) - 1 by omega),if_pos q];rfl
    · have V:=b2 q
      have Y:IntKind.u64.wrap (((at_*(if row=0 then l else f):Nat):Int)+((if row=0 then l else f:Nat):Int))=(((at_+1)*(if row=0 then l else f):Nat):Int):=by
        rw[Nat.add_mul,Nat.one_mul]at V⊢;rw[wrap_u64,←Int.natCast_add];omega
      rw[if_neg (show ¬(at_:Int)=(nth L row:Int) - 1 by omega),if_neg q,Y];rfl
theorem yC (t:TreeV)(J:0≤t.l∧t.l≤4294967295)(total:Nat)(D:(total:Int)≤18446744073709551615)(row:Int)(at_:Nat)(w:World):
    Calls Tryz.prog 52 #[t.val,.int .u64 total,.int .i64 row,.int .u64 at_] w fun e w'=>e= .returned (.tuple #[(t.spotR total row at_).val,.int .i64 (t.spotE total row at_)])∧Below w.heap.size w w':=by
  by_cases q:t.err total=0
  · obtain⟨G,ac,U,Y⟩:=Qx J q
    have ad:=qo Y;have X:t.f=(t.fn:Int):=by unfold TreeV.fn;omega
    have r:=qM q;have I:=zl G D r;have ab:=r.len;have hp:(t.pn:Int)≤255:=by unfold TreeV.pn;omega
    have aa:=r.most;have V:=hid (fun w=>Jl t J total D q w);by_cases o:t.there total row at_
    · unfold TreeV.spotR TreeV.spotE
      rw[if_pos ⟨q,o⟩,if_neg (by simp[q]),if_pos o];obtain⟨z0,z1,z2⟩:=o;obtain⟨k,rfl⟩: ∃k:Nat,row=k:=⟨row.toNat,by omega⟩;rw[Int.toNat_natCast]at z1 z2⊢;refine(qcZ (L:=t.rowsOf total) t total (by omega) (by omega) V (hid I) (by omega) (by omega) (by omega) (by omega) (by omega) k at_ z1 z2 w).mono ?_;rintro e w' ⟨⟨A,rfl,O⟩,Z⟩
      refine⟨?_,Z⟩;unfold JX at O;rw[O,qhl X U G D r z1 z2];rfl
    · unfold TreeV.spotR TreeV.spotE
      rw[if_neg (fun h=>o h.2),if_neg (by simp[q]),if_neg o];exact qdJ (L:=t.rowsOf total) t total (by omega) V (hid I) row at_ (hid o) w
  · unfold TreeV.spotR TreeV.spotE
    rw[if_neg (fun h=>q h.1),if_pos q];exact qdK t J total D q row at_ w
theorem Ze (t:TreeV)(r:0≤t.l∧t.l≤4294967295)(total:Nat)(D:(total:Int)≤18446744073709551615)(row:Int)(at_:Nat)(w:World):
    Calls Tryz.prog 105 #[t.val,.int .u64 total,.int .i64 row,.int .u64 at_] w fun e w'=>e= .returned (.tuple #[(t.spotR total row at_).val,.int .i64 (t.spotE total row at_)])∧Below w.heap.size w w':=by
  by_cases q:t.err total=0
  · refine(qii t r total D q row at_ w).mono ?_
    rintro e w' ⟨rfl,G⟩
    refine⟨?_,G⟩;unfold TreeV.spotR TreeV.spotE;by_cases o:t.there total row at_
    · rw[if_pos (show t.err total=0∧t.there total row at_ from⟨q,o⟩),if_neg (show ¬(t.err total≠0) by simp[q]),if_pos o,if_pos o]
    · rw[if_neg (show ¬(t.err total=0∧t.there total row at_) from fun h=>o h.2),if_neg (show ¬(t.err total≠0) by simp[q]),if_neg o,if_neg o]
  · unfold TreeV.spotR TreeV.spotE
    rw[if_neg (fun h=>q h.1),if_pos q];exact qg2 t r total D q row at_ w
end Go.Proofs.YthjoojnlnlmljaaGreat

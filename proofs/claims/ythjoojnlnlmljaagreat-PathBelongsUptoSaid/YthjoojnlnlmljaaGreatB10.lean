/- The walk of shape.Spot, where the tree may be. No condition. -/
import Derived.Test.YthjoojnlnlmljaaGreatP00
import Derived.Test.YthjoojnlnlmljaaGreatB08
import Derived.Sort.QuietIn
import Derived.BigRegionIn
import Derived.Test.YthjoojnlnlmljaaGreatB09
import Derived.Lib.SmallJoins
import Derived.Maps.AppendAt
import Derived.BigQuiet
import Derived.Deep.QuietTactic
set_option linter.all false
set_option maxRecDepth 100000
set_option maxHeartbeats 8000000
namespace Go.Proofs.YthjoojnlnlmljaaGreat
open Go.ChangeShapes Go.WideShapes Go.ChangeAt Go.RowKit Go.Joins Go.Shelf Go.Maps
open Go.Lib (hid)
attribute [local go_sem] Oper.semAt_some
theorem zc {G X:Prop}(h:G→X)(g:G):X:=h g
theorem qjh (t:TreeV)(hl:0≤t.l∧t.l≤4294967295)(total:Nat)(ht:(total:Int)≤18446744073709551615)(h:t.err total=0)(row:Int)(at_:Nat)(w:World):
    Calls Tryz.prog 105 #[t.val,.int .u64 total,.int .i64 row,.int .u64 at_] w fun e w'=>e= .returned (.tuple #[(if t.there total row at_ then(t.spot total row.toNat at_).val else SpotV.zero.val),.int .i64 (if t.there total row at_ then 0 else 6)])∧Below w.heap.size w w':=by
  have hv:=Q5 h;obtain⟨L,hL⟩:=Ex (t.rowsOf total);obtain⟨aj,aG,ai, -⟩:=Qu hl h;have aA:=qn hv;have ak:t.f=(t.fn:Int):=by unfold TreeV.fn;omega
  have aF:(t.fn:Int)≤18446744073709551615:=by omega
  have az:RowsIs t.fn t.pn (lvs total t.ln) L:=by rw[←hL];exact qF h
  have ax:=Y9 aj ht az;have HF:=hid ak;have ap:=hid ai;clear ak ai aA;have H:=hid h;clear h;refine(callsIn_wide (n:=9)).1 ?_;refine callsIn_of_wp_marks Tryz.func105 rfl trivial ?_ rfl;unfold TreeV.val;simp only[Tryz.ntmps105,List.size_toArray,List.length_cons,List.length_nil,Nat.reduceAdd,Nat.reduceSub,Array.replicate_succ,Array.replicate_zero,List.push_toArray,List.append_toArray,List.nil_append,List.cons_append];gi_wp2_with fail
  refine qbb ?_;gi_wp2_with fail
  refine⟨trivial,?_⟩;refine(callsIn_wide.2 (qby t hl total ht _)).mono ?_;rintro e w1 ⟨rfl,ad⟩;rw[H.out];obtain⟨hc,hf⟩:=yS ad;have ar:=ad.size;simp at ar
  have k0:w.heap.size<w1.heap.size:=by omega
  have k1:w.heap.size+1<w1.heap.size:=by omega
  have k2:w.heap.size+1+1<w1.heap.size:=by omega
  have k3:w.heap.size+1+1+1<w1.heap.size:=by omega
  have k4:w.heap.size+1+1+1+1<w1.heap.size:=by omega
  have k5:w.heap.size+1+1+1+1+1<w1.heap.size:=by omega
  have ab:Below w.heap.size w w1:=by
    refine Below.trans ?_ (ad.mono (by simp;omega));repeat(first|exact Below.refl _ _|(refine Below.alloc ?_ (by simp;omega) _)|(refine Below.alloc ?_ (by simp) _))
  gi_wp2_with fail
  refine wpIn_label ?_;gi_wp2_with fail
  refine⟨trivial,?_⟩;refine(callsIn_wide.2 (qiO t total _)).mono ?_;rintro e w2 ⟨rfl,rfl⟩;gi_wp2_with fail
  have ay:w1.cell? ⟨w.heap.size,2,none⟩=some (.int .i64 t.f):=(hc _ _ (by simp;omega)).trans (by simp[go_sem]);have aC:w1.cell? ⟨w.heap.size,4,none⟩=some (.int .u32 t.l):=(hc _ _ (by simp;omega)).trans (by simp[go_sem]);have r1:w1.cell? ⟨w.heap.size+1,0,none⟩=some (.int .u64 total):=(hc _ _ (by simp)).trans (by simp[go_sem]);have r2:w1.cell? ⟨w.heap.size+1+1,0,none⟩=some (.int .i64 row):=(hc _ _ (by simp)).trans (by simp[go_sem]);have r3:w1.cell? ⟨w.heap.size+1+1+1,0,none⟩=some (.int .u64 at_):=(hc _ _ (by simp)).trans (by simp[go_sem]);have b4:w1.heap[w.heap.size+1+1+1+1]? =some (Obj.cells Kh 96 (0,0)):=by
    rw[ad.block _ (by simp)];rw[Bh _ _ _ (by simp)];exact qz _ _ (by simp)
  have b5:w1.heap[w.heap.size+1+1+1+1+1]? =some (Obj.cells #[.int .i64 0] 30 (0,0)):=by
    rw[ad.block _ (by simp)];exact qz _ _ (by simp)
  have aw:(((w1.alloc (.cells #[.int .u64 0] 44)).alloc (.cells t.arr 26)).alloc (.cells #[.int .u64 total] 44)).heap[w1.heap.size]? =some (Obj.cells #[.int .u64 0] 44 (0,0)):=by
    rw[Bh _ _ _ (by simp;omega),Bh _ _ _ (by simp)];exact Wn _ _
  have aq:(((w1.alloc (.cells #[.int .u64 0] 44)).alloc (.cells t.arr 26)).alloc (.cells #[.int .u64 total] 44)).heap[w1.heap.size+1]? =some (Obj.cells t.arr 26 (0,0)):=by
    rw[Bh _ _ _ (by simp)];exact qz _ _ (by simp)
  have aD:(((w1.alloc (.cells #[.int .u64 0] 44)).alloc (.cells t.arr 26)).alloc (.cells #[.int .u64 total] 44)).heap[w1.heap.size+1+1]? =some (Obj.cells #[.int .u64 total] 44 (0,0)):=
    qz _ _ (by simp)
  have ao:Below w1.heap.size w1 (((w1.alloc (.cells #[.int .u64 0] 44)).alloc (.cells t.arr 26)).alloc (.cells #[.int .u64 total] 44)):=(((Below.refl _ w1).alloc Nl _).alloc (by simp) _).alloc (by simp;omega) _;have av:=qgl (9 - 1) t hl total ht hv _ _ _ aq aD L hL;refine wpIn_rangeFunc_ownG rfl (by omega) (gf:=146) (lb:= #[.pointer (some ⟨w1.heap.size+1,0,none⟩),.pointer (some ⟨w1.heap.size+1+1,0,none⟩)]) rfl trivial (enters_of Tryz.func146 (by kernel_rfl) rfl)
    av (fun h k=>h.trans k) (fun W l o o' _ hl ho _=>KpT.putObj W l o o' hl ho) Br (fun _=>rfl)
    (SpotI w1 L row) (SpotX w t total L row at_)
    (SpotI.own (by simp;omega)) (fun c=>SpotX.own (by simp;omega))
    ⟨fun k G=>(by cases G),aw,ao⟩
    (fun x=> { tmps:= #[.agg t.c,.int .u64 total,.int .i64 row,.int .u64 at_,.pointer (some ⟨w.heap.size,0,none⟩),.pointer (some ⟨w.heap.size+1,0,none⟩),.pointer (some ⟨w.heap.size+1+1,0,none⟩),.pointer (some ⟨w.heap.size+1+1+1,0,none⟩),.pointer (some ⟨w.heap.size+1+1+1+1,0,none⟩),.pointer (some ⟨w.heap.size+1+1+1+1+1,0,none⟩),.int .i64 0,
      .pointer (some ⟨w1.heap.size,0,none⟩),.int .i64 (x.1:Nat),.int .u64 (nth L x.1),undef,undef,undef,.agg t.c,.int .u64 total,.int .i64 0,.int .i64 0,.bool false,undef,undef,.agg t.c,.int .u64 total,
      .func (.func 146) #[] #[.pointer (some ⟨w1.heap.size+1,0,none⟩),.pointer (some ⟨w1.heap.size+1+1,0,none⟩)],.int .i64 (x.1:Nat),.int .u64 (nth L x.1),undef,undef,undef,undef,undef,undef,undef,undef,undef,undef,undef,undef,undef,undef,undef,undef,undef,undef,undef,undef,undef,undef,undef,undef,undef,undef,undef,undef,undef,undef,undef,undef,undef,undef,undef,undef,undef,undef,undef,undef,undef,undef,undef,undef,undef,undef,undef,undef,undef,undef,undef,undef,undef,undef,undef,undef,undef,undef,undef,undef,undef],defers:=[] }) ?assign ?body ?done ?stop
  case assign=>
    intro l x W K q;simp only[qj6];gi_wp2
    exact q
  case body=>
    rintro l ag x W ⟨O,Z,J⟩ -
    have aE:=J.size;have gf:W.cell? ⟨w.heap.size,2,none⟩=some (.int .i64 t.fn):=by rw[←HF.out];exact(J.cell (p:=⟨w.heap.size,2,none⟩) k0).trans ay
    have gl:W.cell? ⟨w.heap.size,4,none⟩=some (.int .u32 t.ln):=by rw[←ap.out];exact(J.cell (p:=⟨w.heap.size,4,none⟩) k0).trans aC
    have g1:=(J.cell (p:=⟨w.heap.size+1,0,none⟩) k1).trans r1;have g2:=(J.cell (p:=⟨w.heap.size+1+1,0,none⟩) k2).trans r2;have g3:=(J.cell (p:=⟨w.heap.size+1+1+1,0,none⟩) k3).trans r3;have r:=(J.block _ k4).trans b4;have S:=(J.block _ k5).trans b5;have gb:=qd Z 0;have fb:=unfrozen_of_block Z 0;have f0:=unfrozen_of_block r 0;have f1:=unfrozen_of_block r 1;have f2:=unfrozen_of_block r 2;have f3:=unfrozen_of_block r 3;have f4:=unfrozen_of_block r 4;have f5:=unfrozen_of_block r 5;have f6:=unfrozen_of_block S 0;have c0:=qd r 0;have c1:=qd r 1;have c2:=qd r 2;have c3:=qd r 3;have c4:=qd r 4;have c5:=qd r 5;have c6:=qd S 0;simp only[List.getElem?_toArray,List.getElem?_cons_zero,List.getElem?_cons_succ]at c0 c1 c2 c3 c4 c5 c6 gb;have m0:w.heap.size<W.heap.size:=by omega
    have m1:w.heap.size+1<W.heap.size:=by omega
    have m2:w.heap.size+1+1<W.heap.size:=by omega
    have m3:w.heap.size+1+1+1<W.heap.size:=by omega
    have m4:w.heap.size+1+1+1+1<W.heap.size:=by omega
    have m5:w.heap.size+1+1+1+1+1<W.heap.size:=by omega
    have m6:w1.heap.size<W.heap.size:=(Ai Z).1;have aa:=hid (ab.trans (J.mono (by omega)));have V:=hid O;have HB:=hid J;have al:=hid Z;have X:=hid r;have Y:=hid S;clear O J Z r S;have aH:(nth L x.1:Int)≤18446744073709551615:=ax x.1 x.2;by_cases hA:(x.1:Int)<row
    · gi_wp2
      go_goals
      exact⟨(KeepsOthers.setCell _ _ _).from _,KpT.setCell (p:=⟨w1.heap.size,0,none⟩) al.out (by decide) (by decide) _,fun k G=>by
        rcases List.mem_append.1 G with h|h
        · exact V.out k h
        · rw[List.mem_singleton.1 h];exact hA,by rw[qa7];exact block_setCell al.out _,HB.out.setCell Nl _⟩
    · by_cases hC:row<0
      · gi_wp2
        go_goals
        exact⟨KeepsFrom.refl _ _,⟨ag,x,rfl,V.out,by omega,.inr ⟨rfl,.inl hC,X.out,Y.out⟩⟩,aa.out⟩
      · have q0:(row<0)=False:=eq_false (by omega)
        by_cases au:(nth L x.1:Nat)≤at_
        · have q1:((nth L x.1:Int)≤(at_:Int))=True:=eq_true (by omega)
          gi_wp2
          go_goals
          exact⟨KeepsFrom.refl _ _,⟨ag,x,rfl,V.out,by omega,.inr ⟨rfl,.inr au,X.out,Y.out⟩⟩,aa.out⟩
        · have q1:((nth L x.1:Int)≤(at_:Int))=False:=eq_false (by omega)
          have z0:0≤row:=by omega
          have z1:row≤(x.1:Nat):=by omega
          have z2:at_<nth L x.1:=by omega
          by_cases hR:1≤row
          · have z3:row.toNat≠0:=by omega
            have q2:(1≤row)=True:=eq_true hR;by_cases hN:nth L x.1=1
            · have q3:((nth L x.1:Int)==1)=true:=by rw[beq_iff_eq];omega
              have HN:=hid hN;clear hN;gi_wp2
              apply zc
              · intro G
                gi_region
                all_goals exact G
              gi_wp2
              apply zc
              · intro G
                gi_region
                all_goals exact G
              gi_wp2
              go_goals
              exact RetP.drew (RetP.drew (jb V.out z0 z1 z2 aa.out X.out Y.out (by unfold jd;rw[Int.toNat_of_nonneg z0,if_pos ⟨Nat.pos_of_ne_zero z3,HN.out⟩])))
            · have q3:((nth L x.1:Int)==1)=false:=by rw[beq_eq_false_iff_ne];omega
              by_cases U:(at_:Int)=(nth L x.1:Int) - 1
              · have q4:((at_:Int)==(nth L x.1:Int) - 1)=true:=by rw[beq_iff_eq];exact U
                have HZ:=hid U;clear U;gi_wp2
                apply zc
                · intro G
                  gi_region
                  all_goals exact G
                gi_wp2
                apply zc
                · intro G
                  gi_region
                  all_goals exact G
                gi_wp2
                go_goals
                exact RetP.drew (RetP.drew (jb V.out z0 z1 z2 aa.out X.out Y.out (by unfold jd;rw[Int.toNat_of_nonneg z0,if_neg (fun h=>hN h.2),if_pos HZ.out,if_neg z3,if_neg z3])))
              · have q4:((at_:Int)==(nth L x.1:Int) - 1)=false:=by rw[beq_eq_false_iff_ne];exact U
                have HZ:=hid U;clear U;gi_wp2
                apply zc
                · intro G
                  gi_region
                  all_goals exact G
                gi_wp2
                apply zc
                · intro G
                  gi_region
                  all_goals exact G
                gi_wp2
                apply zc
                · intro G
                  refine JM (F:=Fence.wide) (by kernel_rfl) (by kernel_rfl) ?_;refine wpAnyIn_take (i:=1) (v:=?_) rfl rfl (by kernel_rfl) (by kernel_rfl) (by kernel_rfl) (fun _ _ _ h=>h) ⟨Or.inl ⟨by rfl,?_⟩,fun _=>rfl⟩ ?_;rotate_left
                  · (intro w;go_simp;try with_reducible rfl)
                  refine wpAnyIn_take (i:=5) (v:=?_) rfl rfl (by kernel_rfl) (by kernel_rfl) (by kernel_rfl) (fun _ _ _ h=>h) ⟨Or.inl ⟨by rfl,?_⟩,fun _=>rfl⟩ ?_;rotate_left
                  · (intro w;go_simp;try with_reducible rfl)
                  refine wpAnyIn_ready (rs:=[0,3]) (by kernel_rfl) (by simp) ?_;refine AllReadyIn.cons rfl (fun K q=>?_) ?_
                  · go_simp
                    refine q _ _ ?_;clear q K;refine wpAnyIn_take (i:=2) (v:=?_) rfl rfl (by kernel_rfl) (by kernel_rfl) (by kernel_rfl) (fun _ _ _ h=>h) ⟨Or.inl ⟨by rfl,?_⟩,fun _=>rfl⟩ ?_;rotate_left
                    · (intro w;go_simp;try with_reducible rfl)
                    refine wpAnyIn_take (i:=7) (v:=?_) rfl rfl (by kernel_rfl) (by kernel_rfl) (by kernel_rfl) (fun _ _ _ h=>h) ⟨Or.inl ⟨by rfl,?_⟩,fun _=>rfl⟩ ?_;rotate_left
                    · (intro w;go_simp;try with_reducible rfl)
                    refine wpAnyIn_ready (rs:=[3,8]) (by kernel_rfl) (by simp) ?_;refine AllReadyIn.cons rfl (fun K q=>?_) ?_
                    · go_simp
                      refine q _ _ ?_;clear q K;refine wpAnyIn_take (i:=4) (v:=?_) rfl rfl (by kernel_rfl) (by kernel_rfl) (by kernel_rfl) (fun _ _ _ h=>h) ⟨Or.inl ⟨by rfl,?_⟩,fun _=>rfl⟩ ?_;rotate_left
                      · (intro w;go_simp;try with_reducible rfl)
                      refine wpAnyIn_take (i:=6) (v:=?_) rfl rfl (by kernel_rfl) (by kernel_rfl) (by kernel_rfl) (fun _ _ _ h=>h) ⟨Or.inl ⟨by rfl,?_⟩,fun _=>rfl⟩ ?_;rotate_left
                      · (intro w;go_simp;try with_reducible rfl)
                      refine wpAnyIn_ready (rs:=[8]) (by kernel_rfl) (by simp) ?_;refine AllReadyIn.cons rfl (fun K q=>?_) ?_
                      · go_simp
                        refine q _ _ ?_;clear q K;refine wpAnyIn_take (i:=9) (v:=?_) rfl rfl (by kernel_rfl) (by kernel_rfl) (by kernel_rfl) (fun _ _ _ h=>h) ⟨Or.inl ⟨by rfl,?_⟩,fun _=>rfl⟩ ?_;rotate_left
                        · (intro w;go_simp;try with_reducible rfl)
                        refine wpAnyIn_ready (rs:=[10]) (by kernel_rfl) (by simp) ?_;refine AllReadyIn.cons rfl (fun K q=>?_) ?_
                        · go_simp
                          refine q _ _ ?_;clear q K;refine wpAnyIn_done (by kernel_rfl) ?_ _;exact G
                        exact AllReadyIn.nil
                      exact AllReadyIn.nil
                    refine AllReadyIn.cons rfl (fun K q=>?_) ?_
                    · go_simp
                      refine q _ _ ?_;clear q K;refine wpAnyIn_ready (rs:=[3]) (by kernel_rfl) (by simp) ?_;refine AllReadyIn.cons rfl (fun K q=>?_) ?_
                      · go_simp
                        refine q _ _ ?_;clear q K;refine wpAnyIn_take (i:=4) (v:=?_) rfl rfl (by kernel_rfl) (by kernel_rfl) (by kernel_rfl) (fun _ _ _ h=>h) ⟨Or.inl ⟨by rfl,?_⟩,fun _=>rfl⟩ ?_;rotate_left
                        · (intro w;go_simp;try with_reducible rfl)
                        refine wpAnyIn_take (i:=6) (v:=?_) rfl rfl (by kernel_rfl) (by kernel_rfl) (by kernel_rfl) (fun _ _ _ h=>h) ⟨Or.inl ⟨by rfl,?_⟩,fun _=>rfl⟩ ?_;rotate_left
                        · (intro w;go_simp;try with_reducible rfl)
                        refine wpAnyIn_take (i:=9) (v:=?_) rfl rfl (by kernel_rfl) (by kernel_rfl) (by kernel_rfl) (fun _ _ _ h=>h) ⟨Or.inl ⟨by rfl,?_⟩,fun _=>rfl⟩ ?_;rotate_left
                        · (intro w;go_simp;try with_reducible rfl)
                        refine wpAnyIn_ready (rs:=[10]) (by kernel_rfl) (by simp) ?_;refine AllReadyIn.cons rfl (fun K q=>?_) ?_
                        · go_simp
                          refine q _ _ ?_;clear q K;refine wpAnyIn_done (by kernel_rfl) ?_ _;exact G
                        exact AllReadyIn.nil
                      exact AllReadyIn.nil
                    exact AllReadyIn.nil
                  refine AllReadyIn.cons rfl (fun K q=>?_) ?_
                  · go_simp
                    refine q _ _ ?_;clear q K;refine wpAnyIn_take (i:=4) (v:=?_) rfl rfl (by kernel_rfl) (by kernel_rfl) (by kernel_rfl) (fun _ _ _ h=>h) ⟨Or.inl ⟨by rfl,?_⟩,fun _=>rfl⟩ ?_;rotate_left
                    · (intro w;go_simp;try with_reducible rfl)
                    refine wpAnyIn_take (i:=6) (v:=?_) rfl rfl (by kernel_rfl) (by kernel_rfl) (by kernel_rfl) (fun _ _ _ h=>h) ⟨Or.inl ⟨by rfl,?_⟩,fun _=>rfl⟩ ?_;rotate_left
                    · (intro w;go_simp;try with_reducible rfl)
                    refine wpAnyIn_ready (rs:=[0]) (by kernel_rfl) (by simp) ?_;refine AllReadyIn.cons rfl (fun K q=>?_) ?_
                    · go_simp
                      refine q _ _ ?_;clear q K;refine wpAnyIn_take (i:=2) (v:=?_) rfl rfl (by kernel_rfl) (by kernel_rfl) (by kernel_rfl) (fun _ _ _ h=>h) ⟨Or.inl ⟨by rfl,?_⟩,fun _=>rfl⟩ ?_;rotate_left
                      · (intro w;go_simp;try with_reducible rfl)
                      refine wpAnyIn_take (i:=7) (v:=?_) rfl rfl (by kernel_rfl) (by kernel_rfl) (by kernel_rfl) (fun _ _ _ h=>h) ⟨Or.inl ⟨by rfl,?_⟩,fun _=>rfl⟩ ?_;rotate_left
                      · (intro w;go_simp;try with_reducible rfl)
                      refine wpAnyIn_ready (rs:=[8]) (by kernel_rfl) (by simp) ?_;refine AllReadyIn.cons rfl (fun K q=>?_) ?_
                      · go_simp
                        refine q _ _ ?_;clear q K;refine wpAnyIn_take (i:=9) (v:=?_) rfl rfl (by kernel_rfl) (by kernel_rfl) (by kernel_rfl) (fun _ _ _ h=>h) ⟨Or.inl ⟨by rfl,?_⟩,fun _=>rfl⟩ ?_;rotate_left
                        · (intro w;go_simp;try with_reducible rfl)
                        refine wpAnyIn_ready (rs:=[10]) (by kernel_rfl) (by simp) ?_;refine AllReadyIn.cons rfl (fun K q=>?_) ?_
                        · go_simp
                          refine q _ _ ?_;clear q K;refine wpAnyIn_done (by kernel_rfl) ?_ _;exact G
                        exact AllReadyIn.nil
                      exact AllReadyIn.nil
                    exact AllReadyIn.nil
                  exact AllReadyIn.nil
                gi_wp2
                go_goals
                exact RetP.drew (RetP.drew (RetP.drew (jb V.out z0 z1 z2 aa.out X.out Y.out (by unfold jd;rw[Int.toNat_of_nonneg z0,if_neg (fun h=>hN h.2),if_neg HZ.out,if_neg z3]))))
          · have z4:row.toNat=0:=by omega
            have q2:(1≤row)=False:=eq_false hR;by_cases U:(at_:Int)=(nth L x.1:Int) - 1
            · have q4:((at_:Int)==(nth L x.1:Int) - 1)=true:=by rw[beq_iff_eq];exact U
              have HZ:=hid U;clear U;gi_wp2
              apply zc
              · intro G
                gi_region
                all_goals exact G
              gi_wp2
              go_goals
              exact RetP.drew (jb V.out z0 z1 z2 aa.out X.out Y.out (by unfold jd;rw[Int.toNat_of_nonneg z0,if_neg (fun h=>Nat.not_succ_le_zero _ (z4▸h.1)),if_pos HZ.out,if_pos z4,if_pos z4]))
            · have q4:((at_:Int)==(nth L x.1:Int) - 1)=false:=by rw[beq_eq_false_iff_ne];exact U
              have HZ:=hid U;clear U;gi_wp2
              apply zc
              · intro G
                gi_region
                all_goals exact G
              gi_wp2
              apply zc
              · intro G
                refine JM (F:=Fence.wide) (by kernel_rfl) (by kernel_rfl) ?_;refine wpAnyIn_take (i:=1) (v:=?_) rfl rfl (by kernel_rfl) (by kernel_rfl) (by kernel_rfl) (fun _ _ _ h=>h) ⟨Or.inl ⟨by rfl,?_⟩,fun _=>rfl⟩ ?_;rotate_left
                · (intro w;go_simp;try with_reducible rfl)
                refine wpAnyIn_take (i:=5) (v:=?_) rfl rfl (by kernel_rfl) (by kernel_rfl) (by kernel_rfl) (fun _ _ _ h=>h) ⟨Or.inl ⟨by rfl,?_⟩,fun _=>rfl⟩ ?_;rotate_left
                · (intro w;go_simp;try with_reducible rfl)
                refine wpAnyIn_ready (rs:=[0,3]) (by kernel_rfl) (by simp) ?_;refine AllReadyIn.cons rfl (fun K q=>?_) ?_
                · go_simp
                  refine q _ _ ?_;clear q K;refine wpAnyIn_take (i:=2) (v:=?_) rfl rfl (by kernel_rfl) (by kernel_rfl) (by kernel_rfl) (fun _ _ _ h=>h) ⟨Or.inl ⟨by rfl,?_⟩,fun _=>rfl⟩ ?_;rotate_left
                  · (intro w;go_simp;try with_reducible rfl)
                  refine wpAnyIn_take (i:=7) (v:=?_) rfl rfl (by kernel_rfl) (by kernel_rfl) (by kernel_rfl) (fun _ _ _ h=>h) ⟨Or.inl ⟨by rfl,?_⟩,fun _=>rfl⟩ ?_;rotate_left
                  · (intro w;go_simp;try with_reducible rfl)
                  refine wpAnyIn_ready (rs:=[3,8]) (by kernel_rfl) (by simp) ?_;refine AllReadyIn.cons rfl (fun K q=>?_) ?_
                  · go_simp
                    refine q _ _ ?_;clear q K;refine wpAnyIn_take (i:=4) (v:=?_) rfl rfl (by kernel_rfl) (by kernel_rfl) (by kernel_rfl) (fun _ _ _ h=>h) ⟨Or.inl ⟨by rfl,?_⟩,fun _=>rfl⟩ ?_;rotate_left
                    · (intro w;go_simp;try with_reducible rfl)
                    refine wpAnyIn_take (i:=6) (v:=?_) rfl rfl (by kernel_rfl) (by kernel_rfl) (by kernel_rfl) (fun _ _ _ h=>h) ⟨Or.inl ⟨by rfl,?_⟩,fun _=>rfl⟩ ?_;rotate_left
                    · (intro w;go_simp;try with_reducible rfl)
                    refine wpAnyIn_ready (rs:=[8]) (by kernel_rfl) (by simp) ?_;refine AllReadyIn.cons rfl (fun K q=>?_) ?_
                    · go_simp
                      refine q _ _ ?_;clear q K;refine wpAnyIn_take (i:=9) (v:=?_) rfl rfl (by kernel_rfl) (by kernel_rfl) (by kernel_rfl) (fun _ _ _ h=>h) ⟨Or.inl ⟨by rfl,?_⟩,fun _=>rfl⟩ ?_;rotate_left
                      · (intro w;go_simp;try with_reducible rfl)
                      refine wpAnyIn_ready (rs:=[10]) (by kernel_rfl) (by simp) ?_;refine AllReadyIn.cons rfl (fun K q=>?_) ?_
                      · go_simp
                        refine q _ _ ?_;clear q K;refine wpAnyIn_done (by kernel_rfl) ?_ _;exact G
                      exact AllReadyIn.nil
                    exact AllReadyIn.nil
                  refine AllReadyIn.cons rfl (fun K q=>?_) ?_
                  · go_simp
                    refine q _ _ ?_;clear q K;refine wpAnyIn_ready (rs:=[3]) (by kernel_rfl) (by simp) ?_;refine AllReadyIn.cons rfl (fun K q=>?_) ?_
                    · go_simp
                      refine q _ _ ?_;clear q K;refine wpAnyIn_take (i:=4) (v:=?_) rfl rfl (by kernel_rfl) (by kernel_rfl) (by kernel_rfl) (fun _ _ _ h=>h) ⟨Or.inl ⟨by rfl,?_⟩,fun _=>rfl⟩ ?_;rotate_left
                      · (intro w;go_simp;try with_reducible rfl)
                      refine wpAnyIn_take (i:=6) (v:=?_) rfl rfl (by kernel_rfl) (by kernel_rfl) (by kernel_rfl) (fun _ _ _ h=>h) ⟨Or.inl ⟨by rfl,?_⟩,fun _=>rfl⟩ ?_;rotate_left
                      · (intro w;go_simp;try with_reducible rfl)
                      refine wpAnyIn_take (i:=9) (v:=?_) rfl rfl (by kernel_rfl) (by kernel_rfl) (by kernel_rfl) (fun _ _ _ h=>h) ⟨Or.inl ⟨by rfl,?_⟩,fun _=>rfl⟩ ?_;rotate_left
                      · (intro w;go_simp;try with_reducible rfl)
                      refine wpAnyIn_ready (rs:=[10]) (by kernel_rfl) (by simp) ?_;refine AllReadyIn.cons rfl (fun K q=>?_) ?_
                      · go_simp
                        refine q _ _ ?_;clear q K;refine wpAnyIn_done (by kernel_rfl) ?_ _;exact G
                      exact AllReadyIn.nil
                    exact AllReadyIn.nil
                  exact AllReadyIn.nil
                refine AllReadyIn.cons rfl (fun K q=>?_) ?_
                · go_simp
                  refine q _ _ ?_;clear q K;refine wpAnyIn_take (i:=4) (v:=?_) rfl rfl (by kernel_rfl) (by kernel_rfl) (by kernel_rfl) (fun _ _ _ h=>h) ⟨Or.inl ⟨by rfl,?_⟩,fun _=>rfl⟩ ?_;rotate_left
                  · (intro w;go_simp;try with_reducible rfl)
                  refine wpAnyIn_take (i:=6) (v:=?_) rfl rfl (by kernel_rfl) (by kernel_rfl) (by kernel_rfl) (fun _ _ _ h=>h) ⟨Or.inl ⟨by rfl,?_⟩,fun _=>rfl⟩ ?_;rotate_left
                  · (intro w;go_simp;try with_reducible rfl)
                  refine wpAnyIn_ready (rs:=[0]) (by kernel_rfl) (by simp) ?_;refine AllReadyIn.cons rfl (fun K q=>?_) ?_
                  · go_simp
                    refine q _ _ ?_;clear q K;refine wpAnyIn_take (i:=2) (v:=?_) rfl rfl (by kernel_rfl) (by kernel_rfl) (by kernel_rfl) (fun _ _ _ h=>h) ⟨Or.inl ⟨by rfl,?_⟩,fun _=>rfl⟩ ?_;rotate_left
                    · (intro w;go_simp;try with_reducible rfl)
                    refine wpAnyIn_take (i:=7) (v:=?_) rfl rfl (by kernel_rfl) (by kernel_rfl) (by kernel_rfl) (fun _ _ _ h=>h) ⟨Or.inl ⟨by rfl,?_⟩,fun _=>rfl⟩ ?_;rotate_left
                    · (intro w;go_simp;try with_reducible rfl)
                    refine wpAnyIn_ready (rs:=[8]) (by kernel_rfl) (by simp) ?_;refine AllReadyIn.cons rfl (fun K q=>?_) ?_
                    · go_simp
                      refine q _ _ ?_;clear q K;refine wpAnyIn_take (i:=9) (v:=?_) rfl rfl (by kernel_rfl) (by kernel_rfl) (by kernel_rfl) (fun _ _ _ h=>h) ⟨Or.inl ⟨by rfl,?_⟩,fun _=>rfl⟩ ?_;rotate_left
                      · (intro w;go_simp;try with_reducible rfl)
                      refine wpAnyIn_ready (rs:=[10]) (by kernel_rfl) (by simp) ?_;refine AllReadyIn.cons rfl (fun K q=>?_) ?_
                      · go_simp
                        refine q _ _ ?_;clear q K;refine wpAnyIn_done (by kernel_rfl) ?_ _;exact G
                      exact AllReadyIn.nil
                    exact AllReadyIn.nil
                  exact AllReadyIn.nil
                exact AllReadyIn.nil
              gi_wp2
              go_goals
              exact RetP.drew (RetP.drew (jb V.out z0 z1 z2 aa.out X.out Y.out (by unfold jd;rw[Int.toNat_of_nonneg z0,if_neg (fun h=>Nat.not_succ_le_zero _ (z4▸h.1)),if_neg HZ.out,if_pos z4])))
  case done=>
    rintro D ys W hD af ⟨O,Z,J⟩ q
    have an: ¬t.there total row at_:=by subst hL;exact qhd af O
    have am:=J.size;have ab:=ab.trans (J.mono (by omega));have r:=(J.block _ k4).trans b4;have S:=(J.block _ k5).trans b5;have ae:w1.heap.size≤D:=by simp at hD;omega
    have f0:=unfrozen_of_block r 0;have f1:=unfrozen_of_block r 1;have f2:=unfrozen_of_block r 2;have f3:=unfrozen_of_block r 3;have f4:=unfrozen_of_block r 4;have f5:=unfrozen_of_block r 5;have f6:=unfrozen_of_block S 0;have c0:=qd r 0;have c1:=qd r 1;have c2:=qd r 2;have c3:=qd r 3;have c4:=qd r 4;have c5:=qd r 5;have c6:=qd S 0;simp only[List.getElem?_toArray,List.getElem?_cons_zero,List.getElem?_cons_succ]at c0 c1 c2 c3 c4 c5 c6;have m4:w.heap.size+1+1+1+1<W.heap.size:=by omega
    have m5:w.heap.size+1+1+1+1+1<W.heap.size:=by omega
    have HB:=hid J;have HK:=hid q;have X:=hid r;have Y:=hid S;have HY:=hid af;have HT:=hid O;clear J Z r S q af O;gi_wp2
    have e4:=(Below.heap_setCell ((((((W.setCell ⟨w.heap.size+1+1+1+1,0,none⟩ (.int .i64 0)).setCell ⟨w.heap.size+1+1+1+1,1,none⟩ (.int .u64 0)).setCell ⟨w.heap.size+1+1+1+1,2,none⟩ (.int .u64 0)).setCell ⟨w.heap.size+1+1+1+1,3,none⟩ (.int .u64 0)).setCell ⟨w.heap.size+1+1+1+1,4,none⟩ (.bool false)).setCell ⟨w.heap.size+1+1+1+1,5,none⟩ (.bool false)) ⟨w.heap.size+1+1+1+1+1,0,none⟩ (.int .i64 6) (w.heap.size+1+1+1+1) (by simp)).trans (yA X.out (.int .i64 0) (.int .u64 0) (.int .u64 0) (.int .u64 0) (.bool false) (.bool false));have e5:=block_setCell (i:=0) ((Y5 (c:=w.heap.size+1+1+1+1+1) (b:=w.heap.size+1+1+1+1) (by omega) (.int .i64 0) (.int .u64 0) (.int .u64 0) (.int .u64 0) (.bool false) (.bool false)).trans Y.out) (.int .i64 6);have eK:=(Below.heap_setCell ((((((W.setCell ⟨w.heap.size+1+1+1+1,0,none⟩ (.int .i64 0)).setCell ⟨w.heap.size+1+1+1+1,1,none⟩ (.int .u64 0)).setCell ⟨w.heap.size+1+1+1+1,2,none⟩ (.int .u64 0)).setCell ⟨w.heap.size+1+1+1+1,3,none⟩ (.int .u64 0)).setCell ⟨w.heap.size+1+1+1+1,4,none⟩ (.bool false)).setCell ⟨w.heap.size+1+1+1+1,5,none⟩ (.bool false)) ⟨w.heap.size+1+1+1+1+1,0,none⟩ (.int .i64 6) D (by show D≠w.heap.size+1+1+1+1+1;omega)).trans ((Y5 (c:=D) (b:=w.heap.size+1+1+1+1) (by omega) (.int .i64 0) (.int .u64 0) (.int .u64 0) (.int .u64 0) (.bool false) (.bool false)).trans HK.out);have eB:=(yC ab (b:=w.heap.size+1+1+1+1) (by omega) (.int .i64 0) (.int .u64 0) (.int .u64 0) (.int .u64 0) (.bool false) (.bool false)).setCell (p:=⟨w.heap.size+1+1+1+1+1,0,none⟩) (by show w.heap.size≤w.heap.size+1+1+1+1+1;omega) (.int .i64 6);have I:=belowK_b (w:=w1) Nl _ D _ (.deferred none) ae eK rfl rfl;refine⟨by simp,.inl ⟨_,_,rfl,run_takeDeferred eK,?_⟩⟩;refine⟨_,zG rfl rfl rfl (b:=w.heap.size+1+1+1+1) (c:=w.heap.size+1+1+1+1+1) ((I.block _ k4).trans e4) ((I.block _ k5).trans e5) rfl,?_,eB.trans (I.mono (by omega))⟩;rfl
  case stop=>
    rintro D c ag W hD ac ⟨⟨aB,k,rfl,O,G,ah⟩,J⟩ q
    have ae:w1.heap.size≤D:=by simp at hD;omega
    rcases ah with⟨rfl,r0,r1,e4,e5⟩|⟨rfl,r0,r,S⟩
    · have hh:t.there total row at_∧jd t.fn t.ln total row.toNat at_ (nth L k.1) (ZR _ aB)=(t.spot total row.toNat at_).val.cells:=by subst hL;exact qfD ht aj H.out ac.1 O G r0 r1
      rw[hh.2]at e4;have E4:=hid e4;have E5:=hid e5;have HK:=hid q;have aI:=hh.1;clear e4 e5 q hh O ac;gi_wp2
      have I:=belowK_b (w:=w1) Nl W D _ (.deferred none) ae HK.out rfl rfl;refine⟨by simp,.inl ⟨_,_,rfl,run_takeDeferred HK.out,?_⟩⟩;refine⟨_,zG rfl rfl rfl (b:=w.heap.size+1+1+1+1) (c:=w.heap.size+1+1+1+1+1) ((I.block _ k4).trans E4.out) ((I.block _ k5).trans E5.out) rfl,?_,J.trans (I.mono (by omega))⟩;rfl
    · have an: ¬t.there total row at_:=by subst hL;exact qcs ac.1 O G r0
      have am:=(Ai q).1;have ab:=J;replace r:W.heap[w.heap.size+1+1+1+1]? =some (Obj.cells Kh 96 (0,0)):=r
      clear J O ac;have f0:=unfrozen_of_block r 0;have f1:=unfrozen_of_block r 1;have f2:=unfrozen_of_block r 2;have f3:=unfrozen_of_block r 3;have f4:=unfrozen_of_block r 4;have f5:=unfrozen_of_block r 5;have f6:=unfrozen_of_block S 0;have c0:=qd r 0;have c1:=qd r 1;have c2:=qd r 2;have c3:=qd r 3;have c4:=qd r 4;have c5:=qd r 5;have c6:=qd S 0;simp only[List.getElem?_toArray,List.getElem?_cons_zero,List.getElem?_cons_succ]at c0 c1 c2 c3 c4 c5 c6;have m4:w.heap.size+1+1+1+1<W.heap.size:=by omega
      have m5:w.heap.size+1+1+1+1+1<W.heap.size:=by omega
      have HK:=hid q;have X:=hid r;have Y:=hid S;clear r S q;gi_wp2
      have e4:=(Below.heap_setCell ((((((W.setCell ⟨w.heap.size+1+1+1+1,0,none⟩ (.int .i64 0)).setCell ⟨w.heap.size+1+1+1+1,1,none⟩ (.int .u64 0)).setCell ⟨w.heap.size+1+1+1+1,2,none⟩ (.int .u64 0)).setCell ⟨w.heap.size+1+1+1+1,3,none⟩ (.int .u64 0)).setCell ⟨w.heap.size+1+1+1+1,4,none⟩ (.bool false)).setCell ⟨w.heap.size+1+1+1+1,5,none⟩ (.bool false)) ⟨w.heap.size+1+1+1+1+1,0,none⟩ (.int .i64 6) (w.heap.size+1+1+1+1) (by simp)).trans (yA X.out (.int .i64 0) (.int .u64 0) (.int .u64 0) (.int .u64 0) (.bool false) (.bool false));have e5:=block_setCell (i:=0) ((Y5 (c:=w.heap.size+1+1+1+1+1) (b:=w.heap.size+1+1+1+1) (by omega) (.int .i64 0) (.int .u64 0) (.int .u64 0) (.int .u64 0) (.bool false) (.bool false)).trans Y.out) (.int .i64 6);have eK:=(Below.heap_setCell ((((((W.setCell ⟨w.heap.size+1+1+1+1,0,none⟩ (.int .i64 0)).setCell ⟨w.heap.size+1+1+1+1,1,none⟩ (.int .u64 0)).setCell ⟨w.heap.size+1+1+1+1,2,none⟩ (.int .u64 0)).setCell ⟨w.heap.size+1+1+1+1,3,none⟩ (.int .u64 0)).setCell ⟨w.heap.size+1+1+1+1,4,none⟩ (.bool false)).setCell ⟨w.heap.size+1+1+1+1,5,none⟩ (.bool false)) ⟨w.heap.size+1+1+1+1+1,0,none⟩ (.int .i64 6) D (by show D≠w.heap.size+1+1+1+1+1;omega)).trans ((Y5 (c:=D) (b:=w.heap.size+1+1+1+1) (by omega) (.int .i64 0) (.int .u64 0) (.int .u64 0) (.int .u64 0) (.bool false) (.bool false)).trans HK.out);have eB:=(yC ab (b:=w.heap.size+1+1+1+1) (by omega) (.int .i64 0) (.int .u64 0) (.int .u64 0) (.int .u64 0) (.bool false) (.bool false)).setCell (p:=⟨w.heap.size+1+1+1+1+1,0,none⟩) (by show w.heap.size≤w.heap.size+1+1+1+1+1;omega) (.int .i64 6);have I:=belowK_b (w:=w1) Nl _ D _ (.deferred none) ae eK rfl rfl;refine⟨by simp,.inl ⟨_,_,rfl,run_takeDeferred eK,?_⟩⟩;refine⟨_,zG rfl rfl rfl (b:=w.heap.size+1+1+1+1) (c:=w.heap.size+1+1+1+1+1) ((I.block _ k4).trans e4) ((I.block _ k5).trans e5) rfl,?_,eB.trans (I.mono (by omega))⟩;rfl
theorem Yu {P:Program}{fn:Func}{tmps:Array Value}{W:World}{b:Nat}{O S q I J V e:Value}{T:TypeId}{fr:Nat×Nat}
    (X:fn.results= #[.cell 8 96,.tmp 9]) (Y:tmps[8]?.getD undef= .pointer (some ⟨b,0,none⟩)) (h9:tmps[9]?.getD undef=e)
    (o:W.heap[b]? =some (Obj.cells #[O,S,q,I,J,V] T fr)) (Z:P=Tryz.prog):
    (results fn tmps).run P W= .ok (.tuple #[.agg #[O,S,q,I,J,V],e]) W:=by
  subst Z;have r:=qd o 0;have c1:=qd o 1;have c2:=qd o 2;have D:=qd o 3;have G:=qd o 4;have U:=qd o 5;simp only[List.getElem?_toArray,List.getElem?_cons_zero,List.getElem?_cons_succ]at r c1 c2 D G U;simp[results,X,Y,h9,go_sem,r,c1,c2,D,G,U]
def TreeV.spotR (t:TreeV)(total:Nat)(row:Int)(at_:Nat):SpotV:=if t.err total=0∧t.there total row at_ then t.spot total row.toNat at_ else SpotV.zero
def TreeV.spotE (t:TreeV)(total:Nat)(row:Int)(at_:Nat):Int:=if t.err total≠0 then t.err total else if t.there total row at_ then 0 else 6
theorem qet (t:TreeV)(D:0≤t.l∧t.l≤4294967295)(total:Nat)(G:(total:Int)≤18446744073709551615)(h:t.err total≠0)(row:Int)(at_:Nat)(w:World):
    Calls Tryz.prog 52 #[t.val,.int .u64 total,.int .i64 row,.int .u64 at_] w fun e w'=>e= .returned (.tuple #[SpotV.zero.val,.int .i64 (t.err total)])∧Below w.heap.size w w':=by
  have I:(t.err total != 0)=true:=by rw[bne_iff_ne];exact h
  have H:=hid h;clear h;unfold TreeV.val;go_enter Tryz.func52,Tryz.ntmps52
  go_wp2_with fail
  refine(qev t D total G H.out _).mono ?_;rintro e w1 ⟨rfl,o⟩;obtain⟨O,S⟩:=yS o;have q:=o.size;simp at q
  have J:w.heap.size<w1.heap.size:=by omega
  have U:w.heap.size+1<w1.heap.size:=by omega
  have b1:w1.heap[w.heap.size+1]? =some (Obj.cells Kh 96 (0,0)):=by
    rw[o.block _ (by simp)];exact qz _ _ (by simp)
  have r:=hid b1;clear b1;go_wp2
  refine Bp (Yu rfl rfl rfl (b:=w.heap.size+1) (T:=96) (fr:=(0,0)) (yA r.out _ _ _ _ _ _) rfl) rfl ⟨rfl,yC (qt _ (Below.trans (Br.alloc Nl _) (o.mono (by simp)))) (by omega) _ _ _ _ _ _⟩
theorem qes {L:List Nat}(t:TreeV)(total:Nat)(I:1≤L.length)
    (U:Hid (∀w,Calls Tryz.prog 87 #[t.val,.int .u64 total] w fun e w'=> ∃v,e= .returned (.tuple #[v,.int .i64 0])∧w'.ownsRow w.heap.size 44 1 v L.length (L.map qcE)∧Below w.heap.size w w'))
    (S:Hid (∀k,k<L.length→(nth L k:Int)≤18446744073709551615)) (row:Int) (at_:Nat) (V:Hid (¬(0≤row∧row.toNat<L.length∧at_<nth L row.toNat))) (w:World):
    Calls Tryz.prog 52 #[t.val,.int .u64 total,.int .i64 row,.int .u64 at_] w fun e w'=>e= .returned (.tuple #[SpotV.zero.val,.int .i64 6])∧Below w.heap.size w w':=by
  unfold TreeV.val;go_enter Tryz.func52,Tryz.ntmps52
  go_wp2_with fail
  refine(U.out _).mono ?_;rintro e w1 ⟨v,rfl,r,o⟩;obtain⟨g,aa,rfl, -,ab,X,q⟩:=Zt r I;clear r;have O:=hid q;clear q;obtain⟨hc,hf⟩:=yS o;have J:=o.size;simp at J
  have k0:w.heap.size<w1.heap.size:=by omega
  have k1:w.heap.size+1<w1.heap.size:=by omega
  have b1:w1.heap[w.heap.size+1]? =some (Obj.cells Kh 96 (0,0)):=by
    rw[o.block _ (by simp)];exact qz _ _ (by simp)
  have G:=hid b1;have D:Below w.heap.size w w1:=qt _ (Below.trans (Br.alloc Nl _) (o.mono (by simp)));clear b1 o;by_cases hA:row<0
  · go_wp2
    refine Bp (Yu rfl rfl rfl (b:=w.heap.size+1) (T:=96) (fr:=(0,0)) (yA G.out _ _ _ _ _ _) rfl) rfl ⟨rfl,yC D (by omega) _ _ _ _ _ _⟩
  · by_cases Z:(L.length:Int)≤row
    · go_wp2
      refine Bp (Yu rfl rfl rfl (b:=w.heap.size+1) (T:=96) (fr:=(0,0)) (yA G.out _ _ _ _ _ _) rfl) rfl ⟨rfl,yC D (by omega) _ _ _ _ _ _⟩
    · obtain⟨k,rfl⟩: ∃k:Nat,row=k:=⟨row.toNat,by omega⟩
      have hx:=O.out k (by omega);have Y:=S.out k (by omega);have q1:((nth L k:Int)≤(at_:Int)):=by
        have:=V.out
        rw[Int.toNat_natCast]at this;omega
      go_wp2
      refine Bp (Yu rfl rfl rfl (b:=w.heap.size+1) (T:=96) (fr:=(0,0)) (yA G.out _ _ _ _ _ _) rfl) rfl ⟨rfl,yC D (by omega) _ _ _ _ _ _⟩
def qey (f l:Int)(total k at_ n b:Nat)(root:Bool):Array Value:=
  if root=true then #[.int .i64 k,.int .u64 at_,.int .u64 0,.int .u64 b,.bool ((at_:Int)==(n:Int) - 1),.bool true]
  else if(at_:Int)=(n:Int) - 1 then #[.int .i64 k,.int .u64 at_,.int .u64 (IntKind.u64.wrap (at_*(if k=0 then l else f))),.int .u64 (if k=0 then total else b:Nat),.bool true,.bool false]
  else #[.int .i64 k,.int .u64 at_,.int .u64 (IntKind.u64.wrap (at_*(if k=0 then l else f))),.int .u64 (IntKind.u64.wrap (IntKind.u64.wrap (at_*(if k=0 then l else f))+(if k=0 then l else f))),.bool false,.bool false]
def qaa (t:TreeV)(L:List Nat)(total k at_:Nat)(A:Array Value):Prop:=A=qey t.f t.l total k at_ (nth L k) (nth L (k - 1)) (decide (k=L.length - 1))
theorem jl {t:TreeV}{L:List Nat}{total k at_:Nat}{fn:Func}{tmps:Array Value}{w w1:World}{a0 a1 a2 U a4 Z G I q r D J:Value}{o:Obj}
    (O:fn.results= #[.cell 8 96,.tmp 9]) (S:tmps[8]?.getD undef= .pointer (some ⟨w.heap.size+1,0,none⟩)) (V:tmps[9]?.getD undef= .int .i64 0)
    (hb:w1.heap[w.heap.size+1]? =some (Obj.cells #[a0,a1,a2,U,a4,Z] 96 (0,0))) (Y:Below w.heap.size w w1) (k1:w.heap.size+1<w1.heap.size)
    (X:qaa t L total k at_ #[G,I,q,r,D,J]):
    bodyPost Tryz.prog fn (fun e w'=>(∃A,e=Ending.returned (.tuple #[.agg A,.int .i64 0])∧qaa t L total k at_ A)∧Below w.heap.size w w') Exit.ret ⟨tmps,[]⟩
      (((((((w1.setCell ⟨w.heap.size+1,0,none⟩ G).setCell ⟨w.heap.size+1,1,none⟩ I).setCell ⟨w.heap.size+1,2,none⟩ q).setCell ⟨w.heap.size+1,3,none⟩ r).setCell ⟨w.heap.size+1,4,none⟩ D).setCell ⟨w.heap.size+1,5,none⟩ J).alloc o):=by
  refine Bp (Yu O S V (b:=w.heap.size+1) (T:=96) (fr:=(0,0)) ?_ rfl) rfl ⟨⟨_,rfl,X⟩,(yC Y (by omega) _ _ _ _ _ _).alloc (by simp;omega) _⟩;rw[Bh _ _ _ (by simp;omega)];exact yA hb _ _ _ _ _ _
theorem qdB {L:List Nat}(t:TreeV)(total:Nat)(q:1≤L.length)(ak:2≤L.length)
    (HR:Hid (∀w,Calls Tryz.prog 87 #[t.val,.int .u64 total] w fun e w'=> ∃v,e= .returned (.tuple #[v,.int .i64 0])∧w'.ownsRow w.heap.size 44 1 v L.length (L.map qcE)∧Below w.heap.size w w'))
    (J:Hid (∀k,k<L.length→(nth L k:Int)≤18446744073709551615)) (ai:0≤t.f) (ac:t.f≤18446744073709551615) (ad:0≤t.l) (ag:t.l≤4294967295) (ae:(L.length:Int)≤9223372036854775807)
    (k:Nat) (at_:Nat) (z1:k<L.length) (z2:at_<nth L k) (w:World):
    Calls Tryz.prog 52 #[t.val,.int .u64 total,.int .i64 k,.int .u64 at_] w fun e w'=>(∃A,e= .returned (.tuple #[.agg A,.int .i64 0])∧qaa t L total k at_ A)∧Below w.heap.size w w':=by
  unfold TreeV.val;go_enter Tryz.func52,Tryz.ntmps52
  go_wp2_with fail
  refine(HR.out _).mono ?_;rintro e w1 ⟨v,rfl,U,r⟩;obtain⟨g,aj,rfl, -,al,af,I⟩:=Zt U q;clear U;have G:=hid I;clear I;obtain⟨hc,hf⟩:=yS r;have ab:=r.size;simp at ab
  have k0:w.heap.size<w1.heap.size:=by omega
  have V:w.heap.size+1<w1.heap.size:=by omega
  have b1:w1.heap[w.heap.size+1]? =some (Obj.cells Kh 96 (0,0)):=by
    rw[r.block _ (by simp)];exact qz _ _ (by simp)
  have S:=hid b1;have D:Below w.heap.size w w1:=qt _ (Below.trans (Br.alloc Nl _) (r.mono (by simp)));clear b1 r;have hx:=G.out k z1;have ah:=J.out k z1;have q0:((L.length:Int)≤(k:Int))=False:=eq_false (by omega);have q1:((nth L k:Int)≤(at_:Int))=False:=eq_false (by omega);by_cases Y:k=L.length - 1
  · have q2:((k:Int)==(L.length:Int) - 1)=true:=by rw[beq_iff_eq];omega
    obtain⟨j,rfl⟩: ∃j,k=j+1:=⟨k - 1,by omega⟩;have hy:=G.out j (by omega);have Z:=J.out j (by omega);have o:=hid Y;clear Y;go_wp2
    refine jl (t:=t) (L:=L) (total:=total) (k:=j+1) (at_:=at_) (fn:=Tryz.f52) ?_ ?_ ?_ S.out D V ?_
    · rfl
    · rfl
    · rfl
    unfold qaa qey;rw[if_pos (decide_eq_true o.out)];rfl
  · have q2:((k:Int)==(L.length:Int) - 1)=false:=by rw[beq_eq_false_iff_ne];omega
    have o:=hid Y;clear Y;by_cases O:(at_:Int)=(nth L k:Int) - 1
    · have q4:((at_:Int)==(nth L k:Int) - 1)=true:=by rw[beq_iff_eq];exact O
      have X:=hid O;clear O
      cases k with
      | zero=>
        have aa:(L=[])=False:=eq_false (by intro h;rw[h]at q;simp at q);go_wp2
        refine jl (t:=t) (L:=L) (total:=total) (k:=0) (at_:=at_) (fn:=Tryz.f52) ?_ ?_ ?_ S.out D V ?_
        · rfl
        · rfl
        · rfl
        unfold qaa qey;rw[if_neg (by simp;exact o.out),if_pos X.out];simp
      | succ j=>
        have hy:=G.out j (by omega);have Z:=J.out j (by omega);go_wp2
        refine jl (t:=t) (L:=L) (total:=total) (k:=j+1) (at_:=at_) (fn:=Tryz.f52) ?_ ?_ ?_ S.out D V ?_
        · rfl
        · rfl
        · rfl
        unfold qaa qey;rw[if_neg (by simp;exact o.out),if_pos X.out];simp
    · have q4:((at_:Int)==(nth L k:Int) - 1)=false:=by rw[beq_eq_false_iff_ne];exact O
      have X:=hid O;clear O
      cases k with
      | zero=>
        have aa:(L=[])=False:=eq_false (by intro h;rw[h]at q;simp at q);go_wp2
        refine jl (t:=t) (L:=L) (total:=total) (k:=0) (at_:=at_) (fn:=Tryz.f52) ?_ ?_ ?_ S.out D V ?_
        · rfl
        · rfl
        · rfl
        unfold qaa qey;rw[if_neg (by simp;exact o.out),if_neg X.out];simp
      | succ j=>
        have hy:=G.out j (by omega);have Z:=J.out j (by omega);go_wp2
        refine jl (t:=t) (L:=L) (total:=total) (k:=j+1) (at_:=at_) (fn:=Tryz.f52) ?_ ?_ ?_ S.out D V ?_
        · rfl
        · rfl
        · rfl
        unfold qaa qey;rw[if_neg (by simp;exact o.out),if_neg X.out];simp
end Go.Proofs.YthjoojnlnlmljaaGreat
namespace Go.Proofs.YthjoojnlnlmljaaGreat
open Go.ChangeShapes Go.WideShapes Go.ChangeAt Go.RowKit Go.Joins Go.Shelf Go.Maps
open Go.Lib (hid)
theorem qin {t:TreeV}{p total:Nat}{L:List Nat}(S:t.f=(t.fn:Int))(G:t.l=(t.ln:Int))(D:1≤t.ln)(V:(total:Int)≤18446744073709551615)(h:RowsIs t.fn p (lvs total t.ln) L){row at_:Nat}(q:row<L.length)(X:at_<nth L row):
    qey t.f t.l total row at_ (nth L row) (nth L (row - 1)) (decide (row=L.length - 1))=(QV t.fn t.ln total L row at_).val.cells:=by
  have I:((at_:Int)==(nth L row:Int) - 1)=decide (at_=nth L row - 1):=by
    rw[Bool.eq_iff_iff,beq_iff_eq,decide_eq_true_iff];omega
  rw[S,G];generalize t.fn=f at*;generalize t.ln=l at*;unfold qey QV;by_cases o:1≤row∧nth L row=1
  · rw[if_pos (decide_eq_true ((h.root_iff q).1 o)),if_pos o,I];rfl
  · have U: ¬row=L.length - 1:=fun e=>o ((h.root_iff q).2 e)
    obtain⟨b1,b2, -⟩:=jc D h q X o;have aa:((if row=0 then total else nth L (row - 1):Nat):Int)≤18446744073709551615:=by
      by_cases J:row=0
      · rw[if_pos J];exact V
      · rw[if_neg J];exact Y9 D V h _ (by omega)
    have Y:(if row=0 then(l:Int) else(f:Int))=((if row=0 then l else f:Nat):Int):=by split<;>rfl
    have w1:IntKind.u64.wrap ((at_:Int)*((if row=0 then l else f:Nat):Int))=((at_*(if row=0 then l else f):Nat):Int):=by
      rw[wrap_u64,←Int.natCast_mul];omega
    rw[Y,if_neg (by simp;exact U),if_neg o,w1];by_cases r:at_=nth L row - 1
    · rw[if_pos (show(at_:Int)=(nth L row:Int) - 1 by omega),if_pos r];rfl
    · have O:=b2 r
      have Z:IntKind.u64.wrap (((at_*(if row=0 then l else f):Nat):Int)+((if row=0 then l else f:Nat):Int))=(((at_+1)*(if row=0 then l else f):Nat):Int):=by
        rw[Nat.add_mul,Nat.one_mul]at O⊢;rw[wrap_u64,←Int.natCast_add];omega
      rw[if_neg (show ¬(at_:Int)=(nth L row:Int) - 1 by omega),if_neg r,Z];rfl
theorem Zd (t:TreeV)(J:0≤t.l∧t.l≤4294967295)(total:Nat)(D:(total:Int)≤18446744073709551615)(row:Int)(at_:Nat)(w:World):
    Calls Tryz.prog 52 #[t.val,.int .u64 total,.int .i64 row,.int .u64 at_] w fun e w'=>e= .returned (.tuple #[(t.spotR total row at_).val,.int .i64 (t.spotE total row at_)])∧Below w.heap.size w w':=by
  by_cases q:t.err total=0
  · obtain⟨G,ac,O,Y⟩:=Qu J q
    have ab:=qn Y;have V:t.f=(t.fn:Int):=by unfold TreeV.fn;omega
    have r:=qF q;have I:=Y9 G D r;have Z:=r.len;have hp:(t.pn:Int)≤255:=by unfold TreeV.pn;omega
    have aa:=r.most;have U:=hid (fun w=>qbH t J total D q w);by_cases o:t.there total row at_
    · unfold TreeV.spotR TreeV.spotE
      rw[if_pos ⟨q,o⟩,if_neg (by simp[q]),if_pos o];obtain⟨z0,z1,z2⟩:=o;obtain⟨k,rfl⟩: ∃k:Nat,row=k:=⟨row.toNat,by omega⟩;rw[Int.toNat_natCast]at z1 z2⊢;refine(qdB (L:=t.rowsOf total) t total (by omega) (by omega) U (hid I) (by omega) (by omega) (by omega) (by omega) (by omega) k at_ z1 z2 w).mono ?_;rintro e w' ⟨⟨A,rfl,S⟩,X⟩
      refine⟨?_,X⟩;unfold qaa at S;rw[S,qin V O G D r z1 z2];rfl
    · unfold TreeV.spotR TreeV.spotE
      rw[if_neg (fun h=>o h.2),if_neg (by simp[q]),if_neg o];exact qes (L:=t.rowsOf total) t total (by omega) U (hid I) row at_ (hid o) w
  · unfold TreeV.spotR TreeV.spotE
    rw[if_neg (fun h=>q h.1),if_pos q];exact qet t J total D q row at_ w
theorem zl (t:TreeV)(D:0≤t.l∧t.l≤4294967295)(total:Nat)(r:(total:Int)≤18446744073709551615)(row:Int)(at_:Nat)(w:World):
    Calls Tryz.prog 105 #[t.val,.int .u64 total,.int .i64 row,.int .u64 at_] w fun e w'=>e= .returned (.tuple #[(t.spotR total row at_).val,.int .i64 (t.spotE total row at_)])∧Below w.heap.size w w':=by
  by_cases q:t.err total=0
  · refine(qjh t D total r q row at_ w).mono ?_
    rintro e w' ⟨rfl,G⟩
    refine⟨?_,G⟩;unfold TreeV.spotR TreeV.spotE;by_cases o:t.there total row at_
    · rw[if_pos (show t.err total=0∧t.there total row at_ from⟨q,o⟩),if_neg (show ¬(t.err total≠0) by simp[q]),if_pos o,if_pos o]
    · rw[if_neg (show ¬(t.err total=0∧t.there total row at_) from fun h=>o h.2),if_neg (show ¬(t.err total≠0) by simp[q]),if_neg o,if_neg o]
  · unfold TreeV.spotR TreeV.spotE
    rw[if_neg (fun h=>q h.1),if_pos q];exact qh0 t D total r q row at_ w
end Go.Proofs.YthjoojnlnlmljaaGreat
namespace Go.Proofs.YthjoojnlnlmljaaGreat
open Go.ChangeShapes Go.WideShapes Go.ChangeAt Go.RowKit Go.Joins Go.Shelf Go.Maps
open Go.Lib (hid)
attribute [local go_sem] Oper.semAt_some
theorem qfX (t:TreeV)(total:Nat)(row:Int)(at_:Nat){I:Int}{z1 z2 S:Int}{O:Bool}{J:Bool}{e:Int}(G:Hid (∀w,Calls Tryz.prog 105 #[t.val,.int .u64 total,.int .i64 row,.int .u64 at_] w fun r w'=>r= .returned (.tuple #[.agg #[.int .i64 I,.int .u64 z1,.int .u64 z2,.int .u64 S,.bool O,.bool J],.int .i64 e])∧Below w.heap.size w w'))(Y:(e != 0)=true)(w:World):
    Calls Tryz.prog 106 #[t.val,.int .u64 total,.int .i64 row,.int .u64 at_] w fun r w'=>r= .returned (.tuple #[.int .u64 0,.int .i64 e])∧Below w.heap.size w w':=by
  unfold TreeV.val at*;go_enter Tryz.func106,Tryz.ntmps106
  go_wp2_with fail
  refine(G.out _).mono ?_;rintro r w1 ⟨rfl,o⟩;obtain⟨X,U⟩:=yS o;have D:=o.size;simp at D
  have V:w.heap.size<w1.heap.size:=by omega
  have q:Below w.heap.size w w1:=qt _ o;clear o;go_wp2
  refine Bp (results_tmp2 (fn:=Tryz.f106) (t:=8) (u:=9) rfl _ _ _) rfl ⟨rfl,?_⟩;first|exact q|exact q.alloc (by omega) _
theorem qeD (t:TreeV)(total:Nat)(row:Int)(at_:Nat){I:Int}{z1 z2 O:Int}{J:Bool}(G:Hid (∀w,Calls Tryz.prog 105 #[t.val,.int .u64 total,.int .i64 row,.int .u64 at_] w fun r w'=>r= .returned (.tuple #[.agg #[.int .i64 I,.int .u64 z1,.int .u64 z2,.int .u64 O,.bool J,.bool true],.int .i64 0])∧Below w.heap.size w w'))(w:World):
    Calls Tryz.prog 106 #[t.val,.int .u64 total,.int .i64 row,.int .u64 at_] w fun r w'=>r= .returned (.tuple #[.int .u64 0,.int .i64 6])∧Below w.heap.size w w':=by
  unfold TreeV.val at*;go_enter Tryz.func106,Tryz.ntmps106
  go_wp2_with fail
  refine(G.out _).mono ?_;rintro r w1 ⟨rfl,o⟩;obtain⟨V,S⟩:=yS o;have D:=o.size;simp at D
  have U:w.heap.size<w1.heap.size:=by omega
  have q:Below w.heap.size w w1:=qt _ o;clear o;go_wp2
  refine Bp (results_tmp2 (fn:=Tryz.f106) (t:=8) (u:=9) rfl _ _ _) rfl ⟨rfl,?_⟩;first|exact q|exact q.alloc (by omega) _
theorem qeE (t:TreeV)(total:Nat)(row:Int)(at_:Nat){Y:Int}{z1 z2 z3:Int}{Z:Bool}{U:Int}{y1 V y3:Int}{X:Bool}{y6:Int}(S:Hid (∀w,Calls Tryz.prog 105 #[t.val,.int .u64 total,.int .i64 row,.int .u64 at_] w fun r w'=>r= .returned (.tuple #[.agg #[.int .i64 Y,.int .u64 z1,.int .u64 z2,.int .u64 z3,.bool Z,.bool false],.int .i64 0])∧Below w.heap.size w w'))(H2:Hid (∀w,Calls Tryz.prog 105 #[t.val,.int .u64 total,.int .i64 (row+1),.int .u64 0] w fun r w'=>r= .returned (.tuple #[.agg #[.int .i64 U,.int .u64 y1,.int .u64 V,.int .u64 y3,.bool X,.bool true],.int .i64 y6])∧Below w.heap.size w w'))(hr:0≤row∧row≤254)(w:World):
    Calls Tryz.prog 106 #[t.val,.int .u64 total,.int .i64 row,.int .u64 at_] w fun r w'=>r= .returned (.tuple #[.int .u64 0,.int .i64 0])∧Below w.heap.size w w':=by
  unfold TreeV.val at*;go_enter Tryz.func106,Tryz.ntmps106
  go_wp2_with fail
  refine(S.out _).mono ?_;rintro r w1 ⟨rfl,o⟩;obtain⟨hc,aa⟩:=yS o;have G:=o.size;simp at G
  have k0:w.heap.size<w1.heap.size:=by omega
  have J:Below w.heap.size w w1:=qt _ o;clear o;go_wp2_with fail
  refine(H2.out _).mono ?_;rintro r O ⟨rfl,q⟩;have I:=q.size;simp at I
  have k2:w.heap.size<O.heap.size:=by omega
  obtain⟨ab,ac⟩:=yS q;have D:Below w.heap.size w O:=(J.alloc (by omega) _).trans (q.mono (by simp;omega));clear q;go_wp2
  refine Bp (results_tmp2 (fn:=Tryz.f106) (t:=8) (u:=9) rfl _ _ _) rfl ⟨rfl,?_⟩;first|exact D|exact D.alloc (by omega) _
theorem qhm (t:TreeV)(total:Nat)(row:Int)(at_:Nat){z0:Int}{z1 z2 z3:Int}{z4:Bool}{Y:Int}{y1 Z y3:Int}{y4:Bool}{y6:Int}(X:Hid (∀w,Calls Tryz.prog 105 #[t.val,.int .u64 total,.int .i64 row,.int .u64 at_] w fun r w'=>r= .returned (.tuple #[.agg #[.int .i64 z0,.int .u64 z1,.int .u64 z2,.int .u64 z3,.bool z4,.bool false],.int .i64 0])∧Below w.heap.size w w'))(H2:Hid (∀w,Calls Tryz.prog 105 #[t.val,.int .u64 total,.int .i64 (row+1),.int .u64 0] w fun r w'=>r= .returned (.tuple #[.agg #[.int .i64 Y,.int .u64 y1,.int .u64 Z,.int .u64 y3,.bool y4,.bool false],.int .i64 y6])∧Below w.heap.size w w'))(hr:0≤row∧row≤254)(hf:2≤t.f∧t.f≤255)(ha:(at_:Int)≤18446744073709551615)(w:World):
    Calls Tryz.prog 106 #[t.val,.int .u64 total,.int .i64 row,.int .u64 at_] w fun r w'=>r= .returned (.tuple #[.int .u64 (at_/t.fn:Nat),.int .i64 0])∧Below w.heap.size w w':=by
  have aa:(t.f==0)=false:=by rw[beq_eq_false_iff_ne];omega
  have I:t.f=(t.fn:Int):=by unfold TreeV.fn;omega
  have G:((at_/t.fn:Nat):Int)=(at_:Int)/t.f:=by rw[I];exact Int.natCast_ediv at_ t.fn
  have O:=Nat.div_le_self at_ t.fn;have e3:(at_:Int)/t.f≤18446744073709551615:=by rw[←G];omega
  have e4:0≤(at_:Int)/t.f:=by rw[←G];exact Int.natCast_nonneg _
  have HQ:=hid G;clear G I O;unfold TreeV.val at*;go_enter Tryz.func106,Tryz.ntmps106
  go_wp2_with fail
  refine(X.out _).mono ?_;rintro r w1 ⟨rfl,o⟩;obtain⟨hc,ab⟩:=yS o;have J:=o.size;simp at J
  have k0:w.heap.size<w1.heap.size:=by omega
  have U:Below w.heap.size w w1:=qt _ o;clear o;go_wp2_with fail
  refine(H2.out _).mono ?_;rintro r V ⟨rfl,q⟩;have S:=q.size;simp at S
  have k2:w.heap.size<V.heap.size:=by omega
  obtain⟨ac,ad⟩:=yS q;have D:Below w.heap.size w V:=(U.alloc (by omega) _).trans (q.mono (by simp;omega));clear q;go_wp2
  refine Bp (results_tmp2 (fn:=Tryz.f106) (t:=8) (u:=9) rfl _ _ _) rfl ⟨by rw[HQ.out];rfl,?_⟩;first|exact D|exact D.alloc (by omega) _
theorem qel {f p total l:Nat}{L:List Nat}(h:RowsIs f p (lvs total l) L): ∀k,k<L.length→1≤nth L k
  | 0,_=>by rw[h.first];unfold lvs;omega
  | k+1,hk=>by
    have o:=qel h k (by omega);rw[h.next k hk];unfold yn;split
    · omega
    · exact ZD o
def TreeV.parV (t:TreeV)(total:Nat)(row:Int)(at_:Nat):Nat:=if t.spotE total row at_≠0∨(t.spotR total row at_).root=true∨nth (t.rowsOf total) (row.toNat+1)=1 then 0 else at_/t.fn
def TreeV.parE (t:TreeV)(total:Nat)(row:Int)(at_:Nat):Int:=if t.spotE total row at_≠0 then t.spotE total row at_ else if(t.spotR total row at_).root=true then 6 else 0
theorem Y1 (s:SpotV):s.val= .agg #[.int .i64 s.row,.int .u64 s.at_,.int .u64 s.frm,.int .u64 s.to_,.bool s.last,.bool s.root]:=rfl
theorem qfE {t:TreeV}(S:0≤t.l∧t.l≤4294967295){total:Nat}{row:Int}{at_:Nat}(h:t.spotE total row at_=0)(q:(t.spotR total row at_).root=false):
    t.err total=0∧ ∃k:Nat,row=k∧k+1<(t.rowsOf total).length∧(t.rowsOf total).length≤255∧(nth (t.rowsOf total) (k+1)≠1→2≤t.f∧t.f≤255)∧
      t.spotE total ((k:Int)+1) 0=0∧(t.spotR total ((k:Int)+1) 0).root=decide (nth (t.rowsOf total) (k+1)=1):=by
  by_cases o:t.err total=0
  · refine⟨o,?_⟩
    obtain⟨Y,ac,X,V⟩:=Qu S o;have ab:=qn V;have J:=qF o;have hm:=J.most;have Z:t.f=(t.fn:Int):=by unfold TreeV.fn;omega
    have aa:(t.pn:Int)≤255:=by unfold TreeV.pn;omega
    unfold TreeV.spotE at h;rw[if_neg (by simp[o])]at h;by_cases D:t.there total row at_
    · unfold TreeV.spotR at q
      rw[if_pos ⟨o,D⟩]at q;obtain⟨z0,z1,z2⟩:=D;obtain⟨k,rfl⟩: ∃k:Nat,row=k:=⟨row.toNat,by omega⟩;rw[Int.toNat_natCast]at q z1 z2;have O: ¬(1≤k∧nth (t.rowsOf total) k=1):=by
        intro U;unfold TreeV.spot QV at q;rw[if_pos U]at q;simp at q
      have I:k+1<(t.rowsOf total).length:=by
        have: ¬k=(t.rowsOf total).length - 1:=fun e=>O ((J.root_iff z1).2 e)
        omega
      have G:t.there total ((k:Int)+1) 0:=by
        have e:((k:Int)+1).toNat=k+1:=by omega
        refine⟨by omega,by rw[e];exact I,by rw[e];exact qel J _ I⟩
      refine⟨k,rfl,I,by omega,?_,?_,?_⟩
      · intro r
        have:=(J.next_or I r).2
        omega
      · unfold TreeV.spotE
        rw[if_neg (by simp[o]),if_pos G]
      · unfold TreeV.spotR
        rw[if_pos ⟨o,G⟩,show((k:Int)+1).toNat=k+1 by omega];unfold TreeV.spot QV;by_cases r:nth (t.rowsOf total) (k+1)=1
        · rw[if_pos ⟨by omega,r⟩];simp[r]
        · rw[if_neg (fun h=>r h.2)];split<;>simp[r]
    · rw[if_neg D]at h;omega
  · unfold TreeV.spotE at h
    rw[if_pos o]at h;exact absurd h o
theorem qbP (t:TreeV)(I:0≤t.l∧t.l≤4294967295)(total:Nat)(J:(total:Int)≤18446744073709551615)(row:Int)(at_:Nat)(O:(at_:Int)≤18446744073709551615)(w:World):
    Calls Tryz.prog 106 #[t.val,.int .u64 total,.int .i64 row,.int .u64 at_] w fun r w'=>r= .returned (.tuple #[.int .u64 (t.parV total row at_),.int .i64 (t.parE total row at_)])∧Below w.heap.size w w':=by
  have q:=hid (fun w=>zl t I total J row at_ w);simp only[Y1]at q;unfold TreeV.parV TreeV.parE;by_cases o:t.spotE total row at_=0
  · rw[o]at q
    cases hr:(t.spotR total row at_).root with
    | true=>
      rw[hr]at q;rw[if_pos (.inr (.inl rfl)),if_neg (by simp[o]),if_pos rfl];exact qeD t total row at_ q w
    | false=>
      rw[hr]at q;obtain⟨V,k,rfl,Z,X,U,Y,S⟩:=qfE I o hr;have D:=hid (fun w=>zl t I total J ((k:Int)+1) 0 w);simp only[Y1]at D;rw[S]at D;rw[Int.toNat_natCast];by_cases G:nth (t.rowsOf total) (k+1)=1
      · rw[decide_eq_true G]at D
        rw[if_pos (.inr (.inr G)),if_neg (by simp[o]),if_neg (by simp)];exact qeE t total k at_ q D (by omega) w
      · rw[decide_eq_false G]at D
        rw[if_neg (by simp[o,G]),if_neg (by simp[o]),if_neg (by simp)];exact qhm t total k at_ q D (by omega) (U G) O w
  · rw[if_pos (.inl o),if_pos o]
    exact qfX t total row at_ q (by rw[bne_iff_ne];exact o) w
end Go.Proofs.YthjoojnlnlmljaaGreat
namespace Go.Proofs.YthjoojnlnlmljaaGreat
open Go.ChangeShapes Go.WideShapes Go.ChangeAt Go.RowKit Go.Joins Go.Shelf Go.Maps
open Go.Lib (hid)
theorem qei {t:TreeV}{total k at_:Nat}(q:t.err total=0)(D:k<(t.rowsOf total).length)(r:at_<nth (t.rowsOf total) k):
    t.spotE total k at_=0∧t.spotR total k at_=QV t.fn t.ln total (t.rowsOf total) k at_:=by
  have o:t.there total k at_:=⟨by omega,by rw[Int.toNat_natCast];exact D,by rw[Int.toNat_natCast];exact r⟩;unfold TreeV.spotE TreeV.spotR;rw[if_neg (by simp[q]),if_pos o,if_pos ⟨q,o⟩,Int.toNat_natCast];exact⟨rfl,rfl⟩
def Qw (f:Nat)(L:List Nat)(leaf:Nat):Nat→Nat
  | 0=>leaf
  | k+1=>if nth L (k+1)=1 then 0 else Qw f L leaf k/f
theorem qhn {f p total l:Nat}{L:List Nat}(h:RowsIs f p (lvs total l) L){k at_:Nat}(r:k+1<L.length)(D:at_<nth L k):(if nth L (k+1)=1 then 0 else at_/f)<nth L (k+1):=by
  by_cases o:nth L (k+1)=1
  · rw[if_pos o];omega
  · rw[if_neg o]
    obtain⟨e,G⟩:=h.next_or r o;rw[e];rcases Nat.lt_or_ge (at_/f) (qP (nth L k) f)with q|q
    · exact q
    · have:=j6 (by omega) q
      have d1:=Nat.div_add_mod at_ f;rw[Nat.mul_comm]at this;omega
theorem yU {f p total l:Nat}{L:List Nat}(h:RowsIs f p (lvs total l) L){leaf:Nat}(o:leaf<nth L 0): ∀k,k<L.length→Qw f L leaf k<nth L k
  | 0,_=>o
  | k+1,hk=>qhn h hk (yU h o k (by omega))
def qx (t:TreeV)(total leaf k:Nat):SpotV:=QV t.fn t.ln total (t.rowsOf total) k (Qw t.fn (t.rowsOf total) leaf k)
theorem zI (f l total:Nat)(L:List Nat)(row at_:Nat):(QV f l total L row at_).row=row∧(QV f l total L row at_).at_=at_∧(QV f l total L row at_).root=decide (1≤row∧nth L row=1):=by
  unfold QV;by_cases o:1≤row∧nth L row=1
  · rw[if_pos o];exact⟨rfl,rfl,(decide_eq_true o).symm⟩
  · rw[if_neg o]
    split<;>exact⟨rfl,rfl,(decide_eq_false o).symm⟩
theorem Z4 {t:TreeV}{total:Nat}{leaf:Nat}(J:t.err total=0)(X:leaf<nth (t.rowsOf total) 0){k:Nat}(r:k<(t.rowsOf total).length):
    t.spotE total k (Qw t.fn (t.rowsOf total) leaf k)=0∧t.spotR total k (Qw t.fn (t.rowsOf total) leaf k)=qx t total leaf k∧(qx t total leaf k).row=k∧(qx t total leaf k).at_=Qw t.fn (t.rowsOf total) leaf k∧
      (qx t total leaf k).root=decide (k=(t.rowsOf total).length - 1)∧(k≠(t.rowsOf total).length - 1→t.parV total k (Qw t.fn (t.rowsOf total) leaf k)=Qw t.fn (t.rowsOf total) leaf (k+1)):=by
  have S:=qF J;have V:=yU S X k r;obtain⟨O,D⟩:=qei J r V;obtain⟨Y,Z,I⟩:=zI t.fn t.ln total (t.rowsOf total) k (Qw t.fn (t.rowsOf total) leaf k);have o:decide (1≤k∧nth (t.rowsOf total) k=1)=decide (k=(t.rowsOf total).length - 1):=by
    rw[decide_eq_decide];exact S.root_iff r
  refine⟨O,D,Y,Z,I.trans o,fun U=>?_⟩;have G:(t.spotR total k (Qw t.fn (t.rowsOf total) leaf k)).root=false:=by
    rw[D,I,o,decide_eq_false U]
  unfold TreeV.parV;rw[Int.toNat_natCast];by_cases q:nth (t.rowsOf total) (k+1)=1
  · rw[if_pos (.inr (.inr q))]
    show 0=if nth (t.rowsOf total) (k+1)=1 then 0 else _
    rw[if_pos q]
  · rw[if_neg (by simp[O,G,q])]
    show _=if nth (t.rowsOf total) (k+1)=1 then 0 else _
    rw[if_neg q]
end Go.Proofs.YthjoojnlnlmljaaGreat
namespace Go.Proofs.YthjoojnlnlmljaaGreat
open Go.ChangeShapes Go.WideShapes Go.ChangeAt Go.RowKit Go.Joins Go.Shelf Go.Maps
open Go.Lib (hid)
attribute [local go_sem] Oper.semAt_some
def SpotV.cellsL (s:SpotV):List Value:=[.int .i64 s.row,.int .u64 s.at_,.int .u64 s.frm,.int .u64 s.to_,.bool s.last,.bool s.root]
def qbC:Value→Nat
  | .slice _ n _=>n
  | _=>0
theorem Yd {W W':World}{base:Nat}{e:TypeId}{size:Nat}{v:Value}{n:Nat}{xs:List Value}(h:W.ownsRow base e size v n xs)(J: ∀g,base≤g→g<W.heap.size→W'.heap[g]? =W.heap[g]?):W'.ownsRow base e size v n xs:=by
  refine⟨h.1,?_⟩;rcases h.2 with o|⟨g,D,q,G,o,r,I⟩
  · exact .inl o
  · exact .inr ⟨g,D,q,G,o,(J g o (Ai r).1).trans r,I⟩
theorem qcb {W:World}{b:Nat}{a0 a1 a2 D J G:Value}{T:TypeId}(h:W.heap[b]? =some (Obj.cells #[a0,a1,a2,D,J,G] T (0,0))):
    W.cell? ⟨b,0,none⟩=some a0∧W.cell? ⟨b,1,none⟩=some a1∧W.cell? ⟨b,2,none⟩=some a2∧W.cell? ⟨b,3,none⟩=some D∧W.cell? ⟨b,4,none⟩=some J∧W.cell? ⟨b,5,none⟩=some G∧ ∀i,W.frozen? ⟨b,i,none⟩=false:=by
  have q:=qd h 0;have c1:=qd h 1;have c2:=qd h 2;have I:=qd h 3;have o:=qd h 4;have r:=qd h 5;simp only[List.getElem?_toArray,List.getElem?_cons_zero,List.getElem?_cons_succ]at q c1 c2 I o r;exact⟨q,c1,c2,I,o,r,fun i=>by simp[World.frozen?,h]⟩
def yV (t:TreeV)(total leaf:Nat):Nat→List Value
  | 0=>[]
  | k+1=>yV t total leaf k++((qx t total leaf (k+1)).cellsL++[.int .u64 ((Qw t.fn (t.rowsOf total) leaf k:Int) - ((qx t total leaf (k+1)).frm:Int))])
theorem qgc:(Tryz.prog.info? 127).map (fun i=>(i.zero,i.size,i.bytes))=some (some (.agg #[.int .i64 0,.int .u64 0,.int .u64 0,.int .u64 0,.bool false,.bool false,.int .u64 0]),7,48):=by kernel_rfl
theorem qgq (W:World)(a0 a1 a2 o q r D:Value)(T:TypeId)(n:Nat)(I:n=W.heap.size): ∀j u,[a0,a1,a2,o,q,r,D][j]? =some u→(W.alloc (.cells #[a0,a1,a2,o,q,r,D] T)).cell? (Addr.add ⟨n,0,none⟩ j)=some u:=by
  subst I;intro j u G;have h:=qd (Wn W (.cells #[a0,a1,a2,o,q,r,D] T)) j;rw[show Addr.add ⟨W.heap.size,0,none⟩ j=⟨W.heap.size,j,none⟩ by first|(simp[Addr.add];done)|(simp[Addr.add];omega),h];rw[←Array.getElem?_toList];exact G
def qi7 (t:TreeV)(total leaf n:Nat)(w1:World)(v:Value)(wr:World):Prop:=
  ∃k,k<n∧qbC v=k∧wr.ownsRow (w1.heap.size+1) 127 7 v k (yV t total leaf k)∧Below w1.heap.size w1 wr∧
    wr.heap[w1.heap.size]? =some (Obj.cells #[.int .i64 k,.int .u64 (Qw t.fn (t.rowsOf total) leaf k:Nat),.int .u64 (qx t total leaf k).frm,.int .u64 (qx t total leaf k).to_,.bool (qx t total leaf k).last,.bool (decide (k=n - 1))] 96 (0,0))
theorem Ye {w:World}{base size n:Nat}{e:TypeId}{v:Value}{xs:List Value}(h:w.ownsRow base e size v n xs): ∃a c,v= .slice a n c:=by
  rcases ownsRow_forms h with⟨h,o⟩|⟨g,q,h⟩
  · exact⟨none,0,by rw[h,o]⟩
  · exact⟨_,_,h⟩
theorem qhS (t:TreeV)(total leaf:Nat){n:Nat}(hn:2≤n)(av:n≤255)
    (HS:Hid (∀k,k<n→ ∀w,Calls Tryz.prog 105 #[t.val,.int .u64 total,.int .i64 k,.int .u64 (Qw t.fn (t.rowsOf total) leaf k:Nat)] w fun r w'=>r= .returned (.tuple #[.agg #[.int .i64 k,.int .u64 (Qw t.fn (t.rowsOf total) leaf k:Nat),.int .u64 (qx t total leaf k).frm,.int .u64 (qx t total leaf k).to_,.bool (qx t total leaf k).last,.bool (decide (k=n - 1))],.int .i64 0])∧Below w.heap.size w w'))
    (HP:Hid (∀k,k+1<n→ ∀w,Calls Tryz.prog 106 #[t.val,.int .u64 total,.int .i64 k,.int .u64 (Qw t.fn (t.rowsOf total) leaf k:Nat)] w fun r w'=>r= .returned (.tuple #[.int .u64 (Qw t.fn (t.rowsOf total) leaf (k+1):Nat),.int .i64 0])∧Below w.heap.size w w'))
    (HW:Hid (∀k,k<n→(qx t total leaf k).cellsL=[.int .i64 k,.int .u64 (Qw t.fn (t.rowsOf total) leaf k:Nat),.int .u64 (qx t total leaf k).frm,.int .u64 (qx t total leaf k).to_,.bool (qx t total leaf k).last,.bool (decide (k=n - 1))]))
    (HF:Hid (∀k,k+1<n→((qx t total leaf (k+1)).frm:Int)≤(Qw t.fn (t.rowsOf total) leaf k:Int)∧(Qw t.fn (t.rowsOf total) leaf k:Int)≤18446744073709551615)) (w:World):
    Calls Tryz.prog 68 #[t.val,.int .u64 total,.int .u64 leaf] w fun e w'=> ∃v,e= .returned (.tuple #[v,.int .i64 0])∧w'.ownsRow w.heap.size 127 7 v (n - 1) (yV t total leaf (n - 1))∧Below w.heap.size w w':=by
  obtain⟨i0,hi,ad,ag,ae⟩:=info_parts qgc;have S0:=hid (HS.out 0 (by omega));have W0:=hid (HW.out 0 (by omega));unfold TreeV.val at*;have q0:decide (0=n - 1)=false:=decide_eq_false (by omega);rw[q0]at S0 W0;simp only[Qw,Int.natCast_zero]at S0 W0;go_enter Tryz.func68,Tryz.ntmps68
  go_wp2_with fail
  refine(S0.out _).mono ?_;rintro r w1 ⟨rfl,U⟩;have ah:=U.size;simp at ah
  have k1:w.heap.size<w1.heap.size:=by omega
  have ai:Below w.heap.size w w1:=qt _ U;obtain⟨aw,aA⟩:=yS U;clear U;go_wp2_with fail
  go_loopw [10] (fun v wr=>qi7 t total leaf n w1 v wr) (fun v _=>n - qbC v)
  case atStart=>
    refine⟨0,by omega,rfl,Wo _ _ _ _,(Below.refl _ w1).alloc Nl _,?_⟩;rw[q0];exact Wn _ _
  case round=>
    obtain⟨k,hk,ao,o,hb,q⟩:=hrel;have aB:=hb.size;obtain⟨ar,ax⟩:=yS hb;have az:w1.heap.size<wr.heap.size:=(Ai q).1;have BX:=hid q;obtain⟨c0,c1,c2,c3,c4,c5,cf⟩:=qcb q;clear q;obtain⟨ga,gc,rfl⟩:=Ye o;by_cases D:k=n - 1
    · have q1:decide (k=n - 1)=true:=decide_eq_true D
      rw[q1]at c5;go_wp2
      refine Bp (results_tmp2 (fn:=Tryz.f68) (t:=6) (u:=7) rfl _ _ _) rfl ⟨_,rfl,?_,ai.trans (hb.mono (by omega))⟩;rw[←D];exact ownsRow_le o (by omega)
    · have q1:decide (k=n - 1)=false:=decide_eq_false D
      rw[q1]at c5;obtain⟨aq,ap⟩:=HF.out k (by omega);go_wp2_with fail
      refine(HP.out k (by omega) _).mono ?_;rintro r w3 ⟨rfl,I⟩;have af:=I.size;obtain⟨d0,d1,d2,d3,d4,d5,df⟩:=qcb ((I.block _ (by omega)).trans BX.out);have aa:Below w1.heap.size w1 w3:=hb.trans (I.mono (by omega));obtain⟨aC,au⟩:=yS aa;have Z:=HS.out (k+1) (by omega);simp only[Int.natCast_add,Int.natCast_one]at Z;have Z:=hid Z;go_wp2_with fail
      refine(Z.out _).mono ?_;rintro r Y ⟨rfl,J⟩;have ay:=J.size;have am:w1.heap.size<Y.heap.size:=by omega
      have E4:=(J.block _ (by omega)).trans ((I.block _ (by omega)).trans BX.out);have aj:=hid E4;obtain⟨e0,e1,e2,e3,e4,e5,ef⟩:=qcb E4;have an:Below w1.heap.size w1 Y:=aa.trans (J.mono (by omega));have S:=Yd o (fun g _ g2=>(I.trans (J.mono af)).block g g2);have V:=hid S;clear E4 S o;go_wp2_with (at_builtin;refine wpList_append_own _ rfl _ _ 121 rfl (w1.heap.size+1) 127 i0 _ 7 48 Tryz.underlying121 hi ad ag ae rfl (by decide) (.slice ga k gc) k (yV t total leaf k) rfl ?_ ⟨Y.heap.size+1,0,none⟩ 1 1 [.int .i64 ((k:Int)+1),.int .u64 (Qw t.fn (t.rowsOf total) leaf (k+1):Nat),.int .u64 (qx t total leaf (k+1)).frm,.int .u64 (qx t total leaf (k+1)).to_,.bool (qx t total leaf (k+1)).last,.bool (decide (k+1=n - 1)),.int .u64 ((Qw t.fn (t.rowsOf total) leaf k:Int) - ((qx t total leaf (k+1)).frm:Int))] rfl rfl ?_ (by simp[Value.oneCell']) (by unfold maxLen;omega) (by omega) (by simp;omega) ?_;exact(V.out.alloc _).alloc _;exact qgq _ _ _ _ _ _ _ _ _ _ (by simp);intro v' w5 O G _;have U5:w5.heap[Y.heap.size]? =some (Obj.cells #[.int .i64 ((k:Int)+1),.int .u64 (Qw t.fn (t.rowsOf total) leaf (k+1):Nat),.int .u64 (qx t total leaf (k+1)).frm,.int .u64 (qx t total leaf (k+1)).to_,.bool (qx t total leaf (k+1)).last,.bool (decide (k+1=n - 1))] 96 (0,0)):=(G.block Y.heap.size (by simp;omega) (fun e=>absurd ((V.out.lt _ e.symm).2) (Nat.lt_irrefl _))).trans ((Bh _ _ _ (by simp)).trans (Wn _ _));have S5:=(G.block w1.heap.size (by simp;omega) (fun e=>absurd ((V.out.lt _ e.symm).1) (by omega))).trans ((Bh _ _ _ (by simp;omega)).trans ((Bh _ _ _ am).trans aj.out));obtain⟨u0,u1,u2,u3,u4,u5,uf⟩:=qcb U5;obtain⟨s0,s1,s2,s3,s4,s5,sf⟩:=qcb S5;have ak:=hid S5;clear U5 S5)
      obtain⟨g2,ab,rfl⟩:=ownsRow_form O (by omega);have hW:=HW.out (k+1) (by omega);simp only[Int.natCast_add,Int.natCast_one]at hW;have al:Below w1.heap.size w1 w5:=((an.alloc (by omega) _).alloc (by simp;omega) _).grown G (by simp;omega) (fun j e=>by have:=(V.out.lt j e).1;omega);have ac:=yA ak.out (.int .i64 ((k:Int)+1)) (.int .u64 (Qw t.fn (t.rowsOf total) leaf (k+1):Nat)) (.int .u64 (qx t total leaf (k+1)).frm) (.int .u64 (qx t total leaf (k+1)).to_) (.bool (qx t total leaf (k+1)).last) (.bool (decide (k+1=n - 1)));refine⟨⟨k+1,by omega,rfl,?_,yC al Nl (.int .i64 ((k:Int)+1)) (.int .u64 (Qw t.fn (t.rowsOf total) leaf (k+1):Nat)) (.int .u64 (qx t total leaf (k+1)).frm) (.int .u64 (qx t total leaf (k+1)).to_) (.bool (qx t total leaf (k+1)).last) (.bool (decide (k+1=n - 1))),?_⟩,by simp[qbC];omega⟩
      · have X:w5.ownsRow (w1.heap.size+1) 127 7 (.slice (some ⟨g2,0,none⟩) (k+1) ab) (k+1) (yV t total leaf (k+1)):=by
          show w5.ownsRow _ _ 7 _ _ (yV t total leaf k++((qx t total leaf (k+1)).cellsL++_))
          rw[hW];exact O
        exact(ownsRow_setCell_below (ownsRow_setCell_below (ownsRow_setCell_below (ownsRow_setCell_below (ownsRow_setCell_below (ownsRow_setCell_below X (a:=⟨w1.heap.size,0,none⟩) (Nat.lt_succ_self _) _) (a:=⟨w1.heap.size,1,none⟩) (Nat.lt_succ_self _) _) (a:=⟨w1.heap.size,2,none⟩) (Nat.lt_succ_self _) _) (a:=⟨w1.heap.size,3,none⟩) (Nat.lt_succ_self _) _) (a:=⟨w1.heap.size,4,none⟩) (Nat.lt_succ_self _) _) (a:=⟨w1.heap.size,5,none⟩) (Nat.lt_succ_self _) _)
      · simp only[Int.natCast_add,Int.natCast_one]
        exact ac
theorem qgD (t:TreeV)(total leaf:Nat){G z1 z2 S:Int}{O J:Bool}{e:Int}
    (I:Hid (∀w,Calls Tryz.prog 105 #[t.val,.int .u64 total,.int .i64 0,.int .u64 leaf] w fun r w'=>r= .returned (.tuple #[.agg #[.int .i64 G,.int .u64 z1,.int .u64 z2,.int .u64 S,.bool O,.bool J],.int .i64 e])∧Below w.heap.size w w')) (U:(e != 0)=true) (w:World):
    Calls Tryz.prog 68 #[t.val,.int .u64 total,.int .u64 leaf] w fun r w'=>r= .returned (.tuple #[.slice none 0 0,.int .i64 e])∧Below w.heap.size w w':=by
  unfold TreeV.val at*;go_enter Tryz.func68,Tryz.ntmps68
  go_wp2_with fail
  refine(I.out _).mono ?_;rintro r w1 ⟨rfl,o⟩;have D:=o.size;simp at D
  have q:Below w.heap.size w w1:=qt _ o;go_wp2
  refine Bp (results_tmp2 (fn:=Tryz.f68) (t:=6) (u:=7) rfl _ _ _) rfl ⟨rfl,?_⟩;first|exact q|exact q.alloc (by omega) _
theorem zf (s:SpotV):s.cellsL.length=6:=rfl
theorem zR (t:TreeV)(total leaf:Nat): ∀k,(yV t total leaf k).length=7*k
  | 0=>rfl
  | k+1=>by
    have:=zR t total leaf k
    simp only[yV,List.length_append,this,zf,List.length_cons,List.length_nil];omega
theorem QE (t:TreeV)(total leaf:Nat): ∀m i c,i<m→c<6→(yV t total leaf m)[7*i+c]? =(qx t total leaf (i+1)).cellsL[c]?
  | m+1,i,c,h,hc=>by
    have o:=zR t total leaf m;show(yV t total leaf m++_)[7*i+c]? =_
    by_cases q:i=m
    · subst q
      rw[List.getElem?_append_right (by omega),o,show 7*i+c - 7*i=c by omega,List.getElem?_append_left (by rw[zf];exact hc)]
    · rw[List.getElem?_append_left (by omega)]
      exact QE t total leaf m i c (by omega) hc
theorem ZF (t:TreeV)(total leaf:Nat): ∀m i,i<m→(yV t total leaf m)[7*i+6]? =some (.int .u64 ((Qw t.fn (t.rowsOf total) leaf i:Int) - ((qx t total leaf (i+1)).frm:Int)))
  | m+1,i,h=>by
    have o:=zR t total leaf m;show(yV t total leaf m++_)[7*i+6]? =_
    by_cases q:i=m
    · subst q
      rw[List.getElem?_append_right (by omega),o,show 7*i+6 - 7*i=6 by omega,List.getElem?_append_right (by rw[zf];omega),zf];rfl
    · rw[List.getElem?_append_left (by omega)]
      exact ZF t total leaf m i (by omega)
def qgG (t:TreeV)(total leaf:Nat):Nat→Int
  | 0=>0
  | k+1=>IntKind.u64.wrap (qgG t total leaf k+(((qx t total leaf (k+1)).to_:Int) - ((qx t total leaf (k+1)).frm:Int) - 1))
theorem qjk (t:TreeV)(total leaf:Nat){n:Nat}(hn:2≤n)(Y:n≤255)
    (S:Hid (∀w,Calls Tryz.prog 68 #[t.val,.int .u64 total,.int .u64 leaf] w fun e w'=> ∃v,e= .returned (.tuple #[v,.int .i64 0])∧w'.ownsRow w.heap.size 127 7 v (n - 1) (yV t total leaf (n - 1))∧Below w.heap.size w w'))
    (V:Hid (∀k,1≤k→k<n→((qx t total leaf k).frm:Int)+1≤((qx t total leaf k).to_:Int)∧((qx t total leaf k).to_:Int)≤18446744073709551615)) (w:World):
    Calls Tryz.prog 30 #[t.val,.int .u64 total,.int .u64 leaf] w fun e w'=>e= .returned (.tuple #[.int .u64 (qgG t total leaf (n - 1)),.int .i64 0])∧Below w.heap.size w w':=by
  obtain⟨m,rfl⟩: ∃m,n=m+1:=⟨n - 1,by omega⟩;rw[Nat.add_sub_cancel]at S⊢;unfold TreeV.val at*;go_enter Tryz.func30,Tryz.ntmps30
  go_wp2_with fail
  refine(S.out _).mono ?_;rintro r w1 ⟨v,rfl,D,J⟩;obtain⟨g,X,rfl⟩:=ownsRow_form D (by omega);have G:=(D.lt g (by simp[Value.ownBlock])).2;have U:Below w.heap.size w w1:=qt _ J;have I:=hid D;clear D;have O:=J.size;simp at O
  go_wp2_with fail
  go_loopw [10,22] (fun s i wr=> ∃j:Nat,j≤m∧s= .int .u64 (qgG t total leaf j)∧i= .int .i64 j∧Below w1.heap.size w1 wr) (fun _ i _=>m - (intOf i).toNat)
  case atStart=>exact⟨0,by omega,rfl,rfl,Below.refl _ _⟩
  case round=>
    obtain⟨j,hj,rfl,rfl,q⟩:=hrel;by_cases o:j<m
    · obtain⟨f1,f2⟩:=V.out (j+1) (by omega) (by omega)
      have Z:=q.size;have e0:wr.cell? ⟨g,j*7,none⟩=some (.int .i64 (qx t total leaf (j+1)).row):=by rw[show j*7=7*j+0 by omega];exact(q.cell (p:=⟨g,7*j+0,none⟩) G).trans ((I.out.cellAt (7*j+0) (by omega)).trans (QE t total leaf m j 0 o (by omega)))
      have e1:wr.cell? ⟨g,j*7+1,none⟩=some (.int .u64 (qx t total leaf (j+1)).at_):=by rw[show j*7+1=7*j+1 by omega];exact(q.cell (p:=⟨g,7*j+1,none⟩) G).trans ((I.out.cellAt (7*j+1) (by omega)).trans (QE t total leaf m j 1 o (by omega)))
      have e2:wr.cell? ⟨g,j*7+2,none⟩=some (.int .u64 (qx t total leaf (j+1)).frm):=by rw[show j*7+2=7*j+2 by omega];exact(q.cell (p:=⟨g,7*j+2,none⟩) G).trans ((I.out.cellAt (7*j+2) (by omega)).trans (QE t total leaf m j 2 o (by omega)))
      have e3:wr.cell? ⟨g,j*7+3,none⟩=some (.int .u64 (qx t total leaf (j+1)).to_):=by rw[show j*7+3=7*j+3 by omega];exact(q.cell (p:=⟨g,7*j+3,none⟩) G).trans ((I.out.cellAt (7*j+3) (by omega)).trans (QE t total leaf m j 3 o (by omega)))
      have e4:wr.cell? ⟨g,j*7+4,none⟩=some (.bool (qx t total leaf (j+1)).last):=by rw[show j*7+4=7*j+4 by omega];exact(q.cell (p:=⟨g,7*j+4,none⟩) G).trans ((I.out.cellAt (7*j+4) (by omega)).trans (QE t total leaf m j 4 o (by omega)))
      have e5:wr.cell? ⟨g,j*7+5,none⟩=some (.bool (qx t total leaf (j+1)).root):=by rw[show j*7+5=7*j+5 by omega];exact(q.cell (p:=⟨g,7*j+5,none⟩) G).trans ((I.out.cellAt (7*j+5) (by omega)).trans (QE t total leaf m j 5 o (by omega)))
      have e6:wr.cell? ⟨g,j*7+6,none⟩=some (.int .u64 ((Qw t.fn (t.rowsOf total) leaf j:Int) - ((qx t total leaf (j+1)).frm:Int))):=by rw[show j*7+6=7*j+6 by omega];exact(q.cell (p:=⟨g,7*j+6,none⟩) G).trans ((I.out.cellAt (7*j+6) (by omega)).trans (ZF t total leaf m j o))
      go_wp2
      exact⟨⟨j+1,by omega,rfl,by simp,q.alloc (by omega) _⟩,by simp[intOf];omega⟩
    · go_wp2
      refine Bp (results_tmp2 (fn:=Tryz.f30) (t:=6) (u:=7) rfl _ _ _) rfl ⟨by rw[show m=j by omega];rfl,U.trans (q.mono (by omega))⟩
theorem qh2 (t:TreeV)(total leaf:Nat){e:Int}
    (D:Hid (∀w,Calls Tryz.prog 68 #[t.val,.int .u64 total,.int .u64 leaf] w fun r w'=>r= .returned (.tuple #[.slice none 0 0,.int .i64 e])∧Below w.heap.size w w')) (w:World):
    Calls Tryz.prog 30 #[t.val,.int .u64 total,.int .u64 leaf] w fun r w'=>r= .returned (.tuple #[.int .u64 0,.int .i64 e])∧Below w.heap.size w w':=by
  unfold TreeV.val at*;go_enter Tryz.func30,Tryz.ntmps30
  go_wp2_with fail
  refine(D.out _).mono ?_;rintro r w1 ⟨rfl,q⟩;have o:Below w.heap.size w w1:=qt _ q;go_wp2_with fail
  go_loopw [10,22] (fun s i wr=>s= .int .u64 0∧i= .int .i64 0∧w1=wr) (fun _ _ _=>0)
  case atStart=>exact⟨rfl,rfl,rfl⟩
  case round=>
    obtain⟨rfl,rfl,rfl⟩:=hrel;go_wp2
    exact Bp (results_tmp2 (fn:=Tryz.f30) (t:=6) (u:=7) rfl _ _ _) rfl ⟨rfl,o⟩
end Go.Proofs.YthjoojnlnlmljaaGreat
namespace Go.Proofs.YthjoojnlnlmljaaGreat
open Go.ChangeShapes Go.WideShapes Go.ChangeAt Go.RowKit Go.Joins Go.Shelf Go.Maps
open Go.Lib (hid)
theorem ZG {f l total:Nat}{L:List Nat}{row at_:Nat}(h:1≤row∧nth L row=1):QV f l total L row at_=⟨row,at_,0,nth L (row - 1),decide (at_=nth L row - 1),true⟩:=by
  unfold QV;rw[if_pos h]
theorem Yl {f l total:Nat}{L:List Nat}{row at_:Nat}(h: ¬(1≤row∧nth L row=1))(o:at_=nth L row - 1):QV f l total L row at_=⟨row,at_,at_*(if row=0 then l else f),if row=0 then total else nth L (row - 1),true,false⟩:=by
  unfold QV;rw[if_neg h,if_pos o]
theorem YI {f l total:Nat}{L:List Nat}{row at_:Nat}(h: ¬(1≤row∧nth L row=1))(o: ¬at_=nth L row - 1):QV f l total L row at_=⟨row,at_,at_*(if row=0 then l else f),(at_+1)*(if row=0 then l else f),false,false⟩:=by
  unfold QV;rw[if_neg h,if_neg o]
theorem qaC {f p total l:Nat}{L:List Nat}(h:RowsIs f p (lvs total l) L){k at_:Nat}(O:k+1<L.length)(r:at_<nth L k):
    (if nth L (k+1)=1 then 0 else at_/f)<nth L (k+1)∧(QV f l total L (k+1) (if nth L (k+1)=1 then 0 else at_/f)).frm≤at_∧at_<(QV f l total L (k+1) (if nth L (k+1)=1 then 0 else at_/f)).to_:=by
  by_cases o:nth L (k+1)=1
  · rw[if_pos o,ZG ⟨by omega,o⟩]
    refine⟨by omega,Nat.zero_le _,?_⟩;rw[Nat.add_sub_cancel];exact r
  · rw[if_neg o]
    obtain⟨e,U⟩:=h.next_or O o;have J:0<f:=by omega
    have d1:=Nat.div_add_mod at_ f;have d2:=Nat.mod_lt at_ J;have S:at_/f<qP (nth L k) f:=by
      rcases Nat.lt_or_ge (at_/f) (qP (nth L k) f)with q|q
      · exact q
      · have:=j6 (by omega) q
        rw[Nat.mul_comm]at this;omega
    have I: ¬(1≤k+1∧nth L (k+1)=1):=fun h=>o h.2
    have G:at_/f*f≤at_:=Nat.div_mul_le_self _ _;refine⟨by rw[e];exact S,?_⟩;by_cases D:at_/f=nth L (k+1) - 1
    · rw[Yl I D]
      simp only[Nat.succ_ne_zero,if_false,Nat.add_sub_cancel];exact⟨G,r⟩
    · rw[YI I D]
      simp only[Nat.succ_ne_zero,if_false];refine⟨G,?_⟩;rw[Nat.add_mul,Nat.one_mul,Nat.mul_comm (at_/f) f];omega
theorem zH {f p total l:Nat}{L:List Nat}(G:1≤l)(h:RowsIs f p (lvs total l) L){k A:Nat}(D:k<L.length)(I:1≤k)(r:A<nth L k):(QV f l total L k A).to_≤nth L (k - 1):=by
  by_cases o:1≤k∧nth L k=1
  · rw[ZG o];exact Nat.le_refl _
  · obtain⟨b1,b2,J⟩:=jc G h D r o
    rw[if_neg (show ¬k=0 by omega),if_neg (show ¬k=0 by omega)]at b1 b2;by_cases q:A=nth L k - 1
    · rw[Yl o q]
      show(if k=0 then total else nth L (k - 1))≤_
      rw[if_neg (by omega)];exact Nat.le_refl _
    · rw[YI o q]
      show(A+1)*(if k=0 then l else f)≤_
      rw[if_neg (by omega)];exact b2 q
def TreeV.sizeR (t:TreeV)(total leaf:Nat):Int:=if t.spotE total 0 leaf≠0 then 0 else qgG t total leaf ((t.rowsOf total).length - 1)
structure WayFacts (t:TreeV)(total leaf n:Nat):Prop where
  two:2≤n
  most:n≤255
  cells: ∀k,k<n→(qx t total leaf k).cellsL=[.int .i64 k,.int .u64 (Qw t.fn (t.rowsOf total) leaf k:Nat),.int .u64 (qx t total leaf k).frm,.int .u64 (qx t total leaf k).to_,.bool (qx t total leaf k).last,.bool (decide (k=n - 1))]
  child: ∀k,k+1<n→((qx t total leaf (k+1)).frm:Int)≤(Qw t.fn (t.rowsOf total) leaf k:Int)∧(Qw t.fn (t.rowsOf total) leaf k:Int)≤18446744073709551615
  wide: ∀k,1≤k→k<n→((qx t total leaf k).frm:Int)+1≤((qx t total leaf k).to_:Int)∧((qx t total leaf k).to_:Int)≤18446744073709551615
  par: ∀k,k+1<n→t.parE total k (Qw t.fn (t.rowsOf total) leaf k)=0∧t.parV total k (Qw t.fn (t.rowsOf total) leaf k)=Qw t.fn (t.rowsOf total) leaf (k+1)
  spot: ∀k,k<n→t.spotE total k (Qw t.fn (t.rowsOf total) leaf k)=0∧(t.spotR total k (Qw t.fn (t.rowsOf total) leaf k)).val= .agg #[.int .i64 k,.int .u64 (Qw t.fn (t.rowsOf total) leaf k:Nat),.int .u64 (qx t total leaf k).frm,.int .u64 (qx t total leaf k).to_,.bool (qx t total leaf k).last,.bool (decide (k=n - 1))]
  at_: ∀k,k<n→(Qw t.fn (t.rowsOf total) leaf k:Int)≤18446744073709551615
theorem Y4 {t:TreeV}(hl:0≤t.l∧t.l≤4294967295){total:Nat}(ht:(total:Int)≤18446744073709551615){leaf:Nat}(h:t.spotE total 0 leaf=0):WayFacts t total leaf (t.rowsOf total).length:=by
  have r:t.err total=0:=by
    by_cases Y:t.err total=0
    · exact Y
    · unfold TreeV.spotE at h;rw[if_pos Y]at h;exact absurd h Y
  have o:leaf<nth (t.rowsOf total) 0:=by
    unfold TreeV.spotE at h;rw[if_neg (by simp[r])]at h;by_cases S:t.there total 0 leaf
    · exact S.2.2
    · rw[if_neg S]at h;omega
  obtain⟨G,ae,aa,h0⟩:=Qu hl r;have ad:=qn h0;have D:=qF r;have hm:=D.most;have ac:(t.pn:Int)≤255:=by unfold TreeV.pn;omega
  have Z: ∀k,k<(t.rowsOf total).length→(Qw t.fn (t.rowsOf total) leaf k:Int)≤18446744073709551615:=fun k q=>by
    have:=yU D o k q
    have:=Y9 G ht D k q
    omega
  have U: ∀k,k+1<(t.rowsOf total).length→(qx t total leaf (k+1)).frm≤Qw t.fn (t.rowsOf total) leaf k∧Qw t.fn (t.rowsOf total) leaf k<(qx t total leaf (k+1)).to_:=fun k q=>
    (qaC (l:=t.ln) D q (yU D o k (by omega))).2
  refine⟨D.len,by omega,fun k q=>?_,fun k q=>?_,fun k ab q=>?_,fun k q=>?_,fun k q=>?_,Z⟩
  · obtain⟨-, -,O,J,I, -⟩:=Z4 r o q
    unfold SpotV.cellsL;rw[O,J,I]
  · have:=(U k q).1
    have:=Z k (by omega)
    omega
  · obtain⟨j,rfl⟩: ∃j,k=j+1:=⟨k - 1,by omega⟩
    have h1:=U j q;have h2:(qx t total leaf (j+1)).to_≤nth (t.rowsOf total) j:=zH G D q (by omega) (yU D o _ q);have h3:=Y9 G ht D j (by omega);omega
  · obtain⟨X,V,O,J,I,r4⟩:=Z4 r o (show k<(t.rowsOf total).length by omega)
    refine⟨?_,r4 (by omega)⟩;unfold TreeV.parE;rw[if_neg (by simp[X]),V,I,if_neg (by simp;omega)]
  · obtain⟨X,V,O,J,I, -⟩:=Z4 r o q
    refine⟨X,?_⟩;rw[V,Y1,O,J,I]
theorem qej (t:TreeV)(D:0≤t.l∧t.l≤4294967295)(total:Nat)(r:(total:Int)≤18446744073709551615)(leaf:Nat)(w:World):
    Calls Tryz.prog 30 #[t.val,.int .u64 total,.int .u64 leaf] w fun e w'=>e= .returned (.tuple #[.int .u64 (t.sizeR total leaf),.int .i64 (t.spotE total 0 leaf)])∧Below w.heap.size w w':=by
  unfold TreeV.sizeR;by_cases o:t.spotE total 0 leaf=0
  · rw[if_neg (by simp[o]),o]
    have F:=Y4 D r o;refine qjk t total leaf F.two F.most (hid fun w=>qhS t total leaf F.two F.most (hid fun k q w=>?_) (hid fun k q w=>?_) (hid F.cells) (hid F.child) w) (hid F.wide) w
    · have:=zl t D total r (k:Nat) (Qw t.fn (t.rowsOf total) leaf k) w
      rw[(F.spot k q).1,(F.spot k q).2]at this;exact this
    · have:=qbP t D total r (k:Nat) (Qw t.fn (t.rowsOf total) leaf k) (F.at_ k (by omega)) w
      rw[(F.par k q).1,(F.par k q).2]at this;exact this
  · rw[if_pos o]
    have G:=zl t D total r 0 leaf;simp only[Y1]at G;exact qh2 t total leaf (hid fun w=>qgD t total leaf (hid G) (by rw[bne_iff_ne];exact o) w) w
end Go.Proofs.YthjoojnlnlmljaaGreat

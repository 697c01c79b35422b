/- Lemmas. No condition. -/
import Derived.Test.YtahenngmaoellaaGreatO08
import Derived.Test.YtahenngmaoellaaGreatO09
set_option linter.all false
set_option maxRecDepth 100000
set_option maxHeartbeats 0
namespace Go.Proofs.YtahenngmaoellaaGreat
open Go.ChangeShapes Go.WideShapes Go.ChangeAt Go.RowKit Go.Joins Go.Shelf Go.Maps
open Go.Lib (hid)
variable{fn:Func}{tmps:Array Value}{r J G D:Value}{L:List Nat}
attribute [local go_sem] Oper.semAt_some
theorem zn {G X:Prop}(h:G->X)(g:G):X:=h g
theorem qjE (t:TreeV)(hl:0<=t.l/\t.l<=4294967295)(total:Nat)(ht:(total:Int)<=18446744073709551615)(h:t.err total=0)(row:Int)(at_:Nat)(w:World):
    Calls Tryz.prog 92 #[t.val,.int .u64 total,.int .i64 row,.int .u64 at_] w fun e w'=>e= .returned (.tuple #[(if t.there total row at_ then(t.spot total row.toNat at_).val else SpotV.zero.val),.int .i64 (if t.there total row at_ then 0 else 6)])/\Below w.heap.size w w':=by
  have hv:=Q9 h;obtain⟨L,hL⟩:=Ex (t.rowsOf total);obtain⟨ak,aF,al, -⟩:=Qw hl h;have ax:=qn hv;have aj:t.f=(t.fn:Int):=by unfold TreeV.fn;omega
  have aI:(t.fn:Int)<=18446744073709551615:=by omega
  have ao:RowsIs t.fn t.pn (lvs total t.ln) L:=by rw[<-hL];exact qG h
  have ay:=zk ak ht ao;have HF:=hid aj;have aD:=hid al;clear aj al ax;have H:=hid h;clear h;refine(callsIn_wide (n:=9)).1 ?_;refine callsIn_of_wp_marks Tryz.func92 rfl trivial ?_ rfl;unfold TreeV.val;simp only[Tryz.ntmps92,List.size_toArray,List.length_cons,List.length_nil,Nat.reduceAdd,Nat.reduceSub,Array.replicate_succ,Array.replicate_zero,List.push_toArray,List.append_toArray,List.nil_append,List.cons_append];gi_wp2_with fail
  refine qbn ?_;gi_wp2_with fail
  refine⟨trivial,?_⟩;refine(callsIn_wide.2 (qbM t hl total ht _)).mono ?_;rintro e w1 ⟨rfl,ad⟩;rw[H.out];obtain⟨hc,hf⟩:=Q5 ad;have aq:=ad.size;simp at aq
  have k0:w.heap.size<w1.heap.size:=by omega
  have k1:w.heap.size+1<w1.heap.size:=by omega
  have k2:w.heap.size+1+1<w1.heap.size:=by omega
  have k3:w.heap.size+1+1+1<w1.heap.size:=by omega
  have k4:w.heap.size+1+1+1+1<w1.heap.size:=by omega
  have k5:w.heap.size+1+1+1+1+1<w1.heap.size:=by omega
  have ab:Below w.heap.size w w1:=by
    refine Below.trans ?_ (ad.mono (by simp;omega));repeat(first|exact Below.refl _ _|(refine Below.alloc ?_ (by simp;omega) _)|(refine Below.alloc ?_ (by simp) _))
  gi_wp2_with fail
  refine wpIn_label ?_;gi_wp2_with fail
  refine⟨trivial,?_⟩;refine(callsIn_wide.2 (qjb t total _)).mono ?_;rintro e w2 ⟨rfl,rfl⟩;gi_wp2_with fail
  have az:w1.cell? ⟨w.heap.size,2,none⟩=some (.int .i64 t.f):=(hc _ _ (by simp;omega)).trans (by simp[go_sem]);have au:w1.cell? ⟨w.heap.size,4,none⟩=some (.int .u32 t.l):=(hc _ _ (by simp;omega)).trans (by simp[go_sem]);have r1:w1.cell? ⟨w.heap.size+1,0,none⟩=some (.int .u64 total):=(hc _ _ (by simp)).trans (by simp[go_sem]);have r2:w1.cell? ⟨w.heap.size+1+1,0,none⟩=some (.int .i64 row):=(hc _ _ (by simp)).trans (by simp[go_sem]);have r3:w1.cell? ⟨w.heap.size+1+1+1,0,none⟩=some (.int .u64 at_):=(hc _ _ (by simp)).trans (by simp[go_sem]);have b4:w1.heap[w.heap.size+1+1+1+1]? =some (Obj.cells Kh 96 (0,0)):=by
    rw[ad.block _ (by simp)];rw[Bh _ _ _ (by simp)];exact qB _ _ (by simp)
  have b5:w1.heap[w.heap.size+1+1+1+1+1]? =some (Obj.cells #[.int .i64 0] 30 (0,0)):=by
    rw[ad.block _ (by simp)];exact qB _ _ (by simp)
  have av:(((w1.alloc (.cells #[.int .u64 0] 44)).alloc (.cells t.arr 26)).alloc (.cells #[.int .u64 total] 44)).heap[w1.heap.size]? =some (Obj.cells #[.int .u64 0] 44 (0,0)):=by
    rw[Bh _ _ _ (by simp;omega),Bh _ _ _ (by simp)];exact Wn _ _
  have aC:(((w1.alloc (.cells #[.int .u64 0] 44)).alloc (.cells t.arr 26)).alloc (.cells #[.int .u64 total] 44)).heap[w1.heap.size+1]? =some (Obj.cells t.arr 26 (0,0)):=by
    rw[Bh _ _ _ (by simp)];exact qB _ _ (by simp)
  have aA:(((w1.alloc (.cells #[.int .u64 0] 44)).alloc (.cells t.arr 26)).alloc (.cells #[.int .u64 total] 44)).heap[w1.heap.size+1+1]? =some (Obj.cells #[.int .u64 total] 44 (0,0)):=
    qB _ _ (by simp)
  have ap:Below w1.heap.size w1 (((w1.alloc (.cells #[.int .u64 0] 44)).alloc (.cells t.arr 26)).alloc (.cells #[.int .u64 total] 44)):=(((Below.refl _ w1).alloc Nl _).alloc (by simp) _).alloc (by simp;omega) _;have aB:=qgH (9 - 1) t hl total ht hv _ _ _ aC aA L hL;refine wpIn_rangeFunc_ownG rfl (by omega) (gf:=152) (lb:= #[.pointer (some ⟨w1.heap.size+1,0,none⟩),.pointer (some ⟨w1.heap.size+1+1,0,none⟩)]) rfl trivial (enters_of Tryz.func152 (by kernel_rfl) rfl)
    aB (fun h k=>h.trans k) (fun W l o o' _ hl ho _=>KpT.putObj W l o o' hl ho) Br (fun _=>rfl)
    (SpotI w1 L row) (SpotX w t total L row at_)
    (SpotI.own (by simp;omega)) (fun c=>SpotX.own (by simp;omega))
    ⟨fun k G=>(by cases G),av,ap⟩
    (fun x=> { tmps:= #[.agg t.c,.int .u64 total,.int .i64 row,.int .u64 at_,.pointer (some ⟨w.heap.size,0,none⟩),.pointer (some ⟨w.heap.size+1,0,none⟩),.pointer (some ⟨w.heap.size+1+1,0,none⟩),.pointer (some ⟨w.heap.size+1+1+1,0,none⟩),.pointer (some ⟨w.heap.size+1+1+1+1,0,none⟩),.pointer (some ⟨w.heap.size+1+1+1+1+1,0,none⟩),.int .i64 0,
      .pointer (some ⟨w1.heap.size,0,none⟩),.int .i64 (x.1:Nat),.int .u64 (nth L x.1),undef,undef,undef,.agg t.c,.int .u64 total,.int .i64 0,.int .i64 0,.bool false,undef,undef,.agg t.c,.int .u64 total,
      .func (.func 152) #[] #[.pointer (some ⟨w1.heap.size+1,0,none⟩),.pointer (some ⟨w1.heap.size+1+1,0,none⟩)],.int .i64 (x.1:Nat),.int .u64 (nth L x.1),undef,undef,undef,undef,undef,undef,undef,undef,undef,undef,undef,undef,undef,undef,undef,undef,undef,undef,undef,undef,undef,undef,undef,undef,undef,undef,undef,undef,undef,undef,undef,undef,undef,undef,undef,undef,undef,undef,undef,undef,undef,undef,undef,undef,undef,undef,undef,undef,undef,undef,undef,undef,undef,undef,undef,undef,undef,undef,undef,undef,undef],defers:=[] }) ?assign ?body ?done ?stop
  case assign=>
    intro l x W K q;simp only[qkt];gi_wp2
    exact q
  case body=>
    rintro l af x W ⟨O,X,J⟩ -
    have aG:=J.size;have gf:W.cell? ⟨w.heap.size,2,none⟩=some (.int .i64 t.fn):=by rw[<-HF.out];exact(J.cell (p:=⟨w.heap.size,2,none⟩) k0).trans az
    have gl:W.cell? ⟨w.heap.size,4,none⟩=some (.int .u32 t.ln):=by rw[<-aD.out];exact(J.cell (p:=⟨w.heap.size,4,none⟩) k0).trans au
    have g1:=(J.cell (p:=⟨w.heap.size+1,0,none⟩) k1).trans r1;have g2:=(J.cell (p:=⟨w.heap.size+1+1,0,none⟩) k2).trans r2;have g3:=(J.cell (p:=⟨w.heap.size+1+1+1,0,none⟩) k3).trans r3;have r:=(J.block _ k4).trans b4;have S:=(J.block _ k5).trans b5;have gb:=qd X 0;have fb:=unfrozen_of_block X 0;have f0:=unfrozen_of_block r 0;have f1:=unfrozen_of_block r 1;have f2:=unfrozen_of_block r 2;have f3:=unfrozen_of_block r 3;have f4:=unfrozen_of_block r 4;have f5:=unfrozen_of_block r 5;have f6:=unfrozen_of_block S 0;have c0:=qd r 0;have c1:=qd r 1;have c2:=qd r 2;have c3:=qd r 3;have c4:=qd r 4;have c5:=qd r 5;have c6:=qd S 0;simp only[List.getElem?_toArray,List.getElem?_cons_zero,List.getElem?_cons_succ]at c0 c1 c2 c3 c4 c5 c6 gb;have m0:w.heap.size<W.heap.size:=by omega
    have m1:w.heap.size+1<W.heap.size:=by omega
    have m2:w.heap.size+1+1<W.heap.size:=by omega
    have m3:w.heap.size+1+1+1<W.heap.size:=by omega
    have m4:w.heap.size+1+1+1+1<W.heap.size:=by omega
    have m5:w.heap.size+1+1+1+1+1<W.heap.size:=by omega
    have m6:w1.heap.size<W.heap.size:=(Ai X).1;have aa:=hid (ab.trans (J.mono (by omega)));have V:=hid O;have HB:=hid J;have ai:=hid X;have Z:=hid r;have Y:=hid S;clear O J X r S;have aH:(nth L x.1:Int)<=18446744073709551615:=ay x.1 x.2;by_cases hA:(x.1:Int)<row
    · gi_wp2
      go_goals
      exact⟨(KeepsOthers.setCell _ _ _).from _,KpT.setCell (p:=⟨w1.heap.size,0,none⟩) ai.out (by decide) (by decide) _,fun k G=>by
        rcases List.mem_append.1 G with h|h
        · exact V.out k h
        · rw[List.mem_singleton.1 h];exact hA,by rw[qbj];exact block_setCell ai.out _,HB.out.setCell Nl _⟩
    · by_cases hC:row<0
      · gi_wp2
        go_goals
        exact⟨KeepsFrom.refl _ _,⟨af,x,rfl,V.out,by omega,.inr ⟨rfl,.inl hC,Z.out,Y.out⟩⟩,aa.out⟩
      · have q0:(row<0)=False:=eq_false (by omega)
        by_cases ar:(nth L x.1:Nat)<=at_
        · have q1:((nth L x.1:Int)<=(at_:Int))=True:=eq_true (by omega)
          gi_wp2
          go_goals
          exact⟨KeepsFrom.refl _ _,⟨af,x,rfl,V.out,by omega,.inr ⟨rfl,.inr ar,Z.out,Y.out⟩⟩,aa.out⟩
        · have q1:((nth L x.1:Int)<=(at_:Int))=False:=eq_false (by omega)
          have z0:0<=row:=by omega
          have z1:row<=(x.1:Nat):=by omega
          have z2:at_<nth L x.1:=by omega
          by_cases hR:1<=row
          · have z3:row.toNat≠0:=by omega
            have q2:(1<=row)=True:=eq_true hR;by_cases hN:nth L x.1=1
            · have q3:((nth L x.1:Int)==1)=true:=by rw[beq_iff_eq];omega
              have HN:=hid hN;clear hN;gi_wp2
              apply zn
              · intro G
                gi_region
                all_goals exact G
              gi_wp2
              apply zn
              · intro G
                gi_region
                all_goals exact G
              gi_wp2
              go_goals
              exact RetP.drew (RetP.drew (jp V.out z0 z1 z2 aa.out Z.out Y.out (by unfold jr;rw[Int.toNat_of_nonneg z0,if_pos ⟨Nat.pos_of_ne_zero z3,HN.out⟩])))
            · have q3:((nth L x.1:Int)==1)=false:=by rw[beq_eq_false_iff_ne];omega
              by_cases U:(at_:Int)=(nth L x.1:Int) - 1
              · have q4:((at_:Int)==(nth L x.1:Int) - 1)=true:=by rw[beq_iff_eq];exact U
                have HZ:=hid U;clear U;gi_wp2
                apply zn
                · intro G
                  gi_region
                  all_goals exact G
                gi_wp2
                apply zn
                · intro G
                  gi_region
                  all_goals exact G
                gi_wp2
                go_goals
                exact RetP.drew (RetP.drew (jp V.out z0 z1 z2 aa.out Z.out Y.out (by unfold jr;rw[Int.toNat_of_nonneg z0,if_neg (fun h=>hN h.2),if_pos HZ.out,if_neg z3,if_neg z3])))
              · have q4:((at_:Int)==(nth L x.1:Int) - 1)=false:=by rw[beq_eq_false_iff_ne];exact U
                have HZ:=hid U;clear U;gi_wp2
                apply zn
                · intro G
                  gi_region
                  all_goals exact G
                gi_wp2
                apply zn
                · intro G
                  gi_region
                  all_goals exact G
                gi_wp2
                apply zn
                · intro G
                  refine JY (F:=Fence.wide) (by kernel_rfl) (by kernel_rfl) ?_;refine wpAnyIn_take (i:=1) (v:=?_) rfl rfl (by kernel_rfl) (by kernel_rfl) (by kernel_rfl) (fun _ _ _ h=>h) ⟨Or.inl ⟨by rfl,?_⟩,fun _=>rfl⟩ ?_;rotate_left
                  · (intro w;go_simp;try with_reducible rfl)
                  refine wpAnyIn_take (i:=5) (v:=?_) rfl rfl (by kernel_rfl) (by kernel_rfl) (by kernel_rfl) (fun _ _ _ h=>h) ⟨Or.inl ⟨by rfl,?_⟩,fun _=>rfl⟩ ?_;rotate_left
                  · (intro w;go_simp;try with_reducible rfl)
                  refine wpAnyIn_ready (rs:=[0,3]) (by kernel_rfl) (by simp) ?_;refine AllReadyIn.cons rfl (fun K q=>?_) ?_
                  · go_simp
                    refine q _ _ ?_;clear q K;refine wpAnyIn_take (i:=2) (v:=?_) rfl rfl (by kernel_rfl) (by kernel_rfl) (by kernel_rfl) (fun _ _ _ h=>h) ⟨Or.inl ⟨by rfl,?_⟩,fun _=>rfl⟩ ?_;rotate_left
                    · (intro w;go_simp;try with_reducible rfl)
                    refine wpAnyIn_take (i:=7) (v:=?_) rfl rfl (by kernel_rfl) (by kernel_rfl) (by kernel_rfl) (fun _ _ _ h=>h) ⟨Or.inl ⟨by rfl,?_⟩,fun _=>rfl⟩ ?_;rotate_left
                    · (intro w;go_simp;try with_reducible rfl)
                    refine wpAnyIn_ready (rs:=[3,8]) (by kernel_rfl) (by simp) ?_;refine AllReadyIn.cons rfl (fun K q=>?_) ?_
                    · go_simp
                      refine q _ _ ?_;clear q K;refine wpAnyIn_take (i:=4) (v:=?_) rfl rfl (by kernel_rfl) (by kernel_rfl) (by kernel_rfl) (fun _ _ _ h=>h) ⟨Or.inl ⟨by rfl,?_⟩,fun _=>rfl⟩ ?_;rotate_left
                      · (intro w;go_simp;try with_reducible rfl)
                      refine wpAnyIn_take (i:=6) (v:=?_) rfl rfl (by kernel_rfl) (by kernel_rfl) (by kernel_rfl) (fun _ _ _ h=>h) ⟨Or.inl ⟨by rfl,?_⟩,fun _=>rfl⟩ ?_;rotate_left
                      · (intro w;go_simp;try with_reducible rfl)
                      refine wpAnyIn_ready (rs:=[8]) (by kernel_rfl) (by simp) ?_;refine AllReadyIn.cons rfl (fun K q=>?_) ?_
                      · go_simp
                        refine q _ _ ?_;clear q K;refine wpAnyIn_take (i:=9) (v:=?_) rfl rfl (by kernel_rfl) (by kernel_rfl) (by kernel_rfl) (fun _ _ _ h=>h) ⟨Or.inl ⟨by rfl,?_⟩,fun _=>rfl⟩ ?_;rotate_left
                        · (intro w;go_simp;try with_reducible rfl)
                        refine wpAnyIn_ready (rs:=[10]) (by kernel_rfl) (by simp) ?_;refine AllReadyIn.cons rfl (fun K q=>?_) ?_
                        · go_simp
                          refine q _ _ ?_;clear q K;refine wpAnyIn_done (by kernel_rfl) ?_ _;exact G
                        exact AllReadyIn.nil
                      exact AllReadyIn.nil
                    refine AllReadyIn.cons rfl (fun K q=>?_) ?_
                    · go_simp
                      refine q _ _ ?_;clear q K;refine wpAnyIn_ready (rs:=[3]) (by kernel_rfl) (by simp) ?_;refine AllReadyIn.cons rfl (fun K q=>?_) ?_
                      · go_simp
                        refine q _ _ ?_;clear q K;refine wpAnyIn_take (i:=4) (v:=?_) rfl rfl (by kernel_rfl) (by kernel_rfl) (by kernel_rfl) (fun _ _ _ h=>h) ⟨Or.inl ⟨by rfl,?_⟩,fun _=>rfl⟩ ?_;rotate_left
                        · (intro w;go_simp;try with_reducible rfl)
                        refine wpAnyIn_take (i:=6) (v:=?_) rfl rfl (by kernel_rfl) (by kernel_rfl) (by kernel_rfl) (fun _ _ _ h=>h) ⟨Or.inl ⟨by rfl,?_⟩,fun _=>rfl⟩ ?_;rotate_left
                        · (intro w;go_simp;try with_reducible rfl)
                        refine wpAnyIn_take (i:=9) (v:=?_) rfl rfl (by kernel_rfl) (by kernel_rfl) (by kernel_rfl) (fun _ _ _ h=>h) ⟨Or.inl ⟨by rfl,?_⟩,fun _=>rfl⟩ ?_;rotate_left
                        · (intro w;go_simp;try with_reducible rfl)
                        refine wpAnyIn_ready (rs:=[10]) (by kernel_rfl) (by simp) ?_;refine AllReadyIn.cons rfl (fun K q=>?_) ?_
                        · go_simp
                          refine q _ _ ?_;clear q K;refine wpAnyIn_done (by kernel_rfl) ?_ _;exact G
                        exact AllReadyIn.nil
                      exact AllReadyIn.nil
                    exact AllReadyIn.nil
                  refine AllReadyIn.cons rfl (fun K q=>?_) ?_
                  · go_simp
                    refine q _ _ ?_;clear q K;refine wpAnyIn_take (i:=4) (v:=?_) rfl rfl (by kernel_rfl) (by kernel_rfl) (by kernel_rfl) (fun _ _ _ h=>h) ⟨Or.inl ⟨by rfl,?_⟩,fun _=>rfl⟩ ?_;rotate_left
                    · (intro w;go_simp;try with_reducible rfl)
                    refine wpAnyIn_take (i:=6) (v:=?_) rfl rfl (by kernel_rfl) (by kernel_rfl) (by kernel_rfl) (fun _ _ _ h=>h) ⟨Or.inl ⟨by rfl,?_⟩,fun _=>rfl⟩ ?_;rotate_left
                    · (intro w;go_simp;try with_reducible rfl)
                    refine wpAnyIn_ready (rs:=[0]) (by kernel_rfl) (by simp) ?_;refine AllReadyIn.cons rfl (fun K q=>?_) ?_
                    · go_simp
                      refine q _ _ ?_;clear q K;refine wpAnyIn_take (i:=2) (v:=?_) rfl rfl (by kernel_rfl) (by kernel_rfl) (by kernel_rfl) (fun _ _ _ h=>h) ⟨Or.inl ⟨by rfl,?_⟩,fun _=>rfl⟩ ?_;rotate_left
                      · (intro w;go_simp;try with_reducible rfl)
                      refine wpAnyIn_take (i:=7) (v:=?_) rfl rfl (by kernel_rfl) (by kernel_rfl) (by kernel_rfl) (fun _ _ _ h=>h) ⟨Or.inl ⟨by rfl,?_⟩,fun _=>rfl⟩ ?_;rotate_left
                      · (intro w;go_simp;try with_reducible rfl)
                      refine wpAnyIn_ready (rs:=[8]) (by kernel_rfl) (by simp) ?_;refine AllReadyIn.cons rfl (fun K q=>?_) ?_
                      · go_simp
                        refine q _ _ ?_;clear q K;refine wpAnyIn_take (i:=9) (v:=?_) rfl rfl (by kernel_rfl) (by kernel_rfl) (by kernel_rfl) (fun _ _ _ h=>h) ⟨Or.inl ⟨by rfl,?_⟩,fun _=>rfl⟩ ?_;rotate_left
                        · (intro w;go_simp;try with_reducible rfl)
                        refine wpAnyIn_ready (rs:=[10]) (by kernel_rfl) (by simp) ?_;refine AllReadyIn.cons rfl (fun K q=>?_) ?_
                        · go_simp
                          refine q _ _ ?_;clear q K;refine wpAnyIn_done (by kernel_rfl) ?_ _;exact G
                        exact AllReadyIn.nil
                      exact AllReadyIn.nil
                    exact AllReadyIn.nil
                  exact AllReadyIn.nil
                gi_wp2
                go_goals
                exact RetP.drew (RetP.drew (RetP.drew (jp V.out z0 z1 z2 aa.out Z.out Y.out (by unfold jr;rw[Int.toNat_of_nonneg z0,if_neg (fun h=>hN h.2),if_neg HZ.out,if_neg z3]))))
          · have z4:row.toNat=0:=by omega
            have q2:(1<=row)=False:=eq_false hR;by_cases U:(at_:Int)=(nth L x.1:Int) - 1
            · have q4:((at_:Int)==(nth L x.1:Int) - 1)=true:=by rw[beq_iff_eq];exact U
              have HZ:=hid U;clear U;gi_wp2
              apply zn
              · intro G
                gi_region
                all_goals exact G
              gi_wp2
              go_goals
              exact RetP.drew (jp V.out z0 z1 z2 aa.out Z.out Y.out (by unfold jr;rw[Int.toNat_of_nonneg z0,if_neg (fun h=>Nat.not_succ_le_zero _ (z4▸h.1)),if_pos HZ.out,if_pos z4,if_pos z4]))
            · have q4:((at_:Int)==(nth L x.1:Int) - 1)=false:=by rw[beq_eq_false_iff_ne];exact U
              have HZ:=hid U;clear U;gi_wp2
              apply zn
              · intro G
                gi_region
                all_goals exact G
              gi_wp2
              apply zn
              · intro G
                refine JY (F:=Fence.wide) (by kernel_rfl) (by kernel_rfl) ?_;refine wpAnyIn_take (i:=1) (v:=?_) rfl rfl (by kernel_rfl) (by kernel_rfl) (by kernel_rfl) (fun _ _ _ h=>h) ⟨Or.inl ⟨by rfl,?_⟩,fun _=>rfl⟩ ?_;rotate_left
                · (intro w;go_simp;try with_reducible rfl)
                refine wpAnyIn_take (i:=5) (v:=?_) rfl rfl (by kernel_rfl) (by kernel_rfl) (by kernel_rfl) (fun _ _ _ h=>h) ⟨Or.inl ⟨by rfl,?_⟩,fun _=>rfl⟩ ?_;rotate_left
                · (intro w;go_simp;try with_reducible rfl)
                refine wpAnyIn_ready (rs:=[0,3]) (by kernel_rfl) (by simp) ?_;refine AllReadyIn.cons rfl (fun K q=>?_) ?_
                · go_simp
                  refine q _ _ ?_;clear q K;refine wpAnyIn_take (i:=2) (v:=?_) rfl rfl (by kernel_rfl) (by kernel_rfl) (by kernel_rfl) (fun _ _ _ h=>h) ⟨Or.inl ⟨by rfl,?_⟩,fun _=>rfl⟩ ?_;rotate_left
                  · (intro w;go_simp;try with_reducible rfl)
                  refine wpAnyIn_take (i:=7) (v:=?_) rfl rfl (by kernel_rfl) (by kernel_rfl) (by kernel_rfl) (fun _ _ _ h=>h) ⟨Or.inl ⟨by rfl,?_⟩,fun _=>rfl⟩ ?_;rotate_left
                  · (intro w;go_simp;try with_reducible rfl)
                  refine wpAnyIn_ready (rs:=[3,8]) (by kernel_rfl) (by simp) ?_;refine AllReadyIn.cons rfl (fun K q=>?_) ?_
                  · go_simp
                    refine q _ _ ?_;clear q K;refine wpAnyIn_take (i:=4) (v:=?_) rfl rfl (by kernel_rfl) (by kernel_rfl) (by kernel_rfl) (fun _ _ _ h=>h) ⟨Or.inl ⟨by rfl,?_⟩,fun _=>rfl⟩ ?_;rotate_left
                    · (intro w;go_simp;try with_reducible rfl)
                    refine wpAnyIn_take (i:=6) (v:=?_) rfl rfl (by kernel_rfl) (by kernel_rfl) (by kernel_rfl) (fun _ _ _ h=>h) ⟨Or.inl ⟨by rfl,?_⟩,fun _=>rfl⟩ ?_;rotate_left
                    · (intro w;go_simp;try with_reducible rfl)
                    refine wpAnyIn_ready (rs:=[8]) (by kernel_rfl) (by simp) ?_;refine AllReadyIn.cons rfl (fun K q=>?_) ?_
                    · go_simp
                      refine q _ _ ?_;clear q K;refine wpAnyIn_take (i:=9) (v:=?_) rfl rfl (by kernel_rfl) (by kernel_rfl) (by kernel_rfl) (fun _ _ _ h=>h) ⟨Or.inl ⟨by rfl,?_⟩,fun _=>rfl⟩ ?_;rotate_left
                      · (intro w;go_simp;try with_reducible rfl)
                      refine wpAnyIn_ready (rs:=[10]) (by kernel_rfl) (by simp) ?_;refine AllReadyIn.cons rfl (fun K q=>?_) ?_
                      · go_simp
                        refine q _ _ ?_;clear q K;refine wpAnyIn_done (by kernel_rfl) ?_ _;exact G
                      exact AllReadyIn.nil
                    exact AllReadyIn.nil
                  refine AllReadyIn.cons rfl (fun K q=>?_) ?_
                  · go_simp
                    refine q _ _ ?_;clear q K;refine wpAnyIn_ready (rs:=[3]) (by kernel_rfl) (by simp) ?_;refine AllReadyIn.cons rfl (fun K q=>?_) ?_
                    · go_simp
                      refine q _ _ ?_;clear q K;refine wpAnyIn_take (i:=4) (v:=?_) rfl rfl (by kernel_rfl) (by kernel_rfl) (by kernel_rfl) (fun _ _ _ h=>h) ⟨Or.inl ⟨by rfl,?_⟩,fun _=>rfl⟩ ?_;rotate_left
                      · (intro w;go_simp;try with_reducible rfl)
                      refine wpAnyIn_take (i:=6) (v:=?_) rfl rfl (by kernel_rfl) (by kernel_rfl) (by kernel_rfl) (fun _ _ _ h=>h) ⟨Or.inl ⟨by rfl,?_⟩,fun _=>rfl⟩ ?_;rotate_left
                      · (intro w;go_simp;try with_reducible rfl)
                      refine wpAnyIn_take (i:=9) (v:=?_) rfl rfl (by kernel_rfl) (by kernel_rfl) (by kernel_rfl) (fun _ _ _ h=>h) ⟨Or.inl ⟨by rfl,?_⟩,fun _=>rfl⟩ ?_;rotate_left
                      · (intro w;go_simp;try with_reducible rfl)
                      refine wpAnyIn_ready (rs:=[10]) (by kernel_rfl) (by simp) ?_;refine AllReadyIn.cons rfl (fun K q=>?_) ?_
                      · go_simp
                        refine q _ _ ?_;clear q K;refine wpAnyIn_done (by kernel_rfl) ?_ _;exact G
                      exact AllReadyIn.nil
                    exact AllReadyIn.nil
                  exact AllReadyIn.nil
                refine AllReadyIn.cons rfl (fun K q=>?_) ?_
                · go_simp
                  refine q _ _ ?_;clear q K;refine wpAnyIn_take (i:=4) (v:=?_) rfl rfl (by kernel_rfl) (by kernel_rfl) (by kernel_rfl) (fun _ _ _ h=>h) ⟨Or.inl ⟨by rfl,?_⟩,fun _=>rfl⟩ ?_;rotate_left
                  · (intro w;go_simp;try with_reducible rfl)
                  refine wpAnyIn_take (i:=6) (v:=?_) rfl rfl (by kernel_rfl) (by kernel_rfl) (by kernel_rfl) (fun _ _ _ h=>h) ⟨Or.inl ⟨by rfl,?_⟩,fun _=>rfl⟩ ?_;rotate_left
                  · (intro w;go_simp;try with_reducible rfl)
                  refine wpAnyIn_ready (rs:=[0]) (by kernel_rfl) (by simp) ?_;refine AllReadyIn.cons rfl (fun K q=>?_) ?_
                  · go_simp
                    refine q _ _ ?_;clear q K;refine wpAnyIn_take (i:=2) (v:=?_) rfl rfl (by kernel_rfl) (by kernel_rfl) (by kernel_rfl) (fun _ _ _ h=>h) ⟨Or.inl ⟨by rfl,?_⟩,fun _=>rfl⟩ ?_;rotate_left
                    · (intro w;go_simp;try with_reducible rfl)
                    refine wpAnyIn_take (i:=7) (v:=?_) rfl rfl (by kernel_rfl) (by kernel_rfl) (by kernel_rfl) (fun _ _ _ h=>h) ⟨Or.inl ⟨by rfl,?_⟩,fun _=>rfl⟩ ?_;rotate_left
                    · (intro w;go_simp;try with_reducible rfl)
                    refine wpAnyIn_ready (rs:=[8]) (by kernel_rfl) (by simp) ?_;refine AllReadyIn.cons rfl (fun K q=>?_) ?_
                    · go_simp
                      refine q _ _ ?_;clear q K;refine wpAnyIn_take (i:=9) (v:=?_) rfl rfl (by kernel_rfl) (by kernel_rfl) (by kernel_rfl) (fun _ _ _ h=>h) ⟨Or.inl ⟨by rfl,?_⟩,fun _=>rfl⟩ ?_;rotate_left
                      · (intro w;go_simp;try with_reducible rfl)
                      refine wpAnyIn_ready (rs:=[10]) (by kernel_rfl) (by simp) ?_;refine AllReadyIn.cons rfl (fun K q=>?_) ?_
                      · go_simp
                        refine q _ _ ?_;clear q K;refine wpAnyIn_done (by kernel_rfl) ?_ _;exact G
                      exact AllReadyIn.nil
                    exact AllReadyIn.nil
                  exact AllReadyIn.nil
                exact AllReadyIn.nil
              gi_wp2
              go_goals
              exact RetP.drew (RetP.drew (jp V.out z0 z1 z2 aa.out Z.out Y.out (by unfold jr;rw[Int.toNat_of_nonneg z0,if_neg (fun h=>Nat.not_succ_le_zero _ (z4▸h.1)),if_neg HZ.out,if_pos z4])))
  case done=>
    rintro D ys W hD ag ⟨O,X,J⟩ q
    have am: ¬t.there total row at_:=by subst hL;exact qhy ag O
    have an:=J.size;have ab:=ab.trans (J.mono (by omega));have r:=(J.block _ k4).trans b4;have S:=(J.block _ k5).trans b5;have ae:w1.heap.size<=D:=by simp at hD;omega
    have f0:=unfrozen_of_block r 0;have f1:=unfrozen_of_block r 1;have f2:=unfrozen_of_block r 2;have f3:=unfrozen_of_block r 3;have f4:=unfrozen_of_block r 4;have f5:=unfrozen_of_block r 5;have f6:=unfrozen_of_block S 0;have c0:=qd r 0;have c1:=qd r 1;have c2:=qd r 2;have c3:=qd r 3;have c4:=qd r 4;have c5:=qd r 5;have c6:=qd S 0;simp only[List.getElem?_toArray,List.getElem?_cons_zero,List.getElem?_cons_succ]at c0 c1 c2 c3 c4 c5 c6;have m4:w.heap.size+1+1+1+1<W.heap.size:=by omega
    have m5:w.heap.size+1+1+1+1+1<W.heap.size:=by omega
    have HB:=hid J;have HK:=hid q;have Z:=hid r;have Y:=hid S;have HY:=hid ag;have HT:=hid O;clear J X r S q ag O;gi_wp2
    have e4:=(Below.heap_setCell ((((((W.setCell ⟨w.heap.size+1+1+1+1,0,none⟩ (.int .i64 0)).setCell ⟨w.heap.size+1+1+1+1,1,none⟩ (.int .u64 0)).setCell ⟨w.heap.size+1+1+1+1,2,none⟩ (.int .u64 0)).setCell ⟨w.heap.size+1+1+1+1,3,none⟩ (.int .u64 0)).setCell ⟨w.heap.size+1+1+1+1,4,none⟩ (.bool false)).setCell ⟨w.heap.size+1+1+1+1,5,none⟩ (.bool false)) ⟨w.heap.size+1+1+1+1+1,0,none⟩ (.int .i64 6) (w.heap.size+1+1+1+1) (by simp)).trans (ym Z.out (.int .i64 0) (.int .u64 0) (.int .u64 0) (.int .u64 0) (.bool false) (.bool false));have e5:=block_setCell (i:=0) ((zg (c:=w.heap.size+1+1+1+1+1) (b:=w.heap.size+1+1+1+1) (by omega) (.int .i64 0) (.int .u64 0) (.int .u64 0) (.int .u64 0) (.bool false) (.bool false)).trans Y.out) (.int .i64 6);have eK:=(Below.heap_setCell ((((((W.setCell ⟨w.heap.size+1+1+1+1,0,none⟩ (.int .i64 0)).setCell ⟨w.heap.size+1+1+1+1,1,none⟩ (.int .u64 0)).setCell ⟨w.heap.size+1+1+1+1,2,none⟩ (.int .u64 0)).setCell ⟨w.heap.size+1+1+1+1,3,none⟩ (.int .u64 0)).setCell ⟨w.heap.size+1+1+1+1,4,none⟩ (.bool false)).setCell ⟨w.heap.size+1+1+1+1,5,none⟩ (.bool false)) ⟨w.heap.size+1+1+1+1+1,0,none⟩ (.int .i64 6) D (by show D≠w.heap.size+1+1+1+1+1;omega)).trans ((zg (c:=D) (b:=w.heap.size+1+1+1+1) (by omega) (.int .i64 0) (.int .u64 0) (.int .u64 0) (.int .u64 0) (.bool false) (.bool false)).trans HK.out);have eB:=(yn ab (b:=w.heap.size+1+1+1+1) (by omega) (.int .i64 0) (.int .u64 0) (.int .u64 0) (.int .u64 0) (.bool false) (.bool false)).setCell (p:=⟨w.heap.size+1+1+1+1+1,0,none⟩) (by show w.heap.size<=w.heap.size+1+1+1+1+1;omega) (.int .i64 6);have I:=belowK_b (w:=w1) Nl _ D _ (.deferred none) ae eK rfl rfl;refine⟨by simp,.inl ⟨_,_,rfl,run_takeDeferred eK,?_⟩⟩;refine⟨_,zR rfl rfl rfl (b:=w.heap.size+1+1+1+1) (c:=w.heap.size+1+1+1+1+1) ((I.block _ k4).trans e4) ((I.block _ k5).trans e5) rfl,?_,eB.trans (I.mono (by omega))⟩;rfl
  case stop=>
    rintro D c af W hD ac ⟨⟨aw,k,rfl,O,G,ah⟩,J⟩ q
    have ae:w1.heap.size<=D:=by simp at hD;omega
    rcases ah with⟨rfl,r0,r1,e4,e5⟩|⟨rfl,r0,r,S⟩
    · have hh:t.there total row at_/\jr t.fn t.ln total row.toNat at_ (nth L k.1) (Z5 _ aw)=(t.spot total row.toNat at_).val.cells:=by subst hL;exact qfY ht ak H.out ac.1 O G r0 r1
      rw[hh.2]at e4;have E4:=hid e4;have E5:=hid e5;have HK:=hid q;have aE:=hh.1;clear e4 e5 q hh O ac;gi_wp2
      have I:=belowK_b (w:=w1) Nl W D _ (.deferred none) ae HK.out rfl rfl;refine⟨by simp,.inl ⟨_,_,rfl,run_takeDeferred HK.out,?_⟩⟩;refine⟨_,zR rfl rfl rfl (b:=w.heap.size+1+1+1+1) (c:=w.heap.size+1+1+1+1+1) ((I.block _ k4).trans E4.out) ((I.block _ k5).trans E5.out) rfl,?_,J.trans (I.mono (by omega))⟩;rfl
    · have am: ¬t.there total row at_:=by subst hL;exact qcJ ac.1 O G r0
      have an:=(Ai q).1;have ab:=J;replace r:W.heap[w.heap.size+1+1+1+1]? =some (Obj.cells Kh 96 (0,0)):=r
      clear J O ac;have f0:=unfrozen_of_block r 0;have f1:=unfrozen_of_block r 1;have f2:=unfrozen_of_block r 2;have f3:=unfrozen_of_block r 3;have f4:=unfrozen_of_block r 4;have f5:=unfrozen_of_block r 5;have f6:=unfrozen_of_block S 0;have c0:=qd r 0;have c1:=qd r 1;have c2:=qd r 2;have c3:=qd r 3;have c4:=qd r 4;have c5:=qd r 5;have c6:=qd S 0;simp only[List.getElem?_toArray,List.getElem?_cons_zero,List.getElem?_cons_succ]at c0 c1 c2 c3 c4 c5 c6;have m4:w.heap.size+1+1+1+1<W.heap.size:=by omega
      have m5:w.heap.size+1+1+1+1+1<W.heap.size:=by omega
      have HK:=hid q;have Z:=hid r;have Y:=hid S;clear r S q;gi_wp2
      have e4:=(Below.heap_setCell ((((((W.setCell ⟨w.heap.size+1+1+1+1,0,none⟩ (.int .i64 0)).setCell ⟨w.heap.size+1+1+1+1,1,none⟩ (.int .u64 0)).setCell ⟨w.heap.size+1+1+1+1,2,none⟩ (.int .u64 0)).setCell ⟨w.heap.size+1+1+1+1,3,none⟩ (.int .u64 0)).setCell ⟨w.heap.size+1+1+1+1,4,none⟩ (.bool false)).setCell ⟨w.heap.size+1+1+1+1,5,none⟩ (.bool false)) ⟨w.heap.size+1+1+1+1+1,0,none⟩ (.int .i64 6) (w.heap.size+1+1+1+1) (by simp)).trans (ym Z.out (.int .i64 0) (.int .u64 0) (.int .u64 0) (.int .u64 0) (.bool false) (.bool false));have e5:=block_setCell (i:=0) ((zg (c:=w.heap.size+1+1+1+1+1) (b:=w.heap.size+1+1+1+1) (by omega) (.int .i64 0) (.int .u64 0) (.int .u64 0) (.int .u64 0) (.bool false) (.bool false)).trans Y.out) (.int .i64 6);have eK:=(Below.heap_setCell ((((((W.setCell ⟨w.heap.size+1+1+1+1,0,none⟩ (.int .i64 0)).setCell ⟨w.heap.size+1+1+1+1,1,none⟩ (.int .u64 0)).setCell ⟨w.heap.size+1+1+1+1,2,none⟩ (.int .u64 0)).setCell ⟨w.heap.size+1+1+1+1,3,none⟩ (.int .u64 0)).setCell ⟨w.heap.size+1+1+1+1,4,none⟩ (.bool false)).setCell ⟨w.heap.size+1+1+1+1,5,none⟩ (.bool false)) ⟨w.heap.size+1+1+1+1+1,0,none⟩ (.int .i64 6) D (by show D≠w.heap.size+1+1+1+1+1;omega)).trans ((zg (c:=D) (b:=w.heap.size+1+1+1+1) (by omega) (.int .i64 0) (.int .u64 0) (.int .u64 0) (.int .u64 0) (.bool false) (.bool false)).trans HK.out);have eB:=(yn ab (b:=w.heap.size+1+1+1+1) (by omega) (.int .i64 0) (.int .u64 0) (.int .u64 0) (.int .u64 0) (.bool false) (.bool false)).setCell (p:=⟨w.heap.size+1+1+1+1+1,0,none⟩) (by show w.heap.size<=w.heap.size+1+1+1+1+1;omega) (.int .i64 6);have I:=belowK_b (w:=w1) Nl _ D _ (.deferred none) ae eK rfl rfl;refine⟨by simp,.inl ⟨_,_,rfl,run_takeDeferred eK,?_⟩⟩;refine⟨_,zR rfl rfl rfl (b:=w.heap.size+1+1+1+1) (c:=w.heap.size+1+1+1+1+1) ((I.block _ k4).trans e4) ((I.block _ k5).trans e5) rfl,?_,eB.trans (I.mono (by omega))⟩;rfl
theorem YC {P:Program}{W:World}{b:Nat}{U S e:Value}{T:TypeId}{fr:Nat×Nat}
    (Y:fn.results= #[.cell 8 96,.tmp 9]) (h8:tmps[8]?.getD undef= .pointer (some ⟨b,0,none⟩)) (Z:tmps[9]?.getD undef=e)
    (o:W.heap[b]? =some (Obj.cells #[r,J,U,G,D,S] T fr)) (X:P=Tryz.prog):
    (results fn tmps).run P W= .ok (.tuple #[.agg #[r,J,U,G,D,S],e]) W:=by
  subst X;have O:=qd o 0;have c1:=qd o 1;have c2:=qd o 2;have V:=qd o 3;have I:=qd o 4;have q:=qd o 5;simp only[List.getElem?_toArray,List.getElem?_cons_zero,List.getElem?_cons_succ]at O c1 c2 V I q;simp[results,Y,h8,Z,go_sem,O,c1,c2,V,I,q]
def TreeV.spotR (t:TreeV)(total:Nat)(row:Int)(at_:Nat):SpotV:=if t.err total=0/\t.there total row at_ then t.spot total row.toNat at_ else SpotV.zero
def TreeV.spotE (t:TreeV)(total:Nat)(row:Int)(at_:Nat):Int:=if t.err total≠0 then t.err total else if t.there total row at_ then 0 else 6
theorem qeK (t:TreeV)(r:0<=t.l/\t.l<=4294967295)(total:Nat)(G:(total:Int)<=18446744073709551615)(h:t.err total≠0)(row:Int)(at_:Nat)(w:World):
    Calls Tryz.prog 54 #[t.val,.int .u64 total,.int .i64 row,.int .u64 at_] w fun e w'=>e= .returned (.tuple #[SpotV.zero.val,.int .i64 (t.err total)])/\Below w.heap.size w w':=by
  have I:(t.err total != 0)=true:=by rw[bne_iff_ne];exact h
  have H:=hid h;clear h;unfold TreeV.val;go_enter Tryz.func54,Tryz.ntmps54
  go_wp2_with fail
  refine(qeM t r total G H.out _).mono ?_;rintro e w1 ⟨rfl,o⟩;obtain⟨S,O⟩:=Q5 o;have q:=o.size;simp at q
  have J:w.heap.size<w1.heap.size:=by omega
  have U:w.heap.size+1<w1.heap.size:=by omega
  have b1:w1.heap[w.heap.size+1]? =some (Obj.cells Kh 96 (0,0)):=by
    rw[o.block _ (by simp)];exact qB _ _ (by simp)
  have D:=hid b1;clear b1;go_wp2
  refine Bp (YC rfl rfl rfl (b:=w.heap.size+1) (T:=96) (fr:=(0,0)) (ym D.out _ _ _ _ _ _) rfl) rfl ⟨rfl,yn (qs _ (Below.trans (Br.alloc Nl _) (o.mono (by simp)))) (by omega) _ _ _ _ _ _⟩
theorem qeJ (t:TreeV)(total:Nat)(O:1<=L.length)
    (V:Hid (∀w,Calls Tryz.prog 91 #[t.val,.int .u64 total] w fun e w'=> ∃v,e= .returned (.tuple #[v,.int .i64 0])/\w'.ownsRow w.heap.size 44 1 v L.length (L.map qbt)/\Below w.heap.size w w'))
    (I:Hid (∀k,k<L.length->(nth L k:Int)<=18446744073709551615)) (row:Int) (at_:Nat) (U:Hid (¬(0<=row/\row.toNat<L.length/\at_<nth L row.toNat))) (w:World):
    Calls Tryz.prog 54 #[t.val,.int .u64 total,.int .i64 row,.int .u64 at_] w fun e w'=>e= .returned (.tuple #[SpotV.zero.val,.int .i64 6])/\Below w.heap.size w w':=by
  unfold TreeV.val;go_enter Tryz.func54,Tryz.ntmps54
  go_wp2_with fail
  refine(V.out _).mono ?_;rintro e w1 ⟨v,rfl,D,o⟩;obtain⟨g,X,rfl, -,Y,aa,q⟩:=YE D O;clear D;have S:=hid q;clear q;obtain⟨hc,hf⟩:=Q5 o;have J:=o.size;simp at J
  have k0:w.heap.size<w1.heap.size:=by omega
  have k1:w.heap.size+1<w1.heap.size:=by omega
  have b1:w1.heap[w.heap.size+1]? =some (Obj.cells Kh 96 (0,0)):=by
    rw[o.block _ (by simp)];exact qB _ _ (by simp)
  have G:=hid b1;have r:Below w.heap.size w w1:=qs _ (Below.trans (Br.alloc Nl _) (o.mono (by simp)));clear b1 o;by_cases hA:row<0
  · go_wp2
    refine Bp (YC rfl rfl rfl (b:=w.heap.size+1) (T:=96) (fr:=(0,0)) (ym G.out _ _ _ _ _ _) rfl) rfl ⟨rfl,yn r (by omega) _ _ _ _ _ _⟩
  · by_cases Z:(L.length:Int)<=row
    · go_wp2
      refine Bp (YC rfl rfl rfl (b:=w.heap.size+1) (T:=96) (fr:=(0,0)) (ym G.out _ _ _ _ _ _) rfl) rfl ⟨rfl,yn r (by omega) _ _ _ _ _ _⟩
    · obtain⟨k,rfl⟩: ∃k:Nat,row=k:=⟨row.toNat,by omega⟩
      have hx:=S.out k (by omega);have ab:=I.out k (by omega);have q1:((nth L k:Int)<=(at_:Int)):=by
        have:=U.out
        rw[Int.toNat_natCast]at this;omega
      go_wp2
      refine Bp (YC rfl rfl rfl (b:=w.heap.size+1) (T:=96) (fr:=(0,0)) (ym G.out _ _ _ _ _ _) rfl) rfl ⟨rfl,yn r (by omega) _ _ _ _ _ _⟩
def qeU (f l:Int)(total k at_ n b:Nat)(root:Bool):Array Value:=
  if root=true then #[.int .i64 k,.int .u64 at_,.int .u64 0,.int .u64 b,.bool ((at_:Int)==(n:Int) - 1),.bool true]
  else if(at_:Int)=(n:Int) - 1 then #[.int .i64 k,.int .u64 at_,.int .u64 (IntKind.u64.wrap (at_*(if k=0 then l else f))),.int .u64 (if k=0 then total else b:Nat),.bool true,.bool false]
  else #[.int .i64 k,.int .u64 at_,.int .u64 (IntKind.u64.wrap (at_*(if k=0 then l else f))),.int .u64 (IntKind.u64.wrap (IntKind.u64.wrap (at_*(if k=0 then l else f))+(if k=0 then l else f))),.bool false,.bool false]
def qao (t:TreeV)(L:List Nat)(total k at_:Nat)(A:Array Value):Prop:=A=qeU t.f t.l total k at_ (nth L k) (nth L (k - 1)) (decide (k=L.length - 1))
theorem jz {t:TreeV}{total k at_:Nat}{w w1:World}{a0 a1 a2 a3 X a5 q I:Value}{o:Obj}
    (S:fn.results= #[.cell 8 96,.tmp 9]) (V:tmps[8]?.getD undef= .pointer (some ⟨w.heap.size+1,0,none⟩)) (U:tmps[9]?.getD undef= .int .i64 0)
    (Z:w1.heap[w.heap.size+1]? =some (Obj.cells #[a0,a1,a2,a3,X,a5] 96 (0,0))) (O:Below w.heap.size w w1) (k1:w.heap.size+1<w1.heap.size)
    (Y:qao t L total k at_ #[q,G,J,D,r,I]):
    bodyPost Tryz.prog fn (fun e w'=>(∃A,e=Ending.returned (.tuple #[.agg A,.int .i64 0])/\qao t L total k at_ A)/\Below w.heap.size w w') Exit.ret ⟨tmps,[]⟩
      (((((((w1.setCell ⟨w.heap.size+1,0,none⟩ q).setCell ⟨w.heap.size+1,1,none⟩ G).setCell ⟨w.heap.size+1,2,none⟩ J).setCell ⟨w.heap.size+1,3,none⟩ D).setCell ⟨w.heap.size+1,4,none⟩ r).setCell ⟨w.heap.size+1,5,none⟩ I).alloc o):=by
  refine Bp (YC S V U (b:=w.heap.size+1) (T:=96) (fr:=(0,0)) ?_ rfl) rfl ⟨⟨_,rfl,Y⟩,(yn O (by omega) _ _ _ _ _ _).alloc (by simp;omega) _⟩;rw[Bh _ _ _ (by simp;omega)];exact ym Z _ _ _ _ _ _
theorem qdQ (t:TreeV)(total:Nat)(D:1<=L.length)(ad:2<=L.length)
    (HR:Hid (∀w,Calls Tryz.prog 91 #[t.val,.int .u64 total] w fun e w'=> ∃v,e= .returned (.tuple #[v,.int .i64 0])/\w'.ownsRow w.heap.size 44 1 v L.length (L.map qbt)/\Below w.heap.size w w'))
    (G:Hid (∀k,k<L.length->(nth L k:Int)<=18446744073709551615)) (al:0<=t.f) (ah:t.f<=18446744073709551615) (ai:0<=t.l) (ae:t.l<=4294967295) (ag:(L.length:Int)<=9223372036854775807)
    (k:Nat) (at_:Nat) (z1:k<L.length) (z2:at_<nth L k) (w:World):
    Calls Tryz.prog 54 #[t.val,.int .u64 total,.int .i64 k,.int .u64 at_] w fun e w'=>(∃A,e= .returned (.tuple #[.agg A,.int .i64 0])/\qao t L total k at_ A)/\Below w.heap.size w w':=by
  unfold TreeV.val;go_enter Tryz.func54,Tryz.ntmps54
  go_wp2_with fail
  refine(HR.out _).mono ?_;rintro e w1 ⟨v,rfl,S,r⟩;obtain⟨g,ac,rfl, -,af,aj,I⟩:=YE S D;clear S;have J:=hid I;clear I;obtain⟨hc,hf⟩:=Q5 r;have ab:=r.size;simp at ab
  have k0:w.heap.size<w1.heap.size:=by omega
  have X:w.heap.size+1<w1.heap.size:=by omega
  have b1:w1.heap[w.heap.size+1]? =some (Obj.cells Kh 96 (0,0)):=by
    rw[r.block _ (by simp)];exact qB _ _ (by simp)
  have V:=hid b1;have q:Below w.heap.size w w1:=qs _ (Below.trans (Br.alloc Nl _) (r.mono (by simp)));clear b1 r;have hx:=J.out k z1;have ak:=G.out k z1;have q0:((L.length:Int)<=(k:Int))=False:=eq_false (by omega);have q1:((nth L k:Int)<=(at_:Int))=False:=eq_false (by omega);by_cases Y:k=L.length - 1
  · have q2:((k:Int)==(L.length:Int) - 1)=true:=by rw[beq_iff_eq];omega
    obtain⟨j,rfl⟩: ∃j,k=j+1:=⟨k - 1,by omega⟩;have hy:=J.out j (by omega);have Z:=G.out j (by omega);have o:=hid Y;clear Y;go_wp2
    refine jz (t:=t) (L:=L) (total:=total) (k:=j+1) (at_:=at_) (fn:=Tryz.f54) ?_ ?_ ?_ V.out q X ?_
    · rfl
    · rfl
    · rfl
    unfold qao qeU;rw[if_pos (decide_eq_true o.out)];rfl
  · have q2:((k:Int)==(L.length:Int) - 1)=false:=by rw[beq_eq_false_iff_ne];omega
    have o:=hid Y;clear Y;by_cases O:(at_:Int)=(nth L k:Int) - 1
    · have q4:((at_:Int)==(nth L k:Int) - 1)=true:=by rw[beq_iff_eq];exact O
      have U:=hid O;clear O
      cases k with
      | zero=>
        have aa:(L=[])=False:=eq_false (by intro h;rw[h]at D;simp at D);go_wp2
        refine jz (t:=t) (L:=L) (total:=total) (k:=0) (at_:=at_) (fn:=Tryz.f54) ?_ ?_ ?_ V.out q X ?_
        · rfl
        · rfl
        · rfl
        unfold qao qeU;rw[if_neg (by simp;exact o.out),if_pos U.out];simp
      | succ j=>
        have hy:=J.out j (by omega);have Z:=G.out j (by omega);go_wp2
        refine jz (t:=t) (L:=L) (total:=total) (k:=j+1) (at_:=at_) (fn:=Tryz.f54) ?_ ?_ ?_ V.out q X ?_
        · rfl
        · rfl
        · rfl
        unfold qao qeU;rw[if_neg (by simp;exact o.out),if_pos U.out];simp
    · have q4:((at_:Int)==(nth L k:Int) - 1)=false:=by rw[beq_eq_false_iff_ne];exact O
      have U:=hid O;clear O
      cases k with
      | zero=>
        have aa:(L=[])=False:=eq_false (by intro h;rw[h]at D;simp at D);go_wp2
        refine jz (t:=t) (L:=L) (total:=total) (k:=0) (at_:=at_) (fn:=Tryz.f54) ?_ ?_ ?_ V.out q X ?_
        · rfl
        · rfl
        · rfl
        unfold qao qeU;rw[if_neg (by simp;exact o.out),if_neg U.out];simp
      | succ j=>
        have hy:=J.out j (by omega);have Z:=G.out j (by omega);go_wp2
        refine jz (t:=t) (L:=L) (total:=total) (k:=j+1) (at_:=at_) (fn:=Tryz.f54) ?_ ?_ ?_ V.out q X ?_
        · rfl
        · rfl
        · rfl
        unfold qao qeU;rw[if_neg (by simp;exact o.out),if_neg U.out];simp
end Go.Proofs.YtahenngmaoellaaGreat
namespace Go.Proofs.YtahenngmaoellaaGreat
open Go.ChangeShapes Go.WideShapes Go.ChangeAt Go.RowKit Go.Joins Go.Shelf Go.Maps
open Go.Lib (hid)
variable{total at_:Nat}{L:List Nat}{S z1 z2 I e z0 y0 Z y3 y6:Int}{G O:Bool}
theorem qiK {t:TreeV}{p:Nat}(V:t.f=(t.fn:Int))(I:t.l=(t.ln:Int))(D:1<=t.ln)(U:(total:Int)<=18446744073709551615)(h:RowsIs t.fn p (lvs total t.ln) L){row:Nat}(q:row<L.length)(Z:at_<nth L row):
    qeU t.f t.l total row at_ (nth L row) (nth L (row - 1)) (decide (row=L.length - 1))=(QZ t.fn t.ln total L row at_).val.cells:=by
  have O:((at_:Int)==(nth L row:Int) - 1)=decide (at_=nth L row - 1):=by
    rw[Bool.eq_iff_iff,beq_iff_eq,decide_eq_true_iff];omega
  rw[V,I];generalize t.fn=f at*;generalize t.ln=l at*;unfold qeU QZ;by_cases o:1<=row/\nth L row=1
  · rw[if_pos (decide_eq_true ((h.root_iff q).1 o)),if_pos o,O];rfl
  · have G: ¬row=L.length - 1:=fun e=>o ((h.root_iff q).2 e)
    obtain⟨b1,b2, -⟩:=jq D h q Z o;have aa:((if row=0 then total else nth L (row - 1):Nat):Int)<=18446744073709551615:=by
      by_cases S:row=0
      · rw[if_pos S];exact U
      · rw[if_neg S];exact zk D U h _ (by omega)
    have X:(if row=0 then(l:Int) else(f:Int))=((if row=0 then l else f:Nat):Int):=by split<;>rfl
    have w1:IntKind.u64.wrap ((at_:Int)*((if row=0 then l else f:Nat):Int))=((at_*(if row=0 then l else f):Nat):Int):=by
      rw[wrap_u64,<-Int.natCast_mul];omega
    rw[X,if_neg (by simp;exact G),if_neg o,w1];by_cases r:at_=nth L row - 1
    · rw[if_pos (show(at_:Int)=(nth L row:Int) - 1 by omega),if_pos r];rfl
    · have J:=b2 r
      have Y:IntKind.u64.wrap (((at_*(if row=0 then l else f):Nat):Int)+((if row=0 then l else f:Nat):Int))=(((at_+1)*(if row=0 then l else f):Nat):Int):=by
        rw[Nat.add_mul,Nat.one_mul]at J⊢;rw[wrap_u64,<-Int.natCast_add];omega
      rw[if_neg (show ¬(at_:Int)=(nth L row:Int) - 1 by omega),if_neg r,Y];rfl
theorem yQ (t:TreeV)(J:0<=t.l/\t.l<=4294967295)(total:Nat)(D:(total:Int)<=18446744073709551615)(row:Int)(at_:Nat)(w:World):
    Calls Tryz.prog 54 #[t.val,.int .u64 total,.int .i64 row,.int .u64 at_] w fun e w'=>e= .returned (.tuple #[(t.spotR total row at_).val,.int .i64 (t.spotE total row at_)])/\Below w.heap.size w w':=by
  by_cases q:t.err total=0
  · obtain⟨I,aa,U,Y⟩:=Qw J q
    have ab:=qn Y;have O:t.f=(t.fn:Int):=by unfold TreeV.fn;omega
    have r:=qG q;have G:=zk I D r;have ac:=r.len;have hp:(t.pn:Int)<=255:=by unfold TreeV.pn;omega
    have Z:=r.most;have S:=hid (fun w=>JJ t J total D q w);by_cases o:t.there total row at_
    · unfold TreeV.spotR TreeV.spotE
      rw[if_pos ⟨q,o⟩,if_neg (by simp[q]),if_pos o];obtain⟨z0,z1,z2⟩:=o;obtain⟨k,rfl⟩: ∃k:Nat,row=k:=⟨row.toNat,by omega⟩;rw[Int.toNat_natCast]at z1 z2⊢;refine(qdQ (L:=t.rowsOf total) t total (by omega) (by omega) S (hid G) (by omega) (by omega) (by omega) (by omega) (by omega) k at_ z1 z2 w).mono ?_;rintro e w' ⟨⟨A,rfl,V⟩,X⟩
      refine⟨?_,X⟩;unfold qao at V;rw[V,qiK O U I D r z1 z2];rfl
    · unfold TreeV.spotR TreeV.spotE
      rw[if_neg (fun h=>o h.2),if_neg (by simp[q]),if_neg o];exact qeJ (L:=t.rowsOf total) t total (by omega) S (hid G) row at_ (hid o) w
  · unfold TreeV.spotR TreeV.spotE
    rw[if_neg (fun h=>q h.1),if_pos q];exact qeK t J total D q row at_ w
theorem zv (t:TreeV)(r:0<=t.l/\t.l<=4294967295)(total:Nat)(D:(total:Int)<=18446744073709551615)(row:Int)(at_:Nat)(w:World):
    Calls Tryz.prog 92 #[t.val,.int .u64 total,.int .i64 row,.int .u64 at_] w fun e w'=>e= .returned (.tuple #[(t.spotR total row at_).val,.int .i64 (t.spotE total row at_)])/\Below w.heap.size w w':=by
  by_cases q:t.err total=0
  · refine(qjE t r total D q row at_ w).mono ?_
    rintro e w' ⟨rfl,G⟩
    refine⟨?_,G⟩;unfold TreeV.spotR TreeV.spotE;by_cases o:t.there total row at_
    · rw[if_pos (show t.err total=0/\t.there total row at_ from⟨q,o⟩),if_neg (show ¬(t.err total≠0) by simp[q]),if_pos o,if_pos o]
    · rw[if_neg (show ¬(t.err total=0/\t.there total row at_) from fun h=>o h.2),if_neg (show ¬(t.err total≠0) by simp[q]),if_neg o,if_neg o]
  · unfold TreeV.spotR TreeV.spotE
    rw[if_neg (fun h=>q h.1),if_pos q];exact qio t r total D q row at_ w
attribute [local go_sem] Oper.semAt_some
theorem qgk (t:TreeV)(total:Nat)(row:Int)(at_:Nat)(J:Hid (∀w,Calls Tryz.prog 92 #[t.val,.int .u64 total,.int .i64 row,.int .u64 at_] w fun r w'=>r= .returned (.tuple #[.agg #[.int .i64 S,.int .u64 z1,.int .u64 z2,.int .u64 I,.bool G,.bool O],.int .i64 e])/\Below w.heap.size w w'))(X:(e != 0)=true)(w:World):
    Calls Tryz.prog 114 #[t.val,.int .u64 total,.int .i64 row,.int .u64 at_] w fun r w'=>r= .returned (.tuple #[.int .u64 0,.int .i64 e])/\Below w.heap.size w w':=by
  unfold TreeV.val at*;go_enter Tryz.func114,Tryz.ntmps114
  go_wp2_with fail
  refine(J.out _).mono ?_;rintro r w1 ⟨rfl,o⟩;obtain⟨Y,U⟩:=Q5 o;have D:=o.size;simp at D
  have V:w.heap.size<w1.heap.size:=by omega
  have q:Below w.heap.size w w1:=qs _ o;clear o;go_wp2
  refine Bp (results_tmp2 (fn:=Tryz.f114) (t:=8) (u:=9) rfl _ _ _) rfl ⟨rfl,?_⟩;first|exact q|exact q.alloc (by omega) _
theorem qeZ (t:TreeV)(total:Nat)(row:Int)(at_:Nat){O:Int}(J:Hid (∀w,Calls Tryz.prog 92 #[t.val,.int .u64 total,.int .i64 row,.int .u64 at_] w fun r w'=>r= .returned (.tuple #[.agg #[.int .i64 O,.int .u64 z1,.int .u64 z2,.int .u64 I,.bool G,.bool true],.int .i64 0])/\Below w.heap.size w w'))(w:World):
    Calls Tryz.prog 114 #[t.val,.int .u64 total,.int .i64 row,.int .u64 at_] w fun r w'=>r= .returned (.tuple #[.int .u64 0,.int .i64 6])/\Below w.heap.size w w':=by
  unfold TreeV.val at*;go_enter Tryz.func114,Tryz.ntmps114
  go_wp2_with fail
  refine(J.out _).mono ?_;rintro r w1 ⟨rfl,o⟩;obtain⟨V,S⟩:=Q5 o;have D:=o.size;simp at D
  have U:w.heap.size<w1.heap.size:=by omega
  have q:Below w.heap.size w w1:=qs _ o;clear o;go_wp2
  refine Bp (results_tmp2 (fn:=Tryz.f114) (t:=8) (u:=9) rfl _ _ _) rfl ⟨rfl,?_⟩;first|exact q|exact q.alloc (by omega) _
theorem qcN (t:TreeV)(total:Nat)(row:Int)(at_:Nat)(J:Hid (∀w,Calls Tryz.prog 54 #[t.val,.int .u64 total,.int .i64 row,.int .u64 at_] w fun r w'=>r= .returned (.tuple #[.agg #[.int .i64 S,.int .u64 z1,.int .u64 z2,.int .u64 I,.bool G,.bool O],.int .i64 e])/\Below w.heap.size w w'))(X:(e != 0)=true)(w:World):
    Calls Tryz.prog 118 #[t.val,.int .u64 total,.int .i64 row,.int .u64 at_] w fun r w'=>r= .returned (.tuple #[.int .u64 0,.int .i64 e])/\Below w.heap.size w w':=by
  unfold TreeV.val at*;go_enter Tryz.func118,Tryz.ntmps118
  go_wp2_with fail
  refine(J.out _).mono ?_;rintro r w1 ⟨rfl,o⟩;obtain⟨Y,U⟩:=Q5 o;have D:=o.size;simp at D
  have V:w.heap.size<w1.heap.size:=by omega
  have q:Below w.heap.size w w1:=qs _ o;clear o;go_wp2
  refine Bp (results_tmp2 (fn:=Tryz.f118) (t:=8) (u:=9) rfl _ _ _) rfl ⟨rfl,?_⟩;first|exact q|exact q.alloc (by omega) _
theorem qbX (t:TreeV)(total:Nat)(row:Int)(at_:Nat){O:Int}(J:Hid (∀w,Calls Tryz.prog 54 #[t.val,.int .u64 total,.int .i64 row,.int .u64 at_] w fun r w'=>r= .returned (.tuple #[.agg #[.int .i64 O,.int .u64 z1,.int .u64 z2,.int .u64 I,.bool G,.bool true],.int .i64 0])/\Below w.heap.size w w'))(w:World):
    Calls Tryz.prog 118 #[t.val,.int .u64 total,.int .i64 row,.int .u64 at_] w fun r w'=>r= .returned (.tuple #[.int .u64 0,.int .i64 6])/\Below w.heap.size w w':=by
  unfold TreeV.val at*;go_enter Tryz.func118,Tryz.ntmps118
  go_wp2_with fail
  refine(J.out _).mono ?_;rintro r w1 ⟨rfl,o⟩;obtain⟨V,S⟩:=Q5 o;have D:=o.size;simp at D
  have U:w.heap.size<w1.heap.size:=by omega
  have q:Below w.heap.size w w1:=qs _ o;clear o;go_wp2
  refine Bp (results_tmp2 (fn:=Tryz.f118) (t:=8) (u:=9) rfl _ _ _) rfl ⟨rfl,?_⟩;first|exact q|exact q.alloc (by omega) _
theorem qe0 (t:TreeV)(total:Nat)(row:Int)(at_:Nat){V:Int}{U:Bool}{Y:Int}{S:Bool}(X:Hid (∀w,Calls Tryz.prog 92 #[t.val,.int .u64 total,.int .i64 row,.int .u64 at_] w fun r w'=>r= .returned (.tuple #[.agg #[.int .i64 z0,.int .u64 z1,.int .u64 z2,.int .u64 V,.bool U,.bool false],.int .i64 0])/\Below w.heap.size w w'))(H2:Hid (∀w,Calls Tryz.prog 92 #[t.val,.int .u64 total,.int .i64 (row+1),.int .u64 0] w fun r w'=>r= .returned (.tuple #[.agg #[.int .i64 y0,.int .u64 Z,.int .u64 Y,.int .u64 y3,.bool S,.bool true],.int .i64 y6])/\Below w.heap.size w w'))(hr:0<=row/\row<=254)(w:World):
    Calls Tryz.prog 114 #[t.val,.int .u64 total,.int .i64 row,.int .u64 at_] w fun r w'=>r= .returned (.tuple #[.int .u64 0,.int .i64 0])/\Below w.heap.size w w':=by
  unfold TreeV.val at*;go_enter Tryz.func114,Tryz.ntmps114
  go_wp2_with fail
  refine(X.out _).mono ?_;rintro r w1 ⟨rfl,o⟩;obtain⟨hc,aa⟩:=Q5 o;have J:=o.size;simp at J
  have k0:w.heap.size<w1.heap.size:=by omega
  have G:Below w.heap.size w w1:=qs _ o;clear o;go_wp2_with fail
  refine(H2.out _).mono ?_;rintro r O ⟨rfl,q⟩;have I:=q.size;simp at I
  have k2:w.heap.size<O.heap.size:=by omega
  obtain⟨ac,ab⟩:=Q5 q;have D:Below w.heap.size w O:=(G.alloc (by omega) _).trans (q.mono (by simp;omega));clear q;go_wp2
  refine Bp (results_tmp2 (fn:=Tryz.f114) (t:=8) (u:=9) rfl _ _ _) rfl ⟨rfl,?_⟩;first|exact D|exact D.alloc (by omega) _
theorem qhI (t:TreeV)(total:Nat)(row:Int)(at_:Nat){Y:Bool}{y1 y2:Int}{X:Bool}(H1:Hid (∀w,Calls Tryz.prog 92 #[t.val,.int .u64 total,.int .i64 row,.int .u64 at_] w fun r w'=>r= .returned (.tuple #[.agg #[.int .i64 z0,.int .u64 z1,.int .u64 z2,.int .u64 Z,.bool Y,.bool false],.int .i64 0])/\Below w.heap.size w w'))(H2:Hid (∀w,Calls Tryz.prog 92 #[t.val,.int .u64 total,.int .i64 (row+1),.int .u64 0] w fun r w'=>r= .returned (.tuple #[.agg #[.int .i64 y0,.int .u64 y1,.int .u64 y2,.int .u64 y3,.bool X,.bool false],.int .i64 y6])/\Below w.heap.size w w'))(hr:0<=row/\row<=254)(hf:2<=t.f/\t.f<=255)(ha:(at_:Int)<=18446744073709551615)(w:World):
    Calls Tryz.prog 114 #[t.val,.int .u64 total,.int .i64 row,.int .u64 at_] w fun r w'=>r= .returned (.tuple #[.int .u64 (at_/t.fn:Nat),.int .i64 0])/\Below w.heap.size w w':=by
  have ad:(t.f==0)=false:=by rw[beq_eq_false_iff_ne];omega
  have I:t.f=(t.fn:Int):=by unfold TreeV.fn;omega
  have G:((at_/t.fn:Nat):Int)=(at_:Int)/t.f:=by rw[I];exact Int.natCast_ediv at_ t.fn
  have O:=Nat.div_le_self at_ t.fn;have e3:(at_:Int)/t.f<=18446744073709551615:=by rw[<-G];omega
  have e4:0<=(at_:Int)/t.f:=by rw[<-G];exact Int.natCast_nonneg _
  have HQ:=hid G;clear G I O;unfold TreeV.val at*;go_enter Tryz.func114,Tryz.ntmps114
  go_wp2_with fail
  refine(H1.out _).mono ?_;rintro r w1 ⟨rfl,o⟩;obtain⟨hc,aa⟩:=Q5 o;have U:=o.size;simp at U
  have k0:w.heap.size<w1.heap.size:=by omega
  have J:Below w.heap.size w w1:=qs _ o;clear o;go_wp2_with fail
  refine(H2.out _).mono ?_;rintro r V ⟨rfl,q⟩;have S:=q.size;simp at S
  have k2:w.heap.size<V.heap.size:=by omega
  obtain⟨ac,ab⟩:=Q5 q;have D:Below w.heap.size w V:=(J.alloc (by omega) _).trans (q.mono (by simp;omega));clear q;go_wp2
  refine Bp (results_tmp2 (fn:=Tryz.f114) (t:=8) (u:=9) rfl _ _ _) rfl ⟨by rw[HQ.out];rfl,?_⟩;first|exact D|exact D.alloc (by omega) _
theorem qbY (t:TreeV)(total:Nat)(k:Nat)(at_:Nat){X:Int}{V:Bool}(Y:Hid (∀w,Calls Tryz.prog 54 #[t.val,.int .u64 total,.int .i64 k,.int .u64 at_] w fun r w'=>r= .returned (.tuple #[.agg #[.int .i64 z0,.int .u64 z1,.int .u64 z2,.int .u64 X,.bool V,.bool false],.int .i64 0])/\Below w.heap.size w w'))(Z:Hid (∀w,Calls Tryz.prog 91 #[t.val,.int .u64 total] w fun e w'=> ∃v,e= .returned (.tuple #[v,.int .i64 0])/\w'.ownsRow w.heap.size 44 1 v L.length (L.map qbt)/\Below w.heap.size w w'))(hk:k+1<L.length)(af:L.length<=255)(h1:((nth L (k+1):Int)==1)=true)(w:World):
    Calls Tryz.prog 118 #[t.val,.int .u64 total,.int .i64 k,.int .u64 at_] w fun r w'=>r= .returned (.tuple #[.int .u64 0,.int .i64 0])/\Below w.heap.size w w':=by
  unfold TreeV.val at*;go_enter Tryz.func118,Tryz.ntmps118
  go_wp2_with fail
  refine(Y.out _).mono ?_;rintro r w1 ⟨rfl,o⟩;obtain⟨hc,ab⟩:=Q5 o;have S:=o.size;simp at S
  have k0:w.heap.size<w1.heap.size:=by omega
  have J:Below w.heap.size w w1:=qs _ o;clear o;go_wp2_with fail
  refine(Z.out _).mono ?_;rintro r U ⟨v,rfl,G,D⟩;obtain⟨g,aa,rfl, -,ae,ag,q⟩:=YE G (by omega);clear G;have hx:=q (k+1) (by omega);clear q;have O:=D.size;simp at O
  have k2:w.heap.size<U.heap.size:=by omega
  obtain⟨ad,ac⟩:=Q5 D;have I:Below w.heap.size w U:=(J.alloc (by omega) _).trans (D.mono (by simp;omega));clear D;go_wp2
  refine Bp (results_tmp2 (fn:=Tryz.f118) (t:=8) (u:=9) rfl _ _ _) rfl ⟨rfl,?_⟩;first|exact I|exact I.alloc (by omega) _
theorem qdS (t:TreeV)(total:Nat)(k:Nat)(at_:Nat){z3:Int}{Z:Bool}(H1:Hid (∀w,Calls Tryz.prog 54 #[t.val,.int .u64 total,.int .i64 k,.int .u64 at_] w fun r w'=>r= .returned (.tuple #[.agg #[.int .i64 z0,.int .u64 z1,.int .u64 z2,.int .u64 z3,.bool Z,.bool false],.int .i64 0])/\Below w.heap.size w w'))(HR:Hid (∀w,Calls Tryz.prog 91 #[t.val,.int .u64 total] w fun e w'=> ∃v,e= .returned (.tuple #[v,.int .i64 0])/\w'.ownsRow w.heap.size 44 1 v L.length (L.map qbt)/\Below w.heap.size w w'))(hk:k+1<L.length)(af:L.length<=255)(h1:((nth L (k+1):Int)==1)=false)(hf:2<=t.f/\t.f<=255)(ha:(at_:Int)<=18446744073709551615)(w:World):
    Calls Tryz.prog 118 #[t.val,.int .u64 total,.int .i64 k,.int .u64 at_] w fun r w'=>r= .returned (.tuple #[.int .u64 (at_/t.fn:Nat),.int .i64 0])/\Below w.heap.size w w':=by
  have ag:(t.f==0)=false:=by rw[beq_eq_false_iff_ne];omega
  have O:t.f=(t.fn:Int):=by unfold TreeV.fn;omega
  have J:((at_/t.fn:Nat):Int)=(at_:Int)/t.f:=by rw[O];exact Int.natCast_ediv at_ t.fn
  have U:=Nat.div_le_self at_ t.fn;have e3:(at_:Int)/t.f<=18446744073709551615:=by rw[<-J];omega
  have e4:0<=(at_:Int)/t.f:=by rw[<-J];exact Int.natCast_nonneg _
  have HQ:=hid J;clear J O U;unfold TreeV.val at*;go_enter Tryz.func118,Tryz.ntmps118
  go_wp2_with fail
  refine(H1.out _).mono ?_;rintro r w1 ⟨rfl,o⟩;obtain⟨hc,ab⟩:=Q5 o;have X:=o.size;simp at X
  have k0:w.heap.size<w1.heap.size:=by omega
  have S:Below w.heap.size w w1:=qs _ o;clear o;go_wp2_with fail
  refine(HR.out _).mono ?_;rintro r Y ⟨v,rfl,G,D⟩;obtain⟨g,aa,rfl, -,ae,ah,q⟩:=YE G (by omega);clear G;have hx:=q (k+1) (by omega);clear q;have V:=D.size;simp at V
  have k2:w.heap.size<Y.heap.size:=by omega
  obtain⟨ad,ac⟩:=Q5 D;have I:Below w.heap.size w Y:=(S.alloc (by omega) _).trans (D.mono (by simp;omega));clear D;go_wp2
  refine Bp (results_tmp2 (fn:=Tryz.f118) (t:=8) (u:=9) rfl _ _ _) rfl ⟨by rw[HQ.out];rfl,?_⟩;first|exact I|exact I.alloc (by omega) _
theorem qeB {f p total l:Nat}{L:List Nat}(h:RowsIs f p (lvs total l) L): ∀k,k<L.length->1<=nth L k
  | 0,_=>by rw[h.first];unfold lvs;omega
  | k+1,hk=>by
    have o:=qeB h k (by omega);rw[h.next k hk];unfold yv;split
    · omega
    · exact ZQ o
def TreeV.parV (t:TreeV)(total:Nat)(row:Int)(at_:Nat):Nat:=if t.spotE total row at_≠0\/(t.spotR total row at_).root=true\/nth (t.rowsOf total) (row.toNat+1)=1 then 0 else at_/t.fn
def TreeV.parE (t:TreeV)(total:Nat)(row:Int)(at_:Nat):Int:=if t.spotE total row at_≠0 then t.spotE total row at_ else if(t.spotR total row at_).root=true then 6 else 0
theorem yY (s:SpotV):s.val= .agg #[.int .i64 s.row,.int .u64 s.at_,.int .u64 s.frm,.int .u64 s.to_,.bool s.last,.bool s.root]:=rfl
theorem qbP {t:TreeV}(S:0<=t.l/\t.l<=4294967295){row:Int}(h:t.spotE total row at_=0)(q:(t.spotR total row at_).root=false):
    t.err total=0/\ ∃k:Nat,row=k/\k+1<(t.rowsOf total).length/\(t.rowsOf total).length<=255/\(nth (t.rowsOf total) (k+1)≠1->2<=t.f/\t.f<=255)/\
      t.spotE total ((k:Int)+1) 0=0/\(t.spotR total ((k:Int)+1) 0).root=decide (nth (t.rowsOf total) (k+1)=1):=by
  by_cases o:t.err total=0
  · refine⟨o,?_⟩
    obtain⟨X,Y,aa,U⟩:=Qw S o;have ab:=qn U;have J:=qG o;have hm:=J.most;have Z:t.f=(t.fn:Int):=by unfold TreeV.fn;omega
    have ac:(t.pn:Int)<=255:=by unfold TreeV.pn;omega
    unfold TreeV.spotE at h;rw[if_neg (by simp[o])]at h;by_cases G:t.there total row at_
    · unfold TreeV.spotR at q
      rw[if_pos ⟨o,G⟩]at q;obtain⟨z0,z1,z2⟩:=G;obtain⟨k,rfl⟩: ∃k:Nat,row=k:=⟨row.toNat,by omega⟩;rw[Int.toNat_natCast]at q z1 z2;have O: ¬(1<=k/\nth (t.rowsOf total) k=1):=by
        intro V;unfold TreeV.spot QZ at q;rw[if_pos V]at q;simp at q
      have I:k+1<(t.rowsOf total).length:=by
        have: ¬k=(t.rowsOf total).length - 1:=fun e=>O ((J.root_iff z1).2 e)
        omega
      have D:t.there total ((k:Int)+1) 0:=by
        have e:((k:Int)+1).toNat=k+1:=by omega
        refine⟨by omega,by rw[e];exact I,by rw[e];exact qeB J _ I⟩
      refine⟨k,rfl,I,by omega,?_,?_,?_⟩
      · intro r
        have:=(J.next_or I r).2
        omega
      · unfold TreeV.spotE
        rw[if_neg (by simp[o]),if_pos D]
      · unfold TreeV.spotR
        rw[if_pos ⟨o,D⟩,show((k:Int)+1).toNat=k+1 by omega];unfold TreeV.spot QZ;by_cases r:nth (t.rowsOf total) (k+1)=1
        · rw[if_pos ⟨by omega,r⟩];simp[r]
        · rw[if_neg (fun h=>r h.2)];split<;>simp[r]
    · rw[if_neg G]at h;omega
  · unfold TreeV.spotE at h
    rw[if_pos o]at h;exact absurd h o
theorem qb7 (t:TreeV)(I:0<=t.l/\t.l<=4294967295)(total:Nat)(J:(total:Int)<=18446744073709551615)(row:Int)(at_:Nat)(U:(at_:Int)<=18446744073709551615)(w:World):
    Calls Tryz.prog 114 #[t.val,.int .u64 total,.int .i64 row,.int .u64 at_] w fun r w'=>r= .returned (.tuple #[.int .u64 (t.parV total row at_),.int .i64 (t.parE total row at_)])/\Below w.heap.size w w':=by
  have q:=hid (fun w=>zv t I total J row at_ w);simp only[yY]at q;unfold TreeV.parV TreeV.parE;by_cases o:t.spotE total row at_=0
  · rw[o]at q
    cases hr:(t.spotR total row at_).root with
    | true=>
      rw[hr]at q;rw[if_pos (.inr (.inl rfl)),if_neg (by simp[o]),if_pos rfl];exact qeZ t total row at_ q w
    | false=>
      rw[hr]at q;obtain⟨X,k,rfl,Z,V,O,Y,S⟩:=qbP I o hr;have D:=hid (fun w=>zv t I total J ((k:Int)+1) 0 w);simp only[yY]at D;rw[S]at D;rw[Int.toNat_natCast];by_cases G:nth (t.rowsOf total) (k+1)=1
      · rw[decide_eq_true G]at D
        rw[if_pos (.inr (.inr G)),if_neg (by simp[o]),if_neg (by simp)];exact qe0 t total k at_ q D (by omega) w
      · rw[decide_eq_false G]at D
        rw[if_neg (by simp[o,G]),if_neg (by simp[o]),if_neg (by simp)];exact qhI t total k at_ q D (by omega) (O G) U w
  · rw[if_pos (.inl o),if_pos o]
    exact qgk t total row at_ q (by rw[bne_iff_ne];exact o) w
theorem qcO (t:TreeV)(I:0<=t.l/\t.l<=4294967295)(total:Nat)(U:(total:Int)<=18446744073709551615)(row:Int)(at_:Nat)(X:(at_:Int)<=18446744073709551615)(w:World):
    Calls Tryz.prog 118 #[t.val,.int .u64 total,.int .i64 row,.int .u64 at_] w fun r w'=>r= .returned (.tuple #[.int .u64 (t.parV total row at_),.int .i64 (t.parE total row at_)])/\Below w.heap.size w w':=by
  have q:=hid (fun w=>yQ t I total U row at_ w);simp only[yY]at q;unfold TreeV.parV TreeV.parE;by_cases o:t.spotE total row at_=0
  · rw[o]at q
    cases hr:(t.spotR total row at_).root with
    | true=>
      rw[hr]at q;rw[if_pos (.inr (.inl rfl)),if_neg (by simp[o]),if_pos rfl];exact qbX t total row at_ q w
    | false=>
      rw[hr]at q;obtain⟨S,k,rfl,J,G,V, -, -⟩:=qbP I o hr;have O:=hid (fun w=>JJ t I total U S w);rw[Int.toNat_natCast];by_cases D:nth (t.rowsOf total) (k+1)=1
      · rw[if_pos (.inr (.inr D)),if_neg (by simp[o]),if_neg (by simp)]
        exact qbY (L:=t.rowsOf total) t total k at_ q O J G (by rw[D];rfl) w
      · rw[if_neg (by simp[o,D]),if_neg (by simp[o]),if_neg (by simp)]
        exact qdS (L:=t.rowsOf total) t total k at_ q O J G (by rw[beq_eq_false_iff_ne];omega) (V D) X w
  · rw[if_pos (.inl o),if_pos o]
    exact qcN t total row at_ q (by rw[bne_iff_ne];exact o) w
end Go.Proofs.YtahenngmaoellaaGreat
namespace Go.Proofs.YtahenngmaoellaaGreat
open Go.ChangeShapes Go.WideShapes Go.ChangeAt Go.RowKit Go.Joins Go.Shelf Go.Maps
open Go.Lib (hid)
variable{total k at_ base size n:Nat}{W:World}{v:Value}{xs:List Value}{O z1 z2 I e:Int}{G J:Bool}
theorem qey {t:TreeV}(q:t.err total=0)(r:k<(t.rowsOf total).length)(D:at_<nth (t.rowsOf total) k):
    t.spotE total k at_=0/\t.spotR total k at_=QZ t.fn t.ln total (t.rowsOf total) k at_:=by
  have o:t.there total k at_:=⟨by omega,by rw[Int.toNat_natCast];exact r,by rw[Int.toNat_natCast];exact D⟩;unfold TreeV.spotE TreeV.spotR;rw[if_neg (by simp[q]),if_pos o,if_pos ⟨q,o⟩,Int.toNat_natCast];exact⟨rfl,rfl⟩
def Qg (f:Nat)(L:List Nat)(leaf:Nat):Nat->Nat
  | 0=>leaf
  | k+1=>if nth L (k+1)=1 then 0 else Qg f L leaf k/f
theorem qhJ {f p l:Nat}{L:List Nat}(h:RowsIs f p (lvs total l) L)(r:k+1<L.length)(D:at_<nth L k):(if nth L (k+1)=1 then 0 else at_/f)<nth L (k+1):=by
  by_cases q:nth L (k+1)=1
  · rw[if_pos q];omega
  · rw[if_neg q]
    obtain⟨e,G⟩:=h.next_or r q;rw[e];rcases Nat.lt_or_ge (at_/f) (qP (nth L k) f)with o|o
    · exact o
    · have:=Jj (by omega) o
      have d1:=Nat.div_add_mod at_ f;rw[Nat.mul_comm]at this;omega
theorem Yc {f p total l:Nat}{L:List Nat}(h:RowsIs f p (lvs total l) L){leaf:Nat}(o:leaf<nth L 0): ∀k,k<L.length->Qg f L leaf k<nth L k
  | 0,_=>o
  | k+1,hk=>qhJ h hk (Yc h o k (by omega))
def qu (t:TreeV)(total leaf k:Nat):SpotV:=QZ t.fn t.ln total (t.rowsOf total) k (Qg t.fn (t.rowsOf total) leaf k)
theorem Y0 (f l total:Nat)(L:List Nat)(row at_:Nat):(QZ f l total L row at_).row=row/\(QZ f l total L row at_).at_=at_/\(QZ f l total L row at_).root=decide (1<=row/\nth L row=1):=by
  unfold QZ;by_cases o:1<=row/\nth L row=1
  · rw[if_pos o];exact⟨rfl,rfl,(decide_eq_true o).symm⟩
  · rw[if_neg o]
    split<;>exact⟨rfl,rfl,(decide_eq_false o).symm⟩
theorem jh {t:TreeV}{leaf:Nat}(J:t.err total=0)(X:leaf<nth (t.rowsOf total) 0)(r:k<(t.rowsOf total).length):
    t.spotE total k (Qg t.fn (t.rowsOf total) leaf k)=0/\t.spotR total k (Qg t.fn (t.rowsOf total) leaf k)=qu t total leaf k/\(qu t total leaf k).row=k/\(qu t total leaf k).at_=Qg t.fn (t.rowsOf total) leaf k/\
      (qu t total leaf k).root=decide (k=(t.rowsOf total).length - 1)/\(k≠(t.rowsOf total).length - 1->t.parV total k (Qg t.fn (t.rowsOf total) leaf k)=Qg t.fn (t.rowsOf total) leaf (k+1)):=by
  have G:=qG J;have Y:=Yc G X k r;obtain⟨U,I⟩:=qey J r Y;obtain⟨V,Z,S⟩:=Y0 t.fn t.ln total (t.rowsOf total) k (Qg t.fn (t.rowsOf total) leaf k);have o:decide (1<=k/\nth (t.rowsOf total) k=1)=decide (k=(t.rowsOf total).length - 1):=by
    rw[decide_eq_decide];exact G.root_iff r
  refine⟨U,I,V,Z,S.trans o,fun O=>?_⟩;have D:(t.spotR total k (Qg t.fn (t.rowsOf total) leaf k)).root=false:=by
    rw[I,S,o,decide_eq_false O]
  unfold TreeV.parV;rw[Int.toNat_natCast];by_cases q:nth (t.rowsOf total) (k+1)=1
  · rw[if_pos (.inr (.inr q))]
    show 0=if nth (t.rowsOf total) (k+1)=1 then 0 else _
    rw[if_pos q]
  · rw[if_neg (by simp[U,D,q])]
    show _=if nth (t.rowsOf total) (k+1)=1 then 0 else _
    rw[if_neg q]
attribute [local go_sem] Oper.semAt_some
def SpotV.cellsL (s:SpotV):List Value:=[.int .i64 s.row,.int .u64 s.at_,.int .u64 s.frm,.int .u64 s.to_,.bool s.last,.bool s.root]
def ZF (t:TreeV)(total leaf:Nat):Nat->List Value
  | 0=>[]
  | k+1=>ZF t total leaf k++(qu t total leaf k).cellsL
def ZI:Value->Nat
  | .slice _ n _=>n
  | _=>0
theorem qhV:(Tryz.prog.info? 96).map (fun i=>(i.zero,i.size,i.bytes))=some (some (.agg Kh),6,40):=by kernel_rfl
theorem yN {W':World}{e:TypeId}(h:W.ownsRow base e size v n xs)(I: ∀g,base<=g->g<W.heap.size->W'.heap[g]? =W.heap[g]?):W'.ownsRow base e size v n xs:=by
  refine⟨h.1,?_⟩;rcases h.2 with o|⟨g,D,q,G,o,r,J⟩
  · exact .inl o
  · exact .inr ⟨g,D,q,G,o,(I g o (Ai r).1).trans r,J⟩
theorem qct (W:World)(a0 a1 a2 o r q:Value)(T:TypeId): ∀j u,[a0,a1,a2,o,r,q][j]? =some u->(W.alloc (.cells #[a0,a1,a2,o,r,q] T)).cell? (Addr.add ⟨W.heap.size,0,none⟩ j)=some u:=by
  intro j u D;have h:=qd (Wn W (.cells #[a0,a1,a2,o,r,q] T)) j;rw[show Addr.add ⟨W.heap.size,0,none⟩ j=⟨W.heap.size,j,none⟩ by first|(simp[Addr.add];done)|(simp[Addr.add];omega),h];rw[<-Array.getElem?_toList];exact D
theorem qfz (W:World)(a0 a1 a2 o r q:Value)(T:TypeId)(n:Nat)(D:n=W.heap.size): ∀j u,[a0,a1,a2,o,r,q][j]? =some u->(W.alloc (.cells #[a0,a1,a2,o,r,q] T)).cell? (Addr.add ⟨n,0,none⟩ j)=some u:=by
  subst D;exact qct W a0 a1 a2 o r q T
theorem jM {b:Nat}{a0 a1 a2 q J r:Value}{T:TypeId}(h:W.heap[b]? =some (Obj.cells #[a0,a1,a2,q,J,r] T (0,0))):
    W.cell? ⟨b,0,none⟩=some a0/\W.cell? ⟨b,1,none⟩=some a1/\W.cell? ⟨b,2,none⟩=some a2/\W.cell? ⟨b,3,none⟩=some q/\W.cell? ⟨b,4,none⟩=some J/\W.cell? ⟨b,5,none⟩=some r/\ ∀i,W.frozen? ⟨b,i,none⟩=false:=by
  have D:=qd h 0;have c1:=qd h 1;have c2:=qd h 2;have I:=qd h 3;have G:=qd h 4;have o:=qd h 5;simp only[List.getElem?_toArray,List.getElem?_cons_zero,List.getElem?_cons_succ]at D c1 c2 I G o;exact⟨D,c1,c2,I,G,o,fun i=>by simp[World.frozen?,h]⟩
def qkv (t:TreeV)(total leaf n:Nat)(w1:World)(v:Value)(wr:World):Prop:=
  ∃k,k<n/\ZI v=k+1/\wr.ownsRow (w1.heap.size+1) 96 6 v (k+1) (ZF t total leaf (k+1))/\Below w1.heap.size w1 wr/\
    wr.heap[w1.heap.size]? =some (Obj.cells #[.int .i64 k,.int .u64 (Qg t.fn (t.rowsOf total) leaf k:Nat),.int .u64 (qu t total leaf k).frm,.int .u64 (qu t total leaf k).to_,.bool (qu t total leaf k).last,.bool (decide (k=n - 1))] 96 (0,0))
theorem qhC (t:TreeV)(total leaf:Nat)(hn:2<=n)(ax:n<=255)
    (HS:Hid (∀k,k<n-> ∀w,Calls Tryz.prog 54 #[t.val,.int .u64 total,.int .i64 k,.int .u64 (Qg t.fn (t.rowsOf total) leaf k:Nat)] w fun r w'=>r= .returned (.tuple #[.agg #[.int .i64 k,.int .u64 (Qg t.fn (t.rowsOf total) leaf k:Nat),.int .u64 (qu t total leaf k).frm,.int .u64 (qu t total leaf k).to_,.bool (qu t total leaf k).last,.bool (decide (k=n - 1))],.int .i64 0])/\Below w.heap.size w w'))
    (HP:Hid (∀k,k+1<n-> ∀w,Calls Tryz.prog 118 #[t.val,.int .u64 total,.int .i64 k,.int .u64 (Qg t.fn (t.rowsOf total) leaf k:Nat)] w fun r w'=>r= .returned (.tuple #[.int .u64 (Qg t.fn (t.rowsOf total) leaf (k+1):Nat),.int .i64 0])/\Below w.heap.size w w'))
    (HW:Hid (∀k,k<n->(qu t total leaf k).cellsL=[.int .i64 k,.int .u64 (Qg t.fn (t.rowsOf total) leaf k:Nat),.int .u64 (qu t total leaf k).frm,.int .u64 (qu t total leaf k).to_,.bool (qu t total leaf k).last,.bool (decide (k=n - 1))])) (w:World):
    Calls Tryz.prog 74 #[t.val,.int .u64 total,.int .u64 leaf] w fun e w'=> ∃v,e= .returned (.tuple #[v,.int .i64 0])/\w'.ownsRow w.heap.size 96 6 v n (ZF t total leaf n)/\Below w.heap.size w w':=by
  obtain⟨i0,hi,ae,ad,aa⟩:=info_parts qhV;have S0:=hid (HS.out 0 (by omega));have W0:=hid (HW.out 0 (by omega));unfold TreeV.val at*;have q0:decide (0=n - 1)=false:=decide_eq_false (by omega);rw[q0]at S0 W0;simp only[Qg,Int.natCast_zero]at S0 W0;go_enter Tryz.func74,Tryz.ntmps74
  go_wp2_with fail
  refine(S0.out _).mono ?_;rintro r w1 ⟨rfl,S⟩;have aj:=S.size;simp at aj
  have k1:w.heap.size<w1.heap.size:=by omega
  have am:Below w.heap.size w w1:=qs _ S;obtain⟨az,aA⟩:=Q5 S;clear S;go_wp2_with (at_builtin;refine wpList_append_own _ rfl _ _ 132 rfl (w1.heap.size+1) 96 i0 _ 6 40 Tryz.underlying132 hi ae ad aa rfl (by decide) _ _ _ rfl (Wo _ _ _ _) ⟨w1.heap.size+1,0,none⟩ 1 1 [.int .i64 0,.int .u64 leaf,.int .u64 (qu t total leaf 0).frm,.int .u64 (qu t total leaf 0).to_,.bool (qu t total leaf 0).last,.bool false] rfl rfl ?_ (by simp[Value.oneCell']) (by unfold maxLen;omega) (by omega) (by simp) ?_;exact(by have h:=qct (w1.alloc (Obj.cells #[.int .i64 0,.int .u64 leaf,.int .u64 (qu t total leaf 0).frm,.int .u64 (qu t total leaf 0).to_,.bool (qu t total leaf 0).last,.bool false] 96)) (.int .i64 0) (.int .u64 leaf) (.int .u64 (qu t total leaf 0).frm) (.int .u64 (qu t total leaf 0).to_) (.bool (qu t total leaf 0).last) (.bool false) 96;simp only[World.size_alloc]at h;exact h);intro v' w2 o G _)
  have Z:Below (w1.heap.size+1) (w1.alloc (Obj.cells #[.int .i64 0,.int .u64 leaf,.int .u64 (qu t total leaf 0).frm,.int .u64 (qu t total leaf 0).to_,.bool (qu t total leaf 0).last,.bool false] 96)) w2:=
    (Br.alloc (by simp) _).grown G (by simp) (fun k e=>by cases e)
  go_loopw [8] (fun v wr=>qkv t total leaf n w1 v wr) (fun v _=>n - ZI v)
  case atStart=>
    obtain⟨g,V,rfl⟩:=ownsRow_form o (by omega);refine⟨0,by omega,rfl,?_,((Below.refl _ w1).alloc Nl _).trans (Z.mono (by omega)),?_⟩
    · show w2.ownsRow _ _ 6 _ _ ([]++(qu t total leaf 0).cellsL)
      rw[W0.out];exact o
    · rw[q0]
      exact(Z.block _ (by omega)).trans (Wn _ _)
  case round=>
    obtain⟨k,hk,ao,q,Y,I⟩:=hrel;have aw:=Y.size;obtain⟨au,ay⟩:=Q5 Y;have av:w1.heap.size<wr.heap.size:=(Ai I).1;have BX:=hid I;obtain⟨c0,c1,c2,c3,c4,c5,cf⟩:=jM I;clear I;by_cases U:k=n - 1
    · have q1:decide (k=n - 1)=true:=decide_eq_true U
      rw[q1]at c5;obtain⟨g,V,rfl⟩:=ownsRow_form q (by omega);go_wp2
      refine Bp (results_tmp2 (fn:=Tryz.f74) (t:=6) (u:=7) rfl _ _ _) rfl ⟨_,rfl,?_,am.trans (Y.mono (by omega))⟩;rw[show n=k+1 by omega];exact ownsRow_le q (by omega)
    · have q1:decide (k=n - 1)=false:=decide_eq_false U
      rw[q1]at c5;obtain⟨g,V,rfl⟩:=ownsRow_form q (by omega);go_wp2_with fail
      refine(HP.out k (by omega) _).mono ?_;rintro r w3 ⟨rfl,J⟩;have ak:=J.size;obtain⟨d0,d1,d2,d3,d4,d5,df⟩:=jM ((J.block _ (by omega)).trans BX.out);have ac:Below w1.heap.size w1 w3:=Y.trans (J.mono (by omega));obtain⟨ar,ap⟩:=Q5 ac;have X:=HS.out (k+1) (by omega);simp only[Int.natCast_add,Int.natCast_one]at X;have X:=hid X;go_wp2_with fail
      refine(X.out _).mono ?_;rintro r w4 ⟨rfl,O⟩;have aq:=O.size;have E4:=(O.block _ (by omega)).trans ((J.block _ (by omega)).trans BX.out);have ai:=hid E4;obtain⟨e0,e1,e2,e3,e4,e5,ef⟩:=jM E4;have ag:Below w1.heap.size w1 w4:=ac.trans (O.mono (by omega));have D:=yN q (fun g _ g2=>(J.trans (O.mono ak)).block g g2);have ah:=hid D;have al:=hid q;clear E4 D q;go_wp2_with (at_builtin;refine wpList_append_own _ rfl _ _ 132 rfl (w1.heap.size+1) 96 i0 _ 6 40 Tryz.underlying132 hi ae ad aa rfl (by decide) (.slice (some ⟨g,0,none⟩) (k+1) V) (k+1) (ZF t total leaf (k+1)) rfl ?_ ⟨w4.heap.size,0,none⟩ 1 1 [.int .i64 ((k:Int)+1),.int .u64 (Qg t.fn (t.rowsOf total) leaf (k+1):Nat),.int .u64 (qu t total leaf (k+1)).frm,.int .u64 (qu t total leaf (k+1)).to_,.bool (qu t total leaf (k+1)).last,.bool (decide (k+1=n - 1))] rfl rfl ?_ (by simp[Value.oneCell']) (by unfold maxLen;omega) (by omega) (by simp;omega) ?_;(have D:=ah.out;exact(ownsRow_setCell_below (ownsRow_setCell_below (ownsRow_setCell_below (ownsRow_setCell_below (ownsRow_setCell_below (ownsRow_setCell_below D (a:=⟨w1.heap.size,0,none⟩) (Nat.lt_succ_self _) _) (a:=⟨w1.heap.size,1,none⟩) (Nat.lt_succ_self _) _) (a:=⟨w1.heap.size,2,none⟩) (Nat.lt_succ_self _) _) (a:=⟨w1.heap.size,3,none⟩) (Nat.lt_succ_self _) _) (a:=⟨w1.heap.size,4,none⟩) (Nat.lt_succ_self _) _) (a:=⟨w1.heap.size,5,none⟩) (Nat.lt_succ_self _) _).alloc _);exact qfz _ _ _ _ _ _ _ _ _ (by simp);intro v' w5 o G _)
      obtain⟨g2,an,rfl⟩:=ownsRow_form o (by omega);have hW:=HW.out (k+1) (by omega);simp only[Int.natCast_add,Int.natCast_one]at hW;have ab:=((Below.refl (w1.heap.size+1) _).alloc (by simp;omega) _).grown G (by simp;omega) (fun k e=>(al.out.lt k e).1);have af:=ym ai.out (.int .i64 ((k:Int)+1)) (.int .u64 (Qg t.fn (t.rowsOf total) leaf (k+1):Nat)) (.int .u64 (qu t total leaf (k+1)).frm) (.int .u64 (qu t total leaf (k+1)).to_) (.bool (qu t total leaf (k+1)).last) (.bool (decide (k+1=n - 1)));refine⟨⟨k+1,by omega,rfl,?_,(yn ag Nl (.int .i64 ((k:Int)+1)) (.int .u64 (Qg t.fn (t.rowsOf total) leaf (k+1):Nat)) (.int .u64 (qu t total leaf (k+1)).frm) (.int .u64 (qu t total leaf (k+1)).to_) (.bool (qu t total leaf (k+1)).last) (.bool (decide (k+1=n - 1)))).trans (ab.mono (by omega)),?_⟩,by simp[ZI];omega⟩
      · show w5.ownsRow _ _ 6 _ _ (ZF t total leaf (k+1)++(qu t total leaf (k+1)).cellsL)
        rw[hW];exact o
      · simp only[Int.natCast_add,Int.natCast_one]
        exact(ab.block _ (by omega)).trans af
def Yd (t:TreeV)(total leaf:Nat):Nat->List Value
  | 0=>[]
  | k+1=>Yd t total leaf k++((qu t total leaf (k+1)).cellsL++[.int .u64 ((Qg t.fn (t.rowsOf total) leaf k:Int) - ((qu t total leaf (k+1)).frm:Int))])
theorem qgy:(Tryz.prog.info? 131).map (fun i=>(i.zero,i.size,i.bytes))=some (some (.agg #[.int .i64 0,.int .u64 0,.int .u64 0,.int .u64 0,.bool false,.bool false,.int .u64 0]),7,48):=by kernel_rfl
theorem qgM (W:World)(a0 a1 a2 q D r o:Value)(T:TypeId)(n:Nat)(G:n=W.heap.size): ∀j u,[a0,a1,a2,q,D,r,o][j]? =some u->(W.alloc (.cells #[a0,a1,a2,q,D,r,o] T)).cell? (Addr.add ⟨n,0,none⟩ j)=some u:=by
  subst G;intro j u I;have h:=qd (Wn W (.cells #[a0,a1,a2,q,D,r,o] T)) j;rw[show Addr.add ⟨W.heap.size,0,none⟩ j=⟨W.heap.size,j,none⟩ by first|(simp[Addr.add];done)|(simp[Addr.add];omega),h];rw[<-Array.getElem?_toList];exact I
def qju (t:TreeV)(total leaf n:Nat)(w1:World)(v:Value)(wr:World):Prop:=
  ∃k,k<n/\ZI v=k/\wr.ownsRow (w1.heap.size+1) 131 7 v k (Yd t total leaf k)/\Below w1.heap.size w1 wr/\
    wr.heap[w1.heap.size]? =some (Obj.cells #[.int .i64 k,.int .u64 (Qg t.fn (t.rowsOf total) leaf k:Nat),.int .u64 (qu t total leaf k).frm,.int .u64 (qu t total leaf k).to_,.bool (qu t total leaf k).last,.bool (decide (k=n - 1))] 96 (0,0))
theorem Yk {w:World}{e:TypeId}(h:w.ownsRow base e size v n xs): ∃a c,v= .slice a n c:=by
  rcases ownsRow_forms h with⟨h,o⟩|⟨g,q,h⟩
  · exact⟨none,0,by rw[h,o]⟩
  · exact⟨_,_,h⟩
theorem qig (t:TreeV)(total leaf:Nat)(hn:2<=n)(az:n<=255)
    (HS:Hid (∀k,k<n-> ∀w,Calls Tryz.prog 92 #[t.val,.int .u64 total,.int .i64 k,.int .u64 (Qg t.fn (t.rowsOf total) leaf k:Nat)] w fun r w'=>r= .returned (.tuple #[.agg #[.int .i64 k,.int .u64 (Qg t.fn (t.rowsOf total) leaf k:Nat),.int .u64 (qu t total leaf k).frm,.int .u64 (qu t total leaf k).to_,.bool (qu t total leaf k).last,.bool (decide (k=n - 1))],.int .i64 0])/\Below w.heap.size w w'))
    (HP:Hid (∀k,k+1<n-> ∀w,Calls Tryz.prog 114 #[t.val,.int .u64 total,.int .i64 k,.int .u64 (Qg t.fn (t.rowsOf total) leaf k:Nat)] w fun r w'=>r= .returned (.tuple #[.int .u64 (Qg t.fn (t.rowsOf total) leaf (k+1):Nat),.int .i64 0])/\Below w.heap.size w w'))
    (HW:Hid (∀k,k<n->(qu t total leaf k).cellsL=[.int .i64 k,.int .u64 (Qg t.fn (t.rowsOf total) leaf k:Nat),.int .u64 (qu t total leaf k).frm,.int .u64 (qu t total leaf k).to_,.bool (qu t total leaf k).last,.bool (decide (k=n - 1))]))
    (HF:Hid (∀k,k+1<n->((qu t total leaf (k+1)).frm:Int)<=(Qg t.fn (t.rowsOf total) leaf k:Int)/\(Qg t.fn (t.rowsOf total) leaf k:Int)<=18446744073709551615)) (w:World):
    Calls Tryz.prog 72 #[t.val,.int .u64 total,.int .u64 leaf] w fun e w'=> ∃v,e= .returned (.tuple #[v,.int .i64 0])/\w'.ownsRow w.heap.size 131 7 v (n - 1) (Yd t total leaf (n - 1))/\Below w.heap.size w w':=by
  obtain⟨i0,hi,an,am,ai⟩:=info_parts qgy;have S0:=hid (HS.out 0 (by omega));have W0:=hid (HW.out 0 (by omega));unfold TreeV.val at*;have q0:decide (0=n - 1)=false:=decide_eq_false (by omega);rw[q0]at S0 W0;simp only[Qg,Int.natCast_zero]at S0 W0;go_enter Tryz.func72,Tryz.ntmps72
  go_wp2_with fail
  refine(S0.out _).mono ?_;rintro r w1 ⟨rfl,U⟩;have af:=U.size;simp at af
  have k1:w.heap.size<w1.heap.size:=by omega
  have aj:Below w.heap.size w w1:=qs _ U;obtain⟨aB,aC⟩:=Q5 U;clear U;go_wp2_with fail
  go_loopw [10] (fun v wr=>qju t total leaf n w1 v wr) (fun v _=>n - ZI v)
  case atStart=>
    refine⟨0,by omega,rfl,Wo _ _ _ _,(Below.refl _ w1).alloc Nl _,?_⟩;rw[q0];exact Wn _ _
  case round=>
    obtain⟨k,hk,ao,D,hb,G⟩:=hrel;have ay:=hb.size;obtain⟨aw,aA⟩:=Q5 hb;have ax:w1.heap.size<wr.heap.size:=(Ai G).1;have BX:=hid G;obtain⟨c0,c1,c2,c3,c4,c5,cf⟩:=jM G;clear G;obtain⟨ga,gc,rfl⟩:=Yk D;by_cases q:k=n - 1
    · have q1:decide (k=n - 1)=true:=decide_eq_true q
      rw[q1]at c5;go_wp2
      refine Bp (results_tmp2 (fn:=Tryz.f72) (t:=6) (u:=7) rfl _ _ _) rfl ⟨_,rfl,?_,aj.trans (hb.mono (by omega))⟩;rw[<-q];exact ownsRow_le D (by omega)
    · have q1:decide (k=n - 1)=false:=decide_eq_false q
      rw[q1]at c5;obtain⟨ap,aq⟩:=HF.out k (by omega);go_wp2_with fail
      refine(HP.out k (by omega) _).mono ?_;rintro r w3 ⟨rfl,I⟩;have ag:=I.size;obtain⟨d0,d1,d2,d3,d4,d5,df⟩:=jM ((I.block _ (by omega)).trans BX.out);have aa:Below w1.heap.size w1 w3:=hb.trans (I.mono (by omega));obtain⟨av,ar⟩:=Q5 aa;have Z:=HS.out (k+1) (by omega);simp only[Int.natCast_add,Int.natCast_one]at Z;have Z:=hid Z;go_wp2_with fail
      refine(Z.out _).mono ?_;rintro r Y ⟨rfl,O⟩;have au:=O.size;have ah:w1.heap.size<Y.heap.size:=by omega
      have E4:=(O.block _ (by omega)).trans ((I.block _ (by omega)).trans BX.out);have ae:=hid E4;obtain⟨e0,e1,e2,e3,e4,e5,ef⟩:=jM E4;have ad:Below w1.heap.size w1 Y:=aa.trans (O.mono (by omega));have S:=yN D (fun g _ g2=>(I.trans (O.mono ag)).block g g2);have J:=hid S;clear E4 S D;go_wp2_with (at_builtin;refine wpList_append_own _ rfl _ _ 125 rfl (w1.heap.size+1) 131 i0 _ 7 48 Tryz.underlying125 hi an am ai rfl (by decide) (.slice ga k gc) k (Yd t total leaf k) rfl ?_ ⟨Y.heap.size+1,0,none⟩ 1 1 [.int .i64 ((k:Int)+1),.int .u64 (Qg t.fn (t.rowsOf total) leaf (k+1):Nat),.int .u64 (qu t total leaf (k+1)).frm,.int .u64 (qu t total leaf (k+1)).to_,.bool (qu t total leaf (k+1)).last,.bool (decide (k+1=n - 1)),.int .u64 ((Qg t.fn (t.rowsOf total) leaf k:Int) - ((qu t total leaf (k+1)).frm:Int))] rfl rfl ?_ (by simp[Value.oneCell']) (by unfold maxLen;omega) (by omega) (by simp;omega) ?_;exact(J.out.alloc _).alloc _;exact qgM _ _ _ _ _ _ _ _ _ _ (by simp);intro v' w5 V o _;have U5:w5.heap[Y.heap.size]? =some (Obj.cells #[.int .i64 ((k:Int)+1),.int .u64 (Qg t.fn (t.rowsOf total) leaf (k+1):Nat),.int .u64 (qu t total leaf (k+1)).frm,.int .u64 (qu t total leaf (k+1)).to_,.bool (qu t total leaf (k+1)).last,.bool (decide (k+1=n - 1))] 96 (0,0)):=(o.block Y.heap.size (by simp;omega) (fun e=>absurd ((J.out.lt _ e.symm).2) (Nat.lt_irrefl _))).trans ((Bh _ _ _ (by simp)).trans (Wn _ _));have S5:=(o.block w1.heap.size (by simp;omega) (fun e=>absurd ((J.out.lt _ e.symm).1) (by omega))).trans ((Bh _ _ _ (by simp;omega)).trans ((Bh _ _ _ ah).trans ae.out));obtain⟨u0,u1,u2,u3,u4,u5,uf⟩:=jM U5;obtain⟨s0,s1,s2,s3,s4,s5,sf⟩:=jM S5;have ak:=hid S5;clear U5 S5)
      obtain⟨g2,ab,rfl⟩:=ownsRow_form V (by omega);have hW:=HW.out (k+1) (by omega);simp only[Int.natCast_add,Int.natCast_one]at hW;have al:Below w1.heap.size w1 w5:=((ad.alloc (by omega) _).alloc (by simp;omega) _).grown o (by simp;omega) (fun j e=>by have:=(J.out.lt j e).1;omega);have ac:=ym ak.out (.int .i64 ((k:Int)+1)) (.int .u64 (Qg t.fn (t.rowsOf total) leaf (k+1):Nat)) (.int .u64 (qu t total leaf (k+1)).frm) (.int .u64 (qu t total leaf (k+1)).to_) (.bool (qu t total leaf (k+1)).last) (.bool (decide (k+1=n - 1)));refine⟨⟨k+1,by omega,rfl,?_,yn al Nl (.int .i64 ((k:Int)+1)) (.int .u64 (Qg t.fn (t.rowsOf total) leaf (k+1):Nat)) (.int .u64 (qu t total leaf (k+1)).frm) (.int .u64 (qu t total leaf (k+1)).to_) (.bool (qu t total leaf (k+1)).last) (.bool (decide (k+1=n - 1))),?_⟩,by simp[ZI];omega⟩
      · have X:w5.ownsRow (w1.heap.size+1) 131 7 (.slice (some ⟨g2,0,none⟩) (k+1) ab) (k+1) (Yd t total leaf (k+1)):=by
          show w5.ownsRow _ _ 7 _ _ (Yd t total leaf k++((qu t total leaf (k+1)).cellsL++_))
          rw[hW];exact V
        exact(ownsRow_setCell_below (ownsRow_setCell_below (ownsRow_setCell_below (ownsRow_setCell_below (ownsRow_setCell_below (ownsRow_setCell_below X (a:=⟨w1.heap.size,0,none⟩) (Nat.lt_succ_self _) _) (a:=⟨w1.heap.size,1,none⟩) (Nat.lt_succ_self _) _) (a:=⟨w1.heap.size,2,none⟩) (Nat.lt_succ_self _) _) (a:=⟨w1.heap.size,3,none⟩) (Nat.lt_succ_self _) _) (a:=⟨w1.heap.size,4,none⟩) (Nat.lt_succ_self _) _) (a:=⟨w1.heap.size,5,none⟩) (Nat.lt_succ_self _) _)
      · simp only[Int.natCast_add,Int.natCast_one]
        exact ac
theorem qgZ (t:TreeV)(total leaf:Nat)
    (S:Hid (∀w,Calls Tryz.prog 92 #[t.val,.int .u64 total,.int .i64 0,.int .u64 leaf] w fun r w'=>r= .returned (.tuple #[.agg #[.int .i64 O,.int .u64 z1,.int .u64 z2,.int .u64 I,.bool G,.bool J],.int .i64 e])/\Below w.heap.size w w')) (U:(e != 0)=true) (w:World):
    Calls Tryz.prog 72 #[t.val,.int .u64 total,.int .u64 leaf] w fun r w'=>r= .returned (.tuple #[.slice none 0 0,.int .i64 e])/\Below w.heap.size w w':=by
  unfold TreeV.val at*;go_enter Tryz.func72,Tryz.ntmps72
  go_wp2_with fail
  refine(S.out _).mono ?_;rintro r w1 ⟨rfl,o⟩;have D:=o.size;simp at D
  have q:Below w.heap.size w w1:=qs _ o;go_wp2
  refine Bp (results_tmp2 (fn:=Tryz.f72) (t:=6) (u:=7) rfl _ _ _) rfl ⟨rfl,?_⟩;first|exact q|exact q.alloc (by omega) _
theorem qf0 (t:TreeV)(total leaf:Nat)
    (S:Hid (∀w,Calls Tryz.prog 54 #[t.val,.int .u64 total,.int .i64 0,.int .u64 leaf] w fun r w'=>r= .returned (.tuple #[.agg #[.int .i64 O,.int .u64 z1,.int .u64 z2,.int .u64 I,.bool G,.bool J],.int .i64 e])/\Below w.heap.size w w')) (U:(e != 0)=true) (w:World):
    Calls Tryz.prog 74 #[t.val,.int .u64 total,.int .u64 leaf] w fun r w'=>r= .returned (.tuple #[.slice none 0 0,.int .i64 e])/\Below w.heap.size w w':=by
  unfold TreeV.val at*;go_enter Tryz.func74,Tryz.ntmps74
  go_wp2_with fail
  refine(S.out _).mono ?_;rintro r w1 ⟨rfl,o⟩;have D:=o.size;simp at D
  have q:Below w.heap.size w w1:=qs _ o;go_wp2
  refine Bp (results_tmp2 (fn:=Tryz.f74) (t:=6) (u:=7) rfl _ _ _) rfl ⟨rfl,?_⟩;first|exact q|exact q.alloc (by omega) _
theorem YH (s:SpotV):s.cellsL.length=6:=rfl
theorem z9 (t:TreeV)(total leaf:Nat): ∀k,(Yd t total leaf k).length=7*k
  | 0=>rfl
  | k+1=>by
    have:=z9 t total leaf k
    simp only[Yd,List.length_append,this,YH,List.length_cons,List.length_nil];omega
theorem Jr (t:TreeV)(total leaf:Nat): ∀k,(ZF t total leaf k).length=6*k
  | 0=>rfl
  | k+1=>by
    have:=Jr t total leaf k
    simp only[ZF,List.length_append,this,YH];omega
theorem QE (t:TreeV)(total leaf:Nat): ∀m i c,i<m->c<6->(Yd t total leaf m)[7*i+c]? =(qu t total leaf (i+1)).cellsL[c]?
  | m+1,i,c,h,hc=>by
    have o:=z9 t total leaf m;show(Yd t total leaf m++_)[7*i+c]? =_
    by_cases q:i=m
    · subst q
      rw[List.getElem?_append_right (by omega),o,show 7*i+c - 7*i=c by omega,List.getElem?_append_left (by rw[YH];exact hc)]
    · rw[List.getElem?_append_left (by omega)]
      exact QE t total leaf m i c (by omega) hc
theorem YK (t:TreeV)(total leaf:Nat): ∀m i c,i<m->c<6->(ZF t total leaf m)[6*i+c]? =(qu t total leaf i).cellsL[c]?
  | m+1,i,c,h,hc=>by
    have o:=Jr t total leaf m;show(ZF t total leaf m++_)[6*i+c]? =_
    by_cases q:i=m
    · subst q
      rw[List.getElem?_append_right (by omega),o,show 6*i+c - 6*i=c by omega]
    · rw[List.getElem?_append_left (by omega)]
      exact YK t total leaf m i c (by omega) hc
theorem ZU (t:TreeV)(total leaf:Nat): ∀m i,i<m->(Yd t total leaf m)[7*i+6]? =some (.int .u64 ((Qg t.fn (t.rowsOf total) leaf i:Int) - ((qu t total leaf (i+1)).frm:Int)))
  | m+1,i,h=>by
    have o:=z9 t total leaf m;show(Yd t total leaf m++_)[7*i+6]? =_
    by_cases q:i=m
    · subst q
      rw[List.getElem?_append_right (by omega),o,show 7*i+6 - 7*i=6 by omega,List.getElem?_append_right (by rw[YH];omega),YH];rfl
    · rw[List.getElem?_append_left (by omega)]
      exact ZU t total leaf m i (by omega)
def qg2 (t:TreeV)(total leaf:Nat):Nat->Int
  | 0=>0
  | k+1=>IntKind.u64.wrap (qg2 t total leaf k+(((qu t total leaf (k+1)).to_:Int) - ((qu t total leaf (k+1)).frm:Int) - 1))
theorem qjH (t:TreeV)(total leaf:Nat)(hn:2<=n)(Z:n<=255)
    (S:Hid (∀w,Calls Tryz.prog 72 #[t.val,.int .u64 total,.int .u64 leaf] w fun e w'=> ∃v,e= .returned (.tuple #[v,.int .i64 0])/\w'.ownsRow w.heap.size 131 7 v (n - 1) (Yd t total leaf (n - 1))/\Below w.heap.size w w'))
    (V:Hid (∀k,1<=k->k<n->((qu t total leaf k).frm:Int)+1<=((qu t total leaf k).to_:Int)/\((qu t total leaf k).to_:Int)<=18446744073709551615)) (w:World):
    Calls Tryz.prog 32 #[t.val,.int .u64 total,.int .u64 leaf] w fun e w'=>e= .returned (.tuple #[.int .u64 (qg2 t total leaf (n - 1)),.int .i64 0])/\Below w.heap.size w w':=by
  obtain⟨m,rfl⟩: ∃m,n=m+1:=⟨n - 1,by omega⟩;rw[Nat.add_sub_cancel]at S⊢;unfold TreeV.val at*;go_enter Tryz.func32,Tryz.ntmps32
  go_wp2_with fail
  refine(S.out _).mono ?_;rintro r w1 ⟨v,rfl,D,J⟩;obtain⟨g,X,rfl⟩:=ownsRow_form D (by omega);have I:=(D.lt g (by simp[Value.ownBlock])).2;have O:Below w.heap.size w w1:=qs _ J;have G:=hid D;clear D;have U:=J.size;simp at U
  go_wp2_with fail
  go_loopw [10,22] (fun s i wr=> ∃j:Nat,j<=m/\s= .int .u64 (qg2 t total leaf j)/\i= .int .i64 j/\Below w1.heap.size w1 wr) (fun _ i _=>m - (intOf i).toNat)
  case atStart=>exact⟨0,by omega,rfl,rfl,Below.refl _ _⟩
  case round=>
    obtain⟨j,hj,rfl,rfl,q⟩:=hrel;by_cases o:j<m
    · obtain⟨f1,f2⟩:=V.out (j+1) (by omega) (by omega)
      have Y:=q.size;have e0:wr.cell? ⟨g,j*7,none⟩=some (.int .i64 (qu t total leaf (j+1)).row):=by rw[show j*7=7*j+0 by omega];exact(q.cell (p:=⟨g,7*j+0,none⟩) I).trans ((G.out.cellAt (7*j+0) (by omega)).trans (QE t total leaf m j 0 o (by omega)))
      have e1:wr.cell? ⟨g,j*7+1,none⟩=some (.int .u64 (qu t total leaf (j+1)).at_):=by rw[show j*7+1=7*j+1 by omega];exact(q.cell (p:=⟨g,7*j+1,none⟩) I).trans ((G.out.cellAt (7*j+1) (by omega)).trans (QE t total leaf m j 1 o (by omega)))
      have e2:wr.cell? ⟨g,j*7+2,none⟩=some (.int .u64 (qu t total leaf (j+1)).frm):=by rw[show j*7+2=7*j+2 by omega];exact(q.cell (p:=⟨g,7*j+2,none⟩) I).trans ((G.out.cellAt (7*j+2) (by omega)).trans (QE t total leaf m j 2 o (by omega)))
      have e3:wr.cell? ⟨g,j*7+3,none⟩=some (.int .u64 (qu t total leaf (j+1)).to_):=by rw[show j*7+3=7*j+3 by omega];exact(q.cell (p:=⟨g,7*j+3,none⟩) I).trans ((G.out.cellAt (7*j+3) (by omega)).trans (QE t total leaf m j 3 o (by omega)))
      have e4:wr.cell? ⟨g,j*7+4,none⟩=some (.bool (qu t total leaf (j+1)).last):=by rw[show j*7+4=7*j+4 by omega];exact(q.cell (p:=⟨g,7*j+4,none⟩) I).trans ((G.out.cellAt (7*j+4) (by omega)).trans (QE t total leaf m j 4 o (by omega)))
      have e5:wr.cell? ⟨g,j*7+5,none⟩=some (.bool (qu t total leaf (j+1)).root):=by rw[show j*7+5=7*j+5 by omega];exact(q.cell (p:=⟨g,7*j+5,none⟩) I).trans ((G.out.cellAt (7*j+5) (by omega)).trans (QE t total leaf m j 5 o (by omega)))
      have e6:wr.cell? ⟨g,j*7+6,none⟩=some (.int .u64 ((Qg t.fn (t.rowsOf total) leaf j:Int) - ((qu t total leaf (j+1)).frm:Int))):=by rw[show j*7+6=7*j+6 by omega];exact(q.cell (p:=⟨g,7*j+6,none⟩) I).trans ((G.out.cellAt (7*j+6) (by omega)).trans (ZU t total leaf m j o))
      go_wp2
      exact⟨⟨j+1,by omega,rfl,by simp,q.alloc (by omega) _⟩,by simp[intOf];omega⟩
    · go_wp2
      refine Bp (results_tmp2 (fn:=Tryz.f32) (t:=6) (u:=7) rfl _ _ _) rfl ⟨by rw[show m=j by omega];rfl,O.trans (q.mono (by omega))⟩
theorem qiq (t:TreeV)(total leaf:Nat)
    (D:Hid (∀w,Calls Tryz.prog 72 #[t.val,.int .u64 total,.int .u64 leaf] w fun r w'=>r= .returned (.tuple #[.slice none 0 0,.int .i64 e])/\Below w.heap.size w w')) (w:World):
    Calls Tryz.prog 32 #[t.val,.int .u64 total,.int .u64 leaf] w fun r w'=>r= .returned (.tuple #[.int .u64 0,.int .i64 e])/\Below w.heap.size w w':=by
  unfold TreeV.val at*;go_enter Tryz.func32,Tryz.ntmps32
  go_wp2_with fail
  refine(D.out _).mono ?_;rintro r w1 ⟨rfl,q⟩;have o:Below w.heap.size w w1:=qs _ q;go_wp2_with fail
  go_loopw [10,22] (fun s i wr=>s= .int .u64 0/\i= .int .i64 0/\w1=wr) (fun _ _ _=>0)
  case atStart=>exact⟨rfl,rfl,rfl⟩
  case round=>
    obtain⟨rfl,rfl,rfl⟩:=hrel;go_wp2
    exact Bp (results_tmp2 (fn:=Tryz.f32) (t:=6) (u:=7) rfl _ _ _) rfl ⟨rfl,o⟩
end Go.Proofs.YtahenngmaoellaaGreat
namespace Go.Proofs.YtahenngmaoellaaGreat
open Go.ChangeShapes Go.WideShapes Go.ChangeAt Go.RowKit Go.Joins Go.Shelf Go.Maps
open Go.Lib (hid)
variable{f l total row at_ p k:Nat}{L:List Nat}
theorem ZV (h:1<=row/\nth L row=1):QZ f l total L row at_=⟨row,at_,0,nth L (row - 1),decide (at_=nth L row - 1),true⟩:=by
  unfold QZ;rw[if_pos h]
theorem Ys (h: ¬(1<=row/\nth L row=1))(o:at_=nth L row - 1):QZ f l total L row at_=⟨row,at_,at_*(if row=0 then l else f),if row=0 then total else nth L (row - 1),true,false⟩:=by
  unfold QZ;rw[if_neg h,if_pos o]
theorem YT (h: ¬(1<=row/\nth L row=1))(o: ¬at_=nth L row - 1):QZ f l total L row at_=⟨row,at_,at_*(if row=0 then l else f),(at_+1)*(if row=0 then l else f),false,false⟩:=by
  unfold QZ;rw[if_neg h,if_neg o]
theorem qaO (h:RowsIs f p (lvs total l) L)(O:k+1<L.length)(J:at_<nth L k):
    (if nth L (k+1)=1 then 0 else at_/f)<nth L (k+1)/\(QZ f l total L (k+1) (if nth L (k+1)=1 then 0 else at_/f)).frm<=at_/\at_<(QZ f l total L (k+1) (if nth L (k+1)=1 then 0 else at_/f)).to_:=by
  by_cases o:nth L (k+1)=1
  · rw[if_pos o,ZV ⟨by omega,o⟩]
    refine⟨by omega,Nat.zero_le _,?_⟩;rw[Nat.add_sub_cancel];exact J
  · rw[if_neg o]
    obtain⟨e,U⟩:=h.next_or O o;have D:0<f:=by omega
    have d1:=Nat.div_add_mod at_ f;have d2:=Nat.mod_lt at_ D;have S:at_/f<qP (nth L k) f:=by
      rcases Nat.lt_or_ge (at_/f) (qP (nth L k) f)with q|q
      · exact q
      · have:=Jj (by omega) q
        rw[Nat.mul_comm]at this;omega
    have r: ¬(1<=k+1/\nth L (k+1)=1):=fun h=>o h.2
    have G:at_/f*f<=at_:=Nat.div_mul_le_self _ _;refine⟨by rw[e];exact S,?_⟩;by_cases I:at_/f=nth L (k+1) - 1
    · rw[Ys r I]
      simp only[Nat.succ_ne_zero,if_false,Nat.add_sub_cancel];exact⟨G,J⟩
    · rw[YT r I]
      simp only[Nat.succ_ne_zero,if_false];refine⟨G,?_⟩;rw[Nat.add_mul,Nat.one_mul,Nat.mul_comm (at_/f) f];omega
theorem zS (r:1<=l)(h:RowsIs f p (lvs total l) L){A:Nat}(D:k<L.length)(I:1<=k)(G:A<nth L k):(QZ f l total L k A).to_<=nth L (k - 1):=by
  by_cases o:1<=k/\nth L k=1
  · rw[ZV o];exact Nat.le_refl _
  · obtain⟨b1,b2,J⟩:=jq r h D G o
    rw[if_neg (show ¬k=0 by omega),if_neg (show ¬k=0 by omega)]at b1 b2;by_cases q:A=nth L k - 1
    · rw[Ys o q]
      show(if k=0 then total else nth L (k - 1))<=_
      rw[if_neg (by omega)];exact Nat.le_refl _
    · rw[YT o q]
      show(A+1)*(if k=0 then l else f)<=_
      rw[if_neg (by omega)];exact b2 q
def TreeV.sizeR (t:TreeV)(total leaf:Nat):Int:=if t.spotE total 0 leaf≠0 then 0 else qg2 t total leaf ((t.rowsOf total).length - 1)
structure WayFacts (t:TreeV)(total leaf n:Nat):Prop where
  two:2<=n
  most:n<=255
  cells: ∀k,k<n->(qu t total leaf k).cellsL=[.int .i64 k,.int .u64 (Qg t.fn (t.rowsOf total) leaf k:Nat),.int .u64 (qu t total leaf k).frm,.int .u64 (qu t total leaf k).to_,.bool (qu t total leaf k).last,.bool (decide (k=n - 1))]
  child: ∀k,k+1<n->((qu t total leaf (k+1)).frm:Int)<=(Qg t.fn (t.rowsOf total) leaf k:Int)/\(Qg t.fn (t.rowsOf total) leaf k:Int)<=18446744073709551615
  wide: ∀k,1<=k->k<n->((qu t total leaf k).frm:Int)+1<=((qu t total leaf k).to_:Int)/\((qu t total leaf k).to_:Int)<=18446744073709551615
  par: ∀k,k+1<n->t.parE total k (Qg t.fn (t.rowsOf total) leaf k)=0/\t.parV total k (Qg t.fn (t.rowsOf total) leaf k)=Qg t.fn (t.rowsOf total) leaf (k+1)
  spot: ∀k,k<n->t.spotE total k (Qg t.fn (t.rowsOf total) leaf k)=0/\(t.spotR total k (Qg t.fn (t.rowsOf total) leaf k)).val= .agg #[.int .i64 k,.int .u64 (Qg t.fn (t.rowsOf total) leaf k:Nat),.int .u64 (qu t total leaf k).frm,.int .u64 (qu t total leaf k).to_,.bool (qu t total leaf k).last,.bool (decide (k=n - 1))]
  at_: ∀k,k<n->(Qg t.fn (t.rowsOf total) leaf k:Int)<=18446744073709551615
theorem Yq {t:TreeV}(hl:0<=t.l/\t.l<=4294967295)(ht:(total:Int)<=18446744073709551615){leaf:Nat}(h:t.spotE total 0 leaf=0):WayFacts t total leaf (t.rowsOf total).length:=by
  have r:t.err total=0:=by
    by_cases Y:t.err total=0
    · exact Y
    · unfold TreeV.spotE at h;rw[if_pos Y]at h;exact absurd h Y
  have o:leaf<nth (t.rowsOf total) 0:=by
    unfold TreeV.spotE at h;rw[if_neg (by simp[r])]at h;by_cases U:t.there total 0 leaf
    · exact U.2.2
    · rw[if_neg U]at h;omega
  obtain⟨G,ab,ac,h0⟩:=Qw hl r;have ad:=qn h0;have D:=qG r;have hm:=D.most;have ae:(t.pn:Int)<=255:=by unfold TreeV.pn;omega
  have Z: ∀k,k<(t.rowsOf total).length->(Qg t.fn (t.rowsOf total) leaf k:Int)<=18446744073709551615:=fun k q=>by
    have:=Yc D o k q
    have:=zk G ht D k q
    omega
  have S: ∀k,k+1<(t.rowsOf total).length->(qu t total leaf (k+1)).frm<=Qg t.fn (t.rowsOf total) leaf k/\Qg t.fn (t.rowsOf total) leaf k<(qu t total leaf (k+1)).to_:=fun k q=>
    (qaO (l:=t.ln) D q (Yc D o k (by omega))).2
  refine⟨D.len,by omega,fun k q=>?_,fun k q=>?_,fun k aa q=>?_,fun k q=>?_,fun k q=>?_,Z⟩
  · obtain⟨-, -,O,J,I, -⟩:=jh r o q
    unfold SpotV.cellsL;rw[O,J,I]
  · have:=(S k q).1
    have:=Z k (by omega)
    omega
  · obtain⟨j,rfl⟩: ∃j,k=j+1:=⟨k - 1,by omega⟩
    have h1:=S j q;have h2:(qu t total leaf (j+1)).to_<=nth (t.rowsOf total) j:=zS G D q (by omega) (Yc D o _ q);have h3:=zk G ht D j (by omega);omega
  · obtain⟨V,X,O,J,I,r4⟩:=jh r o (show k<(t.rowsOf total).length by omega)
    refine⟨?_,r4 (by omega)⟩;unfold TreeV.parE;rw[if_neg (by simp[V]),X,I,if_neg (by simp;omega)]
  · obtain⟨V,X,O,J,I, -⟩:=jh r o q
    refine⟨V,?_⟩;rw[X,yY,O,J,I]
theorem qez (t:TreeV)(r:0<=t.l/\t.l<=4294967295)(total:Nat)(D:(total:Int)<=18446744073709551615)(leaf:Nat)(w:World):
    Calls Tryz.prog 32 #[t.val,.int .u64 total,.int .u64 leaf] w fun e w'=>e= .returned (.tuple #[.int .u64 (t.sizeR total leaf),.int .i64 (t.spotE total 0 leaf)])/\Below w.heap.size w w':=by
  unfold TreeV.sizeR;by_cases q:t.spotE total 0 leaf=0
  · rw[if_neg (by simp[q]),q]
    have F:=Yq r D q;refine qjH t total leaf F.two F.most (hid fun w=>qig t total leaf F.two F.most (hid fun k o w=>?_) (hid fun k o w=>?_) (hid F.cells) (hid F.child) w) (hid F.wide) w
    · have:=zv t r total D (k:Nat) (Qg t.fn (t.rowsOf total) leaf k) w
      rw[(F.spot k o).1,(F.spot k o).2]at this;exact this
    · have:=qb7 t r total D (k:Nat) (Qg t.fn (t.rowsOf total) leaf k) (F.at_ k (by omega)) w
      rw[(F.par k o).1,(F.par k o).2]at this;exact this
  · rw[if_pos q]
    have G:=zv t r total D 0 leaf;simp only[yY]at G;exact qiq t total leaf (hid fun w=>qgZ t total leaf (hid G) (by rw[bne_iff_ne];exact q) w) w

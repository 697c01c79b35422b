/- The walk of shape.Spot, where the tree may be. No condition. -/
import Derived.Test.YtahenngmaoellaaGreatC28
import Derived.Sort.QuietIn
import Derived.BigRegionIn
import Derived.Test.YtahenngmaoellaaGreatC29
import Derived.Test.YtahenngmaoellaaGreatC06
import Derived.Deep.RegionHeld3
set_option linter.all false
set_option maxRecDepth 100000
set_option maxHeartbeats 8000000
namespace Go.Proofs.YtahenngmaoellaaGreat
open Go.ChangeShapes Go.WideShapes Go.ChangeAt Go.RowKit Go.Joins Go.Shelf Go.Maps
open Go.Lib (hid)
attribute [local go_sem] Oper.semAt_some
theorem YN {G X:Prop}(h:G→X)(g:G):X:=h g
theorem qhR (t:TreeV)(hl:0≤t.l∧t.l≤4294967295)(total:Nat)(ht:(total:Int)≤18446744073709551615)(h:t.err total=0)(row:Int)(at_:Nat)(w:World):
    Calls Tryz.prog 92 #[t.val,.int .u64 total,.int .i64 row,.int .u64 at_] w fun e w'=>e= .returned (.tuple #[(if t.there total row at_ then(t.spot total row.toNat at_).val else SpotV.zero.val),.int .i64 (if t.there total row at_ then 0 else 6)])∧Below w.heap.size w w':=by
  have hv:=QU h;obtain⟨L,hL⟩:=Ex (t.rowsOf total);obtain⟨hl1,hl2,hln, -⟩:=Qo hl h;have hvf:=qk hv;have hfn:t.f=(t.fn:Int):=by unfold TreeV.fn;omega
  have hfb:(t.fn:Int)≤18446744073709551615:=by omega
  have hRI:RowsIs t.fn t.pn (lvs total t.ln) L:=by rw[←hL];exact qA h
  have hLe:=YK hl1 ht hRI;have HF:=hid hfn;have HLn:=hid hln;clear hfn hln hvf;have H:=hid h;clear h;refine(callsIn_wide (n:=9)).1 ?_;refine callsIn_of_wp_marks Tryz.func92 rfl trivial ?_ rfl;unfold TreeV.val;simp only[Tryz.ntmps92,List.size_toArray,List.length_cons,List.length_nil,Nat.reduceAdd,Nat.reduceSub,Array.replicate_succ,Array.replicate_zero,List.push_toArray,List.append_toArray,List.nil_append,List.cons_append];gi_wp2_with fail
  refine qaw ?_;gi_wp2_with fail
  refine⟨trivial,?_⟩;refine(callsIn_wide.2 (qaQ t hl total ht _)).mono ?_;rintro e w1 ⟨rfl,hb1⟩;rw[H.out];obtain⟨hc,hf⟩:=yK hb1;have hs1:=hb1.size;simp at hs1
  have k0:w.heap.size<w1.heap.size:=by omega
  have k1:w.heap.size+1<w1.heap.size:=by omega
  have k2:w.heap.size+1+1<w1.heap.size:=by omega
  have k3:w.heap.size+1+1+1<w1.heap.size:=by omega
  have k4:w.heap.size+1+1+1+1<w1.heap.size:=by omega
  have k5:w.heap.size+1+1+1+1+1<w1.heap.size:=by omega
  have hBw:Below w.heap.size w w1:=by
    refine Below.trans ?_ (hb1.mono (by simp;omega));repeat(first|exact Below.refl _ _|(refine Below.alloc ?_ (by simp;omega) _)|(refine Below.alloc ?_ (by simp) _))
  gi_wp2_with fail
  refine wpIn_label ?_;gi_wp2_with fail
  refine⟨trivial,?_⟩;refine(callsIn_wide.2 (qht t total _)).mono ?_;rintro e w2 ⟨rfl,rfl⟩;gi_wp2_with fail
  have r0f:w1.cell? ⟨w.heap.size,2,none⟩=some (.int .i64 t.f):=(hc _ _ (by simp;omega)).trans (by simp[go_sem]);have r0l:w1.cell? ⟨w.heap.size,4,none⟩=some (.int .u32 t.l):=(hc _ _ (by simp;omega)).trans (by simp[go_sem]);have r1:w1.cell? ⟨w.heap.size+1,0,none⟩=some (.int .u64 total):=(hc _ _ (by simp)).trans (by simp[go_sem]);have r2:w1.cell? ⟨w.heap.size+1+1,0,none⟩=some (.int .i64 row):=(hc _ _ (by simp)).trans (by simp[go_sem]);have r3:w1.cell? ⟨w.heap.size+1+1+1,0,none⟩=some (.int .u64 at_):=(hc _ _ (by simp)).trans (by simp[go_sem]);have b4:w1.heap[w.heap.size+1+1+1+1]? =some (Obj.cells #[.int .i64 0,.int .u64 0,.int .u64 0,.int .u64 0,.bool false,.bool false] 96 (0,0)):=by
    rw[hb1.block _ (by simp)];rw[Bh _ _ _ (by simp)];exact qD _ _ (by simp)
  have b5:w1.heap[w.heap.size+1+1+1+1+1]? =some (Obj.cells #[.int .i64 0] 30 (0,0)):=by
    rw[hb1.block _ (by simp)];exact qD _ _ (by simp)
  have hbx:(((w1.alloc (.cells #[.int .u64 0] 44)).alloc (.cells t.arr 26)).alloc (.cells #[.int .u64 total] 44)).heap[w1.heap.size]? =some (Obj.cells #[.int .u64 0] 44 (0,0)):=by
    rw[Bh _ _ _ (by simp;omega),Bh _ _ _ (by simp)];exact Wn _ _
  have hT2:(((w1.alloc (.cells #[.int .u64 0] 44)).alloc (.cells t.arr 26)).alloc (.cells #[.int .u64 total] 44)).heap[w1.heap.size+1]? =some (Obj.cells t.arr 26 (0,0)):=by
    rw[Bh _ _ _ (by simp)];exact qD _ _ (by simp)
  have hN2:(((w1.alloc (.cells #[.int .u64 0] 44)).alloc (.cells t.arr 26)).alloc (.cells #[.int .u64 total] 44)).heap[w1.heap.size+1+1]? =some (Obj.cells #[.int .u64 total] 44 (0,0)):=
    qD _ _ (by simp)
  have hB0:Below w1.heap.size w1 (((w1.alloc (.cells #[.int .u64 0] 44)).alloc (.cells t.arr 26)).alloc (.cells #[.int .u64 total] 44)):=(((Below.refl _ w1).alloc Nl _).alloc (by simp) _).alloc (by simp;omega) _;have hst:=qeZ (9 - 1) t hl total ht hv _ _ _ hT2 hN2 L hL;refine wpIn_rangeFunc_ownG rfl (by omega) (gf:=152) (lb:= #[.pointer (some ⟨w1.heap.size+1,0,none⟩),.pointer (some ⟨w1.heap.size+1+1,0,none⟩)]) rfl trivial (enters_of Tryz.func152 (by kernel_rfl) rfl)
    hst (fun h k=>h.trans k) (fun W l o o' _ hl ho _=>KpT.putObj W l o o' hl ho) Br (fun _=>rfl)
    (SpotI w1 L row) (SpotX w t total L row at_)
    (SpotI.own (by simp;omega)) (fun c=>SpotX.own (by simp;omega))
    ⟨fun k hk=>(by cases hk),hbx,hB0⟩
    (fun x=> { tmps:= #[.agg #[.int .i64 t.k,.int .i64 t.d,.int .i64 t.f,.int .i64 t.p,.int .u32 t.l,.int .i64 t.i,.slice t.ka t.kl t.kc,.slice t.sa t.sl t.sc,.slice t.pa t.pl t.pc],.int .u64 total,.int .i64 row,.int .u64 at_,.pointer (some ⟨w.heap.size,0,none⟩),.pointer (some ⟨w.heap.size+1,0,none⟩),.pointer (some ⟨w.heap.size+1+1,0,none⟩),.pointer (some ⟨w.heap.size+1+1+1,0,none⟩),.pointer (some ⟨w.heap.size+1+1+1+1,0,none⟩),.pointer (some ⟨w.heap.size+1+1+1+1+1,0,none⟩),.int .i64 0,
      .pointer (some ⟨w1.heap.size,0,none⟩),.int .i64 (x.1:Nat),.int .u64 (nth L x.1:Nat),undef,undef,undef,.agg #[.int .i64 t.k,.int .i64 t.d,.int .i64 t.f,.int .i64 t.p,.int .u32 t.l,.int .i64 t.i,.slice t.ka t.kl t.kc,.slice t.sa t.sl t.sc,.slice t.pa t.pl t.pc],.int .u64 total,.int .i64 0,.int .i64 0,.bool false,undef,undef,.agg #[.int .i64 t.k,.int .i64 t.d,.int .i64 t.f,.int .i64 t.p,.int .u32 t.l,.int .i64 t.i,.slice t.ka t.kl t.kc,.slice t.sa t.sl t.sc,.slice t.pa t.pl t.pc],.int .u64 total,
      .func (.func 152) #[] #[.pointer (some ⟨w1.heap.size+1,0,none⟩),.pointer (some ⟨w1.heap.size+1+1,0,none⟩)],.int .i64 (x.1:Nat),.int .u64 (nth L x.1:Nat),undef,undef,undef,undef,undef,undef,undef,undef,undef,undef,undef,undef,undef,undef,undef,undef,undef,undef,undef,undef,undef,undef,undef,undef,undef,undef,undef,undef,undef,undef,undef,undef,undef,undef,undef,undef,undef,undef,undef,undef,undef,undef,undef,undef,undef,undef,undef,undef,undef,undef,undef,undef,undef,undef,undef,undef,undef,undef,undef,undef,undef],defers:=[] }) ?assign ?body ?done ?stop
  case assign=>
    intro l x W K hK;simp only[qiD];gi_wp2
    exact hK
  case body=>
    rintro l pre x W ⟨hlt,hbw,hB⟩ -
    have hs2:=hB.size;have gf:W.cell? ⟨w.heap.size,2,none⟩=some (.int .i64 t.fn):=by rw[←HF.out];exact(hB.cell (p:=⟨w.heap.size,2,none⟩) k0).trans r0f
    have gl:W.cell? ⟨w.heap.size,4,none⟩=some (.int .u32 t.ln):=by rw[←HLn.out];exact(hB.cell (p:=⟨w.heap.size,4,none⟩) k0).trans r0l
    have g1:=(hB.cell (p:=⟨w.heap.size+1,0,none⟩) k1).trans r1;have g2:=(hB.cell (p:=⟨w.heap.size+1+1,0,none⟩) k2).trans r2;have g3:=(hB.cell (p:=⟨w.heap.size+1+1+1,0,none⟩) k3).trans r3;have d4:=(hB.block _ k4).trans b4;have d5:=(hB.block _ k5).trans b5;have gb:=qa hbw 0;have fb:=unfrozen_of_block hbw 0;have f0:=unfrozen_of_block d4 0;have f1:=unfrozen_of_block d4 1;have f2:=unfrozen_of_block d4 2;have f3:=unfrozen_of_block d4 3;have f4:=unfrozen_of_block d4 4;have f5:=unfrozen_of_block d4 5;have f6:=unfrozen_of_block d5 0;have c0:=qa d4 0;have c1:=qa d4 1;have c2:=qa d4 2;have c3:=qa d4 3;have c4:=qa d4 4;have c5:=qa d4 5;have c6:=qa d5 0;simp only[List.getElem?_toArray,List.getElem?_cons_zero,List.getElem?_cons_succ]at c0 c1 c2 c3 c4 c5 c6 gb;have m0:w.heap.size<W.heap.size:=by omega
    have m1:w.heap.size+1<W.heap.size:=by omega
    have m2:w.heap.size+1+1<W.heap.size:=by omega
    have m3:w.heap.size+1+1+1<W.heap.size:=by omega
    have m4:w.heap.size+1+1+1+1<W.heap.size:=by omega
    have m5:w.heap.size+1+1+1+1+1<W.heap.size:=by omega
    have m6:w1.heap.size<W.heap.size:=(Ai hbw).1;have HBw:=hid (hBw.trans (hB.mono (by omega)));have HLT:=hid hlt;have HB:=hid hB;have HBW:=hid hbw;have D4:=hid d4;have D5:=hid d5;clear hlt hB hbw d4 d5;have hx2:(nth L x.1:Int)≤18446744073709551615:=hLe x.1 x.2;by_cases hA:(x.1:Int)<row
    · gi_wp2
      go_goals
      exact⟨(KeepsOthers.setCell _ _ _).from _,KpT.setCell (p:=⟨w1.heap.size,0,none⟩) HBW.out (by decide) (by decide) _,fun k hk=>by
        rcases List.mem_append.1 hk with h|h
        · exact HLT.out k h
        · rw[List.mem_singleton.1 h];exact hA,by rw[qat];exact block_setCell HBW.out _,HB.out.setCell Nl _⟩
    · by_cases hC:row<0
      · gi_wp2
        go_goals
        exact⟨KeepsFrom.refl _ _,⟨pre,x,rfl,HLT.out,by omega,.inr ⟨rfl,.inl hC,D4.out,D5.out⟩⟩,HBw.out⟩
      · have q0:(row<0)=False:=eq_false (by omega)
        by_cases hC2:(nth L x.1:Nat)≤at_
        · have q1:((nth L x.1:Int)≤(at_:Int))=True:=eq_true (by omega)
          gi_wp2
          go_goals
          exact⟨KeepsFrom.refl _ _,⟨pre,x,rfl,HLT.out,by omega,.inr ⟨rfl,.inr hC2,D4.out,D5.out⟩⟩,HBw.out⟩
        · have q1:((nth L x.1:Int)≤(at_:Int))=False:=eq_false (by omega)
          have z0:0≤row:=by omega
          have z1:row≤(x.1:Nat):=by omega
          have z2:at_<nth L x.1:=by omega
          by_cases hR:1≤row
          · have z3:row.toNat≠0:=by omega
            have q2:(1≤row)=True:=eq_true hR;by_cases hN:nth L x.1=1
            · have q3:((nth L x.1:Int)==1)=true:=by rw[beq_iff_eq];omega
              have HN:=hid hN;clear hN;gi_wp2
              apply YN
              · intro hk
                gi_region
                all_goals exact hk
              gi_wp2
              apply YN
              · intro hk
                gi_region
                all_goals exact hk
              gi_wp2
              go_goals
              exact RetP.drew (RetP.drew (ZH HLT.out z0 z1 z2 HBw.out D4.out D5.out (by unfold ZJ;rw[Int.toNat_of_nonneg z0,if_pos ⟨Nat.pos_of_ne_zero z3,HN.out⟩])))
            · have q3:((nth L x.1:Int)==1)=false:=by rw[beq_eq_false_iff_ne];omega
              by_cases hZ:(at_:Int)=(nth L x.1:Int) - 1
              · have q4:((at_:Int)==(nth L x.1:Int) - 1)=true:=by rw[beq_iff_eq];exact hZ
                have HZ:=hid hZ;clear hZ;gi_wp2
                apply YN
                · intro hk
                  gi_region
                  all_goals exact hk
                gi_wp2
                apply YN
                · intro hk
                  gi_region
                  all_goals exact hk
                gi_wp2
                go_goals
                exact RetP.drew (RetP.drew (ZH HLT.out z0 z1 z2 HBw.out D4.out D5.out (by unfold ZJ;rw[Int.toNat_of_nonneg z0,if_neg (fun h=>hN h.2),if_pos HZ.out,if_neg z3,if_neg z3])))
              · have q4:((at_:Int)==(nth L x.1:Int) - 1)=false:=by rw[beq_eq_false_iff_ne];exact hZ
                have HZ:=hid hZ;clear hZ;gi_wp2
                apply YN
                · intro hk
                  gi_region
                  all_goals exact hk
                gi_wp2
                apply YN
                · intro hk
                  gi_region
                  all_goals exact hk
                gi_wp2
                apply YN
                · intro hk
                  refine Je (F:=Fence.wide) (by kernel_rfl) (by kernel_rfl) ?_;refine wpAnyIn_take (i:=1) (v:=?_) rfl rfl (by kernel_rfl) (by kernel_rfl) (by kernel_rfl) (fun _ _ _ h=>h) ⟨Or.inl ⟨by rfl,?_⟩,fun _=>rfl⟩ ?_;rotate_left
                  · (intro w;go_simp;try with_reducible rfl)
                  refine wpAnyIn_take (i:=5) (v:=?_) rfl rfl (by kernel_rfl) (by kernel_rfl) (by kernel_rfl) (fun _ _ _ h=>h) ⟨Or.inl ⟨by rfl,?_⟩,fun _=>rfl⟩ ?_;rotate_left
                  · (intro w;go_simp;try with_reducible rfl)
                  refine wpAnyIn_ready (rs:=[0,3]) (by kernel_rfl) (by simp) ?_;refine AllReadyIn.cons rfl (fun K hK=>?_) ?_
                  · go_simp
                    refine hK _ _ ?_;clear hK K;refine wpAnyIn_take (i:=2) (v:=?_) rfl rfl (by kernel_rfl) (by kernel_rfl) (by kernel_rfl) (fun _ _ _ h=>h) ⟨Or.inl ⟨by rfl,?_⟩,fun _=>rfl⟩ ?_;rotate_left
                    · (intro w;go_simp;try with_reducible rfl)
                    refine wpAnyIn_take (i:=7) (v:=?_) rfl rfl (by kernel_rfl) (by kernel_rfl) (by kernel_rfl) (fun _ _ _ h=>h) ⟨Or.inl ⟨by rfl,?_⟩,fun _=>rfl⟩ ?_;rotate_left
                    · (intro w;go_simp;try with_reducible rfl)
                    refine wpAnyIn_ready (rs:=[3,8]) (by kernel_rfl) (by simp) ?_;refine AllReadyIn.cons rfl (fun K hK=>?_) ?_
                    · go_simp
                      refine hK _ _ ?_;clear hK K;refine wpAnyIn_take (i:=4) (v:=?_) rfl rfl (by kernel_rfl) (by kernel_rfl) (by kernel_rfl) (fun _ _ _ h=>h) ⟨Or.inl ⟨by rfl,?_⟩,fun _=>rfl⟩ ?_;rotate_left
                      · (intro w;go_simp;try with_reducible rfl)
                      refine wpAnyIn_take (i:=6) (v:=?_) rfl rfl (by kernel_rfl) (by kernel_rfl) (by kernel_rfl) (fun _ _ _ h=>h) ⟨Or.inl ⟨by rfl,?_⟩,fun _=>rfl⟩ ?_;rotate_left
                      · (intro w;go_simp;try with_reducible rfl)
                      refine wpAnyIn_ready (rs:=[8]) (by kernel_rfl) (by simp) ?_;refine AllReadyIn.cons rfl (fun K hK=>?_) ?_
                      · go_simp
                        refine hK _ _ ?_;clear hK K;refine wpAnyIn_take (i:=9) (v:=?_) rfl rfl (by kernel_rfl) (by kernel_rfl) (by kernel_rfl) (fun _ _ _ h=>h) ⟨Or.inl ⟨by rfl,?_⟩,fun _=>rfl⟩ ?_;rotate_left
                        · (intro w;go_simp;try with_reducible rfl)
                        refine wpAnyIn_ready (rs:=[10]) (by kernel_rfl) (by simp) ?_;refine AllReadyIn.cons rfl (fun K hK=>?_) ?_
                        · go_simp
                          refine hK _ _ ?_;clear hK K;refine wpAnyIn_done (by kernel_rfl) ?_ _;exact hk
                        exact AllReadyIn.nil
                      exact AllReadyIn.nil
                    refine AllReadyIn.cons rfl (fun K hK=>?_) ?_
                    · go_simp
                      refine hK _ _ ?_;clear hK K;refine wpAnyIn_ready (rs:=[3]) (by kernel_rfl) (by simp) ?_;refine AllReadyIn.cons rfl (fun K hK=>?_) ?_
                      · go_simp
                        refine hK _ _ ?_;clear hK K;refine wpAnyIn_take (i:=4) (v:=?_) rfl rfl (by kernel_rfl) (by kernel_rfl) (by kernel_rfl) (fun _ _ _ h=>h) ⟨Or.inl ⟨by rfl,?_⟩,fun _=>rfl⟩ ?_;rotate_left
                        · (intro w;go_simp;try with_reducible rfl)
                        refine wpAnyIn_take (i:=6) (v:=?_) rfl rfl (by kernel_rfl) (by kernel_rfl) (by kernel_rfl) (fun _ _ _ h=>h) ⟨Or.inl ⟨by rfl,?_⟩,fun _=>rfl⟩ ?_;rotate_left
                        · (intro w;go_simp;try with_reducible rfl)
                        refine wpAnyIn_take (i:=9) (v:=?_) rfl rfl (by kernel_rfl) (by kernel_rfl) (by kernel_rfl) (fun _ _ _ h=>h) ⟨Or.inl ⟨by rfl,?_⟩,fun _=>rfl⟩ ?_;rotate_left
                        · (intro w;go_simp;try with_reducible rfl)
                        refine wpAnyIn_ready (rs:=[10]) (by kernel_rfl) (by simp) ?_;refine AllReadyIn.cons rfl (fun K hK=>?_) ?_
                        · go_simp
                          refine hK _ _ ?_;clear hK K;refine wpAnyIn_done (by kernel_rfl) ?_ _;exact hk
                        exact AllReadyIn.nil
                      exact AllReadyIn.nil
                    exact AllReadyIn.nil
                  refine AllReadyIn.cons rfl (fun K hK=>?_) ?_
                  · go_simp
                    refine hK _ _ ?_;clear hK K;refine wpAnyIn_take (i:=4) (v:=?_) rfl rfl (by kernel_rfl) (by kernel_rfl) (by kernel_rfl) (fun _ _ _ h=>h) ⟨Or.inl ⟨by rfl,?_⟩,fun _=>rfl⟩ ?_;rotate_left
                    · (intro w;go_simp;try with_reducible rfl)
                    refine wpAnyIn_take (i:=6) (v:=?_) rfl rfl (by kernel_rfl) (by kernel_rfl) (by kernel_rfl) (fun _ _ _ h=>h) ⟨Or.inl ⟨by rfl,?_⟩,fun _=>rfl⟩ ?_;rotate_left
                    · (intro w;go_simp;try with_reducible rfl)
                    refine wpAnyIn_ready (rs:=[0]) (by kernel_rfl) (by simp) ?_;refine AllReadyIn.cons rfl (fun K hK=>?_) ?_
                    · go_simp
                      refine hK _ _ ?_;clear hK K;refine wpAnyIn_take (i:=2) (v:=?_) rfl rfl (by kernel_rfl) (by kernel_rfl) (by kernel_rfl) (fun _ _ _ h=>h) ⟨Or.inl ⟨by rfl,?_⟩,fun _=>rfl⟩ ?_;rotate_left
                      · (intro w;go_simp;try with_reducible rfl)
                      refine wpAnyIn_take (i:=7) (v:=?_) rfl rfl (by kernel_rfl) (by kernel_rfl) (by kernel_rfl) (fun _ _ _ h=>h) ⟨Or.inl ⟨by rfl,?_⟩,fun _=>rfl⟩ ?_;rotate_left
                      · (intro w;go_simp;try with_reducible rfl)
                      refine wpAnyIn_ready (rs:=[8]) (by kernel_rfl) (by simp) ?_;refine AllReadyIn.cons rfl (fun K hK=>?_) ?_
                      · go_simp
                        refine hK _ _ ?_;clear hK K;refine wpAnyIn_take (i:=9) (v:=?_) rfl rfl (by kernel_rfl) (by kernel_rfl) (by kernel_rfl) (fun _ _ _ h=>h) ⟨Or.inl ⟨by rfl,?_⟩,fun _=>rfl⟩ ?_;rotate_left
                        · (intro w;go_simp;try with_reducible rfl)
                        refine wpAnyIn_ready (rs:=[10]) (by kernel_rfl) (by simp) ?_;refine AllReadyIn.cons rfl (fun K hK=>?_) ?_
                        · go_simp
                          refine hK _ _ ?_;clear hK K;refine wpAnyIn_done (by kernel_rfl) ?_ _;exact hk
                        exact AllReadyIn.nil
                      exact AllReadyIn.nil
                    exact AllReadyIn.nil
                  exact AllReadyIn.nil
                gi_wp2
                go_goals
                exact RetP.drew (RetP.drew (RetP.drew (ZH HLT.out z0 z1 z2 HBw.out D4.out D5.out (by unfold ZJ;rw[Int.toNat_of_nonneg z0,if_neg (fun h=>hN h.2),if_neg HZ.out,if_neg z3]))))
          · have z4:row.toNat=0:=by omega
            have q2:(1≤row)=False:=eq_false hR;by_cases hZ:(at_:Int)=(nth L x.1:Int) - 1
            · have q4:((at_:Int)==(nth L x.1:Int) - 1)=true:=by rw[beq_iff_eq];exact hZ
              have HZ:=hid hZ;clear hZ;gi_wp2
              apply YN
              · intro hk
                gi_region
                all_goals exact hk
              gi_wp2
              go_goals
              exact RetP.drew (ZH HLT.out z0 z1 z2 HBw.out D4.out D5.out (by unfold ZJ;rw[Int.toNat_of_nonneg z0,if_neg (fun h=>Nat.not_succ_le_zero _ (z4▸h.1)),if_pos HZ.out,if_pos z4,if_pos z4]))
            · have q4:((at_:Int)==(nth L x.1:Int) - 1)=false:=by rw[beq_eq_false_iff_ne];exact hZ
              have HZ:=hid hZ;clear hZ;gi_wp2
              apply YN
              · intro hk
                gi_region
                all_goals exact hk
              gi_wp2
              apply YN
              · intro hk
                refine Je (F:=Fence.wide) (by kernel_rfl) (by kernel_rfl) ?_;refine wpAnyIn_take (i:=1) (v:=?_) rfl rfl (by kernel_rfl) (by kernel_rfl) (by kernel_rfl) (fun _ _ _ h=>h) ⟨Or.inl ⟨by rfl,?_⟩,fun _=>rfl⟩ ?_;rotate_left
                · (intro w;go_simp;try with_reducible rfl)
                refine wpAnyIn_take (i:=5) (v:=?_) rfl rfl (by kernel_rfl) (by kernel_rfl) (by kernel_rfl) (fun _ _ _ h=>h) ⟨Or.inl ⟨by rfl,?_⟩,fun _=>rfl⟩ ?_;rotate_left
                · (intro w;go_simp;try with_reducible rfl)
                refine wpAnyIn_ready (rs:=[0,3]) (by kernel_rfl) (by simp) ?_;refine AllReadyIn.cons rfl (fun K hK=>?_) ?_
                · go_simp
                  refine hK _ _ ?_;clear hK K;refine wpAnyIn_take (i:=2) (v:=?_) rfl rfl (by kernel_rfl) (by kernel_rfl) (by kernel_rfl) (fun _ _ _ h=>h) ⟨Or.inl ⟨by rfl,?_⟩,fun _=>rfl⟩ ?_;rotate_left
                  · (intro w;go_simp;try with_reducible rfl)
                  refine wpAnyIn_take (i:=7) (v:=?_) rfl rfl (by kernel_rfl) (by kernel_rfl) (by kernel_rfl) (fun _ _ _ h=>h) ⟨Or.inl ⟨by rfl,?_⟩,fun _=>rfl⟩ ?_;rotate_left
                  · (intro w;go_simp;try with_reducible rfl)
                  refine wpAnyIn_ready (rs:=[3,8]) (by kernel_rfl) (by simp) ?_;refine AllReadyIn.cons rfl (fun K hK=>?_) ?_
                  · go_simp
                    refine hK _ _ ?_;clear hK K;refine wpAnyIn_take (i:=4) (v:=?_) rfl rfl (by kernel_rfl) (by kernel_rfl) (by kernel_rfl) (fun _ _ _ h=>h) ⟨Or.inl ⟨by rfl,?_⟩,fun _=>rfl⟩ ?_;rotate_left
                    · (intro w;go_simp;try with_reducible rfl)
                    refine wpAnyIn_take (i:=6) (v:=?_) rfl rfl (by kernel_rfl) (by kernel_rfl) (by kernel_rfl) (fun _ _ _ h=>h) ⟨Or.inl ⟨by rfl,?_⟩,fun _=>rfl⟩ ?_;rotate_left
                    · (intro w;go_simp;try with_reducible rfl)
                    refine wpAnyIn_ready (rs:=[8]) (by kernel_rfl) (by simp) ?_;refine AllReadyIn.cons rfl (fun K hK=>?_) ?_
                    · go_simp
                      refine hK _ _ ?_;clear hK K;refine wpAnyIn_take (i:=9) (v:=?_) rfl rfl (by kernel_rfl) (by kernel_rfl) (by kernel_rfl) (fun _ _ _ h=>h) ⟨Or.inl ⟨by rfl,?_⟩,fun _=>rfl⟩ ?_;rotate_left
                      · (intro w;go_simp;try with_reducible rfl)
                      refine wpAnyIn_ready (rs:=[10]) (by kernel_rfl) (by simp) ?_;refine AllReadyIn.cons rfl (fun K hK=>?_) ?_
                      · go_simp
                        refine hK _ _ ?_;clear hK K;refine wpAnyIn_done (by kernel_rfl) ?_ _;exact hk
                      exact AllReadyIn.nil
                    exact AllReadyIn.nil
                  refine AllReadyIn.cons rfl (fun K hK=>?_) ?_
                  · go_simp
                    refine hK _ _ ?_;clear hK K;refine wpAnyIn_ready (rs:=[3]) (by kernel_rfl) (by simp) ?_;refine AllReadyIn.cons rfl (fun K hK=>?_) ?_
                    · go_simp
                      refine hK _ _ ?_;clear hK K;refine wpAnyIn_take (i:=4) (v:=?_) rfl rfl (by kernel_rfl) (by kernel_rfl) (by kernel_rfl) (fun _ _ _ h=>h) ⟨Or.inl ⟨by rfl,?_⟩,fun _=>rfl⟩ ?_;rotate_left
                      · (intro w;go_simp;try with_reducible rfl)
                      refine wpAnyIn_take (i:=6) (v:=?_) rfl rfl (by kernel_rfl) (by kernel_rfl) (by kernel_rfl) (fun _ _ _ h=>h) ⟨Or.inl ⟨by rfl,?_⟩,fun _=>rfl⟩ ?_;rotate_left
                      · (intro w;go_simp;try with_reducible rfl)
                      refine wpAnyIn_take (i:=9) (v:=?_) rfl rfl (by kernel_rfl) (by kernel_rfl) (by kernel_rfl) (fun _ _ _ h=>h) ⟨Or.inl ⟨by rfl,?_⟩,fun _=>rfl⟩ ?_;rotate_left
                      · (intro w;go_simp;try with_reducible rfl)
                      refine wpAnyIn_ready (rs:=[10]) (by kernel_rfl) (by simp) ?_;refine AllReadyIn.cons rfl (fun K hK=>?_) ?_
                      · go_simp
                        refine hK _ _ ?_;clear hK K;refine wpAnyIn_done (by kernel_rfl) ?_ _;exact hk
                      exact AllReadyIn.nil
                    exact AllReadyIn.nil
                  exact AllReadyIn.nil
                refine AllReadyIn.cons rfl (fun K hK=>?_) ?_
                · go_simp
                  refine hK _ _ ?_;clear hK K;refine wpAnyIn_take (i:=4) (v:=?_) rfl rfl (by kernel_rfl) (by kernel_rfl) (by kernel_rfl) (fun _ _ _ h=>h) ⟨Or.inl ⟨by rfl,?_⟩,fun _=>rfl⟩ ?_;rotate_left
                  · (intro w;go_simp;try with_reducible rfl)
                  refine wpAnyIn_take (i:=6) (v:=?_) rfl rfl (by kernel_rfl) (by kernel_rfl) (by kernel_rfl) (fun _ _ _ h=>h) ⟨Or.inl ⟨by rfl,?_⟩,fun _=>rfl⟩ ?_;rotate_left
                  · (intro w;go_simp;try with_reducible rfl)
                  refine wpAnyIn_ready (rs:=[0]) (by kernel_rfl) (by simp) ?_;refine AllReadyIn.cons rfl (fun K hK=>?_) ?_
                  · go_simp
                    refine hK _ _ ?_;clear hK K;refine wpAnyIn_take (i:=2) (v:=?_) rfl rfl (by kernel_rfl) (by kernel_rfl) (by kernel_rfl) (fun _ _ _ h=>h) ⟨Or.inl ⟨by rfl,?_⟩,fun _=>rfl⟩ ?_;rotate_left
                    · (intro w;go_simp;try with_reducible rfl)
                    refine wpAnyIn_take (i:=7) (v:=?_) rfl rfl (by kernel_rfl) (by kernel_rfl) (by kernel_rfl) (fun _ _ _ h=>h) ⟨Or.inl ⟨by rfl,?_⟩,fun _=>rfl⟩ ?_;rotate_left
                    · (intro w;go_simp;try with_reducible rfl)
                    refine wpAnyIn_ready (rs:=[8]) (by kernel_rfl) (by simp) ?_;refine AllReadyIn.cons rfl (fun K hK=>?_) ?_
                    · go_simp
                      refine hK _ _ ?_;clear hK K;refine wpAnyIn_take (i:=9) (v:=?_) rfl rfl (by kernel_rfl) (by kernel_rfl) (by kernel_rfl) (fun _ _ _ h=>h) ⟨Or.inl ⟨by rfl,?_⟩,fun _=>rfl⟩ ?_;rotate_left
                      · (intro w;go_simp;try with_reducible rfl)
                      refine wpAnyIn_ready (rs:=[10]) (by kernel_rfl) (by simp) ?_;refine AllReadyIn.cons rfl (fun K hK=>?_) ?_
                      · go_simp
                        refine hK _ _ ?_;clear hK K;refine wpAnyIn_done (by kernel_rfl) ?_ _;exact hk
                      exact AllReadyIn.nil
                    exact AllReadyIn.nil
                  exact AllReadyIn.nil
                exact AllReadyIn.nil
              gi_wp2
              go_goals
              exact RetP.drew (RetP.drew (ZH HLT.out z0 z1 z2 HBw.out D4.out D5.out (by unfold ZJ;rw[Int.toNat_of_nonneg z0,if_neg (fun h=>Nat.not_succ_le_zero _ (z4▸h.1)),if_neg HZ.out,if_pos z4])))
  case done=>
    rintro D ys W hD hys ⟨hlt,hbw,hB⟩ hK
    have hnot: ¬t.there total row at_:=by subst hL;exact qfP hys hlt
    have hs1W:=hB.size;have hBw:=hBw.trans (hB.mono (by omega));have d4:=(hB.block _ k4).trans b4;have d5:=(hB.block _ k5).trans b5;have hlD:w1.heap.size≤D:=by simp at hD;omega
    have f0:=unfrozen_of_block d4 0;have f1:=unfrozen_of_block d4 1;have f2:=unfrozen_of_block d4 2;have f3:=unfrozen_of_block d4 3;have f4:=unfrozen_of_block d4 4;have f5:=unfrozen_of_block d4 5;have f6:=unfrozen_of_block d5 0;have c0:=qa d4 0;have c1:=qa d4 1;have c2:=qa d4 2;have c3:=qa d4 3;have c4:=qa d4 4;have c5:=qa d4 5;have c6:=qa d5 0;simp only[List.getElem?_toArray,List.getElem?_cons_zero,List.getElem?_cons_succ]at c0 c1 c2 c3 c4 c5 c6;have m4:w.heap.size+1+1+1+1<W.heap.size:=by omega
    have m5:w.heap.size+1+1+1+1+1<W.heap.size:=by omega
    have HB:=hid hB;have HK:=hid hK;have D4:=hid d4;have D5:=hid d5;have HY:=hid hys;have HT:=hid hlt;clear hB hbw d4 d5 hK hys hlt;gi_wp2
    have e4:=(Below.heap_setCell ((((((W.setCell ⟨w.heap.size+1+1+1+1,0,none⟩ (.int .i64 0)).setCell ⟨w.heap.size+1+1+1+1,1,none⟩ (.int .u64 0)).setCell ⟨w.heap.size+1+1+1+1,2,none⟩ (.int .u64 0)).setCell ⟨w.heap.size+1+1+1+1,3,none⟩ (.int .u64 0)).setCell ⟨w.heap.size+1+1+1+1,4,none⟩ (.bool false)).setCell ⟨w.heap.size+1+1+1+1,5,none⟩ (.bool false)) ⟨w.heap.size+1+1+1+1+1,0,none⟩ (.int .i64 6) (w.heap.size+1+1+1+1) (by simp)).trans (yi D4.out (.int .i64 0) (.int .u64 0) (.int .u64 0) (.int .u64 0) (.bool false) (.bool false));have e5:=block_setCell (i:=0) ((YF (c:=w.heap.size+1+1+1+1+1) (b:=w.heap.size+1+1+1+1) (by omega) (.int .i64 0) (.int .u64 0) (.int .u64 0) (.int .u64 0) (.bool false) (.bool false)).trans D5.out) (.int .i64 6);have eK:=(Below.heap_setCell ((((((W.setCell ⟨w.heap.size+1+1+1+1,0,none⟩ (.int .i64 0)).setCell ⟨w.heap.size+1+1+1+1,1,none⟩ (.int .u64 0)).setCell ⟨w.heap.size+1+1+1+1,2,none⟩ (.int .u64 0)).setCell ⟨w.heap.size+1+1+1+1,3,none⟩ (.int .u64 0)).setCell ⟨w.heap.size+1+1+1+1,4,none⟩ (.bool false)).setCell ⟨w.heap.size+1+1+1+1,5,none⟩ (.bool false)) ⟨w.heap.size+1+1+1+1+1,0,none⟩ (.int .i64 6) D (by show D≠w.heap.size+1+1+1+1+1;omega)).trans ((YF (c:=D) (b:=w.heap.size+1+1+1+1) (by omega) (.int .i64 0) (.int .u64 0) (.int .u64 0) (.int .u64 0) (.bool false) (.bool false)).trans HK.out);have eB:=(yj hBw (b:=w.heap.size+1+1+1+1) (by omega) (.int .i64 0) (.int .u64 0) (.int .u64 0) (.int .u64 0) (.bool false) (.bool false)).setCell (p:=⟨w.heap.size+1+1+1+1+1,0,none⟩) (by show w.heap.size≤w.heap.size+1+1+1+1+1;omega) (.int .i64 6);have hfin:=belowK_b (w:=w1) Nl _ D _ (.deferred none) hlD eK rfl rfl;refine⟨by simp,.inl ⟨_,_,rfl,run_takeDeferred eK,?_⟩⟩;refine⟨_,zc rfl rfl rfl (b:=w.heap.size+1+1+1+1) (c:=w.heap.size+1+1+1+1+1) ((hfin.block _ k4).trans e4) ((hfin.block _ k5).trans e5) rfl,?_,eB.trans (hfin.mono (by omega))⟩;rfl
  case stop=>
    rintro D c pre W hD hpre ⟨⟨ini,k,rfl,hlt,hk,hcase⟩,hB⟩ hK
    have hlD:w1.heap.size≤D:=by simp at hD;omega
    rcases hcase with⟨rfl,r0,r1,e4,e5⟩|⟨rfl,r0,d4,d5⟩
    · have hh:t.there total row at_∧ZJ t.fn t.ln total row.toNat at_ (nth L k.1) (Zp _ ini)=(t.spot total row.toNat at_).val.cells:=by subst hL;exact qek ht hl1 H.out hpre.1 hlt hk r0 r1
      rw[hh.2]at e4;have E4:=hid e4;have E5:=hid e5;have HK:=hid hK;have hh1:=hh.1;clear e4 e5 hK hh hlt hpre;gi_wp2
      have hfin:=belowK_b (w:=w1) Nl W D _ (.deferred none) hlD HK.out rfl rfl;refine⟨by simp,.inl ⟨_,_,rfl,run_takeDeferred HK.out,?_⟩⟩;refine⟨_,zc rfl rfl rfl (b:=w.heap.size+1+1+1+1) (c:=w.heap.size+1+1+1+1+1) ((hfin.block _ k4).trans E4.out) ((hfin.block _ k5).trans E5.out) rfl,?_,hB.trans (hfin.mono (by omega))⟩;rfl
    · have hnot: ¬t.there total row at_:=by subst hL;exact qbB hpre.1 hlt hk r0
      have hs1W:=(Ai hK).1;have hBw:=hB;replace d4:W.heap[w.heap.size+1+1+1+1]? =some (Obj.cells #[.int .i64 0,.int .u64 0,.int .u64 0,.int .u64 0,.bool false,.bool false] 96 (0,0)):=d4
      clear hB hlt hpre;have f0:=unfrozen_of_block d4 0;have f1:=unfrozen_of_block d4 1;have f2:=unfrozen_of_block d4 2;have f3:=unfrozen_of_block d4 3;have f4:=unfrozen_of_block d4 4;have f5:=unfrozen_of_block d4 5;have f6:=unfrozen_of_block d5 0;have c0:=qa d4 0;have c1:=qa d4 1;have c2:=qa d4 2;have c3:=qa d4 3;have c4:=qa d4 4;have c5:=qa d4 5;have c6:=qa d5 0;simp only[List.getElem?_toArray,List.getElem?_cons_zero,List.getElem?_cons_succ]at c0 c1 c2 c3 c4 c5 c6;have m4:w.heap.size+1+1+1+1<W.heap.size:=by omega
      have m5:w.heap.size+1+1+1+1+1<W.heap.size:=by omega
      have HK:=hid hK;have D4:=hid d4;have D5:=hid d5;clear d4 d5 hK;gi_wp2
      have e4:=(Below.heap_setCell ((((((W.setCell ⟨w.heap.size+1+1+1+1,0,none⟩ (.int .i64 0)).setCell ⟨w.heap.size+1+1+1+1,1,none⟩ (.int .u64 0)).setCell ⟨w.heap.size+1+1+1+1,2,none⟩ (.int .u64 0)).setCell ⟨w.heap.size+1+1+1+1,3,none⟩ (.int .u64 0)).setCell ⟨w.heap.size+1+1+1+1,4,none⟩ (.bool false)).setCell ⟨w.heap.size+1+1+1+1,5,none⟩ (.bool false)) ⟨w.heap.size+1+1+1+1+1,0,none⟩ (.int .i64 6) (w.heap.size+1+1+1+1) (by simp)).trans (yi D4.out (.int .i64 0) (.int .u64 0) (.int .u64 0) (.int .u64 0) (.bool false) (.bool false));have e5:=block_setCell (i:=0) ((YF (c:=w.heap.size+1+1+1+1+1) (b:=w.heap.size+1+1+1+1) (by omega) (.int .i64 0) (.int .u64 0) (.int .u64 0) (.int .u64 0) (.bool false) (.bool false)).trans D5.out) (.int .i64 6);have eK:=(Below.heap_setCell ((((((W.setCell ⟨w.heap.size+1+1+1+1,0,none⟩ (.int .i64 0)).setCell ⟨w.heap.size+1+1+1+1,1,none⟩ (.int .u64 0)).setCell ⟨w.heap.size+1+1+1+1,2,none⟩ (.int .u64 0)).setCell ⟨w.heap.size+1+1+1+1,3,none⟩ (.int .u64 0)).setCell ⟨w.heap.size+1+1+1+1,4,none⟩ (.bool false)).setCell ⟨w.heap.size+1+1+1+1,5,none⟩ (.bool false)) ⟨w.heap.size+1+1+1+1+1,0,none⟩ (.int .i64 6) D (by show D≠w.heap.size+1+1+1+1+1;omega)).trans ((YF (c:=D) (b:=w.heap.size+1+1+1+1) (by omega) (.int .i64 0) (.int .u64 0) (.int .u64 0) (.int .u64 0) (.bool false) (.bool false)).trans HK.out);have eB:=(yj hBw (b:=w.heap.size+1+1+1+1) (by omega) (.int .i64 0) (.int .u64 0) (.int .u64 0) (.int .u64 0) (.bool false) (.bool false)).setCell (p:=⟨w.heap.size+1+1+1+1+1,0,none⟩) (by show w.heap.size≤w.heap.size+1+1+1+1+1;omega) (.int .i64 6);have hfin:=belowK_b (w:=w1) Nl _ D _ (.deferred none) hlD eK rfl rfl;refine⟨by simp,.inl ⟨_,_,rfl,run_takeDeferred eK,?_⟩⟩;refine⟨_,zc rfl rfl rfl (b:=w.heap.size+1+1+1+1) (c:=w.heap.size+1+1+1+1+1) ((hfin.block _ k4).trans e4) ((hfin.block _ k5).trans e5) rfl,?_,eB.trans (hfin.mono (by omega))⟩;rfl
theorem yX {P:Program}{fn:Func}{tmps:Array Value}{W:World}{b:Nat}{v0 v1 v2 v3 v4 v5 e:Value}{T:TypeId}{fr:Nat×Nat}
    (hr:fn.results= #[.cell 8 96,.tmp 9]) (h8:tmps[8]?.getD undef= .pointer (some ⟨b,0,none⟩)) (h9:tmps[9]?.getD undef=e)
    (hb:W.heap[b]? =some (Obj.cells #[v0,v1,v2,v3,v4,v5] T fr)) (hP:P=Tryz.prog):
    (results fn tmps).run P W= .ok (.tuple #[.agg #[v0,v1,v2,v3,v4,v5],e]) W:=by
  subst hP;have c0:=qa hb 0;have c1:=qa hb 1;have c2:=qa hb 2;have c3:=qa hb 3;have c4:=qa hb 4;have c5:=qa hb 5;simp only[List.getElem?_toArray,List.getElem?_cons_zero,List.getElem?_cons_succ]at c0 c1 c2 c3 c4 c5;simp[results,hr,h8,h9,go_sem,c0,c1,c2,c3,c4,c5]
def TreeV.spotR (t:TreeV)(total:Nat)(row:Int)(at_:Nat):SpotV:=if t.err total=0∧t.there total row at_ then t.spot total row.toNat at_ else SpotV.zero
def TreeV.spotE (t:TreeV)(total:Nat)(row:Int)(at_:Nat):Int:=if t.err total≠0 then t.err total else if t.there total row at_ then 0 else 6
theorem qdi (t:TreeV)(hl:0≤t.l∧t.l≤4294967295)(total:Nat)(ht:(total:Int)≤18446744073709551615)(h:t.err total≠0)(row:Int)(at_:Nat)(w:World):
    Calls Tryz.prog 54 #[t.val,.int .u64 total,.int .i64 row,.int .u64 at_] w fun e w'=>e= .returned (.tuple #[SpotV.zero.val,.int .i64 (t.err total)])∧Below w.heap.size w w':=by
  have e1:(t.err total != 0)=true:=by rw[bne_iff_ne];exact h
  have H:=hid h;clear h;unfold TreeV.val;go_enter Tryz.func54,Tryz.ntmps54
  go_wp2_with fail
  refine(qdk t hl total ht H.out _).mono ?_;rintro e w1 ⟨rfl,hb1⟩;obtain⟨hc,hf⟩:=yK hb1;have hs1:=hb1.size;simp at hs1
  have k0:w.heap.size<w1.heap.size:=by omega
  have k1:w.heap.size+1<w1.heap.size:=by omega
  have b1:w1.heap[w.heap.size+1]? =some (Obj.cells #[.int .i64 0,.int .u64 0,.int .u64 0,.int .u64 0,.bool false,.bool false] 96 (0,0)):=by
    rw[hb1.block _ (by simp)];exact qD _ _ (by simp)
  have B1:=hid b1;clear b1;go_wp2
  refine Bp (yX rfl rfl rfl (b:=w.heap.size+1) (T:=96) (fr:=(0,0)) (yi B1.out _ _ _ _ _ _) rfl) rfl ⟨rfl,yj (qu _ (Below.trans (Br.alloc Nl _) (hb1.mono (by simp)))) (by omega) _ _ _ _ _ _⟩
theorem qdh {L:List Nat}(t:TreeV)(total:Nat)(hN0:1≤L.length)
    (HR:Hid (∀w,Calls Tryz.prog 91 #[t.val,.int .u64 total] w fun e w'=> ∃v,e= .returned (.tuple #[v,.int .i64 0])∧w'.ownsRow w.heap.size 44 1 v L.length (L.map qbL)∧Below w.heap.size w w'))
    (HLe:Hid (∀k,k<L.length→(nth L k:Int)≤18446744073709551615)) (row:Int) (at_:Nat) (HT:Hid (¬(0≤row∧row.toNat<L.length∧at_<nth L row.toNat))) (w:World):
    Calls Tryz.prog 54 #[t.val,.int .u64 total,.int .i64 row,.int .u64 at_] w fun e w'=>e= .returned (.tuple #[SpotV.zero.val,.int .i64 6])∧Below w.heap.size w w':=by
  unfold TreeV.val;go_enter Tryz.func54,Tryz.ntmps54
  go_wp2_with fail
  refine(HR.out _).mono ?_;rintro e w1 ⟨v,rfl,hown,hb1⟩;obtain⟨g,cap,rfl, -,hg1,hg2,hcell⟩:=zR hown hN0;clear hown;have HCL:=hid hcell;clear hcell;obtain⟨hc,hf⟩:=yK hb1;have hs1:=hb1.size;simp at hs1
  have k0:w.heap.size<w1.heap.size:=by omega
  have k1:w.heap.size+1<w1.heap.size:=by omega
  have b1:w1.heap[w.heap.size+1]? =some (Obj.cells #[.int .i64 0,.int .u64 0,.int .u64 0,.int .u64 0,.bool false,.bool false] 96 (0,0)):=by
    rw[hb1.block _ (by simp)];exact qD _ _ (by simp)
  have B1:=hid b1;have hBW:Below w.heap.size w w1:=qu _ (Below.trans (Br.alloc Nl _) (hb1.mono (by simp)));clear b1 hb1;by_cases hA:row<0
  · go_wp2
    refine Bp (yX rfl rfl rfl (b:=w.heap.size+1) (T:=96) (fr:=(0,0)) (yi B1.out _ _ _ _ _ _) rfl) rfl ⟨rfl,yj hBW (by omega) _ _ _ _ _ _⟩
  · by_cases hA2:(L.length:Int)≤row
    · go_wp2
      refine Bp (yX rfl rfl rfl (b:=w.heap.size+1) (T:=96) (fr:=(0,0)) (yi B1.out _ _ _ _ _ _) rfl) rfl ⟨rfl,yj hBW (by omega) _ _ _ _ _ _⟩
    · obtain⟨k,rfl⟩: ∃k:Nat,row=k:=⟨row.toNat,by omega⟩
      have hx:=HCL.out k (by omega);have hx2:=HLe.out k (by omega);have q1:((nth L k:Int)≤(at_:Int)):=by
        have:=HT.out
        rw[Int.toNat_natCast]at this;omega
      go_wp2
      refine Bp (yX rfl rfl rfl (b:=w.heap.size+1) (T:=96) (fr:=(0,0)) (yi B1.out _ _ _ _ _ _) rfl) rfl ⟨rfl,yj hBW (by omega) _ _ _ _ _ _⟩
def qdn (f l:Int)(total k at_ n b:Nat)(root:Bool):Array Value:=
  if root=true then #[.int .i64 k,.int .u64 at_,.int .u64 0,.int .u64 b,.bool ((at_:Int)==(n:Int) - 1),.bool true]
  else if(at_:Int)=(n:Int) - 1 then #[.int .i64 k,.int .u64 at_,.int .u64 (IntKind.u64.wrap (at_*(if k=0 then l else f))),.int .u64 (if k=0 then total else b:Nat),.bool true,.bool false]
  else #[.int .i64 k,.int .u64 at_,.int .u64 (IntKind.u64.wrap (at_*(if k=0 then l else f))),.int .u64 (IntKind.u64.wrap (IntKind.u64.wrap (at_*(if k=0 then l else f))+(if k=0 then l else f))),.bool false,.bool false]
def JD (t:TreeV)(L:List Nat)(total k at_:Nat)(A:Array Value):Prop:=A=qdn t.f t.l total k at_ (nth L k) (nth L (k - 1)) (decide (k=L.length - 1))
theorem ZP {t:TreeV}{L:List Nat}{total k at_:Nat}{fn:Func}{tmps:Array Value}{w w1:World}{a0 a1 a2 a3 a4 a5 v0 v1 v2 v3 v4 v5:Value}{o:Obj}
    (hr:fn.results= #[.cell 8 96,.tmp 9]) (h8:tmps[8]?.getD undef= .pointer (some ⟨w.heap.size+1,0,none⟩)) (h9:tmps[9]?.getD undef= .int .i64 0)
    (hb:w1.heap[w.heap.size+1]? =some (Obj.cells #[a0,a1,a2,a3,a4,a5] 96 (0,0))) (hB:Below w.heap.size w w1) (k1:w.heap.size+1<w1.heap.size)
    (hA:JD t L total k at_ #[v0,v1,v2,v3,v4,v5]):
    bodyPost Tryz.prog fn (fun e w'=>(∃A,e=Ending.returned (.tuple #[.agg A,.int .i64 0])∧JD t L total k at_ A)∧Below w.heap.size w w') Exit.ret ⟨tmps,[]⟩
      (((((((w1.setCell ⟨w.heap.size+1,0,none⟩ v0).setCell ⟨w.heap.size+1,1,none⟩ v1).setCell ⟨w.heap.size+1,2,none⟩ v2).setCell ⟨w.heap.size+1,3,none⟩ v3).setCell ⟨w.heap.size+1,4,none⟩ v4).setCell ⟨w.heap.size+1,5,none⟩ v5).alloc o):=by
  refine Bp (yX hr h8 h9 (b:=w.heap.size+1) (T:=96) (fr:=(0,0)) ?_ rfl) rfl ⟨⟨_,rfl,hA⟩,(yj hB (by omega) _ _ _ _ _ _).alloc (by simp;omega) _⟩;rw[Bh _ _ _ (by simp;omega)];exact yi hb _ _ _ _ _ _
theorem qcx {L:List Nat}(t:TreeV)(total:Nat)(hN0:1≤L.length)(hN2:2≤L.length)
    (HR:Hid (∀w,Calls Tryz.prog 91 #[t.val,.int .u64 total] w fun e w'=> ∃v,e= .returned (.tuple #[v,.int .i64 0])∧w'.ownsRow w.heap.size 44 1 v L.length (L.map qbL)∧Below w.heap.size w w'))
    (HLe:Hid (∀k,k<L.length→(nth L k:Int)≤18446744073709551615)) (hf0:0≤t.f) (hfb:t.f≤18446744073709551615) (hl0:0≤t.l) (hlb:t.l≤4294967295) (hN3:(L.length:Int)≤9223372036854775807)
    (k:Nat) (at_:Nat) (z1:k<L.length) (z2:at_<nth L k) (w:World):
    Calls Tryz.prog 54 #[t.val,.int .u64 total,.int .i64 k,.int .u64 at_] w fun e w'=>(∃A,e= .returned (.tuple #[.agg A,.int .i64 0])∧JD t L total k at_ A)∧Below w.heap.size w w':=by
  unfold TreeV.val;go_enter Tryz.func54,Tryz.ntmps54
  go_wp2_with fail
  refine(HR.out _).mono ?_;rintro e w1 ⟨v,rfl,hown,hb1⟩;obtain⟨g,cap,rfl, -,hg1,hg2,hcell⟩:=zR hown hN0;clear hown;have HCL:=hid hcell;clear hcell;obtain⟨hc,hf⟩:=yK hb1;have hs1:=hb1.size;simp at hs1
  have k0:w.heap.size<w1.heap.size:=by omega
  have k1:w.heap.size+1<w1.heap.size:=by omega
  have b1:w1.heap[w.heap.size+1]? =some (Obj.cells #[.int .i64 0,.int .u64 0,.int .u64 0,.int .u64 0,.bool false,.bool false] 96 (0,0)):=by
    rw[hb1.block _ (by simp)];exact qD _ _ (by simp)
  have B1:=hid b1;have hBW:Below w.heap.size w w1:=qu _ (Below.trans (Br.alloc Nl _) (hb1.mono (by simp)));clear b1 hb1;have hx:=HCL.out k z1;have hx2:=HLe.out k z1;have q0:((L.length:Int)≤(k:Int))=False:=eq_false (by omega);have q1:((nth L k:Int)≤(at_:Int))=False:=eq_false (by omega);by_cases hR:k=L.length - 1
  · have q2:((k:Int)==(L.length:Int) - 1)=true:=by rw[beq_iff_eq];omega
    obtain⟨j,rfl⟩: ∃j,k=j+1:=⟨k - 1,by omega⟩;have hy:=HCL.out j (by omega);have hy2:=HLe.out j (by omega);have HR2:=hid hR;clear hR;go_wp2
    refine ZP (t:=t) (L:=L) (total:=total) (k:=j+1) (at_:=at_) (fn:=Tryz.f54) ?_ ?_ ?_ B1.out hBW k1 ?_
    · rfl
    · rfl
    · rfl
    unfold JD qdn;rw[if_pos (decide_eq_true HR2.out)];rfl
  · have q2:((k:Int)==(L.length:Int) - 1)=false:=by rw[beq_eq_false_iff_ne];omega
    have HR2:=hid hR;clear hR;by_cases hZ:(at_:Int)=(nth L k:Int) - 1
    · have q4:((at_:Int)==(nth L k:Int) - 1)=true:=by rw[beq_iff_eq];exact hZ
      have HZ:=hid hZ;clear hZ
      cases k with
      | zero=>
        have hnil:(L=[])=False:=eq_false (by intro h;rw[h]at hN0;simp at hN0);go_wp2
        refine ZP (t:=t) (L:=L) (total:=total) (k:=0) (at_:=at_) (fn:=Tryz.f54) ?_ ?_ ?_ B1.out hBW k1 ?_
        · rfl
        · rfl
        · rfl
        unfold JD qdn;rw[if_neg (by simp;exact HR2.out),if_pos HZ.out];simp
      | succ j=>
        have hy:=HCL.out j (by omega);have hy2:=HLe.out j (by omega);go_wp2
        refine ZP (t:=t) (L:=L) (total:=total) (k:=j+1) (at_:=at_) (fn:=Tryz.f54) ?_ ?_ ?_ B1.out hBW k1 ?_
        · rfl
        · rfl
        · rfl
        unfold JD qdn;rw[if_neg (by simp;exact HR2.out),if_pos HZ.out];simp
    · have q4:((at_:Int)==(nth L k:Int) - 1)=false:=by rw[beq_eq_false_iff_ne];exact hZ
      have HZ:=hid hZ;clear hZ
      cases k with
      | zero=>
        have hnil:(L=[])=False:=eq_false (by intro h;rw[h]at hN0;simp at hN0);go_wp2
        refine ZP (t:=t) (L:=L) (total:=total) (k:=0) (at_:=at_) (fn:=Tryz.f54) ?_ ?_ ?_ B1.out hBW k1 ?_
        · rfl
        · rfl
        · rfl
        unfold JD qdn;rw[if_neg (by simp;exact HR2.out),if_neg HZ.out];simp
      | succ j=>
        have hy:=HCL.out j (by omega);have hy2:=HLe.out j (by omega);go_wp2
        refine ZP (t:=t) (L:=L) (total:=total) (k:=j+1) (at_:=at_) (fn:=Tryz.f54) ?_ ?_ ?_ B1.out hBW k1 ?_
        · rfl
        · rfl
        · rfl
        unfold JD qdn;rw[if_neg (by simp;exact HR2.out),if_neg HZ.out];simp
end Go.Proofs.YtahenngmaoellaaGreat
namespace Go.Proofs.YtahenngmaoellaaGreat
open Go.ChangeShapes Go.WideShapes Go.ChangeAt Go.RowKit Go.Joins Go.Shelf Go.Maps
open Go.Lib (hid)
theorem qg0 {t:TreeV}{p total:Nat}{L:List Nat}(hfe:t.f=(t.fn:Int))(hle:t.l=(t.ln:Int))(hl:1≤t.ln)(ht:(total:Int)≤18446744073709551615)(h:RowsIs t.fn p (lvs total t.ln) L){row at_:Nat}(hr:row<L.length)(ha:at_<nth L row):
    qdn t.f t.l total row at_ (nth L row) (nth L (row - 1)) (decide (row=L.length - 1))=(QM t.fn t.ln total L row at_).val.cells:=by
  have hla:((at_:Int)==(nth L row:Int) - 1)=decide (at_=nth L row - 1):=by
    rw[Bool.eq_iff_iff,beq_iff_eq,decide_eq_true_iff];omega
  rw[hfe,hle];generalize t.fn=f at*;generalize t.ln=l at*;unfold qdn QM;by_cases hn:1≤row∧nth L row=1
  · rw[if_pos (decide_eq_true ((h.root_iff hr).1 hn)),if_pos hn,hla];rfl
  · have hn': ¬row=L.length - 1:=fun e=>hn ((h.root_iff hr).2 e)
    obtain⟨b1,b2, -⟩:=ZI hl h hr ha hn;have hto:((if row=0 then total else nth L (row - 1):Nat):Int)≤18446744073709551615:=by
      by_cases h0:row=0
      · rw[if_pos h0];exact ht
      · rw[if_neg h0];exact YK hl ht h _ (by omega)
    have e0:(if row=0 then(l:Int) else(f:Int))=((if row=0 then l else f:Nat):Int):=by split<;>rfl
    have w1:IntKind.u64.wrap ((at_:Int)*((if row=0 then l else f:Nat):Int))=((at_*(if row=0 then l else f):Nat):Int):=by
      rw[wrap_u64,←Int.natCast_mul];omega
    rw[e0,if_neg (by simp;exact hn'),if_neg hn,w1];by_cases hz:at_=nth L row - 1
    · rw[if_pos (show(at_:Int)=(nth L row:Int) - 1 by omega),if_pos hz];rfl
    · have b2':=b2 hz
      have w2:IntKind.u64.wrap (((at_*(if row=0 then l else f):Nat):Int)+((if row=0 then l else f:Nat):Int))=(((at_+1)*(if row=0 then l else f):Nat):Int):=by
        rw[Nat.add_mul,Nat.one_mul]at b2'⊢;rw[wrap_u64,←Int.natCast_add];omega
      rw[if_neg (show ¬(at_:Int)=(nth L row:Int) - 1 by omega),if_neg hz,w2];rfl
theorem zA (t:TreeV)(hl:0≤t.l∧t.l≤4294967295)(total:Nat)(ht:(total:Int)≤18446744073709551615)(row:Int)(at_:Nat)(w:World):
    Calls Tryz.prog 54 #[t.val,.int .u64 total,.int .i64 row,.int .u64 at_] w fun e w'=>e= .returned (.tuple #[(t.spotR total row at_).val,.int .i64 (t.spotE total row at_)])∧Below w.heap.size w w':=by
  by_cases he:t.err total=0
  · obtain⟨hl1,hl2,hln,h0⟩:=Qo hl he
    have hvf:=qk h0;have hfn:t.f=(t.fn:Int):=by unfold TreeV.fn;omega
    have hR:=qA he;have hrl:=YK hl1 ht hR;have hrc:=hR.len;have hp:(t.pn:Int)≤255:=by unfold TreeV.pn;omega
    have hrm:=hR.most;have HR:=hid (fun w=>qaX t hl total ht he w);by_cases hth:t.there total row at_
    · unfold TreeV.spotR TreeV.spotE
      rw[if_pos ⟨he,hth⟩,if_neg (by simp[he]),if_pos hth];obtain⟨z0,z1,z2⟩:=hth;obtain⟨k,rfl⟩: ∃k:Nat,row=k:=⟨row.toNat,by omega⟩;rw[Int.toNat_natCast]at z1 z2⊢;refine(qcx (L:=t.rowsOf total) t total (by omega) (by omega) HR (hid hrl) (by omega) (by omega) (by omega) (by omega) (by omega) k at_ z1 z2 w).mono ?_;rintro e w' ⟨⟨A,rfl,hA⟩,hb⟩
      refine⟨?_,hb⟩;unfold JD at hA;rw[hA,qg0 hfn hln hl1 ht hR z1 z2];rfl
    · unfold TreeV.spotR TreeV.spotE
      rw[if_neg (fun h=>hth h.2),if_neg (by simp[he]),if_neg hth];exact qdh (L:=t.rowsOf total) t total (by omega) HR (hid hrl) row at_ (hid hth) w
  · unfold TreeV.spotR TreeV.spotE
    rw[if_neg (fun h=>he h.1),if_pos he];exact qdi t hl total ht he row at_ w
theorem YT (t:TreeV)(hl:0≤t.l∧t.l≤4294967295)(total:Nat)(ht:(total:Int)≤18446744073709551615)(row:Int)(at_:Nat)(w:World):
    Calls Tryz.prog 92 #[t.val,.int .u64 total,.int .i64 row,.int .u64 at_] w fun e w'=>e= .returned (.tuple #[(t.spotR total row at_).val,.int .i64 (t.spotE total row at_)])∧Below w.heap.size w w':=by
  by_cases he:t.err total=0
  · refine(qhR t hl total ht he row at_ w).mono ?_
    rintro e w' ⟨rfl,hb⟩
    refine⟨?_,hb⟩;unfold TreeV.spotR TreeV.spotE;by_cases hth:t.there total row at_
    · rw[if_pos (show t.err total=0∧t.there total row at_ from⟨he,hth⟩),if_neg (show ¬(t.err total≠0) by simp[he]),if_pos hth,if_pos hth]
    · rw[if_neg (show ¬(t.err total=0∧t.there total row at_) from fun h=>hth h.2),if_neg (show ¬(t.err total≠0) by simp[he]),if_neg hth,if_neg hth]
  · unfold TreeV.spotR TreeV.spotE
    rw[if_neg (fun h=>he h.1),if_pos he];exact qgD t hl total ht he row at_ w
end Go.Proofs.YtahenngmaoellaaGreat
namespace Go.Proofs.YtahenngmaoellaaGreat
open Go.ChangeShapes Go.WideShapes Go.ChangeAt Go.RowKit Go.Joins Go.Shelf Go.Maps
open Go.Lib (hid)
attribute [local go_sem] Oper.semAt_some
theorem qas {W:World}{b:Nat}{a0 a1 a2 a3 a4 a5 a6 a7 a8 a9 a10:Value}{T:TypeId}{fr:Nat×Nat}(h:W.heap[b]? =some (Obj.cells #[a0,a1,a2,a3,a4,a5,a6,a7,a8,a9,a10] T fr))(v0 v1 v2 v3 v4 v5 v6 v7 v8 v9 v10:Value):
    (((((((((((W.setCell ⟨b,0,none⟩ v0).setCell ⟨b,1,none⟩ v1).setCell ⟨b,2,none⟩ v2).setCell ⟨b,3,none⟩ v3).setCell ⟨b,4,none⟩ v4).setCell ⟨b,5,none⟩ v5).setCell ⟨b,6,none⟩ v6).setCell ⟨b,7,none⟩ v7).setCell ⟨b,8,none⟩ v8).setCell ⟨b,9,none⟩ v9).setCell ⟨b,10,none⟩ v10).heap[b]? =some (Obj.cells #[v0,v1,v2,v3,v4,v5,v6,v7,v8,v9,v10] T fr):=by
  have h0:(W.setCell ⟨b,0,none⟩ v0).heap[b]? =some (Obj.cells #[v0,a1,a2,a3,a4,a5,a6,a7,a8,a9,a10] T fr):=block_setCell h v0;have h1:((W.setCell ⟨b,0,none⟩ v0).setCell ⟨b,1,none⟩ v1).heap[b]? =some (Obj.cells #[v0,v1,a2,a3,a4,a5,a6,a7,a8,a9,a10] T fr):=block_setCell h0 v1;have h2:(((W.setCell ⟨b,0,none⟩ v0).setCell ⟨b,1,none⟩ v1).setCell ⟨b,2,none⟩ v2).heap[b]? =some (Obj.cells #[v0,v1,v2,a3,a4,a5,a6,a7,a8,a9,a10] T fr):=block_setCell h1 v2;have h3:((((W.setCell ⟨b,0,none⟩ v0).setCell ⟨b,1,none⟩ v1).setCell ⟨b,2,none⟩ v2).setCell ⟨b,3,none⟩ v3).heap[b]? =some (Obj.cells #[v0,v1,v2,v3,a4,a5,a6,a7,a8,a9,a10] T fr):=block_setCell h2 v3;have h4:(((((W.setCell ⟨b,0,none⟩ v0).setCell ⟨b,1,none⟩ v1).setCell ⟨b,2,none⟩ v2).setCell ⟨b,3,none⟩ v3).setCell ⟨b,4,none⟩ v4).heap[b]? =some (Obj.cells #[v0,v1,v2,v3,v4,a5,a6,a7,a8,a9,a10] T fr):=block_setCell h3 v4;have h5:((((((W.setCell ⟨b,0,none⟩ v0).setCell ⟨b,1,none⟩ v1).setCell ⟨b,2,none⟩ v2).setCell ⟨b,3,none⟩ v3).setCell ⟨b,4,none⟩ v4).setCell ⟨b,5,none⟩ v5).heap[b]? =some (Obj.cells #[v0,v1,v2,v3,v4,v5,a6,a7,a8,a9,a10] T fr):=block_setCell h4 v5;have h6:(((((((W.setCell ⟨b,0,none⟩ v0).setCell ⟨b,1,none⟩ v1).setCell ⟨b,2,none⟩ v2).setCell ⟨b,3,none⟩ v3).setCell ⟨b,4,none⟩ v4).setCell ⟨b,5,none⟩ v5).setCell ⟨b,6,none⟩ v6).heap[b]? =some (Obj.cells #[v0,v1,v2,v3,v4,v5,v6,a7,a8,a9,a10] T fr):=block_setCell h5 v6;have h7:((((((((W.setCell ⟨b,0,none⟩ v0).setCell ⟨b,1,none⟩ v1).setCell ⟨b,2,none⟩ v2).setCell ⟨b,3,none⟩ v3).setCell ⟨b,4,none⟩ v4).setCell ⟨b,5,none⟩ v5).setCell ⟨b,6,none⟩ v6).setCell ⟨b,7,none⟩ v7).heap[b]? =some (Obj.cells #[v0,v1,v2,v3,v4,v5,v6,v7,a8,a9,a10] T fr):=block_setCell h6 v7;have h8:(((((((((W.setCell ⟨b,0,none⟩ v0).setCell ⟨b,1,none⟩ v1).setCell ⟨b,2,none⟩ v2).setCell ⟨b,3,none⟩ v3).setCell ⟨b,4,none⟩ v4).setCell ⟨b,5,none⟩ v5).setCell ⟨b,6,none⟩ v6).setCell ⟨b,7,none⟩ v7).setCell ⟨b,8,none⟩ v8).heap[b]? =some (Obj.cells #[v0,v1,v2,v3,v4,v5,v6,v7,v8,a9,a10] T fr):=block_setCell h7 v8;have h9:((((((((((W.setCell ⟨b,0,none⟩ v0).setCell ⟨b,1,none⟩ v1).setCell ⟨b,2,none⟩ v2).setCell ⟨b,3,none⟩ v3).setCell ⟨b,4,none⟩ v4).setCell ⟨b,5,none⟩ v5).setCell ⟨b,6,none⟩ v6).setCell ⟨b,7,none⟩ v7).setCell ⟨b,8,none⟩ v8).setCell ⟨b,9,none⟩ v9).heap[b]? =some (Obj.cells #[v0,v1,v2,v3,v4,v5,v6,v7,v8,v9,a10] T fr):=block_setCell h8 v9;have h10:(((((((((((W.setCell ⟨b,0,none⟩ v0).setCell ⟨b,1,none⟩ v1).setCell ⟨b,2,none⟩ v2).setCell ⟨b,3,none⟩ v3).setCell ⟨b,4,none⟩ v4).setCell ⟨b,5,none⟩ v5).setCell ⟨b,6,none⟩ v6).setCell ⟨b,7,none⟩ v7).setCell ⟨b,8,none⟩ v8).setCell ⟨b,9,none⟩ v9).setCell ⟨b,10,none⟩ v10).heap[b]? =some (Obj.cells #[v0,v1,v2,v3,v4,v5,v6,v7,v8,v9,v10] T fr):=block_setCell h9 v10;exact h10
theorem Z4 {B:Nat}{a W:World}(h:Below B a W){b:Nat}(hb:B≤b)(v0 v1 v2 v3 v4 v5 v6 v7 v8 v9 v10:Value):
    Below B a (((((((((((W.setCell ⟨b,0,none⟩ v0).setCell ⟨b,1,none⟩ v1).setCell ⟨b,2,none⟩ v2).setCell ⟨b,3,none⟩ v3).setCell ⟨b,4,none⟩ v4).setCell ⟨b,5,none⟩ v5).setCell ⟨b,6,none⟩ v6).setCell ⟨b,7,none⟩ v7).setCell ⟨b,8,none⟩ v8).setCell ⟨b,9,none⟩ v9).setCell ⟨b,10,none⟩ v10):=
  (((((((((((h.setCell (p:=⟨b,0,none⟩) hb v0).setCell (p:=⟨b,1,none⟩) hb v1).setCell (p:=⟨b,2,none⟩) hb v2).setCell (p:=⟨b,3,none⟩) hb v3).setCell (p:=⟨b,4,none⟩) hb v4).setCell (p:=⟨b,5,none⟩) hb v5).setCell (p:=⟨b,6,none⟩) hb v6).setCell (p:=⟨b,7,none⟩) hb v7).setCell (p:=⟨b,8,none⟩) hb v8).setCell (p:=⟨b,9,none⟩) hb v9).setCell (p:=⟨b,10,none⟩) hb v10)
theorem ZT {P:Program}{fn:Func}{tmps:Array Value}{W:World}{b:Nat}{v0 v1 v2 v3 v4 v5 v6 v7 v8 v9 v10 e:Value}{T:TypeId}{fr:Nat×Nat}
    (hr:fn.results= #[.cell 8 179,.tmp 9]) (h8:tmps[8]?.getD undef= .pointer (some ⟨b,0,none⟩)) (h9:tmps[9]?.getD undef=e)
    (hb:W.heap[b]? =some (Obj.cells #[v0,v1,v2,v3,v4,v5,v6,v7,v8,v9,v10] T fr)) (hP:P=Tryz.prog):
    (results fn tmps).run P W= .ok (.tuple #[.agg #[v0,v1,v2,v3,v4,v5,v6,v7,v8,v9,v10],e]) W:=by
  subst hP;have c0:=qa hb 0;have c1:=qa hb 1;have c2:=qa hb 2;have c3:=qa hb 3;have c4:=qa hb 4;have c5:=qa hb 5;have c6:=qa hb 6;have c7:=qa hb 7;have c8:=qa hb 8;have c9:=qa hb 9;have c10:=qa hb 10;simp only[List.getElem?_toArray,List.getElem?_cons_zero,List.getElem?_cons_succ]at c0 c1 c2 c3 c4 c5 c6 c7 c8 c9 c10;simp[results,hr,h8,h9,go_sem,c0,c1,c2,c3,c4,c5,c6,c7,c8,c9,c10]
theorem zE {W:World}{b c:Nat}(h:c≠b)(v0 v1 v2 v3 v4 v5 v6 v7 v8 v9 v10:Value):(((((((((((W.setCell ⟨b,0,none⟩ v0).setCell ⟨b,1,none⟩ v1).setCell ⟨b,2,none⟩ v2).setCell ⟨b,3,none⟩ v3).setCell ⟨b,4,none⟩ v4).setCell ⟨b,5,none⟩ v5).setCell ⟨b,6,none⟩ v6).setCell ⟨b,7,none⟩ v7).setCell ⟨b,8,none⟩ v8).setCell ⟨b,9,none⟩ v9).setCell ⟨b,10,none⟩ v10).heap[c]? =W.heap[c]? :=
  (Below.heap_setCell _ _ _ _ h).trans ((Below.heap_setCell _ _ _ _ h).trans ((Below.heap_setCell _ _ _ _ h).trans ((Below.heap_setCell _ _ _ _ h).trans ((Below.heap_setCell _ _ _ _ h).trans ((Below.heap_setCell _ _ _ _ h).trans ((Below.heap_setCell _ _ _ _ h).trans ((Below.heap_setCell _ _ _ _ h).trans ((Below.heap_setCell _ _ _ _ h).trans ((Below.heap_setCell _ _ _ _ h).trans (Below.heap_setCell _ _ _ _ h))))))))))
theorem qcG {W W':World}{base:Nat}{e:TypeId}{size:Nat}{v:Value}{n:Nat}{xs:List Value}(h:W.ownsRow base e size v n xs)(hb: ∀g,base≤g→g<W.heap.size→W'.heap[g]? =W.heap[g]?):W'.ownsRow base e size v n xs:=by
  refine⟨h.1,?_⟩;rcases h.2 with h2|⟨g,cap,cur,h1,h2,h3,h4⟩
  · exact .inl h2
  · exact .inr ⟨g,cap,cur,h1,h2,(hb g h2 (Ai h3).1).trans h3,h4⟩
theorem SideIs.same {W W':World}{base:Nat}{zs:List Int}{v:Value}(h:SideIs base W zs v)(hb: ∀g,base≤g→g<W.heap.size→W'.heap[g]? =W.heap[g]?):SideIs base W' zs v:=by
  rcases h with h|⟨h1,h2⟩
  · exact .inl h
  · exact .inr ⟨h1,qcG h2 hb⟩
theorem qfx {W:World}{b:Nat}{a0 a1 a2 a3 a4 a5 a6 a7 a8 a9 a10:Value}{T:TypeId}(h:W.heap[b]? =some (Obj.cells #[a0,a1,a2,a3,a4,a5,a6,a7,a8,a9,a10] T (0,0))):
    W.cell? ⟨b,0,none⟩=some a0∧W.cell? ⟨b,1,none⟩=some a1∧W.cell? ⟨b,2,none⟩=some a2∧W.cell? ⟨b,3,none⟩=some a3∧W.cell? ⟨b,4,none⟩=some a4∧W.cell? ⟨b,5,none⟩=some a5∧W.cell? ⟨b,6,none⟩=some a6∧W.cell? ⟨b,7,none⟩=some a7∧W.cell? ⟨b,8,none⟩=some a8∧W.cell? ⟨b,9,none⟩=some a9∧W.cell? ⟨b,10,none⟩=some a10∧ ∀i,W.frozen? ⟨b,i,none⟩=false:=by
  have c0:=qa h 0;have c1:=qa h 1;have c2:=qa h 2;have c3:=qa h 3;have c4:=qa h 4;have c5:=qa h 5;have c6:=qa h 6;have c7:=qa h 7;have c8:=qa h 8;have c9:=qa h 9;have c10:=qa h 10;simp only[List.getElem?_toArray,List.getElem?_cons_zero,List.getElem?_cons_succ]at c0 c1 c2 c3 c4 c5 c6 c7 c8 c9 c10;exact⟨c0,c1,c2,c3,c4,c5,c6,c7,c8,c9,c10,fun i=>by simp[World.frozen?,h]⟩
theorem SideIs.form {W:World}{base:Nat}{zs:List Int}{v:Value}(h:SideIs base W zs v): ∃a n c,v= .slice a n c:=by
  rcases h with⟨h, -⟩|⟨-,h2⟩
  · exact⟨_,_,_,h⟩
  · rcases ownsRow_forms h2 with⟨h, -⟩|⟨g,cap,h⟩
    · exact⟨_,_,_,h⟩
    · exact⟨_,_,_,h⟩
theorem SideIs.le {W:World}{base base':Nat}{zs:List Int}{v:Value}(h:SideIs base W zs v)(hb:base'≤base):SideIs base' W zs v:=by
  rcases h with h|⟨h1,h2⟩
  · exact .inl h
  · exact .inr ⟨h1,ownsRow_le h2 hb⟩
def JO (t:TreeV)(row:Int)(at_:Nat)(s p:Value):Value:= .agg #[.int .i64 t.d,.int .i64 t.kl,.int .i64 t.f,.int .i64 t.p,.int .u32 t.l,.int .u64 at_,.int .u32 0,.int .i64 row,.int .i64 t.i,s,p]
theorem qhk {W w1:World}{c b:Nat}(hlt:c<b)(h: ∀o,W.cell? ⟨c,o,none⟩=w1.cell? ⟨c,o,none⟩)(v0 v1 v2 v3 v4 v5 v6 v7 v8 v9 v10:Value)(o:Nat):(((((((((((W.setCell ⟨b,0,none⟩ v0).setCell ⟨b,1,none⟩ v1).setCell ⟨b,2,none⟩ v2).setCell ⟨b,3,none⟩ v3).setCell ⟨b,4,none⟩ v4).setCell ⟨b,5,none⟩ v5).setCell ⟨b,6,none⟩ v6).setCell ⟨b,7,none⟩ v7).setCell ⟨b,8,none⟩ v8).setCell ⟨b,9,none⟩ v9).setCell ⟨b,10,none⟩ v10).cell? ⟨c,o,none⟩=w1.cell? ⟨c,o,none⟩:=
  ((Z4 (Below.refl b W) (Nat.le_refl b) v0 v1 v2 v3 v4 v5 v6 v7 v8 v9 v10).cell (p:=⟨c,o,none⟩) hlt).trans (h o)
theorem qf0 (t:TreeV)(total:Nat)(row:Int)(at_:Nat){z0:Int}{z1 z2 z3:Int}{z4 z5:Bool}{sz pz:List Int}
    (H1:Hid (∀w,Calls Tryz.prog 92 #[t.val,.int .u64 total,.int .i64 row,.int .u64 at_] w fun r w'=>r= .returned (.tuple #[.agg #[.int .i64 z0,.int .u64 z1,.int .u64 z2,.int .u64 z3,.bool z4,.bool z5],.int .i64 0])∧Below w.heap.size w w')) (w:World)
    (hsz:Hid (Holds8 w (.slice t.sa t.sl t.sc) sz)) (hpz:Hid (Holds8 w (.slice t.pa t.pl t.pc) pz)) (hz1:Hid (∀z∈sz,0≤z∧z≤255)) (hz2:Hid (∀z∈pz,0≤z∧z≤255)) (hl1:Hid (sz.length≤65535)) (hl2:Hid (pz.length≤65535)):
    Calls Tryz.prog 130 #[t.val,.int .u64 total,.int .i64 row,.int .u64 at_] w fun r w'=> ∃s p,r= .returned (.tuple #[JO t row at_ s p,.int .i64 0])∧SideIs w.heap.size w' sz s∧SideIs w.heap.size w' pz p∧Below w.heap.size w w':=by
  unfold TreeV.val JO at*;go_enter Tryz.func130,Tryz.ntmps130
  go_wp2_with fail
  refine(H1.out _).mono ?_;rintro r w1 ⟨rfl,hb1⟩;obtain⟨hc,hf1⟩:=yK hb1;have hs1:=hb1.size;simp at hs1
  have k0:w.heap.size<w1.heap.size:=by omega
  have k1:w.heap.size+1<w1.heap.size:=by omega
  have b1:w1.heap[w.heap.size+1]? =some (Obj.cells #[.int .i64 0,.int .i64 0,.int .i64 0,.int .i64 0,.int .u32 0,.int .u64 0,.int .u32 0,.int .i64 0,.int .i64 0,.slice none 0 0,.slice none 0 0] 179 (0,0)):=by
    rw[hb1.block _ (by simp)];exact qD _ _ (by simp)
  have B1:=hid b1;have hBW:Below w.heap.size w w1:=qu _ (Below.trans (Br.alloc Nl _) (hb1.mono (by simp)));clear b1;go_wp2_with fail
  go_region_held3 (fun w'=> ∀o,w'.cell? ⟨w.heap.size,o,none⟩=w1.cell? ⟨w.heap.size,o,none⟩) (first|with_reducible assumption|with_reducible exact qhk (Nat.lt_succ_self _) K3 _ _ _ _ _ _ _ _ _ _ _|(intro o;exact((Below.refl _ w1).alloc Nl _).drew.cell (p:=⟨w.heap.size,o,none⟩) k0)|(intro o;exact(Below.refl _ w1).drew.cell (p:=⟨w.heap.size,o,none⟩) k0)) (first
    | (go_at_call_of 163 (Value.slice t.sa t.sl t.sc);refine(qdb sz _ _ ?_ hz1.out hl1.out).mono ?_;exact qT hsz.out (hBW.trans (by first|exact((Below.refl _ w1).alloc Nl _).drew.mono (by omega)|exact(Below.refl _ w1).drew.mono (by omega)));rintro e w2 ⟨u,rfl,hu,hb2⟩;obtain⟨ua,un,uc,rfl⟩:=hu.form;have hB2:Below w1.heap.size w1 w2:=(by first|exact(((Below.refl _ w1).alloc Nl _).drew).trans (hb2.mono (by simp))|exact(Below.refl _ w1).drew.trans (hb2.mono (by simp)));have K2: ∀o,w2.cell? ⟨w.heap.size,o,none⟩=w1.cell? ⟨w.heap.size,o,none⟩:=fun o=>hB2.cell (p:=⟨w.heap.size,o,none⟩) k0;have hs2:=hB2.size;have hub:w1.heap.size≤w2.heap.size:=hs2)
    | (go_at_call_of 163 (Value.slice t.pa t.pl t.pc);refine(qdb pz _ _ ?_ hz2.out hl2.out).mono ?_;exact qT hpz.out (hBW.trans (hB2.mono (by omega)));rintro e w3 ⟨p,rfl,hp,hb3⟩;obtain⟨pa,pn,pc,rfl⟩:=hp.form;have hB3:Below w1.heap.size w1 w3:=hB2.trans (hb3.mono hs2);have B3:=(hB3.block _ k1).trans B1.out;obtain⟨x0,x1,x2,x3,x4,x5,x6,x7,x8,x9,x10,xf⟩:=qfx B3;have B3:=hid B3;have K3: ∀o,w3.cell? ⟨w.heap.size,o,none⟩=w1.cell? ⟨w.heap.size,o,none⟩:=fun o=>hB3.cell (p:=⟨w.heap.size,o,none⟩) k0;have hs3:=hB3.size;clear hf1))
  go_wp2
  have hu1:=hu.le (base':=w1.heap.size) (by first|(show w1.heap.size≤(w1.alloc _).heap.size;simp)|exact Nat.le_refl _);have hp1:=hp.le (base':=w1.heap.size) hub;refine Bp (ZT rfl rfl rfl (b:=w.heap.size+1) (T:=179) (fr:=(0,0)) (qas B3.out _ _ _ _ _ _ _ _ _ _ _) rfl) rfl ⟨_,_,rfl,(hu1.same fun g g1 g2=>?_).le (by omega),(hp1.same fun g g1 g2=>?_).le (by omega),Z4 (hBW.trans (hB3.mono (by omega))) (by omega) _ _ _ _ _ _ _ _ _ _ _⟩
  · exact(zE (by omega) _ _ _ _ _ _ _ _ _ _ _).trans (hb3.block g g2)
  · exact zE (by omega) _ _ _ _ _ _ _ _ _ _ _
theorem qcz (t:TreeV)(total:Nat)(row:Int)(at_:Nat){z0:Int}{z1 z2 z3:Int}{z4 z5:Bool}{sz pz:List Int}
    (H1:Hid (∀w,Calls Tryz.prog 54 #[t.val,.int .u64 total,.int .i64 row,.int .u64 at_] w fun r w'=>r= .returned (.tuple #[.agg #[.int .i64 z0,.int .u64 z1,.int .u64 z2,.int .u64 z3,.bool z4,.bool z5],.int .i64 0])∧Below w.heap.size w w')) (w:World)
    (hsz:Hid (Holds8 w (.slice t.sa t.sl t.sc) sz)) (hpz:Hid (Holds8 w (.slice t.pa t.pl t.pc) pz)) (hz1:Hid (∀z∈sz,0≤z∧z≤255)) (hz2:Hid (∀z∈pz,0≤z∧z≤255)) (hl1:Hid (sz.length≤65535)) (hl2:Hid (pz.length≤65535)):
    Calls Tryz.prog 132 #[t.val,.int .u64 total,.int .i64 row,.int .u64 at_] w fun r w'=> ∃s p,r= .returned (.tuple #[JO t row at_ s p,.int .i64 0])∧SideIs w.heap.size w' sz s∧SideIs w.heap.size w' pz p∧Below w.heap.size w w':=by
  unfold TreeV.val JO at*;go_enter Tryz.func132,Tryz.ntmps132
  go_wp2_with fail
  refine(H1.out _).mono ?_;rintro r w1 ⟨rfl,hb1⟩;obtain⟨hc,hf1⟩:=yK hb1;have hs1:=hb1.size;simp at hs1
  have k0:w.heap.size<w1.heap.size:=by omega
  have k1:w.heap.size+1<w1.heap.size:=by omega
  have b1:w1.heap[w.heap.size+1]? =some (Obj.cells #[.int .i64 0,.int .i64 0,.int .i64 0,.int .i64 0,.int .u32 0,.int .u64 0,.int .u32 0,.int .i64 0,.int .i64 0,.slice none 0 0,.slice none 0 0] 179 (0,0)):=by
    rw[hb1.block _ (by simp)];exact qD _ _ (by simp)
  have B1:=hid b1;have hBW:Below w.heap.size w w1:=qu _ (Below.trans (Br.alloc Nl _) (hb1.mono (by simp)));clear b1;go_wp2_with fail
  go_region_held3 (fun w'=> ∀o,w'.cell? ⟨w.heap.size,o,none⟩=w1.cell? ⟨w.heap.size,o,none⟩) (first|with_reducible assumption|with_reducible exact qhk (Nat.lt_succ_self _) K3 _ _ _ _ _ _ _ _ _ _ _|(intro o;exact((Below.refl _ w1).alloc Nl _).drew.cell (p:=⟨w.heap.size,o,none⟩) k0)|(intro o;exact(Below.refl _ w1).drew.cell (p:=⟨w.heap.size,o,none⟩) k0)) (first
    | (go_at_call_of 164 (Value.slice t.sa t.sl t.sc);refine(qdH sz _ _ ?_ hz1.out hl1.out).mono ?_;exact qT hsz.out (hBW.trans (by first|exact((Below.refl _ w1).alloc Nl _).drew.mono (by omega)|exact(Below.refl _ w1).drew.mono (by omega)));rintro e w2 ⟨u,rfl,hu,hb2⟩;obtain⟨ua,un,uc,rfl⟩:=hu.form;have hB2:Below w1.heap.size w1 w2:=(by first|exact(((Below.refl _ w1).alloc Nl _).drew).trans (hb2.mono (by simp))|exact(Below.refl _ w1).drew.trans (hb2.mono (by simp)));have K2: ∀o,w2.cell? ⟨w.heap.size,o,none⟩=w1.cell? ⟨w.heap.size,o,none⟩:=fun o=>hB2.cell (p:=⟨w.heap.size,o,none⟩) k0;have hs2:=hB2.size;have hub:w1.heap.size≤w2.heap.size:=hs2)
    | (go_at_call_of 164 (Value.slice t.pa t.pl t.pc);refine(qdH pz _ _ ?_ hz2.out hl2.out).mono ?_;exact qT hpz.out (hBW.trans (hB2.mono (by omega)));rintro e w3 ⟨p,rfl,hp,hb3⟩;obtain⟨pa,pn,pc,rfl⟩:=hp.form;have hB3:Below w1.heap.size w1 w3:=hB2.trans (hb3.mono hs2);have B3:=(hB3.block _ k1).trans B1.out;obtain⟨x0,x1,x2,x3,x4,x5,x6,x7,x8,x9,x10,xf⟩:=qfx B3;have B3:=hid B3;have K3: ∀o,w3.cell? ⟨w.heap.size,o,none⟩=w1.cell? ⟨w.heap.size,o,none⟩:=fun o=>hB3.cell (p:=⟨w.heap.size,o,none⟩) k0;have hs3:=hB3.size;clear hf1))
  go_wp2
  have hu1:=hu.le (base':=w1.heap.size) (by first|(show w1.heap.size≤(w1.alloc _).heap.size;simp)|exact Nat.le_refl _);have hp1:=hp.le (base':=w1.heap.size) hub;refine Bp (ZT rfl rfl rfl (b:=w.heap.size+1) (T:=179) (fr:=(0,0)) (qas B3.out _ _ _ _ _ _ _ _ _ _ _) rfl) rfl ⟨_,_,rfl,(hu1.same fun g g1 g2=>?_).le (by omega),(hp1.same fun g g1 g2=>?_).le (by omega),Z4 (hBW.trans (hB3.mono (by omega))) (by omega) _ _ _ _ _ _ _ _ _ _ _⟩
  · exact(zE (by omega) _ _ _ _ _ _ _ _ _ _ _).trans (hb3.block g g2)
  · exact zE (by omega) _ _ _ _ _ _ _ _ _ _ _
end Go.Proofs.YtahenngmaoellaaGreat

/- Bytes without the noughts at their end, by the program and by the reference. No condition. -/
import Derived.Test.YtdndeffmlhaipaaGreatDoorM22
import Derived.Test.YtdndeffmlhaipaaGreatDoorM17
import Derived.Test.YtdndeffmlhaipaaGreatDoorM18
import Derived.Test.YtdndeffmlhaipaaGreatDoorM14
set_option linter.all false
set_option maxRecDepth 100000
set_option maxHeartbeats 8000000
namespace Go.Proofs.YtdndeffmlhaipaaGreatDoor
open Go.ChangeShapes Go.WideShapes Go.ChangeAt Go.RowKit Go.Joins Go.Shelf Go.Maps
open Go.Lib (hid)
attribute [local go_sem] Oper.semAt_some
def QJ (zs:List Int):Nat→Nat
 | 0=>0
 | k+1=>if qp zs k=0 then QJ zs k else k+1
theorem qa1 (zs:List Int): ∀k,QJ zs k≤k
 | 0=>Nat.le_refl _
 | k+1=>by
  unfold QJ;split
  ·exact Nat.le_succ_of_le (qa1 zs k)
  ·exact Nat.le_refl _
theorem qa3 {w:World}{b off n cap:Nat}{zs:List Int}(h:Qs w b off zs)(hn:n≤zs.length):SrcIs w (.slice (some ⟨b,off,none⟩) n cap) n ((zs.take n).map qv):=by
 refine⟨by simp;omega,?_,.inr ⟨⟨b,off,none⟩,cap,rfl,?_⟩⟩
 ·intro u hu;obtain⟨z, -,rfl⟩:=List.mem_map.1 hu;rfl
 ·intro j u hj;obtain⟨hj1,rfl⟩:=List.getElem?_eq_some_iff.1 hj;simp at hj1
  rw[Go.WideShapes.add_plain,h.2 j (by omega)];simp[qv,qp,Lg,show j<zs.length by omega]
theorem jZ (zs:List Int)(b off cap:Nat)(w:World)(hB:Qs w b off zs)(hcap:zs.length≤cap)(hm:zs.length≤4294967296):
  Calls Tryz.prog 71 #[.slice (some ⟨b,off,none⟩) zs.length cap] w fun e w'=> ∃v',e= .returned v'∧w'.ownsRow w.heap.size 5 1 v' (QJ zs zs.length) ((zs.take (QJ zs zs.length)).map qv)∧Below w.heap.size w w':=by
 obtain⟨i0,hi,hz0,hz1,hz2⟩:=info_parts QH;obtain⟨h1,h2⟩:=id hB;have HC:=hid h2;have HB:=hid hB;clear h2 hB;go_enter Tryz.func71,Tryz.ntmps71
 go_wp2_with fail
 go_loopw [3] (fun i wr=> ∃k:Nat,i= .int .i64 k∧wr=w∧k≤zs.length∧QJ zs k=QJ zs zs.length) (fun i _=>(intOf i).toNat)
 case atStart=>exact⟨zs.length,rfl,rfl,Nat.le_refl _,rfl⟩
 case round=>
  obtain⟨k,rfl,rfl,hk,he0⟩:=hrel;have HE:=hid he0;clear he0
  cases k with
  | zero=>
   have k5:(0:Int)≤cap:=by omega
   have hN:=qa1 zs zs.length;have E0:=hid (show QJ zs zs.length=0 from HE.out.symm);go_wp2_with (at_builtin;refine qG rfl _ _ _ rfl wr wr.heap.size rfl (by repeat(first|exact Below.refl _ _|refine Below.drew ?_)) 5 i0 (.int .u8 0) 1 Tryz.underlying24 hi hz0 hz1 hz2 rfl _ 0 [] rfl (Wo _ _ _ _) _ 0 _ rfl (qa3 (n:=0) HB.out (by omega)) (by unfold maxLen;omega) (by omega) ?_;intro v' w2 hown' hb3)
   go_ret
   refine⟨_,rfl,?_,hb3⟩;rw[E0.out];exact hown'
  | succ j=>
   have hc:=HC.out j (by omega);have k1:((j+1:Nat):Int) - 1=(j:Nat):=by omega
   have k2:0≤(j:Int)∧(j:Int)<4294967296:=by omega
   obtain⟨k3,k4⟩:=k2;have k5:(j:Int)+1≤cap:=by omega
   by_cases hj:qp zs j=0
   ·rw[hj]at hc;go_wp2
    exact⟨⟨j,rfl,by trivial,by omega,by rw[←HE.out];simp[QJ,hj]⟩,by simp[intOf]⟩
   ·have E0:=hid (show j+1=QJ zs zs.length by rw[←HE.out];simp[QJ,hj]);have q:=beq_eq_false_iff_ne.2 hj;have q2:(qp zs j==0)=false:=q;generalize qp zs j=z at hc hj q q2;clear q hj;go_wp2_with (at_builtin;refine qG rfl _ _ _ rfl wr wr.heap.size rfl (by repeat(first|exact Below.refl _ _|refine Below.drew ?_)) 5 i0 (.int .u8 0) 1 Tryz.underlying24 hi hz0 hz1 hz2 rfl _ 0 [] rfl (Wo _ _ _ _) _ (j+1) _ rfl (qa3 (n:=j+1) HB.out (by omega)) (by unfold maxLen;omega) (by omega) ?_;intro v' w2 hown' hb3)
    go_ret
    refine⟨_,rfl,?_,hb3⟩;rw[←E0.out];simpa using hown'
theorem J0 (big:Bool)(a:Option Addr)(n cap:Nat)(w:World):
  Calls Tryz.prog 49 #[.int .i64 (kB big),.slice a n cap] w fun e w'=>(∃x,e= .returned (.int .i64 x)∧(x=0↔n=mB big))∧w'=w:=by
 have hs:=za big
 cases big
 case' false=>
  change ∀w:World,Calls Tryz.prog 50 #[.int .i64 2] w fun e w'=>e= .returned (.tuple #[.int .i64 32,.int .i64 32,.int .i64 8])∧w'=w at hs
  change Calls _ _ #[.int .i64 2,_] _ fun e w'=>(∃x,e= .returned (.int .i64 x)∧(x=0↔n=32))∧_
  obtain⟨N,hN⟩: ∃N:Nat,N=32:=⟨_,rfl⟩
 case' true=>
  change ∀w:World,Calls Tryz.prog 50 #[.int .i64 1] w fun e w'=>e= .returned (.tuple #[.int .i64 64,.int .i64 64,.int .i64 16])∧w'=w at hs
  change Calls _ _ #[.int .i64 1,_] _ fun e w'=>(∃x,e= .returned (.int .i64 x)∧(x=0↔n=64))∧_
  obtain⟨N,hN⟩: ∃N:Nat,N=64:=⟨_,rfl⟩
 all_goals
  by_cases h1:n<N
  case' neg=>by_cases h2:N<n
  all_goals
   subst hN;go_enter Tryz.func49,Tryz.ntmps49
   go_wp2_with fail
   refine(hs _).mono ?_;rintro e w1 ⟨rfl,rfl⟩;go_wp2_with fail
   go_ret
   exact⟨⟨_,rfl,by omega⟩,rfl⟩
def atB (big:Bool):Nat→Nat
 | 1=>0|2=>1|3=>2|4=>3|5=>4|6=>8|7=>12
 | 8=>cond big 16 14
 | _=>cond big 17 15
def szB (big:Bool):Nat→Nat
 | 5=>4
 | 6=>cond big 8 6
 | 7=>cond big 4 2
 | _=>1
def qfn (big:Bool)(w:World)(b:Nat):Prop:=b<w.heap.size∧ ∀f,1≤f→f≤9→w.cell? ⟨b,(f - 1)*5,none⟩=some (.int .i64 f)∧w.cell? ⟨b,(f - 1)*5+1,none⟩=some (.int .i64 (atB big f:Nat))∧w.cell? ⟨b,(f - 1)*5+2,none⟩=some (.int .i64 (szB big f:Nat))
theorem ZM:(Tryz.prog.info? 107).map (fun i=>(i.zero,i.size,i.bytes))=some (some (.agg #[.int .i64 0,.int .i64 0,.int .i64 0,.string ⟨#[]⟩,.int .i64 0]),5,48):=by kernel_rfl
theorem qcF (big:Bool)(w:World):
  Calls Tryz.prog 51 #[.int .i64 (kB big)] w fun e w'=>(∃b,e= .returned (.slice (some ⟨b,0,none⟩) 9 9)∧w.heap.size≤b∧qfn big w' b)∧Below w.heap.size w w':=by
 cases hie:Tryz.prog.info? 107 with
 | none=>have:=ZM;rw[hie]at this;cases this
 | some ie=>
 have hi:=ZM;rw[hie]at hi;simp only[Option.map_some,Option.some.injEq,Prod.mk.injEq]at hi;obtain⟨hz,hsz, -⟩:=hi
 cases big<;>
 ·simp only[kB,cond];go_enter Tryz.func51,Tryz.ntmps51
  go_wp2_with ((with_reducible show wpList _ _ _ (Oper.mk _ (Op.buildSlice _ _ _) _ _ _ _::_) _ _);refine wpList_buildSlice rfl 103 107 9 _ rfl rowCells ie _ Tryz.underlying103 hie hz (by rw[hsz];decide) (by rw[hsz];decide) (by rw[hsz];rfl) ?_)
  go_ret
  refine⟨⟨_,rfl,Nat.le_refl _,by simp,fun f h1 h2=>?_⟩,Br.alloc Nl _⟩;have h:f=1∨f=2∨f=3∨f=4∨f=5∨f=6∨f=7∨f=8∨f=9:=by omega
  rcases h with rfl|rfl|rfl|rfl|rfl|rfl|rfl|rfl|rfl<;>exact⟨(qa (Wn w _) _).trans rfl,(qa (Wn w _) _).trans rfl,(qa (Wn w _) _).trans rfl⟩
theorem qb {p:Nat}{o:Obj}{W W':World}(h:W.heap[p]? =some o)(hb:Below W.heap.size W W'):W'.heap[p]? =some o:=(hb.block p (Ai h).1).trans h
theorem zT {W W':World}{b off:Nat}{zs:List Int}{B:Nat}(h:Qs W b off zs)(hB:W.heap.size≤B)(hb:Below B W W'):Qs W' b off zs:=
 ⟨Nat.lt_of_lt_of_le h.1 hb.size,fun i hi=>(hb.cell (p:=⟨b,off+i,none⟩) (Nat.lt_of_lt_of_le h.1 hB)).trans (h.2 i hi)⟩
theorem qs {W:World}{B n:Nat}{e:TypeId}{v:Value}{xs:List Value}(h:W.ownsRow B e 1 v n xs): ∃a m c,v= .slice a m c:=by
 rcases h.2 with⟨rfl, -⟩|⟨g,cap,cur,rfl, -⟩
 ·exact⟨_,_,_,rfl⟩
 ·exact⟨_,_,_,rfl⟩
def xoZ (big ext:Bool)(zs:List Int):Int:=cond ext (yj zs 12 (szB big 7)) 0
theorem qd4 {zs:List Int}{i at_ n:Nat}(h:i<n):qp ((zs.drop at_).take n) i=qp zs (at_+i):=by
 unfold qp;simp[Lg,List.getElem?_take,h,List.getElem?_drop]
theorem QS {zs:List Int}{at_ n:Nat}(h:at_+n≤zs.length):((zs.drop at_).take n).length=n:=by simp;omega
theorem ZU {W:World}{b off:Nat}{zs:List Int}(h:Qs W b off zs){at_ n:Nat}(hn:at_+n≤zs.length):Qs W b (off+at_) ((zs.drop at_).take n):=
 ⟨h.1,fun i hi=>by
  rw[QS hn]at hi;rw[qd4 hi,Nat.add_assoc];exact h.2 _ (by omega)⟩
theorem J5 (dg ky fo dp lf ofs xo nd inr:Int)(zs1 zs2:List Int)(b1 o1 c1 b2 o2 c2:Nat)(w:World)(h1:Qs w b1 o1 zs1)(h2:Qs w b2 o2 zs2)(hc1:zs1.length≤c1)(hc2:zs2.length≤c2)(hm1:zs1.length≤4294967296)(hm2:zs2.length≤4294967296):
  Calls Tryz.prog 54 #[Zo dg ky fo dp lf ofs xo nd inr (.slice (some ⟨b1,o1,none⟩) zs1.length c1) (.slice (some ⟨b2,o2,none⟩) zs2.length c2)] w fun e w'=> ∃sa pe,e= .returned (Zo dg ky fo dp lf ofs xo nd inr sa pe)∧
   w'.ownsRow w.heap.size 5 1 sa (QJ zs1 zs1.length) ((zs1.take (QJ zs1 zs1.length)).map qv)∧w'.ownsRow w.heap.size 5 1 pe (QJ zs2 zs2.length) ((zs2.take (QJ zs2 zs2.length)).map qv)∧Below w.heap.size w w':=by
 obtain⟨b0,hb0⟩:=Ex w.heap.size;unfold Zo;obtain⟨S1,hS1⟩: ∃v:Value,v= .slice (some ⟨b1,o1,none⟩) zs1.length c1:=⟨_,rfl⟩;obtain⟨S2,hS2⟩: ∃v:Value,v= .slice (some ⟨b2,o2,none⟩) zs2.length c2:=⟨_,rfl⟩;have H1:=hid h1;have H2:=hid h2;clear h1 h2;clear hS1 hS2 S1 S2;have hA1:Below b0 w ((w.alloc (.cells #[.int .i64 dg,.int .i64 ky,.int .i64 fo,.int .i64 dp,.int .u32 lf,.int .u64 ofs,.int .u32 xo,.int .i64 nd,.int .i64 inr,.slice (some ⟨b1,o1,none⟩) zs1.length c1,.slice (some ⟨b2,o2,none⟩) zs2.length c2] 72)).alloc (.cells #[.int .i64 0,.int .i64 0,.int .i64 0,.int .i64 0,.int .u32 0,.int .u64 0,.int .u32 0,.int .i64 0,.int .i64 0,.slice none 0 0,.slice none 0 0] 72)):=by rw[←hb0];exact(Br.alloc Nl _).alloc (by simp) _
 have hR0:((w.alloc (.cells #[.int .i64 dg,.int .i64 ky,.int .i64 fo,.int .i64 dp,.int .u32 lf,.int .u64 ofs,.int .u32 xo,.int .i64 nd,.int .i64 inr,.slice (some ⟨b1,o1,none⟩) zs1.length c1,.slice (some ⟨b2,o2,none⟩) zs2.length c2] 72)).alloc (.cells #[.int .i64 0,.int .i64 0,.int .i64 0,.int .i64 0,.int .u32 0,.int .u64 0,.int .u32 0,.int .i64 0,.int .i64 0,.slice none 0 0,.slice none 0 0] 72)).heap[b0]? =some (.cells #[.int .i64 dg,.int .i64 ky,.int .i64 fo,.int .i64 dp,.int .u32 lf,.int .u64 ofs,.int .u32 xo,.int .i64 nd,.int .i64 inr,.slice (some ⟨b1,o1,none⟩) zs1.length c1,.slice (some ⟨b2,o2,none⟩) zs2.length c2] 72 (0,0)):=(Bh _ _ _ (by simp;omega)).trans (qc _ _ hb0.symm);have hR1:((w.alloc (.cells #[.int .i64 dg,.int .i64 ky,.int .i64 fo,.int .i64 dp,.int .u32 lf,.int .u64 ofs,.int .u32 xo,.int .i64 nd,.int .i64 inr,.slice (some ⟨b1,o1,none⟩) zs1.length c1,.slice (some ⟨b2,o2,none⟩) zs2.length c2] 72)).alloc (.cells #[.int .i64 0,.int .i64 0,.int .i64 0,.int .i64 0,.int .u32 0,.int .u64 0,.int .u32 0,.int .i64 0,.int .i64 0,.slice none 0 0,.slice none 0 0] 72)).heap[b0+1]? =some (.cells #[.int .i64 0,.int .i64 0,.int .i64 0,.int .i64 0,.int .u32 0,.int .u64 0,.int .u32 0,.int .i64 0,.int .i64 0,.slice none 0 0,.slice none 0 0] 72 (0,0)):=qc _ _ (by simp;omega);have hsA:((w.alloc (.cells #[.int .i64 dg,.int .i64 ky,.int .i64 fo,.int .i64 dp,.int .u32 lf,.int .u64 ofs,.int .u32 xo,.int .i64 nd,.int .i64 inr,.slice (some ⟨b1,o1,none⟩) zs1.length c1,.slice (some ⟨b2,o2,none⟩) zs2.length c2] 72)).alloc (.cells #[.int .i64 0,.int .i64 0,.int .i64 0,.int .i64 0,.int .u32 0,.int .u64 0,.int .u32 0,.int .i64 0,.int .i64 0,.slice none 0 0,.slice none 0 0] 72)).heap.size=b0+2:=by simp;omega
 go_enter Tryz.func54,Tryz.ntmps54
 go_upto_region 1 with(fail)
 generalize ((w.alloc (.cells #[.int .i64 dg,.int .i64 ky,.int .i64 fo,.int .i64 dp,.int .u32 lf,.int .u64 ofs,.int .u32 xo,.int .i64 nd,.int .i64 inr,.slice (some ⟨b1,o1,none⟩) zs1.length c1,.slice (some ⟨b2,o2,none⟩) zs2.length c2] 72)).alloc (.cells #[.int .i64 0,.int .i64 0,.int .i64 0,.int .i64 0,.int .u32 0,.int .u64 0,.int .u32 0,.int .i64 0,.int .i64 0,.slice none 0 0,.slice none 0 0] 72))=w1 at*;have B1:Qs w1 b1 o1 zs1:=zT H1.out (by omega) hA1;have B2:Qs w1 b2 o2 zs2:=zT H2.out (by omega) hA1;have c9:=qa hR0 9;have c10:=qa hR0 10;refine qA (n:=7) (w0:=w1) (B:=w1.heap.size) [.v 3 (.pointer (some ⟨b0,9,none⟩)),.v 4 (.slice (some ⟨b1,o1,none⟩) zs1.length c1),.p 5 (fun u W=>W.ownsRow w1.heap.size 5 1 u (QJ zs1 zs1.length) ((zs1.take (QJ zs1 zs1.length)).map qv)),.v 6 (.pointer (some ⟨b0,10,none⟩)),.v 7 (.slice (some ⟨b2,o2,none⟩) zs2.length c2),.p 8 (fun u W=>W.ownsRow w1.heap.size 5 1 u (QJ zs2 zs2.length) ((zs2.take (QJ zs2 zs2.length)).map qv)),.v 9 (.pointer (some ⟨b0,9,none⟩))] (by exact⟨(fun _ _ _ h hb=>qf h (fun g _ g2=>hb.block g g2)),(fun _ _ _ h hb=>qf h (fun g _ g2=>hb.block g g2)),trivial⟩) Br.drew Nl ?_ ?_
 ·repeat' (with_reducible first|exact qt|refine qn ?_ ?_)
  all_goals try
   intro A x W hA hW hBW hdep D K hK;have a1:=hA.2 1 (by decide);conv at a1=>rhs;whnf
   simp only[QI,QU]at D;clear hdep hA;first
   | go_simp
     exact hK _ _ BR rfl
   | have y0:=(hW.cell (p:=⟨b0,9,none⟩) (by show b0<_;omega)).trans c9
     have y1:b0<W.heap.size:=by omega
     have y2:=(hW.cell (p:=⟨b0,10,none⟩) (by show b0<_;omega)).trans c10;go_simp
     exact hK _ _ BR rfl
  ·intro A x W hA hW hBW hdep _ K hK;have g4:=gv hA hdep 1 4;clear hdep hA;go_simp
   refine(jZ zs1 b1 o1 c1 _ (zT B1 Nl hW) hc1 hm1).mono ?_;rintro r w3 ⟨u,rfl,hown,hb⟩
   exact hK _ _ hb (ownsRow_le hown hBW)
  ·intro A x W hA hW hBW hdep _ K hK;have g7:=gv hA hdep 4 7;clear hdep hA;go_simp
   refine(jZ zs2 b2 o2 c2 _ (zT B2 Nl hW) hc2 hm2).mono ?_;rintro r w3 ⟨u,rfl,hown,hb⟩
   exact hK _ _ hb (ownsRow_le hown hBW)
 intro x W hW hBW hall;obtain⟨e5,e8, -⟩:=hall;change (fun u W=>W.ownsRow w1.heap.size 5 1 u (QJ zs1 zs1.length) ((zs1.take (QJ zs1 zs1.length)).map qv)) (x 5) W at e5
 change (fun u W=>W.ownsRow w1.heap.size 5 1 u (QJ zs2 zs2.length) ((zs2.take (QJ zs2 zs2.length)).map qv)) (x 8) W at e8
 have hR0W:W.heap[b0]? =some (.cells #[.int .i64 dg,.int .i64 ky,.int .i64 fo,.int .i64 dp,.int .u32 lf,.int .u64 ofs,.int .u32 xo,.int .i64 nd,.int .i64 inr,.slice (some ⟨b1,o1,none⟩) zs1.length c1,.slice (some ⟨b2,o2,none⟩) zs2.length c2] 72 (0,0)):=(hW.block b0 (by omega)).trans hR0;have hR1W:W.heap[b0+1]? =some (.cells #[.int .i64 0,.int .i64 0,.int .i64 0,.int .i64 0,.int .u32 0,.int .u64 0,.int .u32 0,.int .i64 0,.int .i64 0,.slice none 0 0,.slice none 0 0] 72 (0,0)):=(hW.block (b0+1) (by omega)).trans hR1;refine qh ?_;simp only[Qi,Act.put,Ls];generalize x 5=sa at*;generalize x 8=pe at*;obtain⟨a5,n5,k5,rfl⟩:=qs e5;obtain⟨a8,n8,k8,rfl⟩:=qs e8;have d9:=qa hR0W 9;have d10:=qa hR0W 10;have f9:=frozen_of_row W b0 9 _ _ hR0W;go_wp2_with fail
 have hR2:(W.setCell ⟨b0,9,none⟩ (.slice a5 n5 k5)).heap[b0]? =some (.cells #[.int .i64 dg,.int .i64 ky,.int .i64 fo,.int .i64 dp,.int .u32 lf,.int .u64 ofs,.int .u32 xo,.int .i64 nd,.int .i64 inr,.slice a5 n5 k5,.slice (some ⟨b2,o2,none⟩) zs2.length c2] 72 (0,0)):=heap_setCell_same W b0 9 _ _ _ hR0W;have hR3:(W.setCell ⟨b0,9,none⟩ (.slice a5 n5 k5)).heap[b0+1]? =some (.cells #[.int .i64 0,.int .i64 0,.int .i64 0,.int .i64 0,.int .u32 0,.int .u64 0,.int .u32 0,.int .i64 0,.int .i64 0,.slice none 0 0,.slice none 0 0] 72 (0,0)):=(heap_setCell_other W _ _ _ (by simp)).trans hR1W;have hbW:Below b0 w (W.setCell ⟨b0,9,none⟩ (.slice a5 n5 k5)):=(hA1.trans (hW.mono (by omega))).setCell Nl _;have o5:=ownsRow_setCell_below e5 (a:=⟨b0,9,none⟩) (by show b0<_;omega) (.slice a5 n5 k5);have o8:=ownsRow_setCell_below e8 (a:=⟨b0,9,none⟩) (by show b0<_;omega) (.slice a5 n5 k5);generalize W.setCell ⟨b0,9,none⟩ (.slice a5 n5 k5)=W2 at*;clear d9 d10 f9 hR0W hR1W hW hBW e5 e8;have d10:=qa hR2 10;have f10:=frozen_of_row W2 b0 10 _ _ hR2;refine qh ?_;go_wp2_with fail
 refine qh ?_;go_wp2_with fail
 have hR4:(W2.setCell ⟨b0,10,none⟩ (.slice a8 n8 k8)).heap[b0]? =some (.cells #[.int .i64 dg,.int .i64 ky,.int .i64 fo,.int .i64 dp,.int .u32 lf,.int .u64 ofs,.int .u32 xo,.int .i64 nd,.int .i64 inr,.slice a5 n5 k5,.slice a8 n8 k8] 72 (0,0)):=heap_setCell_same W2 b0 10 _ _ _ hR2;have hR5:(W2.setCell ⟨b0,10,none⟩ (.slice a8 n8 k8)).heap[b0+1]? =some (.cells #[.int .i64 0,.int .i64 0,.int .i64 0,.int .i64 0,.int .u32 0,.int .u64 0,.int .u32 0,.int .i64 0,.int .i64 0,.slice none 0 0,.slice none 0 0] 72 (0,0)):=(heap_setCell_other W2 _ _ _ (by simp)).trans hR3;have hb3:=hbW.setCell (p:=⟨b0,10,none⟩) Nl (.slice a8 n8 k8);have q5:=ownsRow_setCell_below o5 (a:=⟨b0,10,none⟩) (by show b0<_;omega) (.slice a8 n8 k8);have q8:=ownsRow_setCell_below o8 (a:=⟨b0,10,none⟩) (by show b0<_;omega) (.slice a8 n8 k8);generalize W2.setCell ⟨b0,10,none⟩ (.slice a8 n8 k8)=W3 at*;clear d10 f10 hR2 hR3 hbW o5 o8 c9 c10;refine qo ?_;go_wp2_with (first|((with_reducible show wpList _ _ _ (Oper.mk _ (Op.load _ _) _ _ _ _::_) _ _);refine wpList_load_row rfl 72 _ rfl b0 rfl _ _ _ _ hR4 Tryz.underlying72 rfl (by kernel_rfl) ?_)|((with_reducible show wpList _ _ _ (Oper.mk _ (Op.store _ _ _) _ _ _ _::_) _ _);refine wpList_store_row rfl 72 _ _ rfl (b0+1) #[.int .i64 dg,.int .i64 ky,.int .i64 fo,.int .i64 dp,.int .u32 lf,.int .u64 ofs,.int .u32 xo,.int .i64 nd,.int .i64 inr,.slice a5 n5 k5,.slice a8 n8 k8] rfl rfl 72 _ hR5 (by kernel_rfl) rfl (by simp[Value.oneCell']) ?_))
 have own': ∀{v:Value} {n:Nat} {xs:List Value},W3.ownsRow w1.heap.size 5 1 v n xs→(W3.setRow (b0+1) #[.int .i64 dg,.int .i64 ky,.int .i64 fo,.int .i64 dp,.int .u32 lf,.int .u64 ofs,.int .u32 xo,.int .i64 nd,.int .i64 inr,.slice a5 n5 k5,.slice a8 n8 k8]).ownsRow w1.heap.size 5 1 v n xs:=fun h=>qf h (fun g g1 _=>setRow_other _ _ _ _ (by omega))
 exact Bp (results_cell_row rfl _ _ (b0+1) _ _ _ _ rfl (setRow_heap W3 (b0+1) _ #[.int .i64 dg,.int .i64 ky,.int .i64 fo,.int .i64 dp,.int .u32 lf,.int .u64 ofs,.int .u32 xo,.int .i64 nd,.int .i64 inr,.slice a5 n5 k5,.slice a8 n8 k8] _ _ hR5) Tryz.underlying72 rfl (by kernel_rfl)) rfl ⟨_,_,rfl,ownsRow_le (own' q5) (by omega),ownsRow_le (own' q8) (by omega),by rw[hb0];exact below_setRow hb3 (by omega) _⟩
end Go.Proofs.YtdndeffmlhaipaaGreatDoor

/- clash.Tree, clash.Depth. No condition. -/
import Derived.Test.YtdndeffmlhaipaaGreatDoorM42
import Derived.Test.YtdndeffmlhaipaaGreatDoorM43
import Derived.Test.YtdndeffmlhaipaaGreatDoorM36
import Derived.Test.YtdndeffmlhaipaaGreatDoorM32
import Derived.Test.YtdndeffmlhaipaaGreatDoorM29
set_option linter.all false
set_option maxRecDepth 100000
set_option maxHeartbeats 8000000
namespace Go.Proofs.YtdndeffmlhaipaaGreatDoor
open Go.ChangeShapes Go.WideShapes Go.ChangeAt Go.RowKit Go.Joins Go.Shelf Go.Maps
open Go.Lib (hid)
attribute [local go_sem] Oper.semAt_some
def zeroC:Array Value:= #[.int .i64 0,.slice none 0 0,.slice none 0 0,.bool false,.int .i64 0,.slice none 0 0]
def JM (c1 c2:Array Value)(r i:Int):Array Value:=c1++c2++ #[.int .i64 r,.int .u64 i]
def Zg (c:Array Value):Prop:=c.size=6∧c.all (·.oneCell')=true
def PartSays (t:TreeV)(kz z1 z2 xs ys:List Int)(c1 c2:Array Value)(r i:Int)(W:World):Prop:=
 Zg c1∧Zg c2∧((t.clashE kz z1 z2 xs ys≠0∧c1=zeroC∧c2=zeroC∧r=0∧i=0)∨(t.clashE kz z1 z2 xs ys=0∧ ∃a b row at_,t.diffT kz z1 z2 xs ys=some (a,b,row,at_)∧CallM W (.agg c1) a∧CallM W (.agg c2) b∧r=(row:Nat)∧i=(at_:Nat)))
theorem Jw:Zg zeroC:=⟨rfl,by kernel_rfl⟩
theorem qbx {W:World}{k o:Int}{la:Bool}{bv kv dv:Value}{b q d:List Int}(h1:Hold W bv b)(h2:Hold W kv q)(h3:Hold W dv d):Zg (qx k bv kv la o dv):=by
 refine⟨rfl,?_⟩;unfold qx;simp[yd h1,yd h2,yd h3]
 simp[Value.oneCell']
theorem qcx (t:TreeV)(kz z1 z2 xs ys:List Int)(xa ya:Option Addr)(xc yc:Nat)(w:World)(hl:0≤t.l∧t.l≤4294967295)(hk:Hold w (.slice t.ka t.kl t.kc) kz)(hs:Hold w (.slice t.sa t.sl t.sc) z1)(hp:Hold w (.slice t.pa t.pl t.pc) z2)(hx:Hold w (.slice xa xs.length xc) xs)(hy:Hold w (.slice ya ys.length yc) ys)(hxn:xs.length≤4194304)(hyn:ys.length≤4194304):
  Calls Tryz.prog 30 #[t.val,.slice xa xs.length xc,.slice ya ys.length yc] w fun e w'=>(∃c1 c2 r i,e= .returned (.tuple #[.agg (JM c1 c2 r i),.int .i64 (t.clashE kz z1 z2 xs ys)])∧PartSays t kz z1 z2 xs ys c1 c2 r i w')∧Below w.heap.size w w':=by
 refine(qet t kz z1 z2 xs ys xa ya xc yc w hl hk hs hp hx hy hxn hyn).mono ?_;rintro e w' ⟨⟨c,rfl,h⟩,hb⟩
 refine⟨?_,hb⟩;rcases h with⟨h1,rfl⟩|⟨h1,s,a,b,row,i,hd,hF⟩
 ·exact⟨zeroC,zeroC,0,0,rfl,Jw,Jw,.inl ⟨h1,rfl,rfl,rfl,rfl⟩⟩
 ·obtain⟨b1,k1,d1,b2,k2,d2,rfl,q1,q2,q3,q4,q5,q6⟩:=hF;exact⟨qx a.k b1 k1 a.la a.o d1,qx b.k b2 k2 b.la b.o d2,_,_,rfl,qbx q1.1 q2.1 q3.1,qbx q4.1 q5.1 q6.1,.inr ⟨h1,a,b,row,i,hd,⟨_,_,_,rfl,q1.1,q2.1,q3.1⟩,⟨_,_,_,rfl,q4.1,q5.1,q6.1⟩,rfl,rfl⟩⟩
theorem qfd {c1 c2:Array Value}{r i:Int}(h:Zg c1): ∀j,j<c1.size→(JM c1 c2 r i)[0+j]? =c1[j]? :=by
 intro j hj;unfold JM;rw[Nat.zero_add,Array.append_assoc,Array.getElem?_append_left hj]
theorem qfc {c1 c2:Array Value}{r i:Int}(h:Zg c1): ∀j,j<c2.size→(JM c1 c2 r i)[6+j]? =c2[j]? :=by
 intro j hj;unfold JM;have e:=h.1;rw[Array.getElem?_append_left (by rw[Array.size_append];omega),Array.getElem?_append_right (by omega),e,Nat.add_sub_cancel_left]
theorem qc2 {c1 c2:Array Value}{r i:Int}(h1:Zg c1)(h2:Zg c2):(JM c1 c2 r i).size=14:=by
 have e1:=h1.1;have e2:=h2.1;unfold JM;rw[Array.size_append,Array.size_append,e1,e2];rfl
theorem qdL {c1 c2:Array Value}{r i:Int}(h1:Zg c1)(h2:Zg c2):(JM c1 c2 r i).all (·.oneCell')=true:=by
 unfold JM;rw[Array.all_append,Array.all_append,h1.2,h2.2];simp[Value.oneCell']
def GT (p9 p6 p7:Nat)(c1 c2:Array Value)(E:Int):Nat→Value→World→Prop
 | 0,v,_=>v= .pointer (some ⟨p9,0,none⟩)
 | 1,v,_=>v= .agg c1
 | 2,v,_=>v= .pointer (some ⟨p9,6,none⟩)
 | 3,v,_=>v= .agg c2
 | 4,v,_=>v= .int .i64 E
 | 5,_,W=>W.heap[p6]? =some (.cells c1 40 (0,0))
 | 6,_,W=>W.heap[p7]? =some (.cells c2 40 (0,0))
 | 7,v,_=>v= .int .i64 E
 | _,_,_=>True
def RT (p9 p6 p7:Nat)(c:Array Value)(w0 W:World):Prop:=Spare (fun k=>k≠p6∧k≠p7) w0 W∧W.heap[p9]? =some (.cells c 68 (0,0))∧(∃o,W.heap[p6]? =some (.cells o 40 (0,0))∧o.size=6)∧ ∃o,W.heap[p7]? =some (.cells o 40 (0,0))∧o.size=6
theorem Q6 {S:Nat→Prop}{W W':World}{v:Value}{zs:List Int}(h:Hold W v zs)(hS:Spare S W W')(hg: ∀(k:Nat) (c:Array Value) (T:TypeId) (fr:Nat×Nat),W.heap[k]? =some (.cells c T fr)→ ¬S k→ ∀(i:Nat) (z:Int),c[i]? ≠some (Value.int .u8 z)):Hold W' v zs:=by
 refine⟨h.1,h.2.imp_right ?_⟩;rintro⟨ad,cap,e,h1,h2,h3⟩
 refine⟨ad,cap,e,h1,h2,?_⟩;by_cases h0:zs=[]
 ·exact .inl h0
 obtain⟨b,off,rfl,h3,h4⟩:=h3.resolve_left h0;have hp:0<zs.length:=List.length_pos_iff.2 h0;obtain⟨o,ho⟩: ∃o,W.heap[b]? =some o:=⟨_,Array.getElem?_eq_getElem h3⟩;have h40:=h4 0 hp;obtain⟨c,T,fr,rfl⟩: ∃c T fr,o= .cells c T fr:=by
  unfold World.cell? at h40;rw[show W.heap[(⟨b,off+0,none⟩:Addr).block]? =some o from ho]at h40
  cases o<;>simp at h40
  exact⟨_,_,_,rfl⟩
 have hb:S b:=Classical.byContradiction fun hn=>hg b c T fr ho hn (off+0) _ (by rw[←qa ho];exact h40)
 have hw:W'.heap[b]? =some (.cells c T fr):=(hS.block b h3 hb).trans ho;refine .inr ⟨b,off,rfl,Nat.lt_of_lt_of_le h3 hS.size,fun i hi=>?_⟩;rw[qa hw,←qa ho];exact h4 i hi
theorem qaX (i:Nat)(z:Int):zeroC[i]? ≠some (Value.int .u8 z):=by
 intro h;obtain⟨hi,h⟩:=Ai h;have k:=Array.all_eq_true.1 (show zeroC.all (fun v=>match v with| .int .u8 _=>false|_=>true)=true from by kernel_rfl) i hi;rw[h]at k
 cases k
theorem PartSays.spare {t:TreeV}{kz z1 z2 xs ys:List Int}{c1 c2:Array Value}{r i:Int}{S:Nat→Prop}{W W':World}(h:PartSays t kz z1 z2 xs ys c1 c2 r i W)(hS:Spare S W W')(hg: ∀(k:Nat) (c:Array Value) (T:TypeId) (fr:Nat×Nat),W.heap[k]? =some (.cells c T fr)→ ¬S k→ ∀(i:Nat) (z:Int),c[i]? ≠some (Value.int .u8 z)):PartSays t kz z1 z2 xs ys c1 c2 r i W':=by
 obtain⟨h1,h2,h3⟩:=h;refine⟨h1,h2,h3.imp_right ?_⟩;rintro⟨h4,a,b,row,at_,h5,⟨u1,u2,u3,e1,q1,q2,q3⟩,⟨v1,v2,v3,e2,q4,q5,q6⟩,h8⟩
 exact⟨h4,a,b,row,at_,h5,⟨u1,u2,u3,e1,Q6 q1 hS hg,Q6 q2 hS hg,Q6 q3 hS hg⟩,⟨v1,v2,v3,e2,Q6 q4 hS hg,Q6 q5 hS hg,Q6 q6 hS hg⟩,h8⟩
theorem qb5 {fn:Func}{p q u:Tmp}(h:fn.results= #[.cell p 40,.cell q 40,.tmp u])(tmps:Array Value)(w:World)(p6 p7:Nat)(c1 c2:Array Value)(hp:tmps.getD p undef= .pointer (some ⟨p6,0,none⟩))(hq:tmps.getD q undef= .pointer (some ⟨p7,0,none⟩))(h6:w.heap[p6]? =some (.cells c1 40 (0,0)))(h7:w.heap[p7]? =some (.cells c2 40 (0,0)))(e1:c1.size=6)(e2:c2.size=6):(results fn tmps).run Tryz.prog w= .ok (.tuple #[.agg c1,.agg c2,tmps.getD u undef]) w:=by
 have hp':tmps[p]?.getD undef= .pointer (some ⟨p6,0,none⟩):=by simpa using hp
 have hq':tmps[q]?.getD undef= .pointer (some ⟨p7,0,none⟩):=by simpa using hq
 have k1:=run_loadVar_row (P:=Tryz.prog) w p6 40 40 c1 (0,0) _ h6 Tryz.underlying40 rfl (by rw[e1];kernel_rfl);have k2:=run_loadVar_row (P:=Tryz.prog) w p7 40 40 c2 (0,0) _ h7 Tryz.underlying40 rfl (by rw[e2];kernel_rfl);simp[results,h,hp',hq',asAddr,k1,k2,Sem.run_bind,Result.andThen]
theorem PartSays.below {t:TreeV}{kz z1 z2 xs ys:List Int}{c1 c2:Array Value}{r i:Int}{W W':World}(h:PartSays t kz z1 z2 xs ys c1 c2 r i W)(hb:Below W.heap.size W W'):PartSays t kz z1 z2 xs ys c1 c2 r i W':=by
 obtain⟨h1,h2,h3⟩:=h;refine⟨h1,h2,h3.imp_right ?_⟩;rintro⟨h4,a,b,row,at_,h5,h6,h7,h8⟩
 exact⟨h4,a,b,row,at_,h5,h6.below hb,h7.below hb,h8⟩
theorem qaQ (t:TreeV)(kz z1 z2 xs ys:List Int)(xa ya:Option Addr)(xc yc:Nat)(w:World)(hl:0≤t.l∧t.l≤4294967295)(hk:Hold w (.slice t.ka t.kl t.kc) kz)(hs:Hold w (.slice t.sa t.sl t.sc) z1)(hp:Hold w (.slice t.pa t.pl t.pc) z2)(hx:Hold w (.slice xa xs.length xc) xs)(hy:Hold w (.slice ya ys.length yc) ys)(hxn:xs.length≤4194304)(hyn:ys.length≤4194304):
  Calls Tryz.prog 14 #[t.val,.slice xa xs.length xc,.slice ya ys.length yc] w fun e w'=>(∃c1 c2 r i,e= .returned (.tuple #[.agg c1,.agg c2,.int .i64 (t.clashE kz z1 z2 xs ys)])∧PartSays t kz z1 z2 xs ys c1 c2 r i w')∧Below w.heap.size w w':=by
 obtain⟨b0,hb0⟩:=Ex w.heap.size;have HB:=hid (fun(W:World) (hb:Below b0 w W)=>qcx t kz z1 z2 xs ys xa ya xc yc W hl (hk.below (hb0▸hb)) (hs.below (hb0▸hb)) (hp.below (hb0▸hb)) (hx.below (hb0▸hb)) (hy.below (hb0▸hb)) hxn hyn);clear hx hy hl hk hs hp;obtain⟨E,hE⟩:=Ex (t.clashE kz z1 z2 xs ys);rw[hE];unfold TreeV.val;go_enter Tryz.func14,Tryz.ntmps14
 go_upto_region 1 with(fail)
 refine qj ?_;intro wA hwA;have hrA:wA.heap[b0]? =some (.cells #[.int .i64 t.k,.int .i64 t.d,.int .i64 t.f,.int .i64 t.p,.int .u32 t.l,.int .i64 t.i,.slice t.ka t.kl t.kc,.slice t.sa t.sl t.sc,.slice t.pa t.pl t.pc] 26 (0,0)):=by rw[hwA];exact Q3 (Q3 (qN hb0))
 have h6A:wA.heap[b0+1]? =some (.cells zeroC 40 (0,0)):=by rw[hwA];exact Q3 (qN (by rw[qw,hb0]))
 have h7A:wA.heap[b0+1+1]? =some (.cells zeroC 40 (0,0)):=by rw[hwA];exact qN (by rw[qw,qw,hb0])
 have hsA:wA.heap.size=b0+3:=by rw[hwA,qw,qw,qw,hb0]
 have hbA:Below b0 w wA:=by rw[hwA,←hb0];exact((Br.alloc Nl _).alloc (by simp) _).alloc (by simp;omega) _
 clear hwA;go_wp2_with ((with_reducible show wpList _ _ _ (Oper.mk _ (Op.load 26 _) _ _ _ _::_) _ _);refine wpList_load_row rfl 26 _ rfl b0 rfl _ _ _ _ hrA Tryz.underlying26 rfl (by kernel_rfl) ?_)
 refine(HB.out _ hbA).mono ?_;rintro e w1 ⟨⟨c1,c2,r,i,rfl,hP⟩,hb1⟩;rw[hE];rw[hsA]at hb1;have h61:=(hb1.block _ (by omega)).trans h6A;have h71:=(hb1.block _ (by omega)).trans h7A;have hs1:b0+3≤w1.heap.size:=by have:=hb1.size;omega
 have hbW1:=hbA.trans (hb1.mono (by omega));clear hrA h6A h7A hbA hb1 HB;obtain⟨c,hc⟩:=Ex (JM c1 c2 r i);rw[hc];have hW1:=hP.1;have hW2:=hP.2.1;have hcs:c.size=14:=by rw[←hc];exact qc2 hW1 hW2
 have hc1:c.all (·.oneCell')=true:=by rw[←hc];exact qdL hW1 hW2
 have hoc:zeroF.size=c.size:=by rw[hcs];rfl
 have hfi:(Tryz.prog.info? 68).map (·.size)=some c.size:=by rw[hcs];kernel_rfl
 have HP:=hid hP;obtain⟨b4,hb4⟩:=Ex w1.heap.size;clear hP hW1 hW2;go_upto_region 2 with((with_reducible show wpList _ _ _ (Oper.mk none (Op.store 68 _ _) _ _ _ _::_) _ _);refine wpList_store_row rfl 68 _ _ rfl b4 c rfl rfl 68 zeroF (qN hb4) hfi hoc hc1 ?_)
 refine qj ?_;intro wD hwD;have h9D:wD.heap[b4]? =some (.cells c 68 (0,0)):=by rw[hwD];exact setRow_heap _ b4 zeroF c _ _ (qN hb4)
 have hBD:Below b4 w1 wD:=by rw[hwD];exact(show Below b4 w1 (w1.alloc (.cells zeroF 68)) by rw[←hb4];exact Br.alloc Nl _).trans ((Spare.of_but (But.of_setRow _ b4 c)).below (by rw[qw];omega) fun k hk=>by omega)
 have h6D:=(hBD.block _ (by omega)).trans h61;have h7D:=(hBD.block _ (by omega)).trans h71;have hPD:=HP.out.below (by rw[hb4];exact hBD);have hbD:=hbW1.trans (hBD.mono (by omega));have hne:b4≠b0+1∧b4≠b0+1+1:=by omega
 have hsD:=hBD.size;have hsz:b4<wD.heap.size:=(Ai h9D).1;clear hwD hBD h61 h71 hbW1;have hW1:=hPD.1;have hW2:=hPD.2.1;have HPD:=hid hPD;have HBD:=hid hbD;have hg1: ∀j,j<c1.size→c[0+j]? =c1[j]? :=by rw[←hc];exact qfd hW1
 have hg2: ∀j,j<c2.size→c[6+j]? =c2[j]? :=by rw[←hc];exact qfc hW1
 clear hPD hbD;refine jW (ds:=[18,19,20,21,22,8]) (R:=RT b4 (b0+1) (b0+1+1) c wD) (Good:=GT b4 (b0+1) (b0+1+1) c1 c2 E) rfl rfl rfl (by decide) (by kernel_rfl) (by kernel_rfl) ?_ ?_ ?_ ?_
 ·exact⟨⟨rfl,rfl,rfl,Nat.le_refl _,fun _ _ _=>rfl⟩,h9D,⟨_,h6D,rfl⟩,⟨_,h7D,rfl⟩⟩
 ·intro i o ho A x W hL hR hdep K hK;obtain⟨hS,h9,⟨o6,h6,s6⟩,o7,h7,s7⟩:=id hR;rcases i with _|_|_|_|_|_|_|_|i
  ·obtain rfl:=Option.some.inj ho;have a9:=hL.2 9 (by decide);conv at a9=>rhs;whnf
   clear hdep hL;go_simp
   exact hK _ _ hR (fun _ _ _ h=>h) rfl
  ·obtain rfl:=Option.some.inj ho;have g0:A.tmps.getD 18 undef= .pointer (some ⟨b4,0,none⟩):=(hL.1 18 (by decide)).trans (hdep ⟨0,.data⟩ (by simp) rfl _ rfl);clear hdep hL;exact qF 40 _ rfl b4 0 g0 68 c c1 (0,0) _ h9 Tryz.underlying40 rfl (by rw[hW1.1];kernel_rfl) hg1 (hK _ _ hR (fun _ _ _ h=>h) rfl)
  ·obtain rfl:=Option.some.inj ho;have a9:=hL.2 9 (by decide);conv at a9=>rhs;whnf
   clear hdep hL;go_simp
   exact hK _ _ hR (fun _ _ _ h=>h) rfl
  ·obtain rfl:=Option.some.inj ho;have g0:A.tmps.getD 20 undef= .pointer (some ⟨b4,6,none⟩):=(hL.1 20 (by decide)).trans (hdep ⟨2,.data⟩ (by simp) rfl _ rfl);clear hdep hL;exact qF 40 _ rfl b4 6 g0 68 c c2 (0,0) _ h9 Tryz.underlying40 rfl (by rw[hW2.1];kernel_rfl) hg2 (hK _ _ hR (fun _ _ _ h=>h) rfl)
  ·obtain rfl:=Option.some.inj ho;have a10:=hL.2 10 (by decide);conv at a10=>rhs;whnf
   clear hdep hL;go_simp
   exact hK _ _ hR (fun _ _ _ h=>h) rfl
  ·obtain rfl:=Option.some.inj ho;have a6:=hL.2 6 (by decide);conv at a6=>rhs;whnf
   have g0:A.tmps.getD 19 undef= .agg c1:=(hL.1 19 (by decide)).trans (hdep ⟨1,.data⟩ (by simp) rfl _ rfl);clear hdep hL;refine wp_store_row 40 _ _ rfl (b0+1) c1 a6 g0 40 o6 h6 (by rw[hW1.1];kernel_rfl) (by rw[hW1.1,s6]) hW1.2 (hK undef _ ?_ ?_ ?_)
   ·exact⟨(Spare.refl (fun k=>k≠b0+1∧k≠b0+1+1) wD).trans (hS.trans (Spare.of_but (But.of_setRow W (b0+1) c1)) (fun b _ h=>by first|exact h.1|exact h.2)) (fun b _ h=>h),(setRow_other W (b0+1) b4 c1 (by omega)).trans h9,⟨_,setRow_heap W (b0+1) o6 c1 _ _ h6,hW1.1⟩,⟨_,(setRow_other W (b0+1) _ c1 (by omega)).trans h7,s7⟩⟩
   ·intro j u hj hg;rcases j with _|_|_|_|_|_|_|_|j
    all_goals first|exact hg|exact absurd rfl hj|exact(setRow_other W (b0+1) _ c1 (by omega)).trans hg
   ·exact setRow_heap W (b0+1) o6 c1 _ _ h6
  ·obtain rfl:=Option.some.inj ho;have a7:=hL.2 7 (by decide);conv at a7=>rhs;whnf
   have g0:A.tmps.getD 21 undef= .agg c2:=(hL.1 21 (by decide)).trans (hdep ⟨3,.data⟩ (by simp) rfl _ rfl);clear hdep hL;refine wp_store_row 40 _ _ rfl (b0+1+1) c2 a7 g0 40 o7 h7 (by rw[hW2.1];kernel_rfl) (by rw[hW2.1,s7]) hW2.2 (hK undef _ ?_ ?_ ?_)
   ·exact⟨(Spare.refl (fun k=>k≠b0+1∧k≠b0+1+1) wD).trans (hS.trans (Spare.of_but (But.of_setRow W (b0+1+1) c2)) (fun b _ h=>by first|exact h.1|exact h.2)) (fun b _ h=>h),(setRow_other W (b0+1+1) b4 c2 (by omega)).trans h9,⟨_,(setRow_other W (b0+1+1) _ c2 (by omega)).trans h6,s6⟩,⟨_,setRow_heap W (b0+1+1) o7 c2 _ _ h7,hW2.1⟩⟩
   ·intro j u hj hg;rcases j with _|_|_|_|_|_|_|_|j
    all_goals first|exact hg|exact absurd rfl hj|exact(setRow_other W (b0+1+1) _ c2 (by omega)).trans hg
   ·exact setRow_heap W (b0+1+1) o7 c2 _ _ h7
  ·obtain rfl:=Option.some.inj ho;have g0:A.tmps.getD 22 undef= .int .i64 E:=(hL.1 22 (by decide)).trans (hdep ⟨4,.data⟩ (by simp) rfl _ rfl);clear hdep hL;go_simp
   exact hK _ _ hR (fun _ _ _ h=>h) rfl
  ·cases ho
 ·intro i o v W hi hd hg;rcases i with _|_|_|_|_|_|_|_|i
  all_goals first|exact hg|(obtain rfl:=Option.some.inj hi;cases hd)|cases hi
 ·intro x W hR hG;obtain⟨hS,h9,⟨o6,h6,s6⟩,o7,h7,s7⟩:=hR;have k5:W.heap[b0+1]? =some (.cells c1 40 (0,0)):=hG 5 _ rfl;have k6:W.heap[b0+1+1]? =some (.cells c2 40 (0,0)):=hG 6 _ rfl;have k7:x 8= .int .i64 E:=hG 7 _ rfl;clear hG;simp only[lay,Act.put,Ls,k7];go_wp2_with fail
  refine Bp (qb5 (fn:=Tryz.f14) rfl _ _ (b0+1) (b0+1+1) c1 c2 rfl rfl k5 k6 hW1.1 hW2.1) rfl ?_;refine⟨⟨c1,c2,r,i,rfl,HPD.out.spare hS fun k c' T fr hk hn=>?_⟩,by rw[hb0];exact HBD.out.trans (hS.below (by omega) fun k hk=>⟨by omega,by omega⟩)⟩;by_cases e1:k=b0+1
  ·rw[e1,h6D]at hk;simp only[Option.some.injEq,Obj.cells.injEq]at hk;obtain⟨rfl, -⟩:=hk;exact qaX
  by_cases e2:k=b0+1+1
  ·rw[e2,h7D]at hk;simp only[Option.some.injEq,Obj.cells.injEq]at hk;obtain⟨rfl, -⟩:=hk;exact qaX
  ·exact absurd ⟨e1,e2⟩ hn
theorem zI (zs:List Int)(u v:Value)(w:World)(hu:Hold w u zs)(hv:Hold w v zs):
  Calls Tryz.prog 6 #[u,v] w fun e w'=>e= .returned (.bool true)∧ ∃m,w'=w.drewN m:=by
 have hl:(zs.length:Int)≤9223372036854775807:=by obtain⟨a,c, -,h1,h2⟩:=hu.slice;omega
 obtain⟨a,cap,rfl,h⟩:=hu.holds8;obtain⟨a',cap',rfl,h'⟩:=hv.holds8;clear hu hv;by_cases h0:zs=[]
 ·subst h0;clear h h';go_enter Tryz.func6,Tryz.ntmps6
  go_wp2_with fail
  go_loopw [5] (fun i wr=>i= .int .i64 0∧w=wr) (fun _ _=>0)
  case atStart=>exact⟨rfl,rfl⟩
  case round=>
   obtain⟨rfl,rfl⟩:=hrel;go_wp2
   go_ret
   exact⟨rfl,0,rfl⟩
 ·obtain⟨b,off,rfl,hb1,hb2⟩:=h.resolve_left h0;obtain⟨b',off',rfl,hb1',hb2'⟩:=h'.resolve_left h0;have H2:=hid hb2;have H2':=hid hb2';clear h h' hb2 hb2';go_enter Tryz.func6,Tryz.ntmps6
  go_wp2_with fail
  go_loopw [5] (fun i wr=> ∃(k n:Nat),i= .int .i64 k∧k≤zs.length∧wr=w.drewN n) (fun i _=>zs.length - (intOf i).toNat)
  case atStart=>exact⟨0,0,rfl,Nat.zero_le _,rfl⟩
  case round=>
   obtain⟨k,n,rfl,hk,rfl⟩:=hrel;by_cases hlt:k<zs.length
   ·have e1:w.cell? ⟨b,off+k,none⟩=some (.int .u8 (qp zs k)):=H2.out k hlt;have e2:w.cell? ⟨b',off'+k,none⟩=some (.int .u8 (qp zs k)):=H2'.out k hlt;go_wp2
    go_quiet (fail)
    go_wp2
    exact⟨⟨k+1,n+nq,by go_num,by omega,rfl⟩,by simp[intOf];omega⟩
   ·obtain rfl:k=zs.length:=by omega
    go_wp2
    go_ret
    exact⟨rfl,n,rfl⟩
theorem zu (zs:List Int)(v:Value)(w:World)(h:Hold w v zs)(hn:zs.length≤70368744177664):
  Calls Tryz.prog 23 #[v] w fun e w'=> ∃u,e= .returned u∧OwnB w.heap.size w' u zs∧Below w.heap.size w w':=by
 obtain⟨i0,hi,hz0,hz1,hz2⟩:=info_parts QH;have HS:=hid h.src;have HB:=hid h.1;obtain⟨a,c,rfl, -, -⟩:=h.slice;clear h;go_enter Tryz.func23,Tryz.ntmps23
 go_wp2_with (at_builtin;refine qG rfl _ _ _ rfl w w.heap.size rfl Br 5 i0 (.int .u8 0) 1 Tryz.underlying24 hi hz0 hz1 hz2 rfl _ 0 [] rfl (Wo _ _ _ _) _ _ _ rfl HS.out (by unfold maxLen;omega) (by omega) ?_;intro v' w' hown' hb')
 go_ret
 rw[Nat.zero_add,List.nil_append]at hown';exact⟨_,rfl,⟨HB.out,yW hown'⟩,hb'⟩
theorem qa8 (t:TreeV)(kz z1 z2:List Int)(w:World)(h1:Hold w (.slice t.ka t.kl t.kc) kz)(h2:Hold w (.slice t.sa t.sl t.sc) z1)(h3:Hold w (.slice t.pa t.pl t.pc) z2)(hk:t.kl≤70368744177664)(hs:t.sl≤70368744177664)(hp:t.pl≤70368744177664):
  Calls Tryz.prog 10 #[t.val] w fun e w'=> ∃u,e= .returned u∧ZW t kz z1 z2 w.heap.size w' u∧Below w.heap.size w w':=by
 obtain⟨b0,hb0⟩:=Ex w.heap.size;have e1:=Qf h1;have e2:=Qf h2;have e3:=Qf h3;have HC1:=hid (fun(W:World) (hb:Below b0 w W)=>zu kz _ W (h1.below (hb0▸hb)) (by omega));have HC2:=hid (fun(W:World) (hb:Below b0 w W)=>zu z1 _ W (h2.below (hb0▸hb)) (by omega));have HC3:=hid (fun(W:World) (hb:Below b0 w W)=>zu z2 _ W (h3.below (hb0▸hb)) (by omega));have E1:=hid e1;have E2:=hid e2;have E3:=hid e3;clear h1 h2 h3 e1 e2 e3 hk hs hp;unfold TreeV.val;go_enter Tryz.func10,Tryz.ntmps10
 go_upto_region 1 with(fail)
 refine qj ?_;intro V hV;have hrT:V.heap[b0]? =some (.cells #[.int .i64 t.k,.int .i64 t.d,.int .i64 t.f,.int .i64 t.p,.int .u32 t.l,.int .i64 t.i,.slice t.ka t.kl t.kc,.slice t.sa t.sl t.sc,.slice t.pa t.pl t.pc] 26 (0,0)):=by rw[hV];exact(Bh _ _ _ (by simp;omega)).trans (qc _ _ hb0.symm)
 have hrC:V.heap[b0+1]? =some (.cells #[.int .i64 0,.int .i64 0,.int .i64 0,.int .i64 0,.int .u32 0,.int .i64 0,.slice none 0 0,.slice none 0 0,.slice none 0 0] 26 (0,0)):=by rw[hV];exact qc _ _ (by simp;omega)
 have hbA:Below b0 w V:=by rw[hV,←hb0];exact(Br.alloc Nl _).alloc (by simp) _
 have hsA:V.heap.size=b0+2:=by rw[hV];simp;omega
 clear hV;have c1x:V.cell? ⟨b0,6,none⟩=some (.slice t.ka t.kl t.kc):=qa hrT 6;have hs1x:b0<V.heap.size:=(Ai hrT).1;go_wp2_with fail
 refine(HC1.out V hbA).mono ?_;rintro e w1 ⟨u1,rfl,ho1,hb1⟩;obtain⟨a1,c1,rfl, -, -⟩:=ho1.hold.slice;rw[E1.out]at ho1⊢;have hr1:=qb hrT hb1;have g1:w1.cell? ⟨b0,6,none⟩=some (.slice t.ka t.kl t.kc):=qa hr1 6;have f1:=frozen_of_row w1 b0 6 _ _ hr1;have s1:b0<w1.heap.size:=(Ai hr1).1;have HS1:=hid (show b0+1<V.heap.size from(Ai hrC).1);have q1:=hb1.size;have HRC1:=hid (qb hrC hb1);have HR1:=hid hr1;have HBX1:=hid (hbA.trans (hb1.mono (show b0≤V.heap.size by omega)));have KX1:=hid (KB.of_below hb1 (Nat.zero_le _));have HOX1:=hid (ho1.le (show b0≤V.heap.size by omega));clear hr1 hb1 ho1 c1x hs1x;go_upto_region 2 with(fail)
 refine qj ?_;intro X1 hX1;have K1:=hid (show KB 0 V X1 from KX1.out.trans (by rw[hX1];exact KB.of_but ((But.refl b0 _).set 6 _) (Nat.zero_le _) (Nat.zero_le _) HR1.out (by decide)));have k1:=hid (show KB 0 w1 X1 by rw[hX1];exact KB.of_but ((But.refl b0 _).set 6 _) (Nat.zero_le _) (Nat.zero_le _) HR1.out (by decide));have hrX1:X1.heap[b0]? =some (.cells #[.int .i64 t.k,.int .i64 t.d,.int .i64 t.f,.int .i64 t.p,.int .u32 t.l,.int .i64 t.i,.slice a1 t.kl c1,.slice t.sa t.sl t.sc,.slice t.pa t.pl t.pc] 26 (0,0)):=by rw[hX1];exact heap_setCell_same _ b0 6 _ _ _ HR1.out
 have hrY1:X1.heap[b0+1]? =some (.cells #[.int .i64 0,.int .i64 0,.int .i64 0,.int .i64 0,.int .u32 0,.int .i64 0,.slice none 0 0,.slice none 0 0,.slice none 0 0] 26 (0,0)):=by rw[hX1];exact(heap_setCell_other _ _ _ _ (show b0+1≠b0 by omega)).trans HRC1.out
 have hbX1:Below b0 w X1:=by rw[hX1];exact HBX1.out.setCell (Nat.le_refl b0) _
 have HO1:=hid (HOX1.out.kb k1.out);clear hX1 g1 f1 s1 q1 HRC1 HR1 HBX1 KX1 HOX1 HS1;have c2x:X1.cell? ⟨b0,7,none⟩=some (.slice t.sa t.sl t.sc):=qa hrX1 7;have hs2x:b0<X1.heap.size:=(Ai hrX1).1;go_wp2_with fail
 refine(HC2.out X1 hbX1).mono ?_;rintro e w2 ⟨u2,rfl,ho2,hb2⟩;obtain⟨a2,c2,rfl, -, -⟩:=ho2.hold.slice;rw[E2.out]at ho2⊢;have hr2:=qb hrX1 hb2;have g2:w2.cell? ⟨b0,7,none⟩=some (.slice t.sa t.sl t.sc):=qa hr2 7;have f2:=frozen_of_row w2 b0 7 _ _ hr2;have s2:b0<w2.heap.size:=(Ai hr2).1;have HS2:=hid (show b0+1<X1.heap.size from(Ai hrY1).1);have q2:=hb2.size;have HRC2:=hid (qb hrY1 hb2);have HR2:=hid hr2;have HBX2:=hid (hbX1.trans (hb2.mono (show b0≤X1.heap.size by omega)));have KX2:=hid (KB.of_below hb2 (Nat.zero_le _));have HOX2:=hid (ho2.le (show b0≤X1.heap.size by omega));clear hr2 hb2 ho2 c2x hs2x;go_upto_region 3 with(fail)
 refine qj ?_;intro X2 hX2;have K2:=hid (show KB 0 X1 X2 from KX2.out.trans (by rw[hX2];exact KB.of_but ((But.refl b0 _).set 7 _) (Nat.zero_le _) (Nat.zero_le _) HR2.out (by decide)));have k2:=hid (show KB 0 w2 X2 by rw[hX2];exact KB.of_but ((But.refl b0 _).set 7 _) (Nat.zero_le _) (Nat.zero_le _) HR2.out (by decide));have hrX2:X2.heap[b0]? =some (.cells #[.int .i64 t.k,.int .i64 t.d,.int .i64 t.f,.int .i64 t.p,.int .u32 t.l,.int .i64 t.i,.slice a1 t.kl c1,.slice a2 t.sl c2,.slice t.pa t.pl t.pc] 26 (0,0)):=by rw[hX2];exact heap_setCell_same _ b0 7 _ _ _ HR2.out
 have hrY2:X2.heap[b0+1]? =some (.cells #[.int .i64 0,.int .i64 0,.int .i64 0,.int .i64 0,.int .u32 0,.int .i64 0,.slice none 0 0,.slice none 0 0,.slice none 0 0] 26 (0,0)):=by rw[hX2];exact(heap_setCell_other _ _ _ _ (show b0+1≠b0 by omega)).trans HRC2.out
 have hbX2:Below b0 w X2:=by rw[hX2];exact HBX2.out.setCell (Nat.le_refl b0) _
 have HO2:=hid (HOX2.out.kb k2.out);have HO1:=hid (HO1.out.kb K2.out);clear hX2 g2 f2 s2 q2 HRC2 HR2 HBX2 KX2 HOX2 HS2;have c3x:X2.cell? ⟨b0,8,none⟩=some (.slice t.pa t.pl t.pc):=qa hrX2 8;have hs3x:b0<X2.heap.size:=(Ai hrX2).1;go_wp2_with fail
 refine(HC3.out X2 hbX2).mono ?_;rintro e w3 ⟨u3,rfl,ho3,hb3⟩;obtain⟨a3,c3,rfl, -, -⟩:=ho3.hold.slice;rw[E3.out]at ho3⊢;have hr3:=qb hrX2 hb3;have g3:w3.cell? ⟨b0,8,none⟩=some (.slice t.pa t.pl t.pc):=qa hr3 8;have f3:=frozen_of_row w3 b0 8 _ _ hr3;have s3:b0<w3.heap.size:=(Ai hr3).1;have HS3:=hid (show b0+1<X2.heap.size from(Ai hrY2).1);have q3:=hb3.size;have HRC3:=hid (qb hrY2 hb3);have HR3:=hid hr3;have HBX3:=hid (hbX2.trans (hb3.mono (show b0≤X2.heap.size by omega)));have KX3:=hid (KB.of_below hb3 (Nat.zero_le _));have HOX3:=hid (ho3.le (show b0≤X2.heap.size by omega));clear hr3 hb3 ho3 c3x hs3x;go_upto_region 4 with(fail)
 refine qj ?_;intro X3 hX3;have K3:=hid (show KB 0 X2 X3 from KX3.out.trans (by rw[hX3];exact KB.of_but ((But.refl b0 _).set 8 _) (Nat.zero_le _) (Nat.zero_le _) HR3.out (by decide)));have k3:=hid (show KB 0 w3 X3 by rw[hX3];exact KB.of_but ((But.refl b0 _).set 8 _) (Nat.zero_le _) (Nat.zero_le _) HR3.out (by decide));have hrX3:X3.heap[b0]? =some (.cells #[.int .i64 t.k,.int .i64 t.d,.int .i64 t.f,.int .i64 t.p,.int .u32 t.l,.int .i64 t.i,.slice a1 t.kl c1,.slice a2 t.sl c2,.slice a3 t.pl c3] 26 (0,0)):=by rw[hX3];exact heap_setCell_same _ b0 8 _ _ _ HR3.out
 have hrY3:X3.heap[b0+1]? =some (.cells #[.int .i64 0,.int .i64 0,.int .i64 0,.int .i64 0,.int .u32 0,.int .i64 0,.slice none 0 0,.slice none 0 0,.slice none 0 0] 26 (0,0)):=by rw[hX3];exact(heap_setCell_other _ _ _ _ (show b0+1≠b0 by omega)).trans HRC3.out
 have hbX3:Below b0 w X3:=by rw[hX3];exact HBX3.out.setCell (Nat.le_refl b0) _
 have HO3:=hid (HOX3.out.kb k3.out);have HO1:=hid (HO1.out.kb K3.out);have HO2:=hid (HO2.out.kb K3.out);clear hX3 g3 f3 s3 q3 HRC3 HR3 HBX3 KX3 HOX3 HS3;have HRC3:=hid hrY3;have HB3:=hid hbX3;have HR3:=hid hrX3;go_wp2_with (first|((with_reducible show wpList _ _ _ (Oper.mk _ (Op.load 26 _) _ _ _ _::_) _ _);refine wpList_load_row rfl 26 _ rfl b0 rfl _ _ _ _ HR3.out Tryz.underlying26 rfl (by kernel_rfl) ?_)|((with_reducible show wpList _ _ _ (Oper.mk none (Op.store 26 _ _) _ _ _ _::_) _ _);refine wpList_store_row rfl 26 _ _ rfl (b0+1) #[.int .i64 t.k,.int .i64 t.d,.int .i64 t.f,.int .i64 t.p,.int .u32 t.l,.int .i64 t.i,.slice a1 t.kl c1,.slice a2 t.sl c2,.slice a3 t.pl c3] rfl rfl 26 _ HRC3.out (by kernel_rfl) rfl (by simp[Value.oneCell']) ?_))
 exact Bp (results_cell_row rfl _ _ _ _ _ _ _ rfl (setRow_heap _ _ _ _ _ _ HRC3.out) Tryz.underlying26 rfl (by kernel_rfl)) rfl (by
  rw[hb0];have hko: ∀{x:Value} {z:List Int},OwnB b0 X3 x z→OwnB b0 (X3.setRow (b0+1) #[.int .i64 t.k,.int .i64 t.d,.int .i64 t.f,.int .i64 t.p,.int .u32 t.l,.int .i64 t.i,.slice a1 t.kl c1,.slice a2 t.sl c2,.slice a3 t.pl c3]) x z:=fun {x z} h=>h.kb (KB.of_but ((But.refl (b0+1) _).setRow _) (Nat.zero_le _) (Nat.zero_le _) HRC3.out (by decide))
  exact⟨_,rfl,⟨a1,c1,a2,c2,a3,c3,rfl,hko HO1.out,hko HO2.out,hko HO3.out⟩,below_setRow HB3.out (by omega) _⟩)
theorem zD (t:TreeV)(a1:Option Addr)(c1:Nat)(a2:Option Addr)(c2:Nat)(a3:Option Addr)(c3:Nat)(kz z1 z2 zs:List Int)(m:Nat):(t.sw a1 c1 a2 c2 a3 c3).downC kz z1 z2 zs m=t.downC kz z1 z2 zs m:=by
 unfold TreeV.downC;exact List.map_congr_left fun d _=>Y4 ..
theorem JF (t:TreeV)(a1:Option Addr)(c1:Nat)(a2:Option Addr)(c2:Nat)(a3:Option Addr)(c3:Nat)(kz z1 z2 xs ys:List Int):(t.sw a1 c1 a2 c2 a3 c3).diffT kz z1 z2 xs ys=t.diffT kz z1 z2 xs ys:=by
 unfold TreeV.diffT;rw[zD,zD];rfl
theorem Y3 (t:TreeV)(a1:Option Addr)(c1:Nat)(a2:Option Addr)(c2:Nat)(a3:Option Addr)(c3:Nat)(kz z1 z2 xs ys:List Int):(t.sw a1 c1 a2 c2 a3 c3).clashE kz z1 z2 xs ys=t.clashE kz z1 z2 xs ys:=by
 unfold TreeV.clashE;rw[yA,yA];rfl
theorem PartSays.sw {t:TreeV}{a1:Option Addr}{c1:Nat}{a2:Option Addr}{c2:Nat}{a3:Option Addr}{c3:Nat}{kz z1 z2 xs ys:List Int}{p q:Array Value}{r i:Int}{W:World}(h:PartSays (t.sw a1 c1 a2 c2 a3 c3) kz z1 z2 xs ys p q r i W):PartSays t kz z1 z2 xs ys p q r i W:=by
 unfold PartSays at h⊢;rw[Y3,JF]at h;exact h
theorem Yo (W:World):CallM W (.agg zeroC) ⟨0,[],[],false,0,[]⟩:=⟨_,_,_,rfl,Hold.nil W,Hold.nil W,Hold.nil W⟩
theorem PartSays.both {t:TreeV}{kz z1 z2 xs ys:List Int}{c1 c2 d1 d2:Array Value}{r i r' i':Int}{W W':World}(h:PartSays t kz z1 z2 xs ys c1 c2 r i W)(k:PartSays t kz z1 z2 xs ys d1 d2 r' i' W'): ∃a b,CallM W (.agg c1) a∧CallM W (.agg c2) b∧CallM W' (.agg d1) a∧CallM W' (.agg d2) b:=by
 rcases h.2.2 with⟨h1,rfl,rfl, -⟩|⟨h1,a,b,row,at_,h2,h3,h4, -⟩<;>rcases k.2.2 with⟨k1,rfl,rfl, -⟩|⟨k1,a',b',row',at',k2,k3,k4, -⟩
 ·exact⟨_,_,Yo W,Yo W,Yo W',Yo W'⟩
 ·exact absurd k1 h1
 ·exact absurd h1 k1
 ·rw[h2]at k2;simp only[Option.some.injEq,Prod.mk.injEq]at k2;obtain⟨rfl,rfl, -⟩:=k2;exact⟨a,b,h3,h4,k3,k4⟩
end Go.Proofs.YtdndeffmlhaipaaGreatDoor

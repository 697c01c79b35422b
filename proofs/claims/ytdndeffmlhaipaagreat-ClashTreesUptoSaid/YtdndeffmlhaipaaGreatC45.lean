/- clash.Tree, clash.Depth. No condition. -/
import Derived.Test.YtdndeffmlhaipaaGreatC43
import Derived.Test.YtdndeffmlhaipaaGreatC44
import Derived.Test.YtdndeffmlhaipaaGreatC38
import Derived.Test.YtdndeffmlhaipaaGreatC36
set_option linter.all false
set_option maxRecDepth 100000
set_option maxHeartbeats 8000000
namespace Go.Proofs.YtdndeffmlhaipaaGreat
open Go.ChangeShapes Go.WideShapes Go.ChangeAt Go.RowKit Go.Joins Go.Shelf Go.Maps
open Go.Lib (hid)
attribute [local go_sem] Oper.semAt_some
def zeroC:Array Value:= #[.int .i64 0,.slice none 0 0,.slice none 0 0,.bool false,.int .i64 0,.slice none 0 0]
def Je (c1 c2:Array Value)(r i:Int):Array Value:=c1++c2++ #[.int .i64 r,.int .u64 i]
def Yz (c:Array Value):Prop:=c.size=6∧c.all (·.oneCell')=true
def PartSays (t:TreeV)(kz z1 z2 xs ys:List Int)(c1 c2:Array Value)(r i:Int)(W:World):Prop:=
 Yz c1∧Yz c2∧((t.clashE kz z1 z2 xs ys≠0∧c1=zeroC∧c2=zeroC∧r=0∧i=0)∨(t.clashE kz z1 z2 xs ys=0∧ ∃a b row at_,t.diffT kz z1 z2 xs ys=some (a,b,row,at_)∧CallM W (.agg c1) a∧CallM W (.agg c2) b∧r=(row:Nat)∧i=(at_:Nat)))
theorem Ze:Yz zeroC:=⟨rfl,by kernel_rfl⟩
theorem JE {W:World}{k o:Int}{la:Bool}{bv kv dv:Value}{b q d:List Int}(h1:Hold W bv b)(h2:Hold W kv q)(h3:Hold W dv d):Yz (qt k bv kv la o dv):=by
 refine⟨rfl,?_⟩;unfold qt;simp[Yq h1,Yq h2,Yq h3]
 simp[Value.oneCell']
theorem qbq (t:TreeV)(kz z1 z2 xs ys:List Int)(xa ya:Option Addr)(xc yc:Nat)(w:World)(hl:0≤t.l∧t.l≤4294967295)(hk:Hold w (.slice t.ka t.kl t.kc) kz)(hs:Hold w (.slice t.sa t.sl t.sc) z1)(hp:Hold w (.slice t.pa t.pl t.pc) z2)(hx:Hold w (.slice xa xs.length xc) xs)(hy:Hold w (.slice ya ys.length yc) ys)(hxn:xs.length≤4194304)(hyn:ys.length≤4194304):
  Calls Tryz.prog 44 #[t.val,.slice xa xs.length xc,.slice ya ys.length yc] w fun e w'=>(∃c1 c2 r i,e= .returned (.tuple #[.agg (Je c1 c2 r i),.int .i64 (t.clashE kz z1 z2 xs ys)])∧PartSays t kz z1 z2 xs ys c1 c2 r i w')∧Below w.heap.size w w':=by
 refine(qhd t kz z1 z2 xs ys xa ya xc yc w hl hk hs hp hx hy hxn hyn).mono ?_;rintro e w' ⟨⟨c,rfl,h⟩,hb⟩
 refine⟨?_,hb⟩;rcases h with⟨h1,rfl⟩|⟨h1,s,a,b,row,i,hd,hF⟩
 ·exact⟨zeroC,zeroC,0,0,rfl,Ze,Ze,.inl ⟨h1,rfl,rfl,rfl,rfl⟩⟩
 ·obtain⟨b1,k1,d1,b2,k2,d2,rfl,q1,q2,q3,q4,q5,q6⟩:=hF;exact⟨qt a.k b1 k1 a.la a.o d1,qt b.k b2 k2 b.la b.o d2,_,_,rfl,JE q1.1 q2.1 q3.1,JE q4.1 q5.1 q6.1,.inr ⟨h1,a,b,row,i,hd,⟨_,_,_,rfl,q1.1,q2.1,q3.1⟩,⟨_,_,_,rfl,q4.1,q5.1,q6.1⟩,rfl,rfl⟩⟩
theorem qia {c1 c2:Array Value}{r i:Int}(h:Yz c1): ∀j,j<c1.size→(Je c1 c2 r i)[0+j]? =c1[j]? :=by
 intro j hj;unfold Je;rw[Nat.zero_add,Array.append_assoc,Array.getElem?_append_left hj]
theorem qh9 {c1 c2:Array Value}{r i:Int}(h:Yz c1): ∀j,j<c2.size→(Je c1 c2 r i)[6+j]? =c2[j]? :=by
 intro j hj;unfold Je;have e:=h.1;rw[Array.getElem?_append_left (by rw[Array.size_append];omega),Array.getElem?_append_right (by omega),e,Nat.add_sub_cancel_left]
theorem qbZ {c1 c2:Array Value}{r i:Int}(h1:Yz c1)(h2:Yz c2):(Je c1 c2 r i).size=14:=by
 have e1:=h1.1;have e2:=h2.1;unfold Je;rw[Array.size_append,Array.size_append,e1,e2];rfl
theorem qdn {c1 c2:Array Value}{r i:Int}(h1:Yz c1)(h2:Yz c2):(Je c1 c2 r i).all (·.oneCell')=true:=by
 unfold Je;rw[Array.all_append,Array.all_append,h1.2,h2.2];simp[Value.oneCell']
theorem qh8 {c1 c2:Array Value}{r i:Int}(h1:Yz c1)(h2:Yz c2):(Je c1 c2 r i)[12]? =some (.int .i64 r)∧(Je c1 c2 r i)[13]? =some (.int .u64 i):=by
 have e1:=h1.1;have e2:=h2.1;unfold Je;constructor<;>rw[Array.getElem?_append_right (by rw[Array.size_append];omega),Array.size_append,e1,e2]<;>rfl
def GT (p9 p6 p7:Nat)(c1 c2:Array Value)(E:Int):Nat→Value→World→Prop
 | 0,v,_=>v= .pointer (some ⟨p9,0,none⟩)
 | 1,v,_=>v= .agg c1
 | 2,v,_=>v= .pointer (some ⟨p9,6,none⟩)
 | 3,v,_=>v= .agg c2
 | 4,v,_=>v= .int .i64 E
 | 5,_,W=>W.heap[p6]? =some (.cells c1 54 (0,0))
 | 6,_,W=>W.heap[p7]? =some (.cells c2 54 (0,0))
 | 7,v,_=>v= .int .i64 E
 | _,_,_=>True
def RT (p9 p6 p7:Nat)(c:Array Value)(w0 W:World):Prop:=Spare (fun k=>k≠p6∧k≠p7) w0 W∧W.heap[p9]? =some (.cells c 87 (0,0))∧(∃o,W.heap[p6]? =some (.cells o 54 (0,0))∧o.size=6)∧ ∃o,W.heap[p7]? =some (.cells o 54 (0,0))∧o.size=6
theorem yd {S:Nat→Prop}{W W':World}{v:Value}{zs:List Int}(h:Hold W v zs)(hS:Spare S W W')(hg: ∀(k:Nat) (c:Array Value) (T:TypeId) (fr:Nat×Nat),W.heap[k]? =some (.cells c T fr)→ ¬S k→ ∀(i:Nat) (z:Int),c[i]? ≠some (Value.int .u8 z)):Hold W' v zs:=by
 refine⟨h.1,h.2.imp_right ?_⟩;rintro⟨ad,cap,e,h1,h2,h3⟩
 refine⟨ad,cap,e,h1,h2,?_⟩;by_cases h0:zs=[]
 ·exact .inl h0
 obtain⟨b,off,rfl,h3,h4⟩:=h3.resolve_left h0;have hp:0<zs.length:=List.length_pos_iff.2 h0;obtain⟨o,ho⟩: ∃o,W.heap[b]? =some o:=⟨_,Array.getElem?_eq_getElem h3⟩;have h40:=h4 0 hp;obtain⟨c,T,fr,rfl⟩: ∃c T fr,o= .cells c T fr:=by
  unfold World.cell? at h40;rw[show W.heap[(⟨b,off+0,none⟩:Addr).block]? =some o from ho]at h40
  cases o<;>simp at h40
  exact⟨_,_,_,rfl⟩
 have hb:S b:=Classical.byContradiction fun hn=>hg b c T fr ho hn (off+0) _ (by rw[←qa ho];exact h40)
 have hw:W'.heap[b]? =some (.cells c T fr):=(hS.block b h3 hb).trans ho;refine .inr ⟨b,off,rfl,Nat.lt_of_lt_of_le h3 hS.size,fun i hi=>?_⟩;rw[qa hw,←qa ho];exact h4 i hi
theorem yR (i:Nat)(z:Int):zeroC[i]? ≠some (Value.int .u8 z):=by
 intro h;obtain⟨hi,h⟩:=Ai h;have k:=Array.all_eq_true.1 (show zeroC.all (fun v=>match v with| .int .u8 _=>false|_=>true)=true from by kernel_rfl) i hi;rw[h]at k
 cases k
theorem PartSays.spare {t:TreeV}{kz z1 z2 xs ys:List Int}{c1 c2:Array Value}{r i:Int}{S:Nat→Prop}{W W':World}(h:PartSays t kz z1 z2 xs ys c1 c2 r i W)(hS:Spare S W W')(hg: ∀(k:Nat) (c:Array Value) (T:TypeId) (fr:Nat×Nat),W.heap[k]? =some (.cells c T fr)→ ¬S k→ ∀(i:Nat) (z:Int),c[i]? ≠some (Value.int .u8 z)):PartSays t kz z1 z2 xs ys c1 c2 r i W':=by
 obtain⟨h1,h2,h3⟩:=h;refine⟨h1,h2,h3.imp_right ?_⟩;rintro⟨h4,a,b,row,at_,h5,⟨u1,u2,u3,e1,q1,q2,q3⟩,⟨v1,v2,v3,e2,q4,q5,q6⟩,h8⟩
 exact⟨h4,a,b,row,at_,h5,⟨u1,u2,u3,e1,yd q1 hS hg,yd q2 hS hg,yd q3 hS hg⟩,⟨v1,v2,v3,e2,yd q4 hS hg,yd q5 hS hg,yd q6 hS hg⟩,h8⟩
theorem jS {fn:Func}{p q u:Tmp}(h:fn.results= #[.cell p 54,.cell q 54,.tmp u])(tmps:Array Value)(w:World)(p6 p7:Nat)(c1 c2:Array Value)(hp:tmps.getD p undef= .pointer (some ⟨p6,0,none⟩))(hq:tmps.getD q undef= .pointer (some ⟨p7,0,none⟩))(h6:w.heap[p6]? =some (.cells c1 54 (0,0)))(h7:w.heap[p7]? =some (.cells c2 54 (0,0)))(e1:c1.size=6)(e2:c2.size=6):(results fn tmps).run Tryz.prog w= .ok (.tuple #[.agg c1,.agg c2,tmps.getD u undef]) w:=by
 have hp':tmps[p]?.getD undef= .pointer (some ⟨p6,0,none⟩):=by simpa using hp
 have hq':tmps[q]?.getD undef= .pointer (some ⟨p7,0,none⟩):=by simpa using hq
 have k1:=run_loadVar_row (P:=Tryz.prog) w p6 54 54 c1 (0,0) _ h6 Tryz.underlying54 rfl (by rw[e1];kernel_rfl);have k2:=run_loadVar_row (P:=Tryz.prog) w p7 54 54 c2 (0,0) _ h7 Tryz.underlying54 rfl (by rw[e2];kernel_rfl);simp[results,h,hp',hq',asAddr,k1,k2,Sem.run_bind,Result.andThen]
theorem PartSays.below {t:TreeV}{kz z1 z2 xs ys:List Int}{c1 c2:Array Value}{r i:Int}{W W':World}(h:PartSays t kz z1 z2 xs ys c1 c2 r i W)(hb:Below W.heap.size W W'):PartSays t kz z1 z2 xs ys c1 c2 r i W':=by
 obtain⟨h1,h2,h3⟩:=h;refine⟨h1,h2,h3.imp_right ?_⟩;rintro⟨h4,a,b,row,at_,h5,h6,h7,h8⟩
 exact⟨h4,a,b,row,at_,h5,h6.below hb,h7.below hb,h8⟩
theorem qda (t:TreeV)(kz z1 z2 xs ys:List Int)(xa ya:Option Addr)(xc yc:Nat)(w:World)(hl:0≤t.l∧t.l≤4294967295)(hk:Hold w (.slice t.ka t.kl t.kc) kz)(hs:Hold w (.slice t.sa t.sl t.sc) z1)(hp:Hold w (.slice t.pa t.pl t.pc) z2)(hx:Hold w (.slice xa xs.length xc) xs)(hy:Hold w (.slice ya ys.length yc) ys)(hxn:xs.length≤4194304)(hyn:ys.length≤4194304):
  Calls Tryz.prog 24 #[t.val,.slice xa xs.length xc,.slice ya ys.length yc] w fun e w'=>(∃c1 c2 r i,e= .returned (.tuple #[.agg c1,.agg c2,.int .i64 (t.clashE kz z1 z2 xs ys)])∧PartSays t kz z1 z2 xs ys c1 c2 r i w')∧Below w.heap.size w w':=by
 obtain⟨b0,hb0⟩:=Ex w.heap.size;have HB:=hid (fun(W:World) (hb:Below b0 w W)=>qbq t kz z1 z2 xs ys xa ya xc yc W hl (hk.below (hb0▸hb)) (hs.below (hb0▸hb)) (hp.below (hb0▸hb)) (hx.below (hb0▸hb)) (hy.below (hb0▸hb)) hxn hyn);clear hx hy hl hk hs hp;obtain⟨E,hE⟩:=Ex (t.clashE kz z1 z2 xs ys);rw[hE];unfold TreeV.val;go_enter Tryz.func24,Tryz.ntmps24
 go_upto_region 1 with(fail)
 refine qj ?_;intro wA hwA;have hrA:wA.heap[b0]? =some (.cells #[.int .i64 t.k,.int .i64 t.d,.int .i64 t.f,.int .i64 t.p,.int .u32 t.l,.int .i64 t.i,.slice t.ka t.kl t.kc,.slice t.sa t.sl t.sc,.slice t.pa t.pl t.pc] 26 (0,0)):=by rw[hwA];exact QO (QO (qM hb0))
 have h6A:wA.heap[b0+1]? =some (.cells zeroC 54 (0,0)):=by rw[hwA];exact QO (qM (by rw[qw,hb0]))
 have h7A:wA.heap[b0+1+1]? =some (.cells zeroC 54 (0,0)):=by rw[hwA];exact qM (by rw[qw,qw,hb0])
 have hsA:wA.heap.size=b0+3:=by rw[hwA,qw,qw,qw,hb0]
 have hbA:Below b0 w wA:=by rw[hwA,←hb0];exact((Br.alloc Nl _).alloc (by simp) _).alloc (by simp;omega) _
 clear hwA;go_wp2_with ((with_reducible show wpList _ _ _ (Oper.mk _ (Op.load 26 _) _ _ _ _::_) _ _);refine wpList_load_row rfl 26 _ rfl b0 rfl _ _ _ _ hrA Tryz.underlying26 rfl (by kernel_rfl) ?_)
 refine(HB.out _ hbA).mono ?_;rintro e w1 ⟨⟨c1,c2,r,i,rfl,hP⟩,hb1⟩;rw[hE];rw[hsA]at hb1;have h61:=(hb1.block _ (by omega)).trans h6A;have h71:=(hb1.block _ (by omega)).trans h7A;have hs1:b0+3≤w1.heap.size:=by have:=hb1.size;omega
 have hbW1:=hbA.trans (hb1.mono (by omega));clear hrA h6A h7A hbA hb1 HB;obtain⟨c,hc⟩:=Ex (Je c1 c2 r i);rw[hc];have hW1:=hP.1;have hW2:=hP.2.1;have hcs:c.size=14:=by rw[←hc];exact qbZ hW1 hW2
 have hc1:c.all (·.oneCell')=true:=by rw[←hc];exact qdn hW1 hW2
 have hoc:zeroF.size=c.size:=by rw[hcs];rfl
 have hfi:(Tryz.prog.info? 87).map (·.size)=some c.size:=by rw[hcs];kernel_rfl
 have HP:=hid hP;obtain⟨b4,hb4⟩:=Ex w1.heap.size;clear hP hW1 hW2;go_upto_region 2 with((with_reducible show wpList _ _ _ (Oper.mk none (Op.store 87 _ _) _ _ _ _::_) _ _);refine wpList_store_row rfl 87 _ _ rfl b4 c rfl rfl 87 zeroF (qM hb4) hfi hoc hc1 ?_)
 refine qj ?_;intro wD hwD;have h9D:wD.heap[b4]? =some (.cells c 87 (0,0)):=by rw[hwD];exact setRow_heap _ b4 zeroF c _ _ (qM hb4)
 have hBD:Below b4 w1 wD:=by rw[hwD];exact(show Below b4 w1 (w1.alloc (.cells zeroF 87)) by rw[←hb4];exact Br.alloc Nl _).trans ((Spare.of_but (But.of_setRow _ b4 c)).below (by rw[qw];omega) fun k hk=>by omega)
 have h6D:=(hBD.block _ (by omega)).trans h61;have h7D:=(hBD.block _ (by omega)).trans h71;have hPD:=HP.out.below (by rw[hb4];exact hBD);have hbD:=hbW1.trans (hBD.mono (by omega));have hne:b4≠b0+1∧b4≠b0+1+1:=by omega
 have hsD:=hBD.size;have hsz:b4<wD.heap.size:=(Ai h9D).1;clear hwD hBD h61 h71 hbW1;have hW1:=hPD.1;have hW2:=hPD.2.1;have HPD:=hid hPD;have HBD:=hid hbD;have hg1: ∀j,j<c1.size→c[0+j]? =c1[j]? :=by rw[←hc];exact qia hW1
 have hg2: ∀j,j<c2.size→c[6+j]? =c2[j]? :=by rw[←hc];exact qh9 hW1
 clear hPD hbD;refine Yj (ds:=[18,19,20,21,22,8]) (R:=RT b4 (b0+1) (b0+1+1) c wD) (Good:=GT b4 (b0+1) (b0+1+1) c1 c2 E) rfl rfl rfl (by decide) (by kernel_rfl) (by kernel_rfl) ?_ ?_ ?_ ?_
 ·exact⟨⟨rfl,rfl,rfl,Nat.le_refl _,fun _ _ _=>rfl⟩,h9D,⟨_,h6D,rfl⟩,⟨_,h7D,rfl⟩⟩
 ·intro i o ho A x W hL hR hdep K hK;obtain⟨hS,h9,⟨o6,h6,s6⟩,o7,h7,s7⟩:=id hR;rcases i with _|_|_|_|_|_|_|_|i
  ·obtain rfl:=Option.some.inj ho;have a9:=hL.2 9 (by decide);conv at a9=>rhs;whnf
   clear hdep hL;go_simp
   exact hK _ _ hR (fun _ _ _ h=>h) rfl
  ·obtain rfl:=Option.some.inj ho;have g0:A.tmps.getD 18 undef= .pointer (some ⟨b4,0,none⟩):=(hL.1 18 (by decide)).trans (hdep ⟨0,.data⟩ (by simp) rfl _ rfl);clear hdep hL;exact qV 54 _ rfl b4 0 g0 87 c c1 (0,0) _ h9 Tryz.underlying54 rfl (by rw[hW1.1];kernel_rfl) hg1 (hK _ _ hR (fun _ _ _ h=>h) rfl)
  ·obtain rfl:=Option.some.inj ho;have a9:=hL.2 9 (by decide);conv at a9=>rhs;whnf
   clear hdep hL;go_simp
   exact hK _ _ hR (fun _ _ _ h=>h) rfl
  ·obtain rfl:=Option.some.inj ho;have g0:A.tmps.getD 20 undef= .pointer (some ⟨b4,6,none⟩):=(hL.1 20 (by decide)).trans (hdep ⟨2,.data⟩ (by simp) rfl _ rfl);clear hdep hL;exact qV 54 _ rfl b4 6 g0 87 c c2 (0,0) _ h9 Tryz.underlying54 rfl (by rw[hW2.1];kernel_rfl) hg2 (hK _ _ hR (fun _ _ _ h=>h) rfl)
  ·obtain rfl:=Option.some.inj ho;have a10:=hL.2 10 (by decide);conv at a10=>rhs;whnf
   clear hdep hL;go_simp
   exact hK _ _ hR (fun _ _ _ h=>h) rfl
  ·obtain rfl:=Option.some.inj ho;have a6:=hL.2 6 (by decide);conv at a6=>rhs;whnf
   have g0:A.tmps.getD 19 undef= .agg c1:=(hL.1 19 (by decide)).trans (hdep ⟨1,.data⟩ (by simp) rfl _ rfl);clear hdep hL;refine wp_store_row 54 _ _ rfl (b0+1) c1 a6 g0 54 o6 h6 (by rw[hW1.1];kernel_rfl) (by rw[hW1.1,s6]) hW1.2 (hK undef _ ?_ ?_ ?_)
   ·exact⟨(Spare.refl (fun k=>k≠b0+1∧k≠b0+1+1) wD).trans (hS.trans (Spare.of_but (But.of_setRow W (b0+1) c1)) (fun b _ h=>by first|exact h.1|exact h.2)) (fun b _ h=>h),(setRow_other W (b0+1) b4 c1 (by omega)).trans h9,⟨_,setRow_heap W (b0+1) o6 c1 _ _ h6,hW1.1⟩,⟨_,(setRow_other W (b0+1) _ c1 (by omega)).trans h7,s7⟩⟩
   ·intro j u hj hg;rcases j with _|_|_|_|_|_|_|_|j
    all_goals first|exact hg|exact absurd rfl hj|exact(setRow_other W (b0+1) _ c1 (by omega)).trans hg
   ·exact setRow_heap W (b0+1) o6 c1 _ _ h6
  ·obtain rfl:=Option.some.inj ho;have a7:=hL.2 7 (by decide);conv at a7=>rhs;whnf
   have g0:A.tmps.getD 21 undef= .agg c2:=(hL.1 21 (by decide)).trans (hdep ⟨3,.data⟩ (by simp) rfl _ rfl);clear hdep hL;refine wp_store_row 54 _ _ rfl (b0+1+1) c2 a7 g0 54 o7 h7 (by rw[hW2.1];kernel_rfl) (by rw[hW2.1,s7]) hW2.2 (hK undef _ ?_ ?_ ?_)
   ·exact⟨(Spare.refl (fun k=>k≠b0+1∧k≠b0+1+1) wD).trans (hS.trans (Spare.of_but (But.of_setRow W (b0+1+1) c2)) (fun b _ h=>by first|exact h.1|exact h.2)) (fun b _ h=>h),(setRow_other W (b0+1+1) b4 c2 (by omega)).trans h9,⟨_,(setRow_other W (b0+1+1) _ c2 (by omega)).trans h6,s6⟩,⟨_,setRow_heap W (b0+1+1) o7 c2 _ _ h7,hW2.1⟩⟩
   ·intro j u hj hg;rcases j with _|_|_|_|_|_|_|_|j
    all_goals first|exact hg|exact absurd rfl hj|exact(setRow_other W (b0+1+1) _ c2 (by omega)).trans hg
   ·exact setRow_heap W (b0+1+1) o7 c2 _ _ h7
  ·obtain rfl:=Option.some.inj ho;have g0:A.tmps.getD 22 undef= .int .i64 E:=(hL.1 22 (by decide)).trans (hdep ⟨4,.data⟩ (by simp) rfl _ rfl);clear hdep hL;go_simp
   exact hK _ _ hR (fun _ _ _ h=>h) rfl
  ·cases ho
 ·intro i o v W hi hd hg;rcases i with _|_|_|_|_|_|_|_|i
  all_goals first|exact hg|(obtain rfl:=Option.some.inj hi;cases hd)|cases hi
 ·intro x W hR hG;obtain⟨hS,h9,⟨o6,h6,s6⟩,o7,h7,s7⟩:=hR;have k5:W.heap[b0+1]? =some (.cells c1 54 (0,0)):=hG 5 _ rfl;have k6:W.heap[b0+1+1]? =some (.cells c2 54 (0,0)):=hG 6 _ rfl;have k7:x 8= .int .i64 E:=hG 7 _ rfl;clear hG;simp only[lay,Act.put,Ls,k7];go_wp2_with fail
  refine Bp (jS (fn:=Tryz.f24) rfl _ _ (b0+1) (b0+1+1) c1 c2 rfl rfl k5 k6 hW1.1 hW2.1) rfl ?_;refine⟨⟨c1,c2,r,i,rfl,HPD.out.spare hS fun k c' T fr hk hn=>?_⟩,by rw[hb0];exact HBD.out.trans (hS.below (by omega) fun k hk=>⟨by omega,by omega⟩)⟩;by_cases e1:k=b0+1
  ·rw[e1,h6D]at hk;simp only[Option.some.injEq,Obj.cells.injEq]at hk;obtain⟨rfl, -⟩:=hk;exact yR
  by_cases e2:k=b0+1+1
  ·rw[e2,h7D]at hk;simp only[Option.some.injEq,Obj.cells.injEq]at hk;obtain⟨rfl, -⟩:=hk;exact yR
  ·exact absurd ⟨e1,e2⟩ hn
def GD (p9:Nat)(r i E:Int):Nat→Value→World→Prop
 | 0,v,_=>v= .pointer (some ⟨p9,12,none⟩)
 | 1,v,_=>v= .int .i64 r
 | 2,v,_=>v= .pointer (some ⟨p9,13,none⟩)
 | 3,v,_=>v= .int .u64 i
 | 4,v,_=>v= .int .i64 E
 | 5,v,_=>v= .int .i64 r
 | 6,v,_=>v= .int .u64 i
 | 7,v,_=>v= .int .i64 E
 | _,_,_=>True
theorem qbU (t:TreeV)(kz z1 z2 xs ys:List Int)(xa ya:Option Addr)(xc yc:Nat)(w:World)(hl:0≤t.l∧t.l≤4294967295)(hk:Hold w (.slice t.ka t.kl t.kc) kz)(hs:Hold w (.slice t.sa t.sl t.sc) z1)(hp:Hold w (.slice t.pa t.pl t.pc) z2)(hx:Hold w (.slice xa xs.length xc) xs)(hy:Hold w (.slice ya ys.length yc) ys)(hxn:xs.length≤4194304)(hyn:ys.length≤4194304):
  Calls Tryz.prog 30 #[t.val,.slice xa xs.length xc,.slice ya ys.length yc] w fun e w'=>(∃c1 c2 r i,e= .returned (.tuple #[.int .i64 r,.int .u64 i,.int .i64 (t.clashE kz z1 z2 xs ys)])∧PartSays t kz z1 z2 xs ys c1 c2 r i w')∧Below w.heap.size w w':=by
 obtain⟨b0,hb0⟩:=Ex w.heap.size;have HB:=hid (fun(W:World) (hb:Below b0 w W)=>qbq t kz z1 z2 xs ys xa ya xc yc W hl (hk.below (hb0▸hb)) (hs.below (hb0▸hb)) (hp.below (hb0▸hb)) (hx.below (hb0▸hb)) (hy.below (hb0▸hb)) hxn hyn);clear hx hy hl hk hs hp;obtain⟨E,hE⟩:=Ex (t.clashE kz z1 z2 xs ys);rw[hE];unfold TreeV.val;go_enter Tryz.func30,Tryz.ntmps30
 go_upto_region 1 with(fail)
 refine qj ?_;intro wA hwA;have hrA:wA.heap[b0]? =some (.cells #[.int .i64 t.k,.int .i64 t.d,.int .i64 t.f,.int .i64 t.p,.int .u32 t.l,.int .i64 t.i,.slice t.ka t.kl t.kc,.slice t.sa t.sl t.sc,.slice t.pa t.pl t.pc] 26 (0,0)):=by rw[hwA];exact qM hb0
 have hsA:wA.heap.size=b0+1:=by rw[hwA,qw,hb0]
 have hbA:Below b0 w wA:=by rw[hwA,←hb0];exact Br.alloc Nl _
 clear hwA;go_wp2_with ((with_reducible show wpList _ _ _ (Oper.mk _ (Op.load 26 _) _ _ _ _::_) _ _);refine wpList_load_row rfl 26 _ rfl b0 rfl _ _ _ _ hrA Tryz.underlying26 rfl (by kernel_rfl) ?_)
 refine(HB.out _ hbA).mono ?_;rintro e w1 ⟨⟨c1,c2,r,at_,rfl,hP⟩,hb1⟩;rw[hE];rw[hsA]at hb1;have hs1:b0+1≤w1.heap.size:=by have:=hb1.size;omega
 have hbW1:=hbA.trans (hb1.mono (by omega));clear hrA hbA hb1 HB;obtain⟨c,hc⟩:=Ex (Je c1 c2 r at_);rw[hc];have hW1:=hP.1;have hW2:=hP.2.1;have hcs:c.size=14:=by rw[←hc];exact qbZ hW1 hW2
 have hc1:c.all (·.oneCell')=true:=by rw[←hc];exact qdn hW1 hW2
 have hoc:zeroF.size=c.size:=by rw[hcs];rfl
 have hfi:(Tryz.prog.info? 87).map (·.size)=some c.size:=by rw[hcs];kernel_rfl
 have hri:c[12]? =some (.int .i64 r)∧c[13]? =some (.int .u64 at_):=by rw[←hc];exact qh8 hW1 hW2
 have HP:=hid hP;obtain⟨b4,hb4⟩:=Ex w1.heap.size;clear hP hW1 hW2;go_upto_region 2 with((with_reducible show wpList _ _ _ (Oper.mk none (Op.store 87 _ _) _ _ _ _::_) _ _);refine wpList_store_row rfl 87 _ _ rfl b4 c rfl rfl 87 zeroF (qM hb4) hfi hoc hc1 ?_)
 refine qj ?_;intro wD hwD;have h9D:wD.heap[b4]? =some (.cells c 87 (0,0)):=by rw[hwD];exact setRow_heap _ b4 zeroF c _ _ (qM hb4)
 have hBD:Below b4 w1 wD:=by rw[hwD];exact(show Below b4 w1 (w1.alloc (.cells zeroF 87)) by rw[←hb4];exact Br.alloc Nl _).trans ((Spare.of_but (But.of_setRow _ b4 c)).below (by rw[qw];omega) fun k hk=>by omega)
 have hPD:=HP.out.below (by rw[hb4];exact hBD);have hbD:=hbW1.trans (hBD.mono (by omega));have hsD:=hBD.size;clear hwD hBD hbW1;have HPD:=hid hPD;have HBD:=hid hbD;have c12:wD.cell? ⟨b4,12,none⟩=some (.int .i64 r):=(qa h9D 12).trans hri.1;have c13:wD.cell? ⟨b4,13,none⟩=some (.int .u64 at_):=(qa h9D 13).trans hri.2;clear hPD hbD;refine Yj (ds:=[18,19,20,21,22,6,7,8]) (R:=fun W=>W.cell? ⟨b4,12,none⟩=some (.int .i64 r)∧W.cell? ⟨b4,13,none⟩=some (.int .u64 at_)∧Below wD.heap.size wD W) (Good:=GD b4 r at_ E) rfl rfl rfl (by decide) (by kernel_rfl) (by kernel_rfl) ?_ ?_ ?_ ?_
 ·exact⟨c12,c13,⟨rfl,rfl,rfl,Nat.le_refl _,fun _ _=>rfl⟩⟩
 ·intro i o ho A x W hL hR hdep K hK;obtain⟨c12,c13, -⟩:=id hR;rcases i with _|_|_|_|_|_|_|_|i
  ·obtain rfl:=Option.some.inj ho;have a9:=hL.2 9 (by decide);conv at a9=>rhs;whnf
   clear hdep hL;go_simp
   exact hK _ _ hR (fun _ _ _ h=>h) rfl
  ·obtain rfl:=Option.some.inj ho;have g0:A.tmps.getD 18 undef= .pointer (some ⟨b4,12,none⟩):=(hL.1 18 (by decide)).trans (hdep ⟨0,.data⟩ (by simp) rfl _ rfl);clear hdep hL;go_simp
   exact hK _ _ hR (fun _ _ _ h=>h) rfl
  ·obtain rfl:=Option.some.inj ho;have a9:=hL.2 9 (by decide);conv at a9=>rhs;whnf
   clear hdep hL;go_simp
   exact hK _ _ hR (fun _ _ _ h=>h) rfl
  ·obtain rfl:=Option.some.inj ho;have g0:A.tmps.getD 20 undef= .pointer (some ⟨b4,13,none⟩):=(hL.1 20 (by decide)).trans (hdep ⟨2,.data⟩ (by simp) rfl _ rfl);clear hdep hL;go_simp
   exact hK _ _ hR (fun _ _ _ h=>h) rfl
  ·obtain rfl:=Option.some.inj ho;have a10:=hL.2 10 (by decide);conv at a10=>rhs;whnf
   clear hdep hL;go_simp
   exact hK _ _ hR (fun _ _ _ h=>h) rfl
  ·obtain rfl:=Option.some.inj ho;have g0:A.tmps.getD 19 undef= .int .i64 r:=(hL.1 19 (by decide)).trans (hdep ⟨1,.data⟩ (by simp) rfl _ rfl);clear hdep hL;go_simp
   exact hK _ _ hR (fun _ _ _ h=>h) rfl
  ·obtain rfl:=Option.some.inj ho;have g0:A.tmps.getD 21 undef= .int .u64 at_:=(hL.1 21 (by decide)).trans (hdep ⟨3,.data⟩ (by simp) rfl _ rfl);clear hdep hL;go_simp
   exact hK _ _ hR (fun _ _ _ h=>h) rfl
  ·obtain rfl:=Option.some.inj ho;have g0:A.tmps.getD 22 undef= .int .i64 E:=(hL.1 22 (by decide)).trans (hdep ⟨4,.data⟩ (by simp) rfl _ rfl);clear hdep hL;go_simp
   exact hK _ _ hR (fun _ _ _ h=>h) rfl
  ·cases ho
 ·intro i o v W hi hd hg;rcases i with _|_|_|_|_|_|_|_|i
  all_goals first|exact hg|(obtain rfl:=Option.some.inj hi;cases hd)|cases hi
 ·intro x W hR hG;have k5:x 6= .int .i64 r:=hG 5 _ rfl;have k6:x 7= .int .u64 at_:=hG 6 _ rfl;have k7:x 8= .int .i64 E:=hG 7 _ rfl;clear hG;simp only[lay,Act.put,Ls,k5,k6,k7];go_wp2_with fail
  refine Bp (results_tmp3 (fn:=Tryz.f30) rfl _ _ _) rfl ?_;exact⟨⟨c1,c2,r,at_,rfl,HPD.out.below hR.2.2⟩,by rw[hb0];exact HBD.out.trans (hR.2.2.mono (by omega))⟩
theorem qaz (t:TreeV)(kz z1 z2 xs ys:List Int)(xa ya:Option Addr)(xc yc:Nat)(w:World)(hl:0≤t.l∧t.l≤4294967295)(hk:Hold w (.slice t.ka t.kl t.kc) kz)(hs:Hold w (.slice t.sa t.sl t.sc) z1)(hp:Hold w (.slice t.pa t.pl t.pc) z2)(hx:Hold w (.slice xa xs.length xc) xs)(hy:Hold w (.slice ya ys.length yc) ys)(hxn:xs.length≤4194304)(hyn:ys.length≤4194304)(hv:t.validE≠0):
  Calls Tryz.prog 45 #[t.val,.slice xa xs.length xc,.slice ya ys.length yc] w fun e w'=>e= .returned (.tuple #[.slice none 0 0,.slice none 0 0,.int .i64 t.validE])∧Below w.heap.size w w':=by
 have hvn:(t.validE != 0)=true:=by rw[bne_iff_ne];exact hv
 obtain⟨b0,hb0⟩:=Ex w.heap.size;have HHX:=hid (fun(W:World) (hb:Below b0 w W)=>yI t kz z1 z2 xs (.slice xa xs.length xc) W hl (hk.below (hb0▸hb)) (hs.below (hb0▸hb)) (hp.below (hb0▸hb)) (hx.below (hb0▸hb)) hxn);have HHY:=hid (fun(W:World) (hb:Below b0 w W)=>yI t kz z1 z2 ys (.slice ya ys.length yc) W hl (hk.below (hb0▸hb)) (hs.below (hb0▸hb)) (hp.below (hb0▸hb)) (hy.below (hb0▸hb)) hyn);have HSA:=hid (fun(W:World) (hb:Below b0 w W)=>yt xs ys _ _ W (hx.below (hb0▸hb)) (hy.below (hb0▸hb)));clear hx hy hl hk hs hp;unfold TreeV.val;go_enter Tryz.func45,Tryz.ntmps45
 go_upto_region 1 with(fail)
 refine qj ?_;intro wA hwA;have hrA:wA.heap[b0]? =some (.cells #[.int .i64 t.k,.int .i64 t.d,.int .i64 t.f,.int .i64 t.p,.int .u32 t.l,.int .i64 t.i,.slice t.ka t.kl t.kc,.slice t.sa t.sl t.sc,.slice t.pa t.pl t.pc] 26 (0,0)):=by rw[hwA];exact qM hb0
 have hbA:Below b0 w wA:=by rw[hwA,←hb0];exact Br.alloc Nl _
 have hsA:b0<wA.heap.size:=(Ai hrA).1;clear hwA;go_wp2_with ((with_reducible show wpList _ _ _ (Oper.mk _ (Op.load 26 _) _ _ _ _::_) _ _);refine wpList_load_row rfl 26 _ rfl b0 rfl _ _ _ _ hrA Tryz.underlying26 rfl (by kernel_rfl) ?_)
 refine(HHX.out _ hbA).mono ?_;rintro e w1 ⟨u1,rfl,ho1,hb1⟩;have hr1:=qc hrA hb1;have hs1:b0<w1.heap.size:=(Ai hr1).1;have hbW1:=hbA.trans (hb1.mono (by omega));clear hrA hbA hb1 HHX;go_wp2_with fail
 refine Bp (results_tmp3 (fn:=Tryz.f45) rfl _ _ _) rfl ?_;exact⟨rfl,by rw[hb0];exact hbW1⟩
theorem JR (t:TreeV)(kz z1 z2 xs ys:List Int)(xa ya:Option Addr)(xc yc:Nat)(w:World)(hl:0≤t.l∧t.l≤4294967295)(hk:Hold w (.slice t.ka t.kl t.kc) kz)(hs:Hold w (.slice t.sa t.sl t.sc) z1)(hp:Hold w (.slice t.pa t.pl t.pc) z2)(hx:Hold w (.slice xa xs.length xc) xs)(hy:Hold w (.slice ya ys.length yc) ys)(hxn:xs.length≤4194304)(hyn:ys.length≤4194304)(hv:t.validE=0)(hxy:xs=ys):
  Calls Tryz.prog 45 #[t.val,.slice xa xs.length xc,.slice ya ys.length yc] w fun e w'=>e= .returned (.tuple #[.slice none 0 0,.slice none 0 0,.int .i64 120])∧Below w.heap.size w w':=by
 have e1:decide (xs=ys)=true:=decide_eq_true hxy;clear hxy;obtain⟨b0,hb0⟩:=Ex w.heap.size;have HHX:=hid (fun(W:World) (hb:Below b0 w W)=>yI t kz z1 z2 xs (.slice xa xs.length xc) W hl (hk.below (hb0▸hb)) (hs.below (hb0▸hb)) (hp.below (hb0▸hb)) (hx.below (hb0▸hb)) hxn);have HHY:=hid (fun(W:World) (hb:Below b0 w W)=>yI t kz z1 z2 ys (.slice ya ys.length yc) W hl (hk.below (hb0▸hb)) (hs.below (hb0▸hb)) (hp.below (hb0▸hb)) (hy.below (hb0▸hb)) hyn);have HSA:=hid (fun(W:World) (hb:Below b0 w W)=>yt xs ys _ _ W (hx.below (hb0▸hb)) (hy.below (hb0▸hb)));clear hx hy hl hk hs hp;unfold TreeV.val;go_enter Tryz.func45,Tryz.ntmps45
 go_upto_region 1 with(fail)
 refine qj ?_;intro wA hwA;have hrA:wA.heap[b0]? =some (.cells #[.int .i64 t.k,.int .i64 t.d,.int .i64 t.f,.int .i64 t.p,.int .u32 t.l,.int .i64 t.i,.slice t.ka t.kl t.kc,.slice t.sa t.sl t.sc,.slice t.pa t.pl t.pc] 26 (0,0)):=by rw[hwA];exact qM hb0
 have hbA:Below b0 w wA:=by rw[hwA,←hb0];exact Br.alloc Nl _
 have hsA:b0<wA.heap.size:=(Ai hrA).1;clear hwA;go_wp2_with ((with_reducible show wpList _ _ _ (Oper.mk _ (Op.load 26 _) _ _ _ _::_) _ _);refine wpList_load_row rfl 26 _ rfl b0 rfl _ _ _ _ hrA Tryz.underlying26 rfl (by kernel_rfl) ?_)
 refine(HHX.out _ hbA).mono ?_;rintro e w1 ⟨u1,rfl,ho1,hb1⟩;have hr1:=qc hrA hb1;have hs1:b0<w1.heap.size:=(Ai hr1).1;have hbW1:=hbA.trans (hb1.mono (by omega));clear hrA hbA hb1 HHX;rw[hv];go_wp2_with fail
 refine(HSA.out _ hbW1).mono ?_;rintro e w2 ⟨rfl,m1,rfl⟩;rw[e1];go_wp2_with fail
 refine Bp (results_tmp3 (fn:=Tryz.f45) rfl _ _ _) rfl ?_;exact⟨rfl,by rw[hb0];exact cBD hbW1⟩
theorem qay (t:TreeV)(kz z1 z2 xs ys:List Int)(xa ya:Option Addr)(xc yc:Nat)(w:World)(hl:0≤t.l∧t.l≤4294967295)(hk:Hold w (.slice t.ka t.kl t.kc) kz)(hs:Hold w (.slice t.sa t.sl t.sc) z1)(hp:Hold w (.slice t.pa t.pl t.pc) z2)(hx:Hold w (.slice xa xs.length xc) xs)(hy:Hold w (.slice ya ys.length yc) ys)(hxn:xs.length≤4194304)(hyn:ys.length≤4194304)(hv:t.validE=0)(hxy:xs≠ys)(hd:t.digZ kz z1 z2 xs≠t.digZ kz z1 z2 ys):
  Calls Tryz.prog 45 #[t.val,.slice xa xs.length xc,.slice ya ys.length yc] w fun e w'=>e= .returned (.tuple #[.slice none 0 0,.slice none 0 0,.int .i64 6])∧Below w.heap.size w w':=by
 have e1:decide (xs=ys)=false:=decide_eq_false hxy;clear hxy;have e2:decide (t.digZ kz z1 z2 xs=t.digZ kz z1 z2 ys)=false:=decide_eq_false hd;clear hd;obtain⟨b0,hb0⟩:=Ex w.heap.size;have HHX:=hid (fun(W:World) (hb:Below b0 w W)=>yI t kz z1 z2 xs (.slice xa xs.length xc) W hl (hk.below (hb0▸hb)) (hs.below (hb0▸hb)) (hp.below (hb0▸hb)) (hx.below (hb0▸hb)) hxn);have HHY:=hid (fun(W:World) (hb:Below b0 w W)=>yI t kz z1 z2 ys (.slice ya ys.length yc) W hl (hk.below (hb0▸hb)) (hs.below (hb0▸hb)) (hp.below (hb0▸hb)) (hy.below (hb0▸hb)) hyn);have HSA:=hid (fun(W:World) (hb:Below b0 w W)=>yt xs ys _ _ W (hx.below (hb0▸hb)) (hy.below (hb0▸hb)));clear hx hy hl hk hs hp;unfold TreeV.val;go_enter Tryz.func45,Tryz.ntmps45
 go_upto_region 1 with(fail)
 refine qj ?_;intro wA hwA;have hrA:wA.heap[b0]? =some (.cells #[.int .i64 t.k,.int .i64 t.d,.int .i64 t.f,.int .i64 t.p,.int .u32 t.l,.int .i64 t.i,.slice t.ka t.kl t.kc,.slice t.sa t.sl t.sc,.slice t.pa t.pl t.pc] 26 (0,0)):=by rw[hwA];exact qM hb0
 have hbA:Below b0 w wA:=by rw[hwA,←hb0];exact Br.alloc Nl _
 have hsA:b0<wA.heap.size:=(Ai hrA).1;clear hwA;go_wp2_with ((with_reducible show wpList _ _ _ (Oper.mk _ (Op.load 26 _) _ _ _ _::_) _ _);refine wpList_load_row rfl 26 _ rfl b0 rfl _ _ _ _ hrA Tryz.underlying26 rfl (by kernel_rfl) ?_)
 refine(HHX.out _ hbA).mono ?_;rintro e w1 ⟨u1,rfl,ho1,hb1⟩;have hr1:=qc hrA hb1;have hs1:b0<w1.heap.size:=(Ai hr1).1;have hbW1:=hbA.trans (hb1.mono (by omega));clear hrA hbA hb1 HHX;rw[hv];go_wp2_with fail
 refine(HSA.out _ hbW1).mono ?_;rintro e w2 ⟨rfl,m1,rfl⟩;rw[e1];have hbW2:Below b0 w (w1.drewN m1):=cBD hbW1;have hr2:(w1.drewN m1).heap[b0]? =some (.cells #[.int .i64 t.k,.int .i64 t.d,.int .i64 t.f,.int .i64 t.p,.int .u32 t.l,.int .i64 t.i,.slice t.ka t.kl t.kc,.slice t.sa t.sl t.sc,.slice t.pa t.pl t.pc] 26 (0,0)):=hr1;have hU1:=(ho1.hold).below (Z2 w1 m1);have hs2:b0<(w1.drewN m1).heap.size:=hs1;go_upto_region 6 with(fail)
 refine qj ?_;intro w2 hw2;rw[←hw2]at hbW2 hr2 hU1 hs2;clear hw2 hr1 hbW1 ho1;go_wp2_with ((with_reducible show wpList _ _ _ (Oper.mk _ (Op.load 26 _) _ _ _ _::_) _ _);refine wpList_load_row rfl 26 _ rfl b0 rfl _ _ _ _ hr2 Tryz.underlying26 rfl (by kernel_rfl) ?_)
 refine(HHY.out _ hbW2).mono ?_;rintro e w3 ⟨u2,rfl,ho2,hb3⟩;have hr3:=qc hr2 hb3;have hs3:b0<w3.heap.size:=(Ai hr3).1;have hbW3:=hbW2.trans (hb3.mono (by omega));have hU13:=hU1.below hb3;have hU23:=ho2.hold;have HSU:=hid (yt _ _ u1 u2 w3 hU13 hU23);clear hU1 hU13 hU23 ho2 hb3 hr2 hbW2 HHY;go_wp2_with fail
 refine HSU.out.mono ?_;rintro e w4 ⟨rfl,m2,rfl⟩;rw[e2];go_wp2_with fail
 refine Bp (results_tmp3 (fn:=Tryz.f45) rfl _ _ _) rfl ?_;exact⟨rfl,by rw[hb0];exact cBD hbW3⟩
theorem Zo (t:TreeV)(kz z1 z2 xs ys:List Int)(xa ya:Option Addr)(xc yc:Nat)(w:World)(hl:0≤t.l∧t.l≤4294967295)(hk:Hold w (.slice t.ka t.kl t.kc) kz)(hs:Hold w (.slice t.sa t.sl t.sc) z1)(hp:Hold w (.slice t.pa t.pl t.pc) z2)(hx:Hold w (.slice xa xs.length xc) xs)(hy:Hold w (.slice ya ys.length yc) ys)(hxn:xs.length≤4194304)(hyn:ys.length≤4194304)(hv:t.validE=0)(hxy:xs≠ys)(hd:t.digZ kz z1 z2 xs=t.digZ kz z1 z2 ys):
  Calls Tryz.prog 45 #[t.val,.slice xa xs.length xc,.slice ya ys.length yc] w fun e w'=>(∃u1 u2,e= .returned (.tuple #[u1,u2,.int .i64 0])∧LevO w w.heap.size w' u1 (t.allC kz z1 z2 xs ((t.rowsOf xs.length).length - 1+1))∧LevO w w.heap.size w' u2 (t.allC kz z1 z2 ys ((t.rowsOf ys.length).length - 1+1)))∧Below w.heap.size w w':=by
 have e1:decide (xs=ys)=false:=decide_eq_false hxy;clear hxy;have e2:decide (t.digZ kz z1 z2 xs=t.digZ kz z1 z2 ys)=true:=decide_eq_true hd;clear hd;obtain⟨b0,hb0⟩:=Ex w.heap.size;have HHX:=hid (fun(W:World) (hb:Below b0 w W)=>yI t kz z1 z2 xs (.slice xa xs.length xc) W hl (hk.below (hb0▸hb)) (hs.below (hb0▸hb)) (hp.below (hb0▸hb)) (hx.below (hb0▸hb)) hxn);have HHY:=hid (fun(W:World) (hb:Below b0 w W)=>yI t kz z1 z2 ys (.slice ya ys.length yc) W hl (hk.below (hb0▸hb)) (hs.below (hb0▸hb)) (hp.below (hb0▸hb)) (hy.below (hb0▸hb)) hyn);have HSA:=hid (fun(W:World) (hb:Below b0 w W)=>yt xs ys _ _ W (hx.below (hb0▸hb)) (hy.below (hb0▸hb)));have HLX:=hid (fun(W:World) (hb:Below b0 w W)=>qcg t kz z1 z2 xs (.slice xa xs.length xc) w W ⟨hv,hl,hk,hs,hp⟩ hx (hb0▸hb) hxn);have HLY:=hid (fun(W:World) (hb:Below b0 w W)=>qcg t kz z1 z2 ys (.slice ya ys.length yc) w W ⟨hv,hl,hk,hs,hp⟩ hy (hb0▸hb) hyn);clear hx hy hl hk hs hp;unfold TreeV.val;go_enter Tryz.func45,Tryz.ntmps45
 go_upto_region 1 with(fail)
 refine qj ?_;intro wA hwA;have hrA:wA.heap[b0]? =some (.cells #[.int .i64 t.k,.int .i64 t.d,.int .i64 t.f,.int .i64 t.p,.int .u32 t.l,.int .i64 t.i,.slice t.ka t.kl t.kc,.slice t.sa t.sl t.sc,.slice t.pa t.pl t.pc] 26 (0,0)):=by rw[hwA];exact qM hb0
 have hbA:Below b0 w wA:=by rw[hwA,←hb0];exact Br.alloc Nl _
 have hsA:b0<wA.heap.size:=(Ai hrA).1;clear hwA;go_wp2_with ((with_reducible show wpList _ _ _ (Oper.mk _ (Op.load 26 _) _ _ _ _::_) _ _);refine wpList_load_row rfl 26 _ rfl b0 rfl _ _ _ _ hrA Tryz.underlying26 rfl (by kernel_rfl) ?_)
 refine(HHX.out _ hbA).mono ?_;rintro e w1 ⟨u1,rfl,ho1,hb1⟩;have hr1:=qc hrA hb1;have hs1:b0<w1.heap.size:=(Ai hr1).1;have hbW1:=hbA.trans (hb1.mono (by omega));clear hrA hbA hb1 HHX;rw[hv];go_wp2_with fail
 refine(HSA.out _ hbW1).mono ?_;rintro e w2 ⟨rfl,m1,rfl⟩;rw[e1];have hbW2:Below b0 w (w1.drewN m1):=cBD hbW1;have hr2:(w1.drewN m1).heap[b0]? =some (.cells #[.int .i64 t.k,.int .i64 t.d,.int .i64 t.f,.int .i64 t.p,.int .u32 t.l,.int .i64 t.i,.slice t.ka t.kl t.kc,.slice t.sa t.sl t.sc,.slice t.pa t.pl t.pc] 26 (0,0)):=hr1;have hU1:=(ho1.hold).below (Z2 w1 m1);have hs2:b0<(w1.drewN m1).heap.size:=hs1;go_upto_region 6 with(fail)
 refine qj ?_;intro w2 hw2;rw[←hw2]at hbW2 hr2 hU1 hs2;clear hw2 hr1 hbW1 ho1;go_wp2_with ((with_reducible show wpList _ _ _ (Oper.mk _ (Op.load 26 _) _ _ _ _::_) _ _);refine wpList_load_row rfl 26 _ rfl b0 rfl _ _ _ _ hr2 Tryz.underlying26 rfl (by kernel_rfl) ?_)
 refine(HHY.out _ hbW2).mono ?_;rintro e w3 ⟨u2,rfl,ho2,hb3⟩;have hr3:=qc hr2 hb3;have hs3:b0<w3.heap.size:=(Ai hr3).1;have hbW3:=hbW2.trans (hb3.mono (by omega));have hU13:=hU1.below hb3;have hU23:=ho2.hold;have HSU:=hid (yt _ _ u1 u2 w3 hU13 hU23);clear hU1 hU13 hU23 ho2 hb3 hr2 hbW2 HHY;go_wp2_with fail
 refine HSU.out.mono ?_;rintro e w4 ⟨rfl,m2,rfl⟩;rw[e2];have hbW4:Below b0 w (w3.drewN m2):=cBD hbW3;have hr4:(w3.drewN m2).heap[b0]? =some (.cells #[.int .i64 t.k,.int .i64 t.d,.int .i64 t.f,.int .i64 t.p,.int .u32 t.l,.int .i64 t.i,.slice t.ka t.kl t.kc,.slice t.sa t.sl t.sc,.slice t.pa t.pl t.pc] 26 (0,0)):=hr3;have hs4:b0<(w3.drewN m2).heap.size:=hs3;go_upto_region 9 with(fail)
 refine qj ?_;intro w4 hw4;rw[←hw4]at hbW4 hr4 hs4;clear hw4 hr3 hbW3;go_wp2_with ((with_reducible show wpList _ _ _ (Oper.mk _ (Op.load 26 _) _ _ _ _::_) _ _);refine wpList_load_row rfl 26 _ rfl b0 rfl _ _ _ _ hr4 Tryz.underlying26 rfl (by kernel_rfl) ?_)
 refine(HLX.out _ hbW4).mono ?_;rintro e w5 ⟨v1,rfl,hL1,hb5⟩;have hr5:=qc hr4 hb5;have hs5:b0<w5.heap.size:=(Ai hr5).1;have hbW5:=hbW4.trans (hb5.mono (by omega));have HL1:=hid (hL1.le (show b0≤w4.heap.size by omega));clear hL1 hb5 hr4 hbW4;go_upto_region 10 with(fail)
 go_wp2_with ((with_reducible show wpList _ _ _ (Oper.mk _ (Op.load 26 _) _ _ _ _::_) _ _);refine wpList_load_row rfl 26 _ rfl b0 rfl _ _ _ _ hr5 Tryz.underlying26 rfl (by kernel_rfl) ?_)
 refine(HLY.out _ hbW5).mono ?_;rintro e w6 ⟨v2,rfl,hL2,hb6⟩;have hbW6:=hbW5.trans (hb6.mono (by omega));have HL2:=hid (hL2.le (show b0≤w5.heap.size by omega));have HL16:=hid (HL1.out.below (by omega) hb6);clear hL2 hb6 hr5 hbW5;go_wp2_with fail
 refine Bp (results_tmp3 (fn:=Tryz.f45) rfl _ _ _) rfl ?_;rw[hb0];exact⟨⟨v1,v2,rfl,HL16.out,HL2.out⟩,hbW6⟩
def GF (p6 p7:Nat)(sa:Value)(k:Nat)(pa:Value)(ca:Array Value)(sb pb:Value)(cb:Array Value)(s0:Value)(ln dn:Int)(rw_:Nat):Nat→Value→World→Prop
 | 0,v,_=>v=sa
 | 1,v,_=>v= .int .i64 (k:Nat)
 | 2,v,_=>v=pa
 | 3,v,_=>v= .agg ca
 | 4,v,_=>v=sb
 | 5,v,_=>v= .int .i64 (k:Nat)
 | 6,v,_=>v=pb
 | 7,v,_=>v= .agg cb
 | 8,v,_=>v=s0
 | 9,v,_=>v= .int .i64 ln
 | 10,v,_=>v= .int .i64 dn
 | 11,v,_=>v= .int .i64 (rw_:Nat)
 | 12,v,_=>v= .int .i64 (k:Nat)
 | 13,v,_=>v= .int .u64 (k:Nat)
 | 14,_,W=>W.heap[p6]? =some (.cells ca 54 (0,0))
 | 15,_,W=>W.heap[p7]? =some (.cells cb 54 (0,0))
 | 16,v,_=>v= .int .i64 (rw_:Nat)
 | 17,v,_=>v= .int .u64 (k:Nat)
 | _,_,_=>True
def RF (p6 p7 ga gb:Nat)(w0 W:World):Prop:=Spare (fun k=>k≠p6∧k≠p7) w0 W∧W.heap[ga]? =w0.heap[ga]? ∧W.heap[gb]? =w0.heap[gb]? ∧(∃o,W.heap[p6]? =some (.cells o 54 (0,0))∧o.size=6)∧ ∃o,W.heap[p7]? =some (.cells o 54 (0,0))∧o.size=6
theorem zH {S:Nat→Prop}{W W':World}{v:Value}{c:CallS}(h:CallM W v c)(hS:Spare S W W')(hg: ∀(k:Nat) (c:Array Value) (T:TypeId) (fr:Nat×Nat),W.heap[k]? =some (.cells c T fr)→ ¬S k→ ∀(i:Nat) (z:Int),c[i]? ≠some (Value.int .u8 z)):CallM W' v c:=by
 obtain⟨u1,u2,u3,e1,q1,q2,q3⟩:=h;exact⟨u1,u2,u3,e1,yd q1 hS hg,yd q2 hS hg,yd q3 hS hg⟩
theorem qdu {fn:Func}{p q u v:Tmp}(h:fn.results= #[.cell p 54,.cell q 54,.tmp u,.tmp v])(tmps:Array Value)(w:World)(p6 p7:Nat)(c1 c2:Array Value)(hp:tmps.getD p undef= .pointer (some ⟨p6,0,none⟩))(hq:tmps.getD q undef= .pointer (some ⟨p7,0,none⟩))(h6:w.heap[p6]? =some (.cells c1 54 (0,0)))(h7:w.heap[p7]? =some (.cells c2 54 (0,0)))(e1:c1.size=6)(e2:c2.size=6):(results fn tmps).run Tryz.prog w= .ok (.tuple #[.agg c1,.agg c2,tmps.getD u undef,tmps.getD v undef]) w:=by
 have hp':tmps[p]?.getD undef= .pointer (some ⟨p6,0,none⟩):=by simpa using hp
 have hq':tmps[q]?.getD undef= .pointer (some ⟨p7,0,none⟩):=by simpa using hq
 have k1:=run_loadVar_row (P:=Tryz.prog) w p6 54 54 c1 (0,0) _ h6 Tryz.underlying54 rfl (by rw[e1];kernel_rfl);have k2:=run_loadVar_row (P:=Tryz.prog) w p7 54 54 c2 (0,0) _ h7 Tryz.underlying54 rfl (by rw[e2];kernel_rfl);simp[results,h,hp',hq',asAddr,k1,k2,Sem.run_bind,Result.andThen]
theorem qbP (s B0:Nat)(A B:List (List CallS))(u1 u2:Value)(vs1 vs2:List Value)(n1 n2:Nat)(W:World)(h1:W.ownsRow B0 75 1 u1 (n1+1) vs1)(h2:W.ownsRow B0 75 1 u2 (n2+1) vs2)
  (hA: ∀d,d<n1+1→LevH s W (vs1.getD (n1 - d) undef) (A.getD d [])) (hB: ∀d,d<n2+1→LevH s W (vs2.getD (n2 - d) undef) (B.getD d [])) (hAl:A.length=n1+1) (hBl:B.length=n2+1) (hn1:n1≤300) (hn2:n2≤300)
  (a b:CallS) (row i:Nat) (hd:yO A B n1=some (a,b,row,i)):
  Calls Tryz.prog 46 #[u1,u2] W fun e W'=>(∃c1 c2,e= .returned (.tuple #[.agg c1,.agg c2,.int .i64 (row:Nat),.int .u64 (i:Nat)])∧Yz c1∧Yz c2∧CallM W' (.agg c1) a∧CallM W' (.agg c2) b)∧Below W.heap.size W W':=by
 obtain⟨b0,hb0⟩:=Ex W.heap.size;obtain⟨g1,cap1,rfl⟩:=ownsRow_succ h1;obtain⟨g2,cap2,rfl⟩:=ownsRow_succ h2;have hg1:=QS h1 g1 rfl;have hg2:=QS h2 g2 rfl;have HR1:=hid h1;have HR2:=hid h2;have HA:=hid hA;have HB:=hid hB;have HD:=hid hd;have HAL:=hid hAl;have HBL:=hid hBl;clear h1 h2 hA hB hd hAl hBl;go_enter Tryz.func46,Tryz.ntmps46
 go_upto_region 1 with(fail)
 refine qj ?_;intro wA hwA;have h4A:wA.heap[b0]? =some (.cells zeroC 54 (0,0)):=by rw[hwA];exact QO (qM hb0)
 have h5A:wA.heap[b0+1]? =some (.cells zeroC 54 (0,0)):=by rw[hwA];exact qM (by rw[qw,hb0])
 have hbA:Below b0 W wA:=by rw[hwA,←hb0];exact(Br.alloc Nl _).alloc (by simp) _
 clear hwA;have H4:=hid (show wA.heap[b0]? =some (.cells zeroC 54 (0,0))∧wA.heap[b0+1]? =some (.cells zeroC 54 (0,0)) from⟨h4A,h5A⟩);have HBA:=hid hbA;have hsA:b0+2≤wA.heap.size:=by have:=(Ai h5A).1;omega
 clear h4A h5A hbA;go_wp2_with fail
 go_loopw [8] (fun dn V=> ∃d:Nat,dn= .int .i64 ((d:Int)+1)∧d≤n1+1∧yO A B n1=yO (A.drop d) (B.drop d) (n1 - d)∧Below (b0+2) wA V) (fun dn _=>n1+2 - (intOf dn).toNat)
 case atStart=>exact⟨0,by go_num,Nat.zero_le _,rfl,Below.refl _ _⟩
 case round=>
  obtain⟨d,rfl,hdn,hdd,hb⟩:=hrel;by_cases hlt:d<n1+1∧d<n2+1
  case neg=>
   exfalso
   have:=HD.out
   rw[hdd]at this;by_cases h:d<n1+1
   ·rw[show B.drop d=[] from List.drop_eq_nil_of_le (by rw[HBL.out];omega)]at this
    cases hA:A.drop d<;>rw[hA]at this<;>cases this
   ·rw[show A.drop d=[] from List.drop_eq_nil_of_le (by rw[HAL.out];omega)]at this
    cases this
  case pos=>
   have hbW:=HBA.out.trans (hb.mono (by omega));have hkW:KC s W wr:=KC.of_below (by rw[hb0];exact hbW);have hrow1:=zb HR1.out (fun g hg=>hbW.block g (by rw[←hb0];exact QS HR1.out g hg));have hrow2:=zb HR2.out (fun g hg=>hbW.block g (by rw[←hb0];exact QS HR2.out g hg));have hv1:=HA.out d (by omega);have hv2:=HB.out d (by omega);have hc1:=JT hrow1 (i:=n1 - d) (by omega);have hc2:=JT hrow2 (i:=n2 - d) (by omega);obtain⟨ga,oa,ca,e1,hca,hcam,hga,hLA⟩:=hv1;obtain⟨gb,ob,cb,e2,hcb,hcbm,hgb,hLB⟩:=hv2;have hga0:ga<b0:=by omega
   have hgb0:gb<b0:=by omega
   have hga:ga<wr.heap.size:=by have:=hbW.size;omega
   have hgb:gb<wr.heap.size:=by have:=hbW.size;omega
   have hLA:=hLA.kc hkW;have hLB:=hLB.kc hkW;rw[e1]at hc1;rw[e2]at hc2;obtain⟨X,hX⟩:=Ex (A.getD d []);obtain⟨Y,hY⟩:=Ex (B.getD d []);rw[hX]at hc1 hca hLA;rw[hY]at hc2 hcb hLB;obtain⟨na,hna⟩:=Ex X.length;obtain⟨nb,hnb⟩:=Ex Y.length;rw[hna]at hc1 hca;rw[hnb]at hc2 hcb;have hst:=qbk (A:=A) (B:=B) (m:=n1) (d:=d) (by rw[HAL.out];omega);rw[if_pos (by rw[HBL.out];omega),hX,hY,←hdd]at hst;have HST:=hid hst;have HLA:=hid hLA;have HLB:=hid hLB;have HNA:=hid hna;have HNB:=hid hnb;have HBW:=hid hbW;have HBR:=hid hb;have i1:(n1:Int)+1 - ((d:Int)+1)=((n1 - d:Nat):Int):=by omega
   have i2:(n2:Int)+1 - ((d:Int)+1)=((n2 - d:Nat):Int):=by omega
   have l1:(d:Int)+1≤(n1:Int)+1:=by omega
   have l2:(d:Int)+1≤(n2:Int)+1:=by omega
   clear hst hLA hLB hna hnb hbW hb hkW hrow1 hrow2 e1 e2 hX hY hdd;obtain⟨wr0,hwr0⟩: ∃wr0,wr0=wr:=⟨_,rfl⟩;rw[←hwr0]at hga hgb HLA HLB HBW HBR;go_wp2_with fail
   go_loopw [11] (fun iv V=> ∃k:Nat,iv= .int .i64 (k:Nat)∧k≤na∧k≤nb∧zi (X.drop k) (Y.drop k) k=zi X Y 0∧Below wr0.heap.size wr0 V) (fun iv _=>na - (intOf iv).toNat)
   case atStart=>exact⟨0,rfl,Nat.zero_le _,Nat.zero_le _,rfl,by rw[hwr0];exact Below.refl _ _⟩
   case round=>
    obtain⟨k,rfl,hka,hkb,hdl,hb⟩:=hrel;by_cases hlk:k<na∧k<nb
    case neg=>
     rw[qcl (by rw[HNA.out,HNB.out];omega)]at hdl;have hst:=HST.out;rw[←hdl]at hst;have HS2:=hid (show yO A B n1=yO (A.drop (d+1)) (B.drop (d+1)) (n1 - (d+1)) from hst);have HB2:=hid (HBR.out.trans (hb.mono (show b0+2≤wr0.heap.size by have:=HBR.out.size;omega)));clear hdl hst hb hc1 hc2;by_cases hq:k<na
     ·have hq1:(k:Int)<(na:Nat):=by omega
      have hq2:(nb:Int)≤(k:Nat):=by omega
      go_wp2_with fail
      exact⟨⟨d+1,by go_num,by omega,HS2.out,HB2.out⟩,by simp[intOf];omega⟩
     ·have hq1:(na:Int)≤(k:Nat):=by omega
      go_wp2_with fail
      exact⟨⟨d+1,by go_num,by omega,HS2.out,HB2.out⟩,by simp[intOf];omega⟩
    case pos=>
     have hlt2:(k:Int)<(na:Nat):=by omega
     have hlt3:(k:Int)<(nb:Nat):=by omega
     have hcl:KC s wr0 wr:=KC.of_below hb;clear hc1 hc2;obtain⟨p1,l1,q1,p2,l2,q2,p3,l3,q3,hc1,u11,u12,u13⟩:=(HLA.out.kc hcl).callS (i:=k) (by rw[HNA.out];omega);obtain⟨s1,j1,t1,s2,j2,t2,s3,j3,t3,hc2,u21,u22,u23⟩:=(HLB.out.kc hcl).callS (i:=k) (by rw[HNB.out];omega);rw[qbl (by rw[HNA.out];omega) (by rw[HNB.out];omega)]at hdl;obtain⟨x,hx⟩:=Ex (X.getD k .zero);obtain⟨y,hy⟩:=Ex (Y.getD k .zero);rw[hx]at hc1 u11 u12 u13 hdl;rw[hy]at hc2 u21 u22 u23 hdl;have hM1:CallM wr (.agg (qt x.k (.slice p1 l1 q1) (.slice p2 l2 q2) x.la x.o (.slice p3 l3 q3))) x:=⟨_,_,_,rfl,u11.1,u12.1,u13.1⟩;have hM2:CallM wr (.agg (qt y.k (.slice s1 j1 t1) (.slice s2 j2 t2) y.la y.o (.slice s3 j3 t3))) y:=⟨_,_,_,rfl,u21.1,u22.1,u23.1⟩;have HW:=hid (And.intro (JE (k:=x.k) (la:=x.la) (o:=x.o) u11.1 u12.1 u13.1) (JE (k:=y.k) (la:=y.la) (o:=y.o) u21.1 u22.1 u23.1));have x0:wr.cell? ⟨ga,oa+k*6,none⟩=some (.int .i64 x.k):=hc1 0 (by omega);have x1:wr.cell? ⟨ga,oa+k*6+1,none⟩=some (.slice p1 l1 q1):=hc1 1 (by omega);have x2:wr.cell? ⟨ga,oa+k*6+2,none⟩=some (.slice p2 l2 q2):=hc1 2 (by omega);have x3:wr.cell? ⟨ga,oa+k*6+3,none⟩=some (.bool x.la):=hc1 3 (by omega);have x4:wr.cell? ⟨ga,oa+k*6+4,none⟩=some (.int .i64 x.o):=hc1 4 (by omega);have x5:wr.cell? ⟨ga,oa+k*6+5,none⟩=some (.slice p3 l3 q3):=hc1 5 (by omega);have y0:wr.cell? ⟨gb,ob+k*6,none⟩=some (.int .i64 y.k):=hc2 0 (by omega);have y1:wr.cell? ⟨gb,ob+k*6+1,none⟩=some (.slice s1 j1 t1):=hc2 1 (by omega);have y2:wr.cell? ⟨gb,ob+k*6+2,none⟩=some (.slice s2 j2 t2):=hc2 2 (by omega);have y3:wr.cell? ⟨gb,ob+k*6+3,none⟩=some (.bool y.la):=hc2 3 (by omega);have y4:wr.cell? ⟨gb,ob+k*6+4,none⟩=some (.int .i64 y.o):=hc2 4 (by omega);have y5:wr.cell? ⟨gb,ob+k*6+5,none⟩=some (.slice s3 j3 t3):=hc2 5 (by omega);have hga':ga<wr.heap.size:=by have:=hb.size;omega
     have hgb':gb<wr.heap.size:=by have:=hb.size;omega
     have HDL:=hid hdl;have HB2:=hid hb;have HM1:=hid hM1;have HM2:=hid hM2;clear hx hy hc1 hc2 hM1 hM2 hdl hb hcl u11 u12 u13 u21 u22 u23;go_upto_region 9 with(fail)
     refine qA (n:=8) (w0:=wr) (B:=wr.heap.size) [.v 50 (.slice (some ⟨ga,oa,none⟩) na ca),.v 51 (.int .i64 (k:Nat)),.v 52 (.pointer (some ⟨ga,oa+k*6,none⟩)),.v 53 (.agg (qt x.k (.slice p1 l1 q1) (.slice p2 l2 q2) x.la x.o (.slice p3 l3 q3))),.v 54 (.slice (some ⟨gb,ob,none⟩) nb cb),.v 55 (.int .i64 (k:Nat)),.v 56 (.pointer (some ⟨gb,ob+k*6,none⟩)),.v 57 (.agg (qt y.k (.slice s1 j1 t1) (.slice s2 j2 t2) y.la y.o (.slice s3 j3 t3)))] trivial Br.drew Nl ?_ ?_
     ·repeat' (with_reducible first|exact qx|refine qu ?_ ?_)
      all_goals
      intro AA xx V hA hV hBV hdep D K hK;have a9:=hA.2 9 (by decide);conv at a9=>rhs;whnf
      have a10:=hA.2 10 (by decide);conv at a10=>rhs;whnf
      have a11:=hA.2 11 (by decide);conv at a11=>rhs;whnf
      have x0':=(hV.cell (p:=⟨ga,oa+k*6,none⟩) hga').trans x0;have x1':=(hV.cell (p:=⟨ga,oa+k*6+1,none⟩) hga').trans x1;have x2':=(hV.cell (p:=⟨ga,oa+k*6+2,none⟩) hga').trans x2;have x3':=(hV.cell (p:=⟨ga,oa+k*6+3,none⟩) hga').trans x3;have x4':=(hV.cell (p:=⟨ga,oa+k*6+4,none⟩) hga').trans x4;have x5':=(hV.cell (p:=⟨ga,oa+k*6+5,none⟩) hga').trans x5;have y0':=(hV.cell (p:=⟨gb,ob+k*6,none⟩) hgb').trans y0;have y1':=(hV.cell (p:=⟨gb,ob+k*6+1,none⟩) hgb').trans y1;have y2':=(hV.cell (p:=⟨gb,ob+k*6+2,none⟩) hgb').trans y2;have y3':=(hV.cell (p:=⟨gb,ob+k*6+3,none⟩) hgb').trans y3;have y4':=(hV.cell (p:=⟨gb,ob+k*6+4,none⟩) hgb').trans y4;have y5':=(hV.cell (p:=⟨gb,ob+k*6+5,none⟩) hgb').trans y5;have z1:ga<V.heap.size:=by have:=hV.size;omega
      have z2:gb<V.heap.size:=by have:=hV.size;omega
      simp only[QU,Q4]at D;clear hdep hA;go_simp
      exact hK _ _ BR rfl
     intro xx V hV hBV hall;clear hall;refine qn ?_;simp only[QD,Act.put,Ls];have HM1V:=hid (HM1.out.below hV);have HM2V:=hid (HM2.out.below hV);have HBV:=hid (HB2.out.trans (hV.mono (by have:=HB2.out.size;omega)));have hUN:=hid (qbI x y _ _ V HM1V.out HM2V.out);obtain⟨sb,hsb⟩:=Ex (Zl x y);rw[hsb]at hUN;have HSB:=hid hsb;have hbv:wr0.heap.size≤V.heap.size:=by have:=HBV.out.size;omega
     have HX:=hid (And.intro x0 (And.intro x1 (And.intro x2 (And.intro x3 (And.intro x4 x5)))));have HY:=hid (And.intro y0 (And.intro y1 (And.intro y2 (And.intro y3 (And.intro y4 y5)))));have HV:=hid hV;clear hV hBV HM1 HM2 hsb x0 x1 x2 x3 x4 x5 y0 y1 y2 y3 y4 y5;go_wp2_with fail
     refine hUN.out.mono ?_;rintro e W3 ⟨rfl,hb3⟩;have HB3:=hid (HBV.out.trans (hb3.mono hbv))
     cases sb
     case true=>
      have hxy:=(ja x y).1 HSB.out;have HD3:=hid ((if_pos hxy).symm.trans HDL.out);clear hb3 hUN hxy;go_wp2_with fail
      refine qs ?_;go_wp2_with fail
      refine⟨⟨k+1,by go_num,by omega,by omega,HD3.out,HB3.out⟩,by simp[intOf];omega⟩
     case false=>
      have hxy: ¬x=y:=fun e=>by have:=(ja x y).2 e;rw[HSB.out]at this;cases this
      have HD3:=hid ((if_neg hxy).symm.trans HDL.out);have hst:=HST.out;rw[←HD3.out,HD.out]at hst;simp only[Option.some.injEq,Prod.mk.injEq]at hst;have HEQ:=hid hst;obtain⟨x0,x1,x2,x3,x4,x5⟩:=HX.out;obtain⟨y0,y1,y2,y3,y4,y5⟩:=HY.out;have hV3:=HV.out.trans (hb3.mono (show wr.heap.size≤V.heap.size from HV.out.size));have HM1W:=hid (HM1V.out.below hb3);have HM2W:=hid (HM2V.out.below hb3);have hwr3:b0+2≤wr0.heap.size:=by have:=HBR.out.size;omega
      have hbA3:=HBR.out.trans (HB3.out.mono hwr3);have h43:=(hbA3.block b0 (by omega)).trans H4.out.1;have h53:=(hbA3.block (b0+1) (by omega)).trans H4.out.2;have HBF:=hid (HBA.out.trans (hbA3.mono (by omega)));have hgaV:ga<wr.heap.size:=hga';have hW1:=HW.out.1;have hW2:=HW.out.2;have x0:=(hV3.cell (p:=⟨ga,oa+k*6,none⟩) hga').trans x0;have x1:=(hV3.cell (p:=⟨ga,oa+k*6+1,none⟩) hga').trans x1;have x2:=(hV3.cell (p:=⟨ga,oa+k*6+2,none⟩) hga').trans x2;have x3:=(hV3.cell (p:=⟨ga,oa+k*6+3,none⟩) hga').trans x3;have x4:=(hV3.cell (p:=⟨ga,oa+k*6+4,none⟩) hga').trans x4;have x5:=(hV3.cell (p:=⟨ga,oa+k*6+5,none⟩) hga').trans x5;have y0:=(hV3.cell (p:=⟨gb,ob+k*6,none⟩) hgb').trans y0;have y1:=(hV3.cell (p:=⟨gb,ob+k*6+1,none⟩) hgb').trans y1;have y2:=(hV3.cell (p:=⟨gb,ob+k*6+2,none⟩) hgb').trans y2;have y3:=(hV3.cell (p:=⟨gb,ob+k*6+3,none⟩) hgb').trans y3;have y4:=(hV3.cell (p:=⟨gb,ob+k*6+4,none⟩) hgb').trans y4;have y5:=(hV3.cell (p:=⟨gb,ob+k*6+5,none⟩) hgb').trans y5;have hga3:ga<W3.heap.size:=by have:=hV3.size;omega
      have hgb3:gb<W3.heap.size:=by have:=hV3.size;omega
      clear hst hV3 hb3 hUN hbA3 hxy hwr3;go_wp2_with fail
      refine qs ?_;go_upto_region 10 with(fail)
      have hwk:IntKind.u64.wrap (k:Int)=(k:Int):=by rw[IntKind.wrap_u64]<;>omega
      refine Yj (ds:=[59,60,61,62,63,64,65,66,67,68,69,70,71,72,6,7]) (R:=RF b0 (b0+1) ga gb W3) (Good:=GF b0 (b0+1) (.slice (some ⟨ga,oa,none⟩) na ca) k (.pointer (some ⟨ga,oa+k*6,none⟩)) (qt x.k (.slice p1 l1 q1) (.slice p2 l2 q2) x.la x.o (.slice p3 l3 q3)) (.slice (some ⟨gb,ob,none⟩) nb cb) (.pointer (some ⟨gb,ob+k*6,none⟩)) (qt y.k (.slice s1 j1 t1) (.slice s2 j2 t2) y.la y.o (.slice s3 j3 t3)) (.slice (some ⟨g1,0,none⟩) (n1+1) cap1) ((n1:Int)+1) ((d:Int)+1) (n1 - d)) rfl rfl rfl (by decide) (by kernel_rfl) (by kernel_rfl) ?_ ?_ ?_ ?_
      ·exact⟨⟨rfl,rfl,rfl,Nat.le_refl _,fun _ _ _=>rfl⟩,rfl,rfl,⟨_,h43,rfl⟩,⟨_,h53,rfl⟩⟩
      ·intro i o ho A x' W hL hR hdep K hK;obtain⟨hS,hGa,hGb,⟨o6,h6,s6⟩,o7,h7,s7⟩:=id hR;have hgaW:ga<W.heap.size:=by have:=hS.size;omega
       have hgbW:gb<W.heap.size:=by have:=hS.size;omega
       rcases i with _|_|_|_|_|_|_|_|_|_|_|_|_|_|_|_|_|_|i
       ·obtain rfl:=Option.some.inj ho;have a9:=hL.2 9 (by decide);conv at a9=>rhs;whnf
        clear hdep hL;go_simp
        exact hK _ _ hR (fun _ _ _ h=>h) rfl
       ·obtain rfl:=Option.some.inj ho;have a11:=hL.2 11 (by decide);conv at a11=>rhs;whnf
        clear hdep hL;go_simp
        exact hK _ _ hR (fun _ _ _ h=>h) rfl
       ·obtain rfl:=Option.some.inj ho;have gg0:A.tmps.getD 59 undef=(.slice (some ⟨ga,oa,none⟩) na ca):=(hL.1 59 (by decide)).trans (hdep ⟨0,.data⟩ (by simp) rfl _ rfl);have gg1:A.tmps.getD 60 undef= .int .i64 (k:Nat):=(hL.1 60 (by decide)).trans (hdep ⟨1,.data⟩ (by simp) rfl _ rfl);clear hdep hL;go_simp
        exact hK _ _ hR (fun _ _ _ h=>h) rfl
       ·obtain rfl:=Option.some.inj ho;have gg0:A.tmps.getD 61 undef=(.pointer (some ⟨ga,oa+k*6,none⟩)):=(hL.1 61 (by decide)).trans (hdep ⟨2,.data⟩ (by simp) rfl _ rfl);have x0':=(World.cell?_of_block (a:=⟨ga,oa+k*6,none⟩) hGa).trans x0;have x1':=(World.cell?_of_block (a:=⟨ga,oa+k*6+1,none⟩) hGa).trans x1;have x2':=(World.cell?_of_block (a:=⟨ga,oa+k*6+2,none⟩) hGa).trans x2;have x3':=(World.cell?_of_block (a:=⟨ga,oa+k*6+3,none⟩) hGa).trans x3;have x4':=(World.cell?_of_block (a:=⟨ga,oa+k*6+4,none⟩) hGa).trans x4;have x5':=(World.cell?_of_block (a:=⟨ga,oa+k*6+5,none⟩) hGa).trans x5;clear hdep hL;go_simp
        exact hK _ _ hR (fun _ _ _ h=>h) rfl
       ·obtain rfl:=Option.some.inj ho;have a10:=hL.2 10 (by decide);conv at a10=>rhs;whnf
        clear hdep hL;go_simp
        exact hK _ _ hR (fun _ _ _ h=>h) rfl
       ·obtain rfl:=Option.some.inj ho;have a11:=hL.2 11 (by decide);conv at a11=>rhs;whnf
        clear hdep hL;go_simp
        exact hK _ _ hR (fun _ _ _ h=>h) rfl
       ·obtain rfl:=Option.some.inj ho;have gg0:A.tmps.getD 63 undef=(.slice (some ⟨gb,ob,none⟩) nb cb):=(hL.1 63 (by decide)).trans (hdep ⟨4,.data⟩ (by simp) rfl _ rfl);have gg1:A.tmps.getD 64 undef= .int .i64 (k:Nat):=(hL.1 64 (by decide)).trans (hdep ⟨5,.data⟩ (by simp) rfl _ rfl);clear hdep hL;go_simp
        exact hK _ _ hR (fun _ _ _ h=>h) rfl
       ·obtain rfl:=Option.some.inj ho;have gg0:A.tmps.getD 65 undef=(.pointer (some ⟨gb,ob+k*6,none⟩)):=(hL.1 65 (by decide)).trans (hdep ⟨6,.data⟩ (by simp) rfl _ rfl);have y0':=(World.cell?_of_block (a:=⟨gb,ob+k*6,none⟩) hGb).trans y0;have y1':=(World.cell?_of_block (a:=⟨gb,ob+k*6+1,none⟩) hGb).trans y1;have y2':=(World.cell?_of_block (a:=⟨gb,ob+k*6+2,none⟩) hGb).trans y2;have y3':=(World.cell?_of_block (a:=⟨gb,ob+k*6+3,none⟩) hGb).trans y3;have y4':=(World.cell?_of_block (a:=⟨gb,ob+k*6+4,none⟩) hGb).trans y4;have y5':=(World.cell?_of_block (a:=⟨gb,ob+k*6+5,none⟩) hGb).trans y5;clear hdep hL;go_simp
        exact hK _ _ hR (fun _ _ _ h=>h) rfl
       ·obtain rfl:=Option.some.inj ho;have a0:=hL.2 0 (by decide);conv at a0=>rhs;whnf
        clear hdep hL;go_simp
        exact hK _ _ hR (fun _ _ _ h=>h) rfl
       ·obtain rfl:=Option.some.inj ho;have gg0:A.tmps.getD 67 undef=(.slice (some ⟨g1,0,none⟩) (n1+1) cap1):=(hL.1 67 (by decide)).trans (hdep ⟨8,.data⟩ (by simp) rfl _ rfl);clear hdep hL;go_simp
        exact hK _ _ hR (fun _ _ _ h=>h) rfl
       ·obtain rfl:=Option.some.inj ho;have a8:=hL.2 8 (by decide);conv at a8=>rhs;whnf
        clear hdep hL;go_simp
        exact hK _ _ hR (fun _ _ _ h=>h) rfl
       ·obtain rfl:=Option.some.inj ho;have gg0:A.tmps.getD 68 undef= .int .i64 ((n1:Int)+1):=(hL.1 68 (by decide)).trans (hdep ⟨9,.data⟩ (by simp) rfl _ rfl);have gg1:A.tmps.getD 69 undef= .int .i64 ((d:Int)+1):=(hL.1 69 (by decide)).trans (hdep ⟨10,.data⟩ (by simp) rfl _ rfl);clear hdep hL;have hwi:IntKind.i64.wrap ((n1 - d:Nat):Int)=((n1 - d:Nat):Int):=by rw[IntKind.wrap_i64];omega
        go_simp
        exact hK _ _ hR (fun _ _ _ h=>h) rfl
       ·obtain rfl:=Option.some.inj ho;have a11:=hL.2 11 (by decide);conv at a11=>rhs;whnf
        clear hdep hL;go_simp
        exact hK _ _ hR (fun _ _ _ h=>h) rfl
       ·obtain rfl:=Option.some.inj ho;have gg0:A.tmps.getD 71 undef= .int .i64 (k:Nat):=(hL.1 71 (by decide)).trans (hdep ⟨12,.data⟩ (by simp) rfl _ rfl);clear hdep hL;go_simp
        exact hK _ _ hR (fun _ _ _ h=>h) rfl
       ·obtain rfl:=Option.some.inj ho;have a4:=hL.2 4 (by decide);conv at a4=>rhs;whnf
        have gg0:A.tmps.getD 62 undef= .agg (qt x.k (.slice p1 l1 q1) (.slice p2 l2 q2) x.la x.o (.slice p3 l3 q3)):=(hL.1 62 (by decide)).trans (hdep ⟨3,.data⟩ (by simp) rfl _ rfl);clear hdep hL;refine wp_store_row 54 _ _ rfl b0 (qt x.k (.slice p1 l1 q1) (.slice p2 l2 q2) x.la x.o (.slice p3 l3 q3)) a4 gg0 54 o6 h6 (by rw[hW1.1];kernel_rfl) (by rw[hW1.1,s6]) hW1.2 (hK undef _ ?_ ?_ ?_)
        ·exact⟨(Spare.refl (fun q=>q≠b0∧q≠b0+1) W3).trans (hS.trans (Spare.of_but (But.of_setRow W b0 (qt x.k (.slice p1 l1 q1) (.slice p2 l2 q2) x.la x.o (.slice p3 l3 q3)))) (fun b _ h=>by first|exact h.1|exact h.2)) (fun b _ h=>h),(setRow_other W b0 ga (qt x.k (.slice p1 l1 q1) (.slice p2 l2 q2) x.la x.o (.slice p3 l3 q3)) (by omega)).trans hGa,(setRow_other W b0 gb (qt x.k (.slice p1 l1 q1) (.slice p2 l2 q2) x.la x.o (.slice p3 l3 q3)) (by omega)).trans hGb,⟨_,setRow_heap W b0 o6 (qt x.k (.slice p1 l1 q1) (.slice p2 l2 q2) x.la x.o (.slice p3 l3 q3)) _ _ h6,hW1.1⟩,⟨_,(setRow_other W b0 _ (qt x.k (.slice p1 l1 q1) (.slice p2 l2 q2) x.la x.o (.slice p3 l3 q3)) (by omega)).trans h7,s7⟩⟩
        ·intro j u hj hg;rcases j with _|_|_|_|_|_|_|_|_|_|_|_|_|_|_|_|_|_|j
         all_goals first|exact hg|exact absurd rfl hj|exact(setRow_other W b0 _ (qt x.k (.slice p1 l1 q1) (.slice p2 l2 q2) x.la x.o (.slice p3 l3 q3)) (by omega)).trans hg
        ·exact setRow_heap W b0 o6 (qt x.k (.slice p1 l1 q1) (.slice p2 l2 q2) x.la x.o (.slice p3 l3 q3)) _ _ h6
       ·obtain rfl:=Option.some.inj ho;have a5:=hL.2 5 (by decide);conv at a5=>rhs;whnf
        have gg0:A.tmps.getD 66 undef= .agg (qt y.k (.slice s1 j1 t1) (.slice s2 j2 t2) y.la y.o (.slice s3 j3 t3)):=(hL.1 66 (by decide)).trans (hdep ⟨7,.data⟩ (by simp) rfl _ rfl);clear hdep hL;refine wp_store_row 54 _ _ rfl (b0+1) (qt y.k (.slice s1 j1 t1) (.slice s2 j2 t2) y.la y.o (.slice s3 j3 t3)) a5 gg0 54 o7 h7 (by rw[hW2.1];kernel_rfl) (by rw[hW2.1,s7]) hW2.2 (hK undef _ ?_ ?_ ?_)
        ·exact⟨(Spare.refl (fun q=>q≠b0∧q≠b0+1) W3).trans (hS.trans (Spare.of_but (But.of_setRow W (b0+1) (qt y.k (.slice s1 j1 t1) (.slice s2 j2 t2) y.la y.o (.slice s3 j3 t3)))) (fun b _ h=>by first|exact h.1|exact h.2)) (fun b _ h=>h),(setRow_other W (b0+1) ga (qt y.k (.slice s1 j1 t1) (.slice s2 j2 t2) y.la y.o (.slice s3 j3 t3)) (by omega)).trans hGa,(setRow_other W (b0+1) gb (qt y.k (.slice s1 j1 t1) (.slice s2 j2 t2) y.la y.o (.slice s3 j3 t3)) (by omega)).trans hGb,⟨_,(setRow_other W (b0+1) _ (qt y.k (.slice s1 j1 t1) (.slice s2 j2 t2) y.la y.o (.slice s3 j3 t3)) (by omega)).trans h6,s6⟩,⟨_,setRow_heap W (b0+1) o7 (qt y.k (.slice s1 j1 t1) (.slice s2 j2 t2) y.la y.o (.slice s3 j3 t3)) _ _ h7,hW2.1⟩⟩
        ·intro j u hj hg;rcases j with _|_|_|_|_|_|_|_|_|_|_|_|_|_|_|_|_|_|j
         all_goals first|exact hg|exact absurd rfl hj|exact(setRow_other W (b0+1) _ (qt y.k (.slice s1 j1 t1) (.slice s2 j2 t2) y.la y.o (.slice s3 j3 t3)) (by omega)).trans hg
        ·exact setRow_heap W (b0+1) o7 (qt y.k (.slice s1 j1 t1) (.slice s2 j2 t2) y.la y.o (.slice s3 j3 t3)) _ _ h7
       ·obtain rfl:=Option.some.inj ho;have gg0:A.tmps.getD 70 undef= .int .i64 ((n1 - d:Nat):Int):=(hL.1 70 (by decide)).trans (hdep ⟨11,.data⟩ (by simp) rfl _ rfl);clear hdep hL;go_simp
        exact hK _ _ hR (fun _ _ _ h=>h) rfl
       ·obtain rfl:=Option.some.inj ho;have gg0:A.tmps.getD 72 undef= .int .u64 (k:Nat):=(hL.1 72 (by decide)).trans (hdep ⟨13,.data⟩ (by simp) rfl _ rfl);clear hdep hL;go_simp
        exact hK _ _ hR (fun _ _ _ h=>h) rfl
       ·cases ho
      ·intro i o v W hi hd hg;rcases i with _|_|_|_|_|_|_|_|_|_|_|_|_|_|_|_|_|_|i
       all_goals first|exact hg|(obtain rfl:=Option.some.inj hi;cases hd)|cases hi
      ·intro x' W hR hG;have k14:W.heap[b0]? =some (.cells (qt x.k (.slice p1 l1 q1) (.slice p2 l2 q2) x.la x.o (.slice p3 l3 q3)) 54 (0,0)):=hG 14 _ rfl;have k15:W.heap[b0+1]? =some (.cells (qt y.k (.slice s1 j1 t1) (.slice s2 j2 t2) y.la y.o (.slice s3 j3 t3)) 54 (0,0)):=hG 15 _ rfl;have k16:x' 6= .int .i64 ((n1 - d:Nat):Int):=hG 16 _ rfl;have k17:x' 7= .int .u64 (k:Nat):=hG 17 _ rfl;clear hG;simp only[lay,Act.put,Ls,k16,k17];go_wp2_with fail
       obtain⟨hS, -, -, -⟩:=hR;refine Bp (qdu (fn:=Tryz.f46) rfl _ _ b0 (b0+1) _ _ rfl rfl k14 k15 hW1.1 hW2.1) rfl ?_;obtain⟨ea,eb,er,ei⟩:=HEQ.out;have hgg: ∀(q:Nat) (c:Array Value) (T:TypeId) (fr:Nat×Nat),W3.heap[q]? =some (.cells c T fr)→ ¬(q≠b0∧q≠b0+1)→ ∀(i:Nat) (z:Int),c[i]? ≠some (Value.int .u8 z):=fun q c T fr hk hn=>by
        by_cases e1:q=b0
        ·rw[e1,h43]at hk;simp only[Option.some.injEq,Obj.cells.injEq]at hk;obtain⟨rfl, -⟩:=hk;exact yR
        by_cases e2:q=b0+1
        ·rw[e2,h53]at hk;simp only[Option.some.injEq,Obj.cells.injEq]at hk;obtain⟨rfl, -⟩:=hk;exact yR
        ·exact absurd ⟨e1,e2⟩ hn
       exact⟨⟨_,_,by rw[er,ei];rfl,hW1,hW2,by rw[ea];exact zH HM1W.out hS hgg,by rw[eb];exact zH HM2W.out hS hgg⟩,by rw[hb0];exact HBF.out.trans (hS.below (by have:=HBF.out.size;omega) fun q hq=>⟨by omega,by omega⟩)⟩
theorem ZM (t:TreeV)(kz z1 z2 xs ys:List Int)(xa ya:Option Addr)(xc yc:Nat)(w:World)(hl:0≤t.l∧t.l≤4294967295)(hk:Hold w (.slice t.ka t.kl t.kc) kz)(hs:Hold w (.slice t.sa t.sl t.sc) z1)(hp:Hold w (.slice t.pa t.pl t.pc) z2)(hx:Hold w (.slice xa xs.length xc) xs)(hy:Hold w (.slice ya ys.length yc) ys)(hxn:xs.length≤4194304)(hyn:ys.length≤4194304)(E:Int)(hE:t.clashE kz z1 z2 xs ys=E)(h0:E≠0):
  Calls Tryz.prog 45 #[t.val,.slice xa xs.length xc,.slice ya ys.length yc] w fun e w'=>e= .returned (.tuple #[.slice none 0 0,.slice none 0 0,.int .i64 E])∧Below w.heap.size w w':=by
 rw[←hE]at h0⊢;unfold TreeV.clashE at h0⊢;by_cases hv:t.validE=0
 ·rw[if_neg (by rw[hv];exact fun h=>h rfl)]at h0⊢;by_cases hxy:xs=ys
  ·rw[if_pos hxy];exact JR t kz z1 z2 xs ys xa ya xc yc w hl hk hs hp hx hy hxn hyn hv hxy
  ·rw[if_neg hxy]at h0⊢;by_cases hd:t.digZ kz z1 z2 xs=t.digZ kz z1 z2 ys
   ·rw[if_pos hd]at h0;exact absurd rfl h0
   ·rw[if_neg hd];exact qay t kz z1 z2 xs ys xa ya xc yc w hl hk hs hp hx hy hxn hyn hv hxy hd
 ·rw[if_pos hv];exact qaz t kz z1 z2 xs ys xa ya xc yc w hl hk hs hp hx hy hxn hyn hv
theorem TreeV.allC_get (t:TreeV)(kz z1 z2 zs:List Int){n r:Nat}(h:r<n):(t.allC kz z1 z2 zs n).getD r []=t.callsR kz z1 z2 zs r:=by
 unfold TreeV.allC;rw[Lg,List.getElem?_map,List.getElem?_range h];rfl
theorem qbw (t:TreeV)(kz z1 z2 zs:List Int)(n:Nat):(t.allC kz z1 z2 zs n).length=n:=by unfold TreeV.allC;simp
theorem Zp (t:TreeV)(kz z1 z2 xs ys:List Int)(w W:World)(hv:t.validE=0)(hl:0≤t.l∧t.l≤4294967295)(hxn:xs.length≤4194304)(hyn:ys.length≤4194304)(u1 u2:Value)(hw:w.heap.size≤W.heap.size)(h1:LevO w w.heap.size W u1 (t.allC kz z1 z2 xs ((t.rowsOf xs.length).length - 1+1)))(h2:LevO w w.heap.size W u2 (t.allC kz z1 z2 ys ((t.rowsOf ys.length).length - 1+1)))
  (a b:CallS) (row i:Nat) (hd:t.diffT kz z1 z2 xs ys=some (a,b,row,i)):
  Calls Tryz.prog 46 #[u1,u2] W fun e W'=>(∃c1 c2,e= .returned (.tuple #[.agg c1,.agg c2,.int .i64 (row:Nat),.int .u64 (i:Nat)])∧Yz c1∧Yz c2∧CallM W' (.agg c1) a∧CallM W' (.agg c2) b)∧Below W.heap.size W W':=by
 have hpn:t.pn≤255:=by have:=(qk hv).2.2.2.2.2.2.2.1;unfold TreeV.pn;omega
 have hRx:=qU (Qz hv hxn);have hRy:=qU (Qz hv hyn);have m1:=hRx.most;have m2:=hRy.most;have l1:=hRx.len;have l2:=hRy.len;obtain⟨vs1,o1,q1⟩:=h1;obtain⟨vs2,o2,q2⟩:=h2;rw[qbw]at o1 o2 q1 q2;have key: ∀(zs:List Int) (m:Nat) (vs:List Value),(∀j,j<m+1→CallsO w w.heap.size W (vs.getD j undef) ((t.allC kz z1 z2 zs (m+1)).getD j []))→ ∀d,d<m+1→LevH W.heap.size W (vs.getD (m - d) undef) ((t.downC kz z1 z2 zs m).getD d []):=by
  intro zs m vs q d hd;have hc:=q (m - d) (by omega);rw[t.allC_get kz z1 z2 zs (by omega)]at hc;rw[t.downC_get kz z1 z2 zs hd];obtain⟨g,cap,e,h1,h2,h3,h4⟩:=qfn hc hw (by have:=(YD hv hl kz z1 z2 zs (m - d)).1;omega);exact⟨g,0,cap,e,h1,h2,h3,h4⟩
 exact qbP W.heap.size w.heap.size _ _ u1 u2 vs1 vs2 _ _ W o1 o2 (key xs _ vs1 q1) (key ys _ vs2 q2) (yZ ..) (yZ ..) (by omega) (by omega) a b row i hd
theorem qg7 (t:TreeV)(kz z1 z2 xs ys:List Int)(xa ya:Option Addr)(xc yc:Nat)(w:World)(hl:0≤t.l∧t.l≤4294967295)(hk:Hold w (.slice t.ka t.kl t.kc) kz)(hs:Hold w (.slice t.sa t.sl t.sc) z1)(hp:Hold w (.slice t.pa t.pl t.pc) z2)(hx:Hold w (.slice xa xs.length xc) xs)(hy:Hold w (.slice ya ys.length yc) ys)(hxn:xs.length≤4194304)(hyn:ys.length≤4194304)(hE:t.clashE kz z1 z2 xs ys=0):t.validE=0∧xs≠ys∧t.digZ kz z1 z2 xs=t.digZ kz z1 z2 ys∧ ∃a b row i,t.diffT kz z1 z2 xs ys=some (a,b,row,i):=by
 have hv:t.validE=0:=by
  unfold TreeV.clashE at hE;by_cases h:t.validE=0
  ·exact h
  ·rw[if_pos h]at hE;exact hE
 have hne:xs≠ys:=by
  intro e;unfold TreeV.clashE at hE;rw[if_neg (by rw[hv];exact fun h=>h rfl),if_pos e]at hE
  cases hE
 have hdg:t.digZ kz z1 z2 xs=t.digZ kz z1 z2 ys:=by
  unfold TreeV.clashE at hE;rw[if_neg (by rw[hv];exact fun h=>h rfl),if_neg hne]at hE;by_cases h:t.digZ kz z1 z2 xs=t.digZ kz z1 z2 ys
  ·exact h
  ·rw[if_neg h]at hE;cases hE
 have hvf:=qk hv;have hbg:=yx hv;have h1:=jn hs;have h2:=jn hp;refine⟨hv,hne,hdg,?_⟩
 cases hd:t.diffT kz z1 z2 xs ys with
 | none=>exact absurd (qbj hv hl (by omega) (by omega) hxn hyn hd) hne
 | some r=>exact⟨r.1,r.2.1,r.2.2.1,r.2.2.2,rfl⟩
theorem qcN (t:TreeV)(kz z1 z2 xs ys:List Int)(xa ya:Option Addr)(xc yc:Nat)(w:World)(hl:0≤t.l∧t.l≤4294967295)(hk:Hold w (.slice t.ka t.kl t.kc) kz)(hs:Hold w (.slice t.sa t.sl t.sc) z1)(hp:Hold w (.slice t.pa t.pl t.pc) z2)(hx:Hold w (.slice xa xs.length xc) xs)(hy:Hold w (.slice ya ys.length yc) ys)(hxn:xs.length≤4194304)(hyn:ys.length≤4194304)(E:Int)(hE:t.clashE kz z1 z2 xs ys=E)(h0:E≠0):
  Calls Tryz.prog 27 #[t.val,.slice xa xs.length xc,.slice ya ys.length yc] w fun e w'=>e= .returned (.tuple #[.agg zeroC,.agg zeroC,.int .i64 E])∧Below w.heap.size w w':=by
 have hvn:(E != 0)=true:=by rw[bne_iff_ne];exact h0
 obtain⟨b0,hb0⟩:=Ex w.heap.size;have HLV:=hid (fun(W:World) (hb:Below b0 w W)=>ZM t kz z1 z2 xs ys xa ya xc yc W hl (hk.below (hb0▸hb)) (hs.below (hb0▸hb)) (hp.below (hb0▸hb)) (hx.below (hb0▸hb)) (hy.below (hb0▸hb)) hxn hyn E hE h0);clear hx hy hl hk hs hp hE h0;unfold TreeV.val;go_enter Tryz.func27,Tryz.ntmps27
 go_upto_region 1 with(fail)
 refine qj ?_;intro wA hwA;have hrA:wA.heap[b0]? =some (.cells #[.int .i64 t.k,.int .i64 t.d,.int .i64 t.f,.int .i64 t.p,.int .u32 t.l,.int .i64 t.i,.slice t.ka t.kl t.kc,.slice t.sa t.sl t.sc,.slice t.pa t.pl t.pc] 26 (0,0)):=by rw[hwA];exact QO (QO (qM hb0))
 have h6A:wA.heap[b0+1]? =some (.cells zeroC 54 (0,0)):=by rw[hwA];exact QO (qM (by rw[qw,hb0]))
 have h7A:wA.heap[b0+1+1]? =some (.cells zeroC 54 (0,0)):=by rw[hwA];exact qM (by rw[qw,qw,hb0])
 have hsA:wA.heap.size=b0+3:=by rw[hwA,qw,qw,qw,hb0]
 have hbA:Below b0 w wA:=by rw[hwA,←hb0];exact((Br.alloc Nl _).alloc (by simp) _).alloc (by simp;omega) _
 clear hwA;go_wp2_with ((with_reducible show wpList _ _ _ (Oper.mk _ (Op.load 26 _) _ _ _ _::_) _ _);refine wpList_load_row rfl 26 _ rfl b0 rfl _ _ _ _ hrA Tryz.underlying26 rfl (by kernel_rfl) ?_)
 refine(HLV.out _ hbA).mono ?_;rintro e w1 ⟨rfl,hb1⟩;have h61:=(hb1.block _ (by omega)).trans h6A;have h71:=(hb1.block _ (by omega)).trans h7A;have hbW1:=hbA.trans (hb1.mono (by omega));have hs1:=hb1.size;clear hrA h6A h7A hbA hb1 HLV;go_wp2_with (first|((with_reducible show wpList _ _ _ (Oper.mk none (Op.store 54 (Operand.tmp 6) _) _ _ _ _::_) _ _);refine wpList_store_row rfl 54 _ _ rfl (b0+1) zeroC rfl rfl 54 zeroC h61 (by kernel_rfl) rfl (by kernel_rfl) ?_;have h71':=(setRow_other w1 (b0+1) (b0+1+1) zeroC (by omega)).trans h71)|((with_reducible show wpList _ _ _ (Oper.mk none (Op.store 54 (Operand.tmp 7) _) _ _ _ _::_) _ _);refine wpList_store_row rfl 54 _ _ rfl (b0+1+1) zeroC rfl rfl 54 zeroC h71' (by kernel_rfl) rfl (by kernel_rfl) ?_))
 have k6:((w1.setRow (b0+1) zeroC).setRow (b0+1+1) zeroC).heap[b0+1]? =some (.cells zeroC 54 (0,0)):=(setRow_other _ (b0+1+1) (b0+1) zeroC (by omega)).trans (setRow_heap _ _ _ _ _ _ h61);have k7:((w1.setRow (b0+1) zeroC).setRow (b0+1+1) zeroC).heap[b0+1+1]? =some (.cells zeroC 54 (0,0)):=setRow_heap _ _ _ _ _ _ ((setRow_other w1 (b0+1) (b0+1+1) zeroC (by omega)).trans h71);refine Bp (jS (fn:=Tryz.f27) rfl _ _ (b0+1) (b0+1+1) zeroC zeroC rfl rfl k6 k7 rfl rfl) rfl ?_;have hS:=((Spare.refl (fun k=>k≠b0+1∧k≠b0+1+1) w1).trans (Spare.of_but (But.of_setRow w1 (b0+1) zeroC)) (fun b _ h=>h.1)).trans (Spare.of_but (But.of_setRow (w1.setRow (b0+1) zeroC) (b0+1+1) zeroC)) (fun b _ h=>h.2);exact⟨rfl,by rw[hb0];exact hbW1.trans (hS.below (by omega) fun k hk=>⟨by omega,by omega⟩)⟩
theorem qbQ (t:TreeV)(kz z1 z2 xs ys:List Int)(xa ya:Option Addr)(xc yc:Nat)(w:World)(hl:0≤t.l∧t.l≤4294967295)(hk:Hold w (.slice t.ka t.kl t.kc) kz)(hs:Hold w (.slice t.sa t.sl t.sc) z1)(hp:Hold w (.slice t.pa t.pl t.pc) z2)(hx:Hold w (.slice xa xs.length xc) xs)(hy:Hold w (.slice ya ys.length yc) ys)(hxn:xs.length≤4194304)(hyn:ys.length≤4194304)(E:Int)(hE:t.clashE kz z1 z2 xs ys=E)(h0:E≠0):
  Calls Tryz.prog 31 #[t.val,.slice xa xs.length xc,.slice ya ys.length yc] w fun e w'=>e= .returned (.tuple #[.int .i64 0,.int .u64 0,.int .i64 E])∧Below w.heap.size w w':=by
 have hvn:(E != 0)=true:=by rw[bne_iff_ne];exact h0
 obtain⟨b0,hb0⟩:=Ex w.heap.size;have HLV:=hid (fun(W:World) (hb:Below b0 w W)=>ZM t kz z1 z2 xs ys xa ya xc yc W hl (hk.below (hb0▸hb)) (hs.below (hb0▸hb)) (hp.below (hb0▸hb)) (hx.below (hb0▸hb)) (hy.below (hb0▸hb)) hxn hyn E hE h0);clear hx hy hl hk hs hp hE h0;unfold TreeV.val;go_enter Tryz.func31,Tryz.ntmps31
 go_upto_region 1 with(fail)
 refine qj ?_;intro wA hwA;have hrA:wA.heap[b0]? =some (.cells #[.int .i64 t.k,.int .i64 t.d,.int .i64 t.f,.int .i64 t.p,.int .u32 t.l,.int .i64 t.i,.slice t.ka t.kl t.kc,.slice t.sa t.sl t.sc,.slice t.pa t.pl t.pc] 26 (0,0)):=by rw[hwA];exact qM hb0
 have hsA:wA.heap.size=b0+1:=by rw[hwA,qw,hb0]
 have hbA:Below b0 w wA:=by rw[hwA,←hb0];exact Br.alloc Nl _
 clear hwA;go_wp2_with ((with_reducible show wpList _ _ _ (Oper.mk _ (Op.load 26 _) _ _ _ _::_) _ _);refine wpList_load_row rfl 26 _ rfl b0 rfl _ _ _ _ hrA Tryz.underlying26 rfl (by kernel_rfl) ?_)
 refine(HLV.out _ hbA).mono ?_;rintro e w1 ⟨rfl,hb1⟩;have hbW1:=hbA.trans (hb1.mono (by omega));clear hrA hbA hb1 HLV;go_wp2_with fail
 refine Bp (results_tmp3 (fn:=Tryz.f31) rfl _ _ _) rfl ?_;exact⟨rfl,by rw[hb0];exact hbW1⟩
theorem qa6 (t:TreeV)(kz z1 z2 xs ys:List Int)(xa ya:Option Addr)(xc yc:Nat)(w:World)(hl:0≤t.l∧t.l≤4294967295)(hk:Hold w (.slice t.ka t.kl t.kc) kz)(hs:Hold w (.slice t.sa t.sl t.sc) z1)(hp:Hold w (.slice t.pa t.pl t.pc) z2)(hx:Hold w (.slice xa xs.length xc) xs)(hy:Hold w (.slice ya ys.length yc) ys)(hxn:xs.length≤4194304)(hyn:ys.length≤4194304)(hE:t.clashE kz z1 z2 xs ys=0):
  Calls Tryz.prog 31 #[t.val,.slice xa xs.length xc,.slice ya ys.length yc] w fun e w'=>(∃a b row i,t.diffT kz z1 z2 xs ys=some (a,b,row,i)∧e= .returned (.tuple #[.int .i64 (row:Nat),.int .u64 (i:Nat),.int .i64 0]))∧Below w.heap.size w w':=by
 obtain⟨hv,hne,hdg,a,b,row,i,hd⟩:=qg7 t kz z1 z2 xs ys xa ya xc yc w hl hk hs hp hx hy hxn hyn hE;obtain⟨b0,hb0⟩:=Ex w.heap.size;have HLV:=hid (fun(W:World) (hb:Below b0 w W)=>Zo t kz z1 z2 xs ys xa ya xc yc W hl (hk.below (hb0▸hb)) (hs.below (hb0▸hb)) (hp.below (hb0▸hb)) (hx.below (hb0▸hb)) (hy.below (hb0▸hb)) hxn hyn hv hne hdg);clear hx hy hk hs hp hE hne hdg;unfold TreeV.val;go_enter Tryz.func31,Tryz.ntmps31
 go_upto_region 1 with(fail)
 refine qj ?_;intro wA hwA;have hrA:wA.heap[b0]? =some (.cells #[.int .i64 t.k,.int .i64 t.d,.int .i64 t.f,.int .i64 t.p,.int .u32 t.l,.int .i64 t.i,.slice t.ka t.kl t.kc,.slice t.sa t.sl t.sc,.slice t.pa t.pl t.pc] 26 (0,0)):=by rw[hwA];exact qM hb0
 have hsA:wA.heap.size=b0+1:=by rw[hwA,qw,hb0]
 have hbA:Below b0 w wA:=by rw[hwA,←hb0];exact Br.alloc Nl _
 clear hwA;go_wp2_with ((with_reducible show wpList _ _ _ (Oper.mk _ (Op.load 26 _) _ _ _ _::_) _ _);refine wpList_load_row rfl 26 _ rfl b0 rfl _ _ _ _ hrA Tryz.underlying26 rfl (by kernel_rfl) ?_)
 refine(HLV.out _ hbA).mono ?_;rintro e w1 ⟨⟨u1,u2,rfl,hL1,hL2⟩,hb1⟩;have HFO:=hid (Zp t kz z1 z2 xs ys wA w1 hv hl hxn hyn u1 u2 hb1.size hL1 hL2 a b row i hd);have hbW1:=hbA.trans (hb1.mono (by omega));have hs1:=hb1.size;clear hrA hbA hb1 HLV hL1 hL2;go_wp2_with fail
 refine HFO.out.mono ?_;rintro e w2 ⟨⟨c1,c2,rfl,hW1,hW2,hM1,hM2⟩,hb2⟩;have hbW2:=hbW1.trans (hb2.mono (by omega));obtain⟨b4,hb4⟩:=Ex w2.heap.size;have hs2:=hb2.size;clear hb2 hbW1;go_wp2_with (first|((with_reducible show wpList _ _ _ (Oper.mk none (Op.store 54 (Operand.tmp 12) _) _ _ _ _::_) _ _);refine wpList_store_row rfl 54 _ _ rfl b4 c1 rfl rfl 54 zeroC (QO (qM hb4)) (by rw[hW1.1];kernel_rfl) (by rw[hW1.1];rfl) hW1.2 ?_)|((with_reducible show wpList _ _ _ (Oper.mk none (Op.store 54 (Operand.tmp 13) _) _ _ _ _::_) _ _);refine wpList_store_row rfl 54 _ _ rfl (b4+1) c2 rfl rfl 54 zeroC ((setRow_other _ b4 (b4+1) c1 (by omega)).trans (qM (by rw[qw,hb4]))) (by rw[hW2.1];kernel_rfl) (by rw[hW2.1];rfl) hW2.2 ?_))
 refine Bp (results_tmp3 (fn:=Tryz.f31) rfl _ _ _) rfl ?_;refine⟨⟨a,b,row,i,hd,rfl⟩,?_⟩;rw[hb0];exact hbW2.trans (show Below b0 w2 _ from(show Below b0 w2 ((w2.alloc (.cells zeroC 54)).alloc (.cells zeroC 54)) from((Below.refl w2.heap.size w2).alloc Nl _).alloc (by simp) _ |>.mono (by omega)).trans ((((Spare.refl (fun k=>k≠b4∧k≠b4+1) _).trans (Spare.of_but (But.of_setRow _ b4 c1)) (fun b _ h=>h.1)).trans (Spare.of_but (But.of_setRow _ (b4+1) c2)) (fun b _ h=>h.2)).below (by rw[qw,qw];omega) fun k hk=>⟨by omega,by omega⟩))
def GY (p6 p7:Nat)(c1 c2:Array Value):Nat→Value→World→Prop
 | 0,v,_=>v= .agg c1
 | 1,v,_=>v= .agg c2
 | 2,_,W=>W.heap[p6]? =some (.cells c1 54 (0,0))
 | 3,_,W=>W.heap[p7]? =some (.cells c2 54 (0,0))
 | 4,v,_=>v= .int .i64 0
 | _,_,_=>True
def RY (p9 p6 p7:Nat)(c1 c2:Array Value)(w0 W:World):Prop:=Spare (fun k=>k≠p6∧k≠p7) w0 W∧W.heap[p9]? =some (.cells c1 54 (0,0))∧W.heap[p9+1]? =some (.cells c2 54 (0,0))∧(∃o,W.heap[p6]? =some (.cells o 54 (0,0))∧o.size=6)∧ ∃o,W.heap[p7]? =some (.cells o 54 (0,0))∧o.size=6
theorem qbN (t:TreeV)(kz z1 z2 xs ys:List Int)(xa ya:Option Addr)(xc yc:Nat)(w:World)(hl:0≤t.l∧t.l≤4294967295)(hk:Hold w (.slice t.ka t.kl t.kc) kz)(hs:Hold w (.slice t.sa t.sl t.sc) z1)(hp:Hold w (.slice t.pa t.pl t.pc) z2)(hx:Hold w (.slice xa xs.length xc) xs)(hy:Hold w (.slice ya ys.length yc) ys)(hxn:xs.length≤4194304)(hyn:ys.length≤4194304)(hE:t.clashE kz z1 z2 xs ys=0):
  Calls Tryz.prog 27 #[t.val,.slice xa xs.length xc,.slice ya ys.length yc] w fun e w'=>(∃a b row i c1 c2,t.diffT kz z1 z2 xs ys=some (a,b,row,i)∧e= .returned (.tuple #[.agg c1,.agg c2,.int .i64 0])∧Yz c1∧Yz c2∧CallM w' (.agg c1) a∧CallM w' (.agg c2) b)∧Below w.heap.size w w':=by
 obtain⟨hv,hne,hdg,a,b,row,i,hd⟩:=qg7 t kz z1 z2 xs ys xa ya xc yc w hl hk hs hp hx hy hxn hyn hE;obtain⟨b0,hb0⟩:=Ex w.heap.size;have HLV:=hid (fun(W:World) (hb:Below b0 w W)=>Zo t kz z1 z2 xs ys xa ya xc yc W hl (hk.below (hb0▸hb)) (hs.below (hb0▸hb)) (hp.below (hb0▸hb)) (hx.below (hb0▸hb)) (hy.below (hb0▸hb)) hxn hyn hv hne hdg);clear hx hy hk hs hp hE hne hdg;unfold TreeV.val;go_enter Tryz.func27,Tryz.ntmps27
 go_upto_region 1 with(fail)
 refine qj ?_;intro wA hwA;have hrA:wA.heap[b0]? =some (.cells #[.int .i64 t.k,.int .i64 t.d,.int .i64 t.f,.int .i64 t.p,.int .u32 t.l,.int .i64 t.i,.slice t.ka t.kl t.kc,.slice t.sa t.sl t.sc,.slice t.pa t.pl t.pc] 26 (0,0)):=by rw[hwA];exact QO (QO (qM hb0))
 have h6A:wA.heap[b0+1]? =some (.cells zeroC 54 (0,0)):=by rw[hwA];exact QO (qM (by rw[qw,hb0]))
 have h7A:wA.heap[b0+1+1]? =some (.cells zeroC 54 (0,0)):=by rw[hwA];exact qM (by rw[qw,qw,hb0])
 have hsA:wA.heap.size=b0+3:=by rw[hwA,qw,qw,qw,hb0]
 have hbA:Below b0 w wA:=by rw[hwA,←hb0];exact((Br.alloc Nl _).alloc (by simp) _).alloc (by simp;omega) _
 clear hwA;go_wp2_with ((with_reducible show wpList _ _ _ (Oper.mk _ (Op.load 26 _) _ _ _ _::_) _ _);refine wpList_load_row rfl 26 _ rfl b0 rfl _ _ _ _ hrA Tryz.underlying26 rfl (by kernel_rfl) ?_)
 refine(HLV.out _ hbA).mono ?_;rintro e w1 ⟨⟨u1,u2,rfl,hL1,hL2⟩,hb1⟩;have HFO:=hid (Zp t kz z1 z2 xs ys wA w1 hv hl hxn hyn u1 u2 hb1.size hL1 hL2 a b row i hd);have h61:=(hb1.block _ (by omega)).trans h6A;have h71:=(hb1.block _ (by omega)).trans h7A;have hbW1:=hbA.trans (hb1.mono (by omega));have hs1:=hb1.size;clear hrA hbA hb1 HLV hL1 hL2 h6A h7A;go_upto_region 4 with(fail)
 go_wp2_with fail
 refine HFO.out.mono ?_;rintro e w2 ⟨⟨c1,c2,rfl,hW1,hW2,hM1,hM2⟩,hb2⟩;have h62:=qc h61 hb2;have h72:=qc h71 hb2;have hbW2:=hbW1.trans (hb2.mono (by omega));obtain⟨b4,hb4⟩:=Ex w2.heap.size;have hs2:=hb2.size;have HM:=hid (And.intro hM1 hM2);clear hb2 hbW1 h61 h71 hM1 hM2;go_upto_region 5 with(first|((with_reducible show wpList _ _ _ (Oper.mk none (Op.store 54 (Operand.tmp 12) _) _ _ _ _::_) _ _);refine wpList_store_row rfl 54 _ _ rfl b4 c1 rfl rfl 54 zeroC (QO (qM hb4)) (by rw[hW1.1];kernel_rfl) (by rw[hW1.1];rfl) hW1.2 ?_)|((with_reducible show wpList _ _ _ (Oper.mk none (Op.store 54 (Operand.tmp 13) _) _ _ _ _::_) _ _);refine wpList_store_row rfl 54 _ _ rfl (b4+1) c2 rfl rfl 54 zeroC ((setRow_other _ b4 (b4+1) c1 (by omega)).trans (qM (by rw[qw,hb4]))) (by rw[hW2.1];kernel_rfl) (by rw[hW2.1];rfl) hW2.2 ?_))
 refine qj ?_;intro wD hwD;have hBD:Below w2.heap.size w2 wD:=by
  rw[hwD];exact(((Below.refl w2.heap.size w2).alloc Nl _).alloc (by simp) _).trans ((((Spare.refl (fun k=>k≠b4∧k≠b4+1) _).trans (Spare.of_but (But.of_setRow _ b4 c1)) (fun b _ h=>h.1)).trans (Spare.of_but (But.of_setRow _ (b4+1) c2)) (fun b _ h=>h.2)).below (by rw[qw,qw];omega) fun k hk=>⟨by omega,by omega⟩)
 have h9D:wD.heap[b4]? =some (.cells c1 54 (0,0)):=by rw[hwD];exact(setRow_other _ (b4+1) b4 c2 (by omega)).trans (setRow_heap _ b4 zeroC c1 _ _ (QO (qM hb4)))
 have h10D:wD.heap[b4+1]? =some (.cells c2 54 (0,0)):=by rw[hwD];exact setRow_heap _ (b4+1) zeroC c2 _ _ ((setRow_other _ b4 (b4+1) c1 (by omega)).trans (qM (by rw[qw,hb4])))
 have h6D:=qc h62 hBD;have h7D:=qc h72 hBD;have HM1:=hid (HM.out.1.below hBD);have HM2:=hid (HM.out.2.below hBD);have HBD:=hid (hbW2.trans (hBD.mono (by omega)));have hsD:=hBD.size;clear hwD hBD h62 h72 hbW2;refine Yj (ds:=[37,38,8]) (R:=RY b4 (b0+1) (b0+1+1) c1 c2 wD) (Good:=GY (b0+1) (b0+1+1) c1 c2) rfl rfl rfl (by decide) (by kernel_rfl) (by kernel_rfl) ?_ ?_ ?_ ?_
 ·exact⟨⟨rfl,rfl,rfl,Nat.le_refl _,fun _ _ _=>rfl⟩,h9D,h10D,⟨_,h6D,rfl⟩,⟨_,h7D,rfl⟩⟩
 ·intro i o ho A x W hL hR hdep K hK;obtain⟨hS,h9,h10,⟨o6,h6,s6⟩,o7,h7,s7⟩:=id hR;rcases i with _|_|_|_|_|i
  ·obtain rfl:=Option.some.inj ho;have a12:=hL.2 12 (by decide);conv at a12=>rhs;whnf
   clear hdep hL;exact wp_load_row 54 _ rfl b4 a12 _ c1 _ _ h9 Tryz.underlying54 rfl (by rw[hW1.1];kernel_rfl) (hK _ _ hR (fun _ _ _ h=>h) rfl)
  ·obtain rfl:=Option.some.inj ho;have a13:=hL.2 13 (by decide);conv at a13=>rhs;whnf
   clear hdep hL;exact wp_load_row 54 _ rfl (b4+1) a13 _ c2 _ _ h10 Tryz.underlying54 rfl (by rw[hW2.1];kernel_rfl) (hK _ _ hR (fun _ _ _ h=>h) rfl)
  ·obtain rfl:=Option.some.inj ho;have a6:=hL.2 6 (by decide);conv at a6=>rhs;whnf
   have g0:A.tmps.getD 37 undef= .agg c1:=(hL.1 37 (by decide)).trans (hdep ⟨0,.data⟩ (by simp) rfl _ rfl);clear hdep hL;refine wp_store_row 54 _ _ rfl (b0+1) c1 a6 g0 54 o6 h6 (by rw[hW1.1];kernel_rfl) (by rw[hW1.1,s6]) hW1.2 (hK undef _ ?_ ?_ ?_)
   ·exact⟨(Spare.refl (fun k=>k≠b0+1∧k≠b0+1+1) wD).trans (hS.trans (Spare.of_but (But.of_setRow W (b0+1) c1)) (fun b _ h=>by first|exact h.1|exact h.2)) (fun b _ h=>h),(setRow_other W (b0+1) b4 c1 (by omega)).trans h9,(setRow_other W (b0+1) (b4+1) c1 (by omega)).trans h10,⟨_,setRow_heap W (b0+1) o6 c1 _ _ h6,hW1.1⟩,⟨_,(setRow_other W (b0+1) _ c1 (by omega)).trans h7,s7⟩⟩
   ·intro j u hj hg;rcases j with _|_|_|_|_|j
    all_goals first|exact hg|exact absurd rfl hj|exact(setRow_other W (b0+1) _ c1 (by omega)).trans hg
   ·exact setRow_heap W (b0+1) o6 c1 _ _ h6
  ·obtain rfl:=Option.some.inj ho;have a7:=hL.2 7 (by decide);conv at a7=>rhs;whnf
   have g0:A.tmps.getD 38 undef= .agg c2:=(hL.1 38 (by decide)).trans (hdep ⟨1,.data⟩ (by simp) rfl _ rfl);clear hdep hL;refine wp_store_row 54 _ _ rfl (b0+1+1) c2 a7 g0 54 o7 h7 (by rw[hW2.1];kernel_rfl) (by rw[hW2.1,s7]) hW2.2 (hK undef _ ?_ ?_ ?_)
   ·exact⟨(Spare.refl (fun k=>k≠b0+1∧k≠b0+1+1) wD).trans (hS.trans (Spare.of_but (But.of_setRow W (b0+1+1) c2)) (fun b _ h=>by first|exact h.1|exact h.2)) (fun b _ h=>h),(setRow_other W (b0+1+1) b4 c2 (by omega)).trans h9,(setRow_other W (b0+1+1) (b4+1) c2 (by omega)).trans h10,⟨_,(setRow_other W (b0+1+1) _ c2 (by omega)).trans h6,s6⟩,⟨_,setRow_heap W (b0+1+1) o7 c2 _ _ h7,hW2.1⟩⟩
   ·intro j u hj hg;rcases j with _|_|_|_|_|j
    all_goals first|exact hg|exact absurd rfl hj|exact(setRow_other W (b0+1+1) _ c2 (by omega)).trans hg
   ·exact setRow_heap W (b0+1+1) o7 c2 _ _ h7
  ·obtain rfl:=Option.some.inj ho;clear hdep hL;go_simp
   exact hK _ _ hR (fun _ _ _ h=>h) rfl
  ·cases ho
 ·intro i o v W hi hd hg;rcases i with _|_|_|_|_|i
  all_goals first|exact hg|(obtain rfl:=Option.some.inj hi;cases hd)|cases hi
 ·intro x W hR hG;obtain⟨hS, -, -, -⟩:=hR;have k5:W.heap[b0+1]? =some (.cells c1 54 (0,0)):=hG 2 _ rfl;have k6:W.heap[b0+1+1]? =some (.cells c2 54 (0,0)):=hG 3 _ rfl;have k7:x 8= .int .i64 0:=hG 4 _ rfl;clear hG;simp only[lay,Act.put,Ls,k7];go_wp2_with fail
  refine Bp (jS (fn:=Tryz.f27) rfl _ _ (b0+1) (b0+1+1) c1 c2 rfl rfl k5 k6 hW1.1 hW2.1) rfl ?_;have hgg: ∀(q:Nat) (c:Array Value) (T:TypeId) (fr:Nat×Nat),wD.heap[q]? =some (.cells c T fr)→ ¬(q≠b0+1∧q≠b0+1+1)→ ∀(i:Nat) (z:Int),c[i]? ≠some (Value.int .u8 z):=fun q c T fr hk hn=>by
   by_cases e1:q=b0+1
   ·rw[e1,h6D]at hk;simp only[Option.some.injEq,Obj.cells.injEq]at hk;obtain⟨rfl, -⟩:=hk;exact yR
   by_cases e2:q=b0+1+1
   ·rw[e2,h7D]at hk;simp only[Option.some.injEq,Obj.cells.injEq]at hk;obtain⟨rfl, -⟩:=hk;exact yR
   ·exact absurd ⟨e1,e2⟩ hn
  exact⟨⟨a,b,row,i,c1,c2,hd,rfl,hW1,hW2,zH HM1.out hS hgg,zH HM2.out hS hgg⟩,by rw[hb0];exact HBD.out.trans (hS.below (by omega) fun k hk=>⟨by omega,by omega⟩)⟩
theorem qfI (zs:List Int)(u v:Value)(w:World)(hu:Hold w u zs)(hv:Hold w v zs):
  Calls Tryz.prog 48 #[u,v] w fun e w'=>e= .returned (.bool true)∧ ∃m,w'=w.drewN m:=by
 have hl:(zs.length:Int)≤9223372036854775807:=by obtain⟨a,c, -,h1,h2⟩:=hu.slice;omega
 obtain⟨a,cap,rfl,h⟩:=hu.holds8;obtain⟨a',cap',rfl,h'⟩:=hv.holds8;clear hu hv;by_cases h0:zs=[]
 ·subst h0;clear h h';go_enter Tryz.func48,Tryz.ntmps48
  go_wp2_with fail
  go_loopw [5] (fun i wr=>i= .int .i64 0∧w=wr) (fun _ _=>0)
  case atStart=>exact⟨rfl,rfl⟩
  case round=>
   obtain⟨rfl,rfl⟩:=hrel;go_wp2
   go_ret
   exact⟨rfl,0,rfl⟩
 ·obtain⟨b,off,rfl,hb1,hb2⟩:=h.resolve_left h0;obtain⟨b',off',rfl,hb1',hb2'⟩:=h'.resolve_left h0;have H2:=hid hb2;have H2':=hid hb2';clear h h' hb2 hb2';go_enter Tryz.func48,Tryz.ntmps48
  go_wp2_with fail
  go_loopw [5] (fun i wr=> ∃(k n:Nat),i= .int .i64 k∧k≤zs.length∧wr=w.drewN n) (fun i _=>zs.length - (intOf i).toNat)
  case atStart=>exact⟨0,0,rfl,Nat.zero_le _,rfl⟩
  case round=>
   obtain⟨k,n,rfl,hk,rfl⟩:=hrel;by_cases hlt:k<zs.length
   ·have e1:w.cell? ⟨b,off+k,none⟩=some (.int .u8 (qo zs k)):=H2.out k hlt;have e2:w.cell? ⟨b',off'+k,none⟩=some (.int .u8 (qo zs k)):=H2'.out k hlt;go_wp2
    go_quiet (fail)
    go_wp2
    exact⟨⟨k+1,n+nq,by go_num,by omega,rfl⟩,by simp[intOf];omega⟩
   ·obtain rfl:k=zs.length:=by omega
    go_wp2
    go_ret
    exact⟨rfl,n,rfl⟩
theorem Yf (zs:List Int)(v:Value)(w:World)(h:Hold w v zs)(hn:zs.length≤70368744177664):
  Calls Tryz.prog 26 #[v] w fun e w'=> ∃u,e= .returned u∧OwnB w.heap.size w' u zs∧Below w.heap.size w w':=by
 obtain⟨i0,hi,hz0,hz1,hz2⟩:=info_parts Qq;have HS:=hid h.src;have HB:=hid h.1;obtain⟨a,c,rfl, -, -⟩:=h.slice;clear h;go_enter Tryz.func26,Tryz.ntmps26
 go_wp2_with (at_builtin;refine qI rfl _ _ _ rfl w w.heap.size rfl Br 5 i0 (.int .u8 0) 1 Tryz.underlying24 hi hz0 hz1 hz2 rfl _ 0 [] rfl (Wo _ _ _ _) _ _ _ rfl HS.out (by unfold maxLen;omega) (by omega) ?_;intro v' w' hown' hb')
 go_ret
 rw[Nat.zero_add,List.nil_append]at hown';exact⟨_,rfl,⟨HB.out,yf hown'⟩,hb'⟩
theorem qbY (zs:List Int)(v:Value)(w:World)(h:Hold w v zs)(hn:zs.length≤70368744177000):
  Calls Tryz.prog 23 #[v] w fun e w'=> ∃u,e= .returned u∧OwnB w.heap.size w' u (zs++Zj 70)∧Below w.heap.size w w':=by
 obtain⟨b0,hb0⟩:=Ex w.heap.size;obtain⟨i0,hi,hz0,hz1,hz2⟩:=info_parts Qq;have HS:=hid h.src;have HB:=hid h.1;obtain⟨a,c,rfl, -, -⟩:=h.slice;clear h;go_enter Tryz.func23,Tryz.ntmps23
 go_wp2_with (at_builtin;refine qI rfl _ _ _ rfl w w.heap.size rfl Br 5 i0 (.int .u8 0) 1 Tryz.underlying24 hi hz0 hz1 hz2 rfl _ 0 [] rfl (Wo _ _ _ _) _ _ _ rfl HS.out (by unfold maxLen;omega) (by omega) ?_;intro v' w' hown' hb')
 rw[Nat.zero_add,List.nil_append]at hown';have HO:=hid hown';have HBB:=hid hb';obtain⟨a1,n1,c1,rfl⟩:=qq hown';clear hown' hb';go_wp2_with fail
 go_loopw [3,4] (fun s i wr=> ∃k:Nat,i= .int .i64 (k:Nat)∧k≤70∧wr.ownsRow b0 5 1 s (zs.length+k) ((zs++Zj k).map qp)∧Below b0 w wr) (fun _ i _=>70 - (intOf i).toNat)
 case atStart=>exact⟨0,rfl,by omega,by rw[←hb0];simpa [Zj] using HO.out,by rw[←hb0];exact HBB.out⟩
 case round=>
  obtain⟨k,rfl,hk,ho,hb⟩:=hrel;by_cases hlt:k<70
  case pos=>
   obtain⟨a2,n2,c2,rfl⟩:=qq ho;have HO:=hid ho;have HB2:=hid hb;have hm:((k:Int).tmod 7)=((k%7:Nat):Int):=by rw[Int.tmod_eq_emod_of_nonneg (by omega)];omega
   have hk7:k%7<7:=Nat.mod_lt k (by omega);have hw1:IntKind.i64.wrap (((k%7:Nat):Int))=((k%7:Nat):Int):=by rw[IntKind.wrap_i64]<;>omega
   have hw2:IntKind.i64.wrap (200+((k%7:Nat):Int))=200+((k%7:Nat):Int):=by rw[IntKind.wrap_i64]<;>omega
   have hw3:IntKind.u8.wrap (200+((k%7:Nat):Int))=200+((k%7:Nat):Int):=by rw[IntKind.wrap_u8]<;>omega
   clear ho hb;generalize hm7:k%7=m7 at*;have HM:=hid hm7;have hbr:b0≤wr.heap.size:=by have:=HB2.out.size;omega
   clear hm7;go_wp2_with (at_builtin;refine qI rfl _ _ _ rfl w b0 hb0.symm (HB2.out.alloc hbr _) 5 i0 (.int .u8 0) 1 Tryz.underlying24 hi hz0 hz1 hz2 rfl (.slice a2 n2 c2) (zs.length+k) _ rfl (HO.out.alloc _) _ 1 [.int .u8 (200+(m7:Int))] rfl (qhw wr _ _ rfl) (by unfold maxLen;omega) (by omega) ?_;intro v' w' hown' hb')
   refine⟨⟨k+1,rfl,by omega,?_,hb'⟩,by simp[intOf];omega⟩;rw[qek,HM.out,←List.append_assoc,List.map_append];exact hown'
  obtain rfl:k=70:=by omega
  have HO:=hid ho;have HB2:=hid hb;obtain⟨a2,n2,c2,rfl⟩:=qq ho;clear ho hb;go_wp2
  go_ret
  refine⟨_,rfl,⟨fun z hz=>?_,yf (n:=zs.length+70) (by rw[hb0];exact HO.out)⟩,by rw[hb0];exact HB2.out⟩;rcases List.mem_append.1 hz with h|h
  ·exact HB.out z h
  ·exact qcx 70 z h
theorem qf3 (zs:List Int)(u v:Value)(w:World)(hu:Hold w u (zs++Zj 70))(h:Hold w v zs)(hn:zs.length≤70368744177000):
  Calls Tryz.prog 29 #[u,v] w fun e w'=>e= .returned (.bool true)∧Below w.heap.size w w':=by
 have HU:=hid hu;have HW:=hid (qbY zs v w h hn);clear hu h;go_enter Tryz.func29,Tryz.ntmps29
 go_wp2_with fail
 refine HW.out.mono ?_;rintro e w1 ⟨x,rfl,hx,hb⟩;have HX:=hid hx;have HB:=hid hb;clear hx hb;go_wp2_with fail
 refine(qfI _ u x w1 (HU.out.below HB.out) HX.out.hold).mono ?_;rintro e w2 ⟨rfl,m,rfl⟩;go_wp2
 go_ret
 exact⟨rfl,HB.out.trans ((Z2 w1 m).mono HB.out.size)⟩
theorem qgJ (t:TreeV)(kz z1 z2:List Int)(w:World)(h1:Hold w (.slice t.ka t.kl t.kc) kz)(h2:Hold w (.slice t.sa t.sl t.sc) z1)(h3:Hold w (.slice t.pa t.pl t.pc) z2)(hk:t.kl≤70368744177664)(hs:t.sl≤70368744177664)(hp:t.pl≤70368744177664):
  Calls Tryz.prog 25 #[t.val] w fun e w'=> ∃u,e= .returned u∧OwnTree t kz z1 z2 w.heap.size w' u∧Below w.heap.size w w':=by
 obtain⟨b0,hb0⟩:=Ex w.heap.size;have e1:=Yr h1;have e2:=Yr h2;have e3:=Yr h3;have HC1:=hid (fun(W:World) (hb:Below b0 w W)=>Yf kz _ W (h1.below (hb0▸hb)) (by omega));have HC2:=hid (fun(W:World) (hb:Below b0 w W)=>Yf z1 _ W (h2.below (hb0▸hb)) (by omega));have HC3:=hid (fun(W:World) (hb:Below b0 w W)=>Yf z2 _ W (h3.below (hb0▸hb)) (by omega));have E1:=hid e1;have E2:=hid e2;have E3:=hid e3;clear h1 h2 h3 e1 e2 e3 hk hs hp;unfold TreeV.val;go_enter Tryz.func25,Tryz.ntmps25
 go_upto_region 1 with(fail)
 refine qj ?_;intro V hV;have hrT:V.heap[b0]? =some (.cells #[.int .i64 t.k,.int .i64 t.d,.int .i64 t.f,.int .i64 t.p,.int .u32 t.l,.int .i64 t.i,.slice t.ka t.kl t.kc,.slice t.sa t.sl t.sc,.slice t.pa t.pl t.pc] 26 (0,0)):=by rw[hV];exact(Bh _ _ _ (by simp;omega)).trans (qd _ _ hb0.symm)
 have hrC:V.heap[b0+1]? =some (.cells #[.int .i64 0,.int .i64 0,.int .i64 0,.int .i64 0,.int .u32 0,.int .i64 0,.slice none 0 0,.slice none 0 0,.slice none 0 0] 26 (0,0)):=by rw[hV];exact qd _ _ (by simp;omega)
 have hbA:Below b0 w V:=by rw[hV,←hb0];exact(Br.alloc Nl _).alloc (by simp) _
 have hsA:V.heap.size=b0+2:=by rw[hV];simp;omega
 clear hV;have c1x:V.cell? ⟨b0,6,none⟩=some (.slice t.ka t.kl t.kc):=qa hrT 6;have hs1x:b0<V.heap.size:=(Ai hrT).1;go_wp2_with fail
 refine(HC1.out V hbA).mono ?_;rintro e w1 ⟨u1,rfl,ho1,hb1⟩;obtain⟨a1,c1,rfl, -, -⟩:=ho1.hold.slice;rw[E1.out]at ho1⊢;have hr1:=qc hrT hb1;have g1:w1.cell? ⟨b0,6,none⟩=some (.slice t.ka t.kl t.kc):=qa hr1 6;have f1:=frozen_of_row w1 b0 6 _ _ hr1;have s1:b0<w1.heap.size:=(Ai hr1).1;have HS1:=hid (show b0+1<V.heap.size from(Ai hrC).1);have q1:=hb1.size;have HRC1:=hid (qc hrC hb1);have HR1:=hid hr1;have HBX1:=hid (hbA.trans (hb1.mono (show b0≤V.heap.size by omega)));have KX1:=hid (KB.of_below hb1 (Nat.zero_le _));have HOX1:=hid (ho1.le (show b0≤V.heap.size by omega));clear hr1 hb1 ho1 c1x hs1x;go_upto_region 2 with(fail)
 refine qj ?_;intro X1 hX1;have K1:=hid (show KB 0 V X1 from KX1.out.trans (by rw[hX1];exact KB.of_but ((But.refl b0 _).set 6 _) (Nat.zero_le _) (Nat.zero_le _) HR1.out (by decide)));have k1:=hid (show KB 0 w1 X1 by rw[hX1];exact KB.of_but ((But.refl b0 _).set 6 _) (Nat.zero_le _) (Nat.zero_le _) HR1.out (by decide));have hrX1:X1.heap[b0]? =some (.cells #[.int .i64 t.k,.int .i64 t.d,.int .i64 t.f,.int .i64 t.p,.int .u32 t.l,.int .i64 t.i,.slice a1 t.kl c1,.slice t.sa t.sl t.sc,.slice t.pa t.pl t.pc] 26 (0,0)):=by rw[hX1];exact heap_setCell_same _ b0 6 _ _ _ HR1.out
 have hrY1:X1.heap[b0+1]? =some (.cells #[.int .i64 0,.int .i64 0,.int .i64 0,.int .i64 0,.int .u32 0,.int .i64 0,.slice none 0 0,.slice none 0 0,.slice none 0 0] 26 (0,0)):=by rw[hX1];exact(heap_setCell_other _ _ _ _ (show b0+1≠b0 by omega)).trans HRC1.out
 have hbX1:Below b0 w X1:=by rw[hX1];exact HBX1.out.setCell (Nat.le_refl b0) _
 have HO1:=hid (HOX1.out.kb k1.out);clear hX1 g1 f1 s1 q1 HRC1 HR1 HBX1 KX1 HOX1 HS1;have c2x:X1.cell? ⟨b0,7,none⟩=some (.slice t.sa t.sl t.sc):=qa hrX1 7;have hs2x:b0<X1.heap.size:=(Ai hrX1).1;go_wp2_with fail
 refine(HC2.out X1 hbX1).mono ?_;rintro e w2 ⟨u2,rfl,ho2,hb2⟩;obtain⟨a2,c2,rfl, -, -⟩:=ho2.hold.slice;rw[E2.out]at ho2⊢;have hr2:=qc hrX1 hb2;have g2:w2.cell? ⟨b0,7,none⟩=some (.slice t.sa t.sl t.sc):=qa hr2 7;have f2:=frozen_of_row w2 b0 7 _ _ hr2;have s2:b0<w2.heap.size:=(Ai hr2).1;have HS2:=hid (show b0+1<X1.heap.size from(Ai hrY1).1);have q2:=hb2.size;have HRC2:=hid (qc hrY1 hb2);have HR2:=hid hr2;have HBX2:=hid (hbX1.trans (hb2.mono (show b0≤X1.heap.size by omega)));have KX2:=hid (KB.of_below hb2 (Nat.zero_le _));have HOX2:=hid (ho2.le (show b0≤X1.heap.size by omega));clear hr2 hb2 ho2 c2x hs2x;go_upto_region 3 with(fail)
 refine qj ?_;intro X2 hX2;have K2:=hid (show KB 0 X1 X2 from KX2.out.trans (by rw[hX2];exact KB.of_but ((But.refl b0 _).set 7 _) (Nat.zero_le _) (Nat.zero_le _) HR2.out (by decide)));have k2:=hid (show KB 0 w2 X2 by rw[hX2];exact KB.of_but ((But.refl b0 _).set 7 _) (Nat.zero_le _) (Nat.zero_le _) HR2.out (by decide));have hrX2:X2.heap[b0]? =some (.cells #[.int .i64 t.k,.int .i64 t.d,.int .i64 t.f,.int .i64 t.p,.int .u32 t.l,.int .i64 t.i,.slice a1 t.kl c1,.slice a2 t.sl c2,.slice t.pa t.pl t.pc] 26 (0,0)):=by rw[hX2];exact heap_setCell_same _ b0 7 _ _ _ HR2.out
 have hrY2:X2.heap[b0+1]? =some (.cells #[.int .i64 0,.int .i64 0,.int .i64 0,.int .i64 0,.int .u32 0,.int .i64 0,.slice none 0 0,.slice none 0 0,.slice none 0 0] 26 (0,0)):=by rw[hX2];exact(heap_setCell_other _ _ _ _ (show b0+1≠b0 by omega)).trans HRC2.out
 have hbX2:Below b0 w X2:=by rw[hX2];exact HBX2.out.setCell (Nat.le_refl b0) _
 have HO2:=hid (HOX2.out.kb k2.out);have HO1:=hid (HO1.out.kb K2.out);clear hX2 g2 f2 s2 q2 HRC2 HR2 HBX2 KX2 HOX2 HS2;have c3x:X2.cell? ⟨b0,8,none⟩=some (.slice t.pa t.pl t.pc):=qa hrX2 8;have hs3x:b0<X2.heap.size:=(Ai hrX2).1;go_wp2_with fail
 refine(HC3.out X2 hbX2).mono ?_;rintro e w3 ⟨u3,rfl,ho3,hb3⟩;obtain⟨a3,c3,rfl, -, -⟩:=ho3.hold.slice;rw[E3.out]at ho3⊢;have hr3:=qc hrX2 hb3;have g3:w3.cell? ⟨b0,8,none⟩=some (.slice t.pa t.pl t.pc):=qa hr3 8;have f3:=frozen_of_row w3 b0 8 _ _ hr3;have s3:b0<w3.heap.size:=(Ai hr3).1;have HS3:=hid (show b0+1<X2.heap.size from(Ai hrY2).1);have q3:=hb3.size;have HRC3:=hid (qc hrY2 hb3);have HR3:=hid hr3;have HBX3:=hid (hbX2.trans (hb3.mono (show b0≤X2.heap.size by omega)));have KX3:=hid (KB.of_below hb3 (Nat.zero_le _));have HOX3:=hid (ho3.le (show b0≤X2.heap.size by omega));clear hr3 hb3 ho3 c3x hs3x;go_upto_region 4 with(fail)
 refine qj ?_;intro X3 hX3;have K3:=hid (show KB 0 X2 X3 from KX3.out.trans (by rw[hX3];exact KB.of_but ((But.refl b0 _).set 8 _) (Nat.zero_le _) (Nat.zero_le _) HR3.out (by decide)));have k3:=hid (show KB 0 w3 X3 by rw[hX3];exact KB.of_but ((But.refl b0 _).set 8 _) (Nat.zero_le _) (Nat.zero_le _) HR3.out (by decide));have hrX3:X3.heap[b0]? =some (.cells #[.int .i64 t.k,.int .i64 t.d,.int .i64 t.f,.int .i64 t.p,.int .u32 t.l,.int .i64 t.i,.slice a1 t.kl c1,.slice a2 t.sl c2,.slice a3 t.pl c3] 26 (0,0)):=by rw[hX3];exact heap_setCell_same _ b0 8 _ _ _ HR3.out
 have hrY3:X3.heap[b0+1]? =some (.cells #[.int .i64 0,.int .i64 0,.int .i64 0,.int .i64 0,.int .u32 0,.int .i64 0,.slice none 0 0,.slice none 0 0,.slice none 0 0] 26 (0,0)):=by rw[hX3];exact(heap_setCell_other _ _ _ _ (show b0+1≠b0 by omega)).trans HRC3.out
 have hbX3:Below b0 w X3:=by rw[hX3];exact HBX3.out.setCell (Nat.le_refl b0) _
 have HO3:=hid (HOX3.out.kb k3.out);have HO1:=hid (HO1.out.kb K3.out);have HO2:=hid (HO2.out.kb K3.out);clear hX3 g3 f3 s3 q3 HRC3 HR3 HBX3 KX3 HOX3 HS3;have HRC3:=hid hrY3;have HB3:=hid hbX3;have HR3:=hid hrX3;go_wp2_with (first|((with_reducible show wpList _ _ _ (Oper.mk _ (Op.load 26 _) _ _ _ _::_) _ _);refine wpList_load_row rfl 26 _ rfl b0 rfl _ _ _ _ HR3.out Tryz.underlying26 rfl (by kernel_rfl) ?_)|((with_reducible show wpList _ _ _ (Oper.mk none (Op.store 26 _ _) _ _ _ _::_) _ _);refine wpList_store_row rfl 26 _ _ rfl (b0+1) #[.int .i64 t.k,.int .i64 t.d,.int .i64 t.f,.int .i64 t.p,.int .u32 t.l,.int .i64 t.i,.slice a1 t.kl c1,.slice a2 t.sl c2,.slice a3 t.pl c3] rfl rfl 26 _ HRC3.out (by kernel_rfl) rfl (by simp[Value.oneCell']) ?_))
 exact Bp (results_cell_row rfl _ _ _ _ _ _ _ rfl (setRow_heap _ _ _ _ _ _ HRC3.out) Tryz.underlying26 rfl (by kernel_rfl)) rfl (by
  rw[hb0];have hko: ∀{x:Value} {z:List Int},OwnB b0 X3 x z→OwnB b0 (X3.setRow (b0+1) #[.int .i64 t.k,.int .i64 t.d,.int .i64 t.f,.int .i64 t.p,.int .u32 t.l,.int .i64 t.i,.slice a1 t.kl c1,.slice a2 t.sl c2,.slice a3 t.pl c3]) x z:=fun {x z} h=>h.kb (KB.of_but ((But.refl (b0+1) _).setRow _) (Nat.zero_le _) (Nat.zero_le _) HRC3.out (by decide))
  exact⟨_,rfl,⟨a1,c1,a2,c2,a3,c3,rfl,hko HO1.out,hko HO2.out,hko HO3.out⟩,below_setRow HB3.out (by omega) _⟩)
theorem Z6 (t:TreeV)(a1:Option Addr)(c1:Nat)(a2:Option Addr)(c2:Nat)(a3:Option Addr)(c3:Nat)(kz z1 z2 zs:List Int)(m:Nat):(t.sw a1 c1 a2 c2 a3 c3).downC kz z1 z2 zs m=t.downC kz z1 z2 zs m:=by
 unfold TreeV.downC;exact List.map_congr_left fun d _=>qaD ..
theorem qbv (t:TreeV)(a1:Option Addr)(c1:Nat)(a2:Option Addr)(c2:Nat)(a3:Option Addr)(c3:Nat)(kz z1 z2 xs ys:List Int):(t.sw a1 c1 a2 c2 a3 c3).diffT kz z1 z2 xs ys=t.diffT kz z1 z2 xs ys:=by
 unfold TreeV.diffT;rw[Z6,Z6];rfl
theorem YY (t:TreeV)(a1:Option Addr)(c1:Nat)(a2:Option Addr)(c2:Nat)(a3:Option Addr)(c3:Nat)(kz z1 z2 xs ys:List Int):(t.sw a1 c1 a2 c2 a3 c3).clashE kz z1 z2 xs ys=t.clashE kz z1 z2 xs ys:=by
 unfold TreeV.clashE;rw[jM,jM];rfl
theorem PartSays.sw {t:TreeV}{a1:Option Addr}{c1:Nat}{a2:Option Addr}{c2:Nat}{a3:Option Addr}{c3:Nat}{kz z1 z2 xs ys:List Int}{p q:Array Value}{r i:Int}{W:World}(h:PartSays (t.sw a1 c1 a2 c2 a3 c3) kz z1 z2 xs ys p q r i W):PartSays t kz z1 z2 xs ys p q r i W:=by
 unfold PartSays at h⊢;rw[YY,qbv]at h;exact h
theorem qbO (t:TreeV)(kz z1 z2 xs ys:List Int)(xa ya:Option Addr)(xc yc:Nat)(w:World)(hl:0≤t.l∧t.l≤4294967295)(hk:Hold w (.slice t.ka t.kl t.kc) kz)(hs:Hold w (.slice t.sa t.sl t.sc) z1)(hp:Hold w (.slice t.pa t.pl t.pc) z2)(hx:Hold w (.slice xa xs.length xc) xs)(hy:Hold w (.slice ya ys.length yc) ys)(hxn:xs.length≤4194304)(hyn:ys.length≤4194304):
  Calls Tryz.prog 27 #[t.val,.slice xa xs.length xc,.slice ya ys.length yc] w fun e w'=>(∃c1 c2 r i,e= .returned (.tuple #[.agg c1,.agg c2,.int .i64 (t.clashE kz z1 z2 xs ys)])∧PartSays t kz z1 z2 xs ys c1 c2 r i w')∧Below w.heap.size w w':=by
 by_cases hE:t.clashE kz z1 z2 xs ys=0
 ·refine(qbN t kz z1 z2 xs ys xa ya xc yc w hl hk hs hp hx hy hxn hyn hE).mono ?_;rintro e w' ⟨⟨a,b,row,i,c1,c2,hd,rfl,h1,h2,h3,h4⟩,hb⟩
  exact⟨⟨c1,c2,_,_,by rw[hE],h1,h2,.inr ⟨hE,a,b,row,i,hd,h3,h4,rfl,rfl⟩⟩,hb⟩
 ·refine(qcN t kz z1 z2 xs ys xa ya xc yc w hl hk hs hp hx hy hxn hyn _ rfl hE).mono ?_;rintro e w' ⟨rfl,hb⟩
  exact⟨⟨zeroC,zeroC,0,0,rfl,Ze,Ze,.inl ⟨hE,rfl,rfl,rfl,rfl⟩⟩,hb⟩
def RowSays (t:TreeV)(kz z1 z2 xs ys:List Int)(r i:Int):Prop:=(t.clashE kz z1 z2 xs ys≠0∧r=0∧i=0)∨ ∃a b row at_,t.diffT kz z1 z2 xs ys=some (a,b,row,at_)∧t.clashE kz z1 z2 xs ys=0∧r=(row:Nat)∧i=(at_:Nat)
theorem RowSays.one {t:TreeV}{kz z1 z2 xs ys:List Int}{r i r' i':Int}(h:RowSays t kz z1 z2 xs ys r i)(k:RowSays t kz z1 z2 xs ys r' i'):r=r'∧i=i':=by
 rcases h with⟨h,rfl,rfl⟩|⟨a,b,row,at_,h1,h2,rfl,rfl⟩<;>rcases k with⟨k,rfl,rfl⟩|⟨a',b',row',at',k1,k2,rfl,rfl⟩
 ·exact⟨rfl,rfl⟩
 ·exact absurd k2 h
 ·exact absurd h2 k
 ·rw[h1]at k1;simp only[Option.some.injEq,Prod.mk.injEq]at k1;obtain⟨-, -,rfl,rfl⟩:=k1;exact⟨rfl,rfl⟩
theorem PartSays.row {t:TreeV}{kz z1 z2 xs ys:List Int}{c1 c2:Array Value}{r i:Int}{W:World}(h:PartSays t kz z1 z2 xs ys c1 c2 r i W):RowSays t kz z1 z2 xs ys r i:=by
 rcases h.2.2 with⟨h1, -, -,h2,h3⟩|⟨h1,a,b,row,at_,h2, -, -,h3,h4⟩
 ·exact .inl ⟨h1,h2,h3⟩
 ·exact .inr ⟨a,b,row,at_,h2,h1,h3,h4⟩
theorem qa7 (t:TreeV)(kz z1 z2 xs ys:List Int)(xa ya:Option Addr)(xc yc:Nat)(w:World)(hl:0≤t.l∧t.l≤4294967295)(hk:Hold w (.slice t.ka t.kl t.kc) kz)(hs:Hold w (.slice t.sa t.sl t.sc) z1)(hp:Hold w (.slice t.pa t.pl t.pc) z2)(hx:Hold w (.slice xa xs.length xc) xs)(hy:Hold w (.slice ya ys.length yc) ys)(hxn:xs.length≤4194304)(hyn:ys.length≤4194304):
  Calls Tryz.prog 31 #[t.val,.slice xa xs.length xc,.slice ya ys.length yc] w fun e w'=>(∃r i,e= .returned (.tuple #[.int .i64 r,.int .u64 i,.int .i64 (t.clashE kz z1 z2 xs ys)])∧RowSays t kz z1 z2 xs ys r i)∧Below w.heap.size w w':=by
 by_cases hE:t.clashE kz z1 z2 xs ys=0
 ·refine(qa6 t kz z1 z2 xs ys xa ya xc yc w hl hk hs hp hx hy hxn hyn hE).mono ?_;rintro e w' ⟨⟨a,b,row,i,hd,rfl⟩,hb⟩
  exact⟨⟨_,_,by rw[hE],.inr ⟨a,b,row,i,hd,hE,rfl,rfl⟩⟩,hb⟩
 ·refine(qbQ t kz z1 z2 xs ys xa ya xc yc w hl hk hs hp hx hy hxn hyn _ rfl hE).mono ?_;rintro e w' ⟨rfl,hb⟩
  exact⟨⟨0,0,rfl,.inl ⟨hE,rfl,rfl⟩⟩,hb⟩
theorem zG (W:World):CallM W (.agg zeroC) ⟨0,[],[],false,0,[]⟩:=⟨_,_,_,rfl,Hold.nil W,Hold.nil W,Hold.nil W⟩
theorem PartSays.both {t:TreeV}{kz z1 z2 xs ys:List Int}{c1 c2 d1 d2:Array Value}{r i r' i':Int}{W W':World}(h:PartSays t kz z1 z2 xs ys c1 c2 r i W)(k:PartSays t kz z1 z2 xs ys d1 d2 r' i' W'): ∃a b,CallM W (.agg c1) a∧CallM W (.agg c2) b∧CallM W' (.agg d1) a∧CallM W' (.agg d2) b:=by
 rcases h.2.2 with⟨h1,rfl,rfl, -⟩|⟨h1,a,b,row,at_,h2,h3,h4, -⟩<;>rcases k.2.2 with⟨k1,rfl,rfl, -⟩|⟨k1,a',b',row',at',k2,k3,k4, -⟩
 ·exact⟨_,_,zG W,zG W,zG W',zG W'⟩
 ·exact absurd k1 h1
 ·exact absurd h1 k1
 ·rw[h2]at k2;simp only[Option.some.injEq,Prod.mk.injEq]at k2;obtain⟨rfl,rfl, -⟩:=k2;exact⟨a,b,h3,h4,k3,k4⟩
end Go.Proofs.YtdndeffmlhaipaaGreat

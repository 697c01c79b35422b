/- A round of the mixing, by the reference, both kinds. No condition. -/
import Derived.Test.YtdndeffmlhaipaaGreatDoorS12
import Derived.Test.YtdndeffmlhaipaaGreatDoorS13
set_option linter.all false
set_option maxRecDepth 100000
set_option maxHeartbeats 8000000
namespace Go.Proofs.YtdndeffmlhaipaaGreatDoor
open Go.ChangeShapes Go.WideShapes Go.ChangeAt Go.RowKit Go.Joins
open Go.Lib (hid)
attribute [local go_sem] Oper.semAt_some
def qa1 (p:Nat→Oper→Prop):Nat→List Oper→Prop
 | _,[]=>True
 | n,o::l=>p n o∧qa1 p (n+1) l
theorem qg {p:Nat→Oper→Prop}{n:Nat}{o:Oper}{l:List Oper}(h:p n o)(h':qa1 p (n+1) l):qa1 p n (o::l):=⟨h,h'⟩
theorem Zz {p:Nat→Oper→Prop}{n:Nat}:qa1 p n []:=trivial
theorem qcw {p:Nat→Oper→Prop}: ∀(l:List Oper) (n:Nat),qa1 p n l→ ∀i o,l[i]? =some o→p (n+i) o
 | [],_,_,i,o,h=>by simp at h
 | a::l,n,h,0,o,e=>by simp at e;subst e;exact h.1
 | a::l,n,h,i+1,o,e=>by
  have:=qcw l (n+1) h.2 i o (by simpa using e)
  rw[show n+(i+1)=n+1+i by omega];exact this
theorem zq {p:Nat→Oper→Prop}{l:List Oper}(h:qa1 p 0 l): ∀i o,l[i]? =some o→p i o:=fun i o hi=>by
 have:=qcw l 0 h i o hi
 rwa[Nat.zero_add]at this
theorem zd {o:Oper}{ys:Nat→Option Bool}(h:o.guard=none):Region.wanted o ys=true:=by unfold Region.wanted;rw[h]
def qad (W:World)(b:Nat)(T:TypeId)(cs:Array Value):Prop:=W.heap[b]? =some (.cells cs T (0,0))
def Yr (s b:Nat)(T:TypeId)(cs:Array Value)(L:List Value)(i:Nat)(v:Value)(W:World):Prop:=
 if i=s then qad W b T cs else match L[i]? with|some g=>v=g|none=>True
theorem Jh {s b:Nat}{T:TypeId}{cs:Array Value}(L:List Value){W W':World}(hb:Below W.heap.size W W')(i:Nat): ∀j u,j≠i→Yr s b T cs L j u W→Yr s b T cs L j u W':=by
 intro j u _ h;unfold Yr at*;by_cases e:j=s
 ·rw[if_pos e]at h⊢;exact(hb.block b (Ai h).1).trans h
 ·rw[if_neg e]at h⊢;exact h
theorem Jg {s b:Nat}{T:TypeId}{cs:Array Value}(L:List Value){W W':World}: ∀j u,j≠s→Yr s b T cs L j u W→Yr s b T cs L j u W':=by
 intro j u e h;unfold Yr at*;rw[if_neg e]at h⊢;exact h
theorem qaT {s b:Nat}{T:TypeId}{cs:Array Value}{L:List Value}{i:Nat}(hs:i=s)(v:Value)(W:World)(h:Yr s b T cs L i v W):Yr s b T cs L i undef W:=by
 unfold Yr at*;rw[if_pos hs]at h⊢;exact h
theorem Jf {s b:Nat}{T:TypeId}{cs:Array Value}{L:List Value}{v:Value}{W:World}(h:qad W b T cs):Yr s b T cs L s v W:=by
 unfold Yr;rw[if_pos rfl];exact h
def RS (b:Nat)(T:TypeId)(cs:Array Value)(w:World)(f:Bool)(W:World):Prop:=But b w W∧(f=false→qad W b T cs)
theorem RS.next {b:Nat}{T:TypeId}{cs:Array Value}{w:World}{f g:Bool}{W W':World}(h:RS b T cs w f W)(hb:Below W.heap.size W W')(hg:g=false→f=false):RS b T cs w g W':=
 ⟨h.1.trans (But.of_below hb),fun e=>(hb.block b (Ai (h.2 (hg e))).1).trans (h.2 (hg e))⟩
theorem RS.same {b:Nat}{T:TypeId}{cs:Array Value}{w:World}{f g:Bool}{W:World}(h:RS b T cs w f W)(hg:g=false→f=false):RS b T cs w g W:=⟨h.1,fun e=>h.2 (hg e)⟩
theorem Qb {f b:Bool}(h:(f||b)=false):f=false:=by cases f<;>simp_all
theorem But.setRow {b:Nat}{w W:World}(h:But b w W)(cs:Array Value):But b w (W.setRow b cs):=h.trans ⟨rfl,rfl,rfl,by simp[World.setRow],fun g _ hb=>setRow_other _ _ _ _ hb⟩
theorem qcV (L0 M:List Int)(hL0:Words 64 16 L0)(hM:Words 64 16 M)(r:Nat)(hr:r≤11)(w:World):
  Calls Tryz.prog 161 #[.agg (qh .u64 L0),.agg (qh .u64 M),.int .i64 r] w fun e w'=>e= .returned (.tuple #[.agg (qh .u64 (mixBig.round L0 M r)),.int .i64 0])∧Below w.heap.size w w':=by
 obtain⟨b0,hb0⟩:=Ex w.heap.size;have hr1: ¬((r:Int)<0):=by omega
 have hr2: ¬(11<(r:Int)):=by omega
 have HS:=hid (fun i (hi:i<16)=>j6 r i (by omega) hi);go_enter Tryz.func161,Tryz.ntmps161
 go_wp2_with fail
 refine qj ?_;intro W hW;have hv:W.heap[b0]? =some (.cells (qh .u64 L0) 181 (0,0)):=by
  rw[hW];exact(Bh _ _ _ (by simp;omega)).trans ((Bh _ _ _ (by simp;omega)).trans (qc _ _ hb0.symm))
 have hm:W.heap[b0+1]? =some (.cells (qh .u64 M) 181 (0,0)):=by
  rw[hW];exact(Bh _ _ _ (by simp;omega)).trans (qc _ _ (by simp;omega))
 have hres:W.heap[b0+1+1]? =some (.cells #[.int .u64 0,.int .u64 0,.int .u64 0,.int .u64 0,.int .u64 0,.int .u64 0,.int .u64 0,.int .u64 0,.int .u64 0,.int .u64 0,.int .u64 0,.int .u64 0,.int .u64 0,.int .u64 0,.int .u64 0,.int .u64 0] 181 (0,0)):=by
  rw[hW];exact qc _ _ (by simp;omega)
 have hB:Below w.heap.size w W:=by
  rw[hW];exact(((Below.refl w.heap.size w).alloc Nl _).alloc (by simp) _).alloc (by simp;omega) _
 have hs0:b0+1+1<W.heap.size:=(Ai hres).1;clear hW;have HV:=hid hv;have HM:=hid hm;have HR:=hid hres;have HB:=hid hB;clear hv hm hres hB;go_loopw [8] (fun i wr=> ∃j:Nat,i= .int .i64 j∧j≤8∧wr.heap[b0]? =some (.cells (qh .u64 (mixBig.turns L0 M r j)) 181 (0,0))∧But b0 W wr) (fun i _=>8 - (intOf i).toNat)
 case atStart=>exact⟨0,rfl,Nat.zero_le _,HV.out,But.refl _ _⟩
 case round=>
  obtain⟨j,rfl,hj,hv,hB⟩:=hrel;have HVr:=hid hv;have HBr:=hid hB;have hsz:=hB.size;clear hv hB;by_cases hlt:j<8
  ·have hW1:=qA Qs hL0 (M:=M) r j;have hst:mixBig.turns L0 M r (j+1)=mixBig.step (mixBig.turns L0 M r j) (plA j) (plB j) (plC j) (plD j) (wd M (qs r (2*j))) (wd M (qs r (2*j+1))):=rfl;have HST:=hid hst;have hW2:=qA Qs hL0 (M:=M) r (j+1);rw[hst]at hW2;clear hst;obtain⟨p1,p2,p3,p4,p5,p6,p7,p8,p9,p10⟩:=qb0 j hlt;have HG:=hid (fun W=>qgj (mixBig.turns L0 M r j) hW1 (plA j) (plB j) (plC j) (plD j) p1 p2 p3 p4 p5 p6 p7 p8 p9 p10 (wd M (qs r (2*j))) (wd M (qs r (2*j+1))) W);have HS0:=hid (HS.out (2*j) (by omega));have HS1:=hid (HS.out (2*j+1) (by omega));have s0:=qI r (2*j);have s1:=qI r (2*j+1);have t0:((qs r (2*j):Nat):Int)<16:=by omega
   have t1:((qs r (2*j+1):Nat):Int)<16:=by omega
   have hx:(qh .u64 M)[qs r (2*j)]? =some (.int .u64 (wd M (qs r (2*j)))):=qx hM s0;have hy:(qh .u64 M)[qs r (2*j+1)]? =some (.int .u64 (wd M (qs r (2*j+1)))):=qx hM s1;have HX:=hid hx;have HY:=hid hy;obtain⟨L,hLe⟩:=Ex (mixBig.turns L0 M r j);rw[hLe]at HVr hW1 HG HST hW2;obtain⟨St,hSt⟩:=Ex (mixBig.step L (plA j) (plB j) (plC j) (plD j) (wd M (qs r (2*j))) (wd M (qs r (2*j+1))));rw[hSt]at HG HST hW2;obtain⟨mx,hmx⟩:=Ex (wd M (qs r (2*j)));obtain⟨my,hmy⟩:=Ex (wd M (qs r (2*j+1)));rw[hmx]at HX HG;rw[hmy]at HY HG;have HP:=hid (qbh j hlt);have e2j:IntKind.i64.wrap (2*(j:Int))=((2*j:Nat):Int):=by rw[IntKind.wrap_i64];omega
   have e2k:IntKind.i64.wrap (((2*j:Nat):Int)+1)=((2*j+1:Nat):Int):=by rw[IntKind.wrap_i64];omega
   clear hLe hSt hmx hmy hx hy p1 p2 p3 p4 p5 p6 p7 p8 p9 p10;generalize qs r (2*j)=sx at*;generalize qs r (2*j+1)=sy at*;generalize 2*j+1=k3 at*;generalize 2*j=k2 at*;generalize plA j=pa at*;generalize plB j=pb at*;generalize plC j=pc at*;generalize plD j=pd at*;go_wp2_with fail
   refine(HP.out _).mono ?_;rintro e2 w2 ⟨rfl,hb2⟩;have hv2:=(hb2.block b0 (by omega)).trans HVr.out;have hm2:=(hb2.block (b0+1) (by omega)).trans ((HBr.out.block (b0+1) (by omega) (by omega)).trans HM.out);have hB2:=HBr.out.trans (But.of_below hb2);have hs2:=hb2.size;clear hb2;go_wp2_with fail
   refine qj ?_;intro Wp hWp;obtain⟨bp,hbp⟩:=Ex w2.heap.size;have hv3:Wp.heap[b0]? =some (.cells (qh .u64 L) 181 (0,0)):=by rw[hWp];exact(Bh _ _ _ (by omega)).trans hv2
   have hm3:Wp.heap[b0+1]? =some (.cells (qh .u64 M) 181 (0,0)):=by rw[hWp];exact(Bh _ _ _ (by omega)).trans hm2
   have hp3:Wp.heap[bp]? =some (.cells #[.int .i64 pa,.int .i64 pb,.int .i64 pc,.int .i64 pd] 238 (0,0)):=by rw[hWp];exact qc _ _ hbp.symm
   have hB3:But b0 W Wp:=by rw[hWp];exact hB2.alloc _
   have hbs:bp<Wp.heap.size:=(Ai hp3).1;have hms:b0+1<Wp.heap.size:=(Ai hm3).1;have hbb:bp≠b0:=by omega
   rw[hbp];have HV3:=hid hv3;have HM3:=hid hm3;have HP3:=hid hp3;have HB3:=hid hB3;clear hWp hv2 hm2 hB2 hs2 hbp hv3 hm3 hp3 hB3;refine zD (s:=26) (ds:=[24,25,26,27,28,29,30,31,32,33,34,35,36,37,38,39,40,41,42,43,44,45,46,23,47,48]) (R:=RS b0 181 (qh .u64 L) Wp) (Good:=Yr 26 b0 181 (qh .u64 St) [.agg (qh .u64 L),.pointer (some ⟨bp,0,none⟩),.int .i64 pa,.pointer (some ⟨bp,1,none⟩),.int .i64 pb,.pointer (some ⟨bp,2,none⟩),.int .i64 pc,.pointer (some ⟨bp,3,none⟩),.int .i64 pd,.int .i64 r,.int .i64 j,.int .i64 k2,.int .i64 sx,.pointer (some ⟨b0+1,sx,none⟩),.int .u64 mx,.int .i64 r,.int .i64 j,.int .i64 k2,.int .i64 k3,.int .i64 sy,.pointer (some ⟨b0+1,sy,none⟩),.int .u64 my,.tuple #[.agg (qh .u64 St),.int .i64 0],.tuple #[.agg (qh .u64 St),.int .i64 0],.agg (qh .u64 St),.int .i64 0]) rfl (by decide) (by kernel_rfl) (by kernel_rfl) ?_ ?_ ?_ ?_
   case refine_1=>exact⟨(But.refl b0 Wp).trans (But.of_below Br.drew),fun _=>HV3.out⟩
   case refine_2=>
    refine zq (p:=_) ?_;refine qg ?_ (qg ?_ (qg ?_ (qg ?_ (qg ?_ (qg ?_ (qg ?_ (qg ?_ (qg ?_ (qg ?_ (qg ?_ (qg ?_ (qg ?_ (qg ?_ (qg ?_ (qg ?_ (qg ?_ (qg ?_ (qg ?_ (qg ?_ (qg ?_ (qg ?_ (qg ?_ (qg ?_ (qg ?_ (qg ?_ (qg ?_ (Zz)))))))))))))))))))))))))))
    ·intro f x W' hR hwait hdep K hK;clear hdep;have hst:=hR.2 (hwait (by kernel_rfl));simp only[lay,Act.put,Ls]at hK⊢;rw[if_pos (zd rfl)];refine wp_load_row 181 _ rfl b0 rfl _ _ _ _ hst Tryz.underlying181 rfl (by rw[qd,hW1.1];kernel_rfl) ?_;exact hK _ _ (hR.same Qb) (fun _ _ _ h=>h) rfl
    ·intro f x W' hR hwait hdep K hK;clear hdep;clear hwait;simp only[lay,Act.put,Ls]at hK⊢;go_simp
     exact hK _ _ (hR.same Qb) (fun _ _ _ h=>h) rfl
    ·intro f x W' hR hwait hdep K hK;have g0:x 25= .pointer (some ⟨bp,0,none⟩):=hdep ⟨1,.data⟩ (by simp) rfl _ rfl;clear hdep;have cP:=(qE ((hR.1.block bp hbs hbb).trans HP3.out)).1;clear hwait;simp only[lay,Act.put,Ls,g0]at hK⊢;go_simp
     exact hK _ _ (hR.same Qb) (fun _ _ _ h=>h) rfl
    ·intro f x W' hR hwait hdep K hK;clear hdep;clear hwait;simp only[lay,Act.put,Ls]at hK⊢;go_simp
     exact hK _ _ (hR.same Qb) (fun _ _ _ h=>h) rfl
    ·intro f x W' hR hwait hdep K hK;have g0:x 27= .pointer (some ⟨bp,1,none⟩):=hdep ⟨3,.data⟩ (by simp) rfl _ rfl;clear hdep;have cP:=(qE ((hR.1.block bp hbs hbb).trans HP3.out)).1;clear hwait;simp only[lay,Act.put,Ls,g0]at hK⊢;go_simp
     exact hK _ _ (hR.same Qb) (fun _ _ _ h=>h) rfl
    ·intro f x W' hR hwait hdep K hK;clear hdep;clear hwait;simp only[lay,Act.put,Ls]at hK⊢;go_simp
     exact hK _ _ (hR.same Qb) (fun _ _ _ h=>h) rfl
    ·intro f x W' hR hwait hdep K hK;have g0:x 29= .pointer (some ⟨bp,2,none⟩):=hdep ⟨5,.data⟩ (by simp) rfl _ rfl;clear hdep;have cP:=(qE ((hR.1.block bp hbs hbb).trans HP3.out)).1;clear hwait;simp only[lay,Act.put,Ls,g0]at hK⊢;go_simp
     exact hK _ _ (hR.same Qb) (fun _ _ _ h=>h) rfl
    ·intro f x W' hR hwait hdep K hK;clear hdep;clear hwait;simp only[lay,Act.put,Ls]at hK⊢;go_simp
     exact hK _ _ (hR.same Qb) (fun _ _ _ h=>h) rfl
    ·intro f x W' hR hwait hdep K hK;have g0:x 31= .pointer (some ⟨bp,3,none⟩):=hdep ⟨7,.data⟩ (by simp) rfl _ rfl;clear hdep;have cP:=(qE ((hR.1.block bp hbs hbb).trans HP3.out)).1;clear hwait;simp only[lay,Act.put,Ls,g0]at hK⊢;go_simp
     exact hK _ _ (hR.same Qb) (fun _ _ _ h=>h) rfl
    ·intro f x W' hR hwait hdep K hK;clear hdep;clear hwait;simp only[lay,Act.put,Ls]at hK⊢;go_simp
     exact hK _ _ (hR.same Qb) (fun _ _ _ h=>h) rfl
    ·intro f x W' hR hwait hdep K hK;clear hdep;clear hwait;simp only[lay,Act.put,Ls]at hK⊢;go_simp
     exact hK _ _ (hR.same Qb) (fun _ _ _ h=>h) rfl
    ·intro f x W' hR hwait hdep K hK;have g0:x 34= .int .i64 j:=hdep ⟨10,.data⟩ (by simp) rfl _ rfl;clear hdep;clear hwait;simp only[lay,Act.put,Ls,g0]at hK⊢;go_simp
     exact hK _ _ (hR.same Qb) (fun _ _ _ h=>h) rfl
    ·intro f x W' hR hwait hdep K hK;have g0:x 33= .int .i64 r:=hdep ⟨9,.data⟩ (by simp) rfl _ rfl;have g1:x 35= .int .i64 k2:=hdep ⟨11,.data⟩ (by simp) rfl _ rfl;clear hdep;clear hwait;simp only[lay,Act.put,Ls,g0,g1]at hK⊢;go_simp
     refine(HS0.out W').mono ?_;rintro e4 w4 ⟨rfl,rfl⟩
     exact hK _ _ (hR.same Qb) (fun _ _ _ h=>h) rfl
    ·intro f x W' hR hwait hdep K hK;have g0:x 36= .int .i64 sx:=hdep ⟨12,.data⟩ (by simp) rfl _ rfl;clear hdep;clear hwait;simp only[lay,Act.put,Ls,g0]at hK⊢;go_simp
     exact hK _ _ (hR.same Qb) (fun _ _ _ h=>h) rfl
    ·intro f x W' hR hwait hdep K hK;have g0:x 37= .pointer (some ⟨b0+1,sx,none⟩):=hdep ⟨13,.data⟩ (by simp) rfl _ rfl;clear hdep;have cM:=(qk ((hR.1.block (b0+1) hms (by omega)).trans HM3.out) sx).trans HX.out;clear hwait;simp only[lay,Act.put,Ls,g0]at hK⊢;go_simp
     exact hK _ _ (hR.same Qb) (fun _ _ _ h=>h) rfl
    ·intro f x W' hR hwait hdep K hK;clear hdep;clear hwait;simp only[lay,Act.put,Ls]at hK⊢;go_simp
     exact hK _ _ (hR.same Qb) (fun _ _ _ h=>h) rfl
    ·intro f x W' hR hwait hdep K hK;clear hdep;clear hwait;simp only[lay,Act.put,Ls]at hK⊢;go_simp
     exact hK _ _ (hR.same Qb) (fun _ _ _ h=>h) rfl
    ·intro f x W' hR hwait hdep K hK;have g0:x 40= .int .i64 j:=hdep ⟨16,.data⟩ (by simp) rfl _ rfl;clear hdep;clear hwait;simp only[lay,Act.put,Ls,g0]at hK⊢;go_simp
     exact hK _ _ (hR.same Qb) (fun _ _ _ h=>h) rfl
    ·intro f x W' hR hwait hdep K hK;have g0:x 41= .int .i64 k2:=hdep ⟨17,.data⟩ (by simp) rfl _ rfl;clear hdep;clear hwait;simp only[lay,Act.put,Ls,g0]at hK⊢;go_simp
     exact hK _ _ (hR.same Qb) (fun _ _ _ h=>h) rfl
    ·intro f x W' hR hwait hdep K hK;have g0:x 39= .int .i64 r:=hdep ⟨15,.data⟩ (by simp) rfl _ rfl;have g1:x 42= .int .i64 k3:=hdep ⟨18,.data⟩ (by simp) rfl _ rfl;clear hdep;clear hwait;simp only[lay,Act.put,Ls,g0,g1]at hK⊢;go_simp
     refine(HS1.out W').mono ?_;rintro e4 w4 ⟨rfl,rfl⟩
     exact hK _ _ (hR.same Qb) (fun _ _ _ h=>h) rfl
    ·intro f x W' hR hwait hdep K hK;have g0:x 43= .int .i64 sy:=hdep ⟨19,.data⟩ (by simp) rfl _ rfl;clear hdep;clear hwait;simp only[lay,Act.put,Ls,g0]at hK⊢;go_simp
     exact hK _ _ (hR.same Qb) (fun _ _ _ h=>h) rfl
    ·intro f x W' hR hwait hdep K hK;have g0:x 44= .pointer (some ⟨b0+1,sy,none⟩):=hdep ⟨20,.data⟩ (by simp) rfl _ rfl;clear hdep;have cM:=(qk ((hR.1.block (b0+1) hms (by omega)).trans HM3.out) sy).trans HY.out;clear hwait;simp only[lay,Act.put,Ls,g0]at hK⊢;go_simp
     exact hK _ _ (hR.same Qb) (fun _ _ _ h=>h) rfl
    ·intro f x W' hR hwait hdep K hK;have g0:x 24= .agg (qh .u64 L):=hdep ⟨0,.data⟩ (by simp) rfl _ rfl;have g1:x 26= .int .i64 pa:=hdep ⟨2,.data⟩ (by simp) rfl _ rfl;have g2:x 28= .int .i64 pb:=hdep ⟨4,.data⟩ (by simp) rfl _ rfl;have g3:x 30= .int .i64 pc:=hdep ⟨6,.data⟩ (by simp) rfl _ rfl;have g4:x 32= .int .i64 pd:=hdep ⟨8,.data⟩ (by simp) rfl _ rfl;have g5:x 38= .int .u64 mx:=hdep ⟨14,.data⟩ (by simp) rfl _ rfl;have g6:x 45= .int .u64 my:=hdep ⟨21,.data⟩ (by simp) rfl _ rfl;clear hdep;clear hwait;simp only[lay,Act.put,Ls,g0,g1,g2,g3,g4,g5,g6]at hK⊢;go_simp
     refine(HG.out W').mono ?_;rintro e4 w4 ⟨rfl,hb4⟩
     exact hK _ _ (hR.next hb4 Qb) (Jh _ hb4 _) rfl
    ·intro f x W' hR hwait hdep K hK;have g0:x 46= .tuple #[.agg (qh .u64 St),.int .i64 0]:=hdep ⟨22,.data⟩ (by simp) rfl _ rfl;clear hdep;clear hwait;simp only[lay,Act.put,Ls,g0]at hK⊢;go_simp
     exact hK _ _ (hR.same Qb) (fun _ _ _ h=>h) rfl
    ·intro f x W' hR hwait hdep K hK;have g0:x 23= .tuple #[.agg (qh .u64 St),.int .i64 0]:=hdep ⟨23,.data⟩ (by simp) rfl _ rfl;clear hdep;clear hwait;simp only[lay,Act.put,Ls,g0]at hK⊢;go_simp
     exact hK _ _ (hR.same Qb) (fun _ _ _ h=>h) rfl
    ·intro f x W' hR hwait hdep K hK;have g0:x 23= .tuple #[.agg (qh .u64 St),.int .i64 0]:=hdep ⟨23,.data⟩ (by simp) rfl _ rfl;clear hdep;clear hwait;simp only[lay,Act.put,Ls,g0]at hK⊢;go_simp
     exact hK _ _ (hR.same Qb) (fun _ _ _ h=>h) rfl
    ·intro f x W' hR hwait hdep K hK;have g0:x 47= .agg (qh .u64 St):=hdep ⟨24,.data⟩ (by simp) rfl _ rfl;clear hdep;have hst:=hR.2 (hwait (by kernel_rfl));simp only[lay,Act.put,Ls,g0]at hK⊢;rw[if_pos (zd rfl)];refine wp_store_row 181 _ _ rfl b0 (qh .u64 St) rfl rfl _ _ hst (by rw[qd,hW2.1];kernel_rfl) (by simp only[qd,hW2.1,hW1.1]) qv ?_;exact hK undef _ ⟨hR.1.setRow _,fun e=>by simp at e⟩ (Jg _) (Jf (setRow_heap _ _ _ _ _ _ hst))
   case refine_3=>
    refine zq (p:=fun i (o:Oper)=> ∀v W,o.dst=none→Yr 26 b0 181 (qh .u64 St) _ i v W→Yr 26 b0 181 (qh .u64 St) _ i undef W) ?_|>fun h i o v W hi=>h i o hi v W
    refine qg ?_ (qg ?_ (qg ?_ (qg ?_ (qg ?_ (qg ?_ (qg ?_ (qg ?_ (qg ?_ (qg ?_ (qg ?_ (qg ?_ (qg ?_ (qg ?_ (qg ?_ (qg ?_ (qg ?_ (qg ?_ (qg ?_ (qg ?_ (qg ?_ (qg ?_ (qg ?_ (qg ?_ (qg ?_ (qg ?_ (qg ?_ (Zz)))))))))))))))))))))))))));all_goals first|(intro v W h;cases h;done)|exact fun v W _ h=>qaT rfl v W h
   case refine_4=>
    intro f x W' hR hG;have hS:qad W' b0 181 (qh .u64 St):=hG 26 _ rfl;have HS4:=hid hS;have HB4:=hid (HB3.out.trans hR.1);clear hS hR hG;simp only[lay,Act.put,Ls];go_wp2
    exact⟨⟨j+1,rfl,by omega,by rw[HST.out];exact HS4.out,HB4.out⟩,by simp[intOf];omega⟩
  ·obtain rfl:j=8:=by omega
   have hW1:=qA Qs hL0 (M:=M) r 8;have HL:=hid (show Ending.returned (.tuple #[.agg (qh .u64 (mixBig.turns L0 M r 8)),.int .i64 0])= .returned (.tuple #[.agg (qh .u64 (mixBig.round L0 M r)),.int .i64 0]) from rfl);have hr5:=(HBr.out.block (b0+1+1) hs0 (by omega)).trans HR.out;have HB5:=hid (HB.out.trans (HBr.out.below (by omega) HB.out.size));generalize mixBig.turns L0 M r 8=L at*;go_upto_region 8 with(fail)
   apply wp_region_lit
   refine wpList_load_row rfl 181 _ rfl b0 rfl _ _ _ _ HVr.out Tryz.underlying181 rfl (by rw[qd,hW1.1];kernel_rfl) ?_;refine wpList_store_row rfl 181 _ _ rfl (b0+1+1) (qh .u64 L) rfl rfl 181 _ hr5 (by rw[qd,hW1.1];kernel_rfl) (by rw[qd,hW1.1];rfl) qv ?_;simp only[Act.put,Ls];go_wp2_with fail
   exact Bp (qz rfl _ _ _ _ _ _ _ rfl (setRow_heap _ _ _ _ _ _ hr5) Tryz.underlying181 rfl (by rw[qd,hW1.1];kernel_rfl)) rfl ⟨Eq.trans (b:= .returned (.tuple #[.agg (qh .u64 L),.int .i64 0])) rfl HL.out,below_setRow (HB5.out.mono (by omega)) (by omega) _⟩
theorem qcW (L0 M:List Int)(hL0:Words 32 16 L0)(hM:Words 32 16 M)(r:Nat)(hr:r≤9)(w:World):
  Calls Tryz.prog 164 #[.agg (qh .u32 L0),.agg (qh .u32 M),.int .i64 r] w fun e w'=>e= .returned (.tuple #[.agg (qh .u32 (mixSmall.round L0 M r)),.int .i64 0])∧Below w.heap.size w w':=by
 obtain⟨b0,hb0⟩:=Ex w.heap.size;have hr1: ¬((r:Int)<0):=by omega
 have hr2: ¬(9<(r:Int)):=by omega
 have HS:=hid (fun i (hi:i<16)=>j6 r i (by omega) hi);go_enter Tryz.func164,Tryz.ntmps164
 go_wp2_with fail
 refine qj ?_;intro W hW;have hv:W.heap[b0]? =some (.cells (qh .u32 L0) 198 (0,0)):=by
  rw[hW];exact(Bh _ _ _ (by simp;omega)).trans ((Bh _ _ _ (by simp;omega)).trans (qc _ _ hb0.symm))
 have hm:W.heap[b0+1]? =some (.cells (qh .u32 M) 198 (0,0)):=by
  rw[hW];exact(Bh _ _ _ (by simp;omega)).trans (qc _ _ (by simp;omega))
 have hres:W.heap[b0+1+1]? =some (.cells #[.int .u32 0,.int .u32 0,.int .u32 0,.int .u32 0,.int .u32 0,.int .u32 0,.int .u32 0,.int .u32 0,.int .u32 0,.int .u32 0,.int .u32 0,.int .u32 0,.int .u32 0,.int .u32 0,.int .u32 0,.int .u32 0] 198 (0,0)):=by
  rw[hW];exact qc _ _ (by simp;omega)
 have hB:Below w.heap.size w W:=by
  rw[hW];exact(((Below.refl w.heap.size w).alloc Nl _).alloc (by simp) _).alloc (by simp;omega) _
 have hs0:b0+1+1<W.heap.size:=(Ai hres).1;clear hW;have HV:=hid hv;have HM:=hid hm;have HR:=hid hres;have HB:=hid hB;clear hv hm hres hB;go_loopw [8] (fun i wr=> ∃j:Nat,i= .int .i64 j∧j≤8∧wr.heap[b0]? =some (.cells (qh .u32 (mixSmall.turns L0 M r j)) 198 (0,0))∧But b0 W wr) (fun i _=>8 - (intOf i).toNat)
 case atStart=>exact⟨0,rfl,Nat.zero_le _,HV.out,But.refl _ _⟩
 case round=>
  obtain⟨j,rfl,hj,hv,hB⟩:=hrel;have HVr:=hid hv;have HBr:=hid hB;have hsz:=hB.size;clear hv hB;by_cases hlt:j<8
  ·have hW1:=qA qY hL0 (M:=M) r j;have hst:mixSmall.turns L0 M r (j+1)=mixSmall.step (mixSmall.turns L0 M r j) (plA j) (plB j) (plC j) (plD j) (wd M (qs r (2*j))) (wd M (qs r (2*j+1))):=rfl;have HST:=hid hst;have hW2:=qA qY hL0 (M:=M) r (j+1);rw[hst]at hW2;clear hst;obtain⟨p1,p2,p3,p4,p5,p6,p7,p8,p9,p10⟩:=qb0 j hlt;have HG:=hid (fun W=>qgk (mixSmall.turns L0 M r j) hW1 (plA j) (plB j) (plC j) (plD j) p1 p2 p3 p4 p5 p6 p7 p8 p9 p10 (wd M (qs r (2*j))) (wd M (qs r (2*j+1))) W);have HS0:=hid (HS.out (2*j) (by omega));have HS1:=hid (HS.out (2*j+1) (by omega));have s0:=qI r (2*j);have s1:=qI r (2*j+1);have t0:((qs r (2*j):Nat):Int)<16:=by omega
   have t1:((qs r (2*j+1):Nat):Int)<16:=by omega
   have hx:(qh .u32 M)[qs r (2*j)]? =some (.int .u32 (wd M (qs r (2*j)))):=qx hM s0;have hy:(qh .u32 M)[qs r (2*j+1)]? =some (.int .u32 (wd M (qs r (2*j+1)))):=qx hM s1;have HX:=hid hx;have HY:=hid hy;obtain⟨L,hLe⟩:=Ex (mixSmall.turns L0 M r j);rw[hLe]at HVr hW1 HG HST hW2;obtain⟨St,hSt⟩:=Ex (mixSmall.step L (plA j) (plB j) (plC j) (plD j) (wd M (qs r (2*j))) (wd M (qs r (2*j+1))));rw[hSt]at HG HST hW2;obtain⟨mx,hmx⟩:=Ex (wd M (qs r (2*j)));obtain⟨my,hmy⟩:=Ex (wd M (qs r (2*j+1)));rw[hmx]at HX HG;rw[hmy]at HY HG;have HP:=hid (qf5 j hlt);have e2j:IntKind.i64.wrap (2*(j:Int))=((2*j:Nat):Int):=by rw[IntKind.wrap_i64];omega
   have e2k:IntKind.i64.wrap (((2*j:Nat):Int)+1)=((2*j+1:Nat):Int):=by rw[IntKind.wrap_i64];omega
   clear hLe hSt hmx hmy hx hy p1 p2 p3 p4 p5 p6 p7 p8 p9 p10;generalize qs r (2*j)=sx at*;generalize qs r (2*j+1)=sy at*;generalize 2*j+1=k3 at*;generalize 2*j=k2 at*;generalize plA j=pa at*;generalize plB j=pb at*;generalize plC j=pc at*;generalize plD j=pd at*;go_wp2_with fail
   refine(HP.out _).mono ?_;rintro e2 w2 ⟨rfl,rfl⟩;go_wp2_with fail
   refine qj ?_;intro Wp hWp;have hv3:Wp.heap[b0]? =some (.cells (qh .u32 L) 198 (0,0)):=by rw[hWp];exact HVr.out
   have hm3:Wp.heap[b0+1]? =some (.cells (qh .u32 M) 198 (0,0)):=by rw[hWp];exact(HBr.out.block (b0+1) (by omega) (by omega)).trans HM.out
   have hB3:But b0 W Wp:=by rw[hWp];exact HBr.out
   have hms:b0+1<Wp.heap.size:=(Ai hm3).1;have HV3:=hid hv3;have HM3:=hid hm3;have HB3:=hid hB3;clear hWp hv3 hm3 hB3;refine zD (s:=22) (ds:=[32,33,34,35,36,37,38,39,40,41,42,43,44,45,46,47,48,49,50,31,51,52]) (R:=RS b0 198 (qh .u32 L) Wp) (Good:=Yr 22 b0 198 (qh .u32 St) [.agg (qh .u32 L),.int .i64 pa,.int .i64 pb,.int .i64 pc,.int .i64 pd,.int .i64 r,.int .i64 j,.int .i64 k2,.int .i64 sx,.pointer (some ⟨b0+1,sx,none⟩),.int .u32 mx,.int .i64 r,.int .i64 j,.int .i64 k2,.int .i64 k3,.int .i64 sy,.pointer (some ⟨b0+1,sy,none⟩),.int .u32 my,.tuple #[.agg (qh .u32 St),.int .i64 0],.tuple #[.agg (qh .u32 St),.int .i64 0],.agg (qh .u32 St),.int .i64 0]) rfl (by decide) (by kernel_rfl) (by kernel_rfl) ?_ ?_ ?_ ?_
   case refine_1=>exact⟨(But.refl b0 Wp).trans (But.of_below Br.drew),fun _=>HV3.out⟩
   case refine_2=>
    refine zq (p:=_) ?_;refine qg ?_ (qg ?_ (qg ?_ (qg ?_ (qg ?_ (qg ?_ (qg ?_ (qg ?_ (qg ?_ (qg ?_ (qg ?_ (qg ?_ (qg ?_ (qg ?_ (qg ?_ (qg ?_ (qg ?_ (qg ?_ (qg ?_ (qg ?_ (qg ?_ (qg ?_ (qg ?_ (Zz)))))))))))))))))))))))
    ·intro f x W' hR hwait hdep K hK;clear hdep;have hst:=hR.2 (hwait (by kernel_rfl));simp only[lay,Act.put,Ls]at hK⊢;rw[if_pos (zd rfl)];refine wp_load_row 198 _ rfl b0 rfl _ _ _ _ hst Tryz.underlying198 rfl (by rw[qd,hW1.1];kernel_rfl) ?_;exact hK _ _ (hR.same Qb) (fun _ _ _ h=>h) rfl
    ·intro f x W' hR hwait hdep K hK;clear hdep;clear hwait;simp only[lay,Act.put,Ls]at hK⊢;go_simp
     exact hK _ _ (hR.same Qb) (fun _ _ _ h=>h) rfl
    ·intro f x W' hR hwait hdep K hK;clear hdep;clear hwait;simp only[lay,Act.put,Ls]at hK⊢;go_simp
     exact hK _ _ (hR.same Qb) (fun _ _ _ h=>h) rfl
    ·intro f x W' hR hwait hdep K hK;clear hdep;clear hwait;simp only[lay,Act.put,Ls]at hK⊢;go_simp
     exact hK _ _ (hR.same Qb) (fun _ _ _ h=>h) rfl
    ·intro f x W' hR hwait hdep K hK;clear hdep;clear hwait;simp only[lay,Act.put,Ls]at hK⊢;go_simp
     exact hK _ _ (hR.same Qb) (fun _ _ _ h=>h) rfl
    ·intro f x W' hR hwait hdep K hK;clear hdep;clear hwait;simp only[lay,Act.put,Ls]at hK⊢;go_simp
     exact hK _ _ (hR.same Qb) (fun _ _ _ h=>h) rfl
    ·intro f x W' hR hwait hdep K hK;clear hdep;clear hwait;simp only[lay,Act.put,Ls]at hK⊢;go_simp
     exact hK _ _ (hR.same Qb) (fun _ _ _ h=>h) rfl
    ·intro f x W' hR hwait hdep K hK;have g0:x 38= .int .i64 j:=hdep ⟨6,.data⟩ (by simp) rfl _ rfl;clear hdep;clear hwait;simp only[lay,Act.put,Ls,g0]at hK⊢;go_simp
     exact hK _ _ (hR.same Qb) (fun _ _ _ h=>h) rfl
    ·intro f x W' hR hwait hdep K hK;have g0:x 37= .int .i64 r:=hdep ⟨5,.data⟩ (by simp) rfl _ rfl;have g1:x 39= .int .i64 k2:=hdep ⟨7,.data⟩ (by simp) rfl _ rfl;clear hdep;clear hwait;simp only[lay,Act.put,Ls,g0,g1]at hK⊢;go_simp
     refine(HS0.out W').mono ?_;rintro e4 w4 ⟨rfl,rfl⟩
     exact hK _ _ (hR.same Qb) (fun _ _ _ h=>h) rfl
    ·intro f x W' hR hwait hdep K hK;have g0:x 40= .int .i64 sx:=hdep ⟨8,.data⟩ (by simp) rfl _ rfl;clear hdep;clear hwait;simp only[lay,Act.put,Ls,g0]at hK⊢;go_simp
     exact hK _ _ (hR.same Qb) (fun _ _ _ h=>h) rfl
    ·intro f x W' hR hwait hdep K hK;have g0:x 41= .pointer (some ⟨b0+1,sx,none⟩):=hdep ⟨9,.data⟩ (by simp) rfl _ rfl;clear hdep;have cM:=(qk ((hR.1.block (b0+1) hms (by omega)).trans HM3.out) sx).trans HX.out;clear hwait;simp only[lay,Act.put,Ls,g0]at hK⊢;go_simp
     exact hK _ _ (hR.same Qb) (fun _ _ _ h=>h) rfl
    ·intro f x W' hR hwait hdep K hK;clear hdep;clear hwait;simp only[lay,Act.put,Ls]at hK⊢;go_simp
     exact hK _ _ (hR.same Qb) (fun _ _ _ h=>h) rfl
    ·intro f x W' hR hwait hdep K hK;clear hdep;clear hwait;simp only[lay,Act.put,Ls]at hK⊢;go_simp
     exact hK _ _ (hR.same Qb) (fun _ _ _ h=>h) rfl
    ·intro f x W' hR hwait hdep K hK;have g0:x 44= .int .i64 j:=hdep ⟨12,.data⟩ (by simp) rfl _ rfl;clear hdep;clear hwait;simp only[lay,Act.put,Ls,g0]at hK⊢;go_simp
     exact hK _ _ (hR.same Qb) (fun _ _ _ h=>h) rfl
    ·intro f x W' hR hwait hdep K hK;have g0:x 45= .int .i64 k2:=hdep ⟨13,.data⟩ (by simp) rfl _ rfl;clear hdep;clear hwait;simp only[lay,Act.put,Ls,g0]at hK⊢;go_simp
     exact hK _ _ (hR.same Qb) (fun _ _ _ h=>h) rfl
    ·intro f x W' hR hwait hdep K hK;have g0:x 43= .int .i64 r:=hdep ⟨11,.data⟩ (by simp) rfl _ rfl;have g1:x 46= .int .i64 k3:=hdep ⟨14,.data⟩ (by simp) rfl _ rfl;clear hdep;clear hwait;simp only[lay,Act.put,Ls,g0,g1]at hK⊢;go_simp
     refine(HS1.out W').mono ?_;rintro e4 w4 ⟨rfl,rfl⟩
     exact hK _ _ (hR.same Qb) (fun _ _ _ h=>h) rfl
    ·intro f x W' hR hwait hdep K hK;have g0:x 47= .int .i64 sy:=hdep ⟨15,.data⟩ (by simp) rfl _ rfl;clear hdep;clear hwait;simp only[lay,Act.put,Ls,g0]at hK⊢;go_simp
     exact hK _ _ (hR.same Qb) (fun _ _ _ h=>h) rfl
    ·intro f x W' hR hwait hdep K hK;have g0:x 48= .pointer (some ⟨b0+1,sy,none⟩):=hdep ⟨16,.data⟩ (by simp) rfl _ rfl;clear hdep;have cM:=(qk ((hR.1.block (b0+1) hms (by omega)).trans HM3.out) sy).trans HY.out;clear hwait;simp only[lay,Act.put,Ls,g0]at hK⊢;go_simp
     exact hK _ _ (hR.same Qb) (fun _ _ _ h=>h) rfl
    ·intro f x W' hR hwait hdep K hK;have g0:x 32= .agg (qh .u32 L):=hdep ⟨0,.data⟩ (by simp) rfl _ rfl;have g1:x 33= .int .i64 pa:=hdep ⟨1,.data⟩ (by simp) rfl _ rfl;have g2:x 34= .int .i64 pb:=hdep ⟨2,.data⟩ (by simp) rfl _ rfl;have g3:x 35= .int .i64 pc:=hdep ⟨3,.data⟩ (by simp) rfl _ rfl;have g4:x 36= .int .i64 pd:=hdep ⟨4,.data⟩ (by simp) rfl _ rfl;have g5:x 42= .int .u32 mx:=hdep ⟨10,.data⟩ (by simp) rfl _ rfl;have g6:x 49= .int .u32 my:=hdep ⟨17,.data⟩ (by simp) rfl _ rfl;clear hdep;clear hwait;simp only[lay,Act.put,Ls,g0,g1,g2,g3,g4,g5,g6]at hK⊢;go_simp
     refine(HG.out W').mono ?_;rintro e4 w4 ⟨rfl,hb4⟩
     exact hK _ _ (hR.next hb4 Qb) (Jh _ hb4 _) rfl
    ·intro f x W' hR hwait hdep K hK;have g0:x 50= .tuple #[.agg (qh .u32 St),.int .i64 0]:=hdep ⟨18,.data⟩ (by simp) rfl _ rfl;clear hdep;clear hwait;simp only[lay,Act.put,Ls,g0]at hK⊢;go_simp
     exact hK _ _ (hR.same Qb) (fun _ _ _ h=>h) rfl
    ·intro f x W' hR hwait hdep K hK;have g0:x 31= .tuple #[.agg (qh .u32 St),.int .i64 0]:=hdep ⟨19,.data⟩ (by simp) rfl _ rfl;clear hdep;clear hwait;simp only[lay,Act.put,Ls,g0]at hK⊢;go_simp
     exact hK _ _ (hR.same Qb) (fun _ _ _ h=>h) rfl
    ·intro f x W' hR hwait hdep K hK;have g0:x 31= .tuple #[.agg (qh .u32 St),.int .i64 0]:=hdep ⟨19,.data⟩ (by simp) rfl _ rfl;clear hdep;clear hwait;simp only[lay,Act.put,Ls,g0]at hK⊢;go_simp
     exact hK _ _ (hR.same Qb) (fun _ _ _ h=>h) rfl
    ·intro f x W' hR hwait hdep K hK;have g0:x 51= .agg (qh .u32 St):=hdep ⟨20,.data⟩ (by simp) rfl _ rfl;clear hdep;have hst:=hR.2 (hwait (by kernel_rfl));simp only[lay,Act.put,Ls,g0]at hK⊢;rw[if_pos (zd rfl)];refine wp_store_row 198 _ _ rfl b0 (qh .u32 St) rfl rfl _ _ hst (by rw[qd,hW2.1];kernel_rfl) (by simp only[qd,hW2.1,hW1.1]) qv ?_;exact hK undef _ ⟨hR.1.setRow _,fun e=>by simp at e⟩ (Jg _) (Jf (setRow_heap _ _ _ _ _ _ hst))
   case refine_3=>
    refine zq (p:=fun i (o:Oper)=> ∀v W,o.dst=none→Yr 22 b0 198 (qh .u32 St) _ i v W→Yr 22 b0 198 (qh .u32 St) _ i undef W) ?_|>fun h i o v W hi=>h i o hi v W
    refine qg ?_ (qg ?_ (qg ?_ (qg ?_ (qg ?_ (qg ?_ (qg ?_ (qg ?_ (qg ?_ (qg ?_ (qg ?_ (qg ?_ (qg ?_ (qg ?_ (qg ?_ (qg ?_ (qg ?_ (qg ?_ (qg ?_ (qg ?_ (qg ?_ (qg ?_ (qg ?_ (Zz)))))))))))))))))))))));all_goals first|(intro v W h;cases h;done)|exact fun v W _ h=>qaT rfl v W h
   case refine_4=>
    intro f x W' hR hG;have hS:qad W' b0 198 (qh .u32 St):=hG 22 _ rfl;have HS4:=hid hS;have HB4:=hid (HB3.out.trans hR.1);clear hS hR hG;simp only[lay,Act.put,Ls];go_wp2
    exact⟨⟨j+1,rfl,by omega,by rw[HST.out];exact HS4.out,HB4.out⟩,by simp[intOf];omega⟩
  ·obtain rfl:j=8:=by omega
   have hW1:=qA qY hL0 (M:=M) r 8;have HL:=hid (show Ending.returned (.tuple #[.agg (qh .u32 (mixSmall.turns L0 M r 8)),.int .i64 0])= .returned (.tuple #[.agg (qh .u32 (mixSmall.round L0 M r)),.int .i64 0]) from rfl);have hr5:=(HBr.out.block (b0+1+1) hs0 (by omega)).trans HR.out;have HB5:=hid (HB.out.trans (HBr.out.below (by omega) HB.out.size));generalize mixSmall.turns L0 M r 8=L at*;go_upto_region 8 with(fail)
   apply wp_region_lit
   refine wpList_load_row rfl 198 _ rfl b0 rfl _ _ _ _ HVr.out Tryz.underlying198 rfl (by rw[qd,hW1.1];kernel_rfl) ?_;refine wpList_store_row rfl 198 _ _ rfl (b0+1+1) (qh .u32 L) rfl rfl 198 _ hr5 (by rw[qd,hW1.1];kernel_rfl) (by rw[qd,hW1.1];rfl) qv ?_;simp only[Act.put,Ls];go_wp2_with fail
   exact Bp (qz rfl _ _ _ _ _ _ _ rfl (setRow_heap _ _ _ _ _ _ hr5) Tryz.underlying198 rfl (by rw[qd,hW1.1];kernel_rfl)) rfl ⟨Eq.trans (b:= .returned (.tuple #[.agg (qh .u32 L),.int .i64 0])) rfl HL.out,below_setRow (HB5.out.mono (by omega)) (by omega) _⟩
theorem Yg (k:IntKind)(x y:Int):bits .xor k x y=bits .xor k y x:=by simp only[bits,BitVec.xor_comm]
def zb (h iv:List Int):Nat→List Int
 | 0=>[0,0,0,0,0,0,0,0,0,0,0,0,0,0,0,0]
 | i+1=>((zb h iv i).set i (wd h i)).set (i+8) (wd iv i)
theorem yS (h iv:List Int): ∀i,(zb h iv i).length=16
 | 0=>rfl
 | i+1=>by simp[zb,yS h iv i]
theorem QX {k:IntKind}{n:Nat}{L:List Int}(h:L.length=n){i:Nat}(hi:i<n):(qh k L)[i]? =some (.int k (wd L i)):=by
 simp[qh,wd,Lg,List.getElem?_eq_getElem (show i<L.length by omega)]
theorem JK (w:World):Calls Tryz.prog 169 #[] w fun e w'=>e= .returned (.agg #[.int .u32 1779033703,.int .u32 3144134277,.int .u32 1013904242,.int .u32 2773480762,.int .u32 1359893119,.int .u32 2600822924,.int .u32 528734635,.int .u32 1541459225])∧Below w.heap.size w w':=by
 go_enter Tryz.func169,Tryz.ntmps169
 go_wp2
 exact Bp (results_cell_row rfl _ _ _ _ _ _ _ rfl (Wn _ _) Tryz.underlying160 rfl rfl) rfl ⟨rfl,Br.alloc Nl _⟩
theorem qd7 (h:List Int)(hh:Words 64 8 h)(lo hi:Int)(last node:Bool)(w:World):Calls Tryz.prog 160 #[.agg (qh .u64 h),.int .u64 lo,.int .u64 hi,.bool last,.bool node] w fun e w'=>e= .returned (.agg (qh .u64 (yM .u64 IVb h lo hi last node)))∧Below w.heap.size w w':=by
 obtain⟨b0,hb0⟩:=Ex w.heap.size;go_enter Tryz.func160,Tryz.ntmps160
 go_wp2_with fail
 refine qj ?_;intro W hW;have hh1:W.heap[b0]? =some (.cells (qh .u64 h) 150 (0,0)):=by
  rw[hW];exact(Bh _ _ _ (by simp;omega)).trans ((Bh _ _ _ (by simp;omega)).trans (qc _ _ hb0.symm))
 have hr1:W.heap[b0+1]? =some (.cells #[.int .u64 0,.int .u64 0,.int .u64 0,.int .u64 0,.int .u64 0,.int .u64 0,.int .u64 0,.int .u64 0,.int .u64 0,.int .u64 0,.int .u64 0,.int .u64 0,.int .u64 0,.int .u64 0,.int .u64 0,.int .u64 0] 181 (0,0)):=by
  rw[hW];exact(Bh _ _ _ (by simp;omega)).trans (qc _ _ (by simp;omega))
 have hv1:W.heap[b0+1+1]? =some (.cells (qh .u64 (zb h IVb 0)) 181 (0,0)):=by
  rw[hW];exact qc _ _ (by simp;omega)
 have hB1:Below w.heap.size w W:=by
  rw[hW];exact(((Below.refl w.heap.size w).alloc Nl _).alloc (by simp) _).alloc (by simp;omega) _
 have hs1:b0+1+1<W.heap.size:=(Ai hv1).1;clear hW;have HH:=hid hh1;have HR:=hid hr1;have HV:=hid hv1;have HB:=hid hB1;clear hh1 hr1 hv1 hB1;go_loopw [12] (fun i wr=> ∃j:Nat,i= .int .i64 j∧j≤8∧wr.heap[b0+1+1]? =some (.cells (qh .u64 (zb h IVb j)) 181 (0,0))∧But (b0+1+1) W wr) (fun i _=>8 - (intOf i).toNat)
 case atStart=>exact⟨0,rfl,Nat.zero_le _,HV.out,But.refl _ _⟩
 case round=>
  obtain⟨j,rfl,hj,hv,hB⟩:=hrel;have hsz:=hB.size;have HVr:=hid hv;have HBr:=hid hB;by_cases hlt:j<8
  ·have c1:wr.cell? ⟨b0,j,none⟩=some (.int .u64 (wd h j)):=by
    rw[qk ((hB.block b0 (by omega) (by omega)).trans HH.out),qx hh hlt]
   have c2:wr.cell? ⟨b0+1+1,j,none⟩=some (.int .u64 (wd (zb h IVb j) j)):=(qk hv _).trans (QX (yS _ _ _) (by omega));have f2: ∀o,wr.frozen? ⟨b0+1+1,o,none⟩=false:=(qE hv).2;have hj8:IntKind.i64.wrap ((j:Int)+8)=((j+8:Nat):Int):=by rw[IntKind.wrap_i64];omega
   have hlt16:j+8<16:=by omega
   clear hv hB;go_wp2_with fail
   refine(qaI j hlt _).mono ?_;rintro e2 w2 ⟨rfl,hb2⟩;have hv2:=(hb2.block (b0+1+1) (by simp;omega)).trans (block_setCell HVr.out _);rw[qR]at hv2;have HB2:=hid ((HBr.out.set j _).trans (But.of_below (b:=b0+1+1) hb2));have c3:w2.cell? ⟨b0+1+1,j+8,none⟩=some (.int .u64 (wd ((zb h IVb j).set j (wd h j)) (j+8))):=(qk hv2 _).trans (QX (n:=16) (by simp[yS]) (by omega));have f3: ∀o,w2.frozen? ⟨b0+1+1,o,none⟩=false:=(qE hv2).2;have HV2:=hid hv2;clear hv2 hb2 c1 c2 f2;go_wp2
   exact⟨⟨j+1,rfl,by omega,by rw[zb,←qR];exact block_setCell HV2.out _,HB2.out.set _ _⟩,by simp[intOf];omega⟩
  ·obtain rfl:j=8:=by omega
   have hv4:wr.heap[b0+1+1]? =some (.cells #[.int .u64 (wd h 0),.int .u64 (wd h 1),.int .u64 (wd h 2),.int .u64 (wd h 3),.int .u64 (wd h 4),.int .u64 (wd h 5),.int .u64 (wd h 6),.int .u64 (wd h 7),.int .u64 7640891576956012808,.int .u64 13503953896175478587,.int .u64 4354685564936845355,.int .u64 11912009170470909681,.int .u64 5840696475078001361,.int .u64 11170449401992604703,.int .u64 2270897969802886507,.int .u64 6620516959819538809] 181 (0,0)):=hv;have HV4:=hid hv4;have HR4:=hid ((hB.block (b0+1) (by omega) (by omega)).trans HR.out);have HB4:=hid (HB.out.trans (hB.below (by omega) HB.out.size));obtain⟨cv,fv⟩:=qE hv4;clear hv hB hv4 HVr HBr HV HR HB HH;go_upto_region 9 with(fail)
   refine qj ?_;intro W5 hW;have hv5:W5.heap[b0+1+1]? =some (.cells #[.int .u64 (wd h 0),.int .u64 (wd h 1),.int .u64 (wd h 2),.int .u64 (wd h 3),.int .u64 (wd h 4),.int .u64 (wd h 5),.int .u64 (wd h 6),.int .u64 (wd h 7),.int .u64 7640891576956012808,.int .u64 13503953896175478587,.int .u64 4354685564936845355,.int .u64 11912009170470909681,.int .u64 (bits .xor .u64 5840696475078001361 lo),.int .u64 (bits .xor .u64 11170449401992604703 hi),.int .u64 2270897969802886507,.int .u64 6620516959819538809] 181 (0,0)):=by
    rw[hW];exact block_setCell (i:=13) (block_setCell (i:=12) HV4.out _) _
   have hr5:W5.heap[b0+1]? =some (.cells #[.int .u64 0,.int .u64 0,.int .u64 0,.int .u64 0,.int .u64 0,.int .u64 0,.int .u64 0,.int .u64 0,.int .u64 0,.int .u64 0,.int .u64 0,.int .u64 0,.int .u64 0,.int .u64 0,.int .u64 0,.int .u64 0] 181 (0,0)):=by
    rw[hW];exact(Below.heap_setCell _ _ _ _ (by simp)).trans ((Below.heap_setCell _ _ _ _ (by simp)).trans HR4.out)
   have hB5:Below w.heap.size w W5:=by
    rw[hW];exact(HB4.out.setCell (by simp;omega) _).setCell (by simp;omega) _
   clear hW HV4 HR4 HB4 cv fv;have hs5:=(Ai hv5).1;obtain⟨cv,fv⟩:=qE hv5;have HV:=hid hv5;have HR:=hid hr5;have HB:=hid hB5;clear hv5 hr5 hB5
   cases last<;>cases node
   ·skip
    go_upto_region 13 with(fail)
    refine qj ?_;intro W6 hW;have hv6:W6.heap[b0+1+1]? =some (.cells #[.int .u64 (wd h 0),.int .u64 (wd h 1),.int .u64 (wd h 2),.int .u64 (wd h 3),.int .u64 (wd h 4),.int .u64 (wd h 5),.int .u64 (wd h 6),.int .u64 (wd h 7),.int .u64 7640891576956012808,.int .u64 13503953896175478587,.int .u64 4354685564936845355,.int .u64 11912009170470909681,.int .u64 (bits .xor .u64 5840696475078001361 lo),.int .u64 (bits .xor .u64 11170449401992604703 hi),.int .u64 2270897969802886507,.int .u64 6620516959819538809] 181 (0,0)):=by
     rw[hW];exact HV.out
    have hr6:W6.heap[b0+1]? =some (.cells #[.int .u64 0,.int .u64 0,.int .u64 0,.int .u64 0,.int .u64 0,.int .u64 0,.int .u64 0,.int .u64 0,.int .u64 0,.int .u64 0,.int .u64 0,.int .u64 0,.int .u64 0,.int .u64 0,.int .u64 0,.int .u64 0] 181 (0,0)):=by
     rw[hW];exact HR.out
    have hB6:Below w.heap.size w W6:=by
     rw[hW];exact HB.out
    clear hW HV HR HB cv fv;apply wp_region_lit
    refine wpList_load_row rfl 181 _ rfl (b0+1+1) rfl _ _ _ _ hv6 Tryz.underlying181 rfl (by kernel_rfl) ?_;refine wpList_store_row rfl 181 _ _ rfl (b0+1) _ rfl rfl 181 _ hr6 (by kernel_rfl) (by kernel_rfl) (by kernel_rfl) ?_;simp only[Act.put,Ls];go_wp2_with fail
    exact Bp (results_cell_row rfl _ _ _ _ _ _ _ rfl (setRow_heap _ _ _ _ _ _ hr6) Tryz.underlying181 rfl (by kernel_rfl)) rfl ⟨rfl,below_setRow (hB6.mono (by omega)) (by omega) _⟩
   ·skip
    go_upto_region 13 with(fail)
    refine qj ?_;intro W6 hW;have hv6:W6.heap[b0+1+1]? =some (.cells #[.int .u64 (wd h 0),.int .u64 (wd h 1),.int .u64 (wd h 2),.int .u64 (wd h 3),.int .u64 (wd h 4),.int .u64 (wd h 5),.int .u64 (wd h 6),.int .u64 (wd h 7),.int .u64 7640891576956012808,.int .u64 13503953896175478587,.int .u64 4354685564936845355,.int .u64 11912009170470909681,.int .u64 (bits .xor .u64 5840696475078001361 lo),.int .u64 (bits .xor .u64 11170449401992604703 hi),.int .u64 2270897969802886507,.int .u64 (bits .xor .u64 (IntKind.max .u64) 6620516959819538809)] 181 (0,0)):=by
     rw[hW];exact(block_setCell (i:=15) HV.out _)
    have hr6:W6.heap[b0+1]? =some (.cells #[.int .u64 0,.int .u64 0,.int .u64 0,.int .u64 0,.int .u64 0,.int .u64 0,.int .u64 0,.int .u64 0,.int .u64 0,.int .u64 0,.int .u64 0,.int .u64 0,.int .u64 0,.int .u64 0,.int .u64 0,.int .u64 0] 181 (0,0)):=by
     rw[hW];exact((Below.heap_setCell _ _ _ _ (by simp)).trans HR.out)
    have hB6:Below w.heap.size w W6:=by
     rw[hW];exact(HB.out.setCell (by simp;omega) _)
    clear hW HV HR HB cv fv;apply wp_region_lit
    refine wpList_load_row rfl 181 _ rfl (b0+1+1) rfl _ _ _ _ hv6 Tryz.underlying181 rfl (by kernel_rfl) ?_;refine wpList_store_row rfl 181 _ _ rfl (b0+1) _ rfl rfl 181 _ hr6 (by kernel_rfl) (by kernel_rfl) (by kernel_rfl) ?_;simp only[Act.put,Ls];go_wp2_with fail
    exact Bp (results_cell_row rfl _ _ _ _ _ _ _ rfl (setRow_heap _ _ _ _ _ _ hr6) Tryz.underlying181 rfl (by kernel_rfl)) rfl ⟨rfl,below_setRow (hB6.mono (by omega)) (by omega) _⟩
   ·skip
    go_upto_region 13 with(fail)
    refine qj ?_;intro W6 hW;have hv6:W6.heap[b0+1+1]? =some (.cells #[.int .u64 (wd h 0),.int .u64 (wd h 1),.int .u64 (wd h 2),.int .u64 (wd h 3),.int .u64 (wd h 4),.int .u64 (wd h 5),.int .u64 (wd h 6),.int .u64 (wd h 7),.int .u64 7640891576956012808,.int .u64 13503953896175478587,.int .u64 4354685564936845355,.int .u64 11912009170470909681,.int .u64 (bits .xor .u64 5840696475078001361 lo),.int .u64 (bits .xor .u64 11170449401992604703 hi),.int .u64 (bits .xor .u64 (IntKind.max .u64) 2270897969802886507),.int .u64 6620516959819538809] 181 (0,0)):=by
     rw[hW];exact(block_setCell (i:=14) HV.out _)
    have hr6:W6.heap[b0+1]? =some (.cells #[.int .u64 0,.int .u64 0,.int .u64 0,.int .u64 0,.int .u64 0,.int .u64 0,.int .u64 0,.int .u64 0,.int .u64 0,.int .u64 0,.int .u64 0,.int .u64 0,.int .u64 0,.int .u64 0,.int .u64 0,.int .u64 0] 181 (0,0)):=by
     rw[hW];exact((Below.heap_setCell _ _ _ _ (by simp)).trans HR.out)
    have hB6:Below w.heap.size w W6:=by
     rw[hW];exact(HB.out.setCell (by simp;omega) _)
    clear hW HV HR HB cv fv;apply wp_region_lit
    refine wpList_load_row rfl 181 _ rfl (b0+1+1) rfl _ _ _ _ hv6 Tryz.underlying181 rfl (by kernel_rfl) ?_;refine wpList_store_row rfl 181 _ _ rfl (b0+1) _ rfl rfl 181 _ hr6 (by kernel_rfl) (by kernel_rfl) (by kernel_rfl) ?_;simp only[Act.put,Ls];go_wp2_with fail
    exact Bp (results_cell_row rfl _ _ _ _ _ _ _ rfl (setRow_heap _ _ _ _ _ _ hr6) Tryz.underlying181 rfl (by kernel_rfl)) rfl ⟨rfl,below_setRow (hB6.mono (by omega)) (by omega) _⟩
   ·skip
    go_upto_region 13 with(fail)
    refine qj ?_;intro W6 hW;have hv6:W6.heap[b0+1+1]? =some (.cells #[.int .u64 (wd h 0),.int .u64 (wd h 1),.int .u64 (wd h 2),.int .u64 (wd h 3),.int .u64 (wd h 4),.int .u64 (wd h 5),.int .u64 (wd h 6),.int .u64 (wd h 7),.int .u64 7640891576956012808,.int .u64 13503953896175478587,.int .u64 4354685564936845355,.int .u64 11912009170470909681,.int .u64 (bits .xor .u64 5840696475078001361 lo),.int .u64 (bits .xor .u64 11170449401992604703 hi),.int .u64 (bits .xor .u64 (IntKind.max .u64) 2270897969802886507),.int .u64 (bits .xor .u64 (IntKind.max .u64) 6620516959819538809)] 181 (0,0)):=by
     rw[hW];exact(block_setCell (i:=15) (block_setCell (i:=14) HV.out _) _)
    have hr6:W6.heap[b0+1]? =some (.cells #[.int .u64 0,.int .u64 0,.int .u64 0,.int .u64 0,.int .u64 0,.int .u64 0,.int .u64 0,.int .u64 0,.int .u64 0,.int .u64 0,.int .u64 0,.int .u64 0,.int .u64 0,.int .u64 0,.int .u64 0,.int .u64 0] 181 (0,0)):=by
     rw[hW];exact((Below.heap_setCell _ _ _ _ (by simp)).trans ((Below.heap_setCell _ _ _ _ (by simp)).trans HR.out))
    have hB6:Below w.heap.size w W6:=by
     rw[hW];exact((HB.out.setCell (by simp;omega) _).setCell (by simp;omega) _)
    clear hW HV HR HB cv fv;apply wp_region_lit
    refine wpList_load_row rfl 181 _ rfl (b0+1+1) rfl _ _ _ _ hv6 Tryz.underlying181 rfl (by kernel_rfl) ?_;refine wpList_store_row rfl 181 _ _ rfl (b0+1) _ rfl rfl 181 _ hr6 (by kernel_rfl) (by kernel_rfl) (by kernel_rfl) ?_;simp only[Act.put,Ls];go_wp2_with fail
    exact Bp (results_cell_row rfl _ _ _ _ _ _ _ rfl (setRow_heap _ _ _ _ _ _ hr6) Tryz.underlying181 rfl (by kernel_rfl)) rfl ⟨rfl,below_setRow (hB6.mono (by omega)) (by omega) _⟩
theorem qc2 (h:List Int)(hh:Words 32 8 h)(c:Int)(hc0:0≤c)(hc1:c<18446744073709551616)(last node:Bool)(w:World):Calls Tryz.prog 163 #[.agg (qh .u32 h),.int .u64 c,.bool last,.bool node] w fun e w'=>e= .returned (.agg (qh .u32 (yM .u32 IVs h (c%4294967296) (c/4294967296) last node)))∧Below w.heap.size w w':=by
 obtain⟨b0,hb0⟩:=Ex w.heap.size;go_enter Tryz.func163,Tryz.ntmps163
 go_wp2_with fail
 refine(JK _).mono ?_;rintro e1 w1 ⟨rfl,hb1⟩;have hh0:=(hb1.block b0 (by simp;omega)).trans ((Bh _ _ _ (by simp;omega)).trans ((Bh _ _ _ (by simp;omega)).trans (qc _ _ hb0.symm)));have hr0:=(hb1.block (b0+1) (by simp;omega)).trans ((Bh _ _ _ (by simp;omega)).trans (qc _ _ (by simp;omega)));have hv0:=(hb1.block (b0+1+1) (by simp;omega)).trans (qc _ _ (by simp;omega));have hB0:Below w.heap.size w w1:=((((Below.refl w.heap.size w).alloc Nl _).alloc (by simp) _).alloc (by simp;omega) _).trans (hb1.mono (by simp;omega));have hs0:b0+3≤w1.heap.size:=by have:=hb1.size;simp at this;omega
 clear hb1;go_wp2_with fail
 refine qj ?_;intro W hW;obtain⟨bi,hbi⟩:=Ex w1.heap.size;have hh1:W.heap[b0]? =some (.cells (qh .u32 h) 160 (0,0)):=by
  rw[hW];exact(Bh _ _ _ (by omega)).trans hh0
 have hr1:W.heap[b0+1]? =some (.cells #[.int .u32 0,.int .u32 0,.int .u32 0,.int .u32 0,.int .u32 0,.int .u32 0,.int .u32 0,.int .u32 0,.int .u32 0,.int .u32 0,.int .u32 0,.int .u32 0,.int .u32 0,.int .u32 0,.int .u32 0,.int .u32 0] 198 (0,0)):=by
  rw[hW];exact(Bh _ _ _ (by omega)).trans hr0
 have hv1:W.heap[b0+1+1]? =some (.cells (qh .u32 (zb h IVs 0)) 198 (0,0)):=by
  rw[hW];exact(Bh _ _ _ (by omega)).trans hv0
 have hi1:W.heap[bi]? =some (.cells (qh .u32 IVs) 160 (0,0)):=by
  rw[hW];exact qc _ _ hbi.symm
 have hB1:Below w.heap.size w W:=by
  rw[hW];exact hB0.alloc (by omega) _
 have hs1:b0+1+1<W.heap.size:=(Ai hv1).1;have hs2:bi<W.heap.size:=(Ai hi1).1;rw[hbi];have hb3:b0+3≤bi:=by omega
 clear hW hh0 hr0 hv0 hB0 hs0 hbi;have HH:=hid hh1;have HR:=hid hr1;have HV:=hid hv1;have HI:=hid hi1;have HB:=hid hB1;clear hh1 hr1 hv1 hB1 hi1;go_loopw [11] (fun i wr=> ∃j:Nat,i= .int .i64 j∧j≤8∧wr.heap[b0+1+1]? =some (.cells (qh .u32 (zb h IVs j)) 198 (0,0))∧But (b0+1+1) W wr) (fun i _=>8 - (intOf i).toNat)
 case atStart=>exact⟨0,rfl,Nat.zero_le _,HV.out,But.refl _ _⟩
 case round=>
  obtain⟨j,rfl,hj,hv,hB⟩:=hrel;have hsz:=hB.size;have HVr:=hid hv;have HBr:=hid hB;by_cases hlt:j<8
  ·have c1:wr.cell? ⟨b0,j,none⟩=some (.int .u32 (wd h j)):=by
    rw[qk ((hB.block b0 (by omega) (by omega)).trans HH.out),qx hh hlt]
   have c4:wr.cell? ⟨bi,j,none⟩=some (.int .u32 (wd IVs j)):=by
    rw[qk ((hB.block bi (by omega) (by omega)).trans HI.out),qx jU hlt]
   have c2:wr.cell? ⟨b0+1+1,j,none⟩=some (.int .u32 (wd (zb h IVs j) j)):=(qk hv _).trans (QX (yS _ _ _) (by omega));have c3:wr.cell? ⟨b0+1+1,j+8,none⟩=some (.int .u32 (wd (zb h IVs j) (j+8))):=(qk hv _).trans (QX (yS _ _ _) (by omega));have f2: ∀o,wr.frozen? ⟨b0+1+1,o,none⟩=false:=(qE hv).2;have hj8:IntKind.i64.wrap ((j:Int)+8)=((j+8:Nat):Int):=by rw[IntKind.wrap_i64];omega
   have hlt16:j+8<16:=by omega
   have hnb:(bi=b0+1+1)=False:=by simp;omega
   clear hv hB;go_wp2
   exact⟨⟨j+1,rfl,by omega,by rw[zb,←qR,←qR];exact block_setCell (block_setCell HVr.out _) _,(HBr.out.set _ _).set _ _⟩,by simp[intOf];omega⟩
  ·obtain rfl:j=8:=by omega
   have hv4:wr.heap[b0+1+1]? =some (.cells #[.int .u32 (wd h 0),.int .u32 (wd h 1),.int .u32 (wd h 2),.int .u32 (wd h 3),.int .u32 (wd h 4),.int .u32 (wd h 5),.int .u32 (wd h 6),.int .u32 (wd h 7),.int .u32 1779033703,.int .u32 3144134277,.int .u32 1013904242,.int .u32 2773480762,.int .u32 1359893119,.int .u32 2600822924,.int .u32 528734635,.int .u32 1541459225] 198 (0,0)):=hv;have HV4:=hid hv4;have HR4:=hid ((hB.block (b0+1) (by omega) (by omega)).trans HR.out);have HB4:=hid (HB.out.trans (hB.below (by omega) HB.out.size));obtain⟨cv,fv⟩:=qE hv4;clear hv hB hv4 HVr HBr HV HR HB HH HI;go_upto_region 10 with(fail)
   refine qj ?_;intro W5 hW;have hv5:W5.heap[b0+1+1]? =some (.cells #[.int .u32 (wd h 0),.int .u32 (wd h 1),.int .u32 (wd h 2),.int .u32 (wd h 3),.int .u32 (wd h 4),.int .u32 (wd h 5),.int .u32 (wd h 6),.int .u32 (wd h 7),.int .u32 1779033703,.int .u32 3144134277,.int .u32 1013904242,.int .u32 2773480762,.int .u32 (bits .xor .u32 1359893119 (c%4294967296)),.int .u32 (bits .xor .u32 2600822924 (c/4294967296)),.int .u32 528734635,.int .u32 1541459225] 198 (0,0)):=by
    rw[hW];exact block_setCell (i:=13) (block_setCell (i:=12) HV4.out _) _
   have hr5:W5.heap[b0+1]? =some (.cells #[.int .u32 0,.int .u32 0,.int .u32 0,.int .u32 0,.int .u32 0,.int .u32 0,.int .u32 0,.int .u32 0,.int .u32 0,.int .u32 0,.int .u32 0,.int .u32 0,.int .u32 0,.int .u32 0,.int .u32 0,.int .u32 0] 198 (0,0)):=by
    rw[hW];exact(Below.heap_setCell _ _ _ _ (by simp)).trans ((Below.heap_setCell _ _ _ _ (by simp)).trans HR4.out)
   have hB5:Below w.heap.size w W5:=by
    rw[hW];exact(HB4.out.setCell (by simp;omega) _).setCell (by simp;omega) _
   clear hW HV4 HR4 HB4 cv fv;have hs5:=(Ai hv5).1;obtain⟨cv,fv⟩:=qE hv5;have HV:=hid hv5;have HR:=hid hr5;have HB:=hid hB5;clear hv5 hr5 hB5
   cases last<;>cases node
   ·skip
    have HE_false_false:=hid (show Ending.returned (.agg #[.int .u32 (wd h 0),.int .u32 (wd h 1),.int .u32 (wd h 2),.int .u32 (wd h 3),.int .u32 (wd h 4),.int .u32 (wd h 5),.int .u32 (wd h 6),.int .u32 (wd h 7),.int .u32 1779033703,.int .u32 3144134277,.int .u32 1013904242,.int .u32 2773480762,.int .u32 (bits .xor .u32 1359893119 (c%4294967296)),.int .u32 (bits .xor .u32 2600822924 (c/4294967296)),.int .u32 528734635,.int .u32 1541459225])= .returned (.agg (qh .u32 (yM .u32 IVs h (c%4294967296) (c/4294967296) false false))) by simp only[yM,IVs,qh];rfl);go_upto_region 14 with(fail)
    refine qj ?_;intro W6 hW;have hv6:W6.heap[b0+1+1]? =some (.cells #[.int .u32 (wd h 0),.int .u32 (wd h 1),.int .u32 (wd h 2),.int .u32 (wd h 3),.int .u32 (wd h 4),.int .u32 (wd h 5),.int .u32 (wd h 6),.int .u32 (wd h 7),.int .u32 1779033703,.int .u32 3144134277,.int .u32 1013904242,.int .u32 2773480762,.int .u32 (bits .xor .u32 1359893119 (c%4294967296)),.int .u32 (bits .xor .u32 2600822924 (c/4294967296)),.int .u32 528734635,.int .u32 1541459225] 198 (0,0)):=by
     rw[hW];exact HV.out
    have hr6:W6.heap[b0+1]? =some (.cells #[.int .u32 0,.int .u32 0,.int .u32 0,.int .u32 0,.int .u32 0,.int .u32 0,.int .u32 0,.int .u32 0,.int .u32 0,.int .u32 0,.int .u32 0,.int .u32 0,.int .u32 0,.int .u32 0,.int .u32 0,.int .u32 0] 198 (0,0)):=by
     rw[hW];exact HR.out
    have hB6:Below w.heap.size w W6:=by
     rw[hW];exact HB.out
    clear hW HV HR HB cv fv;apply wp_region_lit
    refine wpList_load_row rfl 198 _ rfl (b0+1+1) rfl _ _ _ _ hv6 Tryz.underlying198 rfl (by kernel_rfl) ?_;refine wpList_store_row rfl 198 _ _ rfl (b0+1) _ rfl rfl 198 _ hr6 (by kernel_rfl) (by kernel_rfl) (by kernel_rfl) ?_;simp only[Act.put,Ls];go_wp2_with fail
    exact Bp (results_cell_row rfl _ _ _ _ _ _ _ rfl (setRow_heap _ _ _ _ _ _ hr6) Tryz.underlying198 rfl (by kernel_rfl)) rfl ⟨HE_false_false.out,below_setRow (hB6.mono (by omega)) (by omega) _⟩
   ·skip
    have HE_false_true:=hid (show Ending.returned (.agg #[.int .u32 (wd h 0),.int .u32 (wd h 1),.int .u32 (wd h 2),.int .u32 (wd h 3),.int .u32 (wd h 4),.int .u32 (wd h 5),.int .u32 (wd h 6),.int .u32 (wd h 7),.int .u32 1779033703,.int .u32 3144134277,.int .u32 1013904242,.int .u32 2773480762,.int .u32 (bits .xor .u32 1359893119 (c%4294967296)),.int .u32 (bits .xor .u32 2600822924 (c/4294967296)),.int .u32 528734635,.int .u32 (bits .xor .u32 1541459225 4294967295)])= .returned (.agg (qh .u32 (yM .u32 IVs h (c%4294967296) (c/4294967296) false true))) by simp only[yM,IVs,qh];rw[Yg .u32 1541459225 4294967295];rfl);go_upto_region 14 with(fail)
    refine qj ?_;intro W6 hW;have hv6:W6.heap[b0+1+1]? =some (.cells #[.int .u32 (wd h 0),.int .u32 (wd h 1),.int .u32 (wd h 2),.int .u32 (wd h 3),.int .u32 (wd h 4),.int .u32 (wd h 5),.int .u32 (wd h 6),.int .u32 (wd h 7),.int .u32 1779033703,.int .u32 3144134277,.int .u32 1013904242,.int .u32 2773480762,.int .u32 (bits .xor .u32 1359893119 (c%4294967296)),.int .u32 (bits .xor .u32 2600822924 (c/4294967296)),.int .u32 528734635,.int .u32 (bits .xor .u32 1541459225 4294967295)] 198 (0,0)):=by
     rw[hW];exact(block_setCell (i:=15) HV.out _)
    have hr6:W6.heap[b0+1]? =some (.cells #[.int .u32 0,.int .u32 0,.int .u32 0,.int .u32 0,.int .u32 0,.int .u32 0,.int .u32 0,.int .u32 0,.int .u32 0,.int .u32 0,.int .u32 0,.int .u32 0,.int .u32 0,.int .u32 0,.int .u32 0,.int .u32 0] 198 (0,0)):=by
     rw[hW];exact((Below.heap_setCell _ _ _ _ (by simp)).trans HR.out)
    have hB6:Below w.heap.size w W6:=by
     rw[hW];exact(HB.out.setCell (by simp;omega) _)
    clear hW HV HR HB cv fv;apply wp_region_lit
    refine wpList_load_row rfl 198 _ rfl (b0+1+1) rfl _ _ _ _ hv6 Tryz.underlying198 rfl (by kernel_rfl) ?_;refine wpList_store_row rfl 198 _ _ rfl (b0+1) _ rfl rfl 198 _ hr6 (by kernel_rfl) (by kernel_rfl) (by kernel_rfl) ?_;simp only[Act.put,Ls];go_wp2_with fail
    exact Bp (results_cell_row rfl _ _ _ _ _ _ _ rfl (setRow_heap _ _ _ _ _ _ hr6) Tryz.underlying198 rfl (by kernel_rfl)) rfl ⟨HE_false_true.out,below_setRow (hB6.mono (by omega)) (by omega) _⟩
   ·skip
    have HE_true_false:=hid (show Ending.returned (.agg #[.int .u32 (wd h 0),.int .u32 (wd h 1),.int .u32 (wd h 2),.int .u32 (wd h 3),.int .u32 (wd h 4),.int .u32 (wd h 5),.int .u32 (wd h 6),.int .u32 (wd h 7),.int .u32 1779033703,.int .u32 3144134277,.int .u32 1013904242,.int .u32 2773480762,.int .u32 (bits .xor .u32 1359893119 (c%4294967296)),.int .u32 (bits .xor .u32 2600822924 (c/4294967296)),.int .u32 (bits .xor .u32 528734635 4294967295),.int .u32 1541459225])= .returned (.agg (qh .u32 (yM .u32 IVs h (c%4294967296) (c/4294967296) true false))) by simp only[yM,IVs,qh];rw[Yg .u32 528734635 4294967295];rfl);go_upto_region 14 with(fail)
    refine qj ?_;intro W6 hW;have hv6:W6.heap[b0+1+1]? =some (.cells #[.int .u32 (wd h 0),.int .u32 (wd h 1),.int .u32 (wd h 2),.int .u32 (wd h 3),.int .u32 (wd h 4),.int .u32 (wd h 5),.int .u32 (wd h 6),.int .u32 (wd h 7),.int .u32 1779033703,.int .u32 3144134277,.int .u32 1013904242,.int .u32 2773480762,.int .u32 (bits .xor .u32 1359893119 (c%4294967296)),.int .u32 (bits .xor .u32 2600822924 (c/4294967296)),.int .u32 (bits .xor .u32 528734635 4294967295),.int .u32 1541459225] 198 (0,0)):=by
     rw[hW];exact(block_setCell (i:=14) HV.out _)
    have hr6:W6.heap[b0+1]? =some (.cells #[.int .u32 0,.int .u32 0,.int .u32 0,.int .u32 0,.int .u32 0,.int .u32 0,.int .u32 0,.int .u32 0,.int .u32 0,.int .u32 0,.int .u32 0,.int .u32 0,.int .u32 0,.int .u32 0,.int .u32 0,.int .u32 0] 198 (0,0)):=by
     rw[hW];exact((Below.heap_setCell _ _ _ _ (by simp)).trans HR.out)
    have hB6:Below w.heap.size w W6:=by
     rw[hW];exact(HB.out.setCell (by simp;omega) _)
    clear hW HV HR HB cv fv;apply wp_region_lit
    refine wpList_load_row rfl 198 _ rfl (b0+1+1) rfl _ _ _ _ hv6 Tryz.underlying198 rfl (by kernel_rfl) ?_;refine wpList_store_row rfl 198 _ _ rfl (b0+1) _ rfl rfl 198 _ hr6 (by kernel_rfl) (by kernel_rfl) (by kernel_rfl) ?_;simp only[Act.put,Ls];go_wp2_with fail
    exact Bp (results_cell_row rfl _ _ _ _ _ _ _ rfl (setRow_heap _ _ _ _ _ _ hr6) Tryz.underlying198 rfl (by kernel_rfl)) rfl ⟨HE_true_false.out,below_setRow (hB6.mono (by omega)) (by omega) _⟩
   ·skip
    have HE_true_true:=hid (show Ending.returned (.agg #[.int .u32 (wd h 0),.int .u32 (wd h 1),.int .u32 (wd h 2),.int .u32 (wd h 3),.int .u32 (wd h 4),.int .u32 (wd h 5),.int .u32 (wd h 6),.int .u32 (wd h 7),.int .u32 1779033703,.int .u32 3144134277,.int .u32 1013904242,.int .u32 2773480762,.int .u32 (bits .xor .u32 1359893119 (c%4294967296)),.int .u32 (bits .xor .u32 2600822924 (c/4294967296)),.int .u32 (bits .xor .u32 528734635 4294967295),.int .u32 (bits .xor .u32 1541459225 4294967295)])= .returned (.agg (qh .u32 (yM .u32 IVs h (c%4294967296) (c/4294967296) true true))) by simp only[yM,IVs,qh];rw[Yg .u32 528734635 4294967295,Yg .u32 1541459225 4294967295];rfl);go_upto_region 14 with(fail)
    refine qj ?_;intro W6 hW;have hv6:W6.heap[b0+1+1]? =some (.cells #[.int .u32 (wd h 0),.int .u32 (wd h 1),.int .u32 (wd h 2),.int .u32 (wd h 3),.int .u32 (wd h 4),.int .u32 (wd h 5),.int .u32 (wd h 6),.int .u32 (wd h 7),.int .u32 1779033703,.int .u32 3144134277,.int .u32 1013904242,.int .u32 2773480762,.int .u32 (bits .xor .u32 1359893119 (c%4294967296)),.int .u32 (bits .xor .u32 2600822924 (c/4294967296)),.int .u32 (bits .xor .u32 528734635 4294967295),.int .u32 (bits .xor .u32 1541459225 4294967295)] 198 (0,0)):=by
     rw[hW];exact(block_setCell (i:=15) (block_setCell (i:=14) HV.out _) _)
    have hr6:W6.heap[b0+1]? =some (.cells #[.int .u32 0,.int .u32 0,.int .u32 0,.int .u32 0,.int .u32 0,.int .u32 0,.int .u32 0,.int .u32 0,.int .u32 0,.int .u32 0,.int .u32 0,.int .u32 0,.int .u32 0,.int .u32 0,.int .u32 0,.int .u32 0] 198 (0,0)):=by
     rw[hW];exact((Below.heap_setCell _ _ _ _ (by simp)).trans ((Below.heap_setCell _ _ _ _ (by simp)).trans HR.out))
    have hB6:Below w.heap.size w W6:=by
     rw[hW];exact((HB.out.setCell (by simp;omega) _).setCell (by simp;omega) _)
    clear hW HV HR HB cv fv;apply wp_region_lit
    refine wpList_load_row rfl 198 _ rfl (b0+1+1) rfl _ _ _ _ hv6 Tryz.underlying198 rfl (by kernel_rfl) ?_;refine wpList_store_row rfl 198 _ _ rfl (b0+1) _ rfl rfl 198 _ hr6 (by kernel_rfl) (by kernel_rfl) (by kernel_rfl) ?_;simp only[Act.put,Ls];go_wp2_with fail
    exact Bp (results_cell_row rfl _ _ _ _ _ _ _ rfl (setRow_heap _ _ _ _ _ _ hr6) Tryz.underlying198 rfl (by kernel_rfl)) rfl ⟨HE_true_true.out,below_setRow (hB6.mono (by omega)) (by omega) _⟩
theorem Yx (k:IntKind)(hk: ∀n:Int,0≤n→n<2^k.bits→k.wrap n=n)(a b:Int):bits .xor k a b=((BitVec.ofInt k.bits a^^^BitVec.ofInt k.bits b).toNat:Int):=by
 simp only[bits];refine hk _ (by omega) ?_;have:=(BitVec.ofInt k.bits a^^^BitVec.ofInt k.bits b).isLt
 exact_mod_cast this
theorem Za (k:IntKind)(hk: ∀n:Int,0≤n→n<2^k.bits→k.wrap n=n)(a b c:Int):bits .xor k (bits .xor k a b) c=bits .xor k a (bits .xor k b c):=by
 have e: ∀x:BitVec k.bits,BitVec.ofInt k.bits (x.toNat:Int)=x:=fun x=>by simp
 rw[Yx k hk (bits .xor k a b) c,Yx k hk a b,Yx k hk a (bits .xor k b c),Yx k hk b c,e,e,BitVec.xor_assoc]
theorem qbH (a b c:Int):bits .xor .u64 (bits .xor .u64 a b) c=bits .xor .u64 a (bits .xor .u64 b c):=Za .u64 wraps_u64 a b c
theorem qbI (a b c:Int):bits .xor .u32 (bits .xor .u32 a b) c=bits .xor .u32 a (bits .xor .u32 b c):=Za .u32 jv a b c
theorem qeY (h V:List Int)(hh':Words 32 8 h)(hV:Words 32 16 V)(w:World):Calls Tryz.prog 165 #[.agg (qh .u32 h),.agg (qh .u32 V)] w fun e w'=>e= .returned (.agg (qh .u32 (yR .u32 h V 8)))∧Below w.heap.size w w':=by
 obtain⟨b0,hb0⟩:=Ex w.heap.size;go_enter Tryz.func165,Tryz.ntmps165
 go_wp2_with fail
 refine qj ?_;intro w3 hW;have hh3:w3.heap[b0]? =some (.cells (qh .u32 h) 160 (0,0)):=by
  rw[hW];exact(Bh _ _ _ (by simp;omega)).trans ((Bh _ _ _ (by simp;omega)).trans (qc _ _ hb0.symm))
 have hv3:w3.heap[b0+1]? =some (.cells (qh .u32 V) 198 (0,0)):=by
  rw[hW];exact(Bh _ _ _ (by simp;omega)).trans (qc _ _ (by simp;omega))
 have hr3:w3.heap[b0+1+1]? =some (.cells #[.int .u32 0,.int .u32 0,.int .u32 0,.int .u32 0,.int .u32 0,.int .u32 0,.int .u32 0,.int .u32 0] 160 (0,0)):=by
  rw[hW];exact qc _ _ (by simp;omega)
 have hB3:Below w.heap.size w w3:=by
  rw[hW];exact(((Below.refl w.heap.size w).alloc Nl _).alloc (by simp) _).alloc (by simp;omega) _
 clear hW;have HH3:=hid hh3;have HV3:=hid hv3;have HR3:=hid hr3;have HB3:=hid hB3;have hs3:b0+1<w3.heap.size:=(Ai hv3).1;have hsr:b0+1+1<w3.heap.size:=(Ai hr3).1;clear hh3 hv3 hr3 hB3;go_loopw [5] (fun i w4=> ∃j:Nat,i= .int .i64 j∧j≤8∧w4.heap[b0]? =some (.cells (qh .u32 (yR .u32 h V j)) 160 (0,0))∧But (b0) w3 w4) (fun i _=>8 - (intOf i).toNat)
 case atStart=>exact⟨0,rfl,Nat.zero_le _,HH3.out,But.refl _ _⟩
 case round=>
  obtain⟨j,rfl,hj,hh4,hB4⟩:=hrel;have hs4:=hB4.size;have hv4:=(hB4.block (b0+1) hs3 (by omega)).trans HV3.out;have q1:b0+1<wr.heap.size:=by omega
  have q2:b0<wr.heap.size:=by omega
  have HH4:=hid hh4;have HB4:=hid hB4;by_cases hlt:j<8
  ·have c1:wr.cell? ⟨b0,j,none⟩=some (.int .u32 (wd h j)):=by
    rw[qk hh4,qx (Qx (fun z=>IntKind.wrap_u32 z) hh' j) hlt,YF j j Nl]
   have c2:wr.cell? ⟨b0+1,j,none⟩=some (.int .u32 (wd V j)):=(qk hv4 _).trans (qx hV (by omega));have c3:wr.cell? ⟨b0+1,j+8,none⟩=some (.int .u32 (wd V (j+8))):=(qk hv4 _).trans (qx hV (by omega));have f1: ∀o,wr.frozen? ⟨b0,o,none⟩=false:=(qE hh4).2;have hj8:IntKind.i64.wrap ((j:Int)+8)=((j+8:Nat):Int):=by rw[IntKind.wrap_i64];omega
   have hlt16:j+8<16:=by omega
   clear hh4 hv4 hB4;go_wp2_with fail
   refine qi (by dsimp only[List.dropLast]) (by rfl) (by rfl) (by kernel_rfl) (by kernel_rfl) (by kernel_rfl) (by kernel_rfl) ?_;repeat(go_big_quiet_step (fail))
   refine wpQuiet_nil ?_;intro _ hw';obtain⟨n1,rfl⟩:=hw';go_wp2_with fail
   exact⟨⟨j+1,rfl,by omega,by rw[yR,←qbI,←qR];exact block_setCell (w:=wr.drewN n1) HH4.out _,(HB4.out.drewN n1).set _ _⟩,by simp[intOf];omega⟩
  ·obtain rfl:j=8:=by omega
   have hr5:=(hB4.block (b0+1+1) hsr (by omega)).trans HR3.out;have hF:=Qx (k:= .u32) (fun z=>IntKind.wrap_u32 z) (v:=V) hh' 8;have HB5:=hid (HB3.out.trans (HB4.out.below (by omega) HB3.out.size));clear hh4 hv4 hB4;go_upto_region 5 with(fail)
   apply wp_region_lit
   refine wpList_load_row rfl 160 _ rfl (b0) rfl _ _ _ _ HH4.out Tryz.underlying160 rfl (by rw[qd,hF.1];kernel_rfl) ?_;refine wpList_store_row rfl 160 _ _ rfl (b0+1+1) (qh .u32 (yR .u32 h V 8)) rfl rfl 160 _ hr5 (by rw[qd,hF.1];kernel_rfl) (by rw[qd,hF.1];rfl) qv ?_;simp only[Act.put,Ls];go_wp2_with fail
   exact Bp (results_cell_row rfl _ _ _ _ _ _ _ rfl (setRow_heap _ _ _ _ _ _ hr5) Tryz.underlying160 rfl (by rw[qd,hF.1];kernel_rfl)) rfl ⟨rfl,below_setRow (HB5.out.mono (by omega)) (by omega) _⟩
theorem qgl (h M:List Int)(hh:Words 64 8 h)(hM:Words 64 16 M)(lo hi:Int)(last node:Bool)(w:World):Calls Tryz.prog 148 #[.agg (qh .u64 h),.agg (qh .u64 M),.int .u64 lo,.int .u64 hi,.bool last,.bool node] w fun e w'=>e= .returned (.agg (qh .u64 (YW mixBig IVb 12 h M lo hi last node)))∧Below w.heap.size w w':=by
 obtain⟨b0,hb0⟩:=Ex w.heap.size;have HC:=hid (qd7 h hh lo hi last node);have hW0:=YT (k:= .u64) (fun z=>IntKind.wrap_u64 z) qaZ hh lo hi last node;unfold YW;rw[show mixBig.k= .u64 from rfl];generalize yM .u64 IVb h lo hi last node=L0 at*;have hh':=hh;rw[Y0 hh]at HC⊢;go_enter Tryz.func148,Tryz.ntmps148
 go_wp2_with fail
 refine(HC.out _).mono ?_;rintro e1 w1 ⟨rfl,hb1⟩;have hh1:=(hb1.block b0 (by simp;omega)).trans ((Bh _ _ _ (by simp;omega)).trans ((Bh _ _ _ (by simp;omega)).trans (qc _ _ hb0.symm)));have hm1:=(hb1.block (b0+1) (by simp;omega)).trans ((Bh _ _ _ (by simp;omega)).trans (qc _ _ (by simp;omega)));have hr1:=(hb1.block (b0+1+1) (by simp;omega)).trans (qc _ _ (by simp;omega));have hs1:b0+3≤w1.heap.size:=by have:=hb1.size;simp at this;omega
 have hB1:Below w.heap.size w w1:=((((Below.refl w.heap.size w).alloc Nl _).alloc (by simp) _).alloc (by simp;omega) _).trans (hb1.mono (by simp;omega));clear hb1 HC;go_wp2_with ((with_reducible show wpList _ _ _ (Oper.mk none (Op.store 181 _ _) _ _ _ _::_) _ _);refine wpList_store_row rfl 181 _ _ rfl w1.heap.size (qh .u64 L0) rfl rfl 181 _ (Wn _ _) (by rw[qd,hW0.1];kernel_rfl) (by rw[qd,hW0.1];rfl) qv ?_)
 clear hh;refine qj ?_;intro W hW;obtain⟨bv,hbv⟩:=Ex w1.heap.size;have hh:W.heap[b0]? =some (.cells #[.int .u64 (wd h 0),.int .u64 (wd h 1),.int .u64 (wd h 2),.int .u64 (wd h 3),.int .u64 (wd h 4),.int .u64 (wd h 5),.int .u64 (wd h 6),.int .u64 (wd h 7)] 150 (0,0)):=by
  rw[hW];exact(setRow_other (w1.alloc _) _ _ _ (by omega)).trans ((Bh _ _ _ (by omega)).trans hh1)
 have hm:W.heap[b0+1]? =some (.cells (qh .u64 M) 181 (0,0)):=by
  rw[hW];exact(setRow_other (w1.alloc _) _ _ _ (by omega)).trans ((Bh _ _ _ (by omega)).trans hm1)
 have hr:W.heap[b0+1+1]? =some (.cells #[.int .u64 0,.int .u64 0,.int .u64 0,.int .u64 0,.int .u64 0,.int .u64 0,.int .u64 0,.int .u64 0] 150 (0,0)):=by
  rw[hW];exact(setRow_other (w1.alloc _) _ _ _ (by omega)).trans ((Bh _ _ _ (by omega)).trans hr1)
 have hv:W.heap[bv]? =some (.cells (qh .u64 L0) 181 (0,0)):=by
  rw[hW,←hbv];exact setRow_heap _ _ _ _ _ _ (Wn _ _)
 have hB:Below w.heap.size w W:=by
  rw[hW];exact below_setRow (hB1.alloc (by omega) _) (by omega) _
 rw[←Y0 hh']at hh;rw[hbv];have hbb:b0+3≤bv:=by omega
 clear hW hh1 hm1 hr1 hs1 hB1 hbv;have HH:=hid hh;have HM:=hid hm;have HR:=hid hr;have HV:=hid hv;have HB:=hid hB;have hbs:bv<W.heap.size:=(Ai hv).1;clear hh hm hr hv hB;go_loopw [14] (fun i wr=> ∃j:Nat,i= .int .i64 j∧j≤12∧wr.heap[bv]? =some (.cells (qh .u64 (mixBig.rounds L0 M j)) 181 (0,0))∧But bv W wr) (fun i _=>12 - (intOf i).toNat)
 case atStart=>exact⟨0,rfl,Nat.zero_le _,HV.out,But.refl _ _⟩
 case round=>
  obtain⟨j,rfl,hj,hv,hB⟩:=hrel;have hm:=(hB.block (b0+1) (by omega) (by omega)).trans HM.out;have HVr:=hid hv;have HMr:=hid hm;have HBr:=hid hB;clear hv hm hB;by_cases hlt:j<12
  ·have hL1:=QG Qs hW0 (M:=M) j;obtain⟨R1,hR1⟩:=Ex (mixBig.rounds L0 M j);rw[hR1]at hL1 HVr;have HR1:=hid hR1;clear hR1;go_wp2_with (first
    | ((with_reducible show wpList _ _ _ (Oper.mk (some 27) _ _ _ _ _::_) _ _);refine wpList_load_row rfl 181 _ rfl bv rfl _ _ _ _ HVr.out Tryz.underlying181 rfl (by rw[qd,hL1.1];kernel_rfl) ?_)
    | ((with_reducible show wpList _ _ _ (Oper.mk (some 28) _ _ _ _ _::_) _ _);refine wpList_load_row rfl 181 _ rfl (b0+1) rfl _ _ _ _ HMr.out Tryz.underlying181 rfl (by rw[qd,hM.1];kernel_rfl) ?_))
   refine(qcV R1 M hL1 hM j (by omega) _).mono ?_;rintro e2 w2 ⟨rfl,hB2⟩
   have hv2:=(hB2.block bv (Ai HVr.out).1).trans HVr.out;have HB2:=hid (HBr.out.trans (But.of_below (b:=bv) hB2));clear hB2;have hL2:Words 64 16 (mixBig.round R1 M j):=qA Qs hL1 (M:=M) j 8;go_wp2_with ((with_reducible show wpList _ _ _ (Oper.mk none (Op.store 181 _ _) _ _ _ _::_) _ _);refine wpList_store_row rfl 181 _ _ rfl bv (qh .u64 (mixBig.round R1 M j)) rfl rfl 181 _ hv2 (by rw[qd,hL2.1];kernel_rfl) (by simp only[qd,hL2.1,hL1.1]) qv ?_)
   exact⟨⟨j+1,rfl,by omega,by rw[show mixBig.rounds L0 M (j+1)=mixBig.round (mixBig.rounds L0 M j) M j from rfl,HR1.out];exact setRow_heap _ _ _ _ _ _ hv2,HB2.out.setRow _⟩,by simp[intOf];omega⟩
  ·obtain rfl:j=12:=by omega
   have hV:=QG Qs hW0 (M:=M) 12;obtain⟨V,hVe⟩:=Ex (mixBig.rounds L0 M 12);have HVe:=hid (show Ending.returned (.agg (qh .u64 (yR .u64 h V 8)))= .returned (.agg (qh .u64 (yR .u64 h (mixBig.rounds L0 M 12) 8))) by rw[hVe]);rw[hVe]at hV HVr;clear hVe;have hh3:=(HBr.out.block b0 (by omega) (by omega)).trans HH.out;have hr3:=(HBr.out.block (b0+1+1) (by omega) (by omega)).trans HR.out;have hB3:Below w.heap.size w wr:=HB.out.trans (HBr.out.below (by omega) HB.out.size);have HH3:=hid hh3;have HV3:=hid HVr.out;have HR3:=hid hr3;have HB3:=hid hB3;have hs3:bv<wr.heap.size:=(Ai HVr.out).1;have hsr:b0+1+1<wr.heap.size:=(Ai hr3).1;clear hh3 hr3 hB3 HVr HMr HBr HH HR HM HV HB;generalize wr=w3 at*;go_wp2_with fail
   go_loopw [15] (fun i w4=> ∃j:Nat,i= .int .i64 j∧j≤8∧w4.heap[b0]? =some (.cells (qh .u64 (yR .u64 h V j)) 150 (0,0))∧But (b0) w3 w4) (fun i _=>8 - (intOf i).toNat)
   case atStart=>exact⟨0,rfl,Nat.zero_le _,HH3.out,But.refl _ _⟩
   case round=>
    obtain⟨j,rfl,hj,hh4,hB4⟩:=hrel;have hs4:=hB4.size;have hv4:=(hB4.block (bv) hs3 (by omega)).trans HV3.out;have q1:bv<wr.heap.size:=by omega
    have q2:b0<wr.heap.size:=by omega
    have HH4:=hid hh4;have HB4:=hid hB4;by_cases hlt:j<8
    ·have c1:wr.cell? ⟨b0,j,none⟩=some (.int .u64 (wd h j)):=by
      rw[qk hh4,qx (Qx (fun z=>IntKind.wrap_u64 z) hh' j) hlt,YF j j Nl]
     have c2:wr.cell? ⟨bv,j,none⟩=some (.int .u64 (wd V j)):=(qk hv4 _).trans (qx hV (by omega));have c3:wr.cell? ⟨bv,j+8,none⟩=some (.int .u64 (wd V (j+8))):=(qk hv4 _).trans (qx hV (by omega));have f1: ∀o,wr.frozen? ⟨b0,o,none⟩=false:=(qE hh4).2;have hj8:IntKind.i64.wrap ((j:Int)+8)=((j+8:Nat):Int):=by rw[IntKind.wrap_i64];omega
     have hlt16:j+8<16:=by omega
     clear hh4 hv4 hB4;go_wp2_with fail
     refine qi (by dsimp only[List.dropLast]) (by rfl) (by rfl) (by kernel_rfl) (by kernel_rfl) (by kernel_rfl) (by kernel_rfl) ?_;repeat(go_big_quiet_step (fail))
     refine wpQuiet_nil ?_;intro _ hw';obtain⟨n1,rfl⟩:=hw';go_wp2_with fail
     exact⟨⟨j+1,rfl,by omega,by rw[yR,←qbH,←qR];exact block_setCell (w:=wr.drewN n1) HH4.out _,(HB4.out.drewN n1).set _ _⟩,by simp[intOf];omega⟩
    ·obtain rfl:j=8:=by omega
     have hr5:=(hB4.block (b0+1+1) hsr (by omega)).trans HR3.out;have hF:=Qx (k:= .u64) (fun z=>IntKind.wrap_u64 z) (v:=V) hh' 8;have HB5:=hid (HB3.out.trans (HB4.out.below (by omega) HB3.out.size));clear hh4 hv4 hB4;go_upto_region 10 with(fail)
     apply wp_region_lit
     refine wpList_load_row rfl 150 _ rfl (b0) rfl _ _ _ _ HH4.out Tryz.underlying150 rfl (by rw[qd,hF.1];kernel_rfl) ?_;refine wpList_store_row rfl 150 _ _ rfl (b0+1+1) (qh .u64 (yR .u64 h V 8)) rfl rfl 150 _ hr5 (by rw[qd,hF.1];kernel_rfl) (by rw[qd,hF.1];rfl) qv ?_;simp only[Act.put,Ls];go_wp2_with fail
     exact Bp (results_cell_row rfl _ _ _ _ _ _ _ rfl (setRow_heap _ _ _ _ _ _ hr5) Tryz.underlying150 rfl (by rw[qd,hF.1];kernel_rfl)) rfl ⟨HVe.out,below_setRow (HB5.out.mono (by omega)) (by omega) _⟩
theorem qgm (h M:List Int)(hh:Words 32 8 h)(hM:Words 32 16 M)(c:Int)(hc0:0≤c)(hc1:c<18446744073709551616)(last node:Bool)(w:World):Calls Tryz.prog 150 #[.agg (qh .u32 h),.agg (qh .u32 M),.int .u64 c,.bool last,.bool node] w fun e w'=>e= .returned (.agg (qh .u32 (YW mixSmall IVs 10 h M (c%4294967296) (c/4294967296) last node)))∧Below w.heap.size w w':=by
 obtain⟨b0,hb0⟩:=Ex w.heap.size;have HC:=hid (qc2 h hh c hc0 hc1 last node);have hW0:=YT (k:= .u32) (fun z=>IntKind.wrap_u32 z) jU hh (c%4294967296) (c/4294967296) last node;unfold YW;rw[show mixSmall.k= .u32 from rfl];generalize yM .u32 IVs h (c%4294967296) (c/4294967296) last node=L0 at*;have hh':=hh;rw[Y0 hh]at HC⊢;go_enter Tryz.func150,Tryz.ntmps150
 go_wp2_with fail
 refine(HC.out _).mono ?_;rintro e1 w1 ⟨rfl,hb1⟩;have hh1:=(hb1.block b0 (by simp;omega)).trans ((Bh _ _ _ (by simp;omega)).trans ((Bh _ _ _ (by simp;omega)).trans (qc _ _ hb0.symm)));have hm1:=(hb1.block (b0+1) (by simp;omega)).trans ((Bh _ _ _ (by simp;omega)).trans (qc _ _ (by simp;omega)));have hr1:=(hb1.block (b0+1+1) (by simp;omega)).trans (qc _ _ (by simp;omega));have hs1:b0+3≤w1.heap.size:=by have:=hb1.size;simp at this;omega
 have hB1:Below w.heap.size w w1:=((((Below.refl w.heap.size w).alloc Nl _).alloc (by simp) _).alloc (by simp;omega) _).trans (hb1.mono (by simp;omega));clear hb1 HC;go_wp2_with ((with_reducible show wpList _ _ _ (Oper.mk none (Op.store 198 _ _) _ _ _ _::_) _ _);refine wpList_store_row rfl 198 _ _ rfl w1.heap.size (qh .u32 L0) rfl rfl 198 _ (Wn _ _) (by rw[qd,hW0.1];kernel_rfl) (by rw[qd,hW0.1];rfl) qv ?_)
 clear hh;refine qj ?_;intro W hW;obtain⟨bv,hbv⟩:=Ex w1.heap.size;have hh:W.heap[b0]? =some (.cells #[.int .u32 (wd h 0),.int .u32 (wd h 1),.int .u32 (wd h 2),.int .u32 (wd h 3),.int .u32 (wd h 4),.int .u32 (wd h 5),.int .u32 (wd h 6),.int .u32 (wd h 7)] 160 (0,0)):=by
  rw[hW];exact(setRow_other (w1.alloc _) _ _ _ (by omega)).trans ((Bh _ _ _ (by omega)).trans hh1)
 have hm:W.heap[b0+1]? =some (.cells (qh .u32 M) 198 (0,0)):=by
  rw[hW];exact(setRow_other (w1.alloc _) _ _ _ (by omega)).trans ((Bh _ _ _ (by omega)).trans hm1)
 have hr:W.heap[b0+1+1]? =some (.cells #[.int .u32 0,.int .u32 0,.int .u32 0,.int .u32 0,.int .u32 0,.int .u32 0,.int .u32 0,.int .u32 0] 160 (0,0)):=by
  rw[hW];exact(setRow_other (w1.alloc _) _ _ _ (by omega)).trans ((Bh _ _ _ (by omega)).trans hr1)
 have hv:W.heap[bv]? =some (.cells (qh .u32 L0) 198 (0,0)):=by
  rw[hW,←hbv];exact setRow_heap _ _ _ _ _ _ (Wn _ _)
 have hB:Below w.heap.size w W:=by
  rw[hW];exact below_setRow (hB1.alloc (by omega) _) (by omega) _
 rw[←Y0 hh']at hh;rw[hbv];have hbb:b0+3≤bv:=by omega
 clear hW hh1 hm1 hr1 hs1 hB1 hbv;have HH:=hid hh;have HM:=hid hm;have HR:=hid hr;have HV:=hid hv;have HB:=hid hB;have hbs:bv<W.heap.size:=(Ai hv).1;clear hh hm hr hv hB;go_loopw [12] (fun i wr=> ∃j:Nat,i= .int .i64 j∧j≤10∧wr.heap[bv]? =some (.cells (qh .u32 (mixSmall.rounds L0 M j)) 198 (0,0))∧But bv W wr) (fun i _=>10 - (intOf i).toNat)
 case atStart=>exact⟨0,rfl,Nat.zero_le _,HV.out,But.refl _ _⟩
 case round=>
  obtain⟨j,rfl,hj,hv,hB⟩:=hrel;have hm:=(hB.block (b0+1) (by omega) (by omega)).trans HM.out;have HVr:=hid hv;have HMr:=hid hm;have HBr:=hid hB;clear hv hm hB;by_cases hlt:j<10
  ·have hL1:=QG qY hW0 (M:=M) j;obtain⟨R1,hR1⟩:=Ex (mixSmall.rounds L0 M j);rw[hR1]at hL1 HVr;have HR1:=hid hR1;clear hR1;go_wp2_with (first
    | ((with_reducible show wpList _ _ _ (Oper.mk (some 23) _ _ _ _ _::_) _ _);refine wpList_load_row rfl 198 _ rfl bv rfl _ _ _ _ HVr.out Tryz.underlying198 rfl (by rw[qd,hL1.1];kernel_rfl) ?_)
    | ((with_reducible show wpList _ _ _ (Oper.mk (some 24) _ _ _ _ _::_) _ _);refine wpList_load_row rfl 198 _ rfl (b0+1) rfl _ _ _ _ HMr.out Tryz.underlying198 rfl (by rw[qd,hM.1];kernel_rfl) ?_))
   refine(qcW R1 M hL1 hM j (by omega) _).mono ?_;rintro e2 w2 ⟨rfl,hB2⟩
   have hv2:=(hB2.block bv (Ai HVr.out).1).trans HVr.out;have HB2:=hid (HBr.out.trans (But.of_below (b:=bv) hB2));clear hB2;have hL2:Words 32 16 (mixSmall.round R1 M j):=qA qY hL1 (M:=M) j 8;go_wp2_with ((with_reducible show wpList _ _ _ (Oper.mk none (Op.store 198 _ _) _ _ _ _::_) _ _);refine wpList_store_row rfl 198 _ _ rfl bv (qh .u32 (mixSmall.round R1 M j)) rfl rfl 198 _ hv2 (by rw[qd,hL2.1];kernel_rfl) (by simp only[qd,hL2.1,hL1.1]) qv ?_)
   exact⟨⟨j+1,rfl,by omega,by rw[show mixSmall.rounds L0 M (j+1)=mixSmall.round (mixSmall.rounds L0 M j) M j from rfl,HR1.out];exact setRow_heap _ _ _ _ _ _ hv2,HB2.out.setRow _⟩,by simp[intOf];omega⟩
  ·obtain rfl:j=10:=by omega
   have hV:=QG qY hW0 (M:=M) 10;obtain⟨V,hVe⟩:=Ex (mixSmall.rounds L0 M 10);have HVe:=hid (show Ending.returned (.agg (qh .u32 (yR .u32 h V 8)))= .returned (.agg (qh .u32 (yR .u32 h (mixSmall.rounds L0 M 10) 8))) by rw[hVe]);rw[hVe]at hV HVr;clear hVe;have hh3:=(HBr.out.block b0 (by omega) (by omega)).trans HH.out;have hr3:=(HBr.out.block (b0+1+1) (by omega) (by omega)).trans HR.out;have hB3:Below w.heap.size w wr:=HB.out.trans (HBr.out.below (by omega) HB.out.size);have HH3:=hid hh3;have HV3:=hid HVr.out;have HR3:=hid hr3;have HB3:=hid hB3;have hs3:bv<wr.heap.size:=(Ai HVr.out).1;have hsr:b0+1+1<wr.heap.size:=(Ai hr3).1;clear hh3 hr3 hB3 HVr HMr HBr HH HR HM HV HB;have hF:=Qx (k:= .u32) (fun z=>IntKind.wrap_u32 z) (v:=V) hh' 8;go_wp2_with (first
    | ((with_reducible show wpList _ _ _ (Oper.mk (some 29) _ _ _ _ _::_) _ _);refine wpList_load_row rfl 160 _ rfl b0 rfl _ _ _ _ HH3.out Tryz.underlying160 rfl (by rw[qd,hh'.1];kernel_rfl) ?_)
    | ((with_reducible show wpList _ _ _ (Oper.mk (some 30) _ _ _ _ _::_) _ _);refine wpList_load_row rfl 198 _ rfl bv rfl _ _ _ _ HV3.out Tryz.underlying198 rfl (by rw[qd,hV.1];kernel_rfl) ?_))
   refine(qeY h V hh' hV _).mono ?_;rintro e6 w6 ⟨rfl,hb6⟩
   have hr6:=(hb6.block (b0+1+1) (by omega)).trans HR3.out;have HB6:=hid (HB3.out.trans (hb6.mono HB3.out.size));clear hb6;go_wp2_with ((with_reducible show wpList _ _ _ (Oper.mk none (Op.store 160 _ _) _ _ _ _::_) _ _);refine wpList_store_row rfl 160 _ _ rfl (b0+1+1) (qh .u32 (yR .u32 h V 8)) rfl rfl 160 _ hr6 (by rw[qd,hF.1];kernel_rfl) (by rw[qd,hF.1];rfl) qv ?_)
   exact Bp (results_cell_row rfl _ _ _ _ _ _ _ rfl (setRow_heap _ _ _ _ _ _ hr6) Tryz.underlying160 rfl (by rw[qd,hF.1];kernel_rfl)) rfl ⟨HVe.out,below_setRow (HB6.out.mono (by omega)) (by omega) _⟩
end Go.Proofs.YtdndeffmlhaipaaGreatDoor

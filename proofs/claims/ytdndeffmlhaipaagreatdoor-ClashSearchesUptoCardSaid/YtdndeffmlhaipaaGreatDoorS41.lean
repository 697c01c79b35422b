/- The digest of a message, by both sides; a tree with bytes of its own. No condition. -/
import Derived.Test.YtdndeffmlhaipaaGreatDoorS39
import Derived.Test.YtdndeffmlhaipaaGreatDoorS40
import Derived.Test.YtdndeffmlhaipaaGreatDoorS31
set_option linter.all false
set_option maxRecDepth 100000
set_option maxHeartbeats 8000000
namespace Go.Proofs.YtdndeffmlhaipaaGreatDoor
open Go.ChangeShapes Go.WideShapes Go.ChangeAt Go.RowKit Go.Joins Go.Shelf Go.Maps
open Go.Lib (hid)
attribute [local go_sem] Oper.semAt_some
def TreeV.digZ (t:TreeV)(kz z1 z2 zs:List Int):List Int:=if t.validE=0 then qK (t.lvlZ kz z1 z2 (t.leafZ kz z1 z2 zs) ((t.rowsOf zs.length).length - 1)) 0 else []
theorem jN {t:TreeV}{total:Nat}(h:t.validE=0)(hn:total≤4194304):t.err total=0:=by
 unfold TreeV.err;rw[if_neg (by simp[h]),if_neg ?_];rintro⟨-,h2⟩
 have hl:1≤t.ln∨t.ln=0:=by omega
 rcases hl with hl|hl
 ·have:=Yf (n:=total) hl;omega
 ·rw[hl]at h2;unfold Qc at h2;split at h2<;>simp at h2
theorem ZV {t:TreeV}(h:t.validE=0)(hl:0≤t.l∧t.l≤4294967295)(kz z1 z2 zs:List Int):(t.leafZ kz z1 z2 zs).length=lvs zs.length t.ln:=by
 have hln:1≤t.ln:=by
  have:=(qq h).2.2.2.2.2.2.2.2.1
  unfold TreeV.ln;omega
 rw[←zY zs hln];exact qr ..
def qdQ (t:TreeV)(kz z1 z2 zs:List Int)(w:World)(e:Ending)(w':World):Prop:=
 ∃u,e= .returned (.tuple #[u,.int .i64 t.validE])∧OwnB w.heap.size w' u (t.digZ kz z1 z2 zs)∧Below w.heap.size w w'
theorem qfl (t:TreeV)(kz z1 z2 zs:List Int)(v:Value)(w:World)(hl:0≤t.l∧t.l≤4294967295)(hk:Hold w (.slice t.ka t.kl t.kc) kz)(hs:Hold w (.slice t.sa t.sl t.sc) z1)(hp:Hold w (.slice t.pa t.pl t.pc) z2)(hv:Hold w v zs)(hn:zs.length≤4194304):
  Calls Tryz.prog 13 #[t.val,v] w fun e w'=>qdQ t kz z1 z2 zs w e w':=by
 by_cases h:t.validE=0
 ·refine(qf4 t kz z1 z2 zs v w ⟨h,hl,hk,hs,hp⟩ hv hn).mono ?_;rintro e w' ⟨u,rfl,⟨R,hR,ho⟩,hb⟩
  have hL:=yg h hl kz z1 z2 zs;have hT:=qbK (jN h hn) kz z1 z2 (ZV h hl kz z1 z2 zs) hL.2.2;rw[Jo hR hT]at ho;exact⟨u,by rw[h],by unfold TreeV.digZ;rw[if_pos h];exact ho,hb⟩
 ·refine(qfk t v w h).mono ?_;rintro e w' ⟨rfl,hb⟩
  exact⟨_,rfl,by unfold TreeV.digZ;rw[if_neg h];exact⟨fun _ h=>by simp at h,.inl ⟨rfl,rfl⟩⟩,hb⟩
theorem Yh (t:TreeV)(w:World):Calls Tryz.prog 24 #[t.val] w fun e w'=>e= .returned (.int .i64 t.validE)∧Below w.heap.size w w':=by
 obtain⟨b0,hb0⟩:=Ex w.heap.size;have HVL:=hid (fun W:World=>Q6 t W);have hbA:Below b0 w (w.alloc (.cells #[.int .i64 t.k,.int .i64 t.d,.int .i64 t.f,.int .i64 t.p,.int .u32 t.l,.int .i64 t.i,.slice t.ka t.kl t.kc,.slice t.sa t.sl t.sc,.slice t.pa t.pl t.pc] 26)):=by rw[←hb0];exact Br.alloc Nl _
 have hrA:=Wn w (.cells #[.int .i64 t.k,.int .i64 t.d,.int .i64 t.f,.int .i64 t.p,.int .u32 t.l,.int .i64 t.i,.slice t.ka t.kl t.kc,.slice t.sa t.sl t.sc,.slice t.pa t.pl t.pc] 26);rw[hb0]at hrA;generalize t.validE=ev at*;unfold TreeV.val at*;go_enter Tryz.func24,Tryz.ntmps24
 go_upto_region 1 with(fail)
 generalize w.alloc (.cells #[.int .i64 t.k,.int .i64 t.d,.int .i64 t.f,.int .i64 t.p,.int .u32 t.l,.int .i64 t.i,.slice t.ka t.kl t.kc,.slice t.sa t.sl t.sc,.slice t.pa t.pl t.pc] 26)=wA at*;go_wp2_with ((with_reducible show wpList _ _ _ (Oper.mk _ (Op.load 26 _) _ _ _ _::_) _ _);refine wpList_load_row rfl 26 _ rfl b0 rfl _ _ _ _ hrA Tryz.underlying26 rfl (by kernel_rfl) ?_)
 refine(HVL.out wA).mono ?_;rintro e w2 ⟨rfl,hb2⟩;have HB2:=hid (hbA.trans (hb2.mono (by have:=(Ai hrA).1;omega)));clear hrA hbA hb2;go_wp2
 go_ret
 exact⟨rfl,by rw[hb0];exact HB2.out⟩
theorem qdh (t:TreeV)(v:Value)(w:World)(h:t.validE≠0):
  Calls Tryz.prog 25 #[t.val,v] w fun e w'=>e= .returned (.tuple #[.slice none 0 0,.int .i64 t.validE])∧Below w.heap.size w w':=by
 obtain⟨b0,hb0⟩:=Ex w.heap.size;have HVL:=hid (fun W:World=>Yh t W);have hbA:Below b0 w (w.alloc (.cells #[.int .i64 t.k,.int .i64 t.d,.int .i64 t.f,.int .i64 t.p,.int .u32 t.l,.int .i64 t.i,.slice t.ka t.kl t.kc,.slice t.sa t.sl t.sc,.slice t.pa t.pl t.pc] 26)):=by rw[←hb0];exact Br.alloc Nl _
 have hrA:=Wn w (.cells #[.int .i64 t.k,.int .i64 t.d,.int .i64 t.f,.int .i64 t.p,.int .u32 t.l,.int .i64 t.i,.slice t.ka t.kl t.kc,.slice t.sa t.sl t.sc,.slice t.pa t.pl t.pc] 26);rw[hb0]at hrA;generalize t.validE=ev at*;have hq:(ev != 0)=true:=by rw[bne_iff_ne];exact h
 clear h;unfold TreeV.val at*;go_enter Tryz.func25,Tryz.ntmps25
 go_upto_region 1 with(fail)
 generalize w.alloc (.cells #[.int .i64 t.k,.int .i64 t.d,.int .i64 t.f,.int .i64 t.p,.int .u32 t.l,.int .i64 t.i,.slice t.ka t.kl t.kc,.slice t.sa t.sl t.sc,.slice t.pa t.pl t.pc] 26)=wA at*;go_wp2_with ((with_reducible show wpList _ _ _ (Oper.mk _ (Op.load 26 _) _ _ _ _::_) _ _);refine wpList_load_row rfl 26 _ rfl b0 rfl _ _ _ _ hrA Tryz.underlying26 rfl (by kernel_rfl) ?_)
 refine(HVL.out wA).mono ?_;rintro e w2 ⟨rfl,hb2⟩;have HB2:=hid (hbA.trans (hb2.mono (by have:=(Ai hrA).1;omega)));clear hrA hbA hb2;go_wp2
 go_ret2
 exact⟨rfl,by rw[hb0];exact HB2.out⟩
theorem qet (t:TreeV)(kz z1 z2 zs:List Int)(v:Value)(w:World)(h:TreeOk t kz z1 z2 w)(hv:Hold w v zs)(hn:zs.length≤4194304):
  Calls Tryz.prog 25 #[t.val,v] w fun e w'=> ∃u,e= .returned (.tuple #[u,.int .i64 0])∧OwnB w.heap.size w' u (qK (t.lvlZ kz z1 z2 (t.leafZ kz z1 z2 zs) ((t.rowsOf zs.length).length - 1)) 0)∧Below w.heap.size w w':=by
 obtain⟨b0,hb0⟩:=Ex w.heap.size;have hvl:=fun W:World=>Yh t W
 simp only[h.v]at hvl;have HVL:=hid hvl;have he:=jN h.v hn;have hLF:=yg h.v h.l kz z1 z2 zs;have hLR:=ZV h.v h.l kz z1 z2 zs;have HLE:=hid (fun(W:World) (hb:Below w.heap.size w W)=>qcc t kz z1 z2 zs v w W h he hv hb hn);have HAB:=hid (fun(W:World) (x:Value) (hx:ListH W x (t.leafZ kz z1 z2 zs)) (hb:Below w.heap.size w W)=>qdx t kz z1 z2 zs.length (t.leafZ kz z1 z2 zs) x w W h he hx hb hLR hLF.2.2 (by have:=hLF.2.1;omega) (by omega));have HLZ:=hid (show t.rowZ kz z1 z2 0 false (yr t.ln zs) (yr t.ln zs).length=t.leafZ kz z1 z2 zs from rfl);generalize t.rowZ kz z1 z2 0 false (yr t.ln zs) (yr t.ln zs).length=RZ at*;generalize t.rowC kz z1 z2 0 false (yr t.ln zs) (yr t.ln zs).length=RC at*;generalize t.lvlsC kz z1 z2 (t.leafZ kz z1 z2 zs) ((t.rowsOf zs.length).length - 1)=LC at*;generalize qK (t.lvlZ kz z1 z2 (t.leafZ kz z1 z2 zs) ((t.rowsOf zs.length).length - 1)) 0=Y at*;obtain⟨va,vc,rfl,hvc1,hvc2⟩:=hv.slice;have hju:IntKind.u64.wrap (zs.length:Int)=(zs.length:Int):=u64_wrap_id _ (by omega) (by omega);have hbA:Below b0 w (w.alloc (.cells #[.int .i64 t.k,.int .i64 t.d,.int .i64 t.f,.int .i64 t.p,.int .u32 t.l,.int .i64 t.i,.slice t.ka t.kl t.kc,.slice t.sa t.sl t.sc,.slice t.pa t.pl t.pc] 26)):=by rw[←hb0];exact Br.alloc Nl _
 have hrA:=Wn w (.cells #[.int .i64 t.k,.int .i64 t.d,.int .i64 t.f,.int .i64 t.p,.int .u32 t.l,.int .i64 t.i,.slice t.ka t.kl t.kc,.slice t.sa t.sl t.sc,.slice t.pa t.pl t.pc] 26);rw[hb0]at hrA;rw[hb0]at HLE HAB;clear h hv hvl he hLF hLR;unfold TreeV.val at*;go_enter Tryz.func25,Tryz.ntmps25
 go_upto_region 1 with(fail)
 generalize w.alloc (.cells #[.int .i64 t.k,.int .i64 t.d,.int .i64 t.f,.int .i64 t.p,.int .u32 t.l,.int .i64 t.i,.slice t.ka t.kl t.kc,.slice t.sa t.sl t.sc,.slice t.pa t.pl t.pc] 26)=wA at*;go_wp2_with ((with_reducible show wpList _ _ _ (Oper.mk _ (Op.load 26 _) _ _ _ _::_) _ _);refine wpList_load_row rfl 26 _ rfl b0 rfl _ _ _ _ hrA Tryz.underlying26 rfl (by kernel_rfl) ?_)
 refine(HVL.out wA).mono ?_;rintro e w2 ⟨rfl,hb2⟩;have hr2:=qe hrA hb2;have hB2:=hbA.trans (hb2.mono (by have:=(Ai hrA).1;omega));have HB2:=hid hB2;clear hrA hbA hb2 hB2;go_wp2_with ((with_reducible show wpList _ _ _ (Oper.mk _ (Op.load 26 _) _ _ _ _::_) _ _);refine wpList_load_row rfl 26 _ rfl b0 rfl _ _ _ _ hr2 Tryz.underlying26 rfl (by kernel_rfl) ?_)
 refine(HLE.out w2 HB2.out).mono ?_;rintro e w3 ⟨cv,u,rfl, -,hu,hb3⟩;have hr3:=qe hr2 hb3;have hbs:=(Ai hr2).1;have HB3:=hid (HB2.out.trans (hb3.mono (by omega)));have HU:=hid hu.hold;clear hb3 hr2 hu;go_wp2_with ((with_reducible show wpList _ _ _ (Oper.mk _ (Op.load 26 _) _ _ _ _::_) _ _);refine wpList_load_row rfl 26 _ rfl b0 rfl _ _ _ _ hr3 Tryz.underlying26 rfl (by kernel_rfl) ?_)
 refine(HAB.out w3 _ (by rw[←HLZ.out];exact HU.out) HB3.out).mono ?_;rintro e w4 ⟨cv2,y,rfl, -,hy,hb4⟩;have hbs3:=(Ai hr3).1;have HB4:=hid (HB3.out.trans (hb4.mono (by omega)));have HY:=hid (hy.le (show b0≤w3.heap.size by omega));clear hb4 hy hr3;go_wp2
 go_ret2
 exact⟨_,rfl,by rw[hb0];exact HY.out,by rw[hb0];exact HB4.out⟩
theorem qdi (t:TreeV)(kz z1 z2 zs:List Int)(v:Value)(w:World)(hl:0≤t.l∧t.l≤4294967295)(hk:Hold w (.slice t.ka t.kl t.kc) kz)(hs:Hold w (.slice t.sa t.sl t.sc) z1)(hp:Hold w (.slice t.pa t.pl t.pc) z2)(hv:Hold w v zs)(hn:zs.length≤4194304):
  Calls Tryz.prog 25 #[t.val,v] w fun e w'=>qdQ t kz z1 z2 zs w e w':=by
 by_cases h:t.validE=0
 ·refine(qet t kz z1 z2 zs v w ⟨h,hl,hk,hs,hp⟩ hv hn).mono ?_;rintro e w' ⟨u,rfl,ho,hb⟩
  exact⟨u,by rw[h],by unfold TreeV.digZ;rw[if_pos h];exact ho,hb⟩
 ·refine(qdh t v w h).mono ?_;rintro e w' ⟨rfl,hb⟩
  exact⟨_,rfl,by unfold TreeV.digZ;rw[if_neg h];exact⟨fun _ h=>by simp at h,.inl ⟨rfl,rfl⟩⟩,hb⟩
def TreeV.sw (t:TreeV)(a1:Option Addr)(c1:Nat)(a2:Option Addr)(c2:Nat)(a3:Option Addr)(c3:Nat):TreeV:=⟨t.k,t.d,t.f,t.p,t.l,t.i,a1,t.kl,c1,a2,t.sl,c2,a3,t.pl,c3⟩
theorem ZO (t:TreeV)(a1:Option Addr)(c1:Nat)(a2:Option Addr)(c2:Nat)(a3:Option Addr)(c3:Nat)(kz z1 z2:List Int)(L0:List (List Int)): ∀r,(t.sw a1 c1 a2 c2 a3 c3).lvlZ kz z1 z2 L0 r=t.lvlZ kz z1 z2 L0 r
 | 0=>rfl
 | r+1=>by
  show TreeV.rowZ _ _ _ _ _ (TreeV.rootZ _ _ (TreeV.lvlZ _ _ _ _ _ r).length) (TreeV.upZ _ _ (TreeV.lvlZ _ _ _ _ _ r)) (TreeV.upZ _ _ (TreeV.lvlZ _ _ _ _ _ r)).length=_
  rw[ZO t a1 c1 a2 c2 a3 c3 kz z1 z2 L0 r];rfl
theorem qaA (t:TreeV)(a1:Option Addr)(c1:Nat)(a2:Option Addr)(c2:Nat)(a3:Option Addr)(c3:Nat)(kz z1 z2 zs:List Int):(t.sw a1 c1 a2 c2 a3 c3).digZ kz z1 z2 zs=t.digZ kz z1 z2 zs:=by
 unfold TreeV.digZ;rw[ZO];rfl
def qga (t:TreeV)(kz z1 z2:List Int)(B:Nat)(w:World)(v:Value):Prop:=
 ∃a1 c1 a2 c2 a3 c3,v=(t.sw a1 c1 a2 c2 a3 c3).val∧OwnB B w (.slice a1 t.kl c1) kz∧OwnB B w (.slice a2 t.sl c2) z1∧OwnB B w (.slice a3 t.pl c3) z2
theorem qeE {big:Bool}{bs kz ds:List Int}{la:Bool}{o:Int}(h:1≤o∧o≤(mB big:Nat)):((jq big bs kz la o ds).length:Int)=o:=by
 unfold jq;rw[List.length_take,YS];omega
theorem qaz {t:TreeV}(h:t.validE=0)(rt:Bool):1≤t.outN rt∧t.outN rt≤(mB t.big:Nat):=by
 have hmb:=yU h;obtain⟨-,d1,d2,d3,d4, -⟩:=qq h
 cases rt
 ·show 1≤t.i∧t.i≤_;omega
 ·show 1≤t.d∧t.d≤_;omega
theorem Jp {t:TreeV}(h:t.validE=0)(kz z1 z2:List Int)(row i:Nat)(la rt:Bool)(d:List Int):((t.node kz z1 z2 row i la rt d).length:Int)=t.outN rt:=qeE (qaz h rt)
theorem qab (t:TreeV)(kz z1 z2:List Int)(row:Nat)(rt:Bool)(L:List (List Int)){m i:Nat}(h:i<m):qK (t.rowZ kz z1 z2 row rt L m) i=t.node kz z1 z2 row i (decide (i+1=L.length)) rt (qK L i):=by
 simp[qK,TreeV.rowZ,Lg,h]
theorem qay {t:TreeV}(h:t.validE=0)(kz z1 z2:List Int){L0:List (List Int)}{R:Nat}(hT:t.topAt kz z1 z2 L0 R):(t.lvlZ kz z1 z2 L0 R).length=1∧((qK (t.lvlZ kz z1 z2 L0 R) 0).length:Int)=t.d:=by
 obtain⟨h1,h2, -⟩:=hT;obtain⟨r,rfl⟩: ∃r,R=r+1:=⟨R - 1,by omega⟩;rw[Nat.add_sub_cancel]at h2;have hu:(t.upZ (r+1) (t.lvlZ kz z1 z2 L0 r)).length=1:=by unfold TreeV.upZ;rw[if_pos h2];rfl
 show(t.rowZ _ _ _ _ _ _ _).length=1∧((qK (t.rowZ _ _ _ _ _ _ _) 0).length:Int)=t.d
 rw[qr,qab _ _ _ _ _ _ _ (show 0<(t.upZ (r+1) (t.lvlZ kz z1 z2 L0 r)).length by omega),h2];exact⟨hu,Jp h ..⟩
theorem ZP {t:TreeV}(h:t.validE=0)(hl:0≤t.l∧t.l≤4294967295)(kz z1 z2 zs:List Int)(hn:zs.length≤4194304):((t.digZ kz z1 z2 zs).length:Int)=t.d:=by
 have hL:=yg h hl kz z1 z2 zs;have hT:=qbK (jN h hn) kz z1 z2 (ZV h hl kz z1 z2 zs) hL.2.2;unfold TreeV.digZ;rw[if_pos h];exact(qay h kz z1 z2 hT).2
end Go.Proofs.YtdndeffmlhaipaaGreatDoor

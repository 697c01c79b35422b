/- The digest of a message, by the program. No condition. -/
import Derived.Test.YtdndeffmlhaipaaGreatC34
import Derived.Test.YtdndeffmlhaipaaGreatC28
import Derived.Maps.AppendAt
import Derived.Test.YtdndeffmlhaipaaGreatC35
set_option linter.all false
set_option maxRecDepth 100000
set_option maxHeartbeats 8000000
namespace Go.Proofs.YtdndeffmlhaipaaGreat
open Go.ChangeShapes Go.WideShapes Go.ChangeAt Go.RowKit Go.Joins Go.Shelf Go.Maps
open Go.Lib (hid)
attribute [local go_sem] Oper.semAt_some
def TreeV.leafZ (t:TreeV)(kz z1 z2 zs:List Int):List (List Int):=t.rowZ kz z1 z2 0 false (QP t.ln zs) (QP t.ln zs).length
theorem qY {t:TreeV}(h:t.validE=0)(hl:0≤t.l∧t.l≤4294967295)(kz z1 z2 zs:List Int):t.leafZ kz z1 z2 zs≠[]∧(t.leafZ kz z1 z2 zs).length≤zs.length+1∧ ∀z∈t.leafZ kz z1 z2 zs,z.length≤64:=by
 have hln:1≤t.ln:=by
  have:=(qk h).2.2.2.2.2.2.2.2.1
  unfold TreeV.ln;omega
 have h1:=JB zs hln;have h2:(t.leafZ kz z1 z2 zs).length=(QP t.ln zs).length:=TreeV.rowZ_length ..;exact⟨List.length_pos_iff.1 (by omega),by omega,fun z hz=>Zs _ _ _ _ _ _ _ _ z hz⟩
theorem qeS (t:TreeV)(v:Value)(w:World)(h:t.validE≠0):
  Calls Tryz.prog 85 #[t.val,v] w fun e w'=>e= .returned (.tuple #[.slice none 0 0,.int .i64 t.validE])∧Below w.heap.size w w':=by
 obtain⟨b0,hb0⟩:=Ex w.heap.size;have HVL:=hid (Y7 t);have hbA:Below b0 w (w.alloc (.cells #[.int .i64 t.k,.int .i64 t.d,.int .i64 t.f,.int .i64 t.p,.int .u32 t.l,.int .i64 t.i,.slice t.ka t.kl t.kc,.slice t.sa t.sl t.sc,.slice t.pa t.pl t.pc] 26)):=by rw[←hb0];exact Br.alloc Nl _
 have hrA:=Wn w (.cells #[.int .i64 t.k,.int .i64 t.d,.int .i64 t.f,.int .i64 t.p,.int .u32 t.l,.int .i64 t.i,.slice t.ka t.kl t.kc,.slice t.sa t.sl t.sc,.slice t.pa t.pl t.pc] 26);rw[hb0]at hrA;generalize t.validE=ev at*;have hq:(ev != 0)=true:=by rw[bne_iff_ne];exact h
 clear h;unfold TreeV.val;go_enter Tryz.func85,Tryz.ntmps85
 go_upto_region 1 with(fail)
 generalize w.alloc (.cells #[.int .i64 t.k,.int .i64 t.d,.int .i64 t.f,.int .i64 t.p,.int .u32 t.l,.int .i64 t.i,.slice t.ka t.kl t.kc,.slice t.sa t.sl t.sc,.slice t.pa t.pl t.pc] 26)=wA at*;go_wp2_with ((with_reducible show wpList _ _ _ (Oper.mk _ (Op.load 26 _) _ _ _ _::_) _ _);refine wpList_load_row rfl 26 _ rfl b0 rfl _ _ _ _ hrA Tryz.underlying26 rfl (by kernel_rfl) ?_)
 refine(HVL.out wA).mono ?_;rintro e w2 ⟨rfl,hb2⟩;have HB2:=hid (hbA.trans (hb2.mono (by have:=(Ai hrA).1;omega)));clear hrA hbA hb2;go_wp2
 go_ret2
 exact⟨rfl,by rw[hb0];exact HB2.out⟩
theorem qgX (t:TreeV)(v:Value)(w:World)(h:t.validE≠0):
  Calls Tryz.prog 64 #[t.val,v] w fun e w'=>e= .returned (.tuple #[.slice none 0 0,.int .i64 t.validE])∧Below w.heap.size w w':=by
 obtain⟨b0,hb0⟩:=Ex w.heap.size;have HLV:=hid (fun W:World=>qeS t v W h);have hbA:Below b0 w (w.alloc (.cells #[.int .i64 t.k,.int .i64 t.d,.int .i64 t.f,.int .i64 t.p,.int .u32 t.l,.int .i64 t.i,.slice t.ka t.kl t.kc,.slice t.sa t.sl t.sc,.slice t.pa t.pl t.pc] 26)):=by rw[←hb0];exact Br.alloc Nl _
 have hrA:=Wn w (.cells #[.int .i64 t.k,.int .i64 t.d,.int .i64 t.f,.int .i64 t.p,.int .u32 t.l,.int .i64 t.i,.slice t.ka t.kl t.kc,.slice t.sa t.sl t.sc,.slice t.pa t.pl t.pc] 26);rw[hb0]at hrA;generalize t.validE=ev at*;have hq:(ev != 0)=true:=by rw[bne_iff_ne];exact h
 clear h;unfold TreeV.val;go_enter Tryz.func64,Tryz.ntmps64
 go_upto_region 1 with(fail)
 generalize w.alloc (.cells #[.int .i64 t.k,.int .i64 t.d,.int .i64 t.f,.int .i64 t.p,.int .u32 t.l,.int .i64 t.i,.slice t.ka t.kl t.kc,.slice t.sa t.sl t.sc,.slice t.pa t.pl t.pc] 26)=wA at*;go_wp2_with ((with_reducible show wpList _ _ _ (Oper.mk _ (Op.load 26 _) _ _ _ _::_) _ _);refine wpList_load_row rfl 26 _ rfl b0 rfl _ _ _ _ hrA Tryz.underlying26 rfl (by kernel_rfl) ?_)
 refine(HLV.out wA).mono ?_;rintro e w2 ⟨rfl,hb2⟩;have HB2:=hid (hbA.trans (hb2.mono (by have:=(Ai hrA).1;omega)));clear hrA hbA hb2;go_wp2
 go_ret2
 exact⟨rfl,by rw[hb0];exact HB2.out⟩
theorem qhO (t:TreeV)(kz z1 z2 zs:List Int)(v:Value)(w:World)(h:TreeOk t kz z1 z2 w)(hv:Hold w v zs)(hn:zs.length≤4194304):
  Calls Tryz.prog 64 #[t.val,v] w fun e w'=> ∃u,e= .returned (.tuple #[u,.int .i64 0])∧(∃R,t.topAt kz z1 z2 (t.leafZ kz z1 z2 zs) R∧OwnB w.heap.size w' u (qN (t.lvlZ kz z1 z2 (t.leafZ kz z1 z2 zs) R) 0))∧Below w.heap.size w w':=by
 obtain⟨b0,hb0⟩:=Ex w.heap.size;have hL:=qY h.v h.l kz z1 z2 zs;have HL:=hid hL;have HT:=hid h;have HLV:=hid (fun(W:World) (hb:Below b0 w W)=>qf1 t kz z1 z2 zs v W (h.below (hb0▸hb)) (hv.below (hb0▸hb)) hn);have hbA:Below b0 w (w.alloc (.cells #[.int .i64 t.k,.int .i64 t.d,.int .i64 t.f,.int .i64 t.p,.int .u32 t.l,.int .i64 t.i,.slice t.ka t.kl t.kc,.slice t.sa t.sl t.sc,.slice t.pa t.pl t.pc] 26)):=by rw[←hb0];exact Br.alloc Nl _
 have hrA:=Wn w (.cells #[.int .i64 t.k,.int .i64 t.d,.int .i64 t.f,.int .i64 t.p,.int .u32 t.l,.int .i64 t.i,.slice t.ka t.kl t.kc,.slice t.sa t.sl t.sc,.slice t.pa t.pl t.pc] 26);rw[hb0]at hrA;obtain⟨va,vc,rfl, -, -⟩:=hv.slice;clear h hv hL;unfold TreeV.val;unfold TreeV.leafZ at HL⊢;generalize t.rowZ kz z1 z2 0 false (QP t.ln zs) (QP t.ln zs).length=L0 at*;go_enter Tryz.func64,Tryz.ntmps64
 go_upto_region 1 with(fail)
 generalize w.alloc (.cells #[.int .i64 t.k,.int .i64 t.d,.int .i64 t.f,.int .i64 t.p,.int .u32 t.l,.int .i64 t.i,.slice t.ka t.kl t.kc,.slice t.sa t.sl t.sc,.slice t.pa t.pl t.pc] 26)=wA at*;go_wp2_with ((with_reducible show wpList _ _ _ (Oper.mk _ (Op.load 26 _) _ _ _ _::_) _ _);refine wpList_load_row rfl 26 _ rfl b0 rfl _ _ _ _ hrA Tryz.underlying26 rfl (by kernel_rfl) ?_)
 refine(HLV.out wA hbA).mono ?_;rintro e w2 ⟨lv,rfl,hlo,hb2⟩;have hr2:=qc hrA hb2;have hsA:=(Ai hrA).1;have hB2:Below b0 w w2:=hbA.trans (hb2.mono (by omega));have HF:=hid (qhQ t kz z1 z2 L0 lv w2 (HT.out.below (hb0▸hB2)) hlo.hold HL.out.1 HL.out.2.2 (by have:=HL.out.2.1;omega));obtain⟨la,lc,rfl, -, -, -⟩:=hlo.hold;have HB2:=hid hB2;have hs2:=hb2.size;clear hrA hbA hb2 hB2 hlo HLV;go_wp2_with ((with_reducible show wpList _ _ _ (Oper.mk _ (Op.load 26 _) _ _ _ _::_) _ _);refine wpList_load_row rfl 26 _ rfl b0 rfl _ _ _ _ hr2 Tryz.underlying26 rfl (by kernel_rfl) ?_)
 refine HF.out.mono ?_;rintro e w3 ⟨u,rfl,⟨R,hR,hO⟩,hb3⟩;have HR:=hid hR;have HO:=hid (hO.le (show b0≤w2.heap.size by omega));have HB3:=hid (HB2.out.trans (hb3.mono (by omega)));clear hR hO hb3 hr2;go_wp2
 go_ret2
 try rw[hb0]
 exact⟨_,rfl,⟨R,HR.out,HO.out⟩,HB3.out⟩
theorem Z2 (w:World)(m:Nat):Below w.heap.size w (w.drewN m):=by
 induction m with
 | zero=>exact Below.refl _ _
 | succ m ih=>exact ih.drew
def Zj (m:Nat):List Int:=(List.range m).map fun i=>200+((i%7:Nat):Int)
theorem qek (m:Nat):Zj (m+1)=Zj m++[200+((m%7:Nat):Int)]:=by simp[Zj,List.range_succ]
theorem qcw (m:Nat):(Zj m).length=m:=by simp[Zj]
theorem qcx (m:Nat): ∀z∈Zj m,0≤z∧z≤255:=fun z hz=>by
 obtain⟨i, -,rfl⟩:=List.mem_map.1 hz;have:=Nat.mod_lt i (show 0<7 by omega)
 omega
theorem qhw (W:World)(u:Value)(T:TypeId)(hu:u.oneCell'=true):SrcIs (W.alloc (.cells #[u] T)) (.slice (some ⟨W.heap.size,0,none⟩) 1 1) 1 [u]:=
 ⟨rfl,fun x hx=>by rw[List.mem_singleton.1 hx];exact hu,.inr ⟨_,_,rfl,cell_one_new W u T⟩⟩
def TreeV.digZ (t:TreeV)(kz z1 z2 zs:List Int):List Int:=if t.validE=0 then qN (t.lvlZ kz z1 z2 (t.leafZ kz z1 z2 zs) ((t.rowsOf zs.length).length - 1)) 0 else []
theorem Qz {t:TreeV}{total:Nat}(h:t.validE=0)(hn:total≤4194304):t.err total=0:=by
 unfold TreeV.err;rw[if_neg (by simp[h]),if_neg ?_];rintro⟨-,h2⟩
 have hl:1≤t.ln∨t.ln=0:=by omega
 rcases hl with hl|hl
 ·have:=yX (n:=total) hl;omega
 ·rw[hl]at h2;unfold qL at h2;split at h2<;>simp at h2
theorem yG {t:TreeV}(h:t.validE=0)(hl:0≤t.l∧t.l≤4294967295)(kz z1 z2 zs:List Int):(t.leafZ kz z1 z2 zs).length=lvs zs.length t.ln:=by
 have hln:1≤t.ln:=by
  have:=(qk h).2.2.2.2.2.2.2.2.1
  unfold TreeV.ln;omega
 rw[←ZY zs hln];exact TreeV.rowZ_length ..
def qh7 (t:TreeV)(kz z1 z2 zs:List Int)(w:World)(e:Ending)(w':World):Prop:=
 ∃u,e= .returned (.tuple #[u,.int .i64 t.validE])∧OwnB w.heap.size w' u (t.digZ kz z1 z2 zs)∧Below w.heap.size w w'
theorem Jv (t:TreeV)(kz z1 z2 zs:List Int)(v:Value)(w:World)(hl:0≤t.l∧t.l≤4294967295)(hk:Hold w (.slice t.ka t.kl t.kc) kz)(hs:Hold w (.slice t.sa t.sl t.sc) z1)(hp:Hold w (.slice t.pa t.pl t.pc) z2)(hv:Hold w v zs)(hn:zs.length≤4194304):
  Calls Tryz.prog 64 #[t.val,v] w fun e w'=>qh7 t kz z1 z2 zs w e w':=by
 by_cases h:t.validE=0
 ·refine(qhO t kz z1 z2 zs v w ⟨h,hl,hk,hs,hp⟩ hv hn).mono ?_;rintro e w' ⟨u,rfl,⟨R,hR,ho⟩,hb⟩
  have hL:=qY h hl kz z1 z2 zs;have hT:=Zz (Qz h hn) kz z1 z2 (yG h hl kz z1 z2 zs) hL.2.2;rw[Zr hR hT]at ho;exact⟨u,by rw[h],by unfold TreeV.digZ;rw[if_pos h];exact ho,hb⟩
 ·refine(qgX t v w h).mono ?_;rintro e w' ⟨rfl,hb⟩
  exact⟨_,rfl,by unfold TreeV.digZ;rw[if_neg h];exact⟨fun _ h=>by simp at h,.inl ⟨rfl,rfl⟩⟩,hb⟩
theorem Zw (t:TreeV)(w:World):Calls Tryz.prog 7 #[t.val] w fun e w'=>e= .returned (.int .i64 t.validE)∧Below w.heap.size w w':=by
 obtain⟨b0,hb0⟩:=Ex w.heap.size;have HVL:=hid (fun W:World=>yr t W);have hbA:Below b0 w (w.alloc (.cells #[.int .i64 t.k,.int .i64 t.d,.int .i64 t.f,.int .i64 t.p,.int .u32 t.l,.int .i64 t.i,.slice t.ka t.kl t.kc,.slice t.sa t.sl t.sc,.slice t.pa t.pl t.pc] 26)):=by rw[←hb0];exact Br.alloc Nl _
 have hrA:=Wn w (.cells #[.int .i64 t.k,.int .i64 t.d,.int .i64 t.f,.int .i64 t.p,.int .u32 t.l,.int .i64 t.i,.slice t.ka t.kl t.kc,.slice t.sa t.sl t.sc,.slice t.pa t.pl t.pc] 26);rw[hb0]at hrA;generalize t.validE=ev at*;unfold TreeV.val at*;go_enter Tryz.func7,Tryz.ntmps7
 go_upto_region 1 with(fail)
 generalize w.alloc (.cells #[.int .i64 t.k,.int .i64 t.d,.int .i64 t.f,.int .i64 t.p,.int .u32 t.l,.int .i64 t.i,.slice t.ka t.kl t.kc,.slice t.sa t.sl t.sc,.slice t.pa t.pl t.pc] 26)=wA at*;go_wp2_with ((with_reducible show wpList _ _ _ (Oper.mk _ (Op.load 26 _) _ _ _ _::_) _ _);refine wpList_load_row rfl 26 _ rfl b0 rfl _ _ _ _ hrA Tryz.underlying26 rfl (by kernel_rfl) ?_)
 refine(HVL.out wA).mono ?_;rintro e w2 ⟨rfl,hb2⟩;have HB2:=hid (hbA.trans (hb2.mono (by have:=(Ai hrA).1;omega)));clear hrA hbA hb2;go_wp2
 go_ret
 exact⟨rfl,by rw[hb0];exact HB2.out⟩
theorem qeX (t:TreeV)(v:Value)(w:World)(h:t.validE≠0):
  Calls Tryz.prog 13 #[t.val,v] w fun e w'=>e= .returned (.tuple #[.slice none 0 0,.int .i64 t.validE])∧Below w.heap.size w w':=by
 obtain⟨b0,hb0⟩:=Ex w.heap.size;have HVL:=hid (fun W:World=>Zw t W);have hbA:Below b0 w (w.alloc (.cells #[.int .i64 t.k,.int .i64 t.d,.int .i64 t.f,.int .i64 t.p,.int .u32 t.l,.int .i64 t.i,.slice t.ka t.kl t.kc,.slice t.sa t.sl t.sc,.slice t.pa t.pl t.pc] 26)):=by rw[←hb0];exact Br.alloc Nl _
 have hrA:=Wn w (.cells #[.int .i64 t.k,.int .i64 t.d,.int .i64 t.f,.int .i64 t.p,.int .u32 t.l,.int .i64 t.i,.slice t.ka t.kl t.kc,.slice t.sa t.sl t.sc,.slice t.pa t.pl t.pc] 26);rw[hb0]at hrA;generalize t.validE=ev at*;have hq:(ev != 0)=true:=by rw[bne_iff_ne];exact h
 clear h;unfold TreeV.val at*;go_enter Tryz.func13,Tryz.ntmps13
 go_upto_region 1 with(fail)
 generalize w.alloc (.cells #[.int .i64 t.k,.int .i64 t.d,.int .i64 t.f,.int .i64 t.p,.int .u32 t.l,.int .i64 t.i,.slice t.ka t.kl t.kc,.slice t.sa t.sl t.sc,.slice t.pa t.pl t.pc] 26)=wA at*;go_wp2_with ((with_reducible show wpList _ _ _ (Oper.mk _ (Op.load 26 _) _ _ _ _::_) _ _);refine wpList_load_row rfl 26 _ rfl b0 rfl _ _ _ _ hrA Tryz.underlying26 rfl (by kernel_rfl) ?_)
 refine(HVL.out wA).mono ?_;rintro e w2 ⟨rfl,hb2⟩;have HB2:=hid (hbA.trans (hb2.mono (by have:=(Ai hrA).1;omega)));clear hrA hbA hb2;go_wp2
 go_ret2
 exact⟨rfl,by rw[hb0];exact HB2.out⟩
theorem qf6 (t:TreeV)(kz z1 z2 zs:List Int)(v:Value)(w:World)(h:TreeOk t kz z1 z2 w)(hv:Hold w v zs)(hn:zs.length≤4194304):
  Calls Tryz.prog 13 #[t.val,v] w fun e w'=> ∃u,e= .returned (.tuple #[u,.int .i64 0])∧OwnB w.heap.size w' u (qN (t.lvlZ kz z1 z2 (t.leafZ kz z1 z2 zs) ((t.rowsOf zs.length).length - 1)) 0)∧Below w.heap.size w w':=by
 obtain⟨b0,hb0⟩:=Ex w.heap.size;have hvl:=fun W:World=>Zw t W
 simp only[h.v]at hvl;have HVL:=hid hvl;have he:=Qz h.v hn;have hLF:=qY h.v h.l kz z1 z2 zs;have hLR:=yG h.v h.l kz z1 z2 zs;have HLE:=hid (fun(W:World) (hb:Below w.heap.size w W)=>qam t kz z1 z2 zs v w W h he hv hb hn);have HAB:=hid (fun(W:World) (x:Value) (hx:ListH W x (t.leafZ kz z1 z2 zs)) (hb:Below w.heap.size w W)=>qbt t kz z1 z2 zs.length (t.leafZ kz z1 z2 zs) x w W h he hx hb hLR hLF.2.2 (by have:=hLF.2.1;omega) (by omega));have HLZ:=hid (show t.rowZ kz z1 z2 0 false (QP t.ln zs) (QP t.ln zs).length=t.leafZ kz z1 z2 zs from rfl);generalize t.rowZ kz z1 z2 0 false (QP t.ln zs) (QP t.ln zs).length=RZ at*;generalize t.rowC kz z1 z2 0 false (QP t.ln zs) (QP t.ln zs).length=RC at*;generalize t.lvlsC kz z1 z2 (t.leafZ kz z1 z2 zs) ((t.rowsOf zs.length).length - 1)=LC at*;generalize qN (t.lvlZ kz z1 z2 (t.leafZ kz z1 z2 zs) ((t.rowsOf zs.length).length - 1)) 0=Y at*;obtain⟨va,vc,rfl,hvc1,hvc2⟩:=hv.slice;have hju:IntKind.u64.wrap (zs.length:Int)=(zs.length:Int):=u64_wrap_id _ (by omega) (by omega);have hbA:Below b0 w (w.alloc (.cells #[.int .i64 t.k,.int .i64 t.d,.int .i64 t.f,.int .i64 t.p,.int .u32 t.l,.int .i64 t.i,.slice t.ka t.kl t.kc,.slice t.sa t.sl t.sc,.slice t.pa t.pl t.pc] 26)):=by rw[←hb0];exact Br.alloc Nl _
 have hrA:=Wn w (.cells #[.int .i64 t.k,.int .i64 t.d,.int .i64 t.f,.int .i64 t.p,.int .u32 t.l,.int .i64 t.i,.slice t.ka t.kl t.kc,.slice t.sa t.sl t.sc,.slice t.pa t.pl t.pc] 26);rw[hb0]at hrA;rw[hb0]at HLE HAB;clear h hv hvl he hLF hLR;unfold TreeV.val at*;go_enter Tryz.func13,Tryz.ntmps13
 go_upto_region 1 with(fail)
 generalize w.alloc (.cells #[.int .i64 t.k,.int .i64 t.d,.int .i64 t.f,.int .i64 t.p,.int .u32 t.l,.int .i64 t.i,.slice t.ka t.kl t.kc,.slice t.sa t.sl t.sc,.slice t.pa t.pl t.pc] 26)=wA at*;go_wp2_with ((with_reducible show wpList _ _ _ (Oper.mk _ (Op.load 26 _) _ _ _ _::_) _ _);refine wpList_load_row rfl 26 _ rfl b0 rfl _ _ _ _ hrA Tryz.underlying26 rfl (by kernel_rfl) ?_)
 refine(HVL.out wA).mono ?_;rintro e w2 ⟨rfl,hb2⟩;have hr2:=qc hrA hb2;have hB2:=hbA.trans (hb2.mono (by have:=(Ai hrA).1;omega));have HB2:=hid hB2;clear hrA hbA hb2 hB2;go_wp2_with ((with_reducible show wpList _ _ _ (Oper.mk _ (Op.load 26 _) _ _ _ _::_) _ _);refine wpList_load_row rfl 26 _ rfl b0 rfl _ _ _ _ hr2 Tryz.underlying26 rfl (by kernel_rfl) ?_)
 refine(HLE.out w2 HB2.out).mono ?_;rintro e w3 ⟨cv,u,rfl, -,hu,hb3⟩;have hr3:=qc hr2 hb3;have hbs:=(Ai hr2).1;have HB3:=hid (HB2.out.trans (hb3.mono (by omega)));have HU:=hid hu.hold;clear hb3 hr2 hu;go_wp2_with ((with_reducible show wpList _ _ _ (Oper.mk _ (Op.load 26 _) _ _ _ _::_) _ _);refine wpList_load_row rfl 26 _ rfl b0 rfl _ _ _ _ hr3 Tryz.underlying26 rfl (by kernel_rfl) ?_)
 refine(HAB.out w3 _ (by rw[←HLZ.out];exact HU.out) HB3.out).mono ?_;rintro e w4 ⟨cv2,y,rfl, -,hy,hb4⟩;have hbs3:=(Ai hr3).1;have HB4:=hid (HB3.out.trans (hb4.mono (by omega)));have HY:=hid (hy.le (show b0≤w3.heap.size by omega));clear hb4 hy hr3;go_wp2
 go_ret2
 exact⟨_,rfl,by rw[hb0];exact HY.out,by rw[hb0];exact HB4.out⟩
theorem yI (t:TreeV)(kz z1 z2 zs:List Int)(v:Value)(w:World)(hl:0≤t.l∧t.l≤4294967295)(hk:Hold w (.slice t.ka t.kl t.kc) kz)(hs:Hold w (.slice t.sa t.sl t.sc) z1)(hp:Hold w (.slice t.pa t.pl t.pc) z2)(hv:Hold w v zs)(hn:zs.length≤4194304):
  Calls Tryz.prog 13 #[t.val,v] w fun e w'=>qh7 t kz z1 z2 zs w e w':=by
 by_cases h:t.validE=0
 ·refine(qf6 t kz z1 z2 zs v w ⟨h,hl,hk,hs,hp⟩ hv hn).mono ?_;rintro e w' ⟨u,rfl,ho,hb⟩
  exact⟨u,by rw[h],by unfold TreeV.digZ;rw[if_pos h];exact ho,hb⟩
 ·refine(qeX t v w h).mono ?_;rintro e w' ⟨rfl,hb⟩
  exact⟨_,rfl,by unfold TreeV.digZ;rw[if_neg h];exact⟨fun _ h=>by simp at h,.inl ⟨rfl,rfl⟩⟩,hb⟩
def TreeV.sw (t:TreeV)(a1:Option Addr)(c1:Nat)(a2:Option Addr)(c2:Nat)(a3:Option Addr)(c3:Nat):TreeV:=⟨t.k,t.d,t.f,t.p,t.l,t.i,a1,t.kl,c1,a2,t.sl,c2,a3,t.pl,c3⟩
theorem zQ (t:TreeV)(a1:Option Addr)(c1:Nat)(a2:Option Addr)(c2:Nat)(a3:Option Addr)(c3:Nat)(kz z1 z2:List Int)(L0:List (List Int)): ∀r,(t.sw a1 c1 a2 c2 a3 c3).lvlZ kz z1 z2 L0 r=t.lvlZ kz z1 z2 L0 r
 | 0=>rfl
 | r+1=>by
  show TreeV.rowZ _ _ _ _ _ (TreeV.rootZ _ _ (TreeV.lvlZ _ _ _ _ _ r).length) (TreeV.upZ _ _ (TreeV.lvlZ _ _ _ _ _ r)) (TreeV.upZ _ _ (TreeV.lvlZ _ _ _ _ _ r)).length=_
  rw[zQ t a1 c1 a2 c2 a3 c3 kz z1 z2 L0 r];rfl
theorem jM (t:TreeV)(a1:Option Addr)(c1:Nat)(a2:Option Addr)(c2:Nat)(a3:Option Addr)(c3:Nat)(kz z1 z2 zs:List Int):(t.sw a1 c1 a2 c2 a3 c3).digZ kz z1 z2 zs=t.digZ kz z1 z2 zs:=by
 unfold TreeV.digZ;rw[zQ];rfl
def OwnTree (t:TreeV)(kz z1 z2:List Int)(B:Nat)(w:World)(v:Value):Prop:=
 ∃a1 c1 a2 c2 a3 c3,v=(t.sw a1 c1 a2 c2 a3 c3).val∧OwnB B w (.slice a1 t.kl c1) kz∧OwnB B w (.slice a2 t.sl c2) z1∧OwnB B w (.slice a3 t.pl c3) z2
theorem OwnTree.below {t:TreeV}{kz z1 z2:List Int}{B:Nat}{w w':World}{v:Value}(h:OwnTree t kz z1 z2 B w v)(hb:Below w.heap.size w w'):OwnTree t kz z1 z2 B w' v:=by
 obtain⟨a1,c1,a2,c2,a3,c3,e,h1,h2,h3⟩:=h;have k:=KB.of_below hb (Nat.zero_le _);exact⟨a1,c1,a2,c2,a3,c3,e,h1.kb k,h2.kb k,h3.kb k⟩
theorem qgh {big:Bool}{bs kz ds:List Int}{la:Bool}{o:Int}(h:1≤o∧o≤(mB big:Nat)):((JF big bs kz la o ds).length:Int)=o:=by
 unfold JF;rw[List.length_take,zz];omega
theorem qbW {t:TreeV}(h:t.validE=0)(rt:Bool):1≤t.outN rt∧t.outN rt≤(mB t.big:Nat):=by
 have hmb:=yx h;obtain⟨-,d1,d2,d3,d4, -⟩:=qk h
 cases rt
 ·show 1≤t.i∧t.i≤_;omega
 ·show 1≤t.d∧t.d≤_;omega
theorem qaC {t:TreeV}(h:t.validE=0)(kz z1 z2:List Int)(row i:Nat)(la rt:Bool)(d:List Int):((t.node kz z1 z2 row i la rt d).length:Int)=t.outN rt:=qgh (qbW h rt)
end Go.Proofs.YtdndeffmlhaipaaGreat
namespace Go.Proofs.YtdndeffmlhaipaaGreat
open Go.ChangeShapes Go.WideShapes Go.ChangeAt Go.RowKit Go.Joins Go.Shelf Go.Maps
open Go.Lib (hid)
theorem qai {α:Type}(n:Nat)(L:List α): ∀m,(YV n L m).flatten=L.take (m*n)
 | 0=>by simp[YV]
 | m+1=>by
  rw[ZN,List.flatten_append,qai n L m,List.flatten_singleton,Nat.add_mul,Nat.one_mul,List.take_add];rfl
theorem qdW {n:Nat}(hn:1≤n)(zs:List Int):(QP n zs).flatten=zs:=by
 unfold QP;split
 ·rename_i h;rw[h];rfl
 ·rw[qai];have h:=Y1 (n:=zs.length) (d:=n) (j:=qL zs.length n) hn;exact List.take_of_length_le (by omega)
theorem qbg (f:Nat)(L:List (List Int)): ∀m,(zD f L m).flatten=(L.take (m*f)).flatten
 | 0=>by simp[zD]
 | m+1=>by
  rw[jV,List.flatten_append,qbg f L m,List.flatten_singleton,Nat.add_mul,Nat.one_mul,List.take_add,List.flatten_append];rfl
theorem jK {t:TreeV}(h:t.validE=0)(row:Nat)(L:List (List Int)):(t.upZ row L).flatten=L.flatten:=by
 unfold TreeV.upZ;split
 ·simp
 ·rename_i hr;have hf:=Y6 h (row:=row) (n:=L.length) (by simpa using hr);rw[qbg];have h2:=Y1 (n:=L.length) (d:=t.fn) (j:=qL L.length t.fn) (by omega);rw[List.take_of_length_le (by omega)]
end Go.Proofs.YtdndeffmlhaipaaGreat

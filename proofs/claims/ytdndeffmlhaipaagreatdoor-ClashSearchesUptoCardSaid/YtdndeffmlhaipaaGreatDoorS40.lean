/- The digest of a message, by the program. No condition. -/
import Derived.Test.YtdndeffmlhaipaaGreatDoorS38
set_option linter.all false
set_option maxRecDepth 100000
set_option maxHeartbeats 8000000
namespace Go.Proofs.YtdndeffmlhaipaaGreatDoor
open Go.ChangeShapes Go.WideShapes Go.ChangeAt Go.RowKit Go.Joins Go.Shelf Go.Maps
open Go.Lib (hid)
attribute [local go_sem] Oper.semAt_some
def TreeV.leafZ (t:TreeV)(kz z1 z2 zs:List Int):List (List Int):=t.rowZ kz z1 z2 0 false (yr t.ln zs) (yr t.ln zs).length
theorem yg {t:TreeV}(h:t.validE=0)(hl:0≤t.l∧t.l≤4294967295)(kz z1 z2 zs:List Int):t.leafZ kz z1 z2 zs≠[]∧(t.leafZ kz z1 z2 zs).length≤zs.length+1∧ ∀z∈t.leafZ kz z1 z2 zs,z.length≤64:=by
 have hln:1≤t.ln:=by
  have:=(qq h).2.2.2.2.2.2.2.2.1
  unfold TreeV.ln;omega
 have h1:=J4 zs hln;have h2:(t.leafZ kz z1 z2 zs).length=(yr t.ln zs).length:=qr ..;exact⟨List.length_pos_iff.1 (by omega),by omega,fun z hz=>zw _ _ _ _ _ _ _ _ z hz⟩
theorem qdc (t:TreeV)(v:Value)(w:World)(h:t.validE≠0):
  Calls Tryz.prog 28 #[t.val,v] w fun e w'=>e= .returned (.tuple #[.slice none 0 0,.int .i64 t.validE])∧Below w.heap.size w w':=by
 obtain⟨b0,hb0⟩:=Ex w.heap.size;have HVL:=hid (Y8 t);have hbA:Below b0 w (w.alloc (.cells #[.int .i64 t.k,.int .i64 t.d,.int .i64 t.f,.int .i64 t.p,.int .u32 t.l,.int .i64 t.i,.slice t.ka t.kl t.kc,.slice t.sa t.sl t.sc,.slice t.pa t.pl t.pc] 26)):=by rw[←hb0];exact Br.alloc Nl _
 have hrA:=Wn w (.cells #[.int .i64 t.k,.int .i64 t.d,.int .i64 t.f,.int .i64 t.p,.int .u32 t.l,.int .i64 t.i,.slice t.ka t.kl t.kc,.slice t.sa t.sl t.sc,.slice t.pa t.pl t.pc] 26);rw[hb0]at hrA;generalize t.validE=ev at*;have hq:(ev != 0)=true:=by rw[bne_iff_ne];exact h
 clear h;unfold TreeV.val;go_enter Tryz.func28,Tryz.ntmps28
 go_upto_region 1 with(fail)
 generalize w.alloc (.cells #[.int .i64 t.k,.int .i64 t.d,.int .i64 t.f,.int .i64 t.p,.int .u32 t.l,.int .i64 t.i,.slice t.ka t.kl t.kc,.slice t.sa t.sl t.sc,.slice t.pa t.pl t.pc] 26)=wA at*;go_wp2_with ((with_reducible show wpList _ _ _ (Oper.mk _ (Op.load 26 _) _ _ _ _::_) _ _);refine wpList_load_row rfl 26 _ rfl b0 rfl _ _ _ _ hrA Tryz.underlying26 rfl (by kernel_rfl) ?_)
 refine(HVL.out wA).mono ?_;rintro e w2 ⟨rfl,hb2⟩;have HB2:=hid (hbA.trans (hb2.mono (by have:=(Ai hrA).1;omega)));clear hrA hbA hb2;go_wp2
 go_ret2
 exact⟨rfl,by rw[hb0];exact HB2.out⟩
theorem qfk (t:TreeV)(v:Value)(w:World)(h:t.validE≠0):
  Calls Tryz.prog 13 #[t.val,v] w fun e w'=>e= .returned (.tuple #[.slice none 0 0,.int .i64 t.validE])∧Below w.heap.size w w':=by
 obtain⟨b0,hb0⟩:=Ex w.heap.size;have HLV:=hid (fun W:World=>qdc t v W h);have hbA:Below b0 w (w.alloc (.cells #[.int .i64 t.k,.int .i64 t.d,.int .i64 t.f,.int .i64 t.p,.int .u32 t.l,.int .i64 t.i,.slice t.ka t.kl t.kc,.slice t.sa t.sl t.sc,.slice t.pa t.pl t.pc] 26)):=by rw[←hb0];exact Br.alloc Nl _
 have hrA:=Wn w (.cells #[.int .i64 t.k,.int .i64 t.d,.int .i64 t.f,.int .i64 t.p,.int .u32 t.l,.int .i64 t.i,.slice t.ka t.kl t.kc,.slice t.sa t.sl t.sc,.slice t.pa t.pl t.pc] 26);rw[hb0]at hrA;generalize t.validE=ev at*;have hq:(ev != 0)=true:=by rw[bne_iff_ne];exact h
 clear h;unfold TreeV.val;go_enter Tryz.func13,Tryz.ntmps13
 go_upto_region 1 with(fail)
 generalize w.alloc (.cells #[.int .i64 t.k,.int .i64 t.d,.int .i64 t.f,.int .i64 t.p,.int .u32 t.l,.int .i64 t.i,.slice t.ka t.kl t.kc,.slice t.sa t.sl t.sc,.slice t.pa t.pl t.pc] 26)=wA at*;go_wp2_with ((with_reducible show wpList _ _ _ (Oper.mk _ (Op.load 26 _) _ _ _ _::_) _ _);refine wpList_load_row rfl 26 _ rfl b0 rfl _ _ _ _ hrA Tryz.underlying26 rfl (by kernel_rfl) ?_)
 refine(HLV.out wA).mono ?_;rintro e w2 ⟨rfl,hb2⟩;have HB2:=hid (hbA.trans (hb2.mono (by have:=(Ai hrA).1;omega)));clear hrA hbA hb2;go_wp2
 go_ret2
 exact⟨rfl,by rw[hb0];exact HB2.out⟩
theorem qf4 (t:TreeV)(kz z1 z2 zs:List Int)(v:Value)(w:World)(h:TreeOk t kz z1 z2 w)(hv:Hold w v zs)(hn:zs.length≤4194304):
  Calls Tryz.prog 13 #[t.val,v] w fun e w'=> ∃u,e= .returned (.tuple #[u,.int .i64 0])∧(∃R,t.topAt kz z1 z2 (t.leafZ kz z1 z2 zs) R∧OwnB w.heap.size w' u (qK (t.lvlZ kz z1 z2 (t.leafZ kz z1 z2 zs) R) 0))∧Below w.heap.size w w':=by
 obtain⟨b0,hb0⟩:=Ex w.heap.size;have hL:=yg h.v h.l kz z1 z2 zs;have HL:=hid hL;have HT:=hid h;have HLV:=hid (fun(W:World) (hb:Below b0 w W)=>qep t kz z1 z2 zs v W (h.below (hb0▸hb)) (hv.below (hb0▸hb)) hn);have hbA:Below b0 w (w.alloc (.cells #[.int .i64 t.k,.int .i64 t.d,.int .i64 t.f,.int .i64 t.p,.int .u32 t.l,.int .i64 t.i,.slice t.ka t.kl t.kc,.slice t.sa t.sl t.sc,.slice t.pa t.pl t.pc] 26)):=by rw[←hb0];exact Br.alloc Nl _
 have hrA:=Wn w (.cells #[.int .i64 t.k,.int .i64 t.d,.int .i64 t.f,.int .i64 t.p,.int .u32 t.l,.int .i64 t.i,.slice t.ka t.kl t.kc,.slice t.sa t.sl t.sc,.slice t.pa t.pl t.pc] 26);rw[hb0]at hrA;obtain⟨va,vc,rfl, -, -⟩:=hv.slice;clear h hv hL;unfold TreeV.val;unfold TreeV.leafZ at HL⊢;generalize t.rowZ kz z1 z2 0 false (yr t.ln zs) (yr t.ln zs).length=L0 at*;go_enter Tryz.func13,Tryz.ntmps13
 go_upto_region 1 with(fail)
 generalize w.alloc (.cells #[.int .i64 t.k,.int .i64 t.d,.int .i64 t.f,.int .i64 t.p,.int .u32 t.l,.int .i64 t.i,.slice t.ka t.kl t.kc,.slice t.sa t.sl t.sc,.slice t.pa t.pl t.pc] 26)=wA at*;go_wp2_with ((with_reducible show wpList _ _ _ (Oper.mk _ (Op.load 26 _) _ _ _ _::_) _ _);refine wpList_load_row rfl 26 _ rfl b0 rfl _ _ _ _ hrA Tryz.underlying26 rfl (by kernel_rfl) ?_)
 refine(HLV.out wA hbA).mono ?_;rintro e w2 ⟨lv,rfl,hlo,hb2⟩;have hr2:=qe hrA hb2;have hsA:=(Ai hrA).1;have hB2:Below b0 w w2:=hbA.trans (hb2.mono (by omega));have HF:=hid (qf6 t kz z1 z2 L0 lv w2 (HT.out.below (hb0▸hB2)) hlo.hold HL.out.1 HL.out.2.2 (by have:=HL.out.2.1;omega));obtain⟨la,lc,rfl, -, -, -⟩:=hlo.hold;have HB2:=hid hB2;have hs2:=hb2.size;clear hrA hbA hb2 hB2 hlo HLV;go_wp2_with ((with_reducible show wpList _ _ _ (Oper.mk _ (Op.load 26 _) _ _ _ _::_) _ _);refine wpList_load_row rfl 26 _ rfl b0 rfl _ _ _ _ hr2 Tryz.underlying26 rfl (by kernel_rfl) ?_)
 refine HF.out.mono ?_;rintro e w3 ⟨u,rfl,⟨R,hR,hO⟩,hb3⟩;have HR:=hid hR;have HO:=hid (hO.le (show b0≤w2.heap.size by omega));have HB3:=hid (HB2.out.trans (hb3.mono (by omega)));clear hR hO hb3 hr2;go_wp2
 go_ret2
 try rw[hb0]
 exact⟨_,rfl,⟨R,HR.out,HO.out⟩,HB3.out⟩
end Go.Proofs.YtdndeffmlhaipaaGreatDoor

/- What the program takes from a block of parameters, of both kinds. No condition. -/
import Derived.Test.YtdndeffmlhaipaaGreatDoorS24
import Derived.Test.YtdndeffmlhaipaaGreatDoorS25
import Derived.Test.YtdndeffmlhaipaaGreatDoorS23
import Derived.Test.YtdndeffmlhaipaaGreatDoorS04
import Derived.Laws.OwnMore
import Derived.Test.YtdndeffmlhaipaaGreatDoorS18
set_option linter.all false
set_option maxRecDepth 100000
set_option maxHeartbeats 8000000
namespace Go.Proofs.YtdndeffmlhaipaaGreatDoor
open Go.ChangeShapes Go.WideShapes Go.ChangeAt Go.RowKit Go.Joins Go.Shelf Go.Maps
open Go.Lib (hid)
attribute [local go_sem] Oper.semAt_some
def okD (big ext:Bool)(zs:List Int):Prop:=zs.length=mB big∧(big=true→ ∀i,18≤i→i<32→qm zs i=0)∧(ext=true→xoZ big ext zs≠0)∧okC big (qm zs 0) (qm zs 1) (qm zs 3) (xoZ big ext zs) (qm zs (atB big 9))
theorem qaW (big:Bool)(zs:List Int)(v:Value)(w:World)(h:Holds8 w v zs)(hz: ∀z∈zs,0≤z∧z≤255)(hcap: ∀a n c,v= .slice a n c→n≤c∧(c:Int)≤9223372036854775807)(hok:okD big false zs):
  Calls Tryz.prog 32 #[.int .i64 (kB big),v,.bool false] w fun e w'=>(∃fo dp lf ofs nd inr sa pe,e= .returned (.tuple #[yq (qm zs 0) (qm zs 1) fo dp lf ofs 0 nd inr sa pe,.int .i64 0])∧sa.oneCell'=true∧pe.oneCell'=true)∧Below w.heap.size w w':=by
 obtain⟨a,cap,rfl,h⟩:=h;obtain⟨hl,hm, -,k0,k1,k3,k9⟩:=hok;obtain⟨b,off,rfl,hB⟩:=h.resolve_left (fun e=>by rw[e]at hl;cases big<;>simp[mB]at hl);obtain⟨hc1,hc2⟩:=hcap _ _ _ rfl
 cases big
 ·have hl':zs.length=32:=hl;rw[hl']at hc1⊢;exact ZX zs b off cap w hB hz hc1 hc2 hl' k0 k1.2 (k3 rfl) k9.2
 ·have hl':zs.length=64:=hl;rw[hl']at hc1⊢;exact jn zs b off cap w hB hz hc1 hc2 hl' (hm rfl) k0 k1.2 (k3 rfl) k9.2
end Go.Proofs.YtdndeffmlhaipaaGreatDoor
namespace Go.Proofs.YtdndeffmlhaipaaGreatDoor
open Go.ChangeShapes Go.WideShapes Go.ChangeAt Go.RowKit Go.Joins Go.Shelf Go.Maps
open Go.Lib (hid)
def szE (big ext:Bool)(f:Nat):Nat:=if f=6∧ext=true then 4 else szB big f
theorem QJ (big ext:Bool)(f:Nat)(h1:1≤f)(h2:f≤9):1≤szE big ext f∧szE big ext f≤8∧atB big f+szE big ext f≤18∧(big=false→atB big f+szE big ext f≤16):=by
 have h:f=1∨f=2∨f=3∨f=4∨f=5∨f=6∨f=7∨f=8∨f=9:=by omega
 rcases h with rfl|rfl|rfl|rfl|rfl|rfl|rfl|rfl|rfl<;>cases big<;>cases ext<;>decide
def QM (big ext:Bool)(zs:List Int)(f:Nat):Int:=if f=0 then 0 else qT zs (atB big f) (szE big ext f)
def ZW (big ext:Bool)(zs:List Int):Nat→List Value
 | 0=>[]
 | k+1=>ZW big ext zs k++[.int .u64 (QM big ext zs k)]
theorem YU (big ext:Bool)(zs:List Int): ∀k,(ZW big ext zs k).length=k
 | 0=>rfl
 | k+1=>by simp[ZW,YU big ext zs k]
theorem Qq (big ext:Bool)(zs:List Int): ∀k j,j<k→(ZW big ext zs k)[j]? =some (.int .u64 (QM big ext zs j))
 | 0,j,h=>by omega
 | k+1,j,h=>by
  rw[ZW];by_cases e:j=k
  ·subst e;rw[List.getElem?_append_right (by rw[YU];exact Nat.le_refl _),YU];simp
  ·rw[List.getElem?_append_left (by rw[YU];omega)];exact Qq big ext zs k j (by omega)
theorem qJ {big ext:Bool}{zs:List Int}(hz: ∀z∈zs,0≤z∧z≤255)(hl:zs.length=mB big){f:Nat}(h1:1≤f)(h2:f≤9):0≤QM big ext zs f∧QM big ext zs f<2^(8*szE big ext f):=by
 unfold QM;rw[if_neg (by omega)];have:=QJ big ext f h1 h2
 have hm:32≤mB big:=by cases big<;>decide
 exact Qu hz _ (by omega)
theorem Yu (zs:List Int)(a:Nat):qT zs a 1=qm zs a:=by simp[qT]
theorem qge {W:World}{B:Nat}{v:Value}{xs:List Value}(h:W.ownsRow B 54 1 v 10 xs): ∃g cap cur,v= .slice (some ⟨g,0,none⟩) 10 cap∧B≤g∧W.heap[g]? =some (.cells cur 54 (0,0))∧10≤cur.size∧ ∀j,j<10→cur[j]? =xs[j]? :=by
 rcases h.2 with⟨-,h0⟩|⟨g,cap,cur,rfl,h1,h2,h3,h4,h5,h6⟩
 ·cases h0
 ·refine⟨g,cap,cur,rfl,h1,h2,by omega,fun j hj=>?_⟩;rw[←h6,List.getElem?_take,if_pos (by omega),Array.getElem?_toList]
end Go.Proofs.YtdndeffmlhaipaaGreatDoor
namespace Go.Proofs.YtdndeffmlhaipaaGreatDoor
open Go.ChangeShapes Go.WideShapes Go.ChangeAt Go.RowKit Go.Joins Go.Shelf Go.Maps
open Go.Lib (hid)
attribute [local go_sem] Oper.semAt_some
theorem zR (zs:List Int)(b off cap:Nat)(w:World)(hB:Qf w b off zs)(hz: ∀z∈zs,0≤z∧z≤255)(hcap:64≤cap)(hcap2:(cap:Int)≤9223372036854775807)(hl:zs.length=64)(hmid: ∀i,18≤i→i<32→qm zs i=0)(hk0:1≤qm zs 0∧qm zs 0≤64)(hk1:qm zs 1≤64)(hk3:1≤qm zs 3)(hk9:qm zs 17≤64):
  Calls Tryz.prog 104 #[.int .i64 1,.slice (some ⟨b,off,none⟩) 64 cap,.bool false] w fun e w'=>(∃sa pe,e= .returned (.tuple #[yq (qm zs 0) (qm zs 1) (qm zs 2) (qm zs 3) (qT zs 4 4) (qT zs 8 8) 0 (qm zs 16) (qm zs 17) sa pe,.int .i64 0])∧w'.ownsRow w.heap.size 5 1 sa (qW ((zs.drop 32).take 16) 16) ((((zs.drop 32).take 16).take (qW ((zs.drop 32).take 16) 16)).map qo)∧w'.ownsRow w.heap.size 5 1 pe (qW ((zs.drop 48).take 16) 16) ((((zs.drop 48).take 16).take (qW ((zs.drop 48).take 16) 16)).map qo))∧Below w.heap.size w w':=by
 obtain⟨h1,h2⟩:=id hB;have HC:=hid h2;have HB:=hid hB;clear h2 hB;obtain⟨i0,hi,hy0,hy1,hy2⟩:=info_parts JW;obtain⟨V1,hV1⟩:=Ex (QM true false zs 1);have hY1:0≤V1∧V1<256:=by have:=qJ (big:=true) (ext:=false) hz hl (f:=1) (by omega) (by omega);rw[hV1]at this;simpa [szE,szB] using this
 have hN1:qm zs 0=V1:=by rw[←hV1];simp[QM,szE,szB,atB,Yu]
 rw[hN1]at hk0;try rw[hN1]
 obtain⟨V2,hV2⟩:=Ex (QM true false zs 2);have hY2:0≤V2∧V2<256:=by have:=qJ (big:=true) (ext:=false) hz hl (f:=2) (by omega) (by omega);rw[hV2]at this;simpa [szE,szB] using this
 have hN2:qm zs 1=V2:=by rw[←hV2];simp[QM,szE,szB,atB,Yu]
 rw[hN2]at hk1;try rw[hN2]
 obtain⟨V3,hV3⟩:=Ex (QM true false zs 3);have hY3:0≤V3∧V3<256:=by have:=qJ (big:=true) (ext:=false) hz hl (f:=3) (by omega) (by omega);rw[hV3]at this;simpa [szE,szB] using this
 have hN3:qm zs 2=V3:=by rw[←hV3];simp[QM,szE,szB,atB,Yu]
 try rw[hN3]
 obtain⟨V4,hV4⟩:=Ex (QM true false zs 4);have hY4:0≤V4∧V4<256:=by have:=qJ (big:=true) (ext:=false) hz hl (f:=4) (by omega) (by omega);rw[hV4]at this;simpa [szE,szB] using this
 have hN4:qm zs 3=V4:=by rw[←hV4];simp[QM,szE,szB,atB,Yu]
 rw[hN4]at hk3;try rw[hN4]
 obtain⟨V5,hV5⟩:=Ex (QM true false zs 5);have hY5:0≤V5∧V5<4294967296:=by have:=qJ (big:=true) (ext:=false) hz hl (f:=5) (by omega) (by omega);rw[hV5]at this;simpa [szE,szB] using this
 have hN5:qT zs 4 4=V5:=by rw[←hV5];simp[QM,szE,szB,atB,Yu]
 try rw[hN5]
 obtain⟨V6,hV6⟩:=Ex (QM true false zs 6);have hY6:0≤V6∧V6<18446744073709551616:=by have:=qJ (big:=true) (ext:=false) hz hl (f:=6) (by omega) (by omega);rw[hV6]at this;simpa [szE,szB] using this
 have hN6:qT zs 8 8=V6:=by rw[←hV6];simp[QM,szE,szB,atB,Yu]
 try rw[hN6]
 obtain⟨V7,hV7⟩:=Ex (QM true false zs 7);have hY7:0≤V7∧V7<4294967296:=by have:=qJ (big:=true) (ext:=false) hz hl (f:=7) (by omega) (by omega);rw[hV7]at this;simpa [szE,szB] using this
 have hN7:qT zs 12 4=V7:=by rw[←hV7];simp[QM,szE,szB,atB,Yu]
 try rw[hN7]
 obtain⟨V8,hV8⟩:=Ex (QM true false zs 8);have hY8:0≤V8∧V8<256:=by have:=qJ (big:=true) (ext:=false) hz hl (f:=8) (by omega) (by omega);rw[hV8]at this;simpa [szE,szB] using this
 have hN8:qm zs 16=V8:=by rw[←hV8];simp[QM,szE,szB,atB,Yu]
 try rw[hN8]
 obtain⟨V9,hV9⟩:=Ex (QM true false zs 9);have hY9:0≤V9∧V9<256:=by have:=qJ (big:=true) (ext:=false) hz hl (f:=9) (by omega) (by omega);rw[hV9]at this;simpa [szE,szB] using this
 have hN9:qm zs 17=V9:=by rw[←hV9];simp[QM,szE,szB,atB,Yu]
 rw[hN9]at hk9;try rw[hN9]
 have hs: ∀w:World,Calls Tryz.prog 103 #[.int .i64 1] w fun e w'=>e= .returned (.int .i64 64)∧w'=w:=yB true
 obtain⟨b0,hb0⟩:=Ex w.heap.size;have hbk:b<b0:=by rw[←hb0];exact h1
 have hSL: ∀W,Below b0 w W→Holds8 W (.slice (some ⟨b,off,none⟩) 64 cap) zs:=fun W hW=>⟨some ⟨b,off,none⟩,cap,by rw[hl],.inr ⟨b,off,rfl,Nat.lt_of_lt_of_le h1 hW.size,fun i hi=>(hW.cell (p:=⟨b,off+i,none⟩) hbk).trans (HC.out i hi)⟩⟩
 have HSL:=hid hSL;clear hSL;have hbA:Below b0 w (w.alloc (.cells #[.int .i64 0,.int .i64 0,.int .i64 0,.int .i64 0,.int .u32 0,.int .u64 0,.int .u32 0,.int .i64 0,.int .i64 0,.slice none 0 0,.slice none 0 0] 72)):=by rw[←hb0];exact Br.alloc Nl _
 have hRA:=Wn w (.cells #[.int .i64 0,.int .i64 0,.int .i64 0,.int .i64 0,.int .u32 0,.int .u64 0,.int .u32 0,.int .i64 0,.int .i64 0,.slice none 0 0,.slice none 0 0] 72);rw[hb0]at hRA;have hsA:(w.alloc (.cells #[.int .i64 0,.int .i64 0,.int .i64 0,.int .i64 0,.int .u32 0,.int .u64 0,.int .u32 0,.int .i64 0,.int .i64 0,.slice none 0 0,.slice none 0 0] 72)).heap.size=b0+1:=by simp[hb0]
 go_enter Tryz.func104,Tryz.ntmps104
 go_wp2_with fail
 refine(qaD true _ _ _ _).mono ?_;rintro e w1 ⟨⟨x,rfl,hx⟩,hw⟩;rw[hw];clear hw;obtain rfl:x=0:=hx.2 rfl;clear hx;generalize w.alloc (.cells #[.int .i64 0,.int .i64 0,.int .i64 0,.int .i64 0,.int .u32 0,.int .u64 0,.int .u32 0,.int .i64 0,.int .i64 0,.slice none 0 0,.slice none 0 0] 72)=w2 at*;have HR:=hid hRA;clear hRA;go_wp2_with fail
 go_loopw [9] (fun i wr=> ∃k:Nat,i= .int .i64 (k:Nat)∧18≤k∧k≤32∧w2=wr) (fun i _=>32 - (intOf i).toNat)
 case atStart=>exact⟨18,rfl,by omega,by omega,rfl⟩
 case round=>
  obtain⟨k,rfl,hk1,hk2,rfl⟩:=hrel;by_cases hlt:k<32
  ·have hc:=(hbA.cell (p:=⟨b,off+k,none⟩) hbk).trans (HC.out k (by omega));rw[hmid k hk1 hlt]at hc;have k3:(k:Int)<64:=by omega
   have k4:0≤(k:Int):=by omega
   go_wp2
   exact⟨⟨k+1,rfl,by omega,by omega,by trivial⟩,by simp[intOf];omega⟩
  ·obtain rfl:k=32:=by omega
   go_wp2_with fail
   have hown0:(w2.alloc (.cells #[.int .u64 0] 54)).ownsRow (b0+1) 54 1 (.slice (some ⟨b0+1,0,none⟩) 1 1) 1 (ZW true false zs 1):=by have:=World.ownsRow_lit (base:=b0+1) (e:=54) (size:=1) w2 #[.int .u64 0] 1 (by omega) (by decide) rfl;rwa[hsA]at this
   have hb20:Below (b0+1) w2 (w2.alloc (.cells #[.int .u64 0] 54)):=Br.alloc (by omega) _;go_loopw [10,11] (fun v f wr=> ∃(k:Nat),f= .int .i64 (k:Nat)∧1≤k∧k≤10∧wr.ownsRow (b0+1) 54 1 v k (ZW true false zs k)∧Below (b0+1) w2 wr) (fun _ i _=>10 - (intOf i).toNat)
   case atStart=>exact⟨1,rfl,by omega,by omega,hown0,hb20⟩
   case round=>
    clear hown0 hb20;obtain⟨f,rfl,hk1,hk2,hown,hb⟩:=hrel;have hsr:=hb.size;by_cases hlt:f≤9
    ·have hsz:=QJ true false f hk1 hlt;have hfv:QM true false zs f=qT zs (atB true f) (szE true false f):=if_neg (by omega);have e1:=hid (show ZW true false zs (f+1)=ZW true false zs f++[.int .u64 (qT zs (atB true f) (szE true false f))] by rw[ZW,hfv]);have k5:(f:Int)≤9:=by omega
     have HPL:=hid (Zr true f ⟨hk1,hlt⟩);obtain⟨at0,hat0⟩:=Ex (atB true f);obtain⟨sz0,hsz0⟩:=Ex (szB true f);obtain⟨sz1,hsz1⟩:=Ex (szE true false f);have HE1:=hid hsz1;have HE0:=hid hsz0;rw[hat0,hsz1]at e1;rw[hat0,hsz0]at HPL;rw[hat0,hsz1]at hsz;clear hfv hat0 hsz0 hsz1;obtain⟨j1,j2,j3,j4⟩:=hsz;have j5:at0+sz1≤zs.length:=by omega
     clear j4;have hbw:Below b0 w wr:=hbA.trans (hb.mono (by omega));by_cases hf6:f=6
     case pos=>
      subst hf6;go_wp2_with fail
      refine(HPL.out _).mono ?_;rintro r w4 ⟨rfl,hw⟩;rw[hw];clear hw;obtain rfl:sz1=sz0:=by rw[←HE1.out,←HE0.out];simp[szE]
      go_wp2_with fail
      refine(zh zs _ at0 sz1 _ (HSL.out _ hbw) hz (by omega) (by omega) (by omega)).mono ?_;rintro r w5 ⟨rfl,hw⟩;rw[hw];clear hw;go_wp2_with (at_builtin;refine wpList_append_own _ rfl _ _ 123 rfl (b0+1) 54 i0 (.int .u64 0) 1 8 Tryz.underlying123 hi hy0 hy1 hy2 rfl (by decide) _ _ _ rfl (hown.alloc _) ⟨wr.heap.size,0,none⟩ 1 1 [.int .u64 (qT zs at0 sz1)] rfl rfl (cell_one_new _ _ _) (by simp[Value.oneCell']) (by unfold maxLen;omega) (by omega) (by simp;omega) ?_;intro v' w6 hown' hgrow _;have hb3:Below (b0+1) w2 w6:=(hb.alloc (by omega) _).grown hgrow (by simp;omega) (fun k e=>(hown.lt k e).1))
      rw[←e1.out]at hown';refine⟨⟨_,_,_,_,_,_,_,_,_,_,_,_,_,_,_,_,_,_,_,_,_,_,_,_,_,_,⟨7,rfl,by omega,by omega,hown',hb3⟩,rfl⟩,?_⟩;first|(simp[intOf];done)|(simp[intOf];omega)
     case neg=>
      go_wp2_with fail
      refine(HPL.out _).mono ?_;rintro r w4 ⟨rfl,hw⟩;rw[hw];clear hw;obtain rfl:sz1=sz0:=by rw[←HE1.out,←HE0.out];simp[szE,hf6]
      have hf7: ¬((f:Int)=6):=by omega
      have hf8: ¬(f=6):=hf6;go_wp2_with fail
      refine(zh zs _ at0 sz1 _ (HSL.out _ hbw) hz (by omega) (by omega) (by omega)).mono ?_;rintro r w5 ⟨rfl,hw⟩;rw[hw];clear hw;go_wp2_with (at_builtin;refine wpList_append_own _ rfl _ _ 123 rfl (b0+1) 54 i0 (.int .u64 0) 1 8 Tryz.underlying123 hi hy0 hy1 hy2 rfl (by decide) _ _ _ rfl (hown.alloc _) ⟨wr.heap.size,0,none⟩ 1 1 [.int .u64 (qT zs at0 sz1)] rfl rfl (cell_one_new _ _ _) (by simp[Value.oneCell']) (by unfold maxLen;omega) (by omega) (by simp;omega) ?_;intro v' w6 hown' hgrow _;have hb3:Below (b0+1) w2 w6:=(hb.alloc (by omega) _).grown hgrow (by simp;omega) (fun k e=>(hown.lt k e).1))
      rw[←e1.out]at hown';refine⟨⟨_,_,_,_,_,_,_,_,_,_,_,_,_,_,_,_,_,_,_,_,_,_,_,_,_,_,⟨f+1,rfl,by omega,by omega,hown',hb3⟩,rfl⟩,?_⟩;first|(simp[intOf];done)|(simp[intOf];omega)
    ·obtain rfl:f=10:=by omega
     obtain⟨g,cg,cur,rfl,hg1,hg2,hg3,hg4⟩:=qge hown;have HROW:=hid hg2;have hcu1:cur[1]? =some (.int .u64 V1):=by rw[hg4 1 (by omega),Qq _ _ _ _ _ (by omega),hV1]
     have hcu2:cur[2]? =some (.int .u64 V2):=by rw[hg4 2 (by omega),Qq _ _ _ _ _ (by omega),hV2]
     have hcu3:cur[3]? =some (.int .u64 V3):=by rw[hg4 3 (by omega),Qq _ _ _ _ _ (by omega),hV3]
     have hcu4:cur[4]? =some (.int .u64 V4):=by rw[hg4 4 (by omega),Qq _ _ _ _ _ (by omega),hV4]
     have hcu5:cur[5]? =some (.int .u64 V5):=by rw[hg4 5 (by omega),Qq _ _ _ _ _ (by omega),hV5]
     have hcu6:cur[6]? =some (.int .u64 V6):=by rw[hg4 6 (by omega),Qq _ _ _ _ _ (by omega),hV6]
     have hcu7:cur[7]? =some (.int .u64 V7):=by rw[hg4 7 (by omega),Qq _ _ _ _ _ (by omega),hV7]
     have hcu8:cur[8]? =some (.int .u64 V8):=by rw[hg4 8 (by omega),Qq _ _ _ _ _ (by omega),hV8]
     have hcu9:cur[9]? =some (.int .u64 V9):=by rw[hg4 9 (by omega),Qq _ _ _ _ _ (by omega),hV9]
     have hgl:g<wr.heap.size:=(Ai hg2).1;have c7:=(qa hg2 7).trans hcu7;have f7:=frozen_of_row wr g 7 _ _ hg2;have hbz:Below b0 w wr:=hbA.trans (hb.mono (by omega));have hR8:wr.heap[b0]? =some (.cells #[.int .i64 0,.int .i64 0,.int .i64 0,.int .i64 0,.int .u32 0,.int .u64 0,.int .u32 0,.int .i64 0,.int .i64 0,.slice none 0 0,.slice none 0 0] 72 (0,0)):=(hb.block b0 (by omega)).trans HR.out;clear hg4 hown HR hb hlt hk1 hk2 hg2 hsA hbA hV1 hN1 hV2 hN2 hV3 hN3 hV4 hN4 hV5 hN5 hV6 hN6 hV7 hN7 hV8 hN8 hV9 hN9;go_upto_region 21 with(fail)
     have hrow8:=heap_setCell_same wr g 7 _ _ (.int .u64 0) HROW.out;have CV1:=hid ((qa hrow8 1).trans (show(cur.setIfInBounds 7 (.int .u64 0))[1]? =some (.int .u64 (V1)) by rw[Array.getElem?_setIfInBounds];simpa using hcu1));have CV2:=hid ((qa hrow8 2).trans (show(cur.setIfInBounds 7 (.int .u64 0))[2]? =some (.int .u64 (V2)) by rw[Array.getElem?_setIfInBounds];simpa using hcu2));have CV3:=hid ((qa hrow8 3).trans (show(cur.setIfInBounds 7 (.int .u64 0))[3]? =some (.int .u64 (V3)) by rw[Array.getElem?_setIfInBounds];simpa using hcu3));have CV4:=hid ((qa hrow8 4).trans (show(cur.setIfInBounds 7 (.int .u64 0))[4]? =some (.int .u64 (V4)) by rw[Array.getElem?_setIfInBounds];simpa using hcu4));have CV5:=hid ((qa hrow8 5).trans (show(cur.setIfInBounds 7 (.int .u64 0))[5]? =some (.int .u64 (V5)) by rw[Array.getElem?_setIfInBounds];simpa using hcu5));have CV6:=hid ((qa hrow8 6).trans (show(cur.setIfInBounds 7 (.int .u64 0))[6]? =some (.int .u64 (V6)) by rw[Array.getElem?_setIfInBounds];simpa using hcu6));have CV7:=hid ((qa hrow8 7).trans (show(cur.setIfInBounds 7 (.int .u64 0))[7]? =some (.int .u64 (0)) by rw[Array.getElem?_setIfInBounds];simp;omega));have CV8:=hid ((qa hrow8 8).trans (show(cur.setIfInBounds 7 (.int .u64 0))[8]? =some (.int .u64 (V8)) by rw[Array.getElem?_setIfInBounds];simpa using hcu8));have CV9:=hid ((qa hrow8 9).trans (show(cur.setIfInBounds 7 (.int .u64 0))[9]? =some (.int .u64 (V9)) by rw[Array.getElem?_setIfInBounds];simpa using hcu9));have hb8:Below b0 w (wr.setCell ⟨g,7,none⟩ (.int .u64 0)):=hbz.setCell (by show b0≤g;omega) _;have hR9:(wr.setCell ⟨g,7,none⟩ (.int .u64 0)).heap[b0]? =some (.cells #[.int .i64 0,.int .i64 0,.int .i64 0,.int .i64 0,.int .u32 0,.int .u64 0,.int .u32 0,.int .i64 0,.int .i64 0,.slice none 0 0,.slice none 0 0] 72 (0,0)):=(heap_setCell_other wr _ _ _ (by show b0≠g;omega)).trans hR8;have hsz8:(wr.setCell ⟨g,7,none⟩ (.int .u64 0)).heap.size=wr.heap.size:=by simp[World.setCell]
     rw[←hsz8]at hgl hsr;clear hbz HROW hrow8 hsz8 c7 f7 hR8;generalize wr.setCell ⟨g,7,none⟩ (.int .u64 0)=W8 at*;have hR8:=hR9;clear hR9;clear hcu1 hcu2 hcu3 hcu4 hcu5 hcu6 hcu7 hcu8 hcu9 hg3;go_wp2_with fail
     refine(hs _).mono ?_;rintro r w9 ⟨rfl,hw⟩;rw[hw];clear hw;go_upto_region 22 with(fail)
     refine qy (n:=49) (w0:=W8) (B:=W8.heap.size) [.v 72 (.slice (some ⟨g,0,none⟩) 10 cg),.v 73 (.pointer (some ⟨g,1,none⟩)),.v 74 (.int .u64 V1),.v 75 (.int .i64 V1),.v 76 (.slice (some ⟨g,0,none⟩) 10 cg),.v 77 (.pointer (some ⟨g,2,none⟩)),.v 78 (.int .u64 V2),.v 79 (.int .i64 V2),.v 80 (.slice (some ⟨g,0,none⟩) 10 cg),.v 81 (.pointer (some ⟨g,3,none⟩)),.v 82 (.int .u64 V3),.v 83 (.int .i64 V3),.v 84 (.slice (some ⟨g,0,none⟩) 10 cg),.v 85 (.pointer (some ⟨g,4,none⟩)),.v 86 (.int .u64 V4),.v 87 (.int .i64 V4),.v 88 (.slice (some ⟨g,0,none⟩) 10 cg),.v 89 (.pointer (some ⟨g,5,none⟩)),.v 90 (.int .u64 V5),.v 91 (.int .u32 V5),.v 92 (.slice (some ⟨g,0,none⟩) 10 cg),.v 93 (.pointer (some ⟨g,6,none⟩)),.v 94 (.int .u64 V6),.v 95 (.slice (some ⟨g,0,none⟩) 10 cg),.v 96 (.pointer (some ⟨g,7,none⟩)),.v 97 (.int .u64 0),.v 98 (.int .u32 0),.v 99 (.slice (some ⟨g,0,none⟩) 10 cg),.v 100 (.pointer (some ⟨g,8,none⟩)),.v 101 (.int .u64 V8),.v 102 (.int .i64 V8),.v 103 (.slice (some ⟨g,0,none⟩) 10 cg),.v 104 (.pointer (some ⟨g,9,none⟩)),.v 105 (.int .u64 V9),.v 106 (.int .i64 V9),.v 107 (.slice (some ⟨b,off,none⟩) 64 cap),.v 108 (.int .i64 16),.v 109 (.int .i64 32),.v 110 (.int .i64 16),.v 111 (.int .i64 48),.v 112 (.slice (some ⟨b,off+32,none⟩) 16 (cap - 32)),.v 113 (.slice (some ⟨b,off,none⟩) 64 cap),.v 114 (.int .i64 16),.v 115 (.int .i64 48),.v 116 (.int .i64 16),.v 117 (.int .i64 64),.v 118 (.slice (some ⟨b,off+48,none⟩) 16 (cap - 48)),.v 119 (.agg #[.int .i64 V1,.int .i64 V2,.int .i64 V3,.int .i64 V4,.int .u32 V5,.int .u64 V6,.int .u32 0,.int .i64 V8,.int .i64 V9,.slice (some ⟨b,off+32,none⟩) 16 (cap - 32),.slice (some ⟨b,off+48,none⟩) 16 (cap - 48)]),.p 15 (fun u W=> ∃p,u= .pointer (some ⟨p,0,none⟩)∧W8.heap.size≤p∧W.heap[p]? =some (.cells #[.int .i64 0,.int .i64 0,.int .i64 0,.int .i64 0,.int .u32 0,.int .u64 0,.int .u32 0,.int .i64 0,.int .i64 0,.slice none 0 0,.slice none 0 0] 72 (0,0)))] (by exact⟨(fun _ _ _ h hb=>by obtain⟨p,e,h3,h4⟩:=h;exact⟨p,e,h3,qe h4 hb⟩),trivial⟩) Br.drew Nl ?_ ?_
     ·repeat' (with_reducible first|exact qw|refine qu ?_ ?_)
      all_goals try
       intro A x W hA hW hBW hdep D K hK;have a10:=hA.2 10 (by decide);conv at a10=>rhs;whnf
       have a1:=hA.2 1 (by decide);conv at a1=>rhs;whnf
       have a14:=hA.2 14 (by decide);conv at a14=>rhs;whnf
       simp only[QN,Q0]at D;clear hdep hA;first
       | go_simp
         exact hK _ _ BR rfl
       | have y0:=(hW.cell (p:=⟨g,1,none⟩) hgl).trans CV1.out
         have y1:g<W.heap.size:=by omega
         have y2:IntKind.i64.wrap V1=V1:=by rw[IntKind.wrap_i64];omega
         have y3:=(hW.cell (p:=⟨g,2,none⟩) hgl).trans CV2.out;have y4:IntKind.i64.wrap V2=V2:=by rw[IntKind.wrap_i64];omega
         have y5:=(hW.cell (p:=⟨g,3,none⟩) hgl).trans CV3.out;have y6:IntKind.i64.wrap V3=V3:=by rw[IntKind.wrap_i64];omega
         have y7:=(hW.cell (p:=⟨g,4,none⟩) hgl).trans CV4.out;have y8:IntKind.i64.wrap V4=V4:=by rw[IntKind.wrap_i64];omega
         have y9:=(hW.cell (p:=⟨g,5,none⟩) hgl).trans CV5.out;have y10:IntKind.u32.wrap V5=V5:=u32_wrap_id _ (by omega) (by omega);have y11:=(hW.cell (p:=⟨g,6,none⟩) hgl).trans CV6.out;have y12:=(hW.cell (p:=⟨g,7,none⟩) hgl).trans CV7.out;have y13:=(hW.cell (p:=⟨g,8,none⟩) hgl).trans CV8.out;have y14:IntKind.i64.wrap V8=V8:=by rw[IntKind.wrap_i64];omega
         have y15:=(hW.cell (p:=⟨g,9,none⟩) hgl).trans CV9.out;have y16:IntKind.i64.wrap V9=V9:=by rw[IntKind.wrap_i64];omega
         have y17: ¬cap=32:=by omega
         have y18: ¬cap=48:=by omega
         have y19:64≤(cap:Int):=by omega
         have y20:48≤(cap:Int):=by omega
         go_simp
         exact hK _ _ BR rfl
      ·intro A x W hA hW hBW hdep _ K hK;have g75:=gv hA hdep 3 75;have g79:=gv hA hdep 7 79;have g83:=gv hA hdep 11 83;have g87:=gv hA hdep 15 87;have g91:=gv hA hdep 19 91;have g94:=gv hA hdep 22 94;have g98:=gv hA hdep 26 98;have g102:=gv hA hdep 30 102;have g106:=gv hA hdep 34 106;have g112:=gv hA hdep 40 112;have g118:=gv hA hdep 46 118;clear hdep hA;refine YM 72 _ rfl #[.int .i64 V1,.int .i64 V2,.int .i64 V3,.int .i64 V4,.int .u32 V5,.int .u64 V6,.int .u32 0,.int .i64 V8,.int .i64 V9,.slice (some ⟨b,off+32,none⟩) 16 (cap - 32),.slice (some ⟨b,off+48,none⟩) 16 (cap - 48)] ?_ (hK _ _ Br rfl);simp only[List.map_toArray,List.map_cons,List.map_nil,Act.eval,g75,g79,g83,g87,g91,g94,g98,g102,g106,g112,g118];kernel_rfl
      ·intro A x W hA hW hBW hdep _ K hK;clear hdep hA;go_simp
       exact hK _ _ (Br.alloc Nl _) ⟨W.heap.size,rfl,hBW,Wn W _⟩
     intro x W hW hBW hall;obtain⟨e15, -⟩:=hall;change (fun u W=> ∃p,u= .pointer (some ⟨p,0,none⟩)∧W8.heap.size≤p∧W.heap[p]? =some (.cells #[.int .i64 0,.int .i64 0,.int .i64 0,.int .i64 0,.int .u32 0,.int .u64 0,.int .u32 0,.int .i64 0,.int .i64 0,.slice none 0 0,.slice none 0 0] 72 (0,0))) (x 15) W at e15
     obtain⟨p,ep,hp1,hp2⟩:=e15;refine qn ?_;simp only[Qw,Act.put,Ls,ep];refine wpList_store_row rfl 72 _ _ rfl p #[.int .i64 V1,.int .i64 V2,.int .i64 V3,.int .i64 V4,.int .u32 V5,.int .u64 V6,.int .u32 0,.int .i64 V8,.int .i64 V9,.slice (some ⟨b,off+32,none⟩) 16 (cap - 32),.slice (some ⟨b,off+48,none⟩) 16 (cap - 48)] rfl rfl 72 _ hp2 (by kernel_rfl) rfl (by simp[Value.oneCell']) ?_;refine qt ?_;have hB3:Below W8.heap.size W8 (W.setRow p #[.int .i64 V1,.int .i64 V2,.int .i64 V3,.int .i64 V4,.int .u32 V5,.int .u64 V6,.int .u32 0,.int .i64 V8,.int .i64 V9,.slice (some ⟨b,off+32,none⟩) 16 (cap - 32),.slice (some ⟨b,off+48,none⟩) 16 (cap - 48)]):=below_setRow hW hp1 _;have hR3:=setRow_heap W p _ #[.int .i64 V1,.int .i64 V2,.int .i64 V3,.int .i64 V4,.int .u32 V5,.int .u64 V6,.int .u32 0,.int .i64 V8,.int .i64 V9,.slice (some ⟨b,off+32,none⟩) 16 (cap - 32),.slice (some ⟨b,off+48,none⟩) 16 (cap - 48)] _ _ hp2;generalize W.setRow p #[.int .i64 V1,.int .i64 V2,.int .i64 V3,.int .i64 V4,.int .u32 V5,.int .u64 V6,.int .u32 0,.int .i64 V8,.int .i64 V9,.slice (some ⟨b,off+32,none⟩) 16 (cap - 32),.slice (some ⟨b,off+48,none⟩) 16 (cap - 48)]=W3 at hB3 hR3⊢;clear ep hp2 hW hBW x W;have hs3:=hB3.size;have hb3:Below b0 w W3:=hb8.trans (hB3.mono (by omega));have hR0:W3.heap[b0]? =some (.cells #[.int .i64 0,.int .i64 0,.int .i64 0,.int .i64 0,.int .u32 0,.int .u64 0,.int .u32 0,.int .i64 0,.int .i64 0,.slice none 0 0,.slice none 0 0] 72 (0,0)):=(hB3.block b0 (by omega)).trans hR8;have hBT:Qf W3 b off zs:=⟨Nat.lt_of_lt_of_le h1 hb3.size,fun i hi=>(hb3.cell (p:=⟨b,off+i,none⟩) hbk).trans (HC.out i hi)⟩;have hNM:=jb true V1 V2 V3 V4 V5 V6 V8 V9 ((zs.drop 32).take 16) ((zs.drop 48).take 16) b (off+32) (cap - 32) b (off+48) (cap - 48) W3 (Yp hBT (by omega)) (Yp hBT (by omega)) (by rw[Qm (by omega)];omega) (by rw[Qm (by omega)];omega) (by rw[Qm (by omega)];decide) (by rw[Qm (by omega)];decide) ⟨by simp only[mB,cond];omega,by simp only[mB,cond];omega,by omega,by omega,⟨by omega,fun h=>by cases h⟩,by omega,by simp only[mB,cond];omega⟩;rw[Qm (by omega),Qm (by omega)]at hNM;have HNM:=hid hNM;clear hNM hBT hB3;go_wp2_with ((with_reducible show wpList _ _ _ (Oper.mk _ (Op.load 72 _) _ _ _ _::_) _ _);refine wpList_load_row rfl 72 _ rfl p rfl _ _ _ _ hR3 Tryz.underlying72 rfl (by kernel_rfl) ?_)
     refine HNM.out.mono ?_;rintro r w7 ⟨⟨sa,pe,rfl,os,op⟩,hb7⟩;clear HNM;have hR7:=qe hR0 hb7;have hB7:Below b0 w w7:=hb3.trans (hb7.mono (by omega));obtain⟨a5,n5,k5,rfl⟩:=qp os;obtain⟨a8,n8,k8,rfl⟩:=qp op;unfold yq;go_wp2_with ((with_reducible show wpList _ _ _ (Oper.mk _ (Op.store 72 _ _) _ _ _ _::_) _ _);refine wpList_store_row rfl 72 _ _ rfl b0 #[.int .i64 V1,.int .i64 V2,.int .i64 V3,.int .i64 V4,.int .u32 V5,.int .u64 V6,.int .u32 0,.int .i64 V8,.int .i64 V9,.slice a5 n5 k5,.slice a8 n8 k8] rfl rfl 72 _ hR7 (by kernel_rfl) rfl (by simp[Value.oneCell']) ?_)
     have own': ∀{v:Value} {n:Nat} {xs:List Value},w7.ownsRow W3.heap.size 5 1 v n xs→(w7.setRow b0 #[.int .i64 V1,.int .i64 V2,.int .i64 V3,.int .i64 V4,.int .u32 V5,.int .u64 V6,.int .u32 0,.int .i64 V8,.int .i64 V9,.slice a5 n5 k5,.slice a8 n8 k8]).ownsRow w.heap.size 5 1 v n xs:=fun h=>ownsRow_le (qf h (fun g g1 _=>setRow_other _ _ _ _ (by omega))) (by omega)
     exact Bp (qz rfl _ _ b0 _ _ _ _ rfl (setRow_heap _ b0 _ _ _ _ hR7) Tryz.underlying72 rfl (by kernel_rfl)) rfl ⟨⟨_,_,rfl,own' os,own' op⟩,by rw[hb0];exact below_setRow hB7 Nl _⟩
theorem zA (zs:List Int)(b off cap:Nat)(w:World)(hB:Qf w b off zs)(hz: ∀z∈zs,0≤z∧z≤255)(hcap:32≤cap)(hcap2:(cap:Int)≤9223372036854775807)(hl:zs.length=32)(hk0:1≤qm zs 0∧qm zs 0≤32)(hk1:qm zs 1≤32)(hk3:1≤qm zs 3)(hk9:qm zs 15≤32):
  Calls Tryz.prog 104 #[.int .i64 2,.slice (some ⟨b,off,none⟩) 32 cap,.bool false] w fun e w'=>(∃sa pe,e= .returned (.tuple #[yq (qm zs 0) (qm zs 1) (qm zs 2) (qm zs 3) (qT zs 4 4) (qT zs 8 6) 0 (qm zs 14) (qm zs 15) sa pe,.int .i64 0])∧w'.ownsRow w.heap.size 5 1 sa (qW ((zs.drop 16).take 8) 8) ((((zs.drop 16).take 8).take (qW ((zs.drop 16).take 8) 8)).map qo)∧w'.ownsRow w.heap.size 5 1 pe (qW ((zs.drop 24).take 8) 8) ((((zs.drop 24).take 8).take (qW ((zs.drop 24).take 8) 8)).map qo))∧Below w.heap.size w w':=by
 obtain⟨h1,h2⟩:=id hB;have HC:=hid h2;have HB:=hid hB;clear h2 hB;obtain⟨i0,hi,hy0,hy1,hy2⟩:=info_parts JW;obtain⟨V1,hV1⟩:=Ex (QM false false zs 1);have hY1:0≤V1∧V1<256:=by have:=qJ (big:=false) (ext:=false) hz hl (f:=1) (by omega) (by omega);rw[hV1]at this;simpa [szE,szB] using this
 have hN1:qm zs 0=V1:=by rw[←hV1];simp[QM,szE,szB,atB,Yu]
 rw[hN1]at hk0;try rw[hN1]
 obtain⟨V2,hV2⟩:=Ex (QM false false zs 2);have hY2:0≤V2∧V2<256:=by have:=qJ (big:=false) (ext:=false) hz hl (f:=2) (by omega) (by omega);rw[hV2]at this;simpa [szE,szB] using this
 have hN2:qm zs 1=V2:=by rw[←hV2];simp[QM,szE,szB,atB,Yu]
 rw[hN2]at hk1;try rw[hN2]
 obtain⟨V3,hV3⟩:=Ex (QM false false zs 3);have hY3:0≤V3∧V3<256:=by have:=qJ (big:=false) (ext:=false) hz hl (f:=3) (by omega) (by omega);rw[hV3]at this;simpa [szE,szB] using this
 have hN3:qm zs 2=V3:=by rw[←hV3];simp[QM,szE,szB,atB,Yu]
 try rw[hN3]
 obtain⟨V4,hV4⟩:=Ex (QM false false zs 4);have hY4:0≤V4∧V4<256:=by have:=qJ (big:=false) (ext:=false) hz hl (f:=4) (by omega) (by omega);rw[hV4]at this;simpa [szE,szB] using this
 have hN4:qm zs 3=V4:=by rw[←hV4];simp[QM,szE,szB,atB,Yu]
 rw[hN4]at hk3;try rw[hN4]
 obtain⟨V5,hV5⟩:=Ex (QM false false zs 5);have hY5:0≤V5∧V5<4294967296:=by have:=qJ (big:=false) (ext:=false) hz hl (f:=5) (by omega) (by omega);rw[hV5]at this;simpa [szE,szB] using this
 have hN5:qT zs 4 4=V5:=by rw[←hV5];simp[QM,szE,szB,atB,Yu]
 try rw[hN5]
 obtain⟨V6,hV6⟩:=Ex (QM false false zs 6);have hY6:0≤V6∧V6<281474976710656:=by have:=qJ (big:=false) (ext:=false) hz hl (f:=6) (by omega) (by omega);rw[hV6]at this;simpa [szE,szB] using this
 have hN6:qT zs 8 6=V6:=by rw[←hV6];simp[QM,szE,szB,atB,Yu]
 try rw[hN6]
 obtain⟨V7,hV7⟩:=Ex (QM false false zs 7);have hY7:0≤V7∧V7<65536:=by have:=qJ (big:=false) (ext:=false) hz hl (f:=7) (by omega) (by omega);rw[hV7]at this;simpa [szE,szB] using this
 have hN7:qT zs 12 2=V7:=by rw[←hV7];simp[QM,szE,szB,atB,Yu]
 try rw[hN7]
 obtain⟨V8,hV8⟩:=Ex (QM false false zs 8);have hY8:0≤V8∧V8<256:=by have:=qJ (big:=false) (ext:=false) hz hl (f:=8) (by omega) (by omega);rw[hV8]at this;simpa [szE,szB] using this
 have hN8:qm zs 14=V8:=by rw[←hV8];simp[QM,szE,szB,atB,Yu]
 try rw[hN8]
 obtain⟨V9,hV9⟩:=Ex (QM false false zs 9);have hY9:0≤V9∧V9<256:=by have:=qJ (big:=false) (ext:=false) hz hl (f:=9) (by omega) (by omega);rw[hV9]at this;simpa [szE,szB] using this
 have hN9:qm zs 15=V9:=by rw[←hV9];simp[QM,szE,szB,atB,Yu]
 rw[hN9]at hk9;try rw[hN9]
 have hs: ∀w:World,Calls Tryz.prog 103 #[.int .i64 2] w fun e w'=>e= .returned (.int .i64 32)∧w'=w:=yB false
 obtain⟨b0,hb0⟩:=Ex w.heap.size;have hbk:b<b0:=by rw[←hb0];exact h1
 have hSL: ∀W,Below b0 w W→Holds8 W (.slice (some ⟨b,off,none⟩) 32 cap) zs:=fun W hW=>⟨some ⟨b,off,none⟩,cap,by rw[hl],.inr ⟨b,off,rfl,Nat.lt_of_lt_of_le h1 hW.size,fun i hi=>(hW.cell (p:=⟨b,off+i,none⟩) hbk).trans (HC.out i hi)⟩⟩
 have HSL:=hid hSL;clear hSL;have hbA:Below b0 w (w.alloc (.cells #[.int .i64 0,.int .i64 0,.int .i64 0,.int .i64 0,.int .u32 0,.int .u64 0,.int .u32 0,.int .i64 0,.int .i64 0,.slice none 0 0,.slice none 0 0] 72)):=by rw[←hb0];exact Br.alloc Nl _
 have hRA:=Wn w (.cells #[.int .i64 0,.int .i64 0,.int .i64 0,.int .i64 0,.int .u32 0,.int .u64 0,.int .u32 0,.int .i64 0,.int .i64 0,.slice none 0 0,.slice none 0 0] 72);rw[hb0]at hRA;have hsA:(w.alloc (.cells #[.int .i64 0,.int .i64 0,.int .i64 0,.int .i64 0,.int .u32 0,.int .u64 0,.int .u32 0,.int .i64 0,.int .i64 0,.slice none 0 0,.slice none 0 0] 72)).heap.size=b0+1:=by simp[hb0]
 go_enter Tryz.func104,Tryz.ntmps104
 go_wp2_with fail
 refine(qaD false _ _ _ _).mono ?_;rintro e w1 ⟨⟨x,rfl,hx⟩,hw⟩;rw[hw];clear hw;obtain rfl:x=0:=hx.2 rfl;clear hx;generalize w.alloc (.cells #[.int .i64 0,.int .i64 0,.int .i64 0,.int .i64 0,.int .u32 0,.int .u64 0,.int .u32 0,.int .i64 0,.int .i64 0,.slice none 0 0,.slice none 0 0] 72)=w2 at*;have HR:=hid hRA;clear hRA;go_wp2_with fail
 go_loopw [9] (fun i wr=>i= .int .i64 18∧w2=wr) (fun _ _=>0)
 case atStart=>exact⟨rfl,rfl⟩
 case round=>
  obtain⟨rfl,rfl⟩:=hrel
  ·skip
   go_wp2_with fail
   have hown0:(w2.alloc (.cells #[.int .u64 0] 54)).ownsRow (b0+1) 54 1 (.slice (some ⟨b0+1,0,none⟩) 1 1) 1 (ZW false false zs 1):=by have:=World.ownsRow_lit (base:=b0+1) (e:=54) (size:=1) w2 #[.int .u64 0] 1 (by omega) (by decide) rfl;rwa[hsA]at this
   have hb20:Below (b0+1) w2 (w2.alloc (.cells #[.int .u64 0] 54)):=Br.alloc (by omega) _;go_loopw [10,11] (fun v f wr=> ∃(k:Nat),f= .int .i64 (k:Nat)∧1≤k∧k≤10∧wr.ownsRow (b0+1) 54 1 v k (ZW false false zs k)∧Below (b0+1) w2 wr) (fun _ i _=>10 - (intOf i).toNat)
   case atStart=>exact⟨1,rfl,by omega,by omega,hown0,hb20⟩
   case round=>
    clear hown0 hb20;obtain⟨f,rfl,hk1,hk2,hown,hb⟩:=hrel;have hsr:=hb.size;by_cases hlt:f≤9
    ·have hsz:=QJ false false f hk1 hlt;have hfv:QM false false zs f=qT zs (atB false f) (szE false false f):=if_neg (by omega);have e1:=hid (show ZW false false zs (f+1)=ZW false false zs f++[.int .u64 (qT zs (atB false f) (szE false false f))] by rw[ZW,hfv]);have k5:(f:Int)≤9:=by omega
     have HPL:=hid (Zr false f ⟨hk1,hlt⟩);obtain⟨at0,hat0⟩:=Ex (atB false f);obtain⟨sz0,hsz0⟩:=Ex (szB false f);obtain⟨sz1,hsz1⟩:=Ex (szE false false f);have HE1:=hid hsz1;have HE0:=hid hsz0;rw[hat0,hsz1]at e1;rw[hat0,hsz0]at HPL;rw[hat0,hsz1]at hsz;clear hfv hat0 hsz0 hsz1;obtain⟨j1,j2,j3,j4⟩:=hsz;have j5:at0+sz1≤zs.length:=by omega
     clear j4;have hbw:Below b0 w wr:=hbA.trans (hb.mono (by omega));by_cases hf6:f=6
     case pos=>
      subst hf6;go_wp2_with fail
      refine(HPL.out _).mono ?_;rintro r w4 ⟨rfl,hw⟩;rw[hw];clear hw;obtain rfl:sz1=sz0:=by rw[←HE1.out,←HE0.out];simp[szE]
      go_wp2_with fail
      refine(zh zs _ at0 sz1 _ (HSL.out _ hbw) hz (by omega) (by omega) (by omega)).mono ?_;rintro r w5 ⟨rfl,hw⟩;rw[hw];clear hw;go_wp2_with (at_builtin;refine wpList_append_own _ rfl _ _ 123 rfl (b0+1) 54 i0 (.int .u64 0) 1 8 Tryz.underlying123 hi hy0 hy1 hy2 rfl (by decide) _ _ _ rfl (hown.alloc _) ⟨wr.heap.size,0,none⟩ 1 1 [.int .u64 (qT zs at0 sz1)] rfl rfl (cell_one_new _ _ _) (by simp[Value.oneCell']) (by unfold maxLen;omega) (by omega) (by simp;omega) ?_;intro v' w6 hown' hgrow _;have hb3:Below (b0+1) w2 w6:=(hb.alloc (by omega) _).grown hgrow (by simp;omega) (fun k e=>(hown.lt k e).1))
      rw[←e1.out]at hown';refine⟨⟨7,rfl,by omega,by omega,hown',hb3⟩,?_⟩;first|(simp[intOf];done)|(simp[intOf];omega)
     case neg=>
      go_wp2_with fail
      refine(HPL.out _).mono ?_;rintro r w4 ⟨rfl,hw⟩;rw[hw];clear hw;obtain rfl:sz1=sz0:=by rw[←HE1.out,←HE0.out];simp[szE,hf6]
      have hf7: ¬((f:Int)=6):=by omega
      have hf8: ¬(f=6):=hf6;go_wp2_with fail
      refine(zh zs _ at0 sz1 _ (HSL.out _ hbw) hz (by omega) (by omega) (by omega)).mono ?_;rintro r w5 ⟨rfl,hw⟩;rw[hw];clear hw;go_wp2_with (at_builtin;refine wpList_append_own _ rfl _ _ 123 rfl (b0+1) 54 i0 (.int .u64 0) 1 8 Tryz.underlying123 hi hy0 hy1 hy2 rfl (by decide) _ _ _ rfl (hown.alloc _) ⟨wr.heap.size,0,none⟩ 1 1 [.int .u64 (qT zs at0 sz1)] rfl rfl (cell_one_new _ _ _) (by simp[Value.oneCell']) (by unfold maxLen;omega) (by omega) (by simp;omega) ?_;intro v' w6 hown' hgrow _;have hb3:Below (b0+1) w2 w6:=(hb.alloc (by omega) _).grown hgrow (by simp;omega) (fun k e=>(hown.lt k e).1))
      rw[←e1.out]at hown';refine⟨⟨f+1,rfl,by omega,by omega,hown',hb3⟩,?_⟩;first|(simp[intOf];done)|(simp[intOf];omega)
    ·obtain rfl:f=10:=by omega
     obtain⟨g,cg,cur,rfl,hg1,hg2,hg3,hg4⟩:=qge hown;have HROW:=hid hg2;have hcu1:cur[1]? =some (.int .u64 V1):=by rw[hg4 1 (by omega),Qq _ _ _ _ _ (by omega),hV1]
     have hcu2:cur[2]? =some (.int .u64 V2):=by rw[hg4 2 (by omega),Qq _ _ _ _ _ (by omega),hV2]
     have hcu3:cur[3]? =some (.int .u64 V3):=by rw[hg4 3 (by omega),Qq _ _ _ _ _ (by omega),hV3]
     have hcu4:cur[4]? =some (.int .u64 V4):=by rw[hg4 4 (by omega),Qq _ _ _ _ _ (by omega),hV4]
     have hcu5:cur[5]? =some (.int .u64 V5):=by rw[hg4 5 (by omega),Qq _ _ _ _ _ (by omega),hV5]
     have hcu6:cur[6]? =some (.int .u64 V6):=by rw[hg4 6 (by omega),Qq _ _ _ _ _ (by omega),hV6]
     have hcu7:cur[7]? =some (.int .u64 V7):=by rw[hg4 7 (by omega),Qq _ _ _ _ _ (by omega),hV7]
     have hcu8:cur[8]? =some (.int .u64 V8):=by rw[hg4 8 (by omega),Qq _ _ _ _ _ (by omega),hV8]
     have hcu9:cur[9]? =some (.int .u64 V9):=by rw[hg4 9 (by omega),Qq _ _ _ _ _ (by omega),hV9]
     have hgl:g<wr.heap.size:=(Ai hg2).1;have c7:=(qa hg2 7).trans hcu7;have f7:=frozen_of_row wr g 7 _ _ hg2;have hbz:Below b0 w wr:=hbA.trans (hb.mono (by omega));have hR8:wr.heap[b0]? =some (.cells #[.int .i64 0,.int .i64 0,.int .i64 0,.int .i64 0,.int .u32 0,.int .u64 0,.int .u32 0,.int .i64 0,.int .i64 0,.slice none 0 0,.slice none 0 0] 72 (0,0)):=(hb.block b0 (by omega)).trans HR.out;clear hg4 hown HR hb hlt hk1 hk2 hg2 hsA hbA hV1 hN1 hV2 hN2 hV3 hN3 hV4 hN4 hV5 hN5 hV6 hN6 hV7 hN7 hV8 hN8 hV9 hN9;go_upto_region 21 with(fail)
     have hrow8:=heap_setCell_same wr g 7 _ _ (.int .u64 0) HROW.out;have CV1:=hid ((qa hrow8 1).trans (show(cur.setIfInBounds 7 (.int .u64 0))[1]? =some (.int .u64 (V1)) by rw[Array.getElem?_setIfInBounds];simpa using hcu1));have CV2:=hid ((qa hrow8 2).trans (show(cur.setIfInBounds 7 (.int .u64 0))[2]? =some (.int .u64 (V2)) by rw[Array.getElem?_setIfInBounds];simpa using hcu2));have CV3:=hid ((qa hrow8 3).trans (show(cur.setIfInBounds 7 (.int .u64 0))[3]? =some (.int .u64 (V3)) by rw[Array.getElem?_setIfInBounds];simpa using hcu3));have CV4:=hid ((qa hrow8 4).trans (show(cur.setIfInBounds 7 (.int .u64 0))[4]? =some (.int .u64 (V4)) by rw[Array.getElem?_setIfInBounds];simpa using hcu4));have CV5:=hid ((qa hrow8 5).trans (show(cur.setIfInBounds 7 (.int .u64 0))[5]? =some (.int .u64 (V5)) by rw[Array.getElem?_setIfInBounds];simpa using hcu5));have CV6:=hid ((qa hrow8 6).trans (show(cur.setIfInBounds 7 (.int .u64 0))[6]? =some (.int .u64 (V6)) by rw[Array.getElem?_setIfInBounds];simpa using hcu6));have CV7:=hid ((qa hrow8 7).trans (show(cur.setIfInBounds 7 (.int .u64 0))[7]? =some (.int .u64 (0)) by rw[Array.getElem?_setIfInBounds];simp;omega));have CV8:=hid ((qa hrow8 8).trans (show(cur.setIfInBounds 7 (.int .u64 0))[8]? =some (.int .u64 (V8)) by rw[Array.getElem?_setIfInBounds];simpa using hcu8));have CV9:=hid ((qa hrow8 9).trans (show(cur.setIfInBounds 7 (.int .u64 0))[9]? =some (.int .u64 (V9)) by rw[Array.getElem?_setIfInBounds];simpa using hcu9));have hb8:Below b0 w (wr.setCell ⟨g,7,none⟩ (.int .u64 0)):=hbz.setCell (by show b0≤g;omega) _;have hR9:(wr.setCell ⟨g,7,none⟩ (.int .u64 0)).heap[b0]? =some (.cells #[.int .i64 0,.int .i64 0,.int .i64 0,.int .i64 0,.int .u32 0,.int .u64 0,.int .u32 0,.int .i64 0,.int .i64 0,.slice none 0 0,.slice none 0 0] 72 (0,0)):=(heap_setCell_other wr _ _ _ (by show b0≠g;omega)).trans hR8;have hsz8:(wr.setCell ⟨g,7,none⟩ (.int .u64 0)).heap.size=wr.heap.size:=by simp[World.setCell]
     rw[←hsz8]at hgl hsr;clear hbz HROW hrow8 hsz8 c7 f7 hR8;generalize wr.setCell ⟨g,7,none⟩ (.int .u64 0)=W8 at*;have hR8:=hR9;clear hR9;clear hcu1 hcu2 hcu3 hcu4 hcu5 hcu6 hcu7 hcu8 hcu9 hg3;go_wp2_with fail
     refine(hs _).mono ?_;rintro r w9 ⟨rfl,hw⟩;rw[hw];clear hw;go_upto_region 22 with(fail)
     refine qy (n:=49) (w0:=W8) (B:=W8.heap.size) [.v 72 (.slice (some ⟨g,0,none⟩) 10 cg),.v 73 (.pointer (some ⟨g,1,none⟩)),.v 74 (.int .u64 V1),.v 75 (.int .i64 V1),.v 76 (.slice (some ⟨g,0,none⟩) 10 cg),.v 77 (.pointer (some ⟨g,2,none⟩)),.v 78 (.int .u64 V2),.v 79 (.int .i64 V2),.v 80 (.slice (some ⟨g,0,none⟩) 10 cg),.v 81 (.pointer (some ⟨g,3,none⟩)),.v 82 (.int .u64 V3),.v 83 (.int .i64 V3),.v 84 (.slice (some ⟨g,0,none⟩) 10 cg),.v 85 (.pointer (some ⟨g,4,none⟩)),.v 86 (.int .u64 V4),.v 87 (.int .i64 V4),.v 88 (.slice (some ⟨g,0,none⟩) 10 cg),.v 89 (.pointer (some ⟨g,5,none⟩)),.v 90 (.int .u64 V5),.v 91 (.int .u32 V5),.v 92 (.slice (some ⟨g,0,none⟩) 10 cg),.v 93 (.pointer (some ⟨g,6,none⟩)),.v 94 (.int .u64 V6),.v 95 (.slice (some ⟨g,0,none⟩) 10 cg),.v 96 (.pointer (some ⟨g,7,none⟩)),.v 97 (.int .u64 0),.v 98 (.int .u32 0),.v 99 (.slice (some ⟨g,0,none⟩) 10 cg),.v 100 (.pointer (some ⟨g,8,none⟩)),.v 101 (.int .u64 V8),.v 102 (.int .i64 V8),.v 103 (.slice (some ⟨g,0,none⟩) 10 cg),.v 104 (.pointer (some ⟨g,9,none⟩)),.v 105 (.int .u64 V9),.v 106 (.int .i64 V9),.v 107 (.slice (some ⟨b,off,none⟩) 32 cap),.v 108 (.int .i64 8),.v 109 (.int .i64 16),.v 110 (.int .i64 8),.v 111 (.int .i64 24),.v 112 (.slice (some ⟨b,off+16,none⟩) 8 (cap - 16)),.v 113 (.slice (some ⟨b,off,none⟩) 32 cap),.v 114 (.int .i64 8),.v 115 (.int .i64 24),.v 116 (.int .i64 8),.v 117 (.int .i64 32),.v 118 (.slice (some ⟨b,off+24,none⟩) 8 (cap - 24)),.v 119 (.agg #[.int .i64 V1,.int .i64 V2,.int .i64 V3,.int .i64 V4,.int .u32 V5,.int .u64 V6,.int .u32 0,.int .i64 V8,.int .i64 V9,.slice (some ⟨b,off+16,none⟩) 8 (cap - 16),.slice (some ⟨b,off+24,none⟩) 8 (cap - 24)]),.p 15 (fun u W=> ∃p,u= .pointer (some ⟨p,0,none⟩)∧W8.heap.size≤p∧W.heap[p]? =some (.cells #[.int .i64 0,.int .i64 0,.int .i64 0,.int .i64 0,.int .u32 0,.int .u64 0,.int .u32 0,.int .i64 0,.int .i64 0,.slice none 0 0,.slice none 0 0] 72 (0,0)))] (by exact⟨(fun _ _ _ h hb=>by obtain⟨p,e,h3,h4⟩:=h;exact⟨p,e,h3,qe h4 hb⟩),trivial⟩) Br.drew Nl ?_ ?_
     ·repeat' (with_reducible first|exact qw|refine qu ?_ ?_)
      all_goals try
       intro A x W hA hW hBW hdep D K hK;have a10:=hA.2 10 (by decide);conv at a10=>rhs;whnf
       have a1:=hA.2 1 (by decide);conv at a1=>rhs;whnf
       have a14:=hA.2 14 (by decide);conv at a14=>rhs;whnf
       simp only[QN,Q0]at D;clear hdep hA;first
       | go_simp
         exact hK _ _ BR rfl
       | have y0:=(hW.cell (p:=⟨g,1,none⟩) hgl).trans CV1.out
         have y1:g<W.heap.size:=by omega
         have y2:IntKind.i64.wrap V1=V1:=by rw[IntKind.wrap_i64];omega
         have y3:=(hW.cell (p:=⟨g,2,none⟩) hgl).trans CV2.out;have y4:IntKind.i64.wrap V2=V2:=by rw[IntKind.wrap_i64];omega
         have y5:=(hW.cell (p:=⟨g,3,none⟩) hgl).trans CV3.out;have y6:IntKind.i64.wrap V3=V3:=by rw[IntKind.wrap_i64];omega
         have y7:=(hW.cell (p:=⟨g,4,none⟩) hgl).trans CV4.out;have y8:IntKind.i64.wrap V4=V4:=by rw[IntKind.wrap_i64];omega
         have y9:=(hW.cell (p:=⟨g,5,none⟩) hgl).trans CV5.out;have y10:IntKind.u32.wrap V5=V5:=u32_wrap_id _ (by omega) (by omega);have y11:=(hW.cell (p:=⟨g,6,none⟩) hgl).trans CV6.out;have y12:=(hW.cell (p:=⟨g,7,none⟩) hgl).trans CV7.out;have y13:=(hW.cell (p:=⟨g,8,none⟩) hgl).trans CV8.out;have y14:IntKind.i64.wrap V8=V8:=by rw[IntKind.wrap_i64];omega
         have y15:=(hW.cell (p:=⟨g,9,none⟩) hgl).trans CV9.out;have y16:IntKind.i64.wrap V9=V9:=by rw[IntKind.wrap_i64];omega
         have y17: ¬cap=16:=by omega
         have y18: ¬cap=24:=by omega
         have y19:32≤(cap:Int):=by omega
         have y20:24≤(cap:Int):=by omega
         go_simp
         exact hK _ _ BR rfl
      ·intro A x W hA hW hBW hdep _ K hK;have g75:=gv hA hdep 3 75;have g79:=gv hA hdep 7 79;have g83:=gv hA hdep 11 83;have g87:=gv hA hdep 15 87;have g91:=gv hA hdep 19 91;have g94:=gv hA hdep 22 94;have g98:=gv hA hdep 26 98;have g102:=gv hA hdep 30 102;have g106:=gv hA hdep 34 106;have g112:=gv hA hdep 40 112;have g118:=gv hA hdep 46 118;clear hdep hA;refine YM 72 _ rfl #[.int .i64 V1,.int .i64 V2,.int .i64 V3,.int .i64 V4,.int .u32 V5,.int .u64 V6,.int .u32 0,.int .i64 V8,.int .i64 V9,.slice (some ⟨b,off+16,none⟩) 8 (cap - 16),.slice (some ⟨b,off+24,none⟩) 8 (cap - 24)] ?_ (hK _ _ Br rfl);simp only[List.map_toArray,List.map_cons,List.map_nil,Act.eval,g75,g79,g83,g87,g91,g94,g98,g102,g106,g112,g118];kernel_rfl
      ·intro A x W hA hW hBW hdep _ K hK;clear hdep hA;go_simp
       exact hK _ _ (Br.alloc Nl _) ⟨W.heap.size,rfl,hBW,Wn W _⟩
     intro x W hW hBW hall;obtain⟨e15, -⟩:=hall;change (fun u W=> ∃p,u= .pointer (some ⟨p,0,none⟩)∧W8.heap.size≤p∧W.heap[p]? =some (.cells #[.int .i64 0,.int .i64 0,.int .i64 0,.int .i64 0,.int .u32 0,.int .u64 0,.int .u32 0,.int .i64 0,.int .i64 0,.slice none 0 0,.slice none 0 0] 72 (0,0))) (x 15) W at e15
     obtain⟨p,ep,hp1,hp2⟩:=e15;refine qn ?_;simp only[Qw,Act.put,Ls,ep];refine wpList_store_row rfl 72 _ _ rfl p #[.int .i64 V1,.int .i64 V2,.int .i64 V3,.int .i64 V4,.int .u32 V5,.int .u64 V6,.int .u32 0,.int .i64 V8,.int .i64 V9,.slice (some ⟨b,off+16,none⟩) 8 (cap - 16),.slice (some ⟨b,off+24,none⟩) 8 (cap - 24)] rfl rfl 72 _ hp2 (by kernel_rfl) rfl (by simp[Value.oneCell']) ?_;refine qt ?_;have hB3:Below W8.heap.size W8 (W.setRow p #[.int .i64 V1,.int .i64 V2,.int .i64 V3,.int .i64 V4,.int .u32 V5,.int .u64 V6,.int .u32 0,.int .i64 V8,.int .i64 V9,.slice (some ⟨b,off+16,none⟩) 8 (cap - 16),.slice (some ⟨b,off+24,none⟩) 8 (cap - 24)]):=below_setRow hW hp1 _;have hR3:=setRow_heap W p _ #[.int .i64 V1,.int .i64 V2,.int .i64 V3,.int .i64 V4,.int .u32 V5,.int .u64 V6,.int .u32 0,.int .i64 V8,.int .i64 V9,.slice (some ⟨b,off+16,none⟩) 8 (cap - 16),.slice (some ⟨b,off+24,none⟩) 8 (cap - 24)] _ _ hp2;generalize W.setRow p #[.int .i64 V1,.int .i64 V2,.int .i64 V3,.int .i64 V4,.int .u32 V5,.int .u64 V6,.int .u32 0,.int .i64 V8,.int .i64 V9,.slice (some ⟨b,off+16,none⟩) 8 (cap - 16),.slice (some ⟨b,off+24,none⟩) 8 (cap - 24)]=W3 at hB3 hR3⊢;clear ep hp2 hW hBW x W;have hs3:=hB3.size;have hb3:Below b0 w W3:=hb8.trans (hB3.mono (by omega));have hR0:W3.heap[b0]? =some (.cells #[.int .i64 0,.int .i64 0,.int .i64 0,.int .i64 0,.int .u32 0,.int .u64 0,.int .u32 0,.int .i64 0,.int .i64 0,.slice none 0 0,.slice none 0 0] 72 (0,0)):=(hB3.block b0 (by omega)).trans hR8;have hBT:Qf W3 b off zs:=⟨Nat.lt_of_lt_of_le h1 hb3.size,fun i hi=>(hb3.cell (p:=⟨b,off+i,none⟩) hbk).trans (HC.out i hi)⟩;have hNM:=jb false V1 V2 V3 V4 V5 V6 V8 V9 ((zs.drop 16).take 8) ((zs.drop 24).take 8) b (off+16) (cap - 16) b (off+24) (cap - 24) W3 (Yp hBT (by omega)) (Yp hBT (by omega)) (by rw[Qm (by omega)];omega) (by rw[Qm (by omega)];omega) (by rw[Qm (by omega)];decide) (by rw[Qm (by omega)];decide) ⟨by simp only[mB,cond];omega,by simp only[mB,cond];omega,by omega,by omega,⟨by omega,fun h=>by omega⟩,by omega,by simp only[mB,cond];omega⟩;rw[Qm (by omega),Qm (by omega)]at hNM;have HNM:=hid hNM;clear hNM hBT hB3;go_wp2_with ((with_reducible show wpList _ _ _ (Oper.mk _ (Op.load 72 _) _ _ _ _::_) _ _);refine wpList_load_row rfl 72 _ rfl p rfl _ _ _ _ hR3 Tryz.underlying72 rfl (by kernel_rfl) ?_)
     refine HNM.out.mono ?_;rintro r w7 ⟨⟨sa,pe,rfl,os,op⟩,hb7⟩;clear HNM;have hR7:=qe hR0 hb7;have hB7:Below b0 w w7:=hb3.trans (hb7.mono (by omega));obtain⟨a5,n5,k5,rfl⟩:=qp os;obtain⟨a8,n8,k8,rfl⟩:=qp op;unfold yq;go_wp2_with ((with_reducible show wpList _ _ _ (Oper.mk _ (Op.store 72 _ _) _ _ _ _::_) _ _);refine wpList_store_row rfl 72 _ _ rfl b0 #[.int .i64 V1,.int .i64 V2,.int .i64 V3,.int .i64 V4,.int .u32 V5,.int .u64 V6,.int .u32 0,.int .i64 V8,.int .i64 V9,.slice a5 n5 k5,.slice a8 n8 k8] rfl rfl 72 _ hR7 (by kernel_rfl) rfl (by simp[Value.oneCell']) ?_)
     have own': ∀{v:Value} {n:Nat} {xs:List Value},w7.ownsRow W3.heap.size 5 1 v n xs→(w7.setRow b0 #[.int .i64 V1,.int .i64 V2,.int .i64 V3,.int .i64 V4,.int .u32 V5,.int .u64 V6,.int .u32 0,.int .i64 V8,.int .i64 V9,.slice a5 n5 k5,.slice a8 n8 k8]).ownsRow w.heap.size 5 1 v n xs:=fun h=>ownsRow_le (qf h (fun g g1 _=>setRow_other _ _ _ _ (by omega))) (by omega)
     exact Bp (qz rfl _ _ b0 _ _ _ _ rfl (setRow_heap _ b0 _ _ _ _ hR7) Tryz.underlying72 rfl (by kernel_rfl)) rfl ⟨⟨_,_,rfl,own' os,own' op⟩,by rw[hb0];exact below_setRow hB7 Nl _⟩
end Go.Proofs.YtdndeffmlhaipaaGreatDoor

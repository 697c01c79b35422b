/- Two slices of bytes compared, by the program and by the reference. No condition. -/
import Derived.Test.YtdndeffmlhaipaaGreatDoorM19
import Derived.Laws.BytesArg
import Derived.BigQuiet
import Derived.Deep.QuietTactic
import Derived.Test.YtdndeffmlhaipaaGreatDoorM29
set_option linter.all false
set_option maxRecDepth 100000
set_option maxHeartbeats 8000000
namespace Go.Proofs.YtdndeffmlhaipaaGreatDoor
open Go.ChangeShapes Go.WideShapes Go.ChangeAt Go.RowKit Go.Joins Go.Shelf Go.Maps
open Go.Lib (hid)
attribute [local go_sem] Oper.semAt_some
theorem JN {xs ys:List Int}(hx: ∀z∈xs,0≤z∧z≤255)(hy: ∀z∈ys,0≤z∧z≤255):strOfNums xs=strOfNums ys↔xs=ys:=by
  refine⟨fun h=>?_,fun h=>by rw[h]⟩;have h1:(xs.map fun n=>UInt8.ofNat n.toNat)=ys.map fun n=>UInt8.ofNat n.toNat:=by rw[←strOfNums_data,←strOfNums_data,h]
  clear h;induction xs generalizing ys with
  | nil=>cases ys with
    | nil=>rfl
    | cons y ys=>simp at h1
  | cons x xs ih=>cases ys with
    | nil=>simp at h1
    | cons y ys=>
      simp only[List.map_cons,List.cons.injEq]at h1;have e:=ih (fun z hz=>hx z (.tail _ hz)) (fun z hz=>hy z (.tail _ hz)) h1.2;have b1:=hx x (.head _);have b2:=hy y (.head _);have e2:=congrArg UInt8.toNat h1.1;simp only[UInt8.toNat_ofNat']at e2;rw[e,show x=y by omega]
theorem qeI {s t:ByteArray}:s=t↔(s.toList==t.toList)=true:=by
  rw[beq_iff_eq,ByteArray.toList_eq,ByteArray.toList_eq];exact⟨fun h=>by rw[h],fun h=>bytes_inj h⟩
theorem qba {xs ys:List Int}(hl:xs.length=ys.length)(h: ∀j,j<xs.length→qp xs j=qp ys j):xs=ys:=by
  apply List.ext_getElem hl
  intro i h1 h2;have:=h i h1
  simpa [qp,Lg,h1,h2] using this
theorem qal {w:World}{v:Value}{zs:List Int}(h:Hold w v zs):(convert 24 9 v).run Tryz.prog w= .ok (.string (strOfNums zs)) w:=by
  have hs:Tryz.prog.underlying 24=some (.slice 5):=by kernel_rfl
  have he:Tryz.prog.underlying 5=some (.int .u8):=by kernel_rfl
  have hd:Tryz.prog.underlying 9=some .string:=by kernel_rfl
  rcases h.2 with⟨rfl,rfl⟩|⟨ad,cap,rfl,h1,h2,h3⟩
  · exact run_convert_bytes_nil w _ _ hs he _ _ _ hd
  · rcases h3 with rfl|⟨b,off,rfl,h4,h5⟩
    · rw[run_convert_bytes_string w _ _ _ _ _ _ hs he hd,run_bytesToString w ad _ cap [] (by simp[loadCells,loadCellsFrom,Sem.run_pure])]
      rfl
    · exact run_convert_bytes_arg w _ _ hs he b off zs.length cap zs rfl h5 _ hd
theorem zH (xs ys:List Int)(u v:Value)(w:World)(hu:Hold w u xs)(hv:Hold w v ys):
    Calls Tryz.prog 31 #[u,v] w fun e w'=>e= .returned (.bool (decide (xs=ys)))∧w'=w:=by
  have h1:=qal hu;have h2:=qal hv;have e:decide (xs=ys)=((strOfNums xs).toList==(strOfNums ys).toList):=by
    rw[Bool.eq_iff_iff,decide_eq_true_eq,←JN hu.1 hv.1];exact qeI
  rw[e];clear hu hv e;generalize strOfNums xs=s at*;generalize strOfNums ys=t at*;go_enter Tryz.func31,Tryz.ntmps31
  go_wp2
  go_ret
  exact⟨rfl,rfl⟩
theorem Zn (xs ys:List Int)(u v:Value)(w:World)(hu:Hold w u xs)(hv:Hold w v ys):
    Calls Tryz.prog 26 #[u,v] w fun e w'=>e= .returned (.bool (decide (xs=ys)))∧ ∃m,w'=w.drewN m:=by
  obtain⟨a,cap,rfl,hc1,hc2⟩:=hu.slice;obtain⟨a',cap',rfl,hc1',hc2'⟩:=hv.slice;have hx:=hu.1;have hy:=hv.1;obtain⟨a2,cap2,e,h⟩:=hu.holds8;obtain⟨a3,cap3,e',h'⟩:=hv.holds8;simp only[Value.slice.injEq,true_and]at e e';obtain⟨rfl,rfl⟩:=e;obtain⟨rfl,rfl⟩:=e';by_cases hl:xs.length=ys.length
  case neg=>
    have e:decide (xs=ys)=false:=decide_eq_false (fun e=>hl (by rw[e]));have hq:((xs.length:Int) != ys.length)=true:=by rw[bne_iff_ne];omega
    rw[e];clear h h' hu hv hc1 hc2 hc1' hc2' hx hy hl e;go_enter Tryz.func26,Tryz.ntmps26
    go_wp2
    go_ret
    exact⟨rfl,0,rfl⟩
  have hq:((xs.length:Int) != ys.length)=false:=by simp[hl]
  have hmax:(xs.length:Int)≤9223372036854775807:=by omega
  by_cases h0:xs=[]
  · subst h0
    obtain rfl:ys=[]:=List.eq_nil_of_length_eq_zero hl.symm;clear h h' hu hv;go_enter Tryz.func26,Tryz.ntmps26
    go_wp2_with fail
    go_loopw [5] (fun i wr=>i= .int .i64 0∧w=wr) (fun _ _=>0)
    case atStart=>exact⟨rfl,rfl⟩
    case round=>
      obtain⟨rfl,rfl⟩:=hrel;go_wp2
      go_ret
      exact⟨rfl,0,rfl⟩
  have h0':ys≠[]:=fun e=>h0 (List.eq_nil_of_length_eq_zero (by rw[hl,e];rfl))
  obtain⟨b,off,rfl,hb1,hb2⟩:=h.resolve_left h0;obtain⟨b',off',rfl,hb1',hb2'⟩:=h'.resolve_left h0';have H2:=hid hb2;have H2':=hid hb2';have HX:=hid hx;have HY:=hid hy;have HL:=hid hl;obtain⟨r,hr⟩: ∃r,decide (xs=ys)=r:=⟨_,rfl⟩;rw[hr];have HR:=hid hr;clear h h' hb2 hb2' hu hv hx hy h0 h0' hr;go_enter Tryz.func26,Tryz.ntmps26
  go_wp2_with fail
  go_loopw [5] (fun i wr=> ∃(k n:Nat),i= .int .i64 k∧k≤xs.length∧wr=w.drewN n∧Hid (∀j,j<k→qp xs j=qp ys j)) (fun i _=>xs.length - (intOf i).toNat)
  case atStart=>exact⟨0,0,rfl,Nat.zero_le _,rfl,hid (fun j hj=>absurd hj (Nat.not_lt_zero _))⟩
  case round=>
    obtain⟨k,n,rfl,hk,rfl,HP⟩:=hrel;by_cases hlt:k<xs.length
    · have e1:w.cell? ⟨b,off+k,none⟩=some (.int .u8 (qp xs k)):=H2.out k hlt
      have e2:w.cell? ⟨b',off'+k,none⟩=some (.int .u8 (qp ys k)):=H2'.out k (by omega);obtain⟨zx,hzx⟩:=Ex (qp xs k);obtain⟨zy,hzy⟩:=Ex (qp ys k);rw[hzx]at e1;rw[hzy]at e2;have HZ:=hid (show qp xs k=zx∧qp ys k=zy from⟨hzx,hzy⟩);clear hzx hzy;obtain⟨q,hqq⟩: ∃q,(zx != zy)=q:=⟨_,rfl⟩
      cases q
      case false=>
        go_wp2
        go_quiet (fail)
        go_wp2
        exact⟨⟨k+1,n+nq,by go_num,by omega,rfl,hid (fun j hj=>by
          rcases Nat.lt_or_ge j k with h|h
          · exact HP.out j h
          · obtain rfl:j=k:=by omega
            rw[HZ.out.1,HZ.out.2];simpa using hqq)⟩,by simp[intOf];omega⟩
      case true=>
        obtain rfl:r=false:=by
          rw[←HR.out,decide_eq_false];rintro rfl
          rw[bne_iff_ne]at hqq;exact hqq (HZ.out.1.symm.trans HZ.out.2)
        go_wp2
        go_quiet (fail)
        go_wp2
        go_ret
        exact⟨rfl,n+nq,by rw[World.drewN_drewN]⟩
    · obtain rfl:k=xs.length:=by omega
      obtain rfl:r=true:=by
        rw[←HR.out,decide_eq_true];exact qba HL.out (fun j hj=>HP.out j hj)
      go_wp2
      go_ret
      exact⟨rfl,n,rfl⟩
theorem cBD {B:Nat}{a w:World}{n:Nat}(h:Below B a w):Below B a (w.drewN n):=⟨h.os,h.tape,h.output,h.size,h.block⟩
def CallM (w:World)(v:Value)(c:CallS):Prop:= ∃bv kv dv,v= .agg (qx c.k bv kv c.la c.o dv)∧Hold w bv c.bs∧Hold w kv c.kz∧Hold w dv c.ds
theorem CallM.below {w w':World}{v:Value}{c:CallS}(h:CallM w v c)(hb:Below w.heap.size w w'):CallM w' v c:=by
  obtain⟨bv,kv,dv,e,h1,h2,h3⟩:=h;exact⟨bv,kv,dv,e,h1.below hb,h2.below hb,h3.below hb⟩
def yB (a b:CallS):Bool:=(a.k==b.k)&&((a.la==b.la)&&((a.o==b.o)&&(decide (a.bs=b.bs)&&(decide (a.kz=b.kz)&&decide (a.ds=b.ds)))))
theorem YA (a b:CallS):yB a b=true↔a=b:=by
  obtain⟨k1,xs1,xs2,la1,o1,xs3⟩:=a;obtain⟨k2,ys1,ys2,la2,o2,ys3⟩:=b;unfold yB;simp only[Bool.and_eq_true,beq_iff_eq,decide_eq_true_eq,CallS.mk.injEq];exact⟨fun⟨h1,h2,h3,h4,h5,h6⟩=>⟨h1,h4,h5,h2,h3,h6⟩,fun⟨h1,h4,h5,h2,h3,h6⟩=>⟨h1,h2,h3,h4,h5,h6⟩⟩
theorem Zl (a:CallS):yB a a=true:=by simp[yB]
theorem yl (a b:CallS)(va vb:Value)(w:World)(ha:CallM w va a)(hb:CallM w vb b):
    Calls Tryz.prog 15 #[va,vb] w fun e w'=>e= .returned (.bool (! yB a b))∧Below w.heap.size w w':=by
  obtain⟨bv1,kv1,dv1,rfl,h1,h2,h3⟩:=ha;obtain⟨bv2,kv2,dv2,rfl,h4,h5,h6⟩:=hb;unfold yB;obtain⟨k1,xs1,xs2,la1,o1,xs3⟩:=a;obtain⟨k2,ys1,ys2,la2,o2,ys3⟩:=b;dsimp only at*;obtain⟨b0,hb0⟩:=Ex w.heap.size;obtain⟨b1,hb1⟩:=Ex ((w.alloc (.cells (qx k1 bv1 kv1 la1 o1 dv1) 40)).heap.size);have hsz:w.heap.size<(w.alloc (.cells (qx k1 bv1 kv1 la1 o1 dv1) 40)).heap.size:=(Ai (Wn w (.cells (qx k1 bv1 kv1 la1 o1 dv1) 40))).1;have hne:b0<b1:=by rw[←hb0,←hb1];exact hsz
  have hbA:Below b0 w ((w.alloc (.cells (qx k1 bv1 kv1 la1 o1 dv1) 40)).alloc (.cells (qx k2 bv2 kv2 la2 o2 dv2) 40)):=by rw[←hb0];exact(Br.alloc Nl _).alloc (Nat.le_of_lt hsz) _
  have r0:((w.alloc (.cells (qx k1 bv1 kv1 la1 o1 dv1) 40)).alloc (.cells (qx k2 bv2 kv2 la2 o2 dv2) 40)).heap[b0]? =some (.cells (qx k1 bv1 kv1 la1 o1 dv1) 40 (0,0)):=by
    rw[←hb0];exact(Bh _ _ _ hsz).trans (Wn w _)
  have r1:((w.alloc (.cells (qx k1 bv1 kv1 la1 o1 dv1) 40)).alloc (.cells (qx k2 bv2 kv2 la2 o2 dv2) 40)).heap[b1]? =some (.cells (qx k2 bv2 kv2 la2 o2 dv2) 40 (0,0)):=by
    rw[←hb1];exact Wn (w.alloc _) _
  have H1:=hid (h1.below (hb0▸hbA));have H2:=hid (h2.below (hb0▸hbA));have H3:=hid (h3.below (hb0▸hbA));have H4:=hid (h4.below (hb0▸hbA));have H5:=hid (h5.below (hb0▸hbA));have H6:=hid (h6.below (hb0▸hbA));clear h1 h2 h3 h4 h5 h6;obtain⟨q1,hq1⟩: ∃q,(k1==k2)=q:=⟨_,rfl⟩;obtain⟨q2,hq2⟩: ∃q,(la1==la2)=q:=⟨_,rfl⟩;obtain⟨q3,hq3⟩: ∃q,(o1==o2)=q:=⟨_,rfl⟩;obtain⟨q4,hq4⟩: ∃q,decide (xs1=ys1)=q:=⟨_,rfl⟩;obtain⟨q5,hq5⟩: ∃q,decide (xs2=ys2)=q:=⟨_,rfl⟩;obtain⟨q6,hq6⟩: ∃q,decide (xs3=ys3)=q:=⟨_,rfl⟩;rw[hq1,hq2,hq3,hq4,hq5,hq6];have hn1:(k1 != k2)= !q1:=by rw[←hq1];rfl
  have hn2:(la1 != la2)= !q2:=by rw[←hq2];rfl
  have hn3:(o1 != o2)= !q3:=by rw[←hq3];rfl
  have S4:=hid (show ∀W,Below ((w.alloc (.cells (qx k1 bv1 kv1 la1 o1 dv1) 40)).alloc (.cells (qx k2 bv2 kv2 la2 o2 dv2) 40)).heap.size ((w.alloc (.cells (qx k1 bv1 kv1 la1 o1 dv1) 40)).alloc (.cells (qx k2 bv2 kv2 la2 o2 dv2) 40)) W→Calls Tryz.prog 31 #[bv1,bv2] W fun e w'=>e= .returned (.bool q4)∧w'=W from fun W hW=>hq4▸zH _ _ _ _ W (H1.out.below hW) (H4.out.below hW));have S5:=hid (show ∀W,Below ((w.alloc (.cells (qx k1 bv1 kv1 la1 o1 dv1) 40)).alloc (.cells (qx k2 bv2 kv2 la2 o2 dv2) 40)).heap.size ((w.alloc (.cells (qx k1 bv1 kv1 la1 o1 dv1) 40)).alloc (.cells (qx k2 bv2 kv2 la2 o2 dv2) 40)) W→Calls Tryz.prog 31 #[kv1,kv2] W fun e w'=>e= .returned (.bool q5)∧w'=W from fun W hW=>hq5▸zH _ _ _ _ W (H2.out.below hW) (H5.out.below hW));have S6:=hid (show ∀W,Below ((w.alloc (.cells (qx k1 bv1 kv1 la1 o1 dv1) 40)).alloc (.cells (qx k2 bv2 kv2 la2 o2 dv2) 40)).heap.size ((w.alloc (.cells (qx k1 bv1 kv1 la1 o1 dv1) 40)).alloc (.cells (qx k2 bv2 kv2 la2 o2 dv2) 40)) W→Calls Tryz.prog 31 #[dv1,dv2] W fun e w'=>e= .returned (.bool q6)∧w'=W from fun W hW=>hq6▸zH _ _ _ _ W (H3.out.below hW) (H6.out.below hW));clear hq4 hq5 hq6 H1 H2 H3 H4 H5 H6;unfold qx at*;go_enter Tryz.func15,Tryz.ntmps15
  go_upto_region 1 with(fail)
  generalize ((w.alloc (.cells #[.int .i64 k1,bv1,kv1,.bool la1,.int .i64 o1,dv1] 40)).alloc (.cells #[.int .i64 k2,bv2,kv2,.bool la2,.int .i64 o2,dv2] 40))=W at*;have c00:W.cell? ⟨b0,0,none⟩=some (.int .i64 k1):=qa r0 0;have c01:W.cell? ⟨b0,1,none⟩=some (bv1):=qa r0 1;have c02:W.cell? ⟨b0,2,none⟩=some (kv1):=qa r0 2;have c03:W.cell? ⟨b0,3,none⟩=some (.bool la1):=qa r0 3;have c04:W.cell? ⟨b0,4,none⟩=some (.int .i64 o1):=qa r0 4;have c05:W.cell? ⟨b0,5,none⟩=some (dv1):=qa r0 5;have c10:W.cell? ⟨b1,0,none⟩=some (.int .i64 k2):=qa r1 0;have c11:W.cell? ⟨b1,1,none⟩=some (bv2):=qa r1 1;have c12:W.cell? ⟨b1,2,none⟩=some (kv2):=qa r1 2;have c13:W.cell? ⟨b1,3,none⟩=some (.bool la2):=qa r1 3;have c14:W.cell? ⟨b1,4,none⟩=some (.int .i64 o2):=qa r1 4;have c15:W.cell? ⟨b1,5,none⟩=some (dv2):=qa r1 5;have HA:=hid hbA;have hs0:b0<W.heap.size:=(Ai r0).1;have hs1:b1<W.heap.size:=(Ai r1).1;clear r0 r1 hbA hb1 hsz
  cases q1
  case false=>
    go_wp2_with fail
    go_ret
    exact⟨rfl,by rw[hb0];exact HA.out⟩
  cases q2
  case false=>
    go_wp2_with fail
    go_ret
    exact⟨rfl,by rw[hb0];exact HA.out⟩
  cases q3
  case false=>
    go_wp2_with fail
    go_ret
    exact⟨rfl,by rw[hb0];exact HA.out⟩
  cases q4
  case false=>
    go_wp2_with fail
    refine(S4.out _ Br).mono ?_;rintro e w9 ⟨rfl,hw⟩;have hw9:=hw;subst hw9;clear hw;go_wp2_with fail
    go_ret
    exact⟨rfl,by rw[hb0];exact HA.out⟩
  cases q5
  case false=>
    go_wp2_with fail
    refine(S4.out _ Br).mono ?_;rintro e w9 ⟨rfl,hw⟩;have hw9:=hw;subst hw9;clear hw;go_wp2_with fail
    refine(S5.out _ Br).mono ?_;rintro e w9 ⟨rfl,hw⟩;have hw9:=hw;subst hw9;clear hw;go_wp2_with fail
    go_ret
    exact⟨rfl,by rw[hb0];exact HA.out⟩
  cases q6
  case false=>
    go_wp2_with fail
    refine(S4.out _ Br).mono ?_;rintro e w9 ⟨rfl,hw⟩;have hw9:=hw;subst hw9;clear hw;go_wp2_with fail
    refine(S5.out _ Br).mono ?_;rintro e w9 ⟨rfl,hw⟩;have hw9:=hw;subst hw9;clear hw;go_wp2_with fail
    refine(S6.out _ Br).mono ?_;rintro e w9 ⟨rfl,hw⟩;have hw9:=hw;subst hw9;clear hw;go_wp2_with fail
    go_ret
    exact⟨rfl,by rw[hb0];exact HA.out⟩
  go_wp2_with fail
  refine(S4.out _ Br).mono ?_;rintro e w9 ⟨rfl,hw⟩;have hw9:=hw;subst hw9;clear hw;go_wp2_with fail
  refine(S5.out _ Br).mono ?_;rintro e w9 ⟨rfl,hw⟩;have hw9:=hw;subst hw9;clear hw;go_wp2_with fail
  refine(S6.out _ Br).mono ?_;rintro e w9 ⟨rfl,hw⟩;have hw9:=hw;subst hw9;clear hw;go_wp2_with fail
  go_ret
  exact⟨rfl,by rw[hb0];exact HA.out⟩
theorem qdE (a b:CallS)(va vb:Value)(w:World)(ha:CallM w va a)(hb:CallM w vb b):
    Calls Tryz.prog 38 #[va,vb] w fun e w'=>e= .returned (.bool (yB a b))∧Below w.heap.size w w':=by
  obtain⟨bv1,kv1,dv1,rfl,h1,h2,h3⟩:=ha;obtain⟨bv2,kv2,dv2,rfl,h4,h5,h6⟩:=hb;unfold yB;obtain⟨k1,xs1,xs2,la1,o1,xs3⟩:=a;obtain⟨k2,ys1,ys2,la2,o2,ys3⟩:=b;dsimp only at*;obtain⟨b0,hb0⟩:=Ex w.heap.size;obtain⟨b1,hb1⟩:=Ex ((w.alloc (.cells (qx k1 bv1 kv1 la1 o1 dv1) 40)).heap.size);have hsz:w.heap.size<(w.alloc (.cells (qx k1 bv1 kv1 la1 o1 dv1) 40)).heap.size:=(Ai (Wn w (.cells (qx k1 bv1 kv1 la1 o1 dv1) 40))).1;have hne:b0<b1:=by rw[←hb0,←hb1];exact hsz
  have hbA:Below b0 w ((w.alloc (.cells (qx k1 bv1 kv1 la1 o1 dv1) 40)).alloc (.cells (qx k2 bv2 kv2 la2 o2 dv2) 40)):=by rw[←hb0];exact(Br.alloc Nl _).alloc (Nat.le_of_lt hsz) _
  have r0:((w.alloc (.cells (qx k1 bv1 kv1 la1 o1 dv1) 40)).alloc (.cells (qx k2 bv2 kv2 la2 o2 dv2) 40)).heap[b0]? =some (.cells (qx k1 bv1 kv1 la1 o1 dv1) 40 (0,0)):=by
    rw[←hb0];exact(Bh _ _ _ hsz).trans (Wn w _)
  have r1:((w.alloc (.cells (qx k1 bv1 kv1 la1 o1 dv1) 40)).alloc (.cells (qx k2 bv2 kv2 la2 o2 dv2) 40)).heap[b1]? =some (.cells (qx k2 bv2 kv2 la2 o2 dv2) 40 (0,0)):=by
    rw[←hb1];exact Wn (w.alloc _) _
  have H1:=hid (h1.below (hb0▸hbA));have H2:=hid (h2.below (hb0▸hbA));have H3:=hid (h3.below (hb0▸hbA));have H4:=hid (h4.below (hb0▸hbA));have H5:=hid (h5.below (hb0▸hbA));have H6:=hid (h6.below (hb0▸hbA));clear h1 h2 h3 h4 h5 h6;obtain⟨q1,hq1⟩: ∃q,(k1==k2)=q:=⟨_,rfl⟩;obtain⟨q2,hq2⟩: ∃q,(la1==la2)=q:=⟨_,rfl⟩;obtain⟨q3,hq3⟩: ∃q,(o1==o2)=q:=⟨_,rfl⟩;obtain⟨q4,hq4⟩: ∃q,decide (xs1=ys1)=q:=⟨_,rfl⟩;obtain⟨q5,hq5⟩: ∃q,decide (xs2=ys2)=q:=⟨_,rfl⟩;obtain⟨q6,hq6⟩: ∃q,decide (xs3=ys3)=q:=⟨_,rfl⟩;rw[hq1,hq2,hq3,hq4,hq5,hq6];have hn1:(k1 != k2)= !q1:=by rw[←hq1];rfl
  have hn2:(la1 != la2)= !q2:=by rw[←hq2];rfl
  have hn3:(o1 != o2)= !q3:=by rw[←hq3];rfl
  have S4:=hid (show ∀W,Below ((w.alloc (.cells (qx k1 bv1 kv1 la1 o1 dv1) 40)).alloc (.cells (qx k2 bv2 kv2 la2 o2 dv2) 40)).heap.size ((w.alloc (.cells (qx k1 bv1 kv1 la1 o1 dv1) 40)).alloc (.cells (qx k2 bv2 kv2 la2 o2 dv2) 40)) W→Calls Tryz.prog 26 #[bv1,bv2] W fun e w'=>e= .returned (.bool q4)∧ ∃m,w'=W.drewN m from fun W hW=>hq4▸Zn _ _ _ _ W (H1.out.below hW) (H4.out.below hW));have S5:=hid (show ∀W,Below ((w.alloc (.cells (qx k1 bv1 kv1 la1 o1 dv1) 40)).alloc (.cells (qx k2 bv2 kv2 la2 o2 dv2) 40)).heap.size ((w.alloc (.cells (qx k1 bv1 kv1 la1 o1 dv1) 40)).alloc (.cells (qx k2 bv2 kv2 la2 o2 dv2) 40)) W→Calls Tryz.prog 26 #[kv1,kv2] W fun e w'=>e= .returned (.bool q5)∧ ∃m,w'=W.drewN m from fun W hW=>hq5▸Zn _ _ _ _ W (H2.out.below hW) (H5.out.below hW));have S6:=hid (show ∀W,Below ((w.alloc (.cells (qx k1 bv1 kv1 la1 o1 dv1) 40)).alloc (.cells (qx k2 bv2 kv2 la2 o2 dv2) 40)).heap.size ((w.alloc (.cells (qx k1 bv1 kv1 la1 o1 dv1) 40)).alloc (.cells (qx k2 bv2 kv2 la2 o2 dv2) 40)) W→Calls Tryz.prog 26 #[dv1,dv2] W fun e w'=>e= .returned (.bool q6)∧ ∃m,w'=W.drewN m from fun W hW=>hq6▸Zn _ _ _ _ W (H3.out.below hW) (H6.out.below hW));clear hq4 hq5 hq6 H1 H2 H3 H4 H5 H6;unfold qx at*;go_enter Tryz.func38,Tryz.ntmps38
  go_upto_region 1 with(fail)
  generalize ((w.alloc (.cells #[.int .i64 k1,bv1,kv1,.bool la1,.int .i64 o1,dv1] 40)).alloc (.cells #[.int .i64 k2,bv2,kv2,.bool la2,.int .i64 o2,dv2] 40))=W at*;have c00:W.cell? ⟨b0,0,none⟩=some (.int .i64 k1):=qa r0 0;have c01:W.cell? ⟨b0,1,none⟩=some (bv1):=qa r0 1;have c02:W.cell? ⟨b0,2,none⟩=some (kv1):=qa r0 2;have c03:W.cell? ⟨b0,3,none⟩=some (.bool la1):=qa r0 3;have c04:W.cell? ⟨b0,4,none⟩=some (.int .i64 o1):=qa r0 4;have c05:W.cell? ⟨b0,5,none⟩=some (dv1):=qa r0 5;have c10:W.cell? ⟨b1,0,none⟩=some (.int .i64 k2):=qa r1 0;have c11:W.cell? ⟨b1,1,none⟩=some (bv2):=qa r1 1;have c12:W.cell? ⟨b1,2,none⟩=some (kv2):=qa r1 2;have c13:W.cell? ⟨b1,3,none⟩=some (.bool la2):=qa r1 3;have c14:W.cell? ⟨b1,4,none⟩=some (.int .i64 o2):=qa r1 4;have c15:W.cell? ⟨b1,5,none⟩=some (dv2):=qa r1 5;have HA:=hid hbA;have hs0:b0<W.heap.size:=(Ai r0).1;have hs1:b1<W.heap.size:=(Ai r1).1;clear r0 r1 hbA hb1 hsz
  cases q1
  case false=>
    go_wp2_with fail
    go_ret
    exact⟨rfl,by rw[hb0];exact HA.out⟩
  cases q2
  case false=>
    go_wp2_with fail
    go_ret
    exact⟨rfl,by rw[hb0];exact HA.out⟩
  cases q3
  case false=>
    go_wp2_with fail
    go_ret
    exact⟨rfl,by rw[hb0];exact HA.out⟩
  cases q4
  case false=>
    go_wp2_with fail
    refine(S4.out _ Br).mono ?_;rintro e w4 ⟨rfl,m4,rfl⟩;go_wp2_with fail
    go_ret
    exact⟨rfl,by rw[hb0];exact cBD HA.out⟩
  cases q5
  case false=>
    go_wp2_with fail
    refine(S4.out _ Br).mono ?_;rintro e w4 ⟨rfl,m4,rfl⟩;go_wp2_with fail
    refine(S5.out _ (cBD Br)).mono ?_;rintro e w5 ⟨rfl,m5,rfl⟩;go_wp2_with fail
    go_ret
    exact⟨rfl,by rw[hb0];exact cBD HA.out⟩
  cases q6
  case false=>
    go_wp2_with fail
    refine(S4.out _ Br).mono ?_;rintro e w4 ⟨rfl,m4,rfl⟩;go_wp2_with fail
    refine(S5.out _ (cBD Br)).mono ?_;rintro e w5 ⟨rfl,m5,rfl⟩;go_wp2_with fail
    refine(S6.out _ (cBD Br)).mono ?_;rintro e w6 ⟨rfl,m6,rfl⟩;go_wp2_with fail
    go_ret
    exact⟨rfl,by rw[hb0];exact cBD HA.out⟩
  go_wp2_with fail
  refine(S4.out _ Br).mono ?_;rintro e w4 ⟨rfl,m4,rfl⟩;go_wp2_with fail
  refine(S5.out _ (cBD Br)).mono ?_;rintro e w5 ⟨rfl,m5,rfl⟩;go_wp2_with fail
  refine(S6.out _ (cBD Br)).mono ?_;rintro e w6 ⟨rfl,m6,rfl⟩;go_wp2_with fail
  go_ret
  exact⟨rfl,by rw[hb0];exact cBD HA.out⟩
end Go.Proofs.YtdndeffmlhaipaaGreatDoor

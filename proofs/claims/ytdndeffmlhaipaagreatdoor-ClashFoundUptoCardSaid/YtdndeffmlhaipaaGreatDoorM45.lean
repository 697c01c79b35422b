/- The law's own: bytes compared; the call whose answer the document fixes; two trees' clash both ways round. No condition but the table of the library. -/
import Derived.Test.YtdndeffmlhaipaaGreatDoorM33
import Derived.Test.YtdndeffmlhaipaaGreatDoorM44
set_option linter.all false
set_option maxRecDepth 100000
set_option maxHeartbeats 8000000
namespace Go.Proofs.YtdndeffmlhaipaaGreatDoor
open Go.ChangeShapes Go.WideShapes Go.ChangeAt Go.RowKit Go.Joins Go.Shelf Go.Maps
open Go.Lib (hid)
attribute [local go_sem] Oper.semAt_some
theorem Zm (xs ys:List Int)(u v:Value)(w:World)(hu:Hold w u xs)(hv:Hold w v ys):
    Calls Tryz.prog 6 #[u,v] w fun e w'=>e= .returned (.bool (decide (xs=ys)))∧ ∃m,w'=w.drewN m:=by
  obtain⟨a,cap,rfl,hc1,hc2⟩:=hu.slice;obtain⟨a',cap',rfl,hc1',hc2'⟩:=hv.slice;have hx:=hu.1;have hy:=hv.1;obtain⟨a2,cap2,e,h⟩:=hu.holds8;obtain⟨a3,cap3,e',h'⟩:=hv.holds8;simp only[Value.slice.injEq,true_and]at e e';obtain⟨rfl,rfl⟩:=e;obtain⟨rfl,rfl⟩:=e';by_cases hl:xs.length=ys.length
  case neg=>
    have e:decide (xs=ys)=false:=decide_eq_false (fun e=>hl (by rw[e]));have hq:((xs.length:Int) != ys.length)=true:=by rw[bne_iff_ne];omega
    rw[e];clear h h' hu hv hc1 hc2 hc1' hc2' hx hy hl e;go_enter Tryz.func6,Tryz.ntmps6
    go_wp2
    go_ret
    exact⟨rfl,0,rfl⟩
  have hq:((xs.length:Int) != ys.length)=false:=by simp[hl]
  have hmax:(xs.length:Int)≤9223372036854775807:=by omega
  by_cases h0:xs=[]
  · subst h0
    obtain rfl:ys=[]:=List.eq_nil_of_length_eq_zero hl.symm;clear h h' hu hv;go_enter Tryz.func6,Tryz.ntmps6
    go_wp2_with fail
    go_loopw [5] (fun i wr=>i= .int .i64 0∧w=wr) (fun _ _=>0)
    case atStart=>exact⟨rfl,rfl⟩
    case round=>
      obtain⟨rfl,rfl⟩:=hrel;go_wp2
      go_ret
      exact⟨rfl,0,rfl⟩
  have h0':ys≠[]:=fun e=>h0 (List.eq_nil_of_length_eq_zero (by rw[hl,e];rfl))
  obtain⟨b,off,rfl,hb1,hb2⟩:=h.resolve_left h0;obtain⟨b',off',rfl,hb1',hb2'⟩:=h'.resolve_left h0';have H2:=hid hb2;have H2':=hid hb2';have HX:=hid hx;have HY:=hid hy;have HL:=hid hl;obtain⟨r,hr⟩: ∃r,decide (xs=ys)=r:=⟨_,rfl⟩;rw[hr];have HR:=hid hr;clear h h' hb2 hb2' hu hv hx hy h0 h0' hr;go_enter Tryz.func6,Tryz.ntmps6
  go_wp2_with fail
  go_loopw [5] (fun i wr=> ∃(k n:Nat),i= .int .i64 k∧k≤xs.length∧wr=w.drewN n∧Hid (∀j,j<k→qp xs j=qp ys j)) (fun i _=>xs.length - (intOf i).toNat)
  case atStart=>exact⟨0,0,rfl,Nat.zero_le _,rfl,hid (fun j hj=>absurd hj (Nat.not_lt_zero _))⟩
  case round=>
    obtain⟨k,n,rfl,hk,rfl,HP⟩:=hrel;by_cases hlt:k<xs.length
    · have e1:w.cell? ⟨b,off+k,none⟩=some (.int .u8 (qp xs k)):=H2.out k hlt
      have e2:w.cell? ⟨b',off'+k,none⟩=some (.int .u8 (qp ys k)):=H2'.out k (by omega);obtain⟨zx,hzx⟩:=Ex (qp xs k);obtain⟨zy,hzy⟩:=Ex (qp ys k);rw[hzx]at e1;rw[hzy]at e2;have HZ:=hid (show qp xs k=zx∧qp ys k=zy from⟨hzx,hzy⟩);clear hzx hzy;obtain⟨q,hqq⟩: ∃q,(zx != zy)=q:=⟨_,rfl⟩
      cases q
      case false=>
        go_wp2
        go_quiet (fail)
        go_wp2
        exact⟨⟨k+1,n+nq,by go_num,by omega,rfl,hid (fun j hj=>by
          rcases Nat.lt_or_ge j k with h|h
          · exact HP.out j h
          · obtain rfl:j=k:=by omega
            rw[HZ.out.1,HZ.out.2];simpa using hqq)⟩,by simp[intOf];omega⟩
      case true=>
        obtain rfl:r=false:=by
          rw[←HR.out,decide_eq_false];rintro rfl
          rw[bne_iff_ne]at hqq;exact hqq (HZ.out.1.symm.trans HZ.out.2)
        go_wp2
        go_quiet (fail)
        go_wp2
        go_ret
        exact⟨rfl,n+nq,by rw[World.drewN_drewN]⟩
    · obtain rfl:k=xs.length:=by omega
      obtain rfl:r=true:=by
        rw[←HR.out,decide_eq_true];exact qba HL.out (fun j hj=>HP.out j hj)
      go_wp2
      go_ret
      exact⟨rfl,n,rfl⟩
theorem Js: ∀{x y:List CallS} {n:Nat} {a b:CallS} {i:Nat},Qo x y n=some (a,b,i)→Qo y x n=some (b,a,i)∧a≠b
 | [],_,_,_,_,_,h=>by simp[Qo]at h
 | _::_,[],_,_,_,_,h=>by simp[Qo]at h
 | p::x,q::y,n,a,b,i,h=>by
  unfold Qo at h⊢;by_cases e:p=q
  ·rw[if_pos e]at h;rw[if_pos e.symm];exact Js h
  ·rw[if_neg e]at h;rw[if_neg (Ne.symm e)];simp only[Option.some.injEq,Prod.mk.injEq]at h;obtain⟨rfl,rfl,rfl⟩:=h;exact⟨rfl,e⟩
theorem YY: ∀{x y:List CallS} {n:Nat},Qo x y n=none→Qo y x n=none
 | [],[],_,_=>rfl
 | [],_::_,_,_=>rfl
 | _::_,[],_,_=>rfl
 | p::x,q::y,n,h=>by
  unfold Qo at h⊢;by_cases e:p=q
  ·rw[if_pos e]at h;rw[if_pos e.symm];exact YY h
  ·rw[if_neg e]at h
   cases h
theorem Jr: ∀{A B:List (List CallS)} {r r':Nat} {a b:CallS} {row i:Nat},Qu A B r=some (a,b,row,i)→(∃row' i',Qu B A r'=some (b,a,row',i'))∧a≠b
 | [],_,_,_,_,_,_,_,h=>by simp[Qu]at h
 | _::_,[],_,_,_,_,_,_,h=>by simp[Qu]at h
 | x::A,y::B,r,r',a,b,row,i,h=>by
  unfold Qu at h⊢
  cases e:Qo x y 0 with
  | none=>
   rw[e]at h;rw[YY e];exact Jr h
  | some z=>
   obtain⟨p,q,n⟩:=z;rw[e]at h;simp only[Option.some.injEq,Prod.mk.injEq]at h;obtain⟨rfl,rfl,rfl,rfl⟩:=h;have h2:=Js e;rw[h2.1];exact⟨⟨_,_,rfl⟩,h2.2⟩
theorem YG {t:TreeV}{kz z1 z2 xs ys:List Int}{a b:CallS}{row i:Nat}(h:t.diffT kz z1 z2 xs ys=some (a,b,row,i)):(∃row' i',t.diffT kz z1 z2 ys xs=some (b,a,row',i'))∧a≠b:=Jr h
theorem PartSays.call {t:TreeV}{kz z1 z2 xs ys:List Int}{c1 c2:Array Value}{r i:Int}{W:World}(h:PartSays t kz z1 z2 xs ys c1 c2 r i W)(h0:t.clashE kz z1 z2 xs ys=0): ∃a b row at_,t.diffT kz z1 z2 xs ys=some (a,b,row,at_)∧CallM W (.agg c1) a∧CallM W (.agg c2) b:=by
 rcases h.2.2 with⟨h1, -⟩|⟨-,a,b,row,at_,h1,h2,h3, -⟩
 ·exact absurd h0 h1
 ·exact⟨a,b,row,at_,h1,h2,h3⟩
theorem qd5 {L:List (List Int)}(h: ∀d∈L,∀z∈d,0≤z∧z≤255)(i:Nat): ∀z∈qJ L i,0≤z∧z≤255:=by
 unfold qJ;rw[Lg]
 cases e:L[i]? with
 | none=>simp
 | some d=>exact h d (List.mem_of_getElem? e)
theorem Y0 (t:TreeV)(kz z1 z2:List Int)(row:Nat)(rt:Bool)(L:List (List Int))(m:Nat): ∀d∈t.rowZ kz z1 z2 row rt L m,∀z∈d,0≤z∧z≤255:=fun d hd=>by
 obtain⟨i, -,rfl⟩:=List.mem_map.1 hd;intro z hz;exact zh _ _ _ _ z (List.mem_of_mem_take hz)
theorem jP (t:TreeV)(kz z1 z2:List Int){L0:List (List Int)}(h0: ∀d∈L0,∀z∈d,0≤z∧z≤255): ∀r,∀d∈t.lvlZ kz z1 z2 L0 r,∀z∈d,0≤z∧z≤255
 | 0=>h0
 | r+1=>fun d hd z hz=>Y0 _ _ _ _ _ _ _ _ d hd z hz
theorem jQ (t:TreeV)(kz z1 z2 zs:List Int): ∀z∈t.digZ kz z1 z2 zs,0≤z∧z≤255:=by
 unfold TreeV.digZ;split
 ·exact qd5 (jP t kz z1 z2 (fun d hd z hz=>Y0 _ _ _ _ _ _ _ _ d hd z hz) _) 0
 ·simp
def narrowT:TreeV:=⟨2,1,2,2,1,1,none,0,0,none,0,0,none,0,0⟩
theorem qdi (w:World):Calls Tryz.prog 27 #[] w fun e w'=>e= .returned narrowT.val∧Below w.heap.size w w':=by
 go_enter Tryz.func27,Tryz.ntmps27
 go_wp2_with ((with_reducible show wpList _ _ _ (Oper.mk none (Op.store 26 _ _) _ _ _ _::_) _ _);refine wpList_store_row rfl 26 _ _ rfl w.heap.size #[.int .i64 2,.int .i64 1,.int .i64 2,.int .i64 2,.int .u32 1,.int .i64 1,.slice none 0 0,.slice none 0 0,.slice none 0 0] rfl rfl 26 _ (Wn _ _) (by kernel_rfl) rfl (by simp[Value.oneCell']) ?_)
 exact Bp (results_cell_row rfl _ _ _ _ _ _ _ rfl (setRow_heap _ _ _ _ _ _ (Wn _ _)) Tryz.underlying26 rfl (by kernel_rfl)) rfl ⟨rfl,below_setRow (Br.alloc Nl _) Nl _⟩
theorem qcb {U V:List Int}{n er:Int}(h:SrchIs narrowT [] [] [] 0 257 U V n er):er=0∧0<U.length∧0<V.length∧1<n∧n≤257:=by
 have hv:narrowT.validE=0:=by decide
 rcases h with⟨h1, -⟩|⟨-,h2, -⟩|⟨-, -,h3⟩
 ·exact absurd hv h1
 ·unfold qbF at h2;omega
 ·rcases h3 with⟨hn, -⟩|⟨i,k,h1,h2,h3,h4,rfl,rfl,rfl,rfl⟩
  ·refine absurd hn (qff fun i hi=>?_);have hl:=Ze hv ⟨by decide,by decide⟩ [] [] [] (yT ((0:Int)+(i:Nat))) (by have:=(Yb (i:=(0:Int)+(i:Nat)) (by omega) (by omega)).1;omega);have hd:narrowT.d=1:=rfl;have hb: ∀z∈narrowT.dgS [] [] [] 0 i,0≤z∧z≤255:=jQ narrowT [] [] [] _;have hl2:(narrowT.dgS [] [] [] 0 i).length=1:=by unfold TreeV.dgS;omega
   generalize narrowT.dgS [] [] [] 0 i=Z at*;match Z,hl2 with
   | [z],_=>exact⟨z,rfl,hb z (by simp)⟩
  ·have e1:=(Yb (i:=(0:Int)+(k:Nat)) (by omega) (by omega)).2;have e2:=(Yb (i:=(0:Int)+(i:Nat)) (by omega) (by omega)).2;have e3:(Int.toNat 257)=257:=rfl;rw[e3]at h2;exact⟨rfl,by omega,by omega,by omega,by omega⟩
theorem JB (w:World)(ht:TabW w):Calls Tryz.prog 12 #[] w fun e w'=>e= .returned (.bool true)∧Below w.heap.size w w':=by
 have HPL:=hid (qdi w);have HS:=hid (fun(W:World) (hb:Below w.heap.size w W)=>j9 narrowT [] [] [] 0 257 W ⟨by decide,by decide⟩ (Hold.nil W) (Hold.nil W) (Hold.nil W) (ht.below hb));clear ht;go_enter Tryz.func12,Tryz.ntmps12
 go_wp2_with fail
 refine HPL.out.mono ?_;rintro e w1 ⟨rfl,hb1⟩;have HB1:=hid hb1;have hs1:=hb1.size;clear hb1;go_wp2_with fail
 refine(HS.out w1 HB1.out).mono ?_;rintro e w2 ⟨⟨u,v,U,V,n,er,rfl,hu,hv,hs⟩,hb2⟩;obtain⟨rfl,hU,hV,hn1,hn2⟩:=qcb hs;obtain⟨ua,uc,rfl, -, -⟩:=hu.slice;obtain⟨va,vc,rfl, -, -⟩:=hv.slice;have HB2:=hid (HB1.out.trans (hb2.mono hs1));clear hu hv hs hb2;have q1:(0<(U.length:Int))=True:=by simp;omega
 have q2:(0<(V.length:Int))=True:=by simp;omega
 have q3:(1<n)=True:=by simp;omega
 have q4:(n≤257)=True:=by simp;omega
 go_wp2
 go_ret
 exact⟨rfl,HB2.out⟩
theorem SrchIs.sw {t:TreeV}{a1:Option Addr}{c1:Nat}{a2:Option Addr}{c2:Nat}{a3:Option Addr}{c3:Nat}{kz z1 z2:List Int}{F M:Int}{U V:List Int}{n er:Int}(h:SrchIs (t.sw a1 c1 a2 c2 a3 c3) kz z1 z2 F M U V n er):SrchIs t kz z1 z2 F M U V n er:=by
 have e:(t.sw a1 c1 a2 c2 a3 c3).dgS kz z1 z2 F=t.dgS kz z1 z2 F:=by
  funext j
  unfold TreeV.dgS;rw[yA]
 have e2:(t.sw a1 c1 a2 c2 a3 c3).validE=t.validE:=rfl;unfold SrchIs at h⊢;rw[e,e2]at h;exact h
theorem qb1 {t:TreeV}{kz z1 z2:List Int}{B:Nat}{W:World}{tv:Value}(hT:ZW t kz z1 z2 B W tv)(hl:0≤t.l∧t.l≤4294967295)(F M:Int)(htab:TabW W):
  Calls Tryz.prog 9 #[tv,.int .i64 F,.int .i64 M] W fun e w'=>(∃u v U V n er,e= .returned (.tuple #[u,v,.int .i64 n,.int .i64 er])∧Hold w' u U∧Hold w' v V∧SrchIs t kz z1 z2 F M U V n er)∧Below W.heap.size W w':=by
 obtain⟨a1,c1,a2,c2,a3,c3,rfl,k1,k2,k3⟩:=hT;refine(j9 (t.sw a1 c1 a2 c2 a3 c3) kz z1 z2 F M W hl k1.hold k2.hold k3.hold htab).mono ?_;rintro e w' ⟨⟨u,v,U,V,n,er,rfl,h1,h2,h3⟩,hb⟩
 exact⟨⟨u,v,U,V,n,er,rfl,h1,h2,h3.sw⟩,hb⟩
theorem ZO {t:TreeV}{kz z1 z2:List Int}{B:Nat}{W:World}{tv:Value}(hT:ZW t kz z1 z2 B W tv)(hl:0≤t.l∧t.l≤4294967295)(u:Value)(U:List Int)(hu:Hold W u U)(hU:U.length≤4194304):
  Calls Tryz.prog 13 #[tv,u] W fun e w'=> ∃x,e= .returned (.tuple #[x,.int .i64 t.validE])∧Hold w' x (t.digZ kz z1 z2 U)∧Below W.heap.size W w':=by
 obtain⟨a1,c1,a2,c2,a3,c3,rfl,k1,k2,k3⟩:=hT;refine(YC (t.sw a1 c1 a2 c2 a3 c3) kz z1 z2 U u W hl k1.hold k2.hold k3.hold hu hU).mono ?_;rintro e w' ⟨x,rfl,h1,h2⟩
 rw[yA]at h1;exact⟨x,rfl,h1.hold,h2⟩
theorem Z9 {t:TreeV}{kz z1 z2:List Int}{B:Nat}{W:World}{tv:Value}(hT:ZW t kz z1 z2 B W tv)(hl:0≤t.l∧t.l≤4294967295)(xs ys:List Int)(x y:Value)(hx:Hold W x xs)(hy:Hold W y ys)(hxn:xs.length≤4194304)(hyn:ys.length≤4194304):
  Calls Tryz.prog 14 #[tv,x,y] W fun e w'=>(∃c1 c2 r i,e= .returned (.tuple #[.agg c1,.agg c2,.int .i64 (t.clashE kz z1 z2 xs ys)])∧PartSays t kz z1 z2 xs ys c1 c2 r i w')∧Below W.heap.size W w':=by
 obtain⟨a1,c1,a2,c2,a3,c3,rfl,k1,k2,k3⟩:=hT;obtain⟨xa,xc,rfl, -, -⟩:=hx.slice;obtain⟨ya,yc,rfl, -, -⟩:=hy.slice;refine(qaQ (t.sw a1 c1 a2 c2 a3 c3) kz z1 z2 xs ys xa ya xc yc W hl k1.hold k2.hold k3.hold hx hy hxn hyn).mono ?_;rintro e w' ⟨⟨p,q,r,i,rfl,h1⟩,h2⟩
 rw[Y3];exact⟨⟨p,q,r,i,rfl,h1.sw⟩,h2⟩
theorem CallM.lit {W:World}{c:Array Value}{s:CallS}(h:CallM W (.agg c) s): ∃a1 c1 a2 c2 a3 c3,c= #[.int .i64 s.k,.slice a1 s.bs.length c1,.slice a2 s.kz.length c2,.bool s.la,.int .i64 s.o,.slice a3 s.ds.length c3]:=by
 obtain⟨bv,kv,dv,e,m1,m2,m3⟩:=h;simp only[Value.agg.injEq]at e;obtain⟨a1,c1,rfl, -⟩:=m1.slice;obtain⟨a2,c2,rfl, -⟩:=m2.slice;obtain⟨a3,c3,rfl, -⟩:=m3.slice;exact⟨a1,c1,a2,c2,a3,c3,e⟩
theorem qbY {t:TreeV}{kz z1 z2:List Int}{F M:Int}{U V:List Int}{n er:Int}(h:SrchIs t kz z1 z2 F M U V n er):(er≠0∧U=[]∧V=[])∨(er=0∧t.validE=0∧ ∃i:Nat,1≤i∧n=(i:Nat)+1∧(i:Int)+1≤M∧0≤F∧F≤1099511627776∧M≤4096∧V=yT (F+(i:Nat))∧U≠V∧U.length≤21∧V.length≤21∧t.digZ kz z1 z2 U=t.digZ kz z1 z2 V):=by
 rcases h with⟨h1,h2,h3, -,rfl⟩|⟨-, -,h2,h3, -,rfl⟩|⟨hv,hb,h3⟩
 ·exact .inl ⟨h1,h2,h3⟩
 ·exact .inl ⟨by decide,h2,h3⟩
 ·unfold qbF at hb;rcases h3 with⟨-,h2,h3, -,rfl⟩|⟨i,k,k1,k2, -,k4,rfl,rfl,rfl,rfl⟩
  ·exact .inl ⟨by decide,h2,h3⟩
  ·exact .inr ⟨rfl,hv,i,by omega,rfl,by omega,by omega,by omega,by omega,rfl,fun e=>by have:=qea e;omega,(Yb (by omega) (by omega)).1,(Yb (by omega) (by omega)).1,k4⟩
theorem jG (t:TreeV)(kz z1 z2:List Int)(F M:Int)(w:World)(hl:0≤t.l∧t.l≤4294967295)(h1:Hold w (.slice t.ka t.kl t.kc) kz)(h2:Hold w (.slice t.sa t.sl t.sc) z1)(h3:Hold w (.slice t.pa t.pl t.pc) z2)(hF: -9223372036854775808≤F∧F≤9223372036854775807)(hM: -9223372036854775808≤M∧M≤9223372036854775807)(htab:TabW w)(hk:t.kl≤70368744177664)(hs:t.sl≤70368744177664)(hp:t.pl≤70368744177664):
  Calls Tryz.prog 4 #[t.val,.int .i64 F,.int .i64 M] w (qcT w):=by
 obtain⟨b0,hb0⟩:=Ex w.heap.size;have HL:=hid hl;have HTAB:=hid (fun(W:World) (hb:Below b0 w W)=>htab.below (hb0▸hb));have HOWN:=hid (fun(W:World) (hb:Below b0 w W)=>qa8 t kz z1 z2 W (h1.below (hb0▸hb)) (h2.below (hb0▸hb)) (h3.below (hb0▸hb)) hk hs hp);clear hl h1 h2 h3 hF hM htab hk hs hp;unfold TreeV.val at*;go_enter Tryz.func4,Tryz.ntmps4
 go_upto_region 1 with(fail)
 refine qj ?_;intro wA hwA;have ROW_0:wA.heap[b0]? =some (.cells #[.int .i64 t.k,.int .i64 t.d,.int .i64 t.f,.int .i64 t.p,.int .u32 t.l,.int .i64 t.i,.slice t.ka t.kl t.kc,.slice t.sa t.sl t.sc,.slice t.pa t.pl t.pc] 26 (0,0)):=by rw[hwA,←hb0];exact Wn _ _
 have HB_0:=hid (show Below b0 w wA by rw[hwA,←hb0];exact Br.alloc Nl _);clear hwA;go_wp2_with fail
 refine(JB wA (HTAB.out wA HB_0.out)).mono ?_;rintro e w1 ⟨rfl,hb⟩;have ROW_1:=qb ROW_0 hb;have HB_1:=hid (HB_0.out.trans (hb.mono (by have:=HB_0.out.size;omega)));clear ROW_0 HB_0 hb;go_wp2_with ((with_reducible show wpList _ _ _ (Oper.mk _ (Op.load 26 _) _ _ _ _::_) _ _);refine wpList_load_row rfl 26 _ rfl b0 rfl _ _ _ _ ROW_1 Tryz.underlying26 rfl (by kernel_rfl) ?_)
 refine(HOWN.out w1 HB_1.out).mono ?_;rintro e w2 ⟨tv2,rfl,ho,hb⟩;have ROW_2:=qb ROW_1 hb;have HB_2:=hid (HB_1.out.trans (hb.mono (by have:=HB_1.out.size;omega)));clear ROW_1 HB_1 hb;have HTtv2:=hid ho;clear ho;go_wp2_with fail
 refine(qb1 HTtv2.out HL.out F M (HTAB.out w2 HB_2.out)).mono ?_;rintro e w3 ⟨⟨u,v,U,V,n,er,rfl,hu,hv,hsr⟩,hb⟩;have ROW_3:=qb ROW_2 hb;have HB_3:=hid (HB_2.out.trans (hb.mono (by have:=HB_2.out.size;omega)));clear ROW_2 HB_2 hb;have HU_3:=hid (hu);have HV_3:=hid (hv);clear hu hv HTtv2;rcases qbY hsr with⟨h0,rfl,rfl⟩|⟨rfl,hv0,i,hi,rfl,hiM,hF0,hF1,hM1,rfl,hne,hUl,hVl,hdd⟩
 ·have hq:(er != 0)=true:=by rw[bne_iff_ne];exact h0
  obtain⟨ua,uc,rfl, -, -⟩:=HU_3.out.slice;obtain⟨va,vc,rfl, -, -⟩:=HV_3.out.slice;clear hsr h0;simp only[List.length_nil];go_wp2
  go_ret
  exact⟨rfl,by rw[hb0];exact HB_3.out⟩
 clear hsr;have hw1:IntKind.i64.wrap (F+((i:Int)+1))=F+((i:Int)+1):=by rw[IntKind.wrap_i64]<;>omega
 have hw2:IntKind.i64.wrap (F+((i:Int)+1) - 1)=F+(i:Int):=by rw[IntKind.wrap_i64];omega
 have q1:(M<(i:Int)+1)=False:=by simp;omega
 have q2:((i:Int)+1<2)=False:=by simp;omega
 have HNE:=hid hne;have HDD:=hid hdd;have HV0:=hid hv0;have hE1:t.clashE kz z1 z2 U (yT (F+(i:Nat)))=0:=by unfold TreeV.clashE;rw[if_neg (by simp[hv0]),if_neg hne,if_pos hdd]
 have hE2:t.clashE kz z1 z2 (yT (F+(i:Nat))) U=0:=by unfold TreeV.clashE;rw[if_neg (by simp[hv0]),if_neg (Ne.symm hne),if_pos hdd.symm]
 have HE1:=hid hE1;have HE2:=hid hE2;have hsu:=Zm U (yT (F+(i:Nat))) u v w3 HU_3.out HV_3.out;rw[decide_eq_false hne]at hsu;have HSU:=hid hsu;clear hne hdd hv0 hE1 hE2 hsu;go_wp2_with fail
 refine HSU.out.mono ?_;rintro e w4 ⟨rfl,m,hm⟩;have hb:Below w3.heap.size w3 w4:=by rw[hm];exact Qp _ _
 clear hm HSU;have ROW_4:=qb ROW_3 hb;have HB_4:=hid (HB_3.out.trans (hb.mono (by have:=HB_3.out.size;omega)));have HU_4:=hid (HU_3.out.below hb);have HV_4:=hid (HV_3.out.below hb);clear ROW_3 HB_3 HU_3 HV_3 hb;go_wp2_with fail
 refine(qd9 (F+(i:Nat)) (by omega) (by omega) w4 (HTAB.out w4 HB_4.out)).mono ?_;rintro e w5 ⟨v2,rfl,hv2,hb⟩;have ROW_5:=qb ROW_4 hb;have HB_5:=hid (HB_4.out.trans (hb.mono (by have:=HB_4.out.size;omega)));have HU_5:=hid (HU_4.out.below hb);have HV_5:=hid (HV_4.out.below hb);clear ROW_4 HB_4 HU_4 HV_4 hb;have HV2:=hid hv2;clear hv2;go_wp2_with fail
 refine(zI _ _ _ w5 HV_5.out HV2.out).mono ?_;rintro e w6 ⟨rfl,m,hm⟩;have hb:Below w5.heap.size w5 w6:=by rw[hm];exact Qp _ _
 clear hm HV2;have ROW_6:=qb ROW_5 hb;have HB_6:=hid (HB_5.out.trans (hb.mono (by have:=HB_5.out.size;omega)));have HU_6:=hid (HU_5.out.below hb);have HV_6:=hid (HV_5.out.below hb);clear ROW_5 HB_5 HU_5 HV_5 hb;go_wp2_with ((with_reducible show wpList _ _ _ (Oper.mk _ (Op.load 26 _) _ _ _ _::_) _ _);refine wpList_load_row rfl 26 _ rfl b0 rfl _ _ _ _ ROW_6 Tryz.underlying26 rfl (by kernel_rfl) ?_)
 refine(HOWN.out w6 HB_6.out).mono ?_;rintro e w7 ⟨tv7,rfl,ho,hb⟩;have ROW_7:=qb ROW_6 hb;have HB_7:=hid (HB_6.out.trans (hb.mono (by have:=HB_6.out.size;omega)));have HU_7:=hid (HU_6.out.below hb);have HV_7:=hid (HV_6.out.below hb);clear ROW_6 HB_6 HU_6 HV_6 hb;have HTtv7:=hid ho;clear ho;have hq:=ZO HTtv7.out HL.out u _ HU_7.out (by omega);rw[HV0.out]at hq;have HQ:=hid hq;clear hq;go_wp2_with fail
 refine(HQ.out).mono ?_;rintro e w8 ⟨xp,rfl,hx,hb⟩;have ROW_8:=qb ROW_7 hb;have HB_8:=hid (HB_7.out.trans (hb.mono (by have:=HB_7.out.size;omega)));have HU_8:=hid (HU_7.out.below hb);have HV_8:=hid (HV_7.out.below hb);clear ROW_7 HB_7 HU_7 HV_7 hb;have Hxp_8:=hid (hx);clear hx HQ HTtv7;go_wp2_with ((with_reducible show wpList _ _ _ (Oper.mk _ (Op.load 26 _) _ _ _ _::_) _ _);refine wpList_load_row rfl 26 _ rfl b0 rfl _ _ _ _ ROW_8 Tryz.underlying26 rfl (by kernel_rfl) ?_)
 refine(HOWN.out w8 HB_8.out).mono ?_;rintro e w9 ⟨tv9,rfl,ho,hb⟩;have ROW_9:=qb ROW_8 hb;have HB_9:=hid (HB_8.out.trans (hb.mono (by have:=HB_8.out.size;omega)));have HU_9:=hid (HU_8.out.below hb);have HV_9:=hid (HV_8.out.below hb);have Hxp_9:=hid (Hxp_8.out.below hb);clear ROW_8 HB_8 HU_8 HV_8 Hxp_8 hb;have HTtv9:=hid ho;clear ho;have hq:=ZO HTtv9.out HL.out v _ HV_9.out (by omega);rw[HV0.out]at hq;have HQ:=hid hq;clear hq;go_wp2_with fail
 refine(HQ.out).mono ?_;rintro e w10 ⟨xq,rfl,hx,hb⟩;have ROW_10:=qb ROW_9 hb;have HB_10:=hid (HB_9.out.trans (hb.mono (by have:=HB_9.out.size;omega)));have HU_10:=hid (HU_9.out.below hb);have HV_10:=hid (HV_9.out.below hb);have Hxp_10:=hid (Hxp_9.out.below hb);clear ROW_9 HB_9 HU_9 HV_9 Hxp_9 hb;have Hxq_10:=hid (hx);clear hx HQ HTtv9;go_wp2_with ((with_reducible show wpList _ _ _ (Oper.mk _ (Op.load 26 _) _ _ _ _::_) _ _);refine wpList_load_row rfl 26 _ rfl b0 rfl _ _ _ _ ROW_10 Tryz.underlying26 rfl (by kernel_rfl) ?_)
 refine(HOWN.out w10 HB_10.out).mono ?_;rintro e w11 ⟨tv11,rfl,ho,hb⟩;have ROW_11:=qb ROW_10 hb;have HB_11:=hid (HB_10.out.trans (hb.mono (by have:=HB_10.out.size;omega)));have HU_11:=hid (HU_10.out.below hb);have HV_11:=hid (HV_10.out.below hb);have Hxp_11:=hid (Hxp_10.out.below hb);have Hxq_11:=hid (Hxq_10.out.below hb);clear ROW_10 HB_10 HU_10 HV_10 Hxp_10 Hxq_10 hb;have HTtv11:=hid ho;clear ho;have hq:=Z9 HTtv11.out HL.out _ _ u v HU_11.out HV_11.out (by omega) (by omega);rw[HE1.out]at hq;have HQ:=hid hq;clear hq;go_wp2_with fail
 refine(HQ.out).mono ?_;rintro e w12 ⟨⟨p1,p2,r,i2,rfl,hP⟩,hb⟩;obtain⟨sa,sb,row,at_,hDp1,hc1,hc2⟩:=hP.call HE1.out;have ROW_12:=qb ROW_11 hb;have HB_12:=hid (HB_11.out.trans (hb.mono (by have:=HB_11.out.size;omega)));have HU_12:=hid (HU_11.out.below hb);have HV_12:=hid (HV_11.out.below hb);have Hxp_12:=hid (Hxp_11.out.below hb);have Hxq_12:=hid (Hxq_11.out.below hb);clear ROW_11 HB_11 HU_11 HV_11 Hxp_11 Hxq_11 hb;obtain⟨a1p1,j1p1,a2p1,j2p1,a3p1,j3p1,rfl⟩:=hc1.lit;obtain⟨a4p1,j4p1,a5p1,j5p1,a6p1,j6p1,rfl⟩:=hc2.lit;have HDp1:=hid hDp1;have Hp1_12:=hid (hc1);have Hp2_12:=hid (hc2);clear hP hc1 hc2 hDp1 HQ HTtv11;obtain⟨b13,hb13⟩:=Ex w12.heap.size;go_upto_region 11 with(fail)
 refine qj ?_;intro w13 hw;have hb:Below w12.heap.size w12 w13:=by rw[hw];exact(Br.alloc Nl _).alloc (by rw[qw];omega) _
 have hA:w13.heap[b13]? =some (.cells #[.int .i64 sa.k,.slice a1p1 sa.bs.length j1p1,.slice a2p1 sa.kz.length j2p1,.bool sa.la,.int .i64 sa.o,.slice a3p1 sa.ds.length j3p1] 40 (0,0)):=by
  rw[hw];exact qb (qN hb13) (Br.alloc Nl _)
 have hA2:w13.heap[b13+1]? =some (.cells #[.int .i64 sb.k,.slice a4p1 sb.bs.length j4p1,.slice a5p1 sb.kz.length j5p1,.bool sb.la,.int .i64 sb.o,.slice a6p1 sb.ds.length j6p1] 40 (0,0)):=by
  rw[hw];exact qN (by rw[qw,hb13])
 clear hw;have ROW_13:=qb ROW_12 hb;have HB_13:=hid (HB_12.out.trans (hb.mono (by have:=HB_12.out.size;omega)));have HU_13:=hid (HU_12.out.below hb);have HV_13:=hid (HV_12.out.below hb);have Hxp_13:=hid (Hxp_12.out.below hb);have Hxq_13:=hid (Hxq_12.out.below hb);have Hp1_13:=hid (Hp1_12.out.below hb);have Hp2_13:=hid (Hp2_12.out.below hb);clear ROW_12 HB_12 HU_12 HV_12 Hxp_12 Hxq_12 Hp1_12 Hp2_12 hb;have Rp1_13:=hA;have Rp2_13:=hA2;clear hA hA2;go_wp2_with ((with_reducible show wpList _ _ _ (Oper.mk _ (Op.load 26 _) _ _ _ _::_) _ _);refine wpList_load_row rfl 26 _ rfl b0 rfl _ _ _ _ ROW_13 Tryz.underlying26 rfl (by kernel_rfl) ?_)
 refine(HOWN.out w13 HB_13.out).mono ?_;rintro e w14 ⟨tv14,rfl,ho,hb⟩;have ROW_14:=qb ROW_13 hb;have HB_14:=hid (HB_13.out.trans (hb.mono (by have:=HB_13.out.size;omega)));have HU_14:=hid (HU_13.out.below hb);have HV_14:=hid (HV_13.out.below hb);have Hxp_14:=hid (Hxp_13.out.below hb);have Hxq_14:=hid (Hxq_13.out.below hb);have Hp1_14:=hid (Hp1_13.out.below hb);have Hp2_14:=hid (Hp2_13.out.below hb);have Rp1_14:=qb Rp1_13 hb;have Rp2_14:=qb Rp2_13 hb;clear ROW_13 HB_13 HU_13 HV_13 Hxp_13 Hxq_13 Hp1_13 Hp2_13 Rp1_13 Rp2_13 hb;have HTtv14:=hid ho;clear ho;have hq:=Z9 HTtv14.out HL.out _ _ v u HV_14.out HU_14.out (by omega) (by omega);rw[HE2.out]at hq;have HQ:=hid hq;clear hq;go_wp2_with fail
 refine(HQ.out).mono ?_;rintro e w15 ⟨⟨r1,r2,r,i2,rfl,hP⟩,hb⟩;obtain⟨sc,sd,row,at_,hDr1,hc1,hc2⟩:=hP.call HE2.out;have ROW_15:=qb ROW_14 hb;have HB_15:=hid (HB_14.out.trans (hb.mono (by have:=HB_14.out.size;omega)));have HU_15:=hid (HU_14.out.below hb);have HV_15:=hid (HV_14.out.below hb);have Hxp_15:=hid (Hxp_14.out.below hb);have Hxq_15:=hid (Hxq_14.out.below hb);have Hp1_15:=hid (Hp1_14.out.below hb);have Hp2_15:=hid (Hp2_14.out.below hb);have Rp1_15:=qb Rp1_14 hb;have Rp2_15:=qb Rp2_14 hb;clear ROW_14 HB_14 HU_14 HV_14 Hxp_14 Hxq_14 Hp1_14 Hp2_14 Rp1_14 Rp2_14 hb;obtain⟨a1r1,j1r1,a2r1,j2r1,a3r1,j3r1,rfl⟩:=hc1.lit;obtain⟨a4r1,j4r1,a5r1,j5r1,a6r1,j6r1,rfl⟩:=hc2.lit;have HDr1:=hid hDr1;have Hr1_15:=hid (hc1);have Hr2_15:=hid (hc2);clear hP hc1 hc2 hDr1 HQ HTtv14;obtain⟨b16,hb16⟩:=Ex w15.heap.size;go_upto_region 12 with(fail)
 refine qj ?_;intro w16 hw;have hb:Below w15.heap.size w15 w16:=by rw[hw];exact(Br.alloc Nl _).alloc (by rw[qw];omega) _
 have hA:w16.heap[b16]? =some (.cells #[.int .i64 sc.k,.slice a1r1 sc.bs.length j1r1,.slice a2r1 sc.kz.length j2r1,.bool sc.la,.int .i64 sc.o,.slice a3r1 sc.ds.length j3r1] 40 (0,0)):=by
  rw[hw];exact qb (qN hb16) (Br.alloc Nl _)
 have hA2:w16.heap[b16+1]? =some (.cells #[.int .i64 sd.k,.slice a4r1 sd.bs.length j4r1,.slice a5r1 sd.kz.length j5r1,.bool sd.la,.int .i64 sd.o,.slice a6r1 sd.ds.length j6r1] 40 (0,0)):=by
  rw[hw];exact qN (by rw[qw,hb16])
 clear hw;have ROW_16:=qb ROW_15 hb;have HB_16:=hid (HB_15.out.trans (hb.mono (by have:=HB_15.out.size;omega)));have HU_16:=hid (HU_15.out.below hb);have HV_16:=hid (HV_15.out.below hb);have Hxp_16:=hid (Hxp_15.out.below hb);have Hxq_16:=hid (Hxq_15.out.below hb);have Hp1_16:=hid (Hp1_15.out.below hb);have Hp2_16:=hid (Hp2_15.out.below hb);have Rp1_16:=qb Rp1_15 hb;have Rp2_16:=qb Rp2_15 hb;have Hr1_16:=hid (Hr1_15.out.below hb);have Hr2_16:=hid (Hr2_15.out.below hb);clear ROW_15 HB_15 HU_15 HV_15 Hxp_15 Hxq_15 Hp1_15 Hp2_15 Rp1_15 Rp2_15 Hr1_15 Hr2_15 hb;have Rr1_16:=hA;have Rr2_16:=hA2;clear hA hA2;obtain⟨⟨row2,at2,hsw⟩,hab⟩:=YG HDp1.out;have hcd:=hsw.symm.trans HDr1.out;simp only[Option.some.injEq,Prod.mk.injEq]at hcd;obtain⟨rfl,rfl, -, -⟩:=hcd;have HAB:=hid hab;clear hsw hab HDp1 HDr1;have hsp:=zI _ _ _ w16 (HDD.out▸Hxp_16.out) Hxq_16.out;have HSP:=hid hsp;clear hsp;go_wp2_with fail
 refine HSP.out.mono ?_;rintro e w17 ⟨rfl,m,hm⟩;have hb:Below w16.heap.size w16 w17:=by rw[hm];exact Qp _ _
 clear hm HSP;have ROW_17:=qb ROW_16 hb;have HB_17:=hid (HB_16.out.trans (hb.mono (by have:=HB_16.out.size;omega)));have HU_17:=hid (HU_16.out.below hb);have HV_17:=hid (HV_16.out.below hb);have Hxp_17:=hid (Hxp_16.out.below hb);have Hxq_17:=hid (Hxq_16.out.below hb);have Hp1_17:=hid (Hp1_16.out.below hb);have Hp2_17:=hid (Hp2_16.out.below hb);have Rp1_17:=qb Rp1_16 hb;have Rp2_17:=qb Rp2_16 hb;have Hr1_17:=hid (Hr1_16.out.below hb);have Hr2_17:=hid (Hr2_16.out.below hb);have Rr1_17:=qb Rr1_16 hb;have Rr2_17:=qb Rr2_16 hb;clear ROW_16 HB_16 HU_16 HV_16 Hxp_16 Hxq_16 Hp1_16 Hp2_16 Rp1_16 Rp2_16 Hr1_16 Hr2_16 Rr1_16 Rr2_16 hb;have hq:=yl sa sb _ _ w17 Hp1_17.out Hp2_17.out;rw[show yB sa sb=false by cases h:yB sa sb;rfl;exact absurd ((YA _ _).1 h) HAB.out]at hq;have HQ:=hid hq;clear hq;have cc1:=(QF Rp1_17).1;have cc2:=(QF Rp2_17).1;go_wp2_with fail
 refine HQ.out.mono ?_;rintro e w18 ⟨rfl,hb⟩;clear cc1 cc2 HQ;have ROW_18:=qb ROW_17 hb;have HB_18:=hid (HB_17.out.trans (hb.mono (by have:=HB_17.out.size;omega)));have HU_18:=hid (HU_17.out.below hb);have HV_18:=hid (HV_17.out.below hb);have Hxp_18:=hid (Hxp_17.out.below hb);have Hxq_18:=hid (Hxq_17.out.below hb);have Hp1_18:=hid (Hp1_17.out.below hb);have Hp2_18:=hid (Hp2_17.out.below hb);have Rp1_18:=qb Rp1_17 hb;have Rp2_18:=qb Rp2_17 hb;have Hr1_18:=hid (Hr1_17.out.below hb);have Hr2_18:=hid (Hr2_17.out.below hb);have Rr1_18:=qb Rr1_17 hb;have Rr2_18:=qb Rr2_17 hb;clear ROW_17 HB_17 HU_17 HV_17 Hxp_17 Hxq_17 Hp1_17 Hp2_17 Rp1_17 Rp2_17 Hr1_17 Hr2_17 Rr1_17 Rr2_17 hb;have hq:=yl sa sa _ _ w18 Hp1_18.out Hr2_18.out;rw[Zl]at hq;have HQ:=hid hq;clear hq;have cc1:=(QF Rp1_18).1;have cc2:=(QF Rr2_18).1;go_wp2_with fail
 refine HQ.out.mono ?_;rintro e w19 ⟨rfl,hb⟩;clear cc1 cc2 HQ;have ROW_19:=qb ROW_18 hb;have HB_19:=hid (HB_18.out.trans (hb.mono (by have:=HB_18.out.size;omega)));have HU_19:=hid (HU_18.out.below hb);have HV_19:=hid (HV_18.out.below hb);have Hxp_19:=hid (Hxp_18.out.below hb);have Hxq_19:=hid (Hxq_18.out.below hb);have Hp1_19:=hid (Hp1_18.out.below hb);have Hp2_19:=hid (Hp2_18.out.below hb);have Rp1_19:=qb Rp1_18 hb;have Rp2_19:=qb Rp2_18 hb;have Hr1_19:=hid (Hr1_18.out.below hb);have Hr2_19:=hid (Hr2_18.out.below hb);have Rr1_19:=qb Rr1_18 hb;have Rr2_19:=qb Rr2_18 hb;clear ROW_18 HB_18 HU_18 HV_18 Hxp_18 Hxq_18 Hp1_18 Hp2_18 Rp1_18 Rp2_18 Hr1_18 Hr2_18 Rr1_18 Rr2_18 hb;have hq:=yl sb sb _ _ w19 Hp2_19.out Hr1_19.out;rw[Zl]at hq;have HQ:=hid hq;clear hq;have cc1:=(QF Rp2_19).1;have cc2:=(QF Rr1_19).1;go_wp2_with fail
 refine HQ.out.mono ?_;rintro e w20 ⟨rfl,hb⟩;clear cc1 cc2 HQ;have ROW_20:=qb ROW_19 hb;have HB_20:=hid (HB_19.out.trans (hb.mono (by have:=HB_19.out.size;omega)));have HU_20:=hid (HU_19.out.below hb);have HV_20:=hid (HV_19.out.below hb);have Hxp_20:=hid (Hxp_19.out.below hb);have Hxq_20:=hid (Hxq_19.out.below hb);have Hp1_20:=hid (Hp1_19.out.below hb);have Hp2_20:=hid (Hp2_19.out.below hb);have Rp1_20:=qb Rp1_19 hb;have Rp2_20:=qb Rp2_19 hb;have Hr1_20:=hid (Hr1_19.out.below hb);have Hr2_20:=hid (Hr2_19.out.below hb);have Rr1_20:=qb Rr1_19 hb;have Rr2_20:=qb Rr2_19 hb;clear ROW_19 HB_19 HU_19 HV_19 Hxp_19 Hxq_19 Hp1_19 Hp2_19 Rp1_19 Rp2_19 Hr1_19 Hr2_19 Rr1_19 Rr2_19 hb;go_wp2
 go_ret
 exact⟨rfl,by rw[hb0];exact HB_20.out⟩
end Go.Proofs.YtdndeffmlhaipaaGreatDoor

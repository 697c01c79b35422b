/- Lemmas. No condition. -/
import Derived.Test.YtahenngmaoellaaGreatO05
import Derived.Lib.EndianBits
set_option linter.all false
set_option maxRecDepth 100000
set_option maxHeartbeats 0
namespace Go.Proofs.YtahenngmaoellaaGreat
open Go.ChangeShapes Go.WideShapes Go.ChangeAt Go.RowKit Go.Joins Go.Shelf Go.Maps
open Go.Lib (hid)
variable{zs:List Int}{k x:Nat}
attribute [local go_sem] Oper.semAt_some
def qp (z:Int):Value:= .int .u8 z
def qo (zs:List Int)(k:Nat):Int:=zs.getD k 0
theorem Qu:(Tryz.prog.info? 5).map (fun i=>(i.zero,i.size,i.bytes))=some (some (.int .u8 0),1,1):=by kernel_rfl
def Qy (w:World)(b off:Nat)(zs:List Int):Prop:=b<w.heap.size/\ ∀i,i<zs.length->w.cell? ⟨b,off+i,none⟩=some (.int .u8 (qo zs i))
def Holds8 (w:World)(v:Value)(zs:List Int):Prop:= ∃a cap,v= .slice a zs.length cap/\(zs=[]\/ ∃b off,a=some ⟨b,off,none⟩/\Qy w b off zs)
theorem qU {w w':World}{v:Value}(h:Holds8 w v zs)(r:Below w.heap.size w w'):Holds8 w' v zs:=by
  obtain⟨a,q,rfl,h⟩:=h;refine⟨a,q,rfl,?_⟩;rcases h with h|⟨b,off,rfl,o,D⟩
  · exact .inl h
  · exact .inr ⟨b,off,rfl,Nat.lt_of_lt_of_le o r.size,fun i hi=>(r.cell (p:=⟨b,off+i,none⟩) o).trans (D i hi)⟩
theorem qZ (h: ∀z∈zs,0<=z/\z<=255)(o:k<zs.length):qo zs k∈zs/\0<=qo zs k/\qo zs k<=255:=by
  have e:qo zs k=zs[k]:=by unfold qo;simp[Lg,o]
  rw[e];exact⟨List.getElem_mem o,h _ (List.getElem_mem o)⟩
theorem qfH (h: ∀j,j<zs.length->qo zs j=0): ∀z∈zs,z=0:=by
  intro z q;obtain⟨j,o,rfl⟩:=List.mem_iff_getElem.1 q;have:=h j o
  unfold qo at this;simpa [Lg,o] using this
theorem jS (o:k<zs.length):zs.take (k+1)=zs.take k++[qo zs k]:=by
  rw[List.take_succ_eq_append_getElem o];simp[qo,Lg,o]
theorem qah {w:World}{b off:Nat}(h: ∀i,i<zs.length->w.cell? ⟨b,off+i,none⟩=some (.int .u8 (qo zs i))):
    ∀j u,(zs.map qp)[j]? =some u->w.cell? (Addr.add ⟨b,off,none⟩ j)=some u:=by
  intro j u q;obtain⟨o,rfl⟩:=List.getElem?_eq_some_iff.1 q;rw[List.length_map]at o;have:=h j o
  simp only[List.getElem_map,qp];rw[show Addr.add ⟨b,off,none⟩ j=⟨b,off+j,none⟩ by simp[Addr.add],this];simp[qo,Lg,o]
def SideIs (base:Nat)(w:World)(zs:List Int)(v:Value):Prop:=
  (v= .slice none 0 0/\ ∀z∈zs,z=0)\/((∃z∈zs,z≠0)/\w.ownsRow base 5 1 v zs.length (zs.map qp))
theorem qeA (zs:List Int)(v:Value)(w:World)(h:Holds8 w v zs)(hz: ∀z∈zs,0<=z/\z<=255)(hl:zs.length<=65535):
    Calls Tryz.prog 163 #[v] w fun e w'=> ∃u,e= .returned u/\SideIs w.heap.size w' zs u/\Below w.heap.size w w':=by
  obtain⟨i0,hi,V,U,X⟩:=info_parts Qu;obtain⟨a,O,rfl,h⟩:=h;have I:zs=[]\/ ∃b off,a=some ⟨b,off,none⟩/\1<=zs.length/\Hid (∀i,i<zs.length->w.cell? ⟨b,off+i,none⟩=some (.int .u8 (qo zs i))):=by
    rcases h with h|⟨b,off,e,h1,h2⟩
    · exact .inl h
    · by_cases o:zs=[]
      · exact .inl o
      · exact .inr ⟨b,off,e,by cases zs with|nil=>exact absurd rfl o|cons _ _=>simp,hid h2⟩
  clear h;rcases I with rfl|⟨b,off,rfl,h1,J⟩
  · go_enter Tryz.func163,Tryz.ntmps163
    go_wp2_with fail
    go_loopw [7] (fun i wr=>i= .int .i64 0/\w=wr) (fun _ _=>0)
    case atStart=>exact⟨rfl,rfl⟩
    case round=>
      obtain⟨rfl,rfl⟩:=hrel;go_wp2
      go_ret
      exact⟨_,rfl,.inl ⟨rfl,by simp⟩,Below.refl _ _⟩
  · go_enter Tryz.func163,Tryz.ntmps163
    go_wp2_with fail
    go_loopw [7] (fun i wr=> ∃k:Nat,i= .int .i64 k/\w=wr/\k<=zs.length/\Hid (∀j,j<k->qo zs j=0)) (fun i _=>zs.length - (intOf i).toNat)
    case atStart=>exact⟨0,rfl,rfl,Nat.zero_le _,hid (fun j Y=>absurd Y (Nat.not_lt_zero _))⟩
    case round=>
      obtain⟨k,rfl,rfl,hk,S⟩:=hrel;by_cases G:k<zs.length
      · have hc:=J.out k G
        obtain⟨hm,aa,ab⟩:=qZ hz G;by_cases o:qo zs k=0
        · have q:(qo zs k != 0)=false:=by rw[bne_eq_false_iff_eq];exact o
          have H0:=hid o;clear o;go_wp2
          go_roundw
          case rel=>
            refine⟨k+1,by go_num,by trivial,by omega,hid (fun j Y=>?_)⟩;by_cases e:j=k
            · rw[e];exact H0.out
            · exact S.out j (by omega)
          case measure=>simp[intOf];omega
        · have q:(qo zs k != 0)=true:=by rw[bne_iff_ne];exact o
          have Z:=qah J.out;go_wp2_with (at_builtin;refine wpList_append_own _ rfl _ _ 24 rfl w.heap.size 5 i0 (.int .u8 0) 1 1 Tryz.underlying24 hi V U X rfl (by decide) _ _ _ rfl (Wo _ _ _ _) ⟨b,off,none⟩ zs.length O (zs.map qp) rfl (by simp) Z (by simp[qp,Value.oneCell']) (by unfold maxLen;omega) (by omega) (by simp) ?_;intro v' w2 D r _)
          go_ret
          exact⟨v',rfl,.inr ⟨⟨_,hm,o⟩,by simpa using D⟩,Br.grown r Nl (fun k e=>by cases e)⟩
      · obtain rfl:k=zs.length:=by omega
        go_wp2
        go_ret
        exact⟨_,rfl,.inl ⟨rfl,qfH S.out⟩,Below.refl _ _⟩
theorem qfh (zs:List Int)(v:Value)(w:World)(h:Holds8 w v zs)(hz: ∀z∈zs,0<=z/\z<=255)(hl:zs.length<=65535):
    Calls Tryz.prog 164 #[v] w fun e w'=> ∃u,e= .returned u/\SideIs w.heap.size w' zs u/\Below w.heap.size w w':=by
  obtain⟨i0,hi,ah,ag,ai⟩:=info_parts Qu;obtain⟨a,ak,rfl,h⟩:=h;have ad:zs=[]\/ ∃b off,a=some ⟨b,off,none⟩/\1<=zs.length/\b<w.heap.size/\Hid (∀i,i<zs.length->w.cell? ⟨b,off+i,none⟩=some (.int .u8 (qo zs i))):=by
    rcases h with h|⟨b,off,e,Y,D⟩
    · exact .inl h
    · by_cases h0:zs=[]
      · exact .inl h0
      · exact .inr ⟨b,off,e,by cases zs with|nil=>exact absurd rfl h0|cons _ _=>simp,Y,hid D⟩
  clear h;rcases ad with rfl|⟨b,off,rfl,Y,Z,HC⟩
  · go_enter Tryz.func164,Tryz.ntmps164
    go_wp2_with fail
    go_loopw [3,4,5] (fun o s i wr=>o= .slice none 0 0/\s= .bool false/\i= .int .i64 0/\w=wr) (fun _ _ _ _=>0)
    case atStart=>exact⟨rfl,rfl,rfl,rfl⟩
    case round=>
      obtain⟨rfl,rfl,rfl,rfl⟩:=hrel;go_wp2
      go_ret
      exact⟨_,rfl,.inl ⟨rfl,by simp⟩,Below.refl _ _⟩
  · go_enter Tryz.func164,Tryz.ntmps164
    go_wp2_with fail
    go_loopw [3,4,5] (fun o s i wr=> ∃(k:Nat) (v:Value) (J:Bool),o=v/\s= .bool J/\i= .int .i64 k/\k<=zs.length/\wr.ownsRow w.heap.size 5 1 v k ((zs.take k).map qp)/\Below w.heap.size w wr/\Hid (J=true↔ ∃j,j<k/\qo zs j≠0)) (fun _ _ i _=>zs.length - (intOf i).toNat)
    case atStart=>exact⟨0,.slice none 0 0,false,rfl,rfl,rfl,Nat.zero_le _,Wo _ _ _ _,Below.refl _ _,hid ⟨fun e=>absurd e (by simp),fun⟨j,V,_⟩=>absurd V (Nat.not_lt_zero _)⟩⟩
    case round=>
      obtain⟨k,v,J,rfl,rfl,rfl,hk,r,U,HB⟩:=hrel;have af:=U.size;by_cases I:k<zs.length
      · have hc:wr.cell? ⟨b,off+k,none⟩=some (.int .u8 (qo zs k)):=(U.cell (p:=⟨b,off+k,none⟩) Z).trans (HC.out k I)
        obtain⟨hm,am,an⟩:=qZ hz I;have ac:(zs.take k).map qp++[.int .u8 (qo zs k)]=(zs.take (k+1)).map qp:=by rw[jS I,List.map_append];rfl
        have ae:=hid ac;clear ac;have aa: ∀q:Bool,(qo zs k != 0)=q-> ∀S:Bool,S=(J||q)->(S=true↔ ∃j,j<k+1/\qo zs j≠0):=by
          intro q O S e;rw[e,Bool.or_eq_true,HB.out];constructor
          · rintro(⟨j,Y,D⟩|h)
            · exact⟨j,by omega,D⟩
            · exact⟨k,by omega,by rw[h,bne_iff_ne]at O;exact O⟩
          · rintro⟨j,Y,D⟩
            by_cases e:j=k
            · right;rw[e]at D;rw[<-O,bne_iff_ne];exact D
            · exact .inl ⟨j,by omega,D⟩
        have aj:=hid aa;clear aa;obtain⟨q,O⟩: ∃q,(qo zs k != 0)=q:=⟨_,rfl⟩
        cases J<;>cases q<;>
          (go_wp2_with (at_builtin;refine wpList_append_own _ rfl _ _ 24 rfl w.heap.size 5 i0 (.int .u8 0) 1 1 Tryz.underlying24 hi ah ag ai rfl (by decide) _ _ _ rfl (r.alloc _) ⟨wr.heap.size,0,none⟩ 1 1 [.int .u8 (qo zs k)] rfl rfl (cell_one_new _ _ _) (by simp[Value.oneCell']) (by unfold maxLen;omega) (by omega) (by simp;omega) ?_;intro v' w2 G X _;have ab:Below w.heap.size w w2:=(U.alloc af _).grown X (by simp;omega) (fun k e=>(r.lt k e).1);have al:w2.cell? ⟨b,off+k,none⟩=some (.int .u8 (qo zs k)):=(ab.cell (p:=⟨b,off+k,none⟩) Z).trans (HC.out k I))
           go_roundw
           case rel=>
             rw[ae.out]at G;exact⟨k+1,_,_,rfl,rfl,by go_num,by omega,G,ab,hid (aj.out _ O _ rfl)⟩
           case measure=>simp[intOf];omega)
      · obtain rfl:k=zs.length:=by omega
        rw[List.take_length]at r
        cases J with
        | false=>
          go_wp2
          go_ret
          refine⟨_,rfl,.inl ⟨rfl,qfH fun j V=>?_⟩,U⟩;have:=HB.out
          simp at this
          exact this j V
        | true=>
          go_wp2
          go_ret
          refine⟨_,rfl,.inr ⟨?_,r⟩,U⟩;obtain⟨j,V,h⟩:=HB.out.1 (by trivial);exact⟨_,(qZ hz V).1,h⟩
def qO (zs:List Int)(at_:Nat):Nat->Int
 | 0=>0
 | k+1=>qO zs at_ k+qo zs (at_+k)*2^(8*k)
def qcW (zs:List Int)(at_:Nat):Nat->Int
 | 0=>0
 | m+1=>qcW zs at_ m*256+qo zs (at_+(7 - m))
theorem qi5 (zs:List Int)(at_:Nat):qcW zs at_ 8=qO zs at_ 8:=by
 simp only[qcW,qO,Nat.reduceSub,Nat.reduceMul,Int.reducePow,Nat.sub_zero,Nat.add_zero,Nat.sub_self];omega
theorem Qz {zs:List Int}(r: ∀z∈zs,0<=z/\z<=255){at_:Nat}: ∀k,at_+k<=zs.length->0<=qO zs at_ k/\qO zs at_ k<2^(8*k)
 | 0,_=>by simp[qO]
 | k+1,h=>by
  obtain⟨D,J⟩:=Qz r (at_:=at_) k (by omega);have o:at_+k<zs.length:=by omega
  obtain⟨-,b1,b2⟩:=qZ r o;have q:(0:Int)<2^(8*k):=Int.pow_pos (by decide);have e:(2:Int)^(8*(k+1))=256*2^(8*k):=by
   rw[show 8*(k+1)=8*k+8 by omega,Int.pow_add];simp[Int.mul_comm]
  have G:qo zs (at_+k)*2^(8*k)<=255*2^(8*k):=Int.mul_le_mul_of_nonneg_right b2 (Int.le_of_lt q);have I:0<=qo zs (at_+k)*2^(8*k):=Int.mul_nonneg b1 (Int.le_of_lt q);simp only[qO];rw[e];omega
theorem qbb {zs:List Int}(o: ∀z∈zs,0<=z/\z<=255){at_:Nat}(q:at_+8<=zs.length): ∀m,m<=8->0<=qcW zs at_ m/\qcW zs at_ m<256^m
 | 0,_=>by simp[qcW]
 | m+1,h=>by
  obtain⟨r,D⟩:=qbb o q m (by omega);obtain⟨-,b1,b2⟩:=qZ o (show at_+(7 - m)<zs.length by omega);simp only[qcW];rw[Int.pow_succ];omega
theorem qgz (r: ∀z∈zs,0<=z/\z<=255){at_:Nat}(o:at_+8<=zs.length){m:Nat}(D:m<=7):0<=qcW zs at_ m/\qcW zs at_ m<72057594037927936:=by
 obtain⟨G,q⟩:=qbb r o m (by omega);have:m=0\/m=1\/m=2\/m=3\/m=4\/m=5\/m=6\/m=7:=by omega
 rcases this with rfl|rfl|rfl|rfl|rfl|rfl|rfl|rfl<;>simp only[Int.reducePow]at q<;>omega
theorem orZ (x b:Int)(k:Nat)(r:k<8)(o:0<=x/\x<2^(8*k))(q:0<=b/\b<=255):bits .or .u64 x (IntKind.u64.wrap (IntKind.u64.wrap b*2^(8*k)))=x+b*2^(8*k):=by
 rw[u64_wrap_id b q.1 (by omega)];have:k=0\/k=1\/k=2\/k=3\/k=4\/k=5\/k=6\/k=7:=by omega
 rcases this with rfl|rfl|rfl|rfl|rfl|rfl|rfl|rfl<;>simp only[Nat.reduceMul,Int.reducePow]at o⊢ <;>
  (rw[u64_wrap_id _ (by omega) (by omega)])
 ·exact bits_join_low .u64 64 (by decide) wraps_u64 0 x _ o.1 (by simpa using o.2) (by omega) (by omega) (by simp) (by omega)
 ·exact u64_or8 x _ o.1 o.2 (by omega) (by omega) (by omega)
 ·exact u64_or16 x _ o.1 o.2 (by omega) (by omega) (by omega)
 ·exact u64_or24 x _ o.1 o.2 (by omega) (by omega) (by omega)
 ·exact u64_or32 x _ o.1 o.2 (by omega) (by omega) (by omega)
 ·exact u64_or40 x _ o.1 o.2 (by omega) (by omega) (by omega)
 ·exact u64_or48 x _ o.1 o.2 (by omega) (by omega) (by omega)
 ·exact u64_or56 x _ o.1 o.2 (by omega) (by omega) (by omega)
theorem qdm (zs:List Int)(v:Value)(at_:Nat)(w:World)(h:Holds8 w v zs)(o: ∀z∈zs,0<=z/\z<=255)(q:at_+8<=zs.length)(J:zs.length<=4294967296):
  Calls Tryz.prog 131 #[v,.int .i64 at_,.int .i64 8] w fun e w'=>e= .returned (.tuple #[.int .u64 (qO zs at_ 8),.int .i64 0])/\w'=w:=by
 obtain⟨a,I,rfl,h⟩:=h;obtain⟨b,off,rfl,S,r⟩:=h.resolve_left (fun e=>by rw[e]at q;simp at q);have G:=hid r;clear h r;go_enter Tryz.func131,Tryz.ntmps131
 go_wp2_with fail
 go_loopw [8,25] (fun s i wr=> ∃k:Nat,s= .int .u64 (qO zs at_ k)/\i= .int .i64 k/\w=wr/\k<=8) (fun _ i _=>8 - (intOf i).toNat)
 case atStart=>exact⟨0,rfl,rfl,rfl,by omega⟩
 case round=>
  obtain⟨k,rfl,rfl,rfl,O⟩:=hrel;by_cases D:k<8
  ·have U:=G.out (at_+k) (by omega);have V:=orZ (qO zs at_ k) (qo zs (at_+k)) k D (Qz o k (by omega)) (qZ o (by omega)).2;go_wp2
   exact⟨⟨k+1,rfl,rfl,by trivial,by omega⟩,by simp[intOf];omega⟩
  ·obtain rfl:k=8:=by omega
   go_wp2
   exact Bp (results_tmp2 (fn:=Tryz.f131) (t:=6) (u:=7) rfl _ _ _) rfl ⟨rfl,rfl⟩
theorem qb0 (zs:List Int)(v:Value)(at_:Nat)(w:World)(h:Holds8 w v zs)(q: ∀z∈zs,0<=z/\z<=255)(o:at_+8<=zs.length)(J:zs.length<=4294967296):
  Calls Tryz.prog 212 #[v,.int .i64 at_,.int .i64 8] w fun e w'=>e= .returned (.tuple #[.int .u64 (qO zs at_ 8),.int .i64 0])/\w'=w:=by
 obtain⟨a,G,rfl,h⟩:=h;obtain⟨b,off,rfl,V,r⟩:=h.resolve_left (fun e=>by rw[e]at o;simp at o);have D:=hid r;clear h r;go_enter Tryz.func212,Tryz.ntmps212
 go_wp2_with fail
 go_loopw [8,9] (fun s i wr=> ∃m:Nat,s= .int .u64 (qcW zs at_ m)/\i= .int .i64 (7 - m)/\w=wr/\m<=8) (fun _ i _=>(intOf i+1).toNat)
 case atStart=>exact⟨0,rfl,by simp,rfl,by omega⟩
 case round=>
  obtain⟨m,rfl,rfl,rfl,S⟩:=hrel;by_cases I:m<8
  ·have X:=D.out (at_+(7 - m)) (by omega);obtain⟨O,U⟩:=qgz q o (show m<=7 by omega);obtain⟨-,b1,b2⟩:=qZ q (show at_+(7 - m)<zs.length by omega);go_wp2
   exact⟨⟨m+1,rfl,by congr 1;omega,by trivial,by omega⟩,by simp[intOf];omega⟩
  ·obtain rfl:m=8:=by omega
   go_wp2
   exact Bp (results_tmp2 (fn:=Tryz.f212) (t:=6) (u:=7) rfl _ _ _) rfl ⟨by rw[qi5 zs at_];rfl,rfl⟩
def Zk (x k:Nat):Nat:=x/256^k
def byt (x:Nat)(k:Nat):Int:=((Zk x k%256:Nat):Int)
theorem qhG (x k:Nat):Zk x (k+1)=Zk x k/256:=by unfold Zk;rw[Nat.pow_succ,Nat.div_div_eq_div_mul]
theorem qbA (x k:Nat):Zk x k<=x:=Nat.div_le_self _ _
theorem qeV (x k:Nat):((Zk x k:Nat):Int).tmod 256%256=byt x k:=by
 unfold byt;rw[Int.tmod_eq_emod_of_nonneg (by omega)];omega
theorem qeW (x k:Nat):((Zk x k:Nat):Int).tdiv 256=((Zk x (k+1):Nat):Int):=by
 rw[Int.tdiv_eq_ediv_of_nonneg (by omega),qhG];omega
def qD (x k:Nat):List Int:=(List.range k).map (byt x)
theorem zH (x k:Nat):qD x (k+1)=qD x k++[byt x k]:=by
 unfold qD;rw[List.range_succ,List.map_append];rfl
theorem qkf (x:Nat)(hx:(x:Int)<=18446744073709551615)(w:World):
  Calls Tryz.prog 197 #[.int .u64 x,.int .i64 8] w fun e w'=> ∃v,e= .returned v/\w'.ownsRow w.heap.size 5 1 v 8 ((qD x 8).map qp)/\Below w.heap.size w w':=by
 obtain⟨Z,hi,U,S,V⟩:=info_parts Qu;go_enter Tryz.func197,Tryz.ntmps197
 go_wp2_with fail
 go_loopw [0,5,6] (fun t o i wr=> ∃(k:Nat) (v:Value),t= .int .u64 (Zk x k)/\o=v/\i= .int .i64 k/\k<=8/\wr.ownsRow w.heap.size 5 1 v k ((qD x k).map qp)/\Below w.heap.size w wr) (fun _ _ i _=>8 - (intOf i).toNat)
 case atStart=>exact⟨0,_,by simp[Zk],rfl,rfl,by omega,Wo _ _ _ _,Below.refl _ _⟩
 case round=>
  obtain⟨k,v,rfl,rfl,rfl,hk,q,G⟩:=hrel;have I:=G.size;by_cases aa:k<8
  ·have q1:=qeV x k;have q2:=qeW x k;have q4:IntKind.u64.wrap ((Zk x (k+1):Nat):Int)=((Zk x (k+1):Nat):Int):=u64_wrap_id _ (by omega) (by have:=qbA x (k+1);omega);have q3:(Zk x k:Int)<=18446744073709551615:=by have:=qbA x k;omega
   have O:(qD x (k+1)).map qp=(qD x k).map qp++[.int .u8 (byt x k)]:=by rw[zH,List.map_append];rfl
   have X:=hid O;clear O;go_wp2_with (at_builtin;refine wpList_append_own _ rfl _ _ 24 rfl w.heap.size 5 Z (.int .u8 0) 1 1 Tryz.underlying24 hi U S V rfl (by decide) _ _ _ rfl (q.alloc _) ⟨wr.heap.size,0,none⟩ 1 1 [.int .u8 (byt x k)] rfl rfl (cell_one_new _ _ _) (by simp[Value.oneCell']) (by unfold maxLen;omega) (by omega) (by simp;omega) ?_;intro v' Y r D _;have J:Below w.heap.size w Y:=(G.alloc I _).grown D (by simp;omega) (fun k e=>(q.lt k e).1))
   rw[<-X.out]at r;exact⟨⟨k+1,v',rfl,rfl,rfl,by omega,r,J⟩,by simp[intOf];omega⟩
  ·obtain rfl:k=8:=by omega
   go_wp2
   go_ret
   exact⟨_,rfl,q,G⟩
def qd8 (x k:Nat):List Value:=(qD x k).map qp++List.replicate (8 - k) (.int .u8 0)
theorem qH (x k:Nat):(qD x k).length=k:=by simp[qD]
theorem qiZ (q:k<8):(qd8 x k)[k]? =some (.int .u8 0):=by
 unfold qd8;obtain⟨n,o⟩: ∃n,8 - k=n+1:=⟨7 - k,by omega⟩;rw[List.getElem?_append_right (by simp[qH]),o,List.replicate_succ];simp[qH]
theorem Zz (x k:Nat):(x:Int)/2^(8*k)%256=byt x k:=by
 unfold byt Zk;rw[Int.natCast_emod,Int.natCast_ediv,Int.natCast_pow,Int.pow_mul];rfl
theorem qiY (q:k<8):(qd8 x k).set k (.int .u8 (byt x k))=qd8 x (k+1):=by
 unfold qd8;rw[List.set_append_right _ _ (by simp[qH])];obtain⟨n,o⟩: ∃n,8 - k=n+1:=⟨7 - k,by omega⟩;rw[o,show 8 - (k+1)=n by omega,List.replicate_succ,zH];simp[qH,qp]
theorem JG (x:Nat)(hx:(x:Int)<=18446744073709551615)(w:World):
  Calls Tryz.prog 97 #[.int .u64 x] w fun e w'=> ∃v,e= .returned v/\w'.ownsRow w.heap.size 5 1 v 8 ((qD x 8).map qp)/\Below w.heap.size w w':=by
 obtain⟨Z,hi,X,U,Y⟩:=info_parts Qu;obtain⟨w1,O,r,D⟩:=run_make_full (P:=Tryz.prog) w w.heap.size 24 5 Z (.int .u8 0) 1 Tryz.underlying24 hi X U .i64 .i64 8 (by rw[Y];omega) (by unfold maxLen;omega) Nl;have aa:(Instr.makeSlice 24 (.int .i64 8) (.int .i64 8)).run Tryz.prog w= .ok (.slice (some ⟨w.heap.size,0,none⟩) 8 8) w1:=O;clear O;have S:Below w.heap.size w w1:=Br.grown D Nl (fun k e=>by cases e);have G:w1.ownsRow w.heap.size 5 1 (.slice (some ⟨w.heap.size,0,none⟩) 8 8) 8 (qd8 x 0):=by
  have e:(madeCells (Value.int .u8 0).cells (8*1)).toList=qd8 x 0:=(toList_madeCells_one _ _).trans (by simp[qd8,qD]);rw[<-e];exact r
 clear r;go_enter Tryz.func97,Tryz.ntmps97
 go_wp2_with fail
 go_loopw [6] (fun i wr=> ∃k:Nat,i= .int .i64 k/\k<=8/\wr.ownsRow w.heap.size 5 1 (.slice (some ⟨w.heap.size,0,none⟩) 8 8) 8 (qd8 x k)/\Below w.heap.size w wr) (fun i _=>8 - (intOf i).toNat)
 case atStart=>exact⟨0,rfl,by omega,G,S⟩
 case round=>
  obtain⟨k,rfl,hk,o,V⟩:=hrel;by_cases J:k<8
  ·have hc:=(o.cellAt k (by omega)).trans (qiZ J);have hf:=o.frozenAt k;have q:=Zz x k;have I:=(o.stored k (.int .u8 (byt x k))).1;rw[qiY J]at I;go_wp2
   refine⟨⟨k+1,rfl,by omega,?_,?_⟩,by simp[intOf];omega⟩
   ·exact I
   ·exact V.setCell Nl _
  ·obtain rfl:k=8:=by omega
   go_wp2
   go_ret
   exact⟨_,rfl,o,V⟩
end Go.Proofs.YtahenngmaoellaaGreat
namespace Go.Proofs.YtahenngmaoellaaGreat
open Go.ChangeShapes Go.WideShapes Go.ChangeAt Go.RowKit Go.Joins Go.Shelf Go.Maps Go.Deep
open Go.Lib (hid)
def Qs (ds:List (List Int))(k:Nat):List Int:=ds.getD k []
def qap (zs:List Int):Prop:= ∀z∈zs,0<=z/\z<=255
def pRowsAt (w:World)(v:Value)(ds:List (List Int)):Prop:=
  ∃(a:Option Addr) (cap:Nat) (V:Nat->Value),v= .slice a ds.length cap/\(a=none->cap=0)/\(ds=[]\/ ∃b off,a=some ⟨b,off,none⟩/\b<w.heap.size/\ ∀i,i<ds.length->w.cell? ⟨b,off+i,none⟩=some (V i)/\Holds8 w (V i) (Qs ds i))
def qhn (m:Nat)(ds:List (List Int)):Prop:=ds.length<=m/\ ∀d∈ds,d.length<=m/\qap d
abbrev Qd:Type:=List (List Int)×List (List Int)
def qy (ss:List Qd)(k:Nat):Qd:=ss.getD k ([],[])
def StepsAt (w:World)(v:Value)(ss:List Qd):Prop:=
  ∃(a:Option Addr) (cap:Nat) (U V:Nat->Value),v= .slice a ss.length cap/\(a=none->cap=0)/\(ss=[]\/ ∃b off,a=some ⟨b,off,none⟩/\b<w.heap.size/\ ∀i,i<ss.length->w.cell? ⟨b,off+i*2,none⟩=some (U i)/\w.cell? ⟨b,off+i*2+1,none⟩=some (V i)/\pRowsAt w (U i) (qy ss i).1/\pRowsAt w (V i) (qy ss i).2)
def QX (m:Nat)(ss:List Qd):Prop:=ss.length<=m/\ ∀s∈ss,qhn m s.1/\qhn m s.2
theorem pRowsAt.below {w w':World}{v:Value}{ds:List (List Int)}(h:pRowsAt w v ds)(o:Below w.heap.size w w'):pRowsAt w' v ds:=by
  obtain⟨a,r,V,rfl,G,h⟩:=h;refine⟨a,r,V,rfl,G,?_⟩;rcases h with h|⟨b,off,rfl,q,D⟩
  · exact .inl h
  · exact .inr ⟨b,off,rfl,Nat.lt_of_lt_of_le q o.size,fun i hi=>⟨(o.cell (p:=⟨b,off+i,none⟩) q).trans (D i hi).1,qU (D i hi).2 o⟩⟩
theorem StepsAt.below {w w':World}{v:Value}{ss:List Qd}(h:StepsAt w v ss)(o:Below w.heap.size w w'):StepsAt w' v ss:=by
  obtain⟨a,D,U,V,rfl,G,h⟩:=h;refine⟨a,D,U,V,rfl,G,?_⟩;rcases h with h|⟨b,off,rfl,r,q⟩
  · exact .inl h
  · exact .inr ⟨b,off,rfl,Nat.lt_of_lt_of_le r o.size,fun i hi=>⟨(o.cell (p:=⟨b,off+i*2,none⟩) r).trans (q i hi).1,(o.cell (p:=⟨b,off+i*2+1,none⟩) r).trans (q i hi).2.1,(q i hi).2.2.1.below o,(q i hi).2.2.2.below o⟩⟩
section
variable {H:Type} {enc:TypeId×Value->H} {P:Program} {w:World} {base:Nat} {held:Bool}
end
section
variable {H:Type} {enc:TypeId×Value->H} {w:World} {base fuel:Nat} {held:Bool}
instance:Inhabited Qd:=⟨([],[])⟩
end

/- Two paths of the same digests are alike, by the law's own words. No condition. -/
import Derived.Test.YthjoojnlnlmljaaGreatP36
import Derived.BigQuiet
import Derived.Deep.QuietTactic
set_option linter.all false
set_option maxRecDepth 100000
set_option maxHeartbeats 8000000
namespace Go.Proofs.YthjoojnlnlmljaaGreat
open Go.ChangeShapes Go.WideShapes Go.ChangeAt Go.RowKit Go.Joins Go.Shelf Go.Maps
open Go.Lib (hid)
attribute [local go_sem] Oper.semAt_some
theorem qg6 (zs:List Int)(u v:Value)(w:World)(V:Holds8 w u zs)(X:Holds8 w v zs)(hl:zs.length≤1099511627776):
    Calls Tryz.prog 73 #[u,v] w fun e w'=>e= .returned (.bool true)∧ ∃m,w'=w.drewN m:=by
  obtain⟨a,Z,rfl,h⟩:=V;obtain⟨a',U,rfl,I⟩:=X;by_cases D:zs=[]
  · subst D
    clear h I;go_enter Tryz.func73,Tryz.ntmps73
    go_wp2_with fail
    go_loopw [5] (fun i wr=>i= .int .i64 0∧w=wr) (fun _ _=>0)
    case atStart=>exact⟨rfl,rfl⟩
    case round=>
      obtain⟨rfl,rfl⟩:=hrel;go_wp2
      go_ret
      exact⟨rfl,0,rfl⟩
  · obtain⟨b,off,rfl,aa,q⟩:=h.resolve_left D
    obtain⟨b',G,rfl,O,o⟩:=I.resolve_left D;have Y:=hid q;have J:=hid o;clear h I q o;go_enter Tryz.func73,Tryz.ntmps73
    go_wp2_with fail
    go_loopw [5] (fun i wr=> ∃(k n:Nat),i= .int .i64 k∧k≤zs.length∧wr=w.drewN n) (fun i _=>zs.length - (intOf i).toNat)
    case atStart=>exact⟨0,0,rfl,Nat.zero_le _,rfl⟩
    case round=>
      obtain⟨k,n,rfl,hk,rfl⟩:=hrel;by_cases r:k<zs.length
      · have e1:w.cell? ⟨b,off+k,none⟩=some (.int .u8 (qr zs k)):=Y.out k r
        have e2:w.cell? ⟨b',G+k,none⟩=some (.int .u8 (qr zs k)):=J.out k r;go_wp2
        go_quiet (fail)
        go_wp2
        exact⟨⟨k+1,n+nq,by go_num,by omega,rfl⟩,by simp[intOf];omega⟩
      · obtain rfl:k=zs.length:=by omega
        go_wp2
        go_ret
        exact⟨rfl,n,rfl⟩
theorem qeb (zs:List Int)(u v:Value)(w:World)(o:Holds8 w u zs)(q:Holds8 w v zs)(r:zs.length≤1099511627776):
    Calls Tryz.prog 35 #[u,v] w fun e w'=>e= .returned (.bool true)∧ ∃m,w'=w.drewN m:=by
  have H:=hid (qg6 zs u v w o q r);clear o q;go_enter Tryz.func35,Tryz.ntmps35
  go_wp2_with fail
  refine H.out.mono ?_;rintro e w1 ⟨rfl,m,rfl⟩;go_wp2
  go_ret
  exact⟨rfl,m,rfl⟩
def qh9 (ds:List (List Int)):Prop:=ds.length≤1048576∧ ∀d∈ds,d.length≤1048576
theorem j9 {w:World}{a:Option Addr}{n o:Nat}{ds:List (List Int)}(h:pRowsAt w (.slice a n o) ds){k:Nat}(G:k<n):
    n=ds.length∧ ∃b off x c,a=some ⟨b,off,none⟩∧w.cell? ⟨b,off+k,none⟩=some (.slice x (qbz ds k).length c)∧Holds8 w (.slice x (qbz ds k).length c) (qbz ds k):=by
  obtain⟨D,b,off,x,c,q, -,I,r⟩:=h.elem G;exact⟨D,b,off,x,c,q,I,r⟩
theorem qcB (ds:List (List Int))(u v:Value)(w:World)(U:pRowsAt w u ds)(X:pRowsAt w v ds)(G:qh9 ds):
    Calls Tryz.prog 71 #[u,v] w fun e w'=>e= .returned (.bool true)∧ ∃m,w'=w.drewN m:=by
  have Z:=hid U;have HV:=hid X;have Y:=hid G.2;have ab:=G.1;clear G;obtain⟨a,ac,V,rfl, -, -⟩:=U;obtain⟨a',aa,V',rfl, -, -⟩:=X;generalize hn:ds.length=n at*;go_enter Tryz.func71,Tryz.ntmps71
  go_wp2_with fail
  go_loopw [5] (fun i wr=> ∃(k m:Nat),i= .int .i64 k∧k≤n∧wr=w.drewN m) (fun i _=>n - (intOf i).toNat)
  case atStart=>exact⟨0,0,rfl,Nat.zero_le _,rfl⟩
  case round=>
    obtain⟨k,m,rfl,hk,rfl⟩:=hrel;by_cases r:k<n
    · obtain⟨-,b,off,x,c,rfl,h1,I⟩:=j9 Z.out r
      obtain⟨-,b',D,x',c',rfl,J,o⟩:=j9 HV.out r;have ad:(qbz ds k).length≤1048576:=Y.out _ (qhu (by omega));have H2:=hid I;have O:=hid o;generalize hx:qbz ds k=zs at*;generalize hy:zs.length=q at*;clear I o;go_wp2_with fail
      go_region_held3 (fun w'=>w'.cell? ⟨b,off+k,none⟩=some (.slice x q c)∧w'.cell? ⟨b',D+k,none⟩=some (.slice x' q c'))
        (first|exact⟨h1,J⟩|go_keep)
        (first
          | (refine(qeb zs _ _ _ (qS H2.out (by repeat(first|exact Below.refl _ _|exact below_draws _ _ _|refine Below.drew ?_))) (qS O.out (by repeat(first|exact Below.refl _ _|exact below_draws _ _ _|refine Below.drew ?_))) (by omega)).mono ?_;rintro e w2 ⟨rfl,m2,rfl⟩))
      go_wp2
      exact⟨⟨k+1,_,rfl,by omega,rfl⟩,by simp[intOf];omega⟩
    · obtain rfl:k=n:=by omega
      go_wp2
      go_ret
      exact⟨rfl,m,rfl⟩
def qbV (ss:List Yj):Prop:=ss.length≤1048576∧ ∀s∈ss,qh9 s.1∧qh9 s.2
theorem qgR (total I:Int)(ss:List Yj)(u v:Value)(w:World)(hu:StepsAt w u ss)(hv:StepsAt w v ss)(hl:qbV ss):
    Calls Tryz.prog 32 #[.agg #[.int .u64 total,.int .u64 I,u],.agg #[.int .u64 total,.int .u64 I,v]] w fun e w'=>e= .returned (.bool true)∧Below w.heap.size w w':=by
  have HL:=hid hl.2;have aB:=hl.1;clear hl;obtain⟨a,aa,U,V,rfl, -,ai⟩:=hu;obtain⟨a',r,U',V',rfl, -,ah⟩:=hv;have ax:=hid ai;have ar:=hid ah;clear ai ah;generalize J:ss.length=n at*;go_enter Tryz.func32,Tryz.ntmps32
  go_wp2_with fail
  refine qdj ?_;intro W O;have o:Below w.heap.size w W:=by rw[O];exact(Br.alloc Nl _).alloc (by simp) _
  have c1:W.cell? ⟨w.heap.size,2,none⟩=some (.slice a n aa):=by
    rw[O,qd ((Bh _ _ w.heap.size (by simp)).trans (Wn w _)) 2];rfl
  have c2:W.cell? ⟨w.heap.size+1,2,none⟩=some (.slice a' n r):=by
    rw[O,qd (qD _ _ (by simp)) 2];rfl
  clear O;go_loopw [5] (fun i wr=> ∃(j m:Nat),i= .int .i64 j∧j≤n∧wr=W.drewN m) (fun i _=>n - (intOf i).toNat)
  case atStart=>exact⟨0,0,rfl,Nat.zero_le _,rfl⟩
  case round=>
    obtain⟨j,m,rfl,hj,rfl⟩:=hrel;by_cases ad:j<n
    · obtain⟨b,off,rfl,ao,an⟩:=ax.out.resolve_left (fun e=>by rw[e]at J;simp at J;omega)
      obtain⟨b',q,rfl,D,G⟩:=ar.out.resolve_left (fun e=>by rw[e]at J;simp at J;omega);obtain⟨k1,k2,k3,k4⟩:=an j ad;obtain⟨aq,ag,aj,al⟩:=G j ad;obtain⟨L1,L2⟩:=HL.out _ (qby (ss:=ss) (k:=j) (by omega));have d1:W.cell? ⟨b,off+j*2,none⟩=some (U j):=(o.cell (p:=⟨b,_,none⟩) ao).trans k1;have d2:W.cell? ⟨b,off+j*2+1,none⟩=some (V j):=(o.cell (p:=⟨b,_,none⟩) ao).trans k2;have ab:W.cell? ⟨b',q+j*2,none⟩=some (U' j):=(o.cell (p:=⟨b',_,none⟩) D).trans aq;have am:W.cell? ⟨b',q+j*2+1,none⟩=some (V' j):=(o.cell (p:=⟨b',_,none⟩) D).trans ag;have R1:=hid (k3.below o);have R2:=hid (k4.below o);have ac:=hid (aj.below o);have Y:=hid (al.below o);have ay:=hid L1;have av:=hid L2;obtain⟨x1,y1,V1,e1, -, -⟩:=k3;obtain⟨x2,y2,V2,e2, -, -⟩:=k4;obtain⟨ak,af,aA,ae, -, -⟩:=aj;obtain⟨Z,ap,az,X, -, -⟩:=al;rw[e1]at d1 R1;rw[e2]at d2 R2;rw[ae]at ab ac;rw[X]at am Y;clear k1 k2 aq ag e1 e2 ae X an G L1 L2;have au:=hid (fun(w:World) (a1:pRowsAt w _ _) (a2:pRowsAt w _ _)=>qcB (Yf ss j).1 (.slice x1 (Yf ss j).1.length y1) (.slice ak (Yf ss j).1.length af) w a1 a2 ay.out);have aw:=hid (fun(w:World) (a1:pRowsAt w _ _) (a2:pRowsAt w _ _)=>qcB (Yf ss j).2 (.slice x2 (Yf ss j).2.length y2) (.slice Z (Yf ss j).2.length ap) w a1 a2 av.out);go_wp2_with fail
      go_region_held3 (fun w'=>w'.cell? ⟨w.heap.size,2,none⟩=some (.slice (some ⟨b,off,none⟩) n aa)∧w'.cell? ⟨w.heap.size+1,2,none⟩=some (.slice (some ⟨b',q,none⟩) n r)∧w'.cell? ⟨b,off+j*2,none⟩=some (.slice x1 (Yf ss j).1.length y1)∧w'.cell? ⟨b,off+j*2+1,none⟩=some (.slice x2 (Yf ss j).2.length y2)∧w'.cell? ⟨b',q+j*2,none⟩=some (.slice ak (Yf ss j).1.length af)∧w'.cell? ⟨b',q+j*2+1,none⟩=some (.slice Z (Yf ss j).2.length ap))
        (first|exact⟨c1,c2,d1,d2,ab,am⟩|go_keep)
        (first
          | (go_at_call_of 71 (Value.slice x1 (Yf ss j).1.length y1);refine(au.out _ (R1.out.below (by repeat(first|exact Below.refl _ _|exact below_draws _ _ _|refine Below.drew ?_))) (ac.out.below (by repeat(first|exact Below.refl _ _|exact below_draws _ _ _|refine Below.drew ?_)))).mono ?_;rintro e w2 ⟨rfl,m2,rfl⟩)
          | (go_at_call_of 71 (Value.slice x2 (Yf ss j).2.length y2);refine(aw.out _ (R2.out.below (by repeat(first|exact Below.refl _ _|exact below_draws _ _ _|refine Below.drew ?_))) (Y.out.below (by repeat(first|exact Below.refl _ _|exact below_draws _ _ _|refine Below.drew ?_)))).mono ?_;rintro e w3 ⟨rfl,m3,rfl⟩))
      go_wp2
      exact⟨⟨j+1,_,rfl,by omega,rfl⟩,by simp[intOf];omega⟩
    · obtain rfl:j=n:=by omega
      go_wp2
      go_ret
      exact⟨rfl,o.trans (below_draws _ _ _)⟩
end Go.Proofs.YthjoojnlnlmljaaGreat

/- The compression's mixing, as lists of words: a step on four places, a round, the rounds. Plain: no program in sight. No condition. -/
import Derived.Test.YtdndeffmlhaipaaGreatDoorQ00
import Derived.Test.YtdndeffmlhaipaaGreatDoorProg
import Derived.Laws.Entries
set_option linter.all false
set_option maxRecDepth 100000
set_option maxHeartbeats 8000000
namespace Go.Proofs.YtdndeffmlhaipaaGreatDoor
open Go
def wd (L:List Int)(i:Nat):Int:=L.getD i 0
def yk (N r:Nat)(x:Int):Int:=x/2^r+x%2^r*2^(N - r)
structure MixK where
 k:IntKind
 n:Nat
 r1:Nat
 r2:Nat
 r3:Nat
 r4:Nat
def mixBig:MixK:=⟨.u64,64,32,24,16,63⟩
def mixSmall:MixK:=⟨.u32,32,16,12,8,7⟩
namespace MixK
variable (K:MixK)
def w (x:Int):Int:=x%2^K.n
def xr (x y:Int):Int:=bits .xor K.k x y
def a1 (va vb x:Int):Int:=K.w (va+vb+x)
def d1 (va vb vd x:Int):Int:=yk K.n K.r1 (K.xr vd (K.a1 va vb x))
def c1 (va vb vc vd x:Int):Int:=K.w (vc+K.d1 va vb vd x)
def b1 (va vb vc vd x:Int):Int:=yk K.n K.r2 (K.xr vb (K.c1 va vb vc vd x))
def a2 (va vb vc vd x y:Int):Int:=K.w (K.a1 va vb x+K.b1 va vb vc vd x+y)
def d2 (va vb vc vd x y:Int):Int:=yk K.n K.r3 (K.xr (K.d1 va vb vd x) (K.a2 va vb vc vd x y))
def c2 (va vb vc vd x y:Int):Int:=K.w (K.c1 va vb vc vd x+K.d2 va vb vc vd x y)
def b2 (va vb vc vd x y:Int):Int:=yk K.n K.r4 (K.xr (K.b1 va vb vc vd x) (K.c2 va vb vc vd x y))
def step (L:List Int)(a b c d:Nat)(x y:Int):List Int:=
 (((L.set a (K.a2 (wd L a) (wd L b) (wd L c) (wd L d) x y)).set d (K.d2 (wd L a) (wd L b) (wd L c) (wd L d) x y)).set c (K.c2 (wd L a) (wd L b) (wd L c) (wd L d) x y)).set b (K.b2 (wd L a) (wd L b) (wd L c) (wd L d) x y)
end MixK
def plA (i:Nat):Nat:=if i<4 then i else i - 4
def plB (i:Nat):Nat:=if i<4 then i+4 else 4+(i - 4+1)%4
def plC (i:Nat):Nat:=if i<4 then i+8 else 8+(i - 4+2)%4
def plD (i:Nat):Nat:=if i<4 then i+12 else 12+(i - 4+3)%4
def sigT:List (List Nat):=[[0,1,2,3,4,5,6,7,8,9,10,11,12,13,14,15],[14,10,4,8,9,15,13,6,1,12,0,2,11,7,5,3],[11,8,12,0,5,2,15,13,10,14,3,6,7,1,9,4],
 [7,9,3,1,13,12,11,14,2,6,5,10,4,0,15,8],[9,0,5,7,2,4,10,15,14,1,11,12,6,8,3,13],[2,12,6,10,0,11,8,3,4,13,7,5,15,14,1,9],[12,5,1,15,14,13,4,10,0,7,6,3,9,2,8,11],
 [13,11,7,14,12,1,3,9,5,0,15,4,8,6,2,10],[6,15,14,9,11,3,0,8,12,2,13,7,1,4,10,5],[10,2,8,4,7,6,1,5,15,11,9,14,3,12,13,0]]
def qk (r i:Nat):Nat:=(sigT.getD (r%10) []).getD i 0
theorem qE (r i:Nat):qk r i<16:=by
 have h: ∀l∈sigT,∀x∈l,x<16:=by decide
 unfold qk;have h1:sigT.getD (r%10) []∈sigT:=by
  rw[Lg,List.getElem?_eq_getElem (show r%10<sigT.length by show r%10<10;omega)];exact List.getElem_mem _
 rw[Lg]
 cases e:(sigT.getD (r%10) [])[i]? with
 | none=>decide
 | some x=>exact h _ h1 x (List.mem_of_getElem? e)
namespace MixK
variable (K:MixK)
def turns (L M:List Int)(r:Nat):Nat→List Int
 | 0=>L
 | i+1=>K.step (turns L M r i) (plA i) (plB i) (plC i) (plD i) (wd M (qk r (2*i))) (wd M (qk r (2*i+1)))
def round (L M:List Int)(r:Nat):List Int:=K.turns L M r 8
def rounds (L M:List Int):Nat→List Int
 | 0=>L
 | n+1=>K.round (rounds L M n) M n
end MixK
def Words (N n:Nat)(L:List Int):Prop:=L.length=n∧ ∀x∈L,0≤x∧x<2^N
theorem Words.at {N n:Nat}{L:List Int}(h:Words N n L){i:Nat}(hi:i<n):0≤wd L i∧wd L i<2^N:=by
 unfold wd;rw[Lg,List.getElem?_eq_getElem (by rw[h.1];exact hi)];exact h.2 _ (List.getElem_mem _)
theorem Words.set {N n:Nat}{L:List Int}(h:Words N n L){i:Nat}{x:Int}(hx:0≤x∧x<2^N):Words N n (L.set i x):=
 ⟨by simpa using h.1,fun y hy=>by
  rcases List.mem_or_eq_of_mem_set hy with hy|rfl
  ·exact h.2 y hy
  ·exact hx⟩
theorem zd {N r:Nat}(hr:r≤N){x:Int}(hx:0≤x∧x<2^N):0≤yk N r x∧yk N r x<2^N:=by
 have hp:(0:Int)<2^r:=Int.pow_pos (by decide);have hq:(0:Int)<2^(N - r):=Int.pow_pos (by decide);have e:(2:Int)^N=2^r*2^(N - r):=by rw[←Int.pow_add,show r+(N - r)=N by omega]
 have m0:=Int.emod_nonneg x (Int.ne_of_gt hp);have m1:=Int.emod_lt_of_pos x hp;have d0:=Int.ediv_nonneg hx.1 (Int.le_of_lt hp);have d1:x/2^r<2^(N - r):=Int.ediv_lt_of_lt_mul hp (by rw[Int.mul_comm,←e];exact hx.2);have k0:0≤x%2^r*2^(N - r):=Int.mul_nonneg m0 (Int.le_of_lt hq);have k1:x%2^r*2^(N - r)≤(2^r - 1)*2^(N - r):=Int.mul_le_mul_of_nonneg_right (by omega) (Int.le_of_lt hq);rw[Int.sub_mul,Int.one_mul,←e]at k1;unfold yk;constructor<;>omega
end Go.Proofs.YtdndeffmlhaipaaGreatDoor

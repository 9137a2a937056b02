/- Part of a proof. -/
import Derived.Test.YtpdjhlcbcomdkaaGreatDoorW19
set_option linter.unusedVariables false
set_option linter.unusedSimpArgs false
set_option maxRecDepth 100000
set_option maxHeartbeats 16000000
open Go Go.Q Go.Qr
namespace Go.Proofs.Rm
open Go.Proofs.Od (may key)
open Go.Proofs.uy
def uk (x:Vj):Int × Int:=(x.peer,x.source)
def Vw (R:Room) (n:Int):Bool:=VK n 9 && (R.src n.toNat).there
def P6 (R:Room) (p:Int):Vk:=⟨p,R.names p.toNat⟩
def UC (R:Room) (n:Int):Wl:=⟨n,(R.src n.toNat).own,(R.src n.toNat).ss,(R.src n.toNat).ZG⟩
def UK (R:Room) (p n:Int):Vj:=⟨p,n,(R.sub n.toNat p.toNat).want,(R.sub n.toNat p.toNat).ZR⟩
structure WL (T:ZN) (R:Room):Prop where
 up:N1 Vk.num T.ZA
 us:N1 Wl.num T.Yk
 uu:N1 uk T.Z5
 pe:∀ p,lk Vk.num T.ZA p=if Ze R p then some (P6 R p) else none
 sr:∀ n,lk Wl.num T.Yk n=if Vw R n then some (UC R n) else none
 su:∀ p n,lk uk T.Z5 (p,n)=if Zx R p n then some (UK R p n) else none
theorem Hg (n:Int):(fun x:Vk=>x.num == n)=fun x=>decide (Vk.num x=n):=by funext x;rw [Bool.eq_iff_iff];simp
theorem E5 (n:Int):(fun x:Wl=>x.num == n)=fun x=>decide (Wl.num x=n):=by funext x;rw [Bool.eq_iff_iff];simp
theorem E6 (p n:Int):(fun x:Vj=>x.peer == p && x.source == n)=fun x=>decide (uk x=(p,n)):=by
 funext x
 rw [Bool.eq_iff_iff]
 simp [uk]
section
variable {T:ZN} {R:Room} (h:WL T R)
include h
theorem WL.Hi {p:Int} (hj:Ze R p=true):∃ (i:Nat) (hi:i<T.ZA.length),T.XI p=i∧T.ZA[i]=P6 R p:=by
 have:=h.pe p
 rw [hj,ZQ rfl] at this
 obtain ⟨i,hi,h1,h2⟩:=Ki _ this
 exact ⟨i,hi,by unfold ZN.XI findAt;rw [Hg,h1],h2⟩
theorem WL.Iy {p:Int} (hj:Ze R p=false):T.XI p = -1:=by
 have:=h.pe p
 rw [hj,Z4 Zd] at this
 unfold ZN.XI findAt;rw [Hg,Kh _ this]
theorem WL.Nn {n:Int} (hj:Vw R n=true):∃ (i:Nat) (hi:i<T.Yk.length),T.YU n=i∧T.Yk[i]=UC R n:=by
 have:=h.sr n
 rw [hj,ZQ rfl] at this
 obtain ⟨i,hi,h1,h2⟩:=Ki _ this
 exact ⟨i,hi,by unfold ZN.YU findAt;rw [E5,h1],h2⟩
theorem WL.ym {n:Int} (hj:Vw R n=false):T.YU n = -1:=by
 have:=h.sr n
 rw [hj,Z4 Zd] at this
 unfold ZN.YU findAt;rw [E5,Kh _ this]
theorem WL.LR {p n:Int} (hj:Zx R p n=true):∃ (i:Nat) (hi:i<T.Z5.length),T.Zb p n=i∧T.Z5[i]=UK R p n:=by
 have:=h.su p n
 rw [hj,ZQ rfl] at this
 obtain ⟨i,hi,h1,h2⟩:=Ki _ this
 exact ⟨i,hi,by unfold ZN.Zb findAt;rw [E6,h1],h2⟩
theorem WL.qI {p n:Int} (hj:Zx R p n=false):T.Zb p n = -1:=by
 have:=h.su p n
 rw [hj,Z4 Zd] at this
 unfold ZN.Zb findAt;rw [E6,Kh _ this]
theorem WL.XI (p:Int):0≤T.XI p↔Ze R p=true:=by
 cases hj:Ze R p
 ·rw [h.Iy hj];simp
 ·obtain ⟨i,_,hi,_⟩:=h.Hi hj;rw [hi];simp
theorem WL.YU (n:Int):0≤T.YU n↔Vw R n=true:=by
 cases hj:Vw R n
 ·rw [h.ym hj];simp
 ·obtain ⟨i,_,hi,_⟩:=h.Nn hj;rw [hi];simp
theorem WL.Zb (p n:Int):0≤T.Zb p n↔Zx R p n=true:=by
 cases hj:Zx R p n
 ·rw [h.qI hj];simp
 ·obtain ⟨i,_,hi,_⟩:=h.LR hj;rw [hi];simp
theorem WL.Wc {n:Int} (hj:Vw R n=true):T.Wc n=UC R n:=by
 obtain ⟨i,hi,h1,h2⟩:=h.Nn hj
 unfold ZN.Wc;rw [h1,Wv,Rw,U7 hi,h2];rfl
theorem WL.OZ {p n:Int} (hj:Zx R p n=true):T.OZ p n=UK R p n:=by
 obtain ⟨i,hi,h1,h2⟩:=h.LR hj
 unfold ZN.OZ;rw [h1,Wv,Rw,U7 hi,h2];rfl
theorem WL.owner (n:Int):T.owner n=if Vw R n then (R.src n.toNat).own else 0:=by
 unfold ZN.owner
 cases hj:Vw R n
 ·rw [h.ym hj];simp
 ·have:=(h.YU n).2 hj
  rw [Z4 Zo,h.Wc hj];simp [UC]
theorem WL.GU (n:Int):T.Zx n=Z5 R n:=by
 unfold ZN.Zx ZN.Vy Z5
 have e:(List.range 9)=0 :: (List.range 8).map (· + 1):=by decide
 rw [e,List.filter_cons,Z4 (by unfold Zx VK;simp)]
 apply List.filter_congr
 intro p _
 rw [Bool.eq_iff_iff,decide_eq_true_iff]
 exact h.Zb p n
theorem WL.Dl {x:Wl}:x∈T.Yk↔∃ n,Vw R n=true∧x=UC R n:=by
 constructor
 ·intro hx
  have h1:=Kr Wl.num h.us hx
  rw [h.sr] at h1
  cases hj:Vw R x.num
  ·rw [hj] at h1;simp at h1
  ·rw [hj] at h1;simp at h1;exact ⟨_,hj,h1.symm⟩
 ·rintro ⟨n,hn,rfl⟩
  obtain ⟨i,hi,_,h2⟩:=h.Nn hn
  rw [←h2];exact Ot hi
theorem WL.LA {x:Vk}:x∈T.ZA↔∃ n,Ze R n=true∧x=P6 R n:=by
 constructor
 ·intro hx
  have h1:=Kr Vk.num h.up hx
  rw [h.pe] at h1
  cases hj:Ze R x.num
  ·rw [hj] at h1;simp at h1
  ·rw [hj] at h1;simp at h1;exact ⟨_,hj,h1.symm⟩
 ·rintro ⟨n,hn,rfl⟩
  obtain ⟨i,hi,_,h2⟩:=h.Hi hn
  rw [←h2];exact Ot hi
theorem WL.Iu {x:Vj}:x∈T.Z5↔Zx R x.peer x.source=true∧x=UK R x.peer x.source:=by
 constructor
 ·intro hx
  have h1:=Kr uk h.uu hx
  unfold uk at h1
  rw [show (fun x:Vj=>(x.peer,x.source))=uk from rfl] at h1
  rw [h.su] at h1
  cases hj:Zx R x.peer x.source
  ·rw [hj] at h1;simp at h1
  ·rw [hj] at h1;simp at h1;exact ⟨rfl,h1.symm⟩
 ·rintro ⟨hn,hx⟩
  obtain ⟨i,hi,_,h2⟩:=h.LR hn
  rw [hx,←h2];exact Ot hi
end
theorem Vx {R:Room} {n:Int}:Vw R n=true↔1≤n∧n<9∧(R.src n.toNat).there=true:=by
 unfold Vw;rw [TU,XW];constructor
 ·rintro ⟨⟨a,b⟩,c⟩;exact ⟨a,b,c⟩
 ·rintro ⟨a,b,c⟩;exact ⟨⟨a,b⟩,c⟩
theorem SN {R:Room} {p n:Int}:Zx R p n=true↔1≤p∧p<9∧1≤n∧n<9∧(R.sub n.toNat p.toNat).there=true:=by
 unfold Zx;rw [TU,TU,XW,XW];constructor
 ·rintro ⟨⟨⟨a,b⟩,c,d⟩,e⟩;exact ⟨a,b,c,d,e⟩
 ·rintro ⟨a,b,c,d,e⟩;exact ⟨⟨⟨a,b⟩,c,d⟩,e⟩
theorem UA {R:Room} {p:Int}:Ze R p=true↔1≤p∧p<9∧R.names p.toNat≠[]:=by
 unfold Ze;rw [TU,XW]
 constructor
 ·rintro ⟨⟨a,b⟩,c⟩;exact ⟨a,b,by intro e;rw [e] at c;cases c⟩
 ·rintro ⟨a,b,c⟩;exact ⟨⟨a,b⟩,by cases e:R.names p.toNat with|nil=>exact absurd e c|cons _ _=>rfl⟩
theorem WL.of_eq {T:ZN} {R:Room} (h:WL T R) (hI:Inv R) (x:Int):T.of x=of R x:=by
 cases ho:(of R x).2.2
 ·have hn:=vD.1 ho
  have h1:T.RZ x = -1:=by
   unfold ZN.RZ
   apply Sj
   intro j hj
   obtain ⟨n,F7,ek⟩:=h.Dl.1 (Ot hj)
   rw [ek,K4,ne_eq,List.contains_iff_mem]
   obtain ⟨a,b,c⟩:=Vx.1 F7
   exact hn n.toNat Zo c
  have h2:of R x=(0,0,false):=by
   have:∀ k n,(Sa R x k n).2.2=false→Sa R x k n=(0,0,false):=by
    intro k
    induction k with
    | zero=>intro n _;rfl
    | succ k ih=>
     intro n hh
     unfold Sa at hh ⊢
     split at hh
     ·cases hh
     ·rename_i hc;rw [Z4 hc];exact ih _ hh
   exact this 9 0 ho
  unfold ZN.of
  rw [h1,ZQ Zd,h2]
 ·obtain ⟨m,hm,ht,hx,he⟩:=QI ho
  obtain ⟨Da,_⟩:=hI.YU m ht
  have hs:Vw R (m:Int)=true:=Vx.2 ⟨Zo,Zo,by rw [Wv];exact ht⟩
  obtain ⟨i,hi,h1,h2⟩:=h.Nn hs
  have hge:0≤T.RZ x:=by
   unfold ZN.RZ;rw [OB]
   exact ⟨T.Yk[i],Ot hi,by rw [h2,List.contains_iff_mem];unfold UC;rw [Wv];exact hx⟩
  obtain ⟨k,hk,Sh,hp,_⟩:=XL hge
  have Sh:T.RZ x=k:=Sh
  obtain ⟨n,F7,ek⟩:=h.Dl.1 (Ot hk)
  rw [ek,List.contains_iff_mem] at hp
  obtain ⟨a,b,c⟩:=Vx.1 F7
  have U0:=hI.apart n.toNat m x c ht hp hx
  have U0:n=(m:Int):=by omega
  unfold ZN.of
  rw [Z4 Zo,Sh,Wv,Rw,U7 hk,Option.getD_some,ek,U0,he]
  unfold UC;rw [Wv]
theorem WL.qN {T:ZN} {R:Room} (h:WL T R) (hI:Inv R) (l:List Int):T.VA l=VA R l:=by
 funext i
 unfold ZN.VA VA
 rw [h.of_eq hI,Bool.or_comm]
theorem G_ (s:Wl) (q:Int):QD s q=true↔0≤q∧q<s.ss.length:=by unfold QD;simp
theorem WL.Bt {T:ZN} {R:Room} (h:WL T R) (hI:Inv R) (o:Op):T.X5 o=X5 R o:=by
 unfold ZN.X5 X5
 by_cases k1:o.kind<2∨12<o.kind
 ·rw [ZQ k1,ZQ k1]
 rw [Z4 k1,Z4 k1]
 by_cases p1:o.peer<1∨8<o.peer
 ·rw [ZQ p1,ZQ (show ((!VK o.peer 9)=true) by unfold VK;simp;omega)]
 have hp:VK o.peer 9=true:=(XW _ _).2 Zo
 rw [Z4 p1,Z4 (show ¬((!VK o.peer 9)=true) by rw [hp];simp)]
 by_cases k2:o.kind=2
 ·rw [ZQ k2,ZQ k2]
  unfold MO
  cases hj:Ze R o.peer
  ·rw [h.Iy hj,Z4 (show ¬(0:Int) ≤ -1 by decide),Z4 (show ¬(false=true) by decide)]
   by_cases hm:may o.name=true
   ·have e:(T.ZA.any fun x=>decide (key x.name=key o.name))=(List.range 9).any (sameKey R o):=by
     rw [Bool.eq_iff_iff,List.any_eq_true,List.any_eq_true]
     constructor
     ·rintro ⟨x,hx,hk⟩
      obtain ⟨n,hn,rfl⟩:=h.LA.1 hx
      obtain ⟨a,b,c⟩:=UA.1 hn
      refine ⟨n.toNat,by rw [List.mem_range];omega,?_⟩
      unfold sameKey
      rw [TU]
      refine ⟨?_,hk⟩
      cases e:R.names n.toNat with
      | nil=>exact absurd e c
      | cons _ _=>rfl
     ·rintro ⟨n,hn,hk⟩
      unfold sameKey at hk
      rw [TU] at hk
      have WM:R.names n≠[]:=by intro e;rw [e] at hk;exact absurd hk.1 Zd
      rw [List.mem_range] at hn
      have h0:n≠0:=by rintro rfl;exact WM hI.QH.1
      exact ⟨P6 R n,h.LA.2 ⟨n,UA.2 ⟨Zo,Zo,by rw [Wv];exact WM⟩,rfl⟩,by unfold P6;rw [Wv];exact hk.2⟩
    rw [Z4 (show ¬((!may o.name)=true) by rw [hm];simp),Z4 (show ¬((!may o.name)=true) by rw [hm];simp),e]
   ·rw [Bool.not_eq_true] at hm
    rw [ZQ (show ((!may o.name)=true) by rw [hm];rfl),ZQ (show ((!may o.name)=true) by rw [hm];rfl)]
  ·rw [ZQ ((h.XI _).2 hj),ZQ rfl]
 rw [Z4 k2,Z4 k2]
 cases hj:Ze R o.peer
 ·rw [h.Iy hj,ZQ Zd,ZQ Zd]
 have:=(h.XI o.peer).2 hj
 rw [Z4 (show ¬T.XI o.peer<0 by omega),Z4 (show ¬((!true)=true) by decide)]
 by_cases k3:o.kind=3
 ·rw [ZQ k3,ZQ k3]
 rw [Z4 k3,Z4 k3]
 by_cases s1:o.source<1∨8<o.source
 ·rw [ZQ s1,ZQ (show ((!VK o.source 9)=true) by unfold VK;simp;omega)]
 have hs:VK o.source 9=true:=(XW _ _).2 Zo
 rw [Z4 s1,Z4 (show ¬((!VK o.source 9)=true) by rw [hs];simp)]
 have GW:Vw R o.source=(R.src o.source.toNat).there:=by unfold Vw;rw [hs];rfl
 by_cases k4:o.kind=4
 ·rw [ZQ k4,ZQ k4]
  unfold ZN.TS VY
  have e1:(0≤T.YU o.source)=((R.src o.source.toNat).there=true):=by rw [←GW];exact propext (h.YU _)
  simp only [e1,h.qN hI]
 rw [Z4 k4,Z4 k4]
 cases ht:(R.src o.source.toNat).there
 ·rw [ht] at GW
  rw [h.ym GW,ZQ Zd,ZQ Zd]
 rw [ht] at GW
 have:=(h.YU o.source).2 GW
 rw [Z4 Zo,Z4 Zd,h.Wc GW]
 have hh:Zx R o.peer o.source=(R.sub o.source.toNat o.peer.toNat).there:=by unfold Zx;rw [hp,hs];rfl
 unfold ZN.Xn about
 have o1:(UC R o.source).own=(R.src o.source.toNat).own:=rfl
 have o2:(UC R o.source).ZG=(R.src o.source.toNat).ZG:=rfl
 simp only [o1,o2]
 by_cases k5:o.kind=5∨o.kind=8∨o.kind=9
 ·rw [ZQ k5,ZQ k5];first|done|rfl
 rw [Z4 k5,Z4 k5]
 have elay:ZF R o=if QD (UC R o.source) o.ZF=true then 0 else 5:=by
  unfold ZF
  by_cases hl:o.ZF<0∨((R.src o.source.toNat).ss.length:Int)≤o.ZF
  ·rw [ZQ hl,Z4 (by rw [G_];unfold UC;dsimp only;omega)]
  ·rw [Z4 hl,ZQ (by rw [G_];unfold UC;dsimp only;omega)]
 by_cases k6:o.kind=6
 ·rw [ZQ k6,ZQ k6]
  have e2:(0≤T.Zb o.peer o.source)=((R.sub o.source.toNat o.peer.toNat).there=true):=by rw [←hh];exact propext (h.Zb _ _)
  simp only [e2,elay]
 rw [Z4 k6,Z4 k6]
 unfold heard
 dsimp only
 cases yZ:(R.sub o.source.toNat o.peer.toNat).there
 ·rw [yZ] at hh
  rw [h.qI hh,ZQ Zd,ZQ Zd]
 rw [yZ] at hh
 have:=(h.Zb o.peer o.source).2 hh
 rw [Z4 (show ¬T.Zb o.peer o.source<0 by omega),Z4 (show ¬((!true)=true) by decide),h.OZ hh,elay]
 dsimp only [UK]
 by_cases k10:o.kind=10
 ·by_cases hp:(R.sub o.source.toNat o.peer.toNat).ZR=true <;> simp [k10,hp]
 by_cases k11:o.kind=11
 ·by_cases hp:(R.sub o.source.toNat o.peer.toNat).ZR=true <;> simp [k11,hp]
 by_cases k12:o.kind=12
 ·cases hl:QD (UC R o.source) o.ZF <;> simp [k12]
 ·simp [k10,k11,k12]
theorem KH (R:Room) {n p:Nat} (hn:1≤n∧n<9) (hp:1≤p∧p<9) (x:Sub) (q m:Int) :
  (if Zx (R.ZP n p x) q m then some (UK (R.ZP n p x) q m) else none)=if (q,m)=((p:Int),(n:Int)) then (if x.there then some (⟨p,n,x.want,x.ZR⟩:Vj) else none) else (if Zx R q m then some (UK R q m) else none):=by
 by_cases e:(q,m)=((p:Int),(n:Int))
 ·cases e
  rw [ZQ rfl]
  have h1:Zx (R.ZP n p x) p n=x.there:=by
   unfold Zx;rw [Wv,Wv,Wh,(XW _ _).2 Zo,(XW _ _).2 Zo];rfl
  have h2:UK (R.ZP n p x) p n=⟨p,n,x.want,x.ZR⟩:=by unfold UK;rw [Wv,Wv,Wh]
  rw [h1,h2]
 ·rw [Z4 e]
  by_cases hi:VK q 9=true∧VK m 9=true
  ·have hq:=(XW _ _).1 hi.1
   have hm:=(XW _ _).1 hi.2
   have hs:(R.ZP n p x).sub m.toNat q.toNat=R.sub m.toNat q.toNat:=by
    rw [VP,Z4]
    rintro ⟨h1,h2⟩
    apply e
    rw [Prod.mk.injEq];omega
   unfold Zx UK
   rw [hs]
  ·have hf:∀ R':Room,Zx R' q m=false:=fun R'=>by
    rw [K4,ne_eq,SN]
    rintro ⟨a,b,c,d,_⟩
    exact hi ⟨(XW _ _).2 ⟨a,b⟩,(XW _ _).2 ⟨c,d⟩⟩
   rw [hf,hf];rfl
theorem KF (R:Room) {n:Nat} (hn:1≤n∧n<9) (s:Src) (m:Int) :
  (if Vw (R.Y6 n s) m then some (UC (R.Y6 n s) m) else none)=if m=(n:Int) then (if s.there then some (⟨n,s.own,s.ss,s.ZG⟩:Wl) else none) else (if Vw R m then some (UC R m) else none):=by
 by_cases e:m=(n:Int)
 ·cases e
  rw [ZQ rfl]
  have h0:(R.Y6 n s).src n=s:=by rw [WA,ZQ rfl]
  have h1:Vw (R.Y6 n s) n=s.there:=by unfold Vw;rw [Wv,h0,(XW _ _).2 Zo];rfl
  have h2:UC (R.Y6 n s) n=⟨n,s.own,s.ss,s.ZG⟩:=by unfold UC;rw [Wv,h0]
  rw [h1,h2]
 ·rw [Z4 e]
  by_cases hi:VK m 9=true
  ·have hm:=(XW _ _).1 hi
   have hs:(R.Y6 n s).src m.toNat=R.src m.toNat:=by rw [WA,Z4 Zo]
   unfold Vw UC;rw [hs]
  ·have hf:∀ R':Room,Vw R' m=false:=fun R'=>by unfold Vw;rw [K4,ne_eq,TU];exact fun h=>hi h.1
   rw [hf,hf];rfl
theorem Hf (R:Room) {p:Nat} (hp:1≤p∧p<9) (s:List UInt8) (q:Int) :
  (if Ze (R.setName p s) q then some (P6 (R.setName p s) q) else none)=if q=(p:Int) then (if s≠[] then some (⟨p,s⟩:Vk) else none) else (if Ze R q then some (P6 R q) else none):=by
 by_cases e:q=(p:Int)
 ·cases e
  rw [ZQ rfl]
  have h0:(R.setName p s).names p=s:=by rw [Ya,ZQ rfl]
  have h2:P6 (R.setName p s) p=⟨p,s⟩:=by unfold P6;rw [Wv,h0]
  rw [h2]
  by_cases hs:s=[]
  ·rw [Z4 (by rw [UA,Wv,h0];rintro ⟨_,_,h⟩;exact h hs),Z4 (fun h=>h hs)]
  ·rw [ZQ (by rw [UA,Wv,h0];exact ⟨Zo,Zo,hs⟩),ZQ hs]
 ·rw [Z4 e]
  by_cases hi:VK q 9=true
  ·have hm:=(XW _ _).1 hi
   have hs:(R.setName p s).names q.toNat=R.names q.toNat:=by rw [Ya,Z4 Zo]
   unfold Ze P6;rw [hs]
  ·have hf:∀ R':Room,Ze R' q=false:=fun R'=>by unfold Ze;rw [K4,ne_eq,TU];exact fun h=>hi h.1
   rw [hf,hf];rfl
section
variable {T:ZN} {R:Room} (h:WL T R)
include h
theorem WL.WR {p n:Nat} (hh:Zx R p n=true):WL (T.WR p n) (R.ZP n p Ve):=by
 obtain ⟨i,hi,h1,h2⟩:=h.LR hh
 obtain ⟨a,b,c,d,_⟩:=SN.1 hh
 have he:(T.WR p n).Z5=T.Z5.eraseIdx i:=by unfold ZN.WR;rw [h1,Wv]
 refine ⟨h.up,h.us,by rw [he];exact Mi _ h.uu i,h.pe,h.sr,fun q m=>?_⟩
 rw [he,Lb uk h.uu hi,KH R Zo Zo,h2,h.su]
 rfl
theorem WL.ZP {p n:Nat} (hh:Zx R p n=true) (x:Sub) (hx:x.there=true):WL (T.ZP p n ⟨p,n,x.want,x.ZR⟩) (R.ZP n p x):=by
 obtain ⟨i,hi,h1,h2⟩:=h.LR hh
 obtain ⟨a,b,c,d,_⟩:=SN.1 hh
 have he:(T.ZP p n ⟨p,n,x.want,x.ZR⟩).Z5=T.Z5.set i ⟨p,n,x.want,x.ZR⟩:=by unfold ZN.ZP;rw [h1,Wv]
 have hk:uk ⟨p,n,x.want,x.ZR⟩=uk T.Z5[i]:=by rw [h2];rfl
 refine ⟨h.up,h.us,by rw [he];exact Bc _ h.uu hi hk,h.pe,h.sr,fun q m=>?_⟩
 rw [he,yg uk h.uu hi hk,KH R Zo Zo,h.su,hx]
 rfl
theorem WL.Vm {p n:Nat} (hn:1≤n∧n<9) (hp:1≤p∧p<9) (hh:Zx R p n=false) (x:Sub) (hx:x.there=true):WL (T.Vm ⟨p,n,x.want,x.ZR⟩) (R.ZP n p x):=by
 have hl:lk uk T.Z5 ((p:Int),(n:Int))=none:=by rw [h.su,hh];rfl
 refine ⟨h.up,h.us,NR uk h.uu hl,h.pe,h.sr,fun q m=>?_⟩
 show lk uk (T.Z5++[_]) _=_
 rw [Kq,KH R hn hp,hx]
 by_cases e:(q,m)=((p:Int),(n:Int))
 ·rw [e,hl,ZQ rfl,ZQ rfl,show uk ⟨p,n,x.want,x.ZR⟩=((p:Int),(n:Int)) from rfl,ZQ rfl];rfl
 ·rw [Z4 e,Z4 (fun e'=>e e'.symm),h.su]
  cases Zx R q m <;> rfl
theorem WL.Um {n:Nat} (hh:Vw R n=true):WL (T.Um n) (R.Y6 n Um):=by
 obtain ⟨i,hi,h1,h2⟩:=h.Nn hh
 obtain ⟨a,b,_⟩:=Vx.1 hh
 have he:(T.Um n).Yk=T.Yk.eraseIdx i:=by unfold ZN.Um;rw [h1,Wv]
 refine ⟨h.up,by rw [he];exact Mi _ h.us i,h.uu,h.pe,fun m=>?_,h.su⟩
 rw [he,Lb _ h.us hi,KF R Zo,h2,h.sr]
 rfl
theorem WL.ZJ {n:Nat} (hh:Vw R n=true) (on:Bool):WL (T.ZJ n on) (R.Y6 n {R.src n with ZG:=on}):=by
 obtain ⟨i,hi,h1,h2⟩:=h.Nn hh
 obtain ⟨a,b,ht⟩:=Vx.1 hh
 rw [Wv] at ht
 have he:(T.ZJ n on).Yk=T.Yk.set i ⟨n,(R.src n).own,(R.src n).ss,on⟩:=by
  unfold ZN.ZJ;rw [h1,Wv,h.Wc hh];rfl
 have hk:Wl.num ⟨n,(R.src n).own,(R.src n).ss,on⟩=Wl.num T.Yk[i]:=by rw [h2];rfl
 refine ⟨h.up,by rw [he];exact Bc _ h.us hi hk,h.uu,h.pe,fun m=>?_,h.su⟩
 rw [he,yg _ h.us hi hk,KF R Zo,h.sr]
 dsimp only
 rw [ht]
 rfl
theorem WL.Ke {n:Nat} (hn:1≤n∧n<9) (hh:Vw R n=false) (s:Src) (hs:s.there=true):WL (T.Ke ⟨n,s.own,s.ss,s.ZG⟩) (R.Y6 n s):=by
 have hl:lk Wl.num T.Yk (n:Int)=none:=by rw [h.sr,hh];rfl
 refine ⟨h.up,NR _ h.us hl,h.uu,h.pe,fun m=>?_,h.su⟩
 show lk Wl.num (T.Yk++[_]) _=_
 rw [Kq,KF R hn,hs]
 by_cases e:m=(n:Int)
 ·rw [e,hl,ZQ rfl,ZQ rfl];rfl
 ·rw [Z4 e,Z4 (fun e'=>e e'.symm),h.sr]
  cases Vw R m <;> rfl
theorem WL.M7 {p:Nat} (hp:1≤p∧p<9) (hh:Ze R p=false) (s:List UInt8) (hs:s≠[]):WL (T.M7 ⟨p,s⟩) (R.setName p s):=by
 have hl:lk Vk.num T.ZA (p:Int)=none:=by rw [h.pe,hh];rfl
 refine ⟨NR _ h.up hl,h.us,h.uu,fun m=>?_,h.sr,h.su⟩
 show lk Vk.num (T.ZA++[_]) _=_
 rw [Kq,Hf R hp,ZQ hs]
 by_cases e:m=(p:Int)
 ·rw [e,hl,ZQ rfl,ZQ rfl];rfl
 ·rw [Z4 e,Z4 (fun e'=>e e'.symm),h.pe]
  cases Ze R m <;> rfl
theorem WL.OW {p:Nat} (hh:Ze R p=true):WL (T.OW p) (R.setName p []):=by
 obtain ⟨i,hi,h1,h2⟩:=h.Hi hh
 obtain ⟨a,b,_⟩:=UA.1 hh
 have he:(T.OW p).ZA=T.ZA.eraseIdx i:=by unfold ZN.OW;rw [h1,Wv]
 refine ⟨by rw [he];exact Mi _ h.up i,h.us,h.uu,fun m=>?_,h.sr,h.su⟩
 rw [he,Lb _ h.up hi,Hf R Zo,h2,h.pe,Z4 (fun h=>h rfl:¬([]:List UInt8)≠[])]
 rfl
end
theorem WL.Yg (n:Nat):∀ (l:List Nat) {T:ZN} {R:Room},WL T R→l.Nodup→(∀ p∈l,Zx R p n=true)→(ZN.Yg n l T).1=(Xp n l R).1∧WL (ZN.Yg n l T).2 (Xp n l R).2
 | [],T,R,h,_,_=>⟨rfl,h⟩
 | p :: l,T,R,h,hd,hl=>by
  rw [List.nodup_cons] at hd
  have h1:=WL.Yg n l (h.WR (hl p (List.mem_cons_self ..))) hd.2 (fun q hq=>by
   have h2:=hl q (List.mem_cons_of_mem _ hq)
   rw [UQ] at h2 ⊢
   refine ⟨h2.1,h2.2.1,h2.2.2.1,h2.2.2.2.1,?_⟩
   rw [VP,Z4]
   ·exact h2.2.2.2.2
   ·rintro ⟨_,e⟩;exact hd.1 (by rw [←e];exact hq))
  unfold ZN.Yg Xp
  exact ⟨by dsimp only;rw [h1.1],h1.2⟩
theorem WL.gone {T:ZN} {R:Room} (h:WL T R) {n:Nat} (hh:Vw R n=true):(T.Yq n).1=(gone R n).1∧WL (T.Yq n).2 (gone R n).2:=by
 have iJ:(Z5 R n).Nodup:=by rw [←h.GU];exact JL T n
 have h1:=WL.Yg n (Z5 R n) h iJ (fun p hp=>(aN.1 hp).2)
 unfold ZN.Yq Rm.gone
 rw [h.GU]
 refine ⟨h1.1,h1.2.Um ?_⟩
 rw [Vx] at hh ⊢
 rw [Ml];exact hh
end Go.Proofs.Rm
namespace Go.Proofs.Rm
open Go.Proofs.Od (may key)
open Go.Proofs.uy
theorem z_ {α β:Type} {f g:α→List β}:∀ {l:List α},(∀ x∈l,f x=g x)→l.flatMap f=l.flatMap g
 | [],_=>rfl
 | x :: l,h=>by rw [List.flatMap_cons,List.flatMap_cons,h x (List.mem_cons_self ..),z_ fun y hy=>h y (List.mem_cons_of_mem _ hy)]
theorem Rb {R:Room} {n:Nat}:Vw R n=true↔1≤n∧n<9∧(R.src n).there=true:=by
 rw [Vx,Wv];constructor <;> (rintro ⟨a,b,c⟩;exact ⟨Zo,Zo,c⟩)
theorem WL.ZM {p:Nat} (hp:1≤p∧p<9) {T:ZN} {R:Room} (h:WL T R) (h0:∀ q,(R.sub 0 q).there=false):∀ k,k≤8→(ZN.ZM p T k).1=(Rm.ZM p R (k+1)).1∧WL (ZN.ZM p T k).2 (Rm.ZM p R (k+1)).2
 | 0,_=>by
  rw [QE]
  have e:((Rm.ZM p R 0).2.sub 0 p).there=false:=h0 p
  rw [e]
  exact ⟨rfl,h⟩
 | k+1,hk=>by
  obtain ⟨h1,h2⟩:=WL.ZM hp h h0 k Zo
  rw [LJ,QE]
  have hs:=h2.Zb (p:Int) ((k:Int)+1)
  have e1:((k:Int)+1)=((k+1:Nat):Int):=by omega
  rw [e1] at hs ⊢
  cases ht:((Rm.ZM p R (k+1)).2.sub (k+1) p).there
  ·rw [Z4 (by rw [hs,UQ];rintro ⟨_,_,_,_,h⟩;rw [ht] at h;cases h),Z4 Zd]
   exact ⟨h1,h2⟩
  ·have hh:Zx (Rm.ZM p R (k+1)).2 p (k+1:Nat)=true:=UQ.2 ⟨hp.1,hp.2,Zo,Zo,ht⟩
   rw [ZQ (hs.2 hh),ZQ rfl]
   exact ⟨by dsimp only;rw [h1],h2.WR hh⟩
theorem WL.ZI {p:Nat} (hp:1≤p) {T:ZN} {X:Room} (h:WL T X) (h0:(X.src 0).there=false):∀ k,k≤8→(ZN.ZI p T k).1=(Rm.ZI X p (k+1)).1∧WL (ZN.ZI p T k).2 (Rm.ZI X p (k+1)).2
 | 0,_=>by
  rw [QF,h0]
  exact ⟨rfl,h⟩
 | k+1,hk=>by
  obtain ⟨h1,h2⟩:=WL.ZI hp h h0 k Zo
  rw [LK,QF]
  have e1:((k:Int)+1)=((k+1:Nat):Int):=by omega
  rw [e1,h2.owner]
  have P5:(Rm.ZI X p (k+1)).2.src (k+1)=X.src (k+1):=by rw [OO,Z4 Zo]
  by_cases ht:(X.src (k+1)).there=true∧(X.src (k+1)).own=p
  ·have hi:Vw (Rm.ZI X p (k+1)).2 ((k+1:Nat):Int)=true:=Rb.2 ⟨Zo,Zo,by rw [P5];exact ht.1⟩
   have hg:=h2.gone hi
   rw [hi,ZQ rfl,Wv,P5,ZQ ht.2,ZQ (by rw [ht.1,ht.2];simp)]
   exact ⟨by dsimp only;rw [h1,hg.1],hg.2⟩
  ·have hn:¬(((X.src (k+1)).there && decide ((X.src (k+1)).own=(p:Int)))=true):=by
    rw [TU,decide_eq_true_iff];exact ht
   rw [Z4 hn]
   cases hi:Vw (Rm.ZI X p (k+1)).2 ((k+1:Nat):Int)
   ·rw [Z4 (show ¬(false=true) by decide),Z4 Zo]
    exact ⟨h1,h2⟩
   ·have ht1:(X.src (k+1)).there=true:=by have:=(Rb.1 hi).2.2;rwa [P5] at this
    rw [ZQ rfl,Wv,P5,Z4 (fun e=>ht ⟨ht1,e⟩)]
    exact ⟨h1,h2⟩
theorem WL.leave {T:ZN} {R:Room} (h:WL T R) (hI:Inv R) {p:Nat} (hj:Ze R p=true):(T.leave p).1=(Rm.leave R p).1∧WL (T.leave p).2 (Rm.leave R p).2:=by
 obtain ⟨a,b,c⟩:=UA.1 hj
 obtain ⟨h1,h2⟩:=h.ZM (p:=p) Zo (fun q=>by
  rw [K4];intro e;have:=(hI.Zb 0 q e).1;omega) 8 Zo
 have hn:=RJ R p 9
 obtain ⟨h3,h4⟩:=h2.ZI (p:=p) Zo (by rw [hn.2];exact hI.QH.2) 8 Zo
 unfold ZN.leave Rm.leave
 refine ⟨by dsimp only;rw [h1,h3],h4.OW ?_⟩
 rw [Lu (R:=R) (by rw [OM,hn.1])]
 exact hj
theorem WL.ask {T:ZN} {R:Room} (h:WL T R) {p n:Nat} (hs:Vw R n=true) (_hh:Zx R p n=true):T.ask (UK R p n)=asks R p n:=by
 unfold ZN.ask asks
 have e:(UK R p n).source=(n:Int):=rfl
 rw [e,h.Wc hs]
 unfold UC UK
 rw [Wv,Wv]
theorem WL.waits {T:ZN} {R:Room} (h:WL T R) {p n:Nat} (hs:Vw R n=true) (hh:Zx R p n=true) {t:YD} :
  (t :: (if (UK R p n).ZR || (T.Wc n).ZG then [] else [T.ask (UK R p n)]))=t :: Rm.waits R p n:=by
 rw [h.ask hs hh,h.Wc hs]
 unfold Rm.waits UK UC
 rw [Wv,Wv]
theorem WL.mute {T:ZN} {R:Room} (h:WL T R) {n:Nat} (hs:Vw R n=true) (on:Bool):(T.mute n on).1=(Rm.mute R n on).1∧WL (T.mute n on).2 (Rm.mute R n on).2:=by
 have h1:=h.ZJ hs on
 refine ⟨?_,h1⟩
 unfold ZN.mute Rm.mute
 dsimp only
 rw [h1.GU]
 generalize hR1:R.Y6 n {R.src n with ZG:=on}=R1 at *
 have pq:(R1.src n).ZG=on:=by rw [←hR1,WA,ZQ rfl]
 have iT:Vw R1 n=true:=by
  rw [Rb] at hs ⊢
  exact ⟨hs.1,hs.2.1,by rw [←hR1,WA,ZQ rfl];exact hs.2.2⟩
 apply z_
 intro p hp
 have hh:Zx R1 p n=true:=(aN.1 hp).2
 unfold ZN.Y5 Y5
 cases on
 ·rw [Z4 (show ¬(false=true) by decide),Z4 (show ¬(false=true) by decide),h1.OZ hh,h1.ask iT hh]
  unfold Rm.waits
  rw [pq,Bool.or_false]
  unfold UK;rw [Wv,Wv]
 ·rfl
theorem sW {R:Room} (hI:Inv R) {p n:Nat} (hh:Zx R p n=true):Vw R n=true:=by
 obtain ⟨_,_,c,d,e⟩:=UQ.1 hh
 exact Rb.2 ⟨c,d,(hI.Zb n p e).2.2.2.2.1⟩
theorem Ox {T:ZN} {R:Room} (h:WL T R) {p n:Nat} {kd la:Int} {nm:List UInt8} {ss:List Int} (hh:Zx R p n=true) (k:Int) :
  T.changed ⟨kd,p,n,la,nm,ss⟩ k=(if k=4 then ⟨p,n,(R.sub n p).want,true⟩ else if k=5 then ⟨p,n,(R.sub n p).want,false⟩ else ⟨p,n,la,(R.sub n p).ZR⟩):=by
 unfold ZN.changed
 dsimp only
 rw [h.OZ hh]
 unfold UK
 rw [Wv,Wv]
theorem WL.change {T:ZN} {R:Room} (h:WL T R) (hI:Inv R) {p n:Nat} {kd la:Int} {nm:List UInt8} {ss:List Int} (hh:Zx R p n=true) (k:Int) (x:Sub) (hx:x.there=true) (hc:T.changed ⟨kd,p,n,la,nm,ss⟩ k=⟨p,n,x.want,x.ZR⟩) :
  (T.change ⟨kd,p,n,la,nm,ss⟩ k).1=⟨k,p,n,if k=8 then la else 0,0⟩ :: Rm.waits (R.ZP n p x) p n∧WL (T.change ⟨kd,p,n,la,nm,ss⟩ k).2 (R.ZP n p x):=by
 have h1:=h.ZP hh x hx
 have hs:=sW hI hh
 have iT:Vw (R.ZP n p x) n=true:=hs
 have hh1:Zx (R.ZP n p x) p n=true:=by
  rw [UQ] at hh ⊢
  exact ⟨hh.1,hh.2.1,hh.2.2.1,hh.2.2.2.1,by rw [Wh];exact hx⟩
 have rC:UK (R.ZP n p x) p n=⟨p,n,x.want,x.ZR⟩:=by unfold UK;rw [Wv,Wv,Wh]
 have hw:=h1.waits iT hh1 (t:=⟨k,p,n,if k=8 then la else 0,0⟩)
 rw [rC] at hw
 unfold ZN.change
 dsimp only
 rw [hc]
 exact ⟨hw,h1⟩
theorem WL.turns {T:ZN} {R:Room} (h:WL T R) (hI:Inv R) {o:Op} (ok:Ok R o) (sv:Value):(T.turns o).1=(turns R o sv).1∧WL (T.turns o).2 (turns R o sv).2:=by
 obtain ⟨kd,p,n,la,nm,ss⟩:=o
 obtain ⟨hk,hp,hj,ht,hs,xd,kY,Mo⟩:=ok
 dsimp only at *
 obtain ⟨p,rfl⟩:=QT (show 0≤p by omega)
 by_cases k2:kd=2
 ·subst k2
  obtain ⟨h1,h2,h3⟩:=vq (hj rfl)
  rw [show T.turns ⟨2,p,n,la,nm,ss⟩=([],T.M7 ⟨p,nm⟩) from rfl,show Rm.turns R ⟨2,p,n,la,nm,ss⟩ sv=([],R.setName p nm) by simp [Rm.turns]]
  exact ⟨rfl,h.M7 (p:=p) Zo h1 nm (qf h2)⟩
 have hj1:=ht k2
 by_cases k3:kd=3
 ·subst k3
  rw [show T.turns ⟨3,p,n,la,nm,ss⟩=T.leave p from rfl,show Rm.turns R ⟨3,p,n,la,nm,ss⟩ sv=Rm.leave R p by simp [Rm.turns]]
  exact h.leave hI hj1
 obtain ⟨n,rfl⟩:=QT (show 0≤n by have:=hs Zo;omega)
 have hn:=hs Zo
 by_cases k4:kd=4
 ·subst k4
  obtain ⟨_,_,_,h4,_,_⟩:=Hl (xd rfl)
  have KP:Vw R n=false:=by
   rw [K4,ne_eq,Vx]
   rintro ⟨_,_,c⟩
   dsimp only at h4
   rw [h4] at c;cases c
  rw [show T.turns ⟨4,p,n,la,nm,ss⟩=([],T.Ke ⟨n,p,ss,false⟩) from rfl,show Rm.turns R ⟨4,p,n,la,nm,ss⟩ sv=([],R.Y6 n ⟨true,n,p,sv,ss,false⟩) by simp [Rm.turns]]
  exact ⟨rfl,h.Ke (n:=n) Zo KP ⟨true,n,p,sv,ss,false⟩ rfl⟩
 have bn:=kY Zo
 have N8:=Mo Zo
 rw [Wv] at bn
 have pF:Vw R n=true:=Rb.2 ⟨Zo,Zo,bn⟩
 by_cases k5:kd=5
 ·subst k5
  rw [show T.turns ⟨5,p,n,la,nm,ss⟩=T.Yq n from rfl,show Rm.turns R ⟨5,p,n,la,nm,ss⟩ sv=Rm.gone R n by simp [Rm.turns]]
  exact h.gone pF
 by_cases k6:kd=6
 ·subst k6
  obtain ⟨h1,h2,h3⟩:=Pc N8 rfl
  dsimp only at h1 h2 h3
  rw [Wv,Wv] at h2
  have KP:Zx R p n=false:=by
   rw [K4,ne_eq,UQ]
   rintro ⟨_,_,_,_,e⟩;rw [h2] at e;cases e
  have Im:=h.Vm (p:=p) (n:=n) Zo Zo KP ⟨true,false,la⟩ rfl
  have hsI2:Vw (R.ZP n p ⟨true,false,la⟩) n=true:=pF
  have hh2:Zx (R.ZP n p ⟨true,false,la⟩) p n=true:=UQ.2 ⟨Zo,Zo,Zo,Zo,by rw [Wh]⟩
  rw [show T.turns ⟨6,p,n,la,nm,ss⟩=T.subscribe ⟨6,p,n,la,nm,ss⟩ from rfl,show Rm.turns R ⟨6,p,n,la,nm,ss⟩ sv=begin R ⟨6,p,n,la,nm,ss⟩ by simp [Rm.turns]]
  refine ⟨?_,by unfold begin;dsimp only;rw [Wv,Wv];exact Im⟩
  unfold ZN.subscribe begin
  dsimp only
  rw [Im.Wc hsI2]
  have rC:UK (R.ZP n p ⟨true,false,la⟩) p n=⟨p,n,la,false⟩:=by unfold UK;rw [Wv,Wv,Wh]
  have ha:=Im.ask hsI2 hh2
  rw [rC] at ha
  rw [ha]
  unfold UC
  rw [Wv,Wv]
  rfl
 by_cases k8:kd=8
 ·subst k8
  rw [show T.turns ⟨8,p,n,la,nm,ss⟩=T.mute n true from rfl,show Rm.turns R ⟨8,p,n,la,nm,ss⟩ sv=Rm.mute R n true by simp [Rm.turns]]
  exact h.mute pF true
 by_cases k9:kd=9
 ·subst k9
  rw [show T.turns ⟨9,p,n,la,nm,ss⟩=T.mute n false from rfl,show Rm.turns R ⟨9,p,n,la,nm,ss⟩ sv=Rm.mute R n false by simp [Rm.turns]]
  exact h.mute pF false
 have yZ:=TL N8 Uj
 have iB:Zx R p n=true:=by
  have:=yZ.1
  dsimp only at this
  rw [Wv,Wv] at this
  exact UQ.2 ⟨Zo,Zo,Zo,Zo,this⟩
 have eO:=(UQ.1 iB).2.2.2.2
 by_cases k7:kd=7
 ·subst k7
  rw [show T.turns ⟨7,p,n,la,nm,ss⟩=([⟨2,p,n,0,0⟩],T.WR p n) from rfl,show Rm.turns R ⟨7,p,n,la,nm,ss⟩ sv=([⟨2,p,n,0,0⟩],R.ZP n p Ve) by simp [Rm.turns]]
  exact ⟨rfl,h.WR iB⟩
 by_cases k10:kd=10
 ·subst k10
  have hc:=Ox h (kd:=10) (la:=la) (nm:=nm) (ss:=ss) iB 4
  rw [ZQ rfl] at hc
  rw [show T.turns ⟨10,p,n,la,nm,ss⟩=T.change ⟨10,p,n,la,nm,ss⟩ 4 from rfl,show Rm.turns R ⟨10,p,n,la,nm,ss⟩ sv=([⟨4,p,n,0,0⟩],R.ZP n p {R.sub n p with ZR:=true}) by simp [Rm.turns]]
  have:=h.change hI (kd:=10) (la:=la) (nm:=nm) (ss:=ss) iB 4 {R.sub n p with ZR:=true} eO hc
  have uT:=this.1
  have hwt:Rm.waits (R.ZP n p {R.sub n p with ZR:=true}) p n=[]:=by unfold Rm.waits;rw [Wh];rfl
  rw [Z4 Zd,hwt] at uT
  exact ⟨uT,this.2⟩
 by_cases k11:kd=11
 ·subst k11
  have hc:=Ox h (kd:=11) (la:=la) (nm:=nm) (ss:=ss) iB 5
  rw [Z4 Zd,ZQ rfl] at hc
  rw [show T.turns ⟨11,p,n,la,nm,ss⟩=T.change ⟨11,p,n,la,nm,ss⟩ 5 from rfl,show Rm.turns R ⟨11,p,n,la,nm,ss⟩ sv=(⟨5,p,n,0,0⟩ :: Rm.waits (R.ZP n p {R.sub n p with ZR:=false}) p n,R.ZP n p {R.sub n p with ZR:=false}) by simp [Rm.turns]]
  have:=h.change hI (kd:=11) (la:=la) (nm:=nm) (ss:=ss) iB 5 {R.sub n p with ZR:=false} eO hc
  have uT:=this.1
  rw [Z4 Zd] at uT
  exact ⟨uT,this.2⟩
 ·obtain rfl:kd=12:=by omega
  have hc:=Ox h (kd:=12) (la:=la) (nm:=nm) (ss:=ss) iB 8
  rw [Z4 Zd,Z4 Zd] at hc
  rw [show T.turns ⟨12,p,n,la,nm,ss⟩=T.change ⟨12,p,n,la,nm,ss⟩ 8 from rfl,show Rm.turns R ⟨12,p,n,la,nm,ss⟩ sv=(⟨8,p,n,la,0⟩ :: Rm.waits (R.ZP n p {R.sub n p with want:=la}) p n,R.ZP n p {R.sub n p with want:=la}) by simp [Rm.turns]]
  have:=h.change hI (kd:=12) (la:=la) (nm:=nm) (ss:=ss) iB 8 {R.sub n p with want:=la} eO hc
  have uT:=this.1
  rw [ZQ rfl] at uT
  exact ⟨uT,this.2⟩
theorem WL.Wm {T:ZN} {R:Room} (h:WL T R) (hI:Inv R) (o:Op) (sv:Value):(T.Wm o).1.1=(Wm R o sv).1.1∧(T.Wm o).2=(Wm R o sv).2∧WL (T.Wm o).1.2 (Wm R o sv).1.2:=by
 unfold ZN.Wm Rm.Wm
 rw [h.Bt hI]
 by_cases hw:X5 R o≠0
 ·rw [ZQ hw,ZQ hw];exact ⟨rfl,rfl,h⟩
 ·rw [Z4 hw,Z4 hw]
  have:=h.turns hI (PT (Classical.not_not.1 hw)) sv
  exact ⟨this.1,rfl,this.2⟩
theorem WL.YS {T:ZN} {R:Room} (h:WL T R) (hI:Inv R) (p x:Int):(T.YS p x).1.1=(YS R p x).1.1∧(T.YS p x).2=(YS R p x).2∧WL (T.YS p x).1.2 (YS R p x).1.2:=by
 unfold ZN.YS Rm.YS
 rw [h.of_eq hI,h.owner]
 cases ho:(of R x).2.2
 ·exact ⟨rfl,rfl,h⟩
 ·obtain ⟨m,hm,ht,hx,he⟩:=QI ho
  obtain ⟨Da,_⟩:=hI.YU m ht
  have hs:Vw R (m:Int)=true:=Rb.2 ⟨Da,hm,ht⟩
  rw [he]
  dsimp only
  rw [hs,ZQ rfl,Wv]
  cases hj:Ze R p
  ·rw [h.Iy hj];exact ⟨rfl,rfl,h⟩
  ·have hpp:=(h.XI p).2 hj
   have e1:decide (T.XI p<0)=false:=WB Zo
   rw [e1]
   by_cases YJ:(R.src m).own=p
   ·have e2:decide ((R.src m).own≠p)=false:=WB (by simp [YJ])
    rw [e2]
    have hg:=h.gone hs
    exact ⟨hg.1,rfl,hg.2⟩
   ·have e2:decide ((R.src m).own≠p)=true:=We YJ
    rw [e2];exact ⟨rfl,rfl,h⟩
theorem WL.ok {T:ZN} {R:Room} (h:WL T R) (hI:Inv R) {o:Op} (hw:T.X5 o=0):rX T o:=by
 have ok:=PT (show X5 R o=0 by rw [←h.Bt hI];exact hw)
 obtain ⟨kd,p,n,la,nm,ss⟩:=o
 obtain ⟨hk,hp,hj,ht,hs,xd,kY,Mo⟩:=ok
 dsimp only at *
 have P5:5≤kd→Vw R n=true:=fun ld=>Vx.2 ⟨(hs Zo).1,(hs Zo).2,kY ld⟩
 have hsub:kd=7∨10≤kd→Zx R p n=true:=fun Es=>by
  have yZ:=(TL (Mo Zo) Uj).1
  have:=hs Zo
  exact SN.2 ⟨hp.1,hp.2,this.1,this.2,yZ⟩
 have Th:∀ q m:Int,Zx R q m=true→0≤(R.sub m.toNat q.toNat).want∧(R.sub m.toNat q.toNat).want<(R.src m.toNat).ss.length:=fun q m hh=>by
  have:=hI.Zb m.toNat q.toNat (SN.1 hh).2.2.2.2
  exact ⟨this.2.2.2.2.2.2.2.1,this.2.2.2.2.2.2.2.2⟩
 refine ⟨hk,hp.1,fun hk4=>?_,fun hk3=>(h.XI p).2 (ht (by have h3:kd=3:=hk3;omega)),fun ld=>(h.YU n).2 (P5 ld),fun hk6=>?_,fun Es=>(h.Zb p n).2 (hsub Es),fun UN=>?_,?_⟩
 ·exact (Hl (xd hk4)).2.1
 ·have hk6:kd=6:=hk6
  have h3:=(Pc (Mo Zo) hk6).2.2
  have:=Pw h3
  dsimp only
  rw [h.Wc (P5 Zo)]
  exact this
 ·intro x hx hxn
  dsimp only at hxn ⊢
  have UN:kd=9:=UN
  have pF:=P5 Zo
  obtain ⟨m,rfl⟩:=QT (show 0≤n by have:=(Vx.1 pF).1;omega)
  have h1:=h.ZJ pF false
  have hsI1:Vw (R.Y6 m {R.src m with ZG:=false}) m=true:=by
   rw [Rb] at pF ⊢
   exact ⟨pF.1,pF.2.1,by rw [WA,ZQ rfl];exact pF.2.2⟩
  refine ⟨(h1.YU _).2 hsI1,?_⟩
  have Ol:=(h.Iu (x:=x)).1 hx
  rw [h1.Wc hsI1,Ol.2]
  unfold UC UK
  dsimp only
  rw [hxn,Wv,WA,ZQ rfl]
  have:=Th x.peer x.source Ol.1
  rw [hxn,Wv] at this
  exact this
 ·intro k ed
  have ed:kd=10∧k=4∨kd=11∧k=5∨kd=12∧k=8:=ed
  have pg:kd=7∨10≤kd:=by omega
  have hh:=hsub pg
  have bo:=Th p n hh
  obtain ⟨p,rfl⟩:=QT (show 0≤p by omega)
  obtain ⟨n,rfl⟩:=QT (show 0≤n by have:=hs Zo;omega)
  rw [Ox h hh k]
  dsimp only
  rw [h.Wc (P5 Zo)]
  unfold UC
  dsimp only
  rw [Wv,Wv] at bo
  rw [Wv]
  rcases ed with ⟨_,rfl⟩|⟨_,rfl⟩|⟨h12,rfl⟩
  ·exact bo
  ·exact bo
  ·have h4:=(TL (Mo Zo) Uj).2.2.2 h12
   have h5:=Pw h4.1
   dsimp only at h5
   rw [Wv] at h5
   exact h5
end Go.Proofs.Rm
namespace Go.Proofs.Rm
open Go.RowKit Go.Proofs.Heap Go.Proofs.Mem
open Go.Proofs.Od (may key Xz)
open Go.Proofs.uy
theorem LZ {α κ:Type} [DecidableEq κ] (key:α→κ):∀ (l:List α) (K:List κ),N1 key l→(∀ x∈l,key x∈K)→l.length≤K.length
 | [],_,_,_=>Tw _
 | x :: l,K,hu,hk=>by
  obtain ⟨h1,h2⟩:=(PO key).1 hu
  have hx:=hk x (List.mem_cons_self ..)
  have:=LZ key l (K.erase (key x)) h2 (fun y hy=>(List.mem_erase_of_ne (h1 y hy)).2 (hk y (List.mem_cons_of_mem _ hy)))
  rw [List.length_erase_of_mem hx] at this
  have hp:0<K.length:=List.length_pos_of_mem hx
  rw [List.length_cons];omega
theorem WL.small {T:ZN} {R:Room} (h:WL T R):T.Small:=by
 have hm:∀ n:Int,1≤n→n<9→n∈[(1:Int),2,3,4,5,6,7,8]:=fun n h1 h2=>by
  have:n=1∨n=2∨n=3∨n=4∨n=5∨n=6∨n=7∨n=8:=by omega
  rcases this with rfl|rfl|rfl|rfl|rfl|rfl|rfl|rfl <;> simp
 refine ⟨?_,?_,?_⟩
 ·refine PW (LZ Vk.num T.ZA [1,2,3,4,5,6,7,8] h.up fun x hx=>?_) Zd
  obtain ⟨n,hn,rfl⟩:=h.LA.1 hx
  have:=UA.1 hn
  exact hm n this.1 this.2.1
 ·refine PW (LZ Wl.num T.Yk [1,2,3,4,5,6,7,8] h.us fun x hx=>?_) Zd
  obtain ⟨n,hn,rfl⟩:=h.Dl.1 hx
  have:=Vx.1 hn
  exact hm n this.1 this.2.1
 ·refine PW (LZ uk T.Z5 ([(1:Int),2,3,4,5,6,7,8].flatMap fun p=>[(1:Int),2,3,4,5,6,7,8].map fun n=>(p,n)) h.uu fun x hx=>?_) Zd
  have:=SN.1 (h.Iu.1 hx).1
  rw [List.mem_flatMap]
  exact ⟨x.peer,hm _ this.1 this.2.1,wD.2 ⟨x.source,hm _ this.2.2.1 this.2.2.2.1,rfl⟩⟩
theorem WL.names {T:ZN} {R:Room} (h:WL T R) (hI:Inv R):∀ x∈T.ZA,x.name.length<9223372036854775807:=fun x hx=>by
 obtain ⟨n,_,rfl⟩:=h.LA.1 hx
 exact J0 hI _
theorem E3:WL ⟨[],[],[]⟩ empty:=by
 have hj:∀ p,Ze empty p=false:=fun p=>by rw [K4,ne_eq,UA];rintro ⟨_,_,h⟩;exact h rfl
 have hs:∀ n,Vw empty n=false:=fun n=>by rw [K4,ne_eq,Vx];rintro ⟨_,_,h⟩;cases h
 have hh:∀ p n,Zx empty p n=false:=fun p n=>by rw [K4,ne_eq,SN];rintro ⟨_,_,_,_,h⟩;cases h
 exact ⟨List.nodup_nil,List.nodup_nil,List.nodup_nil,fun p=>by rw [hj];rfl,fun n=>by rw [hs];rfl,fun p n=>by rw [hh];rfl⟩
theorem vG (b:Nat) (T:ZN) (R:Room) (o:Op) (sv:Value) (sa ba:Option Addr) (sc bl bc:Nat) (w:World) (hR:ZL w b T) (hs:WL T R) (hI:Inv R) (hT:Xz w) (U0:o.name.length<9223372036854775807)
  (Z0:XU w (.slice sa o.ZK.length sc) o.ZK.length (YO o.ZK)) :
  Calls Tryz.prog 72 (Qi (some ⟨b,0,none⟩) (Jm o sa o.ZK.length sc ba bl bc)) w fun e w'=>
   (∃ v,e = .returned (.tuple #[v,.int .i64 (Wm R o sv).2])∧YG w' v (Wm R o sv).1.1)∧(∃ T',ZL w' b T'∧WL T' (Wm R o sv).1.2)∧Fr w (· = b) w w':=by
 obtain ⟨h1,h2,h3⟩:=hs.Wm hI o sv
 refine (lM b T o sa ba sc bl bc w hR hs.small hT U0 (hs.names hI) Z0 (fun h=>hs.ok hI h)).mono ?_
 rintro e w' ⟨⟨v,rfl,Z0⟩,U3,Wx⟩
 rw [h1] at Z0
 rw [h2]
 exact ⟨⟨v,rfl,Z0⟩,⟨_,U3,h3⟩,Wx⟩
theorem ET (b:Nat) (T:ZN) (R:Room) (p x:Int) (w:World) (hR:ZL w b T) (hs:WL T R) (hI:Inv R) :
  Calls Tryz.prog 104 (Q9 (some ⟨b,0,none⟩) p x) w fun e w'=>
   (∃ v,e = .returned (.tuple #[v,.int .i64 (YS R p x).2])∧YG w' v (YS R p x).1.1)∧(∃ T',ZL w' b T'∧WL T' (YS R p x).1.2)∧Fr w (· = b) w w':=by
 obtain ⟨h1,h2,h3⟩:=hs.YS hI p x
 refine (tV b T p x w hR hs.small).mono ?_
 rintro e w' ⟨⟨v,rfl,Z0⟩,U3,Wx⟩
 rw [h1] at Z0
 rw [h2]
 exact ⟨⟨v,rfl,Z0⟩,⟨_,U3,h3⟩,Wx⟩
end Go.Proofs.Rm
namespace Go.Proofs.By
open Go.Proofs.Rm (Room YD ZN Vj WL Inv Wa opens W_ Ov ou QR Zx YS Wm turns)
def QJ (n at':Int) (T:ZN) (ls:List Zq) (x:Vj):List Zq:=if 0≤T.Zb x.peer x.source then ls else XB n at' (fun k=>decide (k=(x.peer,x.source))) ls
def R3 (n at':Int) (T:ZN) (was:List Vj) (ls:List Zq):List Zq:=was.foldl (QJ n at' T) ls
theorem Ng (n at':Int) (T:ZN):∀ (was:List Vj) (ls:List Zq),(R3 n at' T was ls).length=ls.length
 | [],_=>rfl
 | x :: was,ls=>by
  show (R3 n at' T was (QJ n at' T ls x)).length=_
  rw [Ng]
  unfold QJ
  split
  ·rfl
  ·unfold XB;rw [Tx]
theorem xL (n at':Int) (T:ZN) (was:List Vj) (x:Vj) (ls:List Zq):R3 n at' T (was++[x]) ls=QJ n at' T (R3 n at' T was ls) x:=by
 unfold R3
 rw [List.foldl_append]
 rfl
theorem ER {n at':Int} (Vc:at'≠n) (T:ZN):∀ (was:List Vj) (ls:List Zq),R3 n at' T was ls=XB n at' (fun k=>was.any fun x=>decide (T.Zb x.peer x.source<0) && decide (k=(x.peer,x.source))) ls
 | [],ls=>(TB fun _ _ _=>rfl).symm
 | x :: was,ls=>by
  show R3 n at' T was (QJ n at' T ls x)=_
  rw [ER Vc T was]
  unfold QJ
  by_cases h:0≤T.Zb x.peer x.source
  ·rw [ZQ h]
   refine RI fun z _ _=>?_
   rw [List.any_cons,WB Zo];rfl
  ·rw [Z4 h,GC Vc]
   refine RI fun z _ _=>?_
   rw [List.any_cons,We (show T.Zb x.peer x.source<0 by omega)];rfl
theorem Ku {n at':Int} (Vc:at'≠n) {T T':ZN} {R R':Room} (h:WL T R) (h':WL T' R') (ls:List Zq):R3 n at' T' T.Z5 ls=XB n at' (fun k=>opens R k && !opens R' k) ls:=by
 rw [ER Vc]
 refine RI fun z _ _=>?_
 rw [Bool.eq_iff_iff,List.any_eq_true,TU,Bool.not_eq_true']
 constructor
 ·rintro ⟨x,hx,hc⟩
  rw [TU,Oh,Oh] at hc
  rw [hc.2]
  refine ⟨(h.Iu.1 hx).1,?_⟩
  show Zx R' x.peer x.source=false
  rw [K4]
  intro hh
  have:=(h'.Zb x.peer x.source).2 hh
  omega
 ·rintro ⟨h1,h2⟩
  refine ⟨Rm.UK R (WH z).1 (WH z).2,h.Iu.2 ⟨h1,rfl⟩,?_⟩
  rw [TU,Oh,Oh]
  refine ⟨?_,rfl⟩
  show T'.Zb (WH z).1 (WH z).2<0
  have h3:¬0≤T'.Zb (WH z).1 (WH z).2:=fun hh=>by
   have:=(h'.Zb _ _).1 hh
   have h2:Zx R' (WH z).1 (WH z).2=false:=h2
   rw [this] at h2;cases h2
  omega
def T9 (n at':Int) (T T':ZN) (ak:Int) (o:Rm.Op) (ls:List Zq):List Zq:=R3 n at' T' T.Z5 ls++if ak=2∧o.kind=6 then [⟨o.peer,o.source,at',n⟩] else []
theorem AJ {n at':Int} (Vc:at'≠n) {T T':ZN} {R:Room} (h:WL T R) (h':WL T' R) (ls:List Zq):R3 n at' T' T.Z5 ls=ls:=by
 rw [Ku Vc h h']
 refine TB fun z _ _=>?_
 cases opens R (WH z) <;> rfl
theorem xG {n at':Int} (Vc:at'≠n) {R:Room} (hI:Inv R) (hs:Wa R) {T T':ZN} (h:WL T R) (ep:Int) (o:Rm.Op) (b:List UInt8) (sv:Value) (h':WL T' (take R ep o b sv).1.2) {ls:List Zq} (hl:LI n (opens R) ls) :
  WY n at' ls (take R ep o b sv).1.1.turns=T9 n at' T T' (take R ep o b sv).1.1.XE.kind o ls∧LI n (opens (take R ep o b sv).1.2) (WY n at' ls (take R ep o b sv).1.1.turns):=by
 have still:∀ ak,WL T' R→¬(ak=2∧o.kind=6)→WY n at' ls []=T9 n at' T T' ak o ls∧LI n (opens R) (WY n at' ls []):=fun ak iR hk=>by
  unfold T9
  rw [AJ Vc h iR,Z4 hk,wC]
  exact ⟨rfl,hl⟩
 have ends:∀ ts R' ak,WL T' R'→¬(ak=2∧o.kind=6)→Rm.Good (opens R) ts (opens R')→(∀ t∈ts,t.kind≠1)→WY n at' ls ts=T9 n at' T T' ak o ls∧LI n (opens R') (WY n at' ls ts):=fun ts R' ak iR hk hg hb=>by
  obtain ⟨g1,g2⟩:=hg
  have h1:=OQ Vc ts (opens R) ls hl g1 hb
  rw [g2] at h1
  unfold T9
  rw [Ku Vc h iR,Z4 hk,wC]
  exact h1
 by_cases k1:o.kind=1
 ·have e:take R ep o b sv=YF R ep o.peer b:=by unfold take;rw [ZQ k1]
  rw [e] at h' ⊢
  unfold YF at h' ⊢
  have k6:∀ ak,¬(ak=(2:Int)∧o.kind=6):=fun ak hk=>by omega
  by_cases h1:(XJ b).2≠0
  ·rw [ZQ h1] at h' ⊢;exact still _ h' (k6 _)
  rw [Z4 h1] at h' ⊢
  by_cases h2:(!Rm.Ze R o.peer)=true
  ·rw [ZQ h2] at h' ⊢;exact still _ h' (k6 _)
  rw [Z4 h2] at h' ⊢
  cases hv:(XJ b).1 with
  | none=>rw [hv] at h';exact still _ h' (k6 _)
  | X7 p d=>
   rw [hv] at h'
   have e2:(Vd R ep o.peer p d).turns=[]:=by unfold Vd;split <;> rfl
   dsimp only at h' ⊢
   rw [e2]
   exact still _ h' (k6 _)
  | XV l=>
   rw [hv] at h'
   have hfe:l=(Ym b).1:=by
    by_cases h3:192≤at8 b 1∧at8 b 1≤223
    ·have:=Nj h3 Zo
     rw [this] at hv
     injection hv with hv
     exact hv.symm
    ·exact Yx115
   have V_:=(Ss b).1
   rw [←hfe] at V_
   have hg:=Ls o.peer l R hI hs V_
   exact ends _ _ _ h' (k6 _) hg.1 hg.2
 ·have e:take R ep o b sv=if (Wm R o sv).2≠0 then ((Yf 6 (Wm R o sv).2,R),ep) else ((Ul (ep+1) [] (Wm R o sv).1.1 0,(Wm R o sv).1.2),ep+1):=by unfold take;rw [Z4 k1]
  rw [e] at h' ⊢
  by_cases h1:(Wm R o sv).2≠0
  ·rw [ZQ h1] at h' ⊢
   exact still _ h' (fun hk=>absurd hk.1 (by show (6:Int)≠2;decide))
  rw [Z4 h1] at h' ⊢
  have hg:=Rm.oD hI o sv
  by_cases k6:o.kind=6
  ·have hd:Wm R o sv=(turns R o sv,0):=by
    unfold Wm at h1 ⊢
    split
    ·next hx=>rw [ZQ hx] at h1;exact absurd hx (by simpa using h1)
    ·rfl
   have ht:turns R o sv=Rm.begin R o:=by
    unfold turns
    dsimp only
    rw [Z4 Zo,Z4 Zo,Z4 Zo,Z4 Zo,ZQ k6]
   rw [hd,ht] at h' hg ⊢
   dsimp only [Ul] at h' hg ⊢
   obtain ⟨g1,g2⟩:=hg
   obtain ⟨t2,ht2,yV⟩:∃ t2:YD,(Rm.begin R o).1=[⟨1,o.peer,o.source,o.ZF,0⟩,t2]∧(t2.kind=6∨t2.kind=9):=by
    unfold Rm.begin
    dsimp only
    split
    ·exact ⟨_,rfl,Ww rfl⟩
    ·exact ⟨_,rfl,Wi rfl⟩
   rw [ht2] at g1 g2 ⊢
   have hS:opens R (o.peer,o.source)=false:=by
    have:=g1.1
    unfold ou at this
    rw [ZQ rfl] at this
    have:=(TU _ _ |>.mp this).2
    simpa [QR] using this
   have e1:WY n at' ls [⟨1,o.peer,o.source,o.ZF,0⟩,t2]=ls++[⟨o.peer,o.source,at',n⟩]:=by
    show Yb n at' (Yb n at' ls ⟨1,o.peer,o.source,o.ZF,0⟩) t2=_
    have a1:Yb n at' ls ⟨1,o.peer,o.source,o.ZF,0⟩=ls++[⟨o.peer,o.source,at',n⟩]:=rfl
    rw [a1]
    unfold Yb
    rw [Z4 Zo,Z4 Zo]
   have e2:opens (Rm.begin R o).2=fun x=>decide (x=(o.peer,o.source)) || opens R x:=by
    exact Yx137
   rw [e1]
   refine ⟨?_,by rw [e2];exact hl.begin o.peer o.source at' hS⟩
   unfold T9
   rw [Ku Vc h h',ZQ ⟨rfl,k6⟩,e2,TB]
   intro z _ _
   show (opens R (WH z) && !(decide _ || opens R (WH z)))=false
   cases opens R (WH z) <;> simp
  ·have hb:∀ t∈(Wm R o sv).1.1,t.kind≠1:=by
    unfold Wm
    split
    ·intro t ht;cases ht
    ·exact Bj R o sv k6
   exact ends _ _ _ h' (fun hk=>k6 hk.2) hg hb
open Go.Proofs.Rm (VK of Ze Pk Rh OL PJ Su)
theorem Bq (R:Room) (p n:Nat):(Rm.waits R p n).length≤1:=by unfold Rm.waits;split <;> simp
theorem vz (R:Room) (n:Nat) (on:Bool):(Rm.mute R n on).1.length≤18:=by
 have h1:=Su (R.Y6 n {R.src n with ZG:=on}) n on (Rm.Z5 (R.Y6 n {R.src n with ZG:=on}) n)
 have h2:=PJ (R.Y6 n {R.src n with ZG:=on}) n
 show ((Rm.Z5 (R.Y6 n {R.src n with ZG:=on}) n).flatMap _).length≤18
 omega
theorem qM (R:Room) (o:Rm.Op) (sv:Value):(turns R o sv).1.length≤200:=by
 unfold turns
 dsimp only
 by_cases k2:o.kind=2
 ·rw [ZQ k2]
  exact Tw _
 rw [Z4 k2]
 by_cases k3:o.kind=3
 ·rw [ZQ k3]
  unfold Rm.leave
  dsimp only
  rw [UM]
  have h1:=Rh o.peer.toNat R 9
  have h2:=OL o.peer.toNat (Rm.ZM o.peer.toNat R 9).2 9
  omega
 rw [Z4 k3]
 by_cases k4:o.kind=4
 ·rw [ZQ k4]
  exact Tw _
 rw [Z4 k4]
 by_cases k5:o.kind=5
 ·rw [ZQ k5]
  have:=Pk R o.source.toNat;omega
 rw [Z4 k5]
 by_cases k6:o.kind=6
 ·rw [ZQ k6]
  unfold Rm.begin
  dsimp only
  rw [List.length_cons]
  have:(if (R.src o.source.toNat).ZG=true then [(⟨6,o.peer,o.source,0,0⟩:YD)] else [Rm.asks (R.ZP o.source.toNat o.peer.toNat ⟨true,false,o.ZF⟩) o.peer.toNat o.source.toNat]).length=1:=by split <;> rfl
  omega
 rw [Z4 k6]
 by_cases k7:o.kind=7
 ·rw [ZQ k7]
  show 1≤200;decide
 rw [Z4 k7]
 by_cases k8:o.kind=8
 ·rw [ZQ k8]
  have:=vz R o.source.toNat true;omega
 rw [Z4 k8]
 by_cases k9:o.kind=9
 ·rw [ZQ k9]
  have:=vz R o.source.toNat false;omega
 rw [Z4 k9]
 by_cases k10:o.kind=10
 ·rw [ZQ k10]
  show 1≤200;decide
 rw [Z4 k10]
 by_cases k11:o.kind=11
 ·rw [ZQ k11]
  dsimp only
  rw [List.length_cons]
  exact PW (Nat.succ_le_succ (Bq _ _ _)) Zd
 rw [Z4 k11]
 by_cases k12:o.kind=12
 ·rw [ZQ k12]
  dsimp only
  rw [List.length_cons]
  exact PW (Nat.succ_le_succ (Bq _ _ _)) Zd
 rw [Z4 k12]
 exact Tw _
theorem JF (peer:Int):∀ (l:List Int) (R:Room),(Zg peer l R).1.1.length≤18*l.length
 | [],R=>Zw _
 | x :: l,R=>by
  have ih:=JF peer l (YS R peer x).1.2
  have h1:=Mm R peer x
  unfold Zg
  show ((YS R peer x).1.1++_).length≤_
  rw [UM,List.length_cons]
  omega
theorem xk (R:Room) (peer:Int) {i:RF} (hi:Te i):(Yj R peer i).1.1.length≤3000:=by
 unfold Yj
 split
 ·exact Tw _
 split
 ·exact Tw _
 split
 ·have:=JF peer i.gone R
  have hg:=hi.g
  omega
 ·exact Tw _
theorem JT (peer:Int):∀ (l:List RF) (R:Room),(∀ i∈l,Te i)→(ZE peer l R).1.1.length≤3000*l.length
 | [],R,hi=>Zw _
 | x :: l,R,hi=>by
  have h1:=xk R peer (hi x (List.mem_cons_self ..))
  have ih:=JT peer l (Yj R peer x).1.2 (fun i h=>hi i (List.mem_cons_of_mem _ h))
  unfold ZE
  show ((Yj R peer x).1.1++_).length≤_
  rw [UM,List.length_cons]
  omega
theorem Cm (R:Room) (ep p:Int) (l:List UInt8):(YF R ep p l).1.1.turns.length≤24000:=by
 unfold YF
 by_cases h1:(XJ l).2≠0
 ·rw [ZQ h1];exact Tw _
 rw [Z4 h1]
 by_cases h2:(!Ze R p)=true
 ·rw [ZQ h2];exact Tw _
 rw [Z4 h2]
 by_cases h3:192≤at8 l 1∧at8 l 1≤223
 ·rw [Nj h3 Zo]
  have hk:=Ss l
  have:=JT p (Ym l).1 R hk.1
  show (ZE p (Ym l).1 R).1.1.length≤24000
  omega
 ·obtain ⟨P,d,hp⟩:=Ht h3 Zo
  rw [hp]
  dsimp only
  unfold Vd
  split <;> exact Tw _
theorem qJ (R:Room) (ep:Int) (o:Rm.Op) (l:List UInt8) (sv:Value):(take R ep o l sv).1.1.turns.length≤24000:=by
 unfold take
 split
 ·exact Cm _ _ _ _
 split
 ·exact Tw _
 ·rename_i h
  show (Wm R o sv).1.1.length≤24000
  unfold Wm
  split
  ·exact Tw _
  ·have:=qM R o sv
   exact PW this Zd
theorem NN (L:List VG) (k:Nat):(ZX L k).turns.length≤24000:=by
 unfold ZX
 split
 ·exact Tw _
 ·exact qJ _ _ _ _ _
theorem QG (L:List VG) (n:Int):∀ k,(X8 L n k).length≤24000*k
 | 0=>Zw _
 | k+1=>by
  have ih:=QG L n k
  have h1:=NG n k (ZX L k).turns (X8 L n k)
  have h2:=NN L k
  show (WY n k (X8 L n k) (ZX L k).turns).length≤_
  omega
def OS (L:List VG) (k:Nat):List (KZ × F3):=(List.range k).map fun j=>((ZX L j).XT,(ZX L j).Wo)
theorem AO (L:List VG) (k:Nat):OS L (k+1)=OS L k++[((ZX L k).XT,(ZX L k).Wo)]:=by unfold OS;rw [ru,N7];rfl
theorem Hb (L:List VG) (k:Nat):(OS L k).length=k:=by unfold OS;rw [Tx,List.length_range]
end Go.Proofs.By

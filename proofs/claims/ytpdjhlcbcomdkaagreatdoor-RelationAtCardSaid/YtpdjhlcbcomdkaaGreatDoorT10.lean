/- Part of a proof. -/
import Derived.Test.YtpdjhlcbcomdkaaGreatDoorT09
set_option linter.unusedVariables false
set_option linter.unusedSimpArgs false
set_option maxRecDepth 100000
set_option maxHeartbeats 16000000
open Go Go.Q Go.Qr Go.Proofs.Tryz
namespace Go.Proofs.By
open Go.Proofs.Rm (YF)
def Zt(L:List WE)(k:Nat)(kd peer source:Int):Bool:=decide ((Z5 L k).XX.kind=2)&&decide ((opAt L k).kind=kd)&&decide ((opAt L k).source=source)&&(decide (peer=0)||decide ((opAt L k).peer=peer))
def Tp(L:List WE)(x:Zx)(k:Nat):Bool:=XU L x k&&VK (ZC L x k) (Z5 L k).Wx
section
variable {L:List WE} {x:Zx}
theorem mS{k:Nat}{kd:Int}(h1:kd≠1)(h0:kd≠0):F5 L k=kd↔((Z5 L k).XX.kind=2∧(opAt L k).kind=kd):=by
 unfold F5;split
 ·rename_i h
  constructor
  ·intro h';exact absurd h'.symm h0
  ·rintro⟨a,b⟩;rcases h with h|h
   ·exact absurd a h
   ·exact absurd (b.symm.trans h) h1
 ·rename_i h
  have ha:(Z5 L k).XX.kind=2:=Classical.not_not.1 (fun hh=>h (WO hh));exact⟨fun h'=>⟨ha,h'⟩,fun h'=>h'.2⟩
theorem Kg{k:Nat}{kd s:Int}(h1:kd≠1)(h0:kd≠0):Zt L k kd 0 s=true↔(F5 L k=kd∧(opAt L k).source=s):=by
 rw[mS h1 h0];unfold Zt;simp only[UW,Bool.or_eq_true,Sz,true_or,and_true]
theorem Kh{k:Nat}{kd p s:Int}(hp:p≠0)(h1:kd≠1)(h0:kd≠0):Zt L k kd p s=true↔(F5 L k=kd∧(opAt L k).source=s∧(opAt L k).peer=p):=by
 rw[mS h1 h0];unfold Zt;simp only[UW,Bool.or_eq_true,Sz,hp,false_or,and_assoc]
theorem Dr(s:VS)(k:Nat):(UQ L x s k).want=(Tg L x s k).want:=by unfold UQ;split <;> rfl
theorem M8(s:VS)(k:Nat):(UQ L x s k).ZV=(Tg L x s k).ZV:=by unfold UQ;split <;> rfl
theorem LO(s:VS)(k:Nat):(UQ L x s k).ZN=(Tg L x s k).ZN:=by unfold UQ;split <;> rfl
theorem Oh(s:VS)(q:Int):(YY s q).want=s.want∧(YY s q).ZV=s.ZV:=by unfold YY;(repeat' split) <;> exact⟨rfl,rfl⟩
theorem mW(s:VS)(k q:Int):(QP s k q).want=if k=12 then q else s.want:=by unfold QP;(repeat' split) <;> first|rfl|omega
theorem u_(s:VS)(k q:Int):(QP s k q).ZV=if k=10 then true else if k=11 then false else s.ZV:=by unfold QP;(repeat' split) <;> first|rfl|omega
theorem Ch(hp:x.peer≠0)(s:VS)(k:Nat):(Tg L x s k).want=if Wh x k=true∧Zt L k 12 x.peer x.source=true then(opAt L k).ZI else s.want:=by
 have hd:=Kh (L:=L) (k:=k) (kd:=12) (p:=x.peer) (s:=x.source) hp Zd Zd;unfold Tg;split
 ·rename_i hs
  split
  ·rename_i h
   rw[mW];by_cases h12:F5 L k=12
   ·rw[ZU h12,ZU ⟨h.2,hd.2 ⟨h12,hs,h.1⟩⟩]
   ·rw[Z3 h12,Z3 (fun h'=>h12 (hd.1 h'.2).1)];exact(Oh _ _).1
  ·rename_i h
   rw[Z3 (fun h'=>h ⟨(hd.1 h'.2).2.2,h'.1⟩)];exact(Oh _ _).1
 ·rename_i hs
  rw[Z3 (fun h'=>hs (hd.1 h'.2).2.1)]
theorem MN(hp:x.peer≠0)(s:VS)(k:Nat):(Tg L x s k).ZV=if Wh x k=true∧Zt L k 10 x.peer x.source=true then true else if Wh x k=true∧Zt L k 11 x.peer x.source=true then false else s.ZV:=by
 have hd:=Kh (L:=L) (k:=k) (kd:=10) (p:=x.peer) (s:=x.source) hp Zd Zd;have he:=Kh (L:=L) (k:=k) (kd:=11) (p:=x.peer) (s:=x.source) hp Zd Zd;unfold Tg;split
 ·rename_i hs
  split
  ·rename_i h
   rw[u_];by_cases GP:F5 L k=10
   ·rw[ZU GP,ZU ⟨h.2,hd.2 ⟨GP,hs,h.1⟩⟩]
   ·have q10:¬(Wh x k=true∧Zt L k 10 x.peer x.source=true):=fun h'=>GP (hd.1 h'.2).1
    rw[Z3 GP,Z3 q10];by_cases h11:F5 L k=11
    ·rw[ZU h11,ZU ⟨h.2,he.2 ⟨h11,hs,h.1⟩⟩]
    ·have q11:¬(Wh x k=true∧Zt L k 11 x.peer x.source=true):=fun h'=>h11 (he.1 h'.2).1
     rw[Z3 h11,Z3 q11];exact(Oh _ _).2
  ·rename_i h
   rw[Z3 (fun h'=>h ⟨(hd.1 h'.2).2.2,h'.1⟩),Z3 (fun h'=>h ⟨(he.1 h'.2).2.2,h'.1⟩)];exact(Oh _ _).2
 ·rename_i hs
  rw[Z3 (fun h'=>hs (hd.1 h'.2).2.1),Z3 (fun h'=>hs (he.1 h'.2).2.1)]
theorem qL(s:VS)(k q:Int):(QP s k q).ZN=s.ZN:=by unfold QP;(repeat' split) <;> rfl
theorem Lu(s:VS)(k:Nat):(Tg L x s k).ZN=if Zt L k 8 0 x.source=true then true else if Zt L k 9 0 x.source=true∨Zt L k 4 0 x.source=true then false else s.ZN:=by
 simp only[Kg (kd:=8) Zd Zd,Kg (kd:=9) Zd Zd,Kg (kd:=4) Zd Zd]
 have e:(opAt L k).source=x.source→(Tg L x s k).ZN=(YY s (F5 L k)).ZN:=fun hs=>by
  unfold Tg;rw[ZU hs];split
  ·exact qL _ _ _
  ·rfl
 by_cases hs:(opAt L k).source=x.source
 ·rw[e hs];unfold YY;by_cases h49:F5 L k=4∨F5 L k=9
  ·rw[ZU h49,Z3 (fun h'=>by omega),ZU (by rcases h49 with h|h <;> first|exact WO ⟨h,hs⟩|exact WB ⟨h,hs⟩)]
  ·rw[Z3 h49];by_cases h8:F5 L k=8
   ·rw[ZU h8,ZU ⟨h8,hs⟩]
   ·rw[Z3 h8,Z3 (fun h'=>h8 h'.1),Z3 (fun h'=>h49 (h'.elim (fun h=>WB h.1) (fun h=>WO h.1)))]
 ·unfold Tg;rw[Z3 hs,Z3 (fun h'=>hs h'.2),Z3 (fun h'=>h'.elim (fun h=>hs h.2) (fun h=>hs h.2))]
theorem JU(hp:x.peer≠0){a:Nat}:∀ {b:Nat},a≤b→(∀j,a≤j→j<b→Wh x (j:Int)=true→Zt L j 12 x.peer x.source=false)→(ZC L x b).want=(ZC L x a).want
 | 0,Sn,_=>by rw[Nat.le_zero.1 Sn]
 | b+1,Sn,h=>by
  by_cases e:a=b+1
  ·rw[e]
  ·have ih:=JU hp (a:=a) (b:=b) Zo (fun j h1 h2 h3=>h j h1 Zo h3);show(UQ L x (ZC L x b) b).want=_;rw[Dr,Ch hp,Z3,ih];rintro⟨h1,h2⟩;rw[h b Zo Zo h1]at h2;cases h2
theorem PN(hp:x.peer≠0){a:Nat}:∀ {b:Nat},a≤b→(∀j,a≤j→j<b→Wh x (j:Int)=true→Zt L j 10 x.peer x.source=false∧Zt L j 11 x.peer x.source=false)→(ZC L x b).ZV=(ZC L x a).ZV
 | 0,Sn,_=>by rw[Nat.le_zero.1 Sn]
 | b+1,Sn,h=>by
  by_cases e:a=b+1
  ·rw[e]
  ·have ih:=PN hp (a:=a) (b:=b) Zo (fun j h1 h2 h3=>h j h1 Zo h3);show(UQ L x (ZC L x b) b).ZV=_;rw[M8,MN hp,Z3,Z3,ih]
   ·rintro⟨h1,h2⟩;rw[(h b Zo Zo h1).2]at h2;cases h2
   ·rintro⟨h1,h2⟩;rw[(h b Zo Zo h1).1]at h2;cases h2
theorem Og{a:Nat}:∀ {b:Nat},a≤b→(∀j,a≤j→j<b→Zt L j 8 0 x.source=false∧Zt L j 9 0 x.source=false∧Zt L j 4 0 x.source=false)→(ZC L x b).ZN=(ZC L x a).ZN
 | 0,Sn,_=>by rw[Nat.le_zero.1 Sn]
 | b+1,Sn,h=>by
  by_cases e:a=b+1
  ·rw[e]
  ·have ih:=Og (a:=a) (b:=b) Zo (fun j h1 h2=>h j h1 Zo);obtain⟨h1,h2,h3⟩:=h b Zo Zo;show(UQ L x (ZC L x b) b).ZN=_;rw[LO,Lu,h1,h2,h3,ih];rfl
theorem nN(hp:x.peer≠0){k b:Nat}(hk:k+1≤b)(hl:Wh x (k:Int)=true)(hd:Zt L k 12 x.peer x.source=true)(h:∀j,k+1≤j→j<b→Wh x (j:Int)=true→Zt L j 12 x.peer x.source=false):(ZC L x b).want=(opAt L k).ZI:=by
 rw[JU hp hk h];show(UQ L x (ZC L x k) k).want=_;rw[Dr,Ch hp,ZU ⟨hl,hd⟩]
theorem rF(hp:x.peer≠0){b:Nat}(h:∀j,j<b→Wh x (j:Int)=true→Zt L j 12 x.peer x.source=false):(ZC L x b).want=(opAt L x.Mr.toNat).ZI:=
 JU hp (TH b) (fun j _ h2=>h j h2)
theorem IY{k:Nat}{a b p q s r:Int}(Sn:a≠b)(h:Zt L k a p s=true):Zt L k b q r=false:=by
 cases h2:Zt L k b q r
 ·rfl
 ·unfold Zt at h h2;simp only[UW,Sz]at h h2;exact absurd (h.1.1.2.symm.trans h2.1.1.2) Sn
theorem ve(hp:x.peer≠0){k b:Nat}(hk:k+1≤b)(hl:Wh x (k:Int)=true)(hd:Zt L k 10 x.peer x.source=true)(h:∀j,k+1≤j→j<b→Wh x (j:Int)=true→Zt L j 10 x.peer x.source=false∧Zt L j 11 x.peer x.source=false):(ZC L x b).ZV=true:=by
 rw[PN hp hk h];show(UQ L x (ZC L x k) k).ZV=_;rw[M8,MN hp,ZU ⟨hl,hd⟩]
theorem zq(hp:x.peer≠0){k b:Nat}(hk:k+1≤b)(hl:Wh x (k:Int)=true)(hd:Zt L k 11 x.peer x.source=true)(h:∀j,k+1≤j→j<b→Wh x (j:Int)=true→Zt L j 10 x.peer x.source=false∧Zt L j 11 x.peer x.source=false):(ZC L x b).ZV=false:=by
 rw[PN hp hk h];show(UQ L x (ZC L x k) k).ZV=_;have q:¬(Wh x (k:Int)=true∧Zt L k 10 x.peer x.source=true):=fun h'=>by rw[IY Zd hd]at h';exact Bool.noConfusion h'.2
 rw[M8,MN hp,Z3 q,ZU ⟨hl,hd⟩]
theorem zh(hp:x.peer≠0){b:Nat}(h:∀j,j<b→Wh x (j:Int)=true→Zt L j 10 x.peer x.source=false∧Zt L j 11 x.peer x.source=false):(ZC L x b).ZV=false:=
 PN hp (TH b) (fun j _ h2=>h j h2)
theorem qI{k b:Nat}(hk:k+1≤b)(hd:Zt L k 8 0 x.source=true)(h:∀j,k+1≤j→j<b→Zt L j 8 0 x.source=false∧Zt L j 9 0 x.source=false∧Zt L j 4 0 x.source=false):(ZC L x b).ZN=true:=by
 rw[Og hk h];show(UQ L x (ZC L x k) k).ZN=_;rw[LO,Lu,ZU hd]
theorem zR{k b:Nat}(hk:k+1≤b)(hd:Zt L k 9 0 x.source=true∨Zt L k 4 0 x.source=true)(h:∀j,k+1≤j→j<b→Zt L j 8 0 x.source=false∧Zt L j 9 0 x.source=false∧Zt L j 4 0 x.source=false):(ZC L x b).ZN=false:=by
 rw[Og hk h];show(UQ L x (ZC L x k) k).ZN=_;have q:¬Zt L k 8 0 x.source=true:=fun h'=>hd.elim (fun hh=>by rw[IY Zd hh]at h';exact Bool.noConfusion h') (fun hh=>by rw[IY Zd hh]at h';exact Bool.noConfusion h')
 rw[LO,Lu,Z3 q,ZU hd]
theorem uX{b:Nat}(h:∀j,j<b→Zt L j 8 0 x.source=false∧Zt L j 9 0 x.source=false∧Zt L j 4 0 x.source=false):(ZC L x b).ZN=false:=
 Og (TH b) (fun j _ h2=>h j h2)
theorem KI(s:VS)(k:Nat):(UQ L x s k).cur=if(XU L x k&&VK s (Z5 L k).Wx)=true then(Z5 L k).Wx.ZI else(Tg L x s k).cur:=by unfold UQ;split <;> rfl
theorem sU(s:VS)(k q:Int):(QP s k q).cur=if k=10 then -1 else s.cur:=by unfold QP;(repeat' split) <;> first|rfl|omega
theorem MA(s:VS)(q:Int):(YY s q).cur=if q=8 then -1 else s.cur:=by unfold YY;(repeat' split) <;> first|rfl|omega
theorem Fg(hp:x.peer≠0)(s:VS)(k:Nat):(Tg L x s k).cur=if(Wh x k=true∧Zt L k 10 x.peer x.source=true)∨Zt L k 8 0 x.source=true then -1 else s.cur:=by
 have hd:=Kh (L:=L) (k:=k) (kd:=10) (p:=x.peer) (s:=x.source) hp Zd Zd;have he:=Kg (L:=L) (k:=k) (kd:=8) (s:=x.source) Zd Zd;unfold Tg;by_cases hs:(opAt L k).source=x.source
 ·rw[ZU hs];by_cases h8:F5 L k=8
  ·rw[ZU (WB (he.2 ⟨h8,hs⟩))];split
   ·rw[sU,MA,ZU h8];split <;> rfl
   ·rw[MA,ZU h8]
  ·have n8:¬Zt L k 8 0 x.source=true:=fun h'=>h8 (he.1 h').1
   split
   ·rename_i h
    rw[sU,MA,Z3 h8];by_cases GP:F5 L k=10
    ·rw[ZU GP,ZU (WO ⟨h.2,hd.2 ⟨GP,hs,h.1⟩⟩)]
    ·rw[Z3 GP,Z3 (fun h'=>h'.elim (fun q=>GP (hd.1 q.2).1) n8)]
   ·rename_i h
    rw[MA,Z3 h8,Z3 (fun h'=>h'.elim (fun q=>h ⟨(hd.1 q.2).2.2,q.1⟩) n8)]
 ·rw[Z3 hs,Z3 (fun h'=>h'.elim (fun q=>hs (hd.1 q.2).2.1) (fun q=>hs (he.1 q).2))]
theorem Ke(hp:x.peer≠0){a:Nat}:∀ {b:Nat},a≤b→(∀j,a≤j→j<b→Tp L x j=false∧(Wh x (j:Int)=true→Zt L j 10 x.peer x.source=false)∧Zt L j 8 0 x.source=false)→(ZC L x b).cur=(ZC L x a).cur
 | 0,Sn,_=>by rw[Nat.le_zero.1 Sn]
 | b+1,Sn,h=>by
  by_cases e:a=b+1
  ·rw[e]
  ·have ih:=Ke hp (a:=a) (b:=b) Zo (fun j h1 h2=>h j h1 Zo);obtain⟨h1,h2,h3⟩:=h b Zo Zo;have h1':¬(XU L x b&&VK (ZC L x b) (Z5 L b).Wx)=true:=fun h'=>Bool.noConfusion (h1.symm.trans h')
   have h4:¬((Wh x b=true∧Zt L b 10 x.peer x.source=true)∨Zt L b 8 0 x.source=true):=fun h'=>h'.elim (fun q=>Bool.noConfusion ((h2 q.1).symm.trans q.2)) (fun q=>Bool.noConfusion (h3.symm.trans q))
   show(UQ L x (ZC L x b) b).cur=_;rw[KI,Z3 h1',Fg hp,Z3 h4,ih]
theorem kL(hp:x.peer≠0){k b:Nat}(hk:k+1≤b)(ho:Tp L x k=true)(h:∀j,k+1≤j→j<b→Tp L x j=false∧(Wh x (j:Int)=true→Zt L j 10 x.peer x.source=false)∧Zt L j 8 0 x.source=false):(ZC L x b).cur=(Z5 L k).Wx.ZI:=by
 rw[Ke hp hk h];show(UQ L x (ZC L x k) k).cur=_;have ho':(XU L x k&&VK (ZC L x k) (Z5 L k).Wx)=true:=ho;rw[KI,ZU ho']
theorem Dv{k:Nat}{kd p s:Int}(h:Zt L k kd p s=true):Tp L x k=false:=by
 cases h2:Tp L x k
 ·rfl
 ·unfold Zt at h;unfold Tp XU at h2;simp only[UW,Sz]at h h2;exact absurd (h.1.1.1.symm.trans h2.1.1.2) Zd
theorem fU(hp:x.peer≠0){k b:Nat}(hk:k+1≤b)(hd:(Wh x (k:Int)=true∧Zt L k 10 x.peer x.source=true)∨Zt L k 8 0 x.source=true)(h:∀j,k+1≤j→j<b→Tp L x j=false∧(Wh x (j:Int)=true→Zt L j 10 x.peer x.source=false)∧Zt L j 8 0 x.source=false):(ZC L x b).cur=-1:=by
 rw[Ke hp hk h];show(UQ L x (ZC L x k) k).cur=_;have ho:¬(XU L x k&&VK (ZC L x k) (Z5 L k).Wx)=true:=fun h'=>hd.elim (fun q=>Bool.noConfusion ((Dv q.2).symm.trans h')) (fun q=>Bool.noConfusion ((Dv q).symm.trans h'))
 rw[KI,Z3 ho,Fg hp,ZU hd]
theorem Ci(hp:x.peer≠0):∀ {b:Nat},(∀j,j<b→Wh x (j:Int)=false)→(ZC L x b).cur=-1
 | 0,_=>rfl
 | b+1,h=>by
  have ih:=Ci hp (b:=b) (fun j hj=>h j Zo)
  have ho:¬(XU L x b&&VK (ZC L x b) (Z5 L b).Wx)=true:=fun h'=>by
   unfold XU at h';rw[h b Zo]at h';exact Bool.noConfusion h'
  show(UQ L x (ZC L x b) b).cur=_;rw[KI,Z3 ho,Fg hp,ih];split <;> rfl
end
end Go.Proofs.By
namespace Go.Proofs.Rm
abbrev Open:=Int×Int→Bool
def Rj(t:YF):Int×Int:=(t.peer,t.source)
def pP(S:Open)(t:YF):Bool:=(decide (t.kind=9)||(VI t.peer 9&&VI t.source 9))&&if t.kind=1 then !S (Rj t)else if t.kind=2 then S (Rj t)else if t.kind=9 then true else S (Rj t)
theorem Fe{S:Open}{t:YF}{p n:Nat}(hp:t.peer=p)(hn:t.source=n)(h1:1≤p)(h2:p<9)(h3:1≤n)(h4:n<9)(h:(if t.kind=1 then !S (Rj t)else if t.kind=2 then S (Rj t)else if t.kind=9 then true else S (Rj t))=true):pP S t=true:=by
 unfold pP;rw[h,hp,hn,(XO _ _).2 ⟨Zo,Zo⟩,(XO _ _).2 ⟨Zo,Zo⟩];simp
def WZ(S:Open)(t:YF):Open:=if t.kind=1 then fun x=>decide (x=Rj t)||S x else if t.kind=2 then fun x=> !decide (x=Rj t)&&S x else S
def Pq(S:Open):List YF→Prop
 | []=>True
 | t :: l=>pP S t=true∧Pq (WZ S t) l
def Good(S:Open)(l:List YF)(S':Open):Prop:=Pq S l∧l.foldl WZ S=S'
theorem Good.nil(S:Open):Good S [] S:=⟨trivial,rfl⟩
theorem Good.cons{S S1 S':Open}{t:YF}{l:List YF}(h:pP S t=true)(h1:WZ S t=S1)(hl:Good S1 l S'):Good S (t :: l) S':=by
 subst h1;exact⟨⟨h,hl.1⟩,hl.2⟩
theorem L4:∀(a:List YF) (S:Open) (b:List YF),Pq S a→Pq (a.foldl WZ S) b→Pq S (a++b)
 | [],_,_,_,h=>h
 | t :: a,S,b,h1,h2=>⟨h1.1,L4 a (WZ S t) b h1.2 h2⟩
theorem Good.append{S S1 S':Open}{a b:List YF}(h1:Good S a S1)(h2:Good S1 b S'):Good S (a++b) S':=by
 obtain⟨h1,rfl⟩:=h1;exact⟨L4 a S b h1 h2.1,by rw[List.foldl_append];exact h2.2⟩
theorem B_:∀(l:List YF) (S:Open),Pq S l→∀(i:Nat) (h:i<l.length),pP ((l.take i).foldl WZ S) l[i]=true
 | t :: l,S,h,0,_=>h.1
 | t :: l,S,h,i+1,hi=>B_ l (WZ S t) h.2 i (by simpa using hi)
theorem Good.step{S S':Open}{l:List YF}(h:Good S l S')(i:Nat)(hi:i<l.length):pP ((l.take i).foldl WZ S) l[i]=true∧(l.take (i+1)).foldl WZ S=WZ ((l.take i).foldl WZ S) l[i]:=
 ⟨B_ l S h.1 i hi,by rw[List.take_succ_eq_append_getElem hi,List.foldl_append];rfl⟩
theorem SC{S:Open}:∀(l:List YF),(∀t∈l,t.kind≠1∧t.kind≠2∧(t.kind=9∨(S (Rj t)=true∧VI t.peer 9=true∧VI t.source 9=true)))→Good S l S
 | [],_=>Good.nil S
 | t :: l,h=>by
  obtain⟨h1,h2,h3⟩:=h t Zi;refine Good.cons ?_ (by unfold WZ;rw[Z3 h1,Z3 h2]) (SC l fun x hx=>h x (by simp[hx]));unfold pP;rw[Z3 h1,Z3 h2];rcases h3 with h9|⟨a,b,c⟩
  ·rw[ZU h9,Ww h9];rfl
  ·rw[a,b,c];split <;> simp
def opens(R:Room):Open:=fun x=>Zp R x.1 x.2
theorem Rc{R:Room}{x:Int×Int}:opens R x=true↔∃p n:Nat,x=((p:Int),(n:Int))∧1≤p∧p<9∧1≤n∧n<9∧(R.sub n p).there=true:=by
 obtain⟨a,b⟩:=x;unfold opens Zp;simp only[UW,XO];constructor
 ·rintro⟨⟨h1,h2⟩,h3⟩;exact⟨a.toNat,b.toNat,by rw[Int.toNat_of_nonneg Zo,Int.toNat_of_nonneg Zo],Zo,Zo,Zo,Zo,h3⟩
 ·rintro⟨p,n,e,h1,h2,h3,h4,h5⟩;simp only[Prod.mk.injEq]at e;obtain⟨rfl,rfl⟩:=e;rw[Wl,Wl];exact⟨⟨⟨Zo,Zo⟩,Zo,Zo⟩,h5⟩
theorem Sh{R:Room}{p n:Nat}(h1:1≤p)(h2:p<9)(h3:1≤n)(h4:n<9):opens R ((p:Int),(n:Int))=(R.sub n p).there:=by
 show Zp R p n=_;unfold Zp;rw[(XO _ _).2 ⟨Zo,Zo⟩,(XO _ _).2 ⟨Zo,Zo⟩,Wl,Wl];simp
theorem Dw{R':Room}{f:Int×Int→Bool}(h:∀p n:Nat,1≤p→p<9→1≤n→n<9→(R'.sub n p).there=f ((p:Int),(n:Int)))(h0:∀x,f x=true→∃p n:Nat,x=((p:Int),(n:Int))∧1≤p∧p<9∧1≤n∧n<9):opens R'=f:=by
 funext x;rw[Bool.eq_iff_iff];constructor
 ·intro hx;obtain⟨p,n,rfl,h1,h2,h3,h4,h5⟩:=Rc.1 hx;rw[←h p n h1 h2 h3 h4];exact h5
 ·intro hx;obtain⟨p,n,rfl,h1,h2,h3,h4⟩:=h0 x hx;rw[Rc];exact⟨p,n,rfl,h1,h2,h3,h4,by rw[h p n h1 h2 h3 h4];exact hx⟩
theorem yX{R:Room}{x:Int×Int}(h:opens R x=true):∃p n:Nat,x=((p:Int),(n:Int))∧1≤p∧p<9∧1≤n∧n<9:=by
 obtain⟨p,n,e,h1,h2,h3,h4,_⟩:=Rc.1 h;exact⟨p,n,e,h1,h2,h3,h4⟩
theorem sV(p q n m:Nat):decide (((p:Int),(n:Int))=((q:Int),(m:Int)))=(decide (n=m)&&decide (p=q)):=by
 rw[Bool.eq_iff_iff];simp;omega
theorem JD(R:Room)(n p:Nat):opens (R.ZQ n p U9)=fun x=> !decide (x=((p:Int),(n:Int)))&&opens R x:=by
 refine Dw (fun q m h1 h2 h3 h4=>?_) (fun x hx=>yX (Bool.and_eq_true_iff.1 hx).2);show _=(!decide (((q:Int),(m:Int))=((p:Int),(n:Int)))&&opens R ((q:Int),(m:Int)));rw[sV,Sh h1 h2 h3 h4,VL];by_cases e:m=n∧q=p
 ·rw[ZU e,Ww e.1,Ww e.2];rfl
 ·exact cG
theorem yY(R:Room){n p:Nat}(x:Sub)(hx:x.there=true)(h1:1≤p)(h2:p<9)(h3:1≤n)(h4:n<9):opens (R.ZQ n p x)=fun y=>decide (y=((p:Int),(n:Int)))||opens R y:=by
 refine Dw (fun q m a1 a2 a3 a4=>?_) (fun y hy=>?_)
 ·show _=(decide (((q:Int),(m:Int))=((p:Int),(n:Int)))||opens R ((q:Int),(m:Int)));rw[sV,Sh a1 a2 a3 a4,VL];by_cases e:m=n∧q=p
  ·rw[ZU e,Ww e.1,Ww e.2,hx];rfl
  ·exact cG
 ·rcases Bool.or_eq_true_iff.1 hy with h|h
  ·exact⟨p,n,of_decide_eq_true h,h1,h2,h3,h4⟩
  ·exact yX (R:=R) h
theorem u7{R R':Room}(h:∀n p,(R'.sub n p).there=(R.sub n p).there):opens R'=opens R:=by
 funext x;unfold opens Zp;rw[h]
theorem LP(R:Room)(n p:Nat)(x:Sub)(hx:x.there=(R.sub n p).there):opens (R.ZQ n p x)=opens R:=by
 refine u7 fun m q=>?_
 rw[VL];split
 ·rename_i e;rw[e.1,e.2];exact hx
 ·rfl
theorem Ic(n:Nat)(hn:1≤n∧n<9):∀(l:List Nat) (R:Room),l.Nodup→(∀p∈l,1≤p∧p<9∧(R.sub n p).there=true)→Good (opens R) (Xk n l R).1 (opens (Xk n l R).2)
 | [],R,_,_=>Good.nil _
 | p :: l,R,hd,hl=>by
  obtain⟨h1,h2,h3⟩:=hl p Zi;have ho:opens R ((p:Int),(n:Int))=true:=by rw[Sh h1 h2 hn.1 hn.2];exact h3
  obtain⟨hd1,oh⟩:=List.nodup_cons.1 hd;refine Good.cons (S1:=opens R) (Fe (p:=p) (n:=n) rfl rfl h1 h2 hn.1 hn.2 ho) rfl (Good.cons (S1:=opens (R.ZQ n p U9)) (Fe (p:=p) (n:=n) rfl rfl h1 h2 hn.1 hn.2 ho) (by rw[JD];rfl) (Ic n hn l _ oh fun q hq=>?_));obtain⟨a1,a2,a3⟩:=hl q (by simp[hq]);refine⟨a1,a2,?_⟩;rw[VL,Z3 (fun e:n=n∧q=p=>hd1 (e.2▸hq))];exact a3
theorem vQ(R:Room)(n:Int):(ZY R n).Nodup:=List.Pairwise.filter _ List.nodup_range
theorem I4(R:Room){n:Nat}(hn:1≤n∧n<9):Good (opens R) (gone R n).1 (opens (gone R n).2):=by
 have h:=Ic n hn (ZY R n) R (vQ R n) (fun p hp=>by
  obtain⟨h1,h2,_,_,h5⟩:=O5.1 hp
  exact⟨h1,h2,h5⟩)
 exact h
theorem Ix(R:Room)(hI:Inv R)(p:Nat)(hp:1≤p∧p<9):∀k,Good (opens R) (ZL p R k).1 (opens (ZL p R k).2)
 | 0=>Good.nil _
 | k+1=>by
  have ih:=Ix R hI p hp k;unfold ZL;dsimp only;split
  ·rename_i ht
   have hk:=(QH hI p k).Y6 k p ht;refine ih.append (Good.cons ?_ ?_ (Good.nil _))
   ·refine Fe (p:=p) (n:=k) rfl rfl hp.1 hp.2 hk.1 hk.2.1 ?_;show opens (ZL p R k).2 ((p:Int),(k:Int))=true;rw[Sh hp.1 hp.2 hk.1 hk.2.1];exact ht
   ·rw[JD];rfl
  ·exact ih
theorem Iz(R:Room)(hI:Inv R)(p:Nat):∀k,Good (opens R) (ZH R p k).1 (opens (ZH R p k).2)
 | 0=>Good.nil _
 | k+1=>by
  have ih:=Iz R hI p k;unfold ZH;dsimp only;split
  ·rename_i ht
   have hk:=hI.YV k (Bool.and_eq_true_iff.1 ht).1;exact ih.append (I4 _ ⟨hk.1,hk.2.1⟩)
  ·exact ih
theorem uS(R:Room)(hI:Inv R)(p:Nat)(hp:1≤p∧p<9):Good (opens R) (leave R p).1 (opens (leave R p).2):=
 (Ix R hI p hp 9).append (Iz _ (QH hI p 9) p 9)
theorem zS{R:Room}{S:Open}{n p:Nat}:∀t∈waits R p n,t.kind≠1∧t.kind≠2∧(t.kind=9∨(S (Rj t)=true∧VI t.peer 9=true∧VI t.source 9=true)):=by
 intro t ht;unfold waits at ht;split at ht
 ·cases ht
 ·rw[J7]at ht;subst ht;exact⟨by simp[asks],by simp[asks],WO rfl⟩
theorem Dp(R:Room){n:Nat}(on:Bool):Good (opens R) (mute R n on).1 (opens (mute R n on).2):=by
 have e:opens (mute R n on).2=opens R:=rfl;rw[e];refine SC _ fun t ht=>?_
 obtain⟨p,hp,ht⟩:=List.mem_flatMap.1 ht;obtain⟨h1,h2,h3,h4,h5⟩:=O5.1 hp
 have ho:opens R ((p:Int),(n:Int))=true:=by
  rw[←e,Rc];exact⟨p,n,rfl,h1,h2,h3,h4,h5⟩
 have ho:opens R ((p:Int),(n:Int))=true∧VI (p:Int) 9=true∧VI (n:Int) 9=true:=⟨ho,(XO _ _).2 ⟨Zo,Zo⟩,(XO _ _).2 ⟨Zo,Zo⟩⟩;unfold YX at ht;split at ht
 ·rw[J7]at ht;subst ht;exact⟨by simp,by simp,WB ho⟩
 ·exact Yt25
theorem vW{R:Room}{o:Op}(hI:Inv R)(ok:Ok R o)(sv:Value):Good (opens R) (turns R o sv).1 (opens (turns R o sv).2):=by
 obtain⟨p,hp⟩:=Rw (show 0≤o.peer by have:=ok.peer;omega);have Da:1≤p∧p<9:=by have:=ok.peer;omega
 have ep:o.peer.toNat=p:=by rw[hp];rfl
 unfold turns;dsimp only;by_cases k2:o.kind=2
 ·rw[ZU k2];exact Good.nil _
 rw[Z3 k2];by_cases k3:o.kind=3
 ·rw[ZU k3,ep];exact uS R hI p Da
 rw[Z3 k3];have k4':4≤o.kind:=by have:=ok.kind;omega
 obtain⟨n,hn⟩:=Rw (show 0≤o.source by have:=ok.src k4';omega);have EO:1≤n∧n<9:=by have:=ok.src k4';omega
 have en:o.source.toNat=n:=by rw[hn];rfl
 have gQ:VI o.peer 9=true:=(XO _ _).2 ⟨Zo,Zo⟩;have GR:VI o.source 9=true:=(XO _ _).2 ⟨Zo,Zo⟩;rw[ep,en];by_cases k4:o.kind=4
 ·rw[ZU k4];exact Good.nil _
 rw[Z3 k4];have k5':5≤o.kind:=by omega
 by_cases k5:o.kind=5
 ·rw[ZU k5];exact I4 R EO
 rw[Z3 k5];by_cases k6:o.kind=6
 ·rw[ZU k6];have hs:=(OE (ok.abt k5') k6).2.1;rw[ep,en]at hs;have e1:=yY R (n:=n) (p:=p) ⟨true,false,o.ZI⟩ rfl Da.1 Da.2 EO.1 EO.2;unfold begin;dsimp only;rw[ep,en];refine Good.cons (S1:=opens (R.ZQ n p ⟨true,false,o.ZI⟩)) ?_ ?_ (SC _ fun t ht=>?_)
  ·refine Fe (p:=p) (n:=n) hp hn Da.1 Da.2 EO.1 EO.2 ?_;show(!opens R (o.peer,o.source))=true;rw[hp,hn,Sh Da.1 Da.2 EO.1 EO.2,hs];rfl
  ·rw[e1];unfold WZ Rj;rw[ZU rfl];dsimp only;rw[hp,hn]
  ·split at ht
   ·rw[J7]at ht;subst ht;refine⟨by simp,by simp,WB ⟨?_,gQ,GR⟩⟩;show opens _ (o.peer,o.source)=true;rw[hp,hn,Sh Da.1 Da.2 EO.1 EO.2,VL,ZU ⟨rfl,rfl⟩]
   ·rw[J7]at ht;subst ht;exact⟨by simp[asks],by simp[asks],WO rfl⟩
 rw[Z3 k6];by_cases k7:o.kind=7
 ·rw[ZU k7];have hs:=(Ty (ok.abt k5') (WO k7)).1;rw[ep,en]at hs;refine Good.cons ?_ ?_ (Good.nil _)
  ·refine Fe (p:=p) (n:=n) hp hn Da.1 Da.2 EO.1 EO.2 ?_;show opens R (o.peer,o.source)=true;rw[hp,hn,Sh Da.1 Da.2 EO.1 EO.2];exact hs
  ·rw[JD];unfold WZ Rj;rw[Z3 (show¬(2:Int)=1 by decide),ZU rfl];dsimp only;rw[hp,hn]
 rw[Z3 k7];by_cases k8:o.kind=8
 ·rw[ZU k8];exact Dp R true
 rw[Z3 k8];by_cases k9:o.kind=9
 ·rw[ZU k9];exact Dp R false
 rw[Z3 k9];have hs:=(Ty (ok.abt k5') (WB Zo)).1;rw[ep,en]at hs;have ho:opens R (o.peer,o.source)=true∧VI o.peer 9=true∧VI o.source 9=true:=⟨by rw[hp,hn,Sh Da.1 Da.2 EO.1 EO.2];exact hs,gQ,GR⟩;by_cases k10:o.kind=10
 ·rw[ZU k10];dsimp only;rw[LP R n p ⟨(R.sub n p).there,true,(R.sub n p).want⟩ rfl];refine SC _ fun t ht=>?_
  rw[J7]at ht;subst ht;exact⟨by simp,by simp,WB ho⟩
 rw[Z3 k10];by_cases k11:o.kind=11
 ·rw[ZU k11];dsimp only;rw[LP R n p ⟨(R.sub n p).there,false,(R.sub n p).want⟩ rfl];refine SC _ fun t ht=>?_
  exact Yt25
 rw[Z3 k11];by_cases k12:o.kind=12
 ·rw[ZU k12];dsimp only;rw[LP R n p ⟨(R.sub n p).there,(R.sub n p).ZV,o.ZI⟩ rfl];refine SC _ fun t ht=>?_
  exact Yt25
 rw[Z3 k12];exact Good.nil _
theorem x_{R:Room}(hI:Inv R)(o:Op)(sv:Value):Good (opens R) (WG R o sv).1.1 (opens (WG R o sv).1.2):=by
 unfold WG;by_cases h0:XW R o=0
 ·rw[Z3 (by simpa using h0)];exact vW hI (Pn h0) sv
 ·rw[ZU h0];exact Good.nil _
theorem PJ:opens empty=fun _=>false:=by
 funext x;rw[J8];intro h;obtain⟨p,n,_,_,_,_,_,h5⟩:=Rc.1 h;cases h5
/-! ### all leave -/
end Go.Proofs.Rm
namespace Go.Proofs.By
open Go.Proofs.Rm (Room YF Inv Wn opens WZ Pq pP Rj Zp YW WG turns)
def Wy(z:Zx):Int×Int:=(z.peer,z.source)
def XI(n at':Int)(dead:Int×Int→Bool)(ls:List Zx):List Zx:=ls.map fun z=>if z.fin=n∧dead (Wy z)=true then{z with fin:=at'}else z
theorem Th{n at':Int}{dead:Int×Int→Bool}{ls:List Zx}(h:∀z∈ls,z.fin=n→dead (Wy z)=false):XI n at' dead ls=ls:=by
 unfold XI
 conv=>rhs;rw[←List.map_id ls]
 refine List.map_congr_left fun z hz=>?_
 by_cases hf:z.fin=n
 ·rw[Z3 (by rw[h z hz hf];simp)];rfl
 ·rw[Z3 (fun x=>hf x.1)];rfl
theorem Fl{n at':Int}(V7:at'≠n)(d1 d2:Int×Int→Bool)(ls:List Zx):XI n at' d2 (XI n at' d1 ls)=XI n at' (fun x=>d1 x||d2 x) ls:=by
 unfold XI;rw[List.map_map];refine List.map_congr_left fun z _=>?_
 have hor:∀b c:Bool,(b||c)=true↔b=true∨c=true:=fun b c=>by rw[Bool.or_eq_true]
 by_cases h1:z.fin=n∧d1 (Wy z)=true
 ·have e1:(if z.fin=n∧d1 (Wy z)=true then{z with fin:=at'}else z)={z with fin:=at'}:=ZU h1;have e2:(if z.fin=n∧(d1 (Wy z)||d2 (Wy z))=true then{z with fin:=at'}else z)={z with fin:=at'}:=ZU ⟨h1.1,(hor _ _).2 (WO h1.2)⟩;show(fun z:Zx=>if z.fin=n∧d2 (Wy z)=true then{z with fin:=at'}else z) (if z.fin=n∧d1 (Wy z)=true then{z with fin:=at'}else z)=(if z.fin=n∧(d1 (Wy z)||d2 (Wy z))=true then{z with fin:=at'}else z);rw[e1,e2];exact Z3 (fun h=>V7 h.1)
 ·have e1:(if z.fin=n∧d1 (Wy z)=true then{z with fin:=at'}else z)=z:=Z3 h1;show(fun z:Zx=>if z.fin=n∧d2 (Wy z)=true then{z with fin:=at'}else z) (if z.fin=n∧d1 (Wy z)=true then{z with fin:=at'}else z)=(if z.fin=n∧(d1 (Wy z)||d2 (Wy z))=true then{z with fin:=at'}else z);rw[e1];by_cases h2:z.fin=n∧d2 (Wy z)=true
  ·exact(ZU h2).trans (ZU ⟨h2.1,(hor _ _).2 (WB h2.2)⟩).symm
  ·refine(Z3 h2).trans (Z3 ?_).symm;rintro⟨a,b⟩;rcases (hor _ _).1 b with c|c
   ·exact h1 ⟨a,c⟩
   ·exact h2 ⟨a,c⟩
theorem Ri{n at':Int}{d1 d2:Int×Int→Bool}{ls:List Zx}(h:∀z∈ls,z.fin=n→d1 (Wy z)=d2 (Wy z)):XI n at' d1 ls=XI n at' d2 ls:=by
 unfold XI;refine List.map_congr_left fun z hz=>?_
 by_cases hf:z.fin=n
 ·rw[h z hz hf]
 ·rw[Z3 (fun x=>hf x.1),Z3 (fun x=>hf x.1)]
structure LI(n:Int)(S:Rm.Open)(ls:List Zx):Prop where
 iff:∀x,S x=true↔∃z∈ls,Wy z=x∧z.fin=n
 last:ls.Pairwise fun a b=>a.fin=n→Wy b≠Wy a
theorem LI.nil(n:Int):LI n (fun _=>false) []:=⟨fun x=>⟨fun h=>absurd h Zd,fun⟨z,h,_⟩=>by cases h⟩,List.Pairwise.nil⟩
theorem LI.begin{n:Int}{S:Rm.Open}{ls:List Zx}(h:LI n S ls)(p s b:Int)(hS:S (p,s)=false):LI n (fun x=>decide (x=(p,s))||S x) (ls++[⟨p,s,b,n⟩]):=by
 refine⟨fun x=>?_,List.pairwise_append.2 ⟨h.last,List.pairwise_singleton _ _,fun a ha c hc hf he=>?_⟩⟩
 ·rw[Bool.or_eq_true,Sz,h.iff x];constructor
  ·rintro(h1|⟨z,h1,h2⟩)
   ·exact⟨_,List.mem_append_right _ (J7.2 rfl),h1.symm,rfl⟩
   ·exact⟨z,List.mem_append_left _ h1,h2⟩
  ·rintro⟨z,h1,h2,h3⟩;rcases EN.1 h1 with h1|h1
   ·exact WB ⟨z,h1,h2,h3⟩
   ·rw[J7]at h1;subst h1;exact WO h2.symm
 ·rw[J7]at hc;subst hc;have:=(h.iff (p,s)).2 ⟨a,ha,he.symm,hf⟩;rw[hS]at this;cases this
theorem LI.end{n at':Int}{S:Rm.Open}{ls:List Zx}(h:LI n S ls)(V7:at'≠n)(d:Int×Int→Bool):LI n (fun x=> !d x&&S x) (XI n at' d ls):=by
 refine⟨fun x=>?_,?_⟩
 ·rw[UW,Bool.not_eq_true',h.iff x];constructor
  ·rintro⟨hd,z,h1,h2,h3⟩;refine⟨z,?_,h2,h3⟩;unfold XI;rw[wI];exact⟨z,h1,by rw[Z3];rintro⟨_,hx⟩;rw[h2,hd]at hx;cases hx⟩
  ·rintro⟨z,h1,h2,h3⟩;unfold XI at h1;rw[wI]at h1;obtain⟨y,hy,e⟩:=h1;by_cases hc:y.fin=n∧d (Wy y)=true
   ·rw[ZU hc]at e;subst e;exact absurd h3 V7
   ·rw[Z3 hc]at e;subst e;refine⟨?_,y,hy,h2,h3⟩;rw[J8];intro hx;rw[←h2]at hx;exact hc ⟨h3,hx⟩
 ·unfold XI;rw[List.pairwise_map];have hk:∀z:Zx,Wy (if z.fin=n∧d (Wy z)=true then{z with fin:=at'}else z)=Wy z:=fun z=>by split <;> rfl
  refine h.last.imp fun{a b} Sn hf=>?_
  rw[hk,hk];refine Sn ?_;by_cases hc:a.fin=n∧d (Wy a)=true
  ·exact hc.1
  ·rwa[Z3 hc]at hf
theorem Fm(p s at':Int)(l1:List Zx)(z:Zx)(hz:Wy z=(p,s))(l2:List Zx)(h:∀b∈l2,Wy b≠(p,s)):∀k,k≤l2.length→Yc p s at' (l1++z :: l2) (l1.length+1+k)=l1++{z with fin:=at'} :: l2
 | 0,_=>by
  have e1:(l1++z :: l2).getD l1.length Wp=z:=by rw[Q_,Z1d (Zw _),Nat.sub_self];rfl
  unfold Yc;rw[e1,ZU (by unfold Wy at hz;simpa using hz),List.set_append_right _ _ (Zw _),Nat.sub_self];rfl
 | k+1,hk=>by
  have dC:k<l2.length:=hk
  have e1:(l1++z :: l2).getD (l1.length+1+k) Wp=l2[k]:=by
   rw[Q_,Z1d Zo,show l1.length+1+k-l1.length=k+1 by omega,R4,Ve dC];rfl
  have WN:=h l2[k] (OC dC);show Yc p s at' (l1++z :: l2) (l1.length+1+k+1)=_;unfold Yc;rw[e1,Z3 (by unfold Wy at WN;simpa using WN)];exact Fm p s at' l1 z hz l2 h k Zo
theorem pR{n at':Int}{S:Rm.Open}{ls:List Zx}(h:LI n S ls){p s:Int}(hS:S (p,s)=true):Yc p s at' ls ls.length=XI n at' (fun x=>decide (x=(p,s))) ls:=by
 obtain⟨z,hz,hk,hf⟩:=(h.iff (p,s)).1 hS;obtain⟨l1,l2,rfl⟩:=List.append_of_mem hz;have hp:=List.pairwise_append.1 h.last;have hp2:=List.pairwise_cons.1 hp.2.1;have h2:∀b∈l2,Wy b≠(p,s):=fun b hb=>by have:=hp2.1 b hb hf;rwa[hk]at this
 have h1:∀a∈l1,a.fin=n→Wy a≠(p,s):=fun a ha hfa e=>hp.2.2 a ha z (List.mem_cons_self ..) hfa (by rw[hk,e])
 rw[show(l1++z :: l2).length=l1.length+1+l2.length by rw[UG,List.length_cons];omega,Fm p s at' l1 z hk l2 h2 _ (Zw _)];have e1:XI n at' (fun x=>decide (x=(p,s))) l1=l1:=Th fun a ha hfa=>Wz (h1 a ha hfa)
 have e2:XI n at' (fun x=>decide (x=(p,s))) l2=l2:=Th fun b hb _=>Wz (h2 b hb)
 unfold XI at e1 e2 ⊢;rw[Nv,List.map_cons,e1,e2,ZU ⟨hf,Ww hk⟩]
theorem Cm:∀(ts:List YF) (S:Rm.Open),(∀t∈ts,t.kind≠1)→∀x,ts.foldl WZ S x=true→S x=true
 | [],_,_,_,h=>h
 | t :: ts,S,ht,x,h=>by
  have h1:=Cm ts (WZ S t) (fun u hu=>ht u (List.mem_cons_of_mem _ hu)) x h;unfold WZ at h1;rw[Z3 (ht t (List.mem_cons_self ..))]at h1;by_cases h2:t.kind=2
  ·rw[ZU h2]at h1;exact(UW _ _ |>.mp h1).2
  ·rwa[Z3 h2]at h1
theorem Rl{n at':Int}(V7:at'≠n):∀(ts:List YF) (S:Rm.Open) (ls:List Zx),LI n S ls→Pq S ts→(∀t∈ts,t.kind≠1) →
  Xd n at' ls ts=XI n at' (fun x=>S x && !(ts.foldl WZ S) x) ls∧LI n (ts.foldl WZ S) (Xd n at' ls ts)
 | [],S,ls,h,_,_=>⟨(Th fun z _ _=>by show(S (Wy z) && !(S (Wy z)))=false;cases S (Wy z) <;> rfl).symm,h⟩
 | t :: ts,S,ls,h,hc,hb=>by
  have h1:=hb t (List.mem_cons_self ..);have hb':∀u∈ts,u.kind≠1:=fun u hu=>hb u (List.mem_cons_of_mem _ hu)
  by_cases h2:t.kind=2
  ·have hS:S (Rj t)=true:=by
    have:=hc.1;unfold pP at this;rw[Z3 h1,ZU h2]at this;exact(UW _ _ |>.mp this).2
   have e1:Yr n at' ls t=XI n at' (fun x=>decide (x=Rj t)) ls:=by
    unfold Yr;rw[Z3 h1,ZU h2];exact pR h hS
   have e2:WZ S t=fun x=> !decide (x=Rj t)&&S x:=by unfold WZ;rw[Z3 h1,ZU h2]
   have hl:=h.end V7 (fun x=>decide (x=Rj t));have ih:=Rl V7 ts (WZ S t) (Yr n at' ls t) (by rw[e1,e2];exact hl) hc.2 hb';show Xd n at' (Yr n at' ls t) ts=XI n at' (fun x=>S x && !(ts.foldl WZ (WZ S t)) x) ls∧LI n (ts.foldl WZ (WZ S t)) (Xd n at' (Yr n at' ls t) ts);refine⟨?_,ih.2⟩;rw[ih.1,e1,Fl V7];refine Ri fun z _ _=>?_
   have hf:=Cm ts (WZ S t) hb' (Wy z);have e3:WZ S t (Wy z)=(!decide (Wy z=Rj t)&&S (Wy z)):=by rw[e2]
   by_cases hk:Wy z=Rj t
   ·rw[hk]at hf e3 ⊢;rw[Ww rfl]at e3
    have e4:ts.foldl WZ (WZ S t) (Rj t)=false:=by
     rw[J8];intro hx;have:=hf hx;rw[e3]at this;cases this
    rw[e4,hS,Ww rfl];rfl
   ·rw[e3,Wz hk];rfl
  ·have e1:Yr n at' ls t=ls:=by unfold Yr;rw[Z3 h1,Z3 h2]
   have e2:WZ S t=S:=by unfold WZ;rw[Z3 h1,Z3 h2]
   have zY:=hc.2;rw[e2]at zY;have ih:=Rl V7 ts S ls h zY hb';show Xd n at' (Yr n at' ls t) ts=XI n at' (fun x=>S x && !(ts.foldl WZ (WZ S t)) x) ls∧LI n (ts.foldl WZ (WZ S t)) (Xd n at' (Yr n at' ls t) ts);rw[e1,e2];exact ih
theorem Kq(n:Nat):∀(l:List Nat) (R:Room),∀t∈(Rm.Xk n l R).1,t.kind≠1
 | [],_,t,h=>by cases h
 | p :: l,R,t,h=>by
  have h:t∈(⟨3,p,n,0,0⟩ :: ⟨2,p,n,0,0⟩ :: (Rm.Xk n l (R.ZQ n p Rm.U9)).1:List YF):=h;rcases J9.1 h with rfl|h
  ·show(3:Int)≠1;decide
  rcases J9.1 h with rfl|h
  ·show(2:Int)≠1;decide
  ·exact Kq n l _ t h
theorem LD(R:Room)(n:Nat):∀t∈(Rm.gone R n).1,t.kind≠1:=Kq n _ R
theorem N9(p:Nat)(R:Room):∀k,∀t∈(Rm.ZL p R k).1,t.kind≠1
 | 0,t,h=>by cases h
 | k+1,t,h=>by
  unfold Rm.ZL at h;dsimp only at h;split at h
  ·rcases EN.1 h with h|h
   ·exact N9 p R k t h
   ·rw[J7]at h;subst h;show(2:Int)≠1;decide
  ·exact N9 p R k t h
theorem N_(R:Room)(p:Nat):∀k,∀t∈(Rm.ZH R p k).1,t.kind≠1
 | 0,t,h=>by cases h
 | k+1,t,h=>by
  unfold Rm.ZH at h;dsimp only at h;split at h
  ·rcases EN.1 h with h|h
   ·exact N_ R p k t h
   ·exact LD _ _ t h
  ·exact N_ R p k t h
theorem Nj(R:Room)(p n:Nat):∀t∈Rm.waits R p n,t.kind≠1:=fun t h=>by
 unfold Rm.waits at h;split at h
 ·cases h
 ·rw[J7]at h;subst h;show(9:Int)≠1;decide
theorem F3(R:Room)(n:Nat)(on:Bool):∀t∈(Rm.mute R n on).1,t.kind≠1:=fun t h=>by
 have h:t∈(Rm.ZY (R.Y0 n {R.src n with ZN:=on}) n).flatMap (Rm.YX (R.Y0 n {R.src n with ZN:=on}) n on):=h;rw[List.mem_flatMap]at h;obtain⟨p,_,h⟩:=h;unfold Rm.YX at h;split at h
 ·rw[J7]at h;subst h;show(6:Int)≠1;decide
 ·rcases J9.1 h with rfl|h
  ·show(7:Int)≠1;decide
  ·exact Nj _ _ _ t h
theorem IE(R:Room)(o:Rm.Op)(sv:Value)(h6:o.kind≠6):∀t∈(turns R o sv).1,t.kind≠1:=by
 intro t h;unfold turns at h;dsimp only at h;by_cases k2:o.kind=2
 ·rw[ZU k2]at h;cases h
 rw[Z3 k2]at h;by_cases k3:o.kind=3
 ·rw[ZU k3]at h;rcases EN.1 h with h|h
  ·exact N9 _ _ _ t h
  ·exact N_ _ _ _ t h
 rw[Z3 k3]at h;by_cases k4:o.kind=4
 ·rw[ZU k4]at h;cases h
 rw[Z3 k4]at h;by_cases k5:o.kind=5
 ·rw[ZU k5]at h;exact LD _ _ t h
 rw[Z3 k5,Z3 h6]at h;by_cases k7:o.kind=7
 ·rw[ZU k7,J7]at h;subst h;show(2:Int)≠1;decide
 rw[Z3 k7]at h;by_cases k8:o.kind=8
 ·rw[ZU k8]at h;exact F3 _ _ _ t h
 rw[Z3 k8]at h;by_cases k9:o.kind=9
 ·rw[ZU k9]at h;exact F3 _ _ _ t h
 rw[Z3 k9]at h;by_cases k10:o.kind=10
 ·rw[ZU k10,J7]at h;subst h;show(4:Int)≠1;decide
 rw[Z3 k10]at h;by_cases k11:o.kind=11
 ·rw[ZU k11]at h;rcases J9.1 h with rfl|h
  ·show(5:Int)≠1;decide
  ·exact Nj _ _ _ t h
 rw[Z3 k11]at h;by_cases k12:o.kind=12
 ·rw[ZU k12]at h;rcases J9.1 h with rfl|h
  ·show(8:Int)≠1;decide
  ·exact Nj _ _ _ t h
 rw[Z3 k12]at h;cases h
theorem yj{R:Room}(hI:Inv R)(p x:Int):Rm.Good (opens R) (YW R p x).1.1 (opens (YW R p x).1.2)∧∀t∈(YW R p x).1.1,t.kind≠1:=by
 unfold YW;split
 ·exact⟨Rm.Good.nil _,fun t h=>by cases h⟩
 ·next h=>
  simp only[Bool.or_eq_true,Bool.not_eq_true',Sz,not_or,Bool.not_eq_false]at h;obtain⟨m,hm,ht,-,he⟩:=Rm.PI h.1.1
  have hb:1≤(Rm.of R x).1.toNat∧(Rm.of R x).1.toNat<9:=by
   have h1:=hI.YV m ht;rw[he];show 1≤(m:Int).toNat∧(m:Int).toNat<9;omega
  exact⟨Rm.I4 R hb,LD R _⟩
theorem Kp(p:Int):∀(l:List Int) (R:Room),Inv R→Wn R→Rm.Good (opens R) (Za p l R).1.1 (opens (Za p l R).1.2)∧∀t∈(Za p l R).1.1,t.kind≠1
 | [],R,_,_=>⟨Rm.Good.nil _,fun t h=>by cases h⟩
 | x :: l,R,hI,hs=>by
  have h1:=yj hI p x;have h0:=QC p [x] R hI hs;have h2:=Kp p l (YW R p x).1.2 h0.1 h0.2.1
  exact⟨Rm.Good.append h1.1 h2.1,fun t h=>by
   rcases EN.1 h with h|h
   ·exact h1.2 t h
   ·exact h2.2 t h⟩
theorem yL{R:Room}(hI:Inv R)(hs:Wn R)(p:Int)(i:Ru):Rm.Good (opens R) (Yh R p i).1.1 (opens (Yh R p i).1.2)∧∀t∈(Yh R p i).1.1,t.kind≠1:=by
 unfold Yh;split
 ·exact⟨Rm.Good.nil _,fun t h=>by cases h⟩
 split
 ·exact⟨Rm.Good.nil _,fun t h=>by cases h⟩
 split
 ·exact Kp p _ R hI hs
 ·exact⟨Rm.Good.nil _,fun t h=>by cases h⟩
theorem N7(p:Int):∀(l:List Ru) (R:Room),Inv R→Wn R→(∀i∈l,Tf i)→Rm.Good (opens R) (ZA p l R).1.1 (opens (ZA p l R).1.2)∧∀t∈(ZA p l R).1.1,t.kind≠1
 | [],R,_,_,_=>⟨Rm.Good.nil _,fun t h=>by cases h⟩
 | x :: l,R,hI,hs,hi=>by
  have h1:=yL hI hs p x;have h0:=I_ hI hs p (hi x (List.mem_cons_self ..));have h2:=N7 p l (Yh R p x).1.2 h0.1 h0.2.1 (fun i h=>hi i (List.mem_cons_of_mem _ h))
  exact⟨Rm.Good.append h1.1 h2.1,fun t h=>by
   rcases EN.1 h with h|h
   ·exact h1.2 t h
   ·exact h2.2 t h⟩
theorem vL{b:List UInt8}{l:List Ru}(hv:(XY b).1 = .Yb l):∀i∈l,Tf i:=by
 by_cases h3:192≤at8 b 1∧at8 b 1≤223
 ·by_cases h2:(XY b).2=0
  ·have:=Pf h3 h2;rw[this]at hv;injection hv with hv
   rw[←hv];exact(Tm b).1
  ·exfalso
   have WN:(XY b).2≠0→(XY b).1 ≠ .Yb l:=by
    unfold XY;by_cases q1:512<b.length
    ·rw[ZU q1];exact fun _ h=>by cases h
    rw[Z3 q1];by_cases q2:b.length<2
    ·rw[ZU q2];exact fun _ h=>by cases h
    rw[Z3 q2,ZU h3];by_cases q4:(Yq b).2≠0
    ·rw[ZU q4];exact fun _ h=>by cases h
    ·rw[Z3 q4];exact fun h=>absurd rfl h
   exact WN h2 hv
 ·exact bW
end Go.Proofs.By
namespace Go.Proofs.Rm
open Go.RowKit Go.Proofs.Heap Go.Proofs.Mem
open Go.Proofs.ND (may key)
def findAt{α:Type}(p:α→Bool)(l:List α):Int:=match l.findIdx? p with|some i=>i|none=> -1
theorem NY{α:Type}{p:α→Bool}{l:List α}{k:Nat}(hk:k<l.length)(hp:p l[k]=true)(hn:∀j (h:j<l.length),j<k→p l[j]=false):findAt p l=k:=by
 unfold findAt
 have:l.findIdx? p=some k:=by
  rw[List.findIdx?_eq_some_iff_getElem];exact⟨hk,hp,fun j hj=>by rw[hn j Zo hj];simp⟩
 rw[this]
theorem R6{α:Type}{p:α→Bool}{l:List α}(hn:∀j (h:j<l.length),p l[j]=false):findAt p l=-1:=by
 unfold findAt
 have:l.findIdx? p=none:=by
  rw[List.findIdx?_eq_none_iff];intro x hx;obtain⟨j,hj,rfl⟩:=List.getElem_of_mem hx;exact hn j hj
 rw[this]
theorem Fs{α β:Type}(f:α→β)(p:β→Bool)(l:List α):findAt p (l.map f)=findAt (fun x=>p (f x)) l:=by
 unfold findAt;rw[List.findIdx?_map];rfl
theorem XE{α:Type}{p:α→Bool}{l:List α}(h:0≤findAt p l):∃(k:Nat) (hk:k<l.length),findAt p l=k∧p l[k]=true∧∀j (h:j<l.length),j<k→p l[j]=false:=by
 unfold findAt at h ⊢;cases hf:l.findIdx? p with
 | none=>rw[hf]at h;exact absurd h Zd
 | some k=>
  obtain⟨hk,hp,hn⟩:=List.findIdx?_eq_some_iff_getElem.1 hf;exact⟨k,hk,rfl,hp,fun j h hj=>by have:=hn j hj;simpa using this⟩
def ZO.XD(T:ZO)(n:Int):Int:=findAt (fun x:Vd=>x.num==n) T.Zz
def ZO.YV(T:ZO)(n:Int):Int:=findAt (fun x:Wd=>x.num==n) T.Yj
def ZO.Y6(T:ZO)(p s:Int):Int:=findAt (fun x:Vn=>x.peer==p&&x.source==s) T.ZY
def UI:Wd:=⟨0,0,[],false⟩
def ZO.V6(T:ZO)(n:Int):Wd:=T.Yj.getD (T.YV n).toNat UI
def ZO.owner(T:ZO)(n:Int):Int:=if T.YV n<0 then 0 else(T.V6 n).own
def ZO.Vs(T:ZO)(n:Int)(k:Nat):List Nat:=((List.range k).map (· + 1)).filter fun p:Nat=>decide (0≤T.Y6 p n)
def ZO.Zp(T:ZO)(n:Int):List Nat:=T.Vs n 8
theorem Ba(T:ZO)(n:Int)(k:Nat):T.Vs n (k+1)=T.Vs n k++if 0≤T.Y6 ((k:Int)+1) n then[k+1]else[]:=by
 unfold ZO.Vs;rw[n_,Nv,List.filter_append]
 congr 1
 have:((k+1:Nat):Int)=(k:Int)+1:=by omega
 by_cases h:0≤T.Y6 ((k:Int)+1) n <;> simp[h]
theorem R9(T:ZO)(n:Int)(k:Nat):(T.Vs n k).length≤k:=by
 unfold ZO.Vs;have:=List.length_filter_le (fun p:Nat=>decide (0≤T.Y6 p n)) ((List.range k).map (· + 1));rw[Tx,List.length_range]at this;exact this
def ZO.Rz(T:ZO)(x:Int):Int:=findAt (fun s:Wd=>s.ss.contains x) T.Yj
def ZO.of(T:ZO)(x:Int):Int×Int×Bool:=if T.Rz x<0 then(0,0,false)else((T.Yj.getD (T.Rz x).toNat UI).num,index (T.Yj.getD (T.Rz x).toNat UI).ss x,true)
def ZO.Vu(T:ZO)(l:List Int)(i:Nat):Bool:=(l.take i).contains (l.getD i 0)||(T.of (l.getD i 0)).2.2
def ZO.TG(T:ZO)(o:Op)(at':Int):Int:=
 if o.ZK.length<1∨3<o.ZK.length then 5
 else if o.ZK.any (fun s=>decide (s<2)||decide (3221225472≤s))then 5
 else if 0≤at' then 9
 else if(List.range o.ZK.length).any (T.Vu o.ZK)then 9 else 0
def mP:Vn:=⟨0,0,0,false⟩
def ZO.Ol(T:ZO)(p s:Int):Vn:=T.ZY.getD (T.Y6 p s).toNat mP
def PE(s:Wd)(q:Int):Bool:=decide (0≤q)&&decide (q<s.ss.length)
def ZO.Xi(T:ZO)(o:Op)(s:Wd):Int:=
 if o.kind=5∨o.kind=8∨o.kind=9 then
  (if s.own≠o.peer then 10 else if o.kind=8∧s.ZN=true then 9 else if o.kind=9∧s.ZN=false then 11 else 0)
 else if o.kind=6 then
  (if s.own=o.peer then 10 else if 0≤T.Y6 o.peer o.source then 9 else if PE s o.ZI then 0 else 5)
 else if T.Y6 o.peer o.source<0 then 8
 else if o.kind=10∧(T.Ol o.peer o.source).ZV=true then 9
 else if o.kind=11∧(T.Ol o.peer o.source).ZV=false then 11
 else if o.kind=12∧PE s o.ZI=false then 5
 else if o.kind=12∧(T.Ol o.peer o.source).want=o.ZI then 9
 else 0
def ZO.XW(T:ZO)(o:Op):Int:=
 if o.kind<2∨12<o.kind then 4
 else if o.peer<1∨8<o.peer then 5
 else if o.kind=2 then
  (if 0≤T.XD o.peer then 9 else if !may o.name then 12 else if T.Zz.any (fun x=>decide (key x.name=key o.name))then 9 else 0)
 else if T.XD o.peer<0 then 8
 else if o.kind=3 then 0
 else if o.source<1∨8<o.source then 5
 else if o.kind=4 then T.TG o (T.YV o.source)
 else if T.YV o.source<0 then 8
 else T.Xi o (T.V6 o.source)
def ZO.ask(T:ZO)(x:Vn):YF:=⟨9,(T.V6 x.source).own,(T.V6 x.source).num,0,(T.V6 x.source).ss.getD x.want.toNat 0⟩
def ZO.WJ(T:ZO)(p s:Int):ZO:={T with ZY:=T.ZY.eraseIdx (T.Y6 p s).toNat}
def ZO.Uc(T:ZO)(n:Int):ZO:={T with Yj:=T.Yj.eraseIdx (T.YV n).toNat}
def ZO.Oi(T:ZO)(n:Int):ZO:={T with Zz:=T.Zz.eraseIdx (T.XD n).toNat}
def ZO.Yc(n:Int):List Nat→ZO→List YF×ZO
 | [],T=>([],T)
 | p :: l,T=>let x:=ZO.Yc n l (T.WJ p n);(⟨3,p,n,0,0⟩ :: ⟨2,p,n,0,0⟩ :: x.1,x.2)
def ZO.Yo(T:ZO)(n:Int):List YF×ZO:=((ZO.Yc n (T.Zp n) T).1,(ZO.Yc n (T.Zp n) T).2.Uc n)
structure ZM(w:World)(b:Nat)(T:ZO):Prop where
 Vv:∃pv sv uv,w.heap[b]?=some (.cells #[pv,sv,uv] 91)∧Hx w pv sv uv T
theorem ZM.lt{w:World}{b:Nat}{T:ZO}(h:ZM w b T):b<w.heap.size:=by
 obtain⟨_,_,_,hc,_⟩:=h.Vv;rcases Nat.lt_or_ge b w with h|h
 ·exact h
 ·rw[D_ h]at hc;cases hc
theorem ZM.below{w w':World}{b:Nat}{T:ZO}(h:ZM w b T)(hb:Below w w w'):ZM w' b T:=by
 have hl:=h.lt;obtain⟨pv,sv,uv,hc,ht⟩:=h.Vv;exact⟨pv,sv,uv,by rw[hb.block b hl];exact hc,ht.below hb⟩
theorem cell_of{w:World}{b:Nat}{cs:Array Value}{e:TypeId}(h:w.heap[b]?=some (.cells cs e))(j:Nat):w.cell? ⟨b,j,none⟩=cs[j]?:=by
 simp only[World.cell?,h];rfl
theorem Sw(b:Nat)(T:ZO)(n:Int)(w:World)(hR:ZM w b T) :
  Calls prog 48 (Qj (some ⟨b,0,none⟩) n) w fun e w'=>e = .returned (.int .i64 (T.XD n))∧Below w w w':=by
 obtain⟨pv,sv,uv,Yn,XF⟩:=hR.Vv;have hb:=hR.lt;have hlen:=XF.Zz.len;have c0:=cell_of Yn 0;have HP:Hid (∀w',Below w w w'→Row w' 103 pv T.Zz.length (T.Zz.flatMap Yy)):=fun w' h=>XF.Zz.below h
 obtain⟨pa,pc,rfl,_⟩:=id XF.Zz;have Hr:Hid (T.XD n=findAt (fun x:Vd=>x.num==n) T.Zz):=rfl;clear hR XF Yn;generalize T.Zz=P at *
 go_enter func48,ntmps48;go_wp2;go_loopw [12] (fun i w'=>∃k:Nat,k≤P.length∧i = .int .i64 k∧Below w w w'∧Hid (∀j (h:j<P.length),j<k→(fun x:Vd=>x.num==n) P[j]=false)) (fun i _=>P.length-(intOf i).toNat)
 case atStart=>exact⟨0,Zo,rfl,YI _ _,fun j h hj=>by omega⟩
 case round=>
  obtain⟨k,hk,rfl,WX,HN⟩:=hrel;by_cases VM:k<P.length
  ·obtain⟨g,off,e1,hc⟩:=sW (HP.o wr WX) Zo;subst e1;obtain⟨d0,d1⟩:=hc k P[k] (Ve VM);have HH:Hid ((fun x:Vd=>x.num==n) P[k]=true→T.XD n=k):=fun h=>by rw[Hr.o];exact NY VM h HN.o
   have HM:Hid ((fun x:Vd=>x.num==n) P[k]=false→∀j (h:j<P.length),j<k+1→(fun x:Vd=>x.num==n) P[j]=false):=fun h j hj Ik=>by
    by_cases e:j=k
    ·subst e;exact h
    ·exact HN.o j hj Zo
   clear hc;generalize P[k]=x at *
   obtain⟨x0,x1⟩:=x;dsimp only at d0 d1 HH HM;exact bT
  ·have HF:Hid (T.XD n=-1):=by show _=_;rw[Hr.o];exact R6 fun j h=>HN.o j h Zo
   go_wp2;go_ret;exact⟨YS HF.o.symm,WX⟩
theorem VV(b:Nat)(T:ZO)(n:Int)(w:World)(hR:ZM w b T) :
  Calls prog 49 (Qj (some ⟨b,0,none⟩) n) w fun e w'=>e = .returned (.int .i64 (T.YV n))∧Below w w w':=by
 obtain⟨pv,sv,uv,Yn,XF⟩:=hR.Vv;have hb:=hR.lt;obtain⟨P,Tj,ZW,TP⟩:=XF.Yj;have hlen:=ZW.len;have c0:=cell_of Yn 1;have HP:Hid (∀w',Below w w w'→Row w' 108 sv P.length (P.flatMap Zg)):=fun w' h=>ZW.below h
 have HV:Hid (∀m∈P,∃a k c,m.2 = .slice a k c):=fun m hm=>by
  obtain⟨a,c,h,_⟩:=TP m hm;exact⟨a,_,c,h⟩
 obtain⟨pa,pc,rfl,_⟩:=id ZW;have Hr:Hid (T.YV n=findAt (fun x:Wd×Value=>x.1.num==n) P):=by show _=_;unfold ZO.YV;rw[←Tj,Fs]
 clear hR XF Yn Tj ZW TP;go_enter func49,ntmps49;go_wp2;go_loopw [12] (fun i w'=>∃k:Nat,k≤P.length∧i = .int .i64 k∧Below w w w'∧Hid (∀j (h:j<P.length),j<k→(fun x:Wd×Value=>x.1.num==n) P[j]=false)) (fun i _=>P.length-(intOf i).toNat)
 case atStart=>exact⟨0,Zo,rfl,YI _ _,fun j h hj=>by omega⟩
 case round=>
  obtain⟨k,hk,rfl,WX,HN⟩:=hrel;by_cases VM:k<P.length
  ·obtain⟨g,off,e1,hc⟩:=Su (HP.o wr WX) Zo;subst e1;obtain⟨d0,d1,d2,d3⟩:=hc k P[k] (Ve VM);obtain⟨va,vk,vc,hv⟩:=HV.o P[k] (OC VM);rw[hv]at d2;have HH:Hid ((fun x:Wd×Value=>x.1.num==n) P[k]=true→T.YV n=k):=fun h=>by rw[Hr.o];exact NY VM h HN.o
   have HM:Hid ((fun x:Wd×Value=>x.1.num==n) P[k]=false→∀j (h:j<P.length),j<k+1→(fun x:Wd×Value=>x.1.num==n) P[j]=false):=fun h j hj Ik=>by
    by_cases e:j=k
    ·subst e;exact h
    ·exact HN.o j hj Zo
   clear hc hv;generalize P[k]=x at *
   obtain⟨⟨x0,x1,x2,x3⟩,x4⟩:=x;dsimp only at d0 d1 d3 HH HM;exact bT
  ·have HF:Hid (T.YV n=-1):=by show _=_;rw[Hr.o];exact R6 fun j h=>HN.o j h Zo
   go_wp2;go_ret;exact⟨YS HF.o.symm,WX⟩
theorem Wo(b:Nat)(T:ZO)(p n:Int)(w:World)(hR:ZM w b T) :
  Calls prog 51 (Qu (some ⟨b,0,none⟩) p n) w fun e w'=>e = .returned (.int .i64 (T.Y6 p n))∧Below w w w':=by
 obtain⟨pv,sv,uv,Yn,XF⟩:=hR.Vv;have hb:=hR.lt;have hlen:=XF.ZY.len;have c0:=cell_of Yn 2;have HP:Hid (∀w',Below w w w'→Row w' 105 uv T.ZY.length (T.ZY.flatMap Zq)):=fun w' h=>XF.ZY.below h
 obtain⟨pa,pc,rfl,_⟩:=id XF.ZY;have Hr:Hid (T.Y6 p n=findAt (fun x:Vn=>x.peer==p&&x.source==n) T.ZY):=rfl;clear hR XF Yn;generalize T.ZY=P at *
 go_enter func51,ntmps51;go_wp2;go_loopw [14] (fun i w'=>∃k:Nat,k≤P.length∧i = .int .i64 k∧Below w w w'∧Hid (∀j (h:j<P.length),j<k→(fun x:Vn=>x.peer==p&&x.source==n) P[j]=false)) (fun i _=>P.length-(intOf i).toNat)
 case atStart=>exact⟨0,Zo,rfl,YI _ _,fun j h hj=>by omega⟩
 case round=>
  obtain⟨k,hk,rfl,WX,HN⟩:=hrel;by_cases VM:k<P.length
  ·obtain⟨g,off,e1,hc⟩:=Om (HP.o wr WX) Zo;subst e1;obtain⟨d0,d1,d2,d3⟩:=hc k P[k] (Ve VM);have HH:Hid ((fun x:Vn=>x.peer==p&&x.source==n) P[k]=true→T.Y6 p n=k):=fun h=>by rw[Hr.o];exact NY VM h HN.o
   have HM:Hid ((fun x:Vn=>x.peer==p&&x.source==n) P[k]=false→∀j (h:j<P.length),j<k+1→(fun x:Vn=>x.peer==p&&x.source==n) P[j]=false):=fun h j hj Ik=>by
    by_cases e:j=k
    ·subst e;exact h
    ·exact HN.o j hj Zo
   clear hc;generalize P[k]=x at *
   obtain⟨x0,x1,x2,x3⟩:=x;dsimp only at d0 d1 d2 d3 HH HM;by_cases hx:x0=p
   ·by_cases hy:x1=n
    ·have HF:=Zh (HH.o (by rw[hx,hy];simp));subst hx hy;go_wp2;go_ret;exact⟨YS HF.o.symm,WX.alloc WX.size _⟩
    ·have sk:(x1==n)=false:=by rw[WM];exact hy
     have HF:=Zh (HM.o (by rw[sk,Bool.and_false]));subst hx;clear hy;exact fI
   ·have sk:(x0==p)=false:=by rw[WM];exact hx
    have HF:=Zh (HM.o (by rw[sk,Bool.false_and]));clear hx;exact fI
  ·have HF:Hid (T.Y6 p n=-1):=by show _=_;rw[Hr.o];exact R6 fun j h=>HN.o j h Zo
   go_wp2;go_ret;exact⟨YS HF.o.symm,WX⟩
end Go.Proofs.Rm
namespace Go.Proofs.Rm
open Go.RowKit Go.Proofs.Heap Go.Proofs.Mem
theorem Ui{l:List (Wd×Value)}{k:Nat}(h:k<l.length):(l.map Prod.fst).getD k UI=l[k].1:=by
 rw[Q_,List.getElem?_map,Ve h];rfl
theorem getD_at{l:List Int}{k:Nat}(h:k<l.length):l.getD k 0=l[k]:=by
 rw[Q_,Ve h];rfl
theorem KR(b:Nat)(T:ZO)(x:Int)(w:World)(hR:ZM w b T) :
  Calls prog 74 (Jj (some ⟨b,0,none⟩) x) w fun e w'=>e = .returned (.tuple (Q6 (T.of x).1 (T.of x).2.1 (T.of x).2.2))∧Below w w w':=by
 obtain⟨pv,sv,uv,Yn,XF⟩:=hR.Vv;have hb:=hR.lt;obtain⟨P,Tj,ZW,TP⟩:=XF.Yj;have hlen:=ZW.len;have c0:=cell_of Yn 1;have HP:Hid (∀w',Below w w w'→Row w' 108 sv P.length (P.flatMap Zg)∧∀m∈P,Row w' 66 m.2 m.1.ss.length (YN m.1.ss)):=fun w' h=>⟨ZW.below h,fun m hm=>(TP m hm).below h⟩
 obtain⟨pa,pc,rfl,_⟩:=id ZW;have Hr:Hid (T.Rz x=findAt (fun s:Wd×Value=>s.1.ss.contains x) P):=by show _=_;unfold ZO.Rz;rw[←Tj,Fs]
 have HOF:Hid (T.of x=if T.Rz x<0 then(0,0,false)else((T.Yj.getD (T.Rz x).toNat UI).num,index (T.Yj.getD (T.Rz x).toNat UI).ss x,true)):=rfl;have eI:=Zh Tj;clear hR XF Yn Tj ZW TP;go_enter func74,ntmps74;go_wp2;go_loopw [16] (fun i w'=>∃k:Nat,k≤P.length∧i = .int .i64 k∧Below w w w'∧Hid (∀j (h:j<P.length),j<k→(fun s:Wd×Value=>s.1.ss.contains x) P[j]=false)) (fun i _=>P.length-(intOf i).toNat)
 case atStart=>exact⟨0,Zo,rfl,YI _ _,fun j h hj=>by omega⟩
 case round=>
  obtain⟨k,hk,rfl,WX,HN⟩:=hrel;by_cases VM:k<P.length
  ·obtain⟨g,off,e1,hc⟩:=Su (HP.o wr WX).1 Zo;subst e1;obtain⟨d0,d1,d2,d3⟩:=hc k P[k] (Ve VM);have hr:=(HP.o wr WX).2 P[k] (OC VM)
   have HH:Hid ((fun s:Wd×Value=>s.1.ss.contains x) P[k]=true→T.of x=(P[k].1.num,index P[k].1.ss x,true)):=fun h=>by
    have e:=NY (p:=fun s:Wd×Value=>s.1.ss.contains x) VM h HN.o;rw[HOF.o,Hr.o,e,Z3 Zo,Wl,←eI.o,Ui VM]
   have HM:Hid ((fun s:Wd×Value=>s.1.ss.contains x) P[k]=false→∀j (h:j<P.length),j<k+1→(fun s:Wd×Value=>s.1.ss.contains x) P[j]=false):=fun h j hj Ik=>by
    by_cases e:j=k
    ·subst e;exact h
    ·exact HN.o j hj Zo
   clear hc;generalize P[k]=y at *
   obtain⟨⟨x0,x1,x2,x3⟩,x4⟩:=y;dsimp only at d0 d1 d2 d3 HH HM hr;have ot:=hr.len;obtain⟨ya,yc,rfl,_⟩:=id hr
   have SR:Hid (0<x2.length→∃g off,ya=some ⟨g,off,none⟩∧g<wr.heap.size∧∀j,j<x2.length→wr.cell? ⟨g,off+j,none⟩=some (.int .u32 (x2.getD j 0))):=fun h=>by
    obtain⟨g,off,cap,e1,_,_,hg,hc⟩:=Nh hr h;exact⟨g,off,(slice_inj e1).1,hg,hc⟩
   clear hr;obtain⟨wo,rfl⟩:∃wo:World,wo=wr:=⟨_,rfl⟩;go_wp2
   go_loop [23] (fun i=>∃m:Nat,m≤x2.length∧i = .int .i64 m∧Hid (∀j,j<m→x2.getD j 0≠x)) (fun i=>x2.length-(intOf i).toNat)
   case atStart=>exact⟨0,Zo,rfl,fun j hj=>by omega⟩
   case round=>
    obtain⟨m,hm,rfl,II⟩:=hrel;by_cases Mj:m<x2.length
    ·obtain⟨g3,off3,e3,hg3,p7⟩:=SR.o Zo;subst e3;have hd:=p7 m Mj;clear p7;by_cases hx:x2.getD m 0=x
     ·have HF:=Zh (HH.o (by rw[List.contains_iff_mem,←hx,getD_at Mj];exact OC Mj));have HI:Hid (index x2 x=m):=index_hit Mj hx II.o;rw[hx]at hd;clear hx;go_wp2
      go_ret3
      exact⟨by rw[HF.o,HI.o];rfl,WX.alloc WX.size _⟩
     ·have sk:(x2.getD m 0==x)=false:=by rw[WM];exact hx
      have HX:=Zh hx;clear hx;generalize hy:x2.getD m 0=y at *
      have HY:=Zh hy;clear hy;go_wp2
      go_round
      case rel=>exact⟨m+1,Zo,Zn,fun j hj=>by by_cases yB:j<m;exact II.o j yB;rw[show j=m by omega,HY.o];exact HX.o⟩
      case measure=>simp[intOf];omega
    ·have HF:=Zh (HM.o (by
      rw[J8];intro h;rw[List.contains_iff_mem]at h;obtain⟨j,hj,e⟩:=List.getElem_of_mem h
      exact II.o j Zo (by rw[getD_at hj];exact e)))
     exact fI
  ·have HF:Hid (T.of x=(0,0,false)):=by
    show _=_;rw[HOF.o,Hr.o,R6 (fun j h=>HN.o j h Zo),ZU Zd]
   go_wp2
   go_ret3
   exact⟨by rw[HF.o];rfl,WX⟩
theorem Ox(b:Nat)(T:ZO)(n:Int)(w:World)(hR:ZM w b T) :
  Calls prog 75 (Qj (some ⟨b,0,none⟩) n) w fun e w'=>e = .returned (.int .i64 (T.owner n))∧Below w w w':=by
 have CS:=Zh (VV b T n w hR);have LX:Hid (T.owner n=if T.YV n<0 then 0 else(T.Yj.getD (T.YV n).toNat UI).own):=rfl
 have HAT:Hid (0≤T.YV n→∃k:Nat,k<T.Yj.length∧T.YV n=k):=fun h=>by
  obtain⟨k,hk,e,_⟩:=XE h;exact⟨k,hk,e⟩
 have hb:=hR.lt;have HR:=Zh hR;clear hR;by_cases aq:T.YV n<0
 ·have HF:Hid (T.owner n=0):=by show _=_;rw[LX.o,ZU aq]
  generalize T.YV n=q at *
  go_enter func75,ntmps75;go_wp2_with (go_at_call 49;refine CS.o.mono ?_;rintro e w1 ⟨rfl,YZ⟩)
  go_ret;exact⟨YS HF.o.symm,YZ⟩
 ·obtain⟨k,hk,e⟩:=HAT.o Zo;have HF:Hid (T.owner n=(T.Yj.getD k UI).own):=by show _=_;rw[LX.o,Z3 aq,e,Wl]
  rw[e]at CS;clear e aq HAT LX;go_enter func75,ntmps75;go_wp2_with fail
  refine CS.o.mono ?_;rintro e w1 ⟨rfl,YZ⟩;obtain⟨pv,sv,uv,Yn,XF⟩:=(HR.o.below YZ).Vv;obtain⟨P,Tj,ZW,TP⟩:=XF.Yj;have VM:k<P.length:=by rw[←Tj,Tx]at hk;exact hk
  have hlen:=ZW.len;have c0:=cell_of Yn 1;obtain⟨pa,pc,rfl,_⟩:=id ZW;obtain⟨g,off,e1,hc⟩:=Su ZW Zo;subst e1;obtain⟨d0,d1,d2,d3⟩:=hc k P[k] (Ve VM);have HX:Hid ((T.Yj.getD k UI).own=P[k].1.own):=by show _=_;rw[←Tj,Ui VM]
  clear hc d0 d2 d3 XF Yn Tj ZW TP;generalize P[k].1.own=ow at *
  go_wp2;go_ret;exact⟨YS (by rw[HF.o,HX.o]),YZ⟩
theorem IP(b:Nat)(T:ZO)(n:Int)(w:World)(hR:ZM w b T) :
  Calls prog 50 (Qj (some ⟨b,0,none⟩) n) w fun e w'=>(∃v,e = .returned v∧Row w' 3 v (T.Zp n).length (ints (T.Zp n)))∧Below w w w':=by
 have HR:=Zh hR;have hb:=hR.lt;have HS:Hid (T.Zp n=T.Vs n 8):=rfl;clear hR;go_enter func50,ntmps50;go_wp2;go_loopw [5,6] (fun v i w'=>∃k:Nat,k≤8∧i = .int .i64 ((k:Int)+1)∧Below w w w'∧w'.ownsRow w 3 1 v (T.Vs n k).length (ints (T.Vs n k))) (fun _ i _=>9-(intOf i).toNat)
 case atStart=>exact⟨0,Zo,rfl,YI _ _,TV _ _ _ _⟩
 case round=>
  obtain⟨k,hk,rfl,WX,YG⟩:=hrel;have Yk:=Zh YG;clear YG;by_cases gV:k<8
  ·have CS:=Zh (Wo b T ((k:Int)+1) n wr (HR.o.below WX));have rR:=Zh (Ba T n k);have Ht:=R9 T n k;by_cases hs:0≤T.Y6 ((k:Int)+1) n
   ·have HF:Hid (T.Vs n (k+1)=T.Vs n k++[k+1]):=by show _=_;rw[rR.o,ZU hs]
    generalize T.Y6 ((k:Int)+1) n=q at *
    generalize T.Vs n k=G at *
    go_wp2_with (first|(go_at_call 51;refine CS.o.mono ?_;rintro e w1 ⟨rfl,YZ⟩)|(at_builtin;refine YO rfl (.tmp 16) (.tmp 18) 72 rfl w W9 _ G.length (ints G) rfl ?a1 _ 1 [.int .i64 ((k:Int)+1)] rfl ?a2 rfl ?a4 ?a5 ?a6 ?a7 (fun v' w2 Nl HG=>?_)))
    case a1=>exact(Zv Yk.o YZ).alloc _
    case a2=>exact Yw _ _ 1 _ [.int .i64 ((k:Int)+1)] Zd Zi
    case a4=>intro u hu;simp at hu;subst hu;rfl
    case a5=>omega
    case a6=>omega
    case a7=>have h1:=WX.size;have h2:=YZ.size;simp;omega
    go_roundw
    case rel=>
     refine⟨k+1,Zo,Zn,?_,?_⟩
     ·have h1:=WX.trans (YZ.mono WX.size);have h2:=h1.alloc h1.size (.cells #[.int .i64 ((k:Int)+1)] 3);exact h2.grown HG.o h2.size (YL Yk.o)
     ·rw[HF.o,UG,Iq];exact Nl.o
    case measure=>simp[intOf];omega
   ·have HF:Hid (T.Vs n (k+1)=T.Vs n k):=by show _=_;rw[rR.o,Z3 hs,rW]
    generalize T.Y6 ((k:Int)+1) n=q at *
    go_wp2_with (go_at_call 51;refine CS.o.mono ?_;rintro e w1 ⟨rfl,YZ⟩)
    go_roundw
    case rel=>
     refine⟨k+1,Zo,Zn,WX.trans (YZ.mono WX.size),?_⟩;rw[HF.o];exact Zv Yk.o YZ
    case measure=>simp[intOf];omega
  ·have dC:k=8:=by omega
   subst dC;go_wp2;go_ret;exact⟨⟨_,rfl,by rw[HS.o];exact Row.Z4 Yk.o⟩,WX⟩
theorem BD(T:ZO)(l:List Int)(k:Nat):T.Vu l k=((l.take k).contains (l.getD k 0)||(T.of (l.getD k 0)).2.2):=rfl
theorem Gz(b:Nat)(T:ZO)(o:Op)(at':Int)(sa ba:Option Addr)(sc bl bc:Nat)(w:World)(hR:ZM w b T)
  (ZW:XM w (.slice sa o.ZK.length sc) o.ZK.length (YN o.ZK)) :
  Calls prog 122 (Qt (some ⟨b,0,none⟩) (Jq o sa o.ZK.length sc ba bl bc) at') w fun e w'=>e = .returned (.int .i64 (T.TG o at'))∧Below w w w':=by
 have CO:=Zh (fun(w1:World) (x:Int) (h:Below w w w1)=>KR b T x w1 (hR.below h));obtain⟨kd,p,n,q,nm,ss⟩:=o;have hb:=hR.lt;have HP:Hid (T.TG ⟨kd,p,n,q,nm,ss⟩ at'=(if ss.length<1∨3<ss.length then 5 else if ss.any (fun s=>decide (s<2)||decide (3221225472≤s))then 5 else if 0≤at' then 9 else if(List.range ss.length).any (T.Vu ss)then 9 else 0)):=rfl;dsimp only at *
 have hlen:=ZW.len;clear hR;generalize T.TG ⟨kd,p,n,q,nm,ss⟩ at'=Bu at *
 by_cases h1:ss.length<1
 ·have HF:Hid (Bu=5):=by show _=_;rw[HP.o,ZU (WO h1)]
  exact cy
 by_cases h2:3<ss.length
 ·have HF:Hid (Bu=5):=by show _=_;rw[HP.o,ZU (WB h2)]
  exact cy
 have jJ:Hid (Bu=(if ss.any (fun s=>decide (s<2)||decide (3221225472≤s))then 5 else if 0≤at' then 9 else if(List.range ss.length).any (T.Vu ss)then 9 else 0)):=by
  show _=_;rw[HP.o,Z3 Zo]
 obtain⟨g,off,cap,e1,_,_,hg,Yu⟩:=Pj ZW Zo;cases e1;have HC:=Zh Yu;have Vc:=Zh ZW;clear Yu ZW HP;go_enter func122,ntmps122;go_wp2
 go_loop [29] (fun i=>∃k:Nat,k≤ss.length∧i = .int .i64 k∧Hid (∀j,j<k→2≤ss.getD j 0∧ss.getD j 0<3221225472)) (fun i=>ss.length-(intOf i).toNat)
 case atStart=>exact⟨0,TH _,rfl,fun j hj=>by omega⟩
 case round=>
  obtain⟨k,hk,rfl,Ov⟩:=hrel;by_cases VM:k<ss.length
  ·exact Yx45
  ·have HP3:Hid (Bu=if 0≤at' then 9 else if(List.range ss.length).any (T.Vu ss)then 9 else 0):=by
    exact bY
   clear Ov jJ;by_cases V7:0≤at'
   ·have HF:Hid (Bu=9):=by show _=_;rw[HP3.o,ZU V7]
    go_wp2;go_ret;exact⟨YS HF.o.symm,Z' _ _⟩
   ·have HP4:Hid (Bu=if(List.range ss.length).any (T.Vu ss)then 9 else 0):=by show _=_;rw[HP3.o,Z3 V7]
    clear HP3;go_wp2;go_loopw [45] (fun i w'=>∃k:Nat,k≤ss.length∧i = .int .i64 k∧Below w w w'∧w.heap.size<w'.heap.size∧w'.cell? ⟨w,5,none⟩=some (.slice (some ⟨g,off,none⟩) ss.length sc)∧Hid (∀j,j<k→T.Vu ss j=false)) (fun i _=>ss.length-(intOf i).toNat)
    case atStart=>exact⟨0,TH _,rfl,Z' _ _,by simp,by simp,fun j hj=>by omega⟩
    case round=>
     obtain⟨k,hk,rfl,WX,Uk,A_,Ov⟩:=hrel;by_cases VM:k<ss.length
     ·have Dc:=Vc.o.below WX;obtain⟨g',off',cap',e1,_,_,hg',Yu⟩:=Pj Dc Zo;cases e1;have hc:=Yu k VM;have HCR:=Zh Yu;have bu:=Zh (CO.o wr (ss.getD k 0) WX);have eW:=Zh (BD T ss k)
      have jH:Hid (T.Vu ss k=true→Bu=9):=by
       intro h;rw[HP4.o,ZU];rw[List.any_eq_true];exact⟨k,by simpa using VM,h⟩
      clear Yu Dc;generalize T.of (ss.getD k 0)=O at *
      obtain⟨o1,o2,o3⟩:=O;dsimp only at bu eW
      have HCN:Hid ((ss.take k).contains (ss.getD k 0)=true↔∃j,j<k∧ss.getD j 0=ss.getD k 0):=by
       rw[Hid,List.contains_iff_mem,List.mem_iff_getElem];constructor
       ·rintro⟨j,hj,e⟩;rw[SY]at hj;rw[List.getElem_take]at e;exact⟨j,Zo,by rw[getD_at Zo];exact e⟩
       ·rintro⟨j,hj,e⟩;exact⟨j,by rw[SY];omega,by rw[List.getElem_take,←getD_at Zo];exact e⟩
      generalize(ss.take k).contains (ss.getD k 0)=cn at *
      generalize qw:ss.getD k 0=x at *
      clear qw;obtain⟨wo,rfl⟩:∃wo:World,wo=wr:=⟨_,rfl⟩;go_wp2
      go_loop [55] (fun i=>∃m:Nat,m≤k∧i = .int .i64 m∧Hid (∀j,j<m→ss.getD j 0≠x)) (fun i=>k-(intOf i).toNat)
      case atStart=>exact⟨0,Zo,rfl,fun j hj=>by omega⟩
      case round=>
       obtain⟨m,hm,rfl,HN⟩:=hrel;by_cases dH:m<k
       ·have hd:=HCR.o m Zo;by_cases hx:ss.getD m 0=x
        ·have HF:=Zh (jH.o (by rw[eW.o,HCN.o.2 ⟨m,dH,hx⟩];rfl));rw[hx]at hd;clear hx;go_wp2;go_ret;exact⟨YS HF.o.symm,WX⟩
        ·have sk:(x==ss.getD m 0)=false:=by rw[WM];exact fun e=>hx e.symm
         have HX:=Zh hx;clear hx;generalize hy:ss.getD m 0=y at *
         have HY:=Zh hy;clear hy;go_wp2
         go_round
         case rel=>exact⟨m+1,Zo,Zn,fun j hj=>by by_cases yB:j<m;exact HN.o j yB;rw[show j=m by omega,HY.o];exact HX.o⟩
         case measure=>simp[intOf];omega
       ·have gJ:cn=false:=by
         rw[J8];intro h;obtain⟨j,hj,e⟩:=HCN.o.1 h;exact HN.o j Zo e
        cases o3
        ·have HF:Hid (T.Vu ss k=false):=by show _=_;rw[eW.o,gJ];rfl
         clear gJ;go_wp2_with (go_at_call 74;refine bu.o.mono ?_;rintro e w2 ⟨rfl,Zb⟩;have Ih:=(Zb.cell (p:=⟨w,5,none⟩) Uk).trans A_)
         exact bU
        ·have HF:=Zh (jH.o (by rw[eW.o,Bool.or_true]));clear gJ;go_wp2_with (go_at_call 74;refine bu.o.mono ?_;rintro e w2 ⟨rfl,Zb⟩)
         go_ret;exact⟨YS HF.o.symm,WX.trans (Zb.mono WX.size)⟩
     ·exact b_
end Go.Proofs.Rm
namespace Go.Proofs.Rm
open Go.RowKit Go.Proofs.Heap Go.Proofs.Mem
theorem BQ(b:Nat)(T:ZO)(o:Op)(s:Wd)(sa ba ca:Option Addr)(sl sc bl bc cc:Nat)(w:World)(hk:o.kind=5∨o.kind=8∨o.kind=9) :
  Calls prog 123 (Jd (some ⟨b,0,none⟩) (Jq o sa sl sc ba bl bc) (Qp s.num s.own ca s.ss.length cc s.ZN)) w fun e w'=>e = .returned (.int .i64 (T.Xi o s))∧Below w w w':=by
 obtain⟨kd,p,n,q,nm,ss⟩:=o;obtain⟨s0,s1,s2,s3⟩:=s;dsimp only at *
 have HW:Hid (T.Xi ⟨kd,p,n,q,nm,ss⟩ ⟨s0,s1,s2,s3⟩=(if s1≠p then 10 else if kd=8∧s3=true then 9 else if kd=9∧s3=false then 11 else 0)):=by
  show _=_;unfold ZO.Xi;dsimp only;rw[ZU hk]
 generalize T.Xi ⟨kd,p,n,q,nm,ss⟩ ⟨s0,s1,s2,s3⟩=wv at *
 rcases hk with rfl|rfl|rfl
 all_goals
  go_enter func123,ntmps123;go_wp2;all_goals(go_ret;refine⟨YS ?_,((YI _ _).alloc (Zw _) _).alloc Zi _⟩)
  all_goals(rw[HW.o];first|(simp[*];done)|(simp_all;done)|skip)
theorem LW(b:Nat)(T:ZO)(o:Op)(s:Wd)(sa ba ca:Option Addr)(sl sc bl bc cc:Nat)(w:World)(hR:ZM w b T)(hk:o.kind=6) :
  Calls prog 123 (Jd (some ⟨b,0,none⟩) (Jq o sa sl sc ba bl bc) (Qp s.num s.own ca s.ss.length cc s.ZN)) w fun e w'=>e = .returned (.int .i64 (T.Xi o s))∧Below w w w':=by
 have CS:=Zh (fun(w1:World) (h:Below w w w1)=>Wo b T o.peer o.source w1 (hR.below h));obtain⟨kd,p,n,q,nm,ss⟩:=o;obtain⟨s0,s1,s2,s3⟩:=s;dsimp only at *
 subst hk;have HW:Hid (T.Xi ⟨6,p,n,q,nm,ss⟩ ⟨s0,s1,s2,s3⟩=(if s1=p then 10 else if 0≤T.Y6 p n then 9 else if decide (0≤q)&&decide (q<s2.length)then 0 else 5)):=rfl;clear hR;generalize T.Xi ⟨6,p,n,q,nm,ss⟩ ⟨s0,s1,s2,s3⟩=wv at *
 generalize T.Y6 p n=k at *
 generalize s2.length=sln at *
 go_enter func123,ntmps123;go_wp2_with (go_at_call 51;refine(CS.o _ (((YI _ _).alloc (Zw _) _).alloc Zi _)).mono ?_;rintro e w1 ⟨rfl,YZ⟩;obtain⟨LG,I8⟩:=SP YZ;have P8:=YZ.size)
 all_goals(go_ret;refine⟨YS ?_,(((YI _ _).alloc (Zw _) _).alloc Zi _).trans (YZ.mono Uf)⟩)
 all_goals(rw[HW.o];first|(simp[*];done)|(simp_all;done)|(simp_all;omega)|skip)
theorem EI(b:Nat)(T:ZO)(o:Op)(s:Wd)(sa ba ca:Option Addr)(sl sc bl bc cc:Nat)(w:World)(hR:ZM w b T)(hk:o.kind=7∨o.kind=10∨o.kind=11∨o.kind=12)(hn:T.Y6 o.peer o.source<0) :
  Calls prog 123 (Jd (some ⟨b,0,none⟩) (Jq o sa sl sc ba bl bc) (Qp s.num s.own ca s.ss.length cc s.ZN)) w fun e w'=>e = .returned (.int .i64 (T.Xi o s))∧Below w w w':=by
 have CS:=Zh (fun(w1:World) (h:Below w w w1)=>Wo b T o.peer o.source w1 (hR.below h));have HW:Hid (T.Xi o s=8):=by show _=_;unfold ZO.Xi;rw[Z3 Zo,Z3 Zo,ZU hn]
 obtain⟨kd,p,n,q,nm,ss⟩:=o;obtain⟨s0,s1,s2,s3⟩:=s;dsimp only at *
 clear hR;generalize T.Xi ⟨kd,p,n,q,nm,ss⟩ ⟨s0,s1,s2,s3⟩=wv at *
 generalize T.Y6 p n=k at *
 generalize s2.length=sln at *
 rcases hk with rfl|rfl|rfl|rfl
 all_goals
  go_enter func123,ntmps123;go_wp2_with (go_at_call 51;refine(CS.o _ (((YI _ _).alloc (Zw _) _).alloc Zi _)).mono ?_;rintro e w1 ⟨rfl,YZ⟩;obtain⟨LG,I8⟩:=SP YZ;have P8:=YZ.size)
  all_goals(go_ret;exact⟨YS HW.o.symm,(((YI _ _).alloc (Zw _) _).alloc Zi _).trans (YZ.mono Uf)⟩)
end Go.Proofs.Rm

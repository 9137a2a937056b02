/- Part of a proof. -/
import Derived.Test.YtpdjhlcbcomdkaaGreatDoorChecked
import Derived.Test.YtpdjhlcbcomdkaaGreatDoorT03
set_option linter.unusedVariables false
set_option linter.unusedSimpArgs false
set_option maxRecDepth 100000
set_option maxHeartbeats 16000000
open Go Go.Q Go.Proofs.Tryz
namespace Go.Proofs.By
open Go.RowKit Go.Proofs.Heap
theorem Xt{a b:Bool}(h:a=b):Ending.returned (.bool a) = .returned (.bool b):=by rw[h]
theorem VG:Elem prog 30 5 1 1:=⟨underlying30,⟨.int .u8 0,by kernel_rfl,rfl⟩,by decide⟩
abbrev X5(w:World)(v:Value)(l:List UInt8):Prop:=XM w v l.length (Rx l)
theorem AO{w:World}{v:Value}{l:List UInt8}(h:X5 w v l)(hl:0<l.length):∃g off cap,v = .slice (some ⟨g,off,none⟩) l.length cap∧l.length≤cap∧cap≤maxLen ∧
  ∀(j:Nat) (hj:j<l.length),w.cell? ⟨g,off+j,none⟩=some (.int .u8 (l[j].toNat:Int)):=by
 obtain⟨g,off,cap,h1,h2,h3,_,h5⟩:=h.open (by rw[Xg];exact hl);refine⟨g,off,cap,h1,h2,h3,fun j hj=>?_⟩;rw[h5 j (by rw[Xg];exact hj)];simp[Rx,hj]
theorem wh(a:Option Addr)(n c:Nat)(p q:Int)(w:World)(hn:n≤9223372036854775807) :
  Calls prog 176 #[.slice a n c,.int .i64 p,.int .i64 q] w fun e w'=>e = .returned (.bool (within n p q))∧w=w':=by
 have HW:Hid (within n p q=(decide (1≤q)&&decide (q≤8)&&decide (0≤p)&&decide (p≤(n:Int)-q))):=rfl;generalize within n p q=x at *
 by_cases h1:1≤q
 ·by_cases h2:q≤8
  ·by_cases h3:0≤p
   ·have HF:Hid (x=decide (p≤(n:Int)-q)):=by show _=_;rw[HW.o,Ww h1,Ww h2,Ww h3];simp
    have d1:decide (1≤q)=true:=Ww h1;have d2:decide (q≤8)=true:=Ww h2;have d3:decide (0≤p)=true:=Ww h3;exact fK
   ·have HF:Hid (x=false):=by show _=_;rw[HW.o,Wz h3];simp
    have d1:decide (1≤q)=true:=Ww h1;have d2:decide (q≤8)=true:=Ww h2;have d3:decide (0≤p)=false:=Wz h3;exact fK
  ·have HF:Hid (x=false):=by show _=_;rw[HW.o,Wz h2];simp
   have d1:decide (1≤q)=true:=Ww h1;have d2:decide (q≤8)=false:=Wz h2;exact fK
 ·have HF:Hid (x=false):=by show _=_;rw[HW.o,Wz h1];simp
  have d1:decide (1≤q)=false:=Wz h1;exact fK
theorem NM(v:Value)(b:List UInt8)(p q:Int)(w:World)(hv:X5 w v b) :
  Calls prog 155 #[v,.int .i64 p,.int .i64 q] w fun e w'=>e = .returned (.tuple (Jn (get b p q:Nat) (within b.length p q)))∧w=w':=by
 have hlen:=hv.len;obtain⟨a,c,rfl,hc,-⟩:=id hv;have CW:=Zh (wh a b.length c p q w hlen);cases hw:within b.length p q
 ·have HG:Hid (get b p q=0):=by show _=_;unfold get;rw[hw];rfl
  rw[hw]at CW;rw[HG.o];clear hw HG;go_enter func155,ntmps155;go_wp2_with (go_at_call 176;refine CW.o.mono ?_;rintro e w' ⟨rfl,rfl⟩)
  go_ret2
  exact⟨rfl,rfl⟩
 ·obtain⟨h1,h2,h3,h4⟩:=within_iff.1 hw;have HG:Hid (get b p q=be ((b.drop p.toNat).take q.toNat)):=by show _=_;unfold get;rw[hw];rfl
  rw[hw]at CW;obtain⟨p,rfl⟩:=Rw h3;obtain⟨q,rfl⟩:=Rw (show 0≤q by omega);rw[Wl,Wl]at HG;obtain⟨a',Us,ZW⟩:=Wc VG a b.length c p (p+q) Zo Zo hc;have ZW:=ZW w (Rx b) (by rw[Xg];omega) hv;rw[Nat.mul_one,Nat.mul_one,Nat.add_sub_cancel_left,QA,OH]at ZW;rw[Nat.add_sub_cancel_left]at Us;have hql:((b.drop p).take q).length=q:=by rw[SY,Ra];omega
  have dK:((p+q:Nat):Int)=(p:Int)+(q:Int):=by omega
  rw[dK]at Us;rw[HG.o];have Vc:=Zh ZW;clear hw HG ZW hv dK;generalize(b.drop p).take q=s at *
  subst hql;go_enter func155,ntmps155;go_wp2_with (go_at_call 176;refine CW.o.mono ?_;rintro e w' ⟨rfl,rfl⟩)
  exact Yx44
theorem zB(a:Option Addr)(n c:Nat)(p q:Int)(w:World)(hn:n≤9223372036854775807) :
  Calls prog 167 #[.slice a n c,.int .i64 p,.int .i64 q] w fun e w'=>e = .returned (.bool (within n p q))∧w=w':=by
 have HW:Hid (within n p q=(decide (1≤q)&&decide (q≤8)&&decide (0≤p)&&decide (p≤(n:Int)-q))):=rfl;generalize within n p q=x at *
 by_cases h1:1≤q
 ·by_cases h2:q≤8
  ·by_cases h3:0≤p
   ·have d1:decide (1≤q)=true:=Ww h1;have d2:decide (q≤8)=true:=Ww h2;have d3:decide (0≤p)=true:=Ww h3;by_cases h4:p≤(n:Int)
    ·have HF:Hid (x=decide (q≤(n:Int)-p)):=by
      show _=_;rw[HW.o,d1,d2,d3];simp only[Bool.true_and];exact decide_eq_decide.2 Zo
     have d4:decide (p≤(n:Int))=true:=Ww h4;exact kB
    ·have HF:Hid (x=false):=by show _=_;rw[HW.o,Wz (show¬p≤(n:Int)-q by omega),Bool.and_false]
     have d4:decide (p≤(n:Int))=false:=Wz h4;exact kB
   ·have HF:Hid (x=false):=by show _=_;rw[HW.o,Wz h3];simp
    have d1:decide (1≤q)=true:=Ww h1;have d2:decide (q≤8)=true:=Ww h2;have d3:decide (0≤p)=false:=Wz h3;exact kB
  ·have HF:Hid (x=false):=by show _=_;rw[HW.o,Wz h2];simp
   have d1:decide (1≤q)=true:=Ww h1;have d2:decide (q≤8)=false:=Wz h2;exact kB
 ·have HF:Hid (x=false):=by show _=_;rw[HW.o,Wz h1];simp
  have d1:decide (1≤q)=false:=Wz h1;exact kB
theorem mZ(v:Value)(b:List UInt8)(p q:Int)(w:World)(hv:X5 w v b) :
  Calls prog 145 #[v,.int .i64 p,.int .i64 q] w fun e w'=>e = .returned (.tuple (Jn (get b p q:Nat) (within b.length p q)))∧w=w':=by
 have hlen:=hv.len;obtain⟨a,c,rfl,hc,-⟩:=id hv;have CW:=Zh (zB a b.length c p q w hlen);cases hw:within b.length p q
 ·have HG:Hid (get b p q=0):=by show _=_;unfold get;rw[hw];rfl
  rw[hw]at CW;rw[HG.o];clear hw HG;go_enter func145,ntmps145;go_wp2_with (go_at_call 167;refine CW.o.mono ?_;rintro e w' ⟨rfl,rfl⟩)
  go_ret2
  exact⟨rfl,rfl⟩
 ·obtain⟨h1,h2,h3,h4⟩:=within_iff.1 hw;have HG:Hid (get b p q=be ((b.drop p.toNat).take q.toNat)):=by show _=_;unfold get;rw[hw];rfl
  rw[hw]at CW;obtain⟨p,rfl⟩:=Rw h3;obtain⟨q,rfl⟩:=Rw (show 0≤q by omega);rw[Wl,Wl]at HG;obtain⟨a',Us,ZW⟩:=Wc VG a b.length c p (p+q) Zo Zo hc;have ZW:=ZW w (Rx b) (by rw[Xg];omega) hv;rw[Nat.mul_one,Nat.mul_one,Nat.add_sub_cancel_left,QA,OH]at ZW;rw[Nat.add_sub_cancel_left]at Us;have hql:((b.drop p).take q).length=q:=by rw[SY,Ra];omega
  have dK:((p+q:Nat):Int)=(p:Int)+(q:Int):=by omega
  rw[dK]at Us;rw[HG.o];have Vc:=Zh ZW;clear hw HG ZW hv dK;generalize(b.drop p).take q=s at *
  subst hql;go_enter func145,ntmps145;go_wp2_with (go_at_call 167;refine CW.o.mono ?_;rintro e w' ⟨rfl,rfl⟩)
  exact Yx44
def at8(b:List UInt8)(i:Nat):Nat:=(b.getD i 0).toNat
structure J4 where
 Xw:Bool
 type:Int
 seq:Int
 time:Int
 Yl:Int
 VF:List Int
 Xv:Bool
 X9:Int
 ext:List UInt8
 ZE:List UInt8
 pad:Int
def WR:J4:=⟨false,0,0,0,0,[],false,0,[],[],0⟩
def Vp(b:List UInt8)(p:Nat):(Nat×Nat)×Bool:=
 if at8 b 0/16%2=0 then((p,p),decide (p≤b.length))
 else((p+4,p+4+4*get b ((p:Int)+2) 2),within b.length ((p:Int)+2) 2&&decide (p+4+4*get b ((p:Int)+2) 2≤b.length))
def RU(b rest:List UInt8):Nat×Bool:=
 if at8 b 0/32%2=0 then(0,true)
 else if rest.length=0 then(0,false)
 else
  let n:=at8 rest (rest.length-1)
  if n=0∨rest.length<n then(0,false)
  else if((rest.drop (rest.length-n)).take (n-1)).all (fun x=>decide (x=0))then(n,true)else(0,false)
def looks(b:List UInt8):(Nat×Nat×Nat)×Int:=
 if 512<b.length then((0,0,0),5)
 else if b.length<12 then((0,0,0),2)
 else if at8 b 0/64≠2 then((0,0,0),1)
 else if 192≤at8 b 1∧at8 b 1≤223 then((0,0,0),4)
 else
  let x:=Vp b (12+4*(at8 b 0%16))
  if x.2=false then((0,0,0),2)
  else
   let y:=RU b (b.drop x.1.2)
   if y.2=false then((0,0,0),1)else((x.1.1,x.1.2,b.length-y.1),0)
def TD(b:List UInt8)(s:Nat×Nat×Nat):J4 where
 Xw:=decide (128≤at8 b 1)
 type:=(at8 b 1%128:Nat)
 seq:=get b 2 2
 time:=get b 4 4
 Yl:=get b 8 4
 VF:=(List.range (at8 b 0%16)).map fun(i:Nat)=>((get b (12+4*(i:Int)) 4:Nat):Int)
 Xv:=decide (at8 b 0/16%2=1)
 X9:=if at8 b 0/16%2=1 then(get b ((s.1:Int)-4) 2:Int)else 0
 ext:=if at8 b 0/16%2=1 then(b.drop s.1).take (s.2.1-s.1)else[]
 ZE:=(b.drop s.2.1).take (s.2.2-s.2.1)
 pad:=(b.length:Int)-s.2.2
def YM(b:List UInt8):J4×Int:=if(looks b).2≠0 then(WR,(looks b).2)else(TD b (looks b).1,0)
structure EK where
 ZI:Int
 key:Bool
 start:Bool
 frame:Int
def Tn:EK:=⟨0,false,false,0⟩
def Yz(b:List UInt8):EK×Int:=
 if b.length<4 then(Tn,2)
 else if at8 b 0/4%16≠0∨at8 b 0%4=3∨at8 b 1≠90 then(Tn,1)
 else(⟨(at8 b 0%4:Nat),decide (128≤at8 b 0),decide (at8 b 0/64%2=1),get b 2 2⟩,0)
end Go.Proofs.By
namespace Go.Proofs.By
open Go.RowKit Go.Proofs.Heap
theorem at8_lt{b:List UInt8}{i:Nat}(h:i<b.length):at8 b i=b[i].toNat:=by
 unfold at8;rw[Q_,Ve h];rfl
theorem Xj(b:List UInt8)(i:Nat):at8 b i<256:=by unfold at8;exact(b.getD i 0).toNat_lt
theorem RI{w:World}{v:Value}{l:List UInt8}(h:X5 w v l)(hl:0<l.length):∃g off cap,v = .slice (some ⟨g,off,none⟩) l.length cap∧l.length≤cap∧cap≤maxLen ∧
  ∀(j:Nat) (_:j<l.length),w.cell? ⟨g,off+j,none⟩=some (.int .u8 (at8 l j:Int)):=by
 obtain⟨g,off,cap,h1,h2,h3,h4⟩:=AO h hl;exact⟨g,off,cap,h1,h2,h3,fun j hj=>by rw[h4 j hj,at8_lt hj]⟩
theorem GK(k n:Nat)(hn:n<256)(hk:2 ^ k<256):bits .and .u8 (n:Int) ((2 ^ k:Nat):Int)=((n/2 ^ k%2*2 ^ k:Nat):Int):=by
 rw[u8_and_nat n (2 ^ k) hn hk,nat_bit]
theorem kH(n:Nat)(hn:n<256):bits .and .u8 (n:Int) 16=((n/16%2*16:Nat):Int):=GK 4 n hn Zd
theorem and_32(n:Nat)(hn:n<256):bits .and .u8 (n:Int) 32=((n/32%2*32:Nat):Int):=GK 5 n hn Zd
theorem and_64(n:Nat)(hn:n<256):bits .and .u8 (n:Int) 64=((n/64%2*64:Nat):Int):=GK 6 n hn Zd
theorem rY(n:Nat)(hn:n<256):bits .and .u8 (n:Int) 128=((n/128%2*128:Nat):Int):=GK 7 n hn Zd
theorem kG(n:Nat)(hn:n<256):bits .and .u8 (n:Int) 15=((n%16:Nat):Int):=by
 rw[show(15:Int)=((15:Nat):Int)from rfl,u8_and_nat n 15 hn Zd,nat_mask4]
theorem AK(n:Nat)(hn:n<256):bits .and .u8 (n:Int) 31=((n%32:Nat):Int):=by
 rw[show(31:Int)=((31:Nat):Int)from rfl,u8_and_nat n 31 hn Zd,nat_mask5]
theorem fL(n:Nat)(hn:n<256):bits .and .u8 (n:Int) 127=((n%128:Nat):Int):=by
 rw[show(127:Int)=((127:Nat):Int)from rfl,u8_and_nat n 127 hn Zd,nat_mask7]
theorem and_3(n:Nat)(hn:n<256):bits .and .u8 (n:Int) 3=((n%4:Nat):Int):=by
 rw[show(3:Int)=((3:Nat):Int)from rfl,u8_and_nat n 3 hn Zd,nat_mask2]
theorem U7(b:List UInt8)(p q:Int)(k:Nat)(hk:q.toNat≤k):get b p q<256 ^ k:=by
 unfold get;split
 ·refine OB (Ca _) (Nat.pow_le_pow_right Zd ?_);rw[SY];omega
 ·exact Nat.pow_pos Zd
theorem A1(n:Nat)(w:World)(hn:n<256) :
  Calls prog 173 #[.int .u8 (n:Int)] w fun e w'=>e = .returned (.bool (decide (192≤n∧n≤223)))∧w=w':=by
 by_cases h1:192≤n
 ·have HF:Hid (decide (192≤n∧n≤223)=decide ((n:Int)≤223)):=decide_eq_decide.2 Zo;have d1:decide ((192:Int)≤(n:Int))=true:=Ww Zo;rw[HF.o];clear HF;go_enter func173,ntmps173;go_wp2;go_ret;exact⟨rfl,rfl⟩
 ·have HF:Hid (decide (192≤n∧n≤223)=false):=Wz Zo;have d1:decide ((192:Int)≤(n:Int))=false:=Wz Zo;rw[HF.o];clear HF;go_enter func173,ntmps173;go_wp2;go_ret;exact⟨rfl,rfl⟩
theorem uZ(v:Value)(b:List UInt8)(p q:Int)(w:World)(hv:X5 w v b) :
  Calls prog 153 #[v,.int .i64 p,.int .i64 q] w fun e w'=>e = .returned (.int .u64 (get b p q:Nat))∧w=w':=by
 have CG:=Zh (NM v b p q w hv);clear hv;go_enter func153,ntmps153;go_wp2_with (go_at_call 155;refine CG.o.mono ?_;rintro e w' ⟨rfl,rfl⟩)
 go_ret;exact⟨rfl,rfl⟩
theorem Ee(v:Value)(b:List UInt8)(p:Nat)(w:World)(hv:X5 w v b)(hb:0<b.length)(hp:p≤1000) :
  Calls prog 174 #[v,.int .i64 p] w fun e w'=>e = .returned (.tuple (Q6 ((Vp b p).1.1:Nat) ((Vp b p).1.2:Nat) (Vp b p).2))∧w=w':=by
 have hlen:=hv.len;have CG:=Zh (NM v b ((p:Int)+2) 2 w hv);obtain⟨g,off,cap,rfl,_,_,hc⟩:=RI hv hb;have d0:=hc 0 hb;have d0':w.cell? ⟨g,off,none⟩=some (.int .u8 (at8 b 0:Int)):=d0;have hx:=Xj b 0;have ha:=kH (at8 b 0) hx;have HE:Hid (Vp b p=if at8 b 0/16%2=0 then((p,p),decide (p≤b.length))else((p+4,p+4+4*get b ((p:Int)+2) 2),within b.length ((p:Int)+2) 2&&decide (p+4+4*get b ((p:Int)+2) 2≤b.length))):=rfl;have hn:=U7 b ((p:Int)+2) 2 2 Zd;have hn:get b ((p:Int)+2) 2<65536:=hn;generalize Vp b p=X at *
 generalize get b ((p:Int)+2) 2=n at *
 clear hc hv;by_cases h0:at8 b 0/16%2=0
 ·have HF:Hid (X=((p,p),decide (p≤b.length))):=by show _=_;rw[HE.o,ZU h0]
  rw[h0]at ha;rw[HF.o];dsimp only at ha ⊢;clear HE HF h0 CG;generalize at8 b 0=x at *
  go_enter func174,ntmps174;go_wp2
  go_ret3
  exact⟨rfl,rfl⟩
 ·have h1:at8 b 0/16%2=1:=by omega
  have HF:Hid (X=((p+4,p+4+4*n),within b.length ((p:Int)+2) 2&&decide ((p:Int)+4+4*(n:Int)≤(b.length:Int)))):=by
   show _=_;rw[HE.o,Z3 h0];congr 2;exact decide_eq_decide.2 Zo
  rw[h1]at ha;rw[HF.o];dsimp only at ha ⊢;clear HE HF h0 h1;generalize at8 b 0=x at *
  cases hw:within b.length ((p:Int)+2) 2
  all_goals
   rw[hw]at CG;clear hw;go_enter func174,ntmps174;go_wp2_with (go_at_call 155;refine CG.o.mono ?_;rintro e w' ⟨rfl,rfl⟩)
   go_ret3
   exact⟨rfl,rfl⟩
theorem y9(v u:Value)(b r:List UInt8)(w:World)(hv:X5 w v b)(hu:X5 w u r)(hb:0<b.length) :
  Calls prog 175 #[v,u] w fun e w'=>e = .returned (.tuple (Jb ((RU b r).1:Nat) (RU b r).2))∧w=w':=by
 have hlen:=hv.len;have M0:=hu.len;obtain⟨g,off,cap,rfl,_,_,hc⟩:=RI hv hb;have d0:w.cell? ⟨g,off,none⟩=some (.int .u8 (at8 b 0:Int)):=hc 0 hb;have hx:=Xj b 0;have ha:=and_32 (at8 b 0) hx;have HE:Hid (RU b r=if at8 b 0/32%2=0 then(0,true)else if r.length=0 then(0,false)else if at8 r (r.length-1)=0∨r.length<at8 r (r.length-1)then(0,false)else if((r.drop (r.length-at8 r (r.length-1))).take (at8 r (r.length-1)-1)).all (fun x=>decide (x=0))then(at8 r (r.length-1),true)else(0,false)):=rfl;obtain⟨ua,uc,rfl,huc,-⟩:=id hu;have HU:=Zh hu;clear hc hv hu;generalize RU b r=X at *
 by_cases h0:at8 b 0/32%2=0
 ·have HF:Hid (X=(0,true)):=by show _=_;rw[HE.o,ZU h0]
  rw[h0]at ha;rw[HF.o];clear HE HF h0;generalize at8 b 0=x at *
  go_enter func175,ntmps175;go_wp2
  go_ret2
  exact⟨rfl,rfl⟩
 ·have h1:at8 b 0/32%2=1:=by omega
  have D4:Hid (X=if r.length=0 then(0,false)else if at8 r (r.length-1)=0∨r.length<at8 r (r.length-1)then(0,false)else if((r.drop (r.length-at8 r (r.length-1))).take (at8 r (r.length-1)-1)).all (fun x=>decide (x=0))then(at8 r (r.length-1),true)else(0,false)):=by show _=_;rw[HE.o,Z3 h0]
  rw[h1]at ha;clear HE h0 h1;generalize at8 b 0=x at *
  by_cases hr:r.length=0
  ·have HF:Hid (X=(0,false)):=by show _=_;rw[D4.o,ZU hr]
   rw[HF.o];rw[hr];clear D4 HF HU;go_enter func175,ntmps175;go_wp2
   go_ret2
   exact⟨rfl,rfl⟩
  ·obtain⟨m,hm⟩:∃m,r.length=m+1:=⟨r.length-1,Zo⟩;obtain⟨g2,yV,cap2,e1,_,_,zY⟩:=RI HU.o Zo;cases e1;have dl:=zY m Zo
   have HE3:Hid (X=if at8 r m=0∨r.length<at8 r m then(0,false)else if((r.drop (r.length-at8 r m)).take (at8 r m-1)).all (fun x=>decide (x=0))then(at8 r m,true)else(0,false)):=by
    show _=_;rw[D4.o,Z3 hr,show r.length-1=m by omega]
   have hk:=Xj r m;have HC:=Zh zY;have hrl:((r.length:Nat):Int)=(m:Int)+1:=by omega
   have iX:IntKind.i64.wrap ((m:Int)+1-1)=(m:Int):=by rw[show(m:Int)+1-1=(m:Int) by omega];exact Te _ Zo
   clear D4 hr zY;generalize dC:at8 r m=k at *
   by_cases YZ:k=0∨r.length<k
   ·have HF:Hid (X=(0,false)):=by show _=_;rw[HE3.o,ZU YZ]
    rw[HF.o];clear HE3 HF HU;rcases YZ with rfl|YZ
    all_goals
     go_enter func175,ntmps175;go_wp2
     go_ret2
     exact⟨rfl,rfl⟩
   ·have qd:1≤k:=by omega
    have Bb:k≤r.length:=by omega
    have HU2:XM w (.slice (some ⟨g2,yV,none⟩) (m+1) uc) (m+1) (Rx r):=by rw[←hm];exact HU.o
    obtain⟨a',Us,ZW⟩:=Wc VG (some ⟨g2,yV,none⟩) (m+1) uc (m+1-k) m Zo Zo Zo;have ZW:=ZW w (Rx r) (by rw[Xg];omega) HU2;have e1:m-(m+1-k)=k-1:=by omega
    have e2:((m+1-k:Nat):Int)=(m:Int)+1-(k:Int):=by omega
    rw[Nat.mul_one,Nat.mul_one,e1,QA,OH]at ZW;rw[e1,e2]at Us;have hql:((r.drop (m+1-k)).take (k-1)).length=k-1:=by rw[SY,Ra];omega
    have HF:Hid (X=if((r.drop (m+1-k)).take (k-1)).all (fun x=>decide (x=0))then(k,true)else(0,false)):=by show _=_;rw[HE3.o,Z3 YZ,hm]
    have hkI:(1:Int)≤(k:Int):=by omega
    have hkI2:(k:Int)≤(m:Int)+1:=by omega
    have Vc:=Zh ZW;have c1:decide ((m:Int)+1<(k:Int))=false:=Wz Zo;have c0:((k:Int)==0)=false:=by rw[WM];omega
    have Mj:m+1≤9223372036854775807:=by omega
    rw[hm];clear HE3 YZ ZW e1 e2 HC HU HU2 hrl iX M0 huc Bb dC;generalize(r.drop (m+1-k)).take (k-1)=s at *
    rw[←hql]at Us Vc;have hkm:k=s.length+1:=by omega
    have HKM:=Zh hkm;have hsb:s.length≤255:=by omega
    clear hql hkm hm;go_enter func175,ntmps175;go_wp2
    go_loop [42] (fun i=>∃j:Nat,j≤s.length∧i = .int .i64 j∧Hid ((s.take j).all (fun x=>decide (x=0))=true)) (fun i=>s.length-(intOf i).toNat)
    case atStart=>exact⟨0,TH _,rfl,rfl⟩
    case round=>
     obtain⟨j,hj,rfl,Uz⟩:=hrel;by_cases hjs:j<s.length
     ·obtain⟨g3,off3,cap3,e3,_,_,p7⟩:=AO (l:=s) Vc.o Zo;cases e3;have d:=p7 j hjs
      have iK:Hid ((s.take (j+1)).all (fun x=>decide (x=0))=decide (s[j]=0)):=by
       show _=_;rw[List.take_succ_eq_append_getElem hjs,List.all_append,Uz.o];simp
      have oH:Hid (s[j]≠0→s.all (fun x=>decide (x=0))=false):=fun h=>by
       rw[List.all_eq_false];exact⟨s[j],OC hjs,by simpa using h⟩
      clear p7;generalize s[j]=x at *
      by_cases P7:x=0
      ·have nU:Hid ((s.take (j+1)).all (fun x=>decide (x=0))=true):=by show _=_;rw[iK.o,P7];rfl
       have hz:(x.toNat:Int)=0:=by rw[P7];rfl
       rw[hz]at d;clear hz P7 iK oH Uz HF;go_wp2
       go_round
       case rel=>exact⟨j+1,Zo,Zn,nU⟩
       case measure=>simp[intOf];omega
      ·have hq:((x.toNat:Int)!=0)=true:=by
        rw[RH];intro e;exact P7 (UInt8.toNat_inj.1 (by simpa using e))
       have HX:Hid (X=(0,false)):=by show _=_;rw[HF.o,oH.o P7];rfl
       clear HF oH iK P7 Uz;go_wp2
       go_ret2
       exact⟨by rw[HX.o];rfl,rfl⟩
     ·obtain rfl:j=s.length:=by omega
      have HX:Hid (X=(k,true)):=by
       show _=_;have:=Uz.o;rw[EM Zo]at this;rw[HF.o,this];rfl
      clear HF Uz;go_wp2
      go_ret2
      exact⟨by rw[HX.o];rfl,rfl⟩
theorem fY(b:List UInt8)(p:Nat):(Vp b p).1.1≤p+4∧(Vp b p).1.2≤p+4+4*65535:=by
 have h:=U7 b ((p:Int)+2) 2 2 Zd;have h:get b ((p:Int)+2) 2<65536:=h;unfold Vp;split
 ·exact⟨by show p≤_;omega,by show p≤_;omega⟩
 ·exact⟨by show p+4≤_;omega,by show p+4+4*get b ((p:Int)+2) 2≤_;omega⟩
theorem fZ{b:List UInt8}{p:Nat}(h:(Vp b p).2=true):(Vp b p).1.2≤b.length∧(Vp b p).1.1≤(Vp b p).1.2:=by
 unfold Vp at h ⊢;split
 ·rename_i h0
  rw[ZU h0]at h;exact⟨of_decide_eq_true h,Zw _⟩
 ·rename_i h0
  rw[Z3 h0,UW]at h;exact⟨of_decide_eq_true h.2,by show p+4≤p+4+_;omega⟩
theorem iw{b r:List UInt8}(h:(RU b r).2=true):(RU b r).1≤r.length:=by
 unfold RU at h ⊢;by_cases h0:at8 b 0/32%2=0
 ·rw[ZU h0];exact TH _
 rw[Z3 h0]at h ⊢;by_cases h1:r.length=0
 ·rw[ZU h1]at h;cases h
 rw[Z3 h1]at h ⊢;dsimp only at h ⊢;by_cases h2:at8 r (r.length-1)=0∨r.length<at8 r (r.length-1)
 ·rw[ZU h2]at h;cases h
 rw[Z3 h2]at h ⊢;split
 ·show at8 r (r.length-1)≤_;omega
 ·exact TH _
theorem yS(v:Value)(b:List UInt8)(w:World)(hv:X5 w v b) :
  Calls prog 152 #[v] w fun e w'=>e = .returned (.tuple (Qo (Qn ((looks b).1.1:Nat) ((looks b).1.2.1:Nat) ((looks b).1.2.2:Nat)) (looks b).2))∧Below w w w':=by
 have hlen:=hv.len;have HV:Hid (∀w',Below w w w'→X5 w' v b):=fun w' h=>hv.below h
 have HE:Hid (looks b=if 512<b.length then((0,0,0),5)else if b.length<12 then((0,0,0),2)else if at8 b 0/64≠2 then((0,0,0),1)else if 192≤at8 b 1∧at8 b 1≤223 then((0,0,0),4)else if(Vp b (12+4*(at8 b 0%16))).2=false then((0,0,0),2)else if(RU b (b.drop (Vp b (12+4*(at8 b 0%16))).1.2)).2=false then((0,0,0),1)else(((Vp b (12+4*(at8 b 0%16))).1.1,(Vp b (12+4*(at8 b 0%16))).1.2,b.length-(RU b (b.drop (Vp b (12+4*(at8 b 0%16))).1.2)).1),0)):=rfl;obtain⟨a,c,rfl,RV,-⟩:=id hv;clear hv;generalize looks b=X at *
 by_cases h1:512<b.length
 ·obtain rfl:X=((0,0,0),5):=by rw[HE.o,ZU h1]
  clear HE HV;go_enter func152,ntmps152;go_wp2;exact VD (v:= .tuple (Qo (Qn 0 0 0) 5)) (by simp[results,results152,go_sem]) rfl ⟨rfl,Z' _ _⟩
 by_cases h2:b.length<12
 ·obtain rfl:X=((0,0,0),2):=by rw[HE.o,Z3 h1,ZU h2]
  clear HE HV;go_enter func152,ntmps152;go_wp2;exact cC
 have P7:=Xj b 0;have SF:=Xj b 1;have Uj:=Z' w (.cells (Qn 0 0 0) 238);have He:=Zh (HV.o _ Uj);obtain⟨g,off,cap,e1,_,_,hc⟩:=RI (HV.o w (YI _ _)) Zo;cases e1;obtain⟨_,_,_,e2,_,_,hca⟩:=RI He.o Zo;cases e2;have d0:(w.alloc (.cells (Qn 0 0 0) 238)).cell? ⟨g,off,none⟩=some (.int .u8 (at8 b 0:Int)):=hca 0 Zo;have d1:=hca 1 Zo;have Sv:=Zh Uj;clear hc hca Uj;have l1:decide ((512:Int)<(b.length:Int))=false:=Wz Zo;have l2:decide ((b.length:Int)<12)=false:=Wz Zo;by_cases h3:at8 b 0/64≠2
 ·obtain rfl:X=((0,0,0),1):=by rw[HE.o,Z3 h1,Z3 h2,ZU h3]
  have q:(((at8 b 0:Nat):Int)/64 !=2)=true:=by rw[RH];omega
  clear HE HV h3;go_enter func152,ntmps152;go_wp2;exact cD
 have q3:(((at8 b 0:Nat):Int)/64 !=2)=false:=by rw[bne_eq_false_iff_eq];omega
 have CF:=A1 (at8 b 1) (w.alloc (.cells (Qn 0 0 0) 238)) SF;by_cases h4:192≤at8 b 1∧at8 b 1≤223
 ·obtain rfl:X=((0,0,0),4):=by rw[HE.o,Z3 h1,Z3 h2,Z3 h3,ZU h4]
  rw[Ww h4]at CF;have bC:=Zh CF;clear HE HV h3 h4 CF;go_enter func152,ntmps152;go_wp2_with (go_at_call 173;refine bC.o.mono ?_;rintro e w' ⟨rfl,rfl⟩)
  exact VD (v:= .tuple (Qo (Qn 0 0 0) 4)) (by simp[results,results152,go_sem]) rfl ⟨rfl,Z' _ _⟩
 rw[Wz h4]at CF;have bC:=Zh CF;have ha:=kG (at8 b 0) P7;have hk16:at8 b 0%16<16:=by omega
 have ez:Hid (X=if(Vp b (12+4*(at8 b 0%16))).2=false then((0,0,0),2)else if(RU b (b.drop (Vp b (12+4*(at8 b 0%16))).1.2)).2=false then((0,0,0),1)else(((Vp b (12+4*(at8 b 0%16))).1.1,(Vp b (12+4*(at8 b 0%16))).1.2,b.length-(RU b (b.drop (Vp b (12+4*(at8 b 0%16))).1.2)).1),0)):=by
  show _=_;rw[HE.o,Z3 h1,Z3 h2,Z3 h3,Z3 h4]
 have CE:=Ee _ b (12+4*(at8 b 0%16)) _ He.o Zo Zo;have hle:=fY b (12+4*(at8 b 0%16));have Px:Hid ((Vp b (12+4*(at8 b 0%16))).2=true→(Vp b (12+4*(at8 b 0%16))).1.2≤b.length∧(Vp b (12+4*(at8 b 0%16))).1.1≤(Vp b (12+4*(at8 b 0%16))).1.2):=fZ;rw[show((12+4*(at8 b 0%16):Nat):Int)=12+4*((at8 b 0%16:Nat):Int) by omega]at CE;clear HE h3 h4 CF;generalize Vp b (12+4*(at8 b 0%16))=E at *
 generalize at8 b 0%16=k at *
 obtain⟨⟨xe,xf⟩,xo⟩:=E;dsimp only at *
 have jt:=Zh CE;clear CE;cases xo
 ·obtain rfl:X=((0,0,0),2):=by rw[ez.o,ZU rfl]
  clear ez HV Px;go_enter func152,ntmps152;go_wp2_with (first|(go_at_call 173;refine bC.o.mono ?_;rintro e w' ⟨rfl,rfl⟩)|(go_at_call 174;refine jt.o.mono ?_;rintro e w' ⟨rfl,rfl⟩))
  exact cC
 obtain⟨hf1,uA⟩:=Px.o rfl;obtain⟨a',Us,-,ZW⟩:=SI VG (some ⟨g,off,none⟩) b.length c xf hf1 RV;have ZW:=ZW _ (Rx b) (by rw[Xg];omega) He.o;rw[Nat.mul_one,QA]at ZW;have sy:(b.drop xf).length=b.length-xf:=Ra;rw[←sy]at ZW Us;have CP:=y9 _ _ b (b.drop xf) _ He.o ZW Zo;have tK:Hid ((RU b (b.drop xf)).2=true→(RU b (b.drop xf)).1≤(b.drop xf).length):=iw;have HE6:Hid (X=if(RU b (b.drop xf)).2=false then((0,0,0),1)else((xe,xf,b.length-(RU b (b.drop xf)).1),0)):=by show _=_;rw[ez.o,Z3 Zd]
 have HCP:=Zh CP;have hdl2:(b.drop xf).length≤b.length:=by omega
 clear ez Px ZW CP sy;generalize RU b (b.drop xf)=Y at *
 generalize(b.drop xf).length=dl at *
 obtain⟨yn,yo⟩:=Y;dsimp only at *
 cases yo
 ·obtain rfl:X=((0,0,0),1):=by rw[HE6.o,ZU rfl]
  clear HE6 HV tK;go_enter func152,ntmps152;go_wp2_with (first|(go_at_call 173;refine bC.o.mono ?_;rintro e w' ⟨rfl,rfl⟩)|(go_at_call 174;refine jt.o.mono ?_;rintro e w' ⟨rfl,rfl⟩)|(go_at_call 175;refine HCP.o.mono ?_;rintro e w' ⟨rfl,rfl⟩))
  exact cD
 have hyl:=tK.o rfl;obtain rfl:X=((xe,xf,b.length-yn),0):=by rw[HE6.o,Z3 Zd]
 dsimp only;rw[show((b.length-yn:Nat):Int)=(b.length:Int)-(yn:Int) by omega];have hyn:(yn:Int)≤(b.length:Int):=by omega
 clear HE6 HV tK;go_enter func152,ntmps152;go_wp2_with (first|(go_at_call 173;refine bC.o.mono ?_;rintro e w' ⟨rfl,rfl⟩)|(go_at_call 174;refine jt.o.mono ?_;rintro e w' ⟨rfl,rfl⟩)|(go_at_call 175;refine HCP.o.mono ?_;rintro e w' ⟨rfl,rfl⟩))
 exact VD (v:= .tuple (Qo (Qn xe xf ((b.length:Int)-(yn:Int))) 0)) (by simp[results,results152,go_sem]) rfl ⟨rfl,Z' _ _⟩
end Go.Proofs.By
namespace Go.Proofs.By
structure oD where
 Yl:Int
 lost:Int
 total:Int
 high:Int
 aT:Int
 last:Int
 delay:Int
structure Ru where
 kind:Int
 Yl:Int
 Ep:Int
 time:Int
 Wk:Int
 octets:Int
 blocks:List oD
 gone:List Int
 XT:Int
 Xo:List (Int×Int)
def XP:Ru:=⟨0,0,0,0,0,0,[],[],0,[]⟩
def NG(b:List UInt8)(p:Nat):oD:=⟨get b p 4,get b (p+4:Nat) 1,get b (p+5:Nat) 3,get b (p+8:Nat) 4,get b (p+12:Nat) 4,get b (p+16:Nat) 4,get b (p+20:Nat) 4⟩
def UR(k n:Nat):Nat:=8+24*n+if k=200 then 20 else 0
def right(b:List UInt8):Nat×Int:=
 if b.length<4 then(0,2)
 else if at8 b 0/32≠4 then(0,1)
 else if at8 b 1≠200∧at8 b 1≠201 then(0,4)
 else if 15<at8 b 0%32∨(get b 2 2+1)*4≠UR (at8 b 1) (at8 b 0%32)then(0,1)
 else if b.length<UR (at8 b 1) (at8 b 0%32)then(0,2)
 else(UR (at8 b 1) (at8 b 0%32),0)
def report(b:List UInt8):Ru where
 kind:=at8 b 1
 Yl:=get b 4 4
 Ep:=if at8 b 1=200 then(get b 8 8:Int)else 0
 time:=if at8 b 1=200 then(get b 16 4:Int)else 0
 Wk:=if at8 b 1=200 then(get b 20 4:Int)else 0
 octets:=if at8 b 1=200 then(get b 24 4:Int)else 0
 blocks:=(List.range (at8 b 0%32)).map fun(i:Nat)=>NG b ((if at8 b 1=200 then 28 else 8)+24*i)
 gone:=[]
 XT:=0
 Xo:=[]
def XV(b:List UInt8):(Ru×Nat)×Int:=if(right b).2≠0 then((XP,0),(right b).2)else((report b,(right b).1),0)
def Xr(b:List UInt8):Nat×Bool:=
 if at8 b 1=200∨at8 b 1=201∨at8 b 1=203 then(at8 b 1,true)
 else if at8 b 1=205∨at8 b 1=206 then(at8 b 1,decide (at8 b 0%32=1))else(0,false)
def XG(b:List UInt8)(k:Nat):Nat×Bool:=
 let n:=(get b 2 2+1)*4
 if k=203 then(n,decide (1≤at8 b 0%32)&&decide (at8 b 0%32≤15)&&decide (n=4+4*(at8 b 0%32)))
 else if k=205 then(n,decide (16≤n)&&decide (n≤76))else(n,decide (n=12))
def XR(b:List UInt8)(p:Nat):List Nat:=(List.range ((b.length-p)/4)).map fun(i:Nat)=>get b (p+4*i:Nat) 4
def parts(b:List UInt8)(k:Nat):Ru:=
 if k=203 then{XP with kind:=203,gone:=(XR b 4).map fun(n:Nat)=>(n:Int)}
 else{XP with kind:=k,Yl:=get b 4 4,XT:=get b 8 4,Xo:=(XR b 12).map fun(n:Nat)=>(((n/65536:Nat):Int),((n%65536:Nat):Int))}
def Y5(b:List UInt8):(Ru×Nat)×Int:=
 if b.length<4 then((XP,0),2)
 else if at8 b 0/32≠4 then((XP,0),1)
 else if(Xr b).2=false then((XP,0),4)
 else if(Xr b).1=200∨(Xr b).1=201 then XV b
 else
  let n:=XG b (Xr b).1
  if n.2=false then((XP,0),1)
  else if b.length<n.1 then((XP,0),2)
  else((parts (b.take n.1) (Xr b).1,n.1),0)
def YE:Nat→List UInt8→List Ru×Int
 | 0,_=>([],3)
 | k+1,b=>
  if(Y5 b).2≠0 then([],(Y5 b).2)
  else if b.length-(Y5 b).1.2=0 then([(Y5 b).1.1],0)
  else
   let r:=YE k (b.drop (Y5 b).1.2)
   if r.2≠0 then([],r.2)else((Y5 b).1.1 :: r.1,0)
def Yq(b:List UInt8):List Ru×Int:=if 512<b.length then([],5)else YE 8 b
inductive Ev
 | none
 | XT (p:J4) (d:EK)
 | Yb (l:List Ru)
def XY(b:List UInt8):Ev×Int:=
 if 512<b.length then(.none,5)
 else if b.length<2 then(.none,2)
 else if 192≤at8 b 1∧at8 b 1≤223 then(if(Yq b).2≠0 then(.none,(Yq b).2)else(.Yb (Yq b).1,0))
 else if(YM b).2≠0 then(.none,(YM b).2)
 else if(Yz (YM b).1.ZE).2≠0 then(.none,(Yz (YM b).1.ZE).2)
 else(.XT (YM b).1 (Yz (YM b).1.ZE).1,0)
open Go.RowKit Go.Proofs.Heap
theorem OG{B:Nat}{a w:World}(h:Below B a w):∀q,Below B a (w.drewN q)
 | 0=>h
 | q+1=>(OG h q).drew
theorem qE(k:Int)(w:World):Calls prog 191 #[.int .i64 k] w fun e w'=>e = .returned (.bool (decide (k=200∨k=201)))∧w=w':=by
 by_cases h0:k=200
 ·subst h0;go_enter func191,ntmps191;go_wp2;go_ret;exact⟨rfl,rfl⟩
 ·by_cases h1:k=201
  ·subst h1;go_enter func191,ntmps191;go_wp2;go_ret;exact⟨rfl,rfl⟩
  ·have HF:Hid (decide (k=200∨k=201)=false):=Wz Zo;have b0:(k==200)=false:=by rw[WM];exact h0
   have b1:(k==201)=false:=by rw[WM];exact h1
   rw[HF.o];clear HF h0 h1;go_enter func191,ntmps191;go_wp2;go_ret;exact⟨rfl,rfl⟩
theorem rp(k n:Nat)(w:World)(hn:n≤1000):Calls prog 192 (Q4 (k:Int) (n:Int)) w fun e w'=>e = .returned (.int .i64 (UR k n:Nat))∧w=w':=by
 by_cases h0:k=200
 ·subst h0;have HF:Hid (((UR 200 n:Nat):Int)=8+24*(n:Int)+20):=by show _=_;unfold UR;rw[ZU rfl];omega
  rw[HF.o];clear HF;go_enter func192,ntmps192;go_wp2;go_ret;exact⟨rfl,rfl⟩
 ·have HF:Hid (((UR k n:Nat):Int)=8+24*(n:Int)):=by show _=_;unfold UR;rw[Z3 h0];omega
  have b0:((k:Int)==200)=false:=by rw[WM];omega
  rw[HF.o];clear HF h0;go_enter func192,ntmps192;go_wp2;go_ret;exact⟨rfl,rfl⟩
def OM(k n:Nat):Nat:=if k=203 then 4+4*n else if k=205 then 12+4*n else 12
theorem Ms(k n:Nat)(w:World)(hn:n≤1000):Calls prog 182 (Q4 (k:Int) (n:Int)) w fun e w'=>e = .returned (.int .i64 (OM k n:Nat))∧w=w':=by
 by_cases h0:k=203
 ·subst h0;have HF:Hid (((OM 203 n:Nat):Int)=4+4*(n:Int)):=by show _=_;unfold OM;rw[ZU rfl];omega
  rw[HF.o];clear HF;go_enter func182,ntmps182;go_wp2;go_ret;exact⟨rfl,rfl⟩
 ·have b0:((k:Int)==203)=false:=by rw[WM];omega
  by_cases h1:k=205
  ·subst h1;have HF:Hid (((OM 205 n:Nat):Int)=12+4*(n:Int)):=by show _=_;unfold OM;rw[Z3 Zd,ZU rfl];omega
   rw[HF.o];clear HF;go_enter func182,ntmps182;go_wp2;go_ret;exact⟨rfl,rfl⟩
  ·have HF:Hid (((OM k n:Nat):Int)=12):=by show _=_;unfold OM;rw[Z3 h0,Z3 h1];rfl
   have b1:((k:Int)==205)=false:=by rw[WM];omega
   rw[HF.o];clear HF h0 h1;go_enter func182,ntmps182;go_wp2;go_ret;exact⟨rfl,rfl⟩
theorem PC(v:Value)(b:List UInt8)(p:Int)(w:World)(hv:X5 w v b) :
  Calls prog 183 #[v,.int .i64 p] w fun e w'=>e = .returned (.int .u32 (get b p 4:Nat))∧w=w':=by
 have CG:=Zh (NM v b p 4 w hv);have hn:get b p 4<4294967296:=U7 b p 4 4 Zd;clear hv;generalize get b p 4=n at *
 go_enter func183,ntmps183;go_wp2_with (go_at_call 155;refine CG.o.mono ?_;rintro e w' ⟨rfl,rfl⟩)
 go_ret;exact⟨rfl,rfl⟩
theorem qx(v:Value)(b:List UInt8)(w:World)(hv:X5 w v b)(hb:2≤b.length) :
  Calls prog 169 #[v] w fun e w'=>e = .returned (.tuple (Jb ((Xr b).1:Nat) (Xr b).2))∧Below w w w':=by
 have hlen:=hv.len;have HE:Hid (Xr b=if at8 b 1=200∨at8 b 1=201∨at8 b 1=203 then(at8 b 1,true)else if at8 b 1=205∨at8 b 1=206 then(at8 b 1,decide (at8 b 0%32=1))else(0,false)):=rfl;obtain⟨g,off,cap,rfl,_,_,hc⟩:=RI hv Zo;have d0:w.cell? ⟨g,off,none⟩=some (.int .u8 (at8 b 0:Int)):=hc 0 Zo;have d1:=hc 1 Zo;have ha:=AK (at8 b 0) (Xj b 0);have SF:=Xj b 1;have Xz:=YI w w;clear hc hv;generalize Xr b=X at *
 generalize at8 b 0%32=m at *
 generalize at8 b 1=k at *
 by_cases h1:k=200∨k=201∨k=203
 ·obtain rfl:X=(k,true):=by rw[HE.o,ZU h1]
  clear HE;rcases h1 with rfl|rfl|rfl
  all_goals
   go_enter func169,ntmps169;go_wp2
   go_ret2
   exact⟨rfl,Xz⟩
 ·by_cases h2:k=205∨k=206
  ·obtain rfl:X=(k,decide (m=1)):=by rw[HE.o,Z3 h1,ZU h2]
   clear HE h1;have HM:Hid (decide (m=1)=((m:Int)==1)):=by show _=_;rw[Bool.eq_iff_iff];simp;omega
   dsimp only;rw[HM.o];rcases h2 with rfl|rfl
   all_goals
    go_enter func169,ntmps169;go_wp2;go_quiet (fail)
    go_wp2
    go_ret2
    exact⟨rfl,OG Xz _⟩
  ·obtain rfl:X=(0,false):=by rw[HE.o,Z3 h1,Z3 h2]
   have b0:((k:Int)==200)=false:=by rw[WM];omega
   have b1:((k:Int)==201)=false:=by rw[WM];omega
   have b3:((k:Int)==203)=false:=by rw[WM];omega
   have b5:((k:Int)==205)=false:=by rw[WM];omega
   have b6:((k:Int)==206)=false:=by rw[WM];omega
   clear HE h1 h2;go_enter func169,ntmps169;go_wp2
   go_ret2
   exact⟨rfl,Xz⟩
theorem DD(v:Value)(b:List UInt8)(w:World)(hv:X5 w v b) :
  Calls prog 179 #[v] w fun e w'=>e = .returned (.tuple (Q4 ((right b).1:Nat) (right b).2))∧Below w w w':=by
 have hlen:=hv.len;have HE:Hid (right b=if b.length<4 then(0,2)else if at8 b 0/32≠4 then(0,1)else if at8 b 1≠200∧at8 b 1≠201 then(0,4)else if 15<at8 b 0%32∨(get b 2 2+1)*4≠UR (at8 b 1) (at8 b 0%32)then(0,1)else if b.length<UR (at8 b 1) (at8 b 0%32)then(0,2)else(UR (at8 b 1) (at8 b 0%32),0)):=rfl;have CG:=NM v b 2 2 w hv;obtain⟨a,c,rfl,RV,-⟩:=id hv;have Xz:=YI w w;generalize right b=X at *
 by_cases h1:b.length<4
 ·obtain rfl:X=(0,2):=by rw[HE.o,ZU h1]
  clear HE CG hv;go_enter func179,ntmps179;go_wp2
  go_ret2
  exact⟨rfl,Xz⟩
 obtain⟨g,off,cap,e1,_,_,hc⟩:=RI hv Zo;cases e1;have d0:w.cell? ⟨g,off,none⟩=some (.int .u8 (at8 b 0:Int)):=hc 0 Zo;have d1:=hc 1 Zo;have P7:=Xj b 0;have SF:=Xj b 1;have ha:=AK (at8 b 0) P7;have hn:get b 2 2<65536:=U7 b 2 2 2 Zd;have l1:decide ((b.length:Int)<4)=false:=Wz Zo;have nR:=Zh CG;clear hc hv CG;by_cases h2:at8 b 0/32≠4
 ·obtain rfl:X=(0,1):=by rw[HE.o,Z3 h1,ZU h2]
  have q:(((at8 b 0:Nat):Int)/32 !=4)=true:=by rw[RH];omega
  clear HE h2;go_enter func179,ntmps179;go_wp2
  go_ret2
  exact⟨rfl,Xz⟩
 have q2:(((at8 b 0:Nat):Int)/32 !=4)=false:=by rw[bne_eq_false_iff_eq];omega
 have CK:=qE (at8 b 1:Nat) w;by_cases h3:at8 b 1≠200∧at8 b 1≠201
 ·obtain rfl:X=(0,4):=by rw[HE.o,Z3 h1,Z3 h2,ZU h3]
  rw[Wz (show¬(((at8 b 1:Nat):Int)=200∨((at8 b 1:Nat):Int)=201) by omega)]at CK;have HCK:=Zh CK;clear HE h2 h3 CK;go_enter func179,ntmps179;go_wp2_with (go_at_call 191;refine HCK.o.mono ?_;rintro e w' ⟨rfl,rfl⟩)
  go_ret2
  exact⟨rfl,Xz⟩
 rw[Ww (show(((at8 b 1:Nat):Int)=200∨((at8 b 1:Nat):Int)=201) by omega)]at CK;have HCK:=Zh CK;have CS:Hid (∀w,Calls prog 192 (Q4 ((at8 b 1:Nat):Int) ((at8 b 0%32:Nat):Int)) w fun e w'=>e = .returned (.int .i64 (UR (at8 b 1) (at8 b 0%32):Nat))∧w=w'):=fun w=>rp _ _ w Zo
 have TP:UR (at8 b 1) (at8 b 0%32)≤1000:=by unfold UR;split <;> omega
 have hm:at8 b 0%32<32:=by omega
 have HE4:Hid (X=if 15<at8 b 0%32∨(get b 2 2+1)*4≠UR (at8 b 1) (at8 b 0%32)then(0,1)else if b.length<UR (at8 b 1) (at8 b 0%32)then(0,2)else(UR (at8 b 1) (at8 b 0%32),0)):=by show _=_;rw[HE.o,Z3 h1,Z3 h2,Z3 h3]
 clear HE h2 h3 CK;generalize UR (at8 b 1) (at8 b 0%32)=z at *
 generalize at8 b 0%32=m at *
 generalize get b 2 2=n at *
 by_cases h4:15<m∨(n+1)*4≠z
 ·obtain rfl:X=(0,1):=by rw[HE4.o,ZU h4]
  clear HE4;by_cases h5:15<m
  ·have q5:decide ((15:Int)<(m:Int))=true:=Ww Zo;clear h4;exact fD
  ·have q5:decide ((15:Int)<(m:Int))=false:=Wz Zo;have q6:(((n:Int)+1)*4 !=(z:Int))=true:=by rw[RH];omega
   clear h4;exact fD
 ·have q5:decide ((15:Int)<(m:Int))=false:=Wz Zo;have q6:(((n:Int)+1)*4 !=(z:Int))=false:=by rw[bne_eq_false_iff_eq];omega
  have ez:Hid (X=if b.length<z then(0,2)else(z,0)):=by show _=_;rw[HE4.o,Z3 h4]
  clear HE4 h4;by_cases h5:b.length<z
  ·obtain rfl:X=(0,2):=by rw[ez.o,ZU h5]
   have q7:decide ((b.length:Int)<(z:Int))=true:=Ww Zo;clear ez;exact fD
  ·obtain rfl:X=(z,0):=by rw[ez.o,Z3 h5]
   have q7:decide ((b.length:Int)<(z:Int))=false:=Wz Zo;clear ez;exact fD
end Go.Proofs.By
namespace Go.Proofs.By
open Go.RowKit Go.Proofs.Heap
theorem Lj(v:Value)(l:List UInt8)(w:World)(hv:X5 w v l)(hl:l.length≤1000000) :
  Calls prog 154 #[v] w fun e w'=>(∃v',e = .returned v'∧Row w' 5 v' l.length (Rx l))∧Below w w w':=by
 obtain⟨a,cap,rfl,SF,NK,SQ,Li⟩:=id hv;have HV:=Zh hv;have HN:=Zh SQ;clear hv Li SF NK SQ;cases a with
 | none=>
  obtain⟨h1,h2⟩:=HN.o rfl;have HL:Hid (l=[]):=AH h1;have he:=fun w=>Lib.run_eql_slice_nil (P:=prog) w 30 5 none l.length cap 0 0 underlying30
  clear h1 h2;go_enter func154,ntmps154;go_wp2;go_ret;exact⟨⟨_,rfl,by rw[HL.o];exact Row.nil _ _⟩,YI _ _⟩
 | some a=>
  have he:=fun w=>Lib.run_eql_slice_nil (P:=prog) w 30 5 (some a) l.length cap 0 0 underlying30
  clear HN;go_enter func154,ntmps154;go_wp2_with (at_builtin;refine PU rfl (.tmp 5) (.tmp 6) 30 rfl w VG _ 0 [] rfl (SG w 5 1) _ l.length (Rx l) rfl (HV.o.below (Z' _ _)) (by rw[Xg];omega) (AR l) Zo Zo Zi (fun v' w1 HO HG=>?_))
  go_ret
  have hb:=((Fr.refl w Pz w).alloc (Zw _) (.cells #[] 5)).grown HG.o Zi (by
   intro k hk;have hk:some w.heap.size=some k:=hk;cases hk
   exact Zw _)
  refine⟨⟨_,rfl,?_⟩,hb.below⟩;have:=Row.Z4 HO.o
  rwa[PW,Hz]at this
def TJ(w:World)(k:Nat)(v:Value)(p:Nat):Prop:=w.heap[k]?=some (.cells #[v,.int .i64 (p:Int)] 264)
theorem TJ.lt{w:World}{k:Nat}{v:Value}{p:Nat}(h:TJ w k v p):k<w.heap.size:=by
 rcases Nat.lt_or_ge k w with h1|h1
 ·exact h1
 ·unfold TJ at h;rw[D_ h1]at h;cases h
theorem TJ.cells{w:World}{k:Nat}{v:Value}{p:Nat}(h:TJ w k v p):w.cell? ⟨k,0,none⟩=some v∧w.cell? ⟨k,1,none⟩=some (.int .i64 (p:Int))∧w.frozen? ⟨k,1,none⟩=false:=by
 unfold TJ at h;refine⟨?_,?_,?_⟩
 ·simp only[World.cell?,h];rfl
 ·simp only[World.cell?,h];rfl
 ·simp[World.frozen?,h]
theorem TJ.set{w:World}{k:Nat}{v:Value}{p:Nat}(h:TJ w k v p)(q:Nat):TJ (w.setCell ⟨k,1,none⟩ (.int .i64 (q:Int))) k v q:=by
 unfold TJ at h ⊢;simp[World.setCell,Array.getElem?_modify,h]
theorem heap_drewN(w:World):∀n,(w.drewN n).heap=w.heap
 | 0=>rfl
 | n+1=>heap_drewN w n
theorem Fk(k:Nat)(v:Value)(b:List UInt8)(p q:Nat)(w:World)(hE:TJ w k v p)(hv:X5 w v b)(hp:p≤100000)(hq:q≤100) :
  Calls prog 181 (Qj (some ⟨k,0,none⟩) (q:Int)) w fun e w'=>e = .returned (.int .u64 (get b p q:Nat))∧TJ w' k v (p+q)∧Fr w (· = k) w w':=by
 have CG:Hid (∀n,Calls prog 155 #[v,.int .i64 (p:Int),.int .i64 (q:Int)] (w.drewN n) fun e w'=>e = .returned (.tuple (Jn (get b p q:Nat) (within b.length p q)))∧w'=w.drewN n):=
  fun n=>(NM v b p q (w.drewN n) (hv.below (OG (YI _ _) n))).mono fun _ _ h=>⟨h.1,h.2.symm⟩
 obtain⟨c0,c1,f1⟩:=hE.cells;have HE:=Zh hE;clear hv hE;generalize get b p q=n at *
 generalize within b.length p q=x at *
 go_enter func181,ntmps181;go_wp2;go_quiet ((go_at_call 155;exact Calls.quiet_of_same (CG.o _)))
 go_wp2;go_ret;refine⟨rfl,?_,?_⟩
 ·refine TJ.set (p:=p) ?_ (p+q);unfold TJ;rw[heap_drewN];exact HE.o
 ·exact(Fr.Z6 _ (OG (YI _ _) _)).setAt 1 _
theorem IZ(k:Nat)(v:Value)(b:List UInt8)(p:Nat)(w:World)(hE:TJ w k v p)(hv:X5 w v b)(hp:p≤100000) :
  Calls prog 180 #[.pointer (some ⟨k,0,none⟩)] w fun e w'=>e = .returned (.int .u32 (get b p 4:Nat))∧TJ w' k v (p+4)∧Fr w (· = k) w w':=by
 have CG:=Zh (Fk k v b p 4 w hE hv hp Zo);have hn:get b p 4<4294967296:=U7 b p 4 4 Zd;clear hv hE;have CG:Hid (Calls prog 181 (Qj (some ⟨k,0,none⟩) 4) w fun e w'=>e = .returned (.int .u64 (get b p 4:Nat))∧TJ w' k v (p+4)∧Fr w (· = k) w w'):=CG.o;generalize get b p 4=n at *
 go_enter func180,ntmps180;go_wp2_with (go_at_call 181;refine CG.o.mono ?_;rintro e w' ⟨rfl,he,hf⟩)
 go_ret;exact⟨rfl,he,hf⟩
theorem yI(v:Value)(b:List UInt8)(k:Nat)(w:World)(hv:X5 w v b)(hb:4≤b.length) :
  Calls prog 171 #[v,.int .i64 (k:Int)] w fun e w'=>e = .returned (.tuple (Jb ((XG b k).1:Nat) (XG b k).2))∧w=w':=by
 have hlen:=hv.len;have CG:=Zh (NM v b 2 2 w hv);have hn:get b 2 2<65536:=U7 b 2 2 2 Zd;obtain⟨g,off,cap,rfl,_,_,hc⟩:=RI hv Zo;have d0:w.cell? ⟨g,off,none⟩=some (.int .u8 (at8 b 0:Int)):=hc 0 Zo;have ha:=AK (at8 b 0) (Xj b 0);have hm:at8 b 0%32<32:=by omega
 have HE:Hid (XG b k=if k=203 then((get b 2 2+1)*4,decide (1≤at8 b 0%32)&&decide (at8 b 0%32≤15)&&decide ((get b 2 2+1)*4=4+4*(at8 b 0%32)))else if k=205 then((get b 2 2+1)*4,decide (16≤(get b 2 2+1)*4)&&decide ((get b 2 2+1)*4≤76))else((get b 2 2+1)*4,decide ((get b 2 2+1)*4=12))):=rfl;have TN:∀n,OM 203 n=4+4*n:=fun n=>by unfold OM;rw[ZU rfl]
 clear hc hv;generalize XG b k=X at *
 generalize at8 b 0%32=m at *
 generalize get b 2 2=n at *
 have en:(((n+1)*4:Nat):Int)=((n:Int)+1)*4:=by omega
 by_cases h0:k=203
 ·subst h0;have CZ:=Ms 203 m w Zo;rw[TN,show((4+4*m:Nat):Int)=4+4*(m:Int) by omega]at CZ;have HCZ:=Zh CZ;have HF:Hid (X=((n+1)*4,decide (1≤m)&&decide (m≤15)&&decide ((n+1)*4=4+4*m))):=by show _=_;rw[HE.o,ZU rfl]
  clear HE CZ TN;by_cases h1:1≤m
  ·have q1:decide ((1:Int)≤(m:Int))=true:=Ww Zo;by_cases h2:m≤15
   ·have q2:decide ((m:Int)≤15)=true:=Ww Zo
    have HX:Hid (X=((n+1)*4,(((n:Int)+1)*4==4+4*(m:Int)))):=by
     show _=_;rw[HF.o,Ww h1,Ww h2];simp only[Bool.true_and];congr 1
     rw[Bool.eq_iff_iff,Sz,beq_iff_eq];omega
    rw[HX.o];dsimp only;rw[en];clear HF HX h1 h2 en;exact bP
   ·have q2:decide ((m:Int)≤15)=false:=Wz Zo;have HX:Hid (X=((n+1)*4,false)):=by show _=_;rw[HF.o,Wz h2];simp
    rw[HX.o];dsimp only;rw[en];clear HF HX h1 h2 en HCZ;exact ct
  ·have q1:decide ((1:Int)≤(m:Int))=false:=Wz Zo;have HX:Hid (X=((n+1)*4,false)):=by show _=_;rw[HF.o,Wz h1];simp
   rw[HX.o];dsimp only;rw[en];clear HF HX h1 en HCZ;exact ct
 ·have b0:((k:Int)==203)=false:=by rw[WM];omega
  by_cases h1:k=205
  ·subst h1;have C1:=Ms 205 1 w Zo;have C2:=Ms 205 16 w Zo;rw[show OM 205 1=16 from rfl]at C1;rw[show OM 205 16=76 from rfl]at C2;have GF:=Zh C1;have GG:=Zh C2;have HF:Hid (X=((n+1)*4,decide (16≤(n+1)*4)&&decide ((n+1)*4≤76))):=by show _=_;rw[HE.o,Z3 Zd,ZU rfl]
   clear HE C1 C2 TN;by_cases h2:16≤(n+1)*4
   ·have q1:decide ((16:Int)≤((n:Int)+1)*4)=true:=Ww Zo
    have HX:Hid (X=((n+1)*4,decide (((n:Int)+1)*4≤76))):=by
     show _=_;rw[HF.o,Ww h2];simp only[Bool.true_and];congr 1;exact decide_eq_decide.2 Zo
    rw[HX.o];dsimp only;rw[en];clear HF HX h2 en;go_enter func171,ntmps171;go_wp2_with fail
    refine CG.o.mono ?_;rintro e w' ⟨rfl,rfl⟩;go_wp2_with fail
    refine GF.o.mono ?_;rintro e w' ⟨rfl,rfl⟩;go_wp2_with fail
    refine GG.o.mono ?_;rintro e w' ⟨rfl,rfl⟩;go_wp2_with fail
    go_ret2
    exact⟨rfl,rfl⟩
   ·have q1:decide ((16:Int)≤((n:Int)+1)*4)=false:=Wz Zo;have HX:Hid (X=((n+1)*4,false)):=by show _=_;rw[HF.o,Wz h2];simp
    rw[HX.o];dsimp only;rw[en];clear HF HX h2 en GG;go_enter func171,ntmps171;go_wp2_with fail
    refine CG.o.mono ?_;rintro e w' ⟨rfl,rfl⟩;go_wp2_with fail
    refine GF.o.mono ?_;rintro e w' ⟨rfl,rfl⟩;go_wp2_with fail
    go_ret2
    exact⟨rfl,rfl⟩
  ·have b1:((k:Int)==205)=false:=by rw[WM];omega
   have CZ:=Ms k 0 w Zo;rw[show OM k 0=12 by unfold OM;rw[Z3 h0,Z3 h1]]at CZ;have HCZ:=Zh CZ
   have HX:Hid (X=((n+1)*4,(((n:Int)+1)*4==12))):=by
    show _=_;rw[HE.o,Z3 h0,Z3 h1];congr 1
    rw[Bool.eq_iff_iff,Sz,beq_iff_eq];omega
   rw[HX.o];dsimp only;rw[en];clear HE HX h0 h1 en CZ TN;exact bP
end Go.Proofs.By
namespace Go.Proofs.By
open Go.RowKit Go.Proofs.Heap
def YN(l:List Int):List Value:=l.map (Value.int .u32)
def Wb(p:Int×Int):List Value:=(Qy p.1 p.2)
def W_(x:oD):List Value:=(Qs x.Yl x.lost x.total x.high x.aT x.last x.delay)
theorem Vo:Elem prog 29 66 1 4:=⟨underlying29,⟨.int .u32 0,by kernel_rfl,rfl⟩,by decide⟩
theorem Kj:Elem prog 171 226 2 4:=⟨underlying171,⟨.agg (Qy 0 0),by kernel_rfl,rfl⟩,by decide⟩
def aS(i:Ru)(bv gv pv:Value):Value:= .agg #[.int .i64 i.kind,.int .u32 i.Yl,.int .u64 i.Ep,.int .u32 i.time,.int .u32 i.Wk,.int .u32 i.octets,bv,gv,.int .u32 i.XT,pv]
structure S4(w:World)(v:Value)(i:Ru):Prop where
 ex:∃bv gv pv,v=aS i bv gv pv∧Row w 228 bv i.blocks.length (i.blocks.flatMap W_)∧Row w 66 gv i.gone.length (YN i.gone)∧Row w 226 pv i.Xo.length (i.Xo.flatMap Wb)
abbrev Vt(k s m:Int)(gv pv:Value):Array Value:=#[.int .i64 k,.int .u32 s,.int .u64 0,.int .u32 0,.int .u32 0,.int .u32 0,.slice none 0 0,gv,.int .u32 m,pv]
structure PB(w w':World)(k s m:Int)(gv pv:Value):Prop where
 Zf:Below w w w'
 ub:w'.heap[w.heap.size]?=some (.cells (Vt 0 0 0 (.slice none 0 0) (.slice none 0 0)) 173)
 Y8:w'.heap[w.heap.size+1]?=some (.cells (Vt k s m gv pv) 173)
theorem PB.size{w w':World}{k s m:Int}{gv pv:Value}(h:PB w w' k s m gv pv):w.heap.size+1<w'.heap.size:=by
 rcases Nat.lt_or_ge (w.heap.size+1) w' with h1|h1
 ·exact h1
 ·have:=h.Y8;rw[D_ h1]at this;cases this
theorem PB.below{w w1 w':World}{k s m:Int}{gv pv:Value}(h:PB w w1 k s m gv pv)(hb:Below w1 w1 w'):PB w w' k s m gv pv:=by
 have hs:=h.size;exact⟨h.Zf.trans (hb.mono Zo),by rw[hb.block _ Zo];exact h.ub,by rw[hb.block _ hs];exact h.Y8⟩
theorem PB.grown{w w1 w':World}{k s m:Int}{gv pv:Value}(h:PB w w1 k s m gv pv){row:Option Nat}(hg:w1.grownBy w' row)(hr:∀j,row=some j→w.heap.size+2≤j):PB w w' k s m gv pv:=by
 have hs:=h.size;refine⟨h.Zf.trans ⟨hg.os,hg.tape,hg.output,hg.size,fun j hj=>hg.block j Zo (fun e=>by have:=hr j e.symm;omega)⟩,?_,?_⟩
 ·rw[hg.block _ Zo (fun e=>by have:=hr _ e.symm;omega)];exact h.ub
 ·rw[hg.block _ hs (fun e=>by have:=hr _ e.symm;omega)];exact h.Y8
theorem PB.cell{w w':World}{k s m:Int}{gv pv:Value}(h:PB w w' k s m gv pv)(j:Nat):w'.cell? ⟨w.heap.size+1,j,none⟩=(Vt k s m gv pv)[j]?:=by
 have:=h.Y8;simp only[World.cell?,this];rfl
theorem PB.frozen{w w':World}{k s m:Int}{gv pv:Value}(h:PB w w' k s m gv pv)(j:Nat):w'.frozen? ⟨w.heap.size+1,j,none⟩=false:=by
 have:=h.Y8;simp[World.frozen?,this]
theorem PB.setG{w w':World}{k s m:Int}{gv pv:Value}(h:PB w w' k s m gv pv)(v:Value):PB w (w'.setCell ⟨w.heap.size+1,7,none⟩ v) k s m v pv:=by
 exact cI
theorem PB.setP{w w':World}{k s m:Int}{gv pv:Value}(h:PB w w' k s m gv pv)(v:Value):PB w (w'.setCell ⟨w.heap.size+1,9,none⟩ v) k s m gv v:=by
 exact cI
theorem PB.start(w:World)(k s m:Int):PB w ((w.alloc (.cells (Vt 0 0 0 (.slice none 0 0) (.slice none 0 0)) 173)).alloc (.cells (Vt k s m (.slice none 0 0) (.slice none 0 0)) 173)) k s m (.slice none 0 0) (.slice none 0 0):=
 ⟨((YI _ _).alloc (Zw _) _).alloc Zi _,(V4 w _ _).1,(V4 w _ _).2⟩
theorem Dg(b:List UInt8)(p j:Nat)(hj:j<(b.length-p)/4):(XR b p).take (j+1)=(XR b p).take j++[get b (p+4*j:Nat) 4]:=by
 have hl:j<(XR b p).length:=by unfold XR;simpa using hj
 rw[List.take_succ_eq_append_getElem hl]
 congr 2
 simp[XR]
theorem FO(b:List UInt8)(p:Nat):(XR b p).length=(b.length-p)/4:=by unfold XR;simp
theorem Bq{w w':World}{base:Nat}{e:TypeId}{size:Nat}{v:Value}{n:Nat}{xs:List Value}(h:w.ownsRow base e size v n xs)(hb:∀k,base≤k→k<w.heap.size→w'.heap[k]?=w.heap[k]?):w'.ownsRow base e size v n xs:=by
 obtain⟨h1,h2⟩:=h;refine⟨h1,?_⟩;rcases h2 with h2|⟨g,cap,cur,hv,hg,hh,r⟩
 ·exact WO h2
 ·have OT:g<w.heap.size:=by
   rcases Nat.lt_or_ge g w with h|h
   ·exact h
   ·rw[D_ h]at hh;cases hh
  exact WB ⟨g,cap,cur,hv,hg,by rw[hb g hg OT];exact hh,r⟩
theorem U_{w:World}{base:Nat}{e:TypeId}{size:Nat}{v:Value}{n:Nat}{xs:List Value}(h:w.ownsRow base e size v n xs){b o:Nat}(hp:b<base)(u:Value):(w.setCell ⟨b,o,none⟩ u).ownsRow base e size v n xs:=
 Bq h fun k hk _=>Mg _ _ _ _ (by show k≠b;omega)
theorem Yv{w w':World}{base:Nat}{e:TypeId}{size:Nat}{v:Value}{n:Nat}{xs:List Value}(h:w.ownsRow base e size v n xs)(hb:Below w w w'):w'.ownsRow base e size v n xs:=Bq h fun k _ hk=>hb.block k hk
theorem KP{base:Nat}{e:TypeId}{size:Nat}{v:Value}{n:Nat}{xs:List Value}{w:World}(h:w.ownsRow base e size v n xs):∀k,v.ownBlock=some k→base≤k:=by
 intro k hk;obtain⟨_,h⟩:=h;rcases h with⟨rfl,_⟩|⟨g,cap,cur,rfl,hg,_⟩
 ·cases hk
 ·have hk:some g=some k:=hk;cases hk;exact hg
theorem VA(w:World)(e:TypeId)(n:Nat)(xs:List Value)(hn:n≤maxLen):Row (w.alloc (.cells xs.toArray e)) e (.slice (some ⟨w,0,none⟩) n n) n xs:=
 ⟨_,n,rfl,Zw _,hn,(fun h=>by cases h),WB ⟨_,0,xs.toArray,(0,0),rfl,Z9 _ _,fun j _=>by simp⟩⟩
theorem PB.frozen0{w w':World}{k s m:Int}{gv pv:Value}(h:PB w w' k s m gv pv)(j:Nat):w'.frozen? ⟨w,j,none⟩=false:=by
 have:=h.ub;simp[World.frozen?,this]
theorem PB.cell0{w w':World}{k s m:Int}{gv pv:Value}(h:PB w w' k s m gv pv)(j:Nat):w'.cell? ⟨w,j,none⟩=(Vt 0 0 0 (.slice none 0 0) (.slice none 0 0))[j]?:=by
 have:=h.ub;simp only[World.cell?,this];rfl
theorem f_(w:World)(k:Nat)(v0 v1 v2 v3 v4 v5 v6 v7 v8 v9:Value):Fr w (· = k) w ((((((((((w.setCell ⟨k,0,none⟩ v0).setCell ⟨k,1,none⟩ v1).setCell ⟨k,2,none⟩ v2).setCell ⟨k,3,none⟩ v3).setCell ⟨k,4,none⟩ v4).setCell ⟨k,5,none⟩ v5).setCell ⟨k,6,none⟩ v6).setCell ⟨k,7,none⟩ v7).setCell ⟨k,8,none⟩ v8).setCell ⟨k,9,none⟩ v9):=((((((((((Fr.refl _ _ _).setAt 0 v0).setAt 1 v1).setAt 2 v2).setAt 3 v3).setAt 4 v4).setAt 5 v5).setAt 6 v6).setAt 7 v7).setAt 8 v8).setAt 9 v9
theorem sP(a b:Nat):((a+4*b:Nat):Int)=(a:Int)+4*(b:Int):=by omega
theorem qR(v:Value)(b:List UInt8)(w:World)(hv:X5 w v b)(h4:b.length%4=0)(hb:b.length≤1000)(TW:4≤b.length) :
  Calls prog 172 #[v,.int .i64 203] w fun e w'=>(∃a,e = .returned a∧S4 w' a (parts b 203))∧Below w w w':=by
 have HV:Hid (∀w',Below w w w'→X5 w' v b):=fun w' h=>hv.below h
 have hlen:=hv.len;obtain⟨a,c,rfl,RV,-⟩:=id hv;obtain⟨m,hm⟩:∃m,b.length=4+4*m:=⟨(b.length-4)/4,Zo⟩
 have HW:Hid (∀j,j<m→((XR b 4).take (j+1)).map (fun n:Nat=>(n:Int))=((XR b 4).take j).map (fun n:Nat=>(n:Int))++[(get b (4+4*(j:Int)) 4:Int)]):=fun j hj=>by
  rw[Dg b 4 j Zo,Nv,sP];rfl
 have jT:Hid ((XR b 4).length=m):=by show _=_;rw[FO];omega
 have HWT:Hid (∀j,j≤m→(((XR b 4).take j).map (fun n:Nat=>(n:Int))).length=j):=fun j hj=>by rw[Tx,SY,jT.o];omega
 have HE:Hid (parts b 203={XP with kind:=203,gone:=(XR b 4).map fun(n:Nat)=>(n:Int)}):=rfl;have CN:Hid (∀w' (j:Nat),Below w w w'→Calls prog 183 (Q9 a b.length c (4+4*(j:Int))) w' fun e w1=>e = .returned (.int .u32 (get b (4+4*(j:Int)) 4:Nat))∧w'=w1):=fun w' j h=>PC _ b _ w' (HV.o w' h)
 have Ap:=Zh (PB.start w 203 0 0);clear hv HV;rw[hm];rw[hm]at CN;have ag:m≤250:=by omega
 generalize parts b 203=X at *
 clear hm hlen h4 hb TW RV;go_enter func172,ntmps172;go_wp2;go_loopw [6] (fun i w'=>∃(j:Nat) (gv:Value),j≤m∧i = .int .i64 (4+4*(j:Int))∧PB w w' 203 0 0 gv (.slice none 0 0)∧w'.ownsRow (w.heap.size+2) 66 1 gv j (YN (((XR b 4).take j).map (fun n:Nat=>(n:Int))))) (fun i _=>4+4*m-(intOf i).toNat)
 case atStart=>exact⟨0,.slice none 0 0,TH _,rfl,Ap.o,TV _ _ _ _⟩
 case round=>
  clear Ap;obtain⟨j,gv,hj,rfl,Db,YG⟩:=hrel;have Rg:=Zh Db;have Yk:=Zh YG;have Uk:=Db.size;have c7:wr.cell? ⟨w.heap.size+1,7,none⟩=some gv:=Db.cell 7;have c5:=Db.Y8;clear Db YG;by_cases yB:j<m
  ·have CN1:=Zh (CN.o wr j Rg.o.Zf);have xE:=Zh (HW.o j yB);have hn:get b (4+4*(j:Int)) 4<4294967296:=U7 b _ 4 4 Zd;clear c5;generalize get b (4+4*(j:Int)) 4=n at *
   go_wp2_with (first|(go_at_call 183;refine CN1.o.mono ?_;rintro e w' ⟨rfl,rfl⟩)|(at_builtin;refine YO rfl (.tmp 30) (.tmp 32) 29 rfl (w.heap.size+2) Vo gv j _ rfl (Yk.o.alloc _) _ 1 [.int .u32 (n:Int)] rfl (VA wr 66 1 [.int .u32 (n:Int)] Zd) rfl (by intro u hu;simp at hu;subst hu;rfl) Zo Zo Uf (fun v' w5 HO HG=>?_);have Aq:=Zh ((Rg.o.below (Z' wr (.cells #[.int .u32 (n:Int)] 66))).grown HG.o (KP Yk.o));have Ip:=Aq.o.size;have f7:=Aq.o.frozen 7;have c75:w5.cell? ⟨w.heap.size+1,7,none⟩=some gv:=Aq.o.cell 7;obtain⟨va,vc,mn,-,-⟩:=Row.Z4 HO.o;subst mn))
   go_roundw
   case rel=>exact⟨j+1,_,Zo,Zn,Aq.o.setG _,by rw[xE.o];exact U_ (by have:=HO.o;unfold YN at this ⊢;rw[Nv];exact this) Zo _⟩
   case measure=>simp[intOf];omega
  ·obtain rfl:j=m:=by omega
   have ZW:=Row.Z4 Yk.o;obtain⟨va,vc,rfl,-,-⟩:=id ZW;have e0:=Rg.o.cell 0;have e1:=Rg.o.cell 1;have e2:=Rg.o.cell 2;have e3:=Rg.o.cell 3;have e4:=Rg.o.cell 4;have e5:=Rg.o.cell 5;have e6:=Rg.o.cell 6;have e8:=Rg.o.cell 8;have e9:=Rg.o.cell 9;simp only[Vt,SN,Sy,R4]at e0 e1 e2 e3 e4 e5 e6 e8 e9;have Vc:=Zh ZW;have g0:=fun k=>Rg.o.frozen0 k
   have g00:=g0 0;have z0:=Rg.o.cell0 0;have g10:=g0 1;have z1:=Rg.o.cell0 1;have g20:=g0 2;have z2:=Rg.o.cell0 2;have g30:=g0 3;have z3:=Rg.o.cell0 3;have g40:=g0 4;have z4:=Rg.o.cell0 4;have g50:=g0 5;have z5:=Rg.o.cell0 5;have g60:=g0 6;have z6:=Rg.o.cell0 6;have g70:=g0 7;have z7:=Rg.o.cell0 7;have g80:=g0 8;have z8:=Rg.o.cell0 8;have g90:=g0 9;have z9:=Rg.o.cell0 9;simp only[Vt,SN,Sy,R4]at z0 z1 z2 z3 z4 z5 z6 z7 z8 z9;clear ZW c5 g0;have HT:Hid ((XR b 4).take j=XR b 4):=EM (by rw[jT.o];exact Zw _);have Ak:Hid (((XR b 4).map (fun n:Nat=>(n:Int))).length=j):=by show _=_;rw[Tx];exact jT.o
   have HK:Hid (∀w',Fr wr (· = w.heap.size) wr w'→(Row w' 66 (.slice va j vc) j (YN (((XR b 4).take j).map (fun n:Nat=>(n:Int))))∧Below w w w')):=fun w' hf=>
    ⟨Vc.o.fr hf (Zw _) (fun k c' fr hk e=>by subst hk;rw[Rg.o.ub]at e;injection e with e;injection e with _ e _;exact absurd e Zd),Rg.o.Zf.trans (Fr.below (hf.mono (iO (Nat.lt_trans (Nat.lt_succ_self _) Uk)) (fun k hk hs=>by have hs:k=w.heap.size:=hs;omega)))⟩
   go_wp2;refine VD (v:= .agg (Qe 203 0 0 0 0 0 none 0 0 va j vc 0 none 0 0)) (by simp[results,results172,go_sem,z0,z1,z2,z3,z4,z5,z6,z7,z8,z9]) rfl ⟨⟨_,rfl,?_⟩,?_⟩
   ·have h:=HK.o _ (f_ wr w (.int .i64 203) (.int .u32 0) (.int .u64 0) (.int .u32 0) (.int .u32 0) (.int .u32 0) (.slice none 0 0) (.slice va j vc) (.int .u32 0) (.slice none 0 0));rw[HT.o]at h;refine⟨.slice none 0 0,.slice va j vc,.slice none 0 0,by rw[HE.o];rfl,by rw[HE.o];exact Row.nil _ _,?_,by rw[HE.o];exact Row.nil _ _⟩;rw[HE.o];show Row _ _ _ ((XR b 4).map (fun n:Nat=>(n:Int))).length _;rw[Ak.o]
    with_reducible exact h.1
   ·have h:=HK.o _ (f_ wr w (.int .i64 203) (.int .u32 0) (.int .u64 0) (.int .u32 0) (.int .u32 0) (.int .u32 0) (.slice none 0 0) (.slice va j vc) (.int .u32 0) (.slice none 0 0))
    with_reducible exact h.2
end Go.Proofs.By
namespace Go.Proofs.By
open Go.RowKit Go.Proofs.Heap
theorem VY{P:Program}{ops:Array Oper}{rest:List Oper}{o:Oper}{a:Act}{w:World}{Q:Exit→Act→World→Prop}(LH:o.guard=none)(ty:TypeId)(x y:Operand)(ho:o.op = .store ty x y)
  (hd:o.dst=none) (g:Nat) (cells:Array Value) (hx:a.eval x = .pointer (some ⟨g,0,none⟩)) (hy:a.eval y = .agg cells)
  (t:TypeId) (old:Array Value) (hg:w.heap[g]?=some (.cells old t (0,0))) (hi:(P.info? ty).map (·.size)=some cells.size)
  (hold:old.size=cells.size) (h1:cells.all (·.oneCell')=true)
  (h:wpList P ops Q rest a (w.setRow g cells)):wpList P ops Q (o :: rest) a w:=
 Go.wpList_store_row LH ty x y ho g cells hx hy t old hg hi hold h1 (by rw[hd];exact h)
theorem ZT{P:Program}{ops:Array Oper}{rest:List Oper}{o:Oper}{a:Act}{w:World}{Q:Exit→Act→World→Prop}(ty:TypeId)(x y:Operand)(_:o.op = .store ty x y)(h:wpList P ops Q (o :: rest) a w):wpList P ops Q (o :: rest) a w:=h
def Gb(p:J4)(cv ev pv:Value):Value:= .agg #[.bool p.Xw,.int .i64 p.type,.int .u16 p.seq,.int .u32 p.time,.int .u32 p.Yl,cv,.bool p.Xv,.int .u16 p.X9,ev,pv,.int .i64 p.pad]
structure NF(w:World)(v:Value)(p:J4):Prop where
 ex:∃cv ev pv,v=Gb p cv ev pv∧Row w 66 cv p.VF.length (YN p.VF)∧Row w 5 ev p.ext.length (Rx p.ext)∧Row w 5 pv p.ZE.length (Rx p.ZE)
theorem cell_of{w:World}{b:Nat}{cs:Array Value}{e:TypeId}(h:w.heap[b]?=some (.cells cs e))(j:Nat):w.cell? ⟨b,j,none⟩=cs[j]?:=by
 simp only[World.cell?,h];rfl
theorem ZP{w:World}{b:Nat}{cs:Array Value}{e:TypeId}(h:w.heap[b]?=some (.cells cs e))(j:Nat):w.frozen? ⟨b,j,none⟩=false:=by
 simp[World.frozen?,h]
theorem vF(v:Value)(b:List UInt8)(w:World)(hv:X5 w v b)(h0:(looks b).2≠0) :
  Calls prog 125 #[v] w fun e w'=>(∃a,e = .returned (.tuple #[a,.int .i64 (YM b).2])∧NF w' a (YM b).1)∧Below w w w':=by
 have HX:Hid (YM b=(WR,(looks b).2)):=by show _=_;unfold YM;rw[ZU h0]
 have C:=fun w1 h=>yS v b w1 (hv.below (h:Below w w w1))
 have HC:=Zh C;obtain⟨a,c,rfl,RV,-⟩:=id hv;clear C hv;have bl:((looks b).2 !=0)=true:=by rw[RH];exact h0
 have bl2:((looks b).2==0)=false:=by rw[WM];exact h0
 generalize YM b=X at *
 generalize looks b=Y at *
 go_enter func125,ntmps125;go_wp2_with fail
 refine(HC.o _ (Z' _ _)).mono ?_;rintro e w2 ⟨rfl,Zb⟩;have z0:=Zb.block w AB;rw[Z9]at z0;have zz:w.heap.size+1≤w2.heap.size:=by have h:=Zb.size;have h:(w.heap.push _).size≤w2.heap.size:=h;rw[Ou]at h;exact h
 have y0:=((Z' w2 (.cells (Qn (Y.1.1:Nat) (Y.1.2.1:Nat) (Y.1.2.2:Nat)) 238)).block w Zo).trans z0;have z1:=cell_of y0 0;have z2:=cell_of y0 1;have z3:=cell_of y0 2;have z4:=cell_of y0 3;have z5:=cell_of y0 4;have z6:=cell_of y0 5;have z7:=cell_of y0 6;have z8:=cell_of y0 7;have z9:=cell_of y0 8;have nO:=cell_of y0 9;have z11:=cell_of y0 10;simp only[SN,Sy,R4]at z1 z2 z3 z4 z5 z6 z7 z8 z9 nO z11;have Il:=fun(R:World→Prop) (h:R (w2.alloc (.cells (Qn (Y.1.1:Nat) (Y.1.2.1:Nat) (Y.1.2.2:Nat)) 238)))=>(by rw[setRow_self _ _ _ _ _ y0];exact h:R ((w2.alloc (.cells (Qn (Y.1.1:Nat) (Y.1.2.1:Nat) (Y.1.2.2:Nat)) 238)).setRow w U2))
 have HS:=Zh Il;clear Il z0 HC;go_wp2_with (with_reducible refine ZT 79 (.tmp 2) (.tmp 15) rfl ?_;go_loud (refine Zs y0 ?_;refine HS.o _ ?_))
 refine VD (v:= .tuple (Qo U2 Y.2)) (by simp[results,results125,go_sem,z1,z2,z3,z4,z5,z6,z7,z8,z9,nO,z11]) rfl ⟨⟨_,by rw[HX.o],?_⟩,?_⟩
 ·exact⟨.slice none 0 0,.slice none 0 0,.slice none 0 0,by rw[HX.o];rfl,by rw[HX.o];exact Row.nil _ _,by rw[HX.o];exact Row.nil _ _,by rw[HX.o];exact Row.nil _ _⟩
 ·have h3:=Z' w2 (.cells (Qn (Y.1.1:Nat) (Y.1.2.1:Nat) (Y.1.2.2:Nat)) 238);have h4:=h3.mono (show w.heap.size≤w2.heap.size by omega);have h5:=Zb.mono (show w.heap.size≤(w.heap.push _).size by rw[Ou];exact J_ _);exact((Z' w _).trans h5).trans h4
end Go.Proofs.By

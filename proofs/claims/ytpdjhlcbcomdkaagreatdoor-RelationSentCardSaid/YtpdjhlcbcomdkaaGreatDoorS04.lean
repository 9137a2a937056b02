import Derived.Test.YtpdjhlcbcomdkaaGreatDoorS03
set_option linter.all false
set_option maxRecDepth 100000
set_option maxHeartbeats 16000000
open Go Go.Q Go.Qr Go.Proofs.Tryz Go.RowKit
namespace Go.Proofs.By
def Eb(R:Room)(n:Nat)(on:Bool)(p:Nat):(YO R n on p).length≤2:=by
 unfold YO waits;split
 ·simp
 ·split <;> simp
def RM(R:Room)(n:Nat)(on:Bool):∀l:List Nat,(l.flatMap (YO R n on)).length≤2*l.length
 | []=>Zq _
 | p :: l=>by
  rw[List.flatMap_cons,UC,List.length_cons];have:=Eb R n on p;have:=RM R n on l;omega
def Mh{α:Type}(f:Nat→List α){l:List Nat}{k:Nat}(h:k<l.length):(l.take (k+1)).flatMap f=(l.take k).flatMap f++f (l.getD k 0):=by
 rw[Dy h,O7];simp
def vp{R:Room}{n:Nat}{j:Nat}(_hn:n<9)(h:j<(ZX R n).length):(ZX R n).getD j 0<9∧(R.sub n ((ZX R n).getD j 0)).there=true:=by
 refine⟨Gg h,?_⟩;rw[QQ,U' h];have:=(Z1g.1 (O6 h)).2;simp only[Ze,UN,Wi]at this;exact this.2
def L4(s:Src)(on:Bool):∀j,j<5→Mo {s with ZJ:=on} j=if j=4 then .bool on else Mo s j:=by
 intro j hj;have:j=0∨j=1∨j=2∨j=3∨j=4:=by omega
 rcases this with rfl|rfl|rfl|rfl|rfl <;> rfl
def f_(b:Nat)(R:Room)(n:Nat)(w:World)(hR:ZQ w b R)(hn:n<9) :
  Calls prog 140 (Jl (some ⟨b,0,none⟩) n true) w fun e w'=>(∃v,e = .returned v∧Yx w' v (mute R n true).1)∧ZQ w' b (mute R n true).2∧Fr w (· = b) w w':=by
 have hb:=hR.lt;obtain⟨s0,s1,s2,s3,s4⟩:=hR.L_ hn;have f4:=hR.Yv (9+n*5+4);have JM:=Zh (hR.Tk hn (i:=4) Zo (L4 (R.src n) true) (hR.rows n hn));have HM0:Hid (mute R n true=((ZX (R.YW n {R.src n with ZJ:=true}) n).flatMap (YO (R.YW n {R.src n with ZJ:=true}) n true),R.YW n {R.src n with ZJ:=true})):=rfl;clear s0 s1 s2 s3;generalize R.YW n {R.src n with ZJ:=true}=R1 at *;have CS:=Zh (ET b R1 n _ JM.o);have HM:Hid (∀j,j<(ZX R1 n).length→(ZX R1 n).getD j 0<9):=fun j h=>Gg h
 have HL:=OW R1 n;have HT:Hid (∀k,k<(ZX R1 n).length→((ZX R1 n).take (k+1)).flatMap (YO R1 n true)=((ZX R1 n).take k).flatMap (YO R1 n true)++[⟨6,(ZX R1 n).getD k 0,n,0,0⟩]):=fun k h=>Mh _ h
 have HTL:Hid (∀k,(((ZX R1 n).take k).flatMap (YO R1 n true)).length≤2*((ZX R1 n).take k).length):=fun k=>RM _ _ _ _
 clear hR;generalize ZX R1 n=L at *;generalize YO R1 n true=f at *;go_enter func140,ntmps140;go_wp2_with fail
 refine CS.o.mono ?_;rintro e w1 ⟨⟨lv,rfl,ZW⟩,YV⟩;have U0:=Zh ZW;have HB:=Zh YV;have T8:w.heap.size≤w1.heap.size:=by have:=YV.size;rw[size_setCell]at this;exact this
 have Ip:Hid (Fr w (· = b) w w1):=((Fr.refl w (· = b) w).setAt _ _).trans ((Fr.Z8 _ YV).mono (by rw[size_setCell];exact Zq _) (fun _ _ h=>h));have Aa:=Zh (JM.o.below YV);clear YV HB;rcases Nat.eq_zero_or_pos L.length with h0|h0
 ·exact Yx85
 ·obtain⟨g,off,cap,rfl,hg,Yp⟩:=SL ZW h0;have HC:=Zh Yp;clear ZW Yp;go_wp2_with fail
  go_loopw [7,22] (fun v i w'=>∃k:Nat,k≤L.length∧i = .int .i64 k∧Fr w (· = b) w w'∧Row w' 3 (.slice (some ⟨g,off,none⟩) L.length cap) L.length (ints L)∧ZQ w' b R1∧w'.ownsRow w 158 5 v ((L.take k).flatMap f).length (((L.take k).flatMap f).flatMap Z7)) (fun _ i _=>L.length-(intOf i).toNat)
  case atStart=>exact⟨0,Zo,rfl,Ip.o,U0.o,Aa.o,TH _ _ _ _⟩
  case round=>
   obtain⟨k,hk,rfl,Wb,ZW,Xh,Yy⟩:=hrel;have TN:=Zh Wb;have PH:=Zh ZW;have Xr:=Zh Xh;have Yd:=Zh Yy;clear Wb Yy Xh;by_cases Vz:k<L.length
   ·obtain⟨g',off',cap',e1,hg',Yp⟩:=SL ZW h0;cases e1;have hc:=Yp k Vz;have hp:=HM.o k Vz;have HS:=Zh (HT.o k Vz);have zV:=HTL.o k;rw[SC]at zV;clear Yp ZW;generalize L.getD k 0=p at *;generalize(L.take k).flatMap f=G at *;go_wp2_with (at_builtin;refine YN rfl (.tmp 27) (.tmp 31) 98 rfl w Xt _ G.length (G.flatMap Z7) rfl ?a1 _ 1 ([⟨6,p,n,0,0⟩].flatMap Z7) rfl ?a2 rfl ?a4 ?a5 ?a6 ?a7 (fun v' w3 HO HG=>?_))
    case a1=>exact Yd.o.alloc _
    case a2=>exact Yn _ _ 1 _ ([⟨6,p,n,0,0⟩].flatMap Z7) Zd rfl
    case a4=>exact XT _
    case a5=>omega
    case a6=>omega
    case a7=>have h1:=TN.o.size;simp;omega
    go_roundw
    case rel=>
     have h1:=TN.o.size;have RF:=Yd.o.alloc (.cells ([⟨6,p,n,0,0⟩].flatMap Z7).toArray 158);have WO:=Z' wr (.cells ([⟨6,p,n,0,0⟩].flatMap Z7).toArray 158);refine⟨k+1,Zo,Zn,?_,?_,?_,?_⟩
     ·exact(TN.o.alloc Zo _).grown HG.o TY (YG Yd.o)
     ·exact Row.grown (PH.o.below WO) RF HG.o Zd
     ·exact ZQ.grown (Xr.o.below WO) RF HG.o hb Zd
     ·rw[HS.o,UC,O7];exact HO.o
    case measure=>simp[intOf];omega
   ·exact bf
def lS(b:Nat)(R:Room)(n:Nat)(w:World)(hR:ZQ w b R)(hn:n<9)(SK:∀p,p<9→(R.sub n p).there=true→0≤(R.sub n p).want∧(R.sub n p).want<(R.src n).ss.length) :
  Calls prog 140 (Jl (some ⟨b,0,none⟩) n false) w fun e w'=>(∃v,e = .returned v∧Yx w' v (mute R n false).1)∧ZQ w' b (mute R n false).2∧Fr w (· = b) w w':=by
 have hb:=hR.lt;obtain⟨s0,s1,s2,s3,s4⟩:=hR.L_ hn;have f4:=hR.Yv (9+n*5+4);have JM:=Zh (hR.Tk hn (i:=4) Zo (L4 (R.src n) false) (hR.rows n hn));have HM0:Hid (mute R n false=((ZX (R.YW n {R.src n with ZJ:=false}) n).flatMap (YO (R.YW n {R.src n with ZJ:=false}) n false),R.YW n {R.src n with ZJ:=false})):=rfl
 have wT:Hid (∀p,p<9→((R.YW n {R.src n with ZJ:=false}).sub n p).there=true→0≤((R.YW n {R.src n with ZJ:=false}).sub n p).want∧((R.YW n {R.src n with ZJ:=false}).sub n p).want<((R.YW n {R.src n with ZJ:=false}).src n).ss.length):=by
  intro p hp ht;rw[Sl];exact SK p hp ht
 clear s0 s1 s2 s3 SK;generalize R.YW n {R.src n with ZJ:=false}=R1 at *;have CS:=Zh (ET b R1 n _ JM.o);have HM:Hid (∀j,j<(ZX R1 n).length→(ZX R1 n).getD j 0<9∧(R1.sub n ((ZX R1 n).getD j 0)).there=true):=fun j h=>vp hn h
 have HL:=OW R1 n;have HT:Hid (∀k,k<(ZX R1 n).length→((ZX R1 n).take (k+1)).flatMap (YO R1 n false)=((ZX R1 n).take k).flatMap (YO R1 n false)++[⟨7,(ZX R1 n).getD k 0,n,0,0⟩]++waits R1 ((ZX R1 n).getD k 0) n):=fun k h=>by rw[Mh _ h,bF];rfl
 have HTL:Hid (∀k,(((ZX R1 n).take k).flatMap (YO R1 n false)).length≤2*((ZX R1 n).take k).length):=fun k=>RM _ _ _ _
 have iX:Hid (∀p,(waits R1 p n).length≤1):=fun p=>by unfold waits;split <;> simp
 clear hR;generalize ZX R1 n=L at *;generalize YO R1 n false=f at *;go_enter func140,ntmps140;go_wp2_with fail
 refine CS.o.mono ?_;rintro e w1 ⟨⟨lv,rfl,ZW⟩,YV⟩;have U0:=Zh ZW;have HB:=Zh YV;have T8:w.heap.size≤w1.heap.size:=by have:=YV.size;rw[size_setCell]at this;exact this
 have Ip:Hid (Fr w (· = b) w w1):=((Fr.refl w (· = b) w).setAt _ _).trans ((Fr.Z8 _ YV).mono (by rw[size_setCell];exact Zq _) (fun _ _ h=>h));have Aa:=Zh (JM.o.below YV);clear YV HB;rcases Nat.eq_zero_or_pos L.length with h0|h0
 ·exact Yx85
 ·obtain⟨g,off,cap,rfl,hg,Yp⟩:=SL ZW h0;have HC:=Zh Yp;clear ZW Yp;go_wp2_with fail
  go_loopw [7,22] (fun v i w'=>∃k:Nat,k≤L.length∧i = .int .i64 k∧Fr w (· = b) w w'∧Row w' 3 (.slice (some ⟨g,off,none⟩) L.length cap) L.length (ints L)∧ZQ w' b R1∧w'.ownsRow w 158 5 v ((L.take k).flatMap f).length (((L.take k).flatMap f).flatMap Z7)) (fun _ i _=>L.length-(intOf i).toNat)
  case atStart=>exact⟨0,Zo,rfl,Ip.o,U0.o,Aa.o,TH _ _ _ _⟩
  case round=>
   obtain⟨k,hk,rfl,Wb,ZW,Xh,Yy⟩:=hrel;have TN:=Zh Wb;have PH:=Zh ZW;have Xr:=Zh Xh;have Yd:=Zh Yy;clear Wb Yy Xh;by_cases Vz:k<L.length
   ·obtain⟨g',off',cap',e1,hg',Yp⟩:=SL ZW h0;cases e1;have hc:=Yp k Vz;have HP:=Zh (HM.o k Vz);have HS:=Zh (HT.o k Vz);have zV:=HTL.o k;have HWLk:=iX.o (L.getD k 0);rw[SC]at zV;clear Yp ZW;generalize L.getD k 0=p at *;generalize(L.take k).flatMap f=G at *;have h1:=TN.o.size;have CW:Hid (∀w3,ZQ w3 b R1→Calls prog 141 (Qv (some ⟨b,0,none⟩) p n) w3 fun e w'=>(∃v,e = .returned v∧Yx w' v (waits R1 p n))∧Below w3 w3 w'):=fun w3 h3=>JG b R1 p n w3 h3 hn HP.o.1 (wT.o p HP.o.1 HP.o.2)
    have M7:=Zh (Yd.o.alloc (.cells ([⟨7,p,n,0,0⟩].flatMap Z7).toArray 158));have Sq:=Zh (Z' wr (.cells ([⟨7,p,n,0,0⟩].flatMap Z7).toArray 158));generalize waits R1 p n=Wt at *;go_wp2_with (first|(at_builtin;refine YN rfl (.tmp 33) (.tmp 37) 98 rfl w Xt _ G.length (G.flatMap Z7) rfl ?a1 _ 1 ([⟨7,p,n,0,0⟩].flatMap Z7) rfl ?a2 rfl ?a4 ?a5 ?a6 ?a7 (fun v' w3 HO HG=>?_))|(go_at_call 141;refine(CW.o _ (ZQ.grown (Xr.o.below Sq.o) M7.o HG.o hb Zd)).mono ?_;rintro e w4 ⟨⟨tv,rfl,Sz⟩,S0⟩;have Ew:=Zh Sz;have U5:=Zh S0;clear Sz S0)|(at_builtin;refine YN rfl (.tmp 39) (.tmp 43) 98 rfl w Xt _ (G++[Yz.mk 7 p n 0 0]).length ((G++[Yz.mk 7 p n 0 0]).flatMap Z7) rfl ?b1 _ Wt.length (Wt.flatMap Z7) rfl ?b2 ?b3 ?b4 ?b5 ?b6 ?b7 (fun v' w5 aD cY=>?_)))
    case a1=>exact Yd.o.alloc _
    case a2=>exact Yn _ _ 1 _ ([⟨7,p,n,0,0⟩].flatMap Z7) Zd rfl
    case a4=>exact XT _
    case a5=>omega
    case a6=>omega
    case a7=>simp;omega
    case b1=>rw[UC,O7];exact Zp HO.o U5.o
    case b2=>exact Ew.o
    case b3=>exact Vo _
    case b4=>exact XT _
    case b5=>simp;omega
    case b6=>simp;omega
    case b7=>have h2:=HG.o.size;have h3:=U5.o.size;simp at h2;omega
    go_roundw
    case rel=>
     have h2:=HG.o.size;have h3:=U5.o.size;simp at h2;have HO3:=Zp HO.o U5.o;refine⟨k+1,Zo,Zn,?_,?_,?_,?_⟩
     ·have g1:=(TN.o.alloc Zo _).grown HG.o TY (YG Yd.o);have g2:=g1.trans ((Fr.Z8 _ U5.o).mono Zo (fun _ _ h=>h));exact g2.grown cY.o Zo (YG HO.o)
     ·exact Row.grown ((Row.grown (PH.o.below Sq.o) M7.o HG.o Zd).below U5.o) HO3 cY.o Zd
     ·exact ZQ.grown ((ZQ.grown (Xr.o.below Sq.o) M7.o HG.o hb Zd).below U5.o) HO3 cY.o hb Zd
     ·rw[HS.o,UC,O7];exact aD.o
    case measure=>simp[intOf];omega
   ·exact bf
def P_(w:World)(e:TypeId)(size n m:Nat)(xs:List Value)(hl:xs.length=n*size)(hn:n≤maxLen)(hm:m=w.heap.size):(w.alloc (.cells xs.toArray e)).ownsRow m e size (.slice (some ⟨m,0,none⟩) n n) n xs:=by
 subst hm;exact⟨hl,.inr ⟨w,n,xs.toArray,rfl,Zq _,(by show(w.heap.push _)[w.heap.size]?=_;simp),Zq _,hn,by simp[hl],by rw[Ex (by simp[hl])]⟩⟩
def ZQ.alloc{w:World}{b:Nat}{R:Room}(h:ZQ w b R)(o:Obj):ZQ (w.alloc o) b R:=h.below (Z' _ _)
def ZQ.drew{w:World}{b:Nat}{R:Room}(h:ZQ w b R):ZQ w.drew b R:=h.below (YE _ _).drew
def ZQ.drewN{w:World}{b:Nat}{R:Room}(h:ZQ w b R)(q:Nat):ZQ (w.drewN q) b R:=h.below (below_drewN (YE _ _) q)
def WY{base:Nat}{e:TypeId}{size:Nat}{v:Value}{n:Nat}{xs:List Value}{w:World}(h:w.ownsRow base e size v n xs):w.drew.ownsRow base e size v n xs:=Zp h (YE _ _).drew
def Row.drew{w:World}{e:TypeId}{v:Value}{n:Nat}{xs:List Value}(h:Row w e v n xs):Row w.drew e v n xs:=h.below (YE _ _).drew
def Fr.drewN{B:Nat}{S:Nat→Prop}{a w:World}(h:Fr B S a w)(q:Nat):Fr B S a (w.drewN q):=h.trans (Fr.Z8 S (below_drewN (YE _ _) q))
def dy(b:Nat)(R:Room)(o:Op)(sa ba:Option Addr)(sl sc bl bc:Nat)(w:World)(hR:ZQ w b R)(hs:1≤o.source∧o.source<9)(hp:1≤o.peer∧o.peer<9)(hq:0≤o.ZC∧o.ZC<(R.src o.source.toNat).ss.length) :
  Calls prog 138 (Qi (some ⟨b,0,none⟩) (Jr o sa sl sc ba bl bc)) w fun e w'=>(∃v,e = .returned v∧Yx w' v (begin R o).1)∧ZQ w' b (begin R o).2∧Fr w (· = b) w w':=by
 have hb:=hR.lt;obtain⟨k,p,n,q,nm,ss⟩:=o;obtain⟨n,rfl⟩:=RV (show 0≤n by have:=hs.1;dsimp only at this;omega);obtain⟨p,rfl⟩:=RV (show 0≤p by have:=hp.1;dsimp only at this;omega);dsimp only at hs hp hq ⊢;rw[Wi]at hq;have hn:n<9:=by omega
 have MH:p<9:=by omega
 obtain⟨c0,c1,c2⟩:=hR.Ge hn MH;obtain⟨s0,s1,s2,s3,s4⟩:=hR.L_ hn;have f0:=hR.Yv (54+n*27+p*3);have f1:=hR.Yv (54+n*27+p*3+1);have f2:=hR.Yv (54+n*27+p*3+2);clear s0 s1 s2 s3 s4;have JM:=Zh (hR.ZO hn MH ⟨true,false,q⟩);have YV:=JM.o.lt;obtain⟨s0,s1,s2,s3,s4⟩:=JM.o.L_ hn;have U_:Hid (begin R ⟨k,p,n,q,nm,ss⟩=(⟨1,p,n,q,0⟩ :: (if(R.src n).ZJ then[⟨6,p,n,0,0⟩]else[asks (R.ZO n p ⟨true,false,q⟩) p n]),R.ZO n p ⟨true,false,q⟩)):=rfl
 have CA:Hid (∀w1,ZQ w1 b (R.ZO n p ⟨true,false,q⟩)→Calls prog 166 (Qv (some ⟨b,0,none⟩) p n) w1 fun e w'=>e = .returned (VN (asks (R.ZO n p ⟨true,false,q⟩) p n))∧Below w1 w1 w'):=
  fun w1 h=>xd b _ p n w1 h hn MH (by rw[VW];exact hq)
 have TN:Hid (Fr w (· = b) w (((w.setCell ⟨b,54+n*27+p*3,none⟩ (.bool true)).setCell ⟨b,54+n*27+p*3+1,none⟩ (.bool false)).setCell ⟨b,54+n*27+p*3+2,none⟩ (.int .i64 q))):=(((Fr.refl _ _ _).setAt _ _).setAt _ _).setAt _ _;have Yd:Hid (∀W:World,W.heap.size=w.heap.size→∀box:Obj,((W.alloc box).alloc (.cells ([Yz.mk 1 p n q 0].flatMap Z7).toArray 158)).ownsRow (w.heap.size+1) 158 5 (.slice (some ⟨w.heap.size+1,0,none⟩) 1 1) 1 ([Yz.mk 1 p n q 0].flatMap Z7)):=fun W hW box=>P_ _ _ 5 1 _ _ rfl Zd (by simp[hW])
 have kI:((R.ZO n p ⟨true,false,q⟩).src n).ZJ=(R.src n).ZJ:=rfl;rw[kI]at s4;clear s0 s1 s2 s3 kI hR hq;unfold VN at CA;generalize asks (R.ZO n p ⟨true,false,q⟩) p n=A at *;generalize R.ZO n p ⟨true,false,q⟩=R1 at *;obtain⟨a1,a2,a3,a4,a5⟩:=A;dsimp only at *;cases hm:(R.src n).ZJ
 ·rw[hm]at s4;have HF:Hid (begin R ⟨k,p,n,q,nm,ss⟩=([⟨1,p,n,q,0⟩,⟨a1,a2,a3,a4,a5⟩],R1)):=by show _=_;rw[U_.o,hm];rfl
  clear hm;go_enter func138,ntmps138;go_wp2
  go_region
  go_wp2
  go_region
  go_wp2_with (first|(go_at_call 166;refine(CA.o _ jo).mono ?_;rintro e w2 ⟨rfl,Y7⟩;have Yc:=Zh Y7;clear Y7)|(at_builtin;refine YN rfl (.tmp 43) (.tmp 50) 98 rfl (w.heap.size+1) Xt _ 1 ([⟨1,p,n,q,0⟩].flatMap Z7) rfl ?a1 _ 1 ([⟨a1,a2,a3,a4,a5⟩].flatMap Z7) rfl ?a2 rfl ?a4 ?a5 ?a6 ?a7 (fun v' w3 HO HG=>?_)))
  case a1=>exact(Zp (WY (WY (P_ _ _ 5 1 (w.heap.size+1) ([⟨1,p,n,q,0⟩].flatMap Z7) rfl Zd Zi))) Yc.o).alloc _
  case a2=>exact Yn _ _ 1 _ ([⟨a1,a2,a3,a4,a5⟩].flatMap Z7) Zd rfl
  case a4=>exact XT _
  case a5=>omega
  case a6=>omega
  case a7=>have h2:=Yc.o.size;simp at h2 ⊢;omega
  go_ret;rw[HF.o];have h2:=Yc.o.size;simp at h2;have Yy:=(Zp (WY (WY (P_ _ 158 5 1 (w.heap.size+1) ([⟨1,p,n,q,0⟩].flatMap Z7) rfl Zd Zi))) Yc.o).alloc (.cells (Qh a1 a2 a3 a4 a5) 158);refine⟨⟨_,rfl,Row.Z4 HO.o⟩,?_,?_⟩
  ·exact ZQ.grown (ZQ.alloc (ZQ.below jo Yc.o) _) Yy HG.o Zo Zd
  ·refine Fr.grown (Fr.alloc (Fr.trans ?_ ((Fr.Z8 _ Yc.o).mono (B':=w.heap.size) TY (fun _ _ h=>h))) Zo _) HG.o TY (fun k hk=>by have:=YG Yy k hk;omega);exact(((TN.o.alloc Zi _).alloc Zi _).drew).drew
 ·rw[hm]at s4;have HF:Hid (begin R ⟨k,p,n,q,nm,ss⟩=([⟨1,p,n,q,0⟩,⟨6,p,n,0,0⟩],R1)):=by show _=_;rw[U_.o,hm];rfl
  clear hm;go_enter func138,ntmps138;go_wp2
  go_region
  go_wp2
  go_region
  go_wp2_with (at_builtin;refine YN rfl (.tmp 35) (.tmp 41) 98 rfl (w.heap.size+1) Xt _ 1 ([⟨1,p,n,q,0⟩].flatMap Z7) rfl ?a1 _ 1 ([⟨6,p,n,0,0⟩].flatMap Z7) rfl ?a2 rfl ?a4 ?a5 ?a6 ?a7 (fun v' w3 HO HG=>?_))
  case a1=>exact WY (WY ((Yd.o _ Zi _).alloc _))
  case a2=>exact Row.drew (Row.drew (Yn _ _ 1 _ ([⟨6,p,n,0,0⟩].flatMap Z7) Zd Zi))
  case a4=>exact XT _
  case a5=>omega
  case a6=>omega
  case a7=>simp
  go_ret;rw[HF.o];refine⟨⟨_,rfl,Row.Z4 HO.o⟩,?_,?_⟩
  ·exact ZQ.grown jo (by exact WY (WY ((Yd.o _ Zi _).alloc _))) HG.o (by omega:b<w.heap.size+1) Zd
  ·refine Fr.grown ?_ HG.o TY (fun k hk=>by have hk:some (w.heap.size+1)=some k:=hk;cases hk;omega);exact((((TN.o.alloc Zi _).alloc Zi _).alloc TY _).drew).drew
def qV(b:Nat)(R:Room)(o:Op)(sa ba:Option Addr)(sc bl bc:Nat)(w:World)(hR:ZQ w b R)(hT:Xn w)(UD:o.name.length<9223372036854775807)(hRn:∀p,(R.names p).length<9223372036854775807)
  (ZW:XG w (.slice sa o.ZG.length sc) o.ZG.length (bd o.ZG)) :
  Calls prog 109 (Qi (some ⟨b,0,none⟩) (Jr o sa o.ZG.length sc ba bl bc)) w fun e w'=>e = .returned (.int .i64 (XQ R o))∧Below w w w':=by
 have CJ:=Zh (fun(w1:World) (h:Below w w w1) (hp:1≤o.peer∧o.peer<9)=>pU b R o sa ba o.ZG.length sc bl bc w1 (hR.below h) hp (Utf8Tabs_below hT h) UD hRn);have CP:=Zh (fun(w1:World) (h:Below w w w1) (hs:1≤o.source∧o.source<9)=>Eg b R o sa ba sc bl bc w1 (hR.below h) hs (ZW.below h));have CA:=Zh (fun(w1:World) (h:Below w w w1) (hs:1≤o.source∧o.source<9) (hp:1≤o.peer∧o.peer<9)=>oL b R o sa ba o.ZG.length sc bl bc w1 (hR.below h) hs hp);have CT:=Zh (fun(w1:World) (h:Below w w w1)=>Tc b R o.peer w1 (hR.below h));have C1:=Zh (fun(w1:World)=>Lu o.peer 9 w1);have C2:=Zh (fun(w1:World)=>Lu o.source 9 w1);obtain⟨kd,p,n,q,nm,ss⟩:=o;have hb:=hR.lt
 have HW:Hid (XQ R ⟨kd,p,n,q,nm,ss⟩=if kd<2∨12<kd then 4
  else if !Vv p 9 then 5
  else if kd=2 then LX R ⟨kd,p,n,q,nm,ss⟩
  else if !Y5 R p then 8
  else if kd=3 then 0
  else if !Vv n 9 then 5
  else if kd=4 then VE R ⟨kd,p,n,q,nm,ss⟩
  else if !(R.src n.toNat).there then 8
  else about R ⟨kd,p,n,q,nm,ss⟩):=rfl
 have HI1:=Zh (db p 9);have HI2:=Zh (db n 9);have HR:=Zh hR;dsimp only at *;clear hR hT UD hRn ZW;generalize XQ R ⟨kd,p,n,q,nm,ss⟩=sF at *;generalize LX R ⟨kd,p,n,q,nm,ss⟩=jn at *;generalize VE R ⟨kd,p,n,q,nm,ss⟩=pb at *;generalize about R ⟨kd,p,n,q,nm,ss⟩=ab at *;generalize Y5 R p=jd at *;by_cases h1:kd<2
 ·have HF:Hid (sF=4):=by show _=_;rw[HW.o,ZU (WQ h1)]
  go_enter func109,ntmps109;go_wp2;go_ret;exact⟨dr HF.o.symm,Z' _ _⟩
 by_cases h2:12<kd
 ·have HF:Hid (sF=4):=by show _=_;rw[HW.o,ZU (WG h2)]
  go_enter func109,ntmps109;go_wp2;go_ret;exact⟨dr HF.o.symm,Z' _ _⟩
 have BF:Hid (sF=if !Vv p 9 then 5
  else if kd=2 then jn
  else if !jd then 8
  else if kd=3 then 0
  else if !Vv n 9 then 5
  else if kd=4 then pb
  else if !(R.src n.toNat).there then 8
  else ab):=by show _=_;rw[HW.o,Z3 Zo]
 clear HW;cases fH:Vv p 9
 ·have HF:Hid (sF=5):=by show _=_;rw[BF.o,fH];rfl
  rw[fH]at C1;clear fH BF;go_enter func109,ntmps109;go_wp2_with (go_at_call 111;refine(C1.o _).mono ?_;rintro e w1 ⟨rfl,rfl⟩)
  go_ret;exact⟨dr HF.o.symm,Z' _ _⟩
 have MH:=HI1.o.1 fH;rw[fH]at C1 BF;clear fH HI1;by_cases h3:kd=2
 ·subst h3;have HF:Hid (sF=jn):=by show _=_;rw[BF.o];rfl
  clear BF;go_enter func109,ntmps109;go_wp2_with (first|(go_at_call 111;refine(C1.o _).mono ?_;rintro e w1 ⟨rfl,rfl⟩)|(go_at_call 133;refine(CJ.o _ (Z' _ _) MH).mono ?_;rintro e w1 ⟨rfl,YV⟩))
  exact dS
 have nr:Hid (sF=if !jd then 8
  else if kd=3 then 0
  else if !Vv n 9 then 5
  else if kd=4 then pb
  else if !(R.src n.toNat).there then 8
  else ab):=by show _=_;rw[BF.o];simp[h3]
 have b3:(kd==2)=false:=by rw[Wz];exact h3
 clear BF h3;cases jd
 ·have HF:Hid (sF=8):=by show _=_;rw[nr.o];rfl
  exact Yx89
 by_cases h4:kd=3
 ·subst h4;have HF:Hid (sF=0):=by show _=_;rw[nr.o];rfl
  exact Yx89
 have b4:(kd==3)=false:=by rw[Wz];exact h4
 have dH:Hid (sF=if !Vv n 9 then 5
  else if kd=4 then pb
  else if !(R.src n.toNat).there then 8
  else ab):=by show _=_;rw[nr.o];simp[h4]
 clear nr h4;cases GD:Vv n 9
 ·have HF:Hid (sF=5):=by show _=_;rw[dH.o,GD];rfl
  rw[GD]at C2;clear GD dH;go_enter func109,ntmps109;go_wp2_with fail
  refine(C1.o _).mono ?_;rintro e w1 ⟨rfl,rfl⟩;go_wp2_with (first|(go_at_call 80;refine(CT.o _ (Z' _ _)).mono ?_;rintro e w1 ⟨rfl,rfl⟩)|(go_at_call 111;refine(C2.o _).mono ?_;rintro e w1 ⟨rfl,rfl⟩))
  go_ret;exact⟨dr HF.o.symm,Z' _ _⟩
 have GF:=HI2.o.1 GD;rw[GD]at C2 dH;clear GD HI2;by_cases h5:kd=4
 ·subst h5;have HF:Hid (sF=pb):=by show _=_;rw[dH.o];rfl
  clear dH;go_enter func109,ntmps109;go_wp2_with fail
  refine(C1.o _).mono ?_;rintro e w1 ⟨rfl,rfl⟩;go_wp2_with (first|(go_at_call 80;refine(CT.o _ (Z' _ _)).mono ?_;rintro e w1 ⟨rfl,rfl⟩)|(go_at_call 111;refine(C2.o _).mono ?_;rintro e w1 ⟨rfl,rfl⟩)|(go_at_call 134;refine(CP.o _ (Z' _ _) GF).mono ?_;rintro e w1 ⟨rfl,YV⟩))
  exact dS
 have HW5:Hid (sF=if !(R.src n.toNat).there then 8 else ab):=by show _=_;rw[dH.o];simp[h5]
 have b5:(kd==4)=false:=by rw[Wz];exact h5
 clear dH h5;obtain⟨n,rfl⟩:=RV (show 0≤n by omega);rw[Wi]at HW5;obtain⟨s0,s1,s2,s3,s4⟩:=HR.o.L_ (n:=n) Zo;clear s1 s2 s3 s4;cases ht:(R.src n).there
 ·have HF:Hid (sF=8):=by show _=_;rw[HW5.o,ht];rfl
  rw[ht]at s0;clear ht HW5;go_enter func109,ntmps109;go_wp2_with fail
  refine(C1.o _).mono ?_;rintro e w1 ⟨rfl,rfl⟩;go_wp2_with (first|(go_at_call 80;refine(CT.o _ (Z' _ _)).mono ?_;rintro e w1 ⟨rfl,rfl⟩)|(go_at_call 111;refine(C2.o _).mono ?_;rintro e w1 ⟨rfl,rfl⟩))
  go_quiet (fail)
  go_wp2;go_ret;exact⟨dr HF.o.symm,below_drewN (Z' _ _) _⟩
 ·have HF:Hid (sF=ab):=by show _=_;rw[HW5.o,ht];rfl
  rw[ht]at s0;clear ht HW5;go_enter func109,ntmps109;go_wp2_with fail
  refine(C1.o _).mono ?_;rintro e w1 ⟨rfl,rfl⟩;go_wp2_with (first|(go_at_call 80;refine(CT.o _ (Z' _ _)).mono ?_;rintro e w1 ⟨rfl,rfl⟩)|(go_at_call 111;refine(C2.o _).mono ?_;rintro e w1 ⟨rfl,rfl⟩))
  go_quiet (fail)
  go_wp2_with (go_at_call 135;refine(CA.o _ (below_drewN (Z' _ _) _) GF MH).mono ?_;rintro e w1 ⟨rfl,YV⟩)
  go_ret;exact⟨dr HF.o.symm,(below_drewN (Z' _ _) _).trans (YV.mono Zi)⟩
def WN(b:Nat)(R:Room)(o:Op)(w:World)(e:Ending)(w':World):Prop:=
 ∃v sv,e = .returned v∧Yx w' v (turns R o sv).1∧ZQ w' b (turns R o sv).2∧Fr w (· = b) w w'
def SX{b:Nat}{R R':Room}{o:Op}{w w':World}{v sv:Value}{l:List Yz}(h:Hid (turns R o sv=(l,R')))(h1:Yx w' v l)(h2:ZQ w' b R')(h3:Fr w (· = b) w w'):WN b R o w (.returned v) w':=
 ⟨v,sv,rfl,by rw[h.o];exact h1,by rw[h.o];exact h2,h3⟩
def SY{b:Nat}{R:Room}{o:Op}{w w1 w':World}{v sv:Value}{x:List Yz×Room}(h:Hid (turns R o sv=x))(h1:Yx w' v x.1)(h2:ZQ w' b x.2)(hw:Below w w w1)(h3:Fr w1 (· = b) w1 w'):WN b R o w (.returned v) w':=
 ⟨v,sv,rfl,by rw[h.o];exact h1,by rw[h.o];exact h2,(Fr.Z8 _ hw).trans (h3.mono hw.size (fun _ _ h=>h))⟩
def MW(x:Sub)(on:Bool):∀j,j<3→SV {x with ZV:=on} j=if j=1 then .bool on else SV x j:=by
 intro j hj;have:j=0∨j=1∨j=2:=by omega
 rcases this with rfl|rfl|rfl <;> rfl
def Bn(x:Sub)(q:Int):∀j,j<3→SV {x with want:=q} j=if j=2 then .int .i64 q else SV x j:=by
 intro j hj;have:j=0∨j=1∨j=2:=by omega
 rcases this with rfl|rfl|rfl <;> rfl
section
variable (b:Nat) (R:Room) (p n q:Int) (nm:List UInt8) (ss:List Int) (sa ba:Option Addr) (sl sc bl bc:Nat) (w:World) (hR:ZQ w b R)
include hR
def vA(hp:1≤p∧p<9) :
  Calls prog 110 (Qi (some ⟨b,0,none⟩) (Qa 2 p n q (str nm) sa sl sc ba bl bc)) w (WN b R ⟨2,p,n,q,nm,ss⟩ w):=by
 obtain⟨p,rfl⟩:=RV (show 0≤p by omega);have MH:p<9:=by omega
 have hb:=hR.lt;have c0:=hR.r8 MH;have f0:=hR.Yv p;have HF:Hid (turns R ⟨2,p,n,q,nm,ss⟩ (.slice none 0 0)=([],R.setName p nm)):=rfl;have JM:=Zh (hR.setName MH nm);have TN:Hid (Fr w (· = b) w (w.setCell ⟨b,p,none⟩ (.string (str nm)))):=(Fr.refl _ _ _).setAt _ _;clear hR;go_enter func110,ntmps110;go_wp2
 go_region
 go_wp2;go_ret;exact SX HF (Row.nil _ _) jo (by repeat(first|exact TN.o|refine Fr.drew ?_|refine Fr.alloc ?_ (by simp <;> omega) _))
def zx(hp:1≤p∧p<9) :
  Calls prog 110 (Qi (some ⟨b,0,none⟩) (Qa 3 p n q (str nm) sa sl sc ba bl bc)) w (WN b R ⟨3,p,n,q,nm,ss⟩ w):=by
 obtain⟨p,rfl⟩:=RV (show 0≤p by omega);have MH:p<9:=by omega
 have hb:=hR.lt;have HF:Hid (turns R ⟨3,p,n,q,nm,ss⟩ (.slice none 0 0)=leave R p):=rfl;have C:=Zh (fun(w1:World) (h:Below w w w1)=>pY b R p w1 (hR.below h) MH);clear hR;go_enter func110,ntmps110;go_wp2_with (go_at_call 136;refine(C.o _ tD).mono ?_;rintro e w1 ⟨⟨tv,rfl,Sz⟩,Xh,Wb⟩)
 go_ret;exact SY HF Sz Xh tD Wb
def He(hn:1≤n∧n<9) :
  Calls prog 110 (Qi (some ⟨b,0,none⟩) (Qa 5 p n q (str nm) sa sl sc ba bl bc)) w (WN b R ⟨5,p,n,q,nm,ss⟩ w):=by
 obtain⟨n,rfl⟩:=RV (show 0≤n by omega);have GF:n<9:=by omega
 have hb:=hR.lt;have HF:Hid (turns R ⟨5,p,n,q,nm,ss⟩ (.slice none 0 0)=gone R n):=rfl;have C:=Zh (fun(w1:World) (h:Below w w w1)=>Fj b R n w1 (hR.below h) GF);clear hR;go_enter func110,ntmps110;go_wp2_with (go_at_call 137;refine(C.o _ tD).mono ?_;rintro e w1 ⟨⟨tv,rfl,Sz⟩,Xh,Wb⟩)
 go_ret;exact SY HF Sz Xh tD Wb
def Hd(hp:1≤p∧p<9)(hn:1≤n∧n<9)(hq:0≤q∧q<(R.src n.toNat).ss.length) :
  Calls prog 110 (Qi (some ⟨b,0,none⟩) (Qa 6 p n q (str nm) sa sl sc ba bl bc)) w (WN b R ⟨6,p,n,q,nm,ss⟩ w):=by
 have hb:=hR.lt;have HF:Hid (turns R ⟨6,p,n,q,nm,ss⟩ (.slice none 0 0)=begin R ⟨6,p,n,q,nm,ss⟩):=rfl;have C:=Zh (fun(w1:World) (h:Below w w w1)=>dy b R ⟨6,p,n,q,nm,ss⟩ sa ba sl sc bl bc w1 (hR.below h) hn hp hq);clear hR;go_enter func110,ntmps110;go_wp2_with (go_at_call 138;refine(C.o _ tD).mono ?_;rintro e w1 ⟨⟨tv,rfl,Sz⟩,Xh,Wb⟩)
 go_ret;exact SY HF Sz Xh tD Wb
def vB(hn:1≤n∧n<9) :
  Calls prog 110 (Qi (some ⟨b,0,none⟩) (Qa 8 p n q (str nm) sa sl sc ba bl bc)) w (WN b R ⟨8,p,n,q,nm,ss⟩ w):=by
 obtain⟨n,rfl⟩:=RV (show 0≤n by omega);have GF:n<9:=by omega
 have hb:=hR.lt;have HF:Hid (turns R ⟨8,p,n,q,nm,ss⟩ (.slice none 0 0)=mute R n true):=rfl;have C:=Zh (fun(w1:World) (h:Below w w w1)=>f_ b R n w1 (hR.below h) GF);exact aO
def Bt(hn:1≤n∧n<9)(hw:∀p,p<9→(R.sub n.toNat p).there=true→0≤(R.sub n.toNat p).want∧(R.sub n.toNat p).want<(R.src n.toNat).ss.length) :
  Calls prog 110 (Qi (some ⟨b,0,none⟩) (Qa 9 p n q (str nm) sa sl sc ba bl bc)) w (WN b R ⟨9,p,n,q,nm,ss⟩ w):=by
 obtain⟨n,rfl⟩:=RV (show 0≤n by omega);have GF:n<9:=by omega
 have hb:=hR.lt;have HF:Hid (turns R ⟨9,p,n,q,nm,ss⟩ (.slice none 0 0)=mute R n false):=rfl;have C:=Zh (fun(w1:World) (h:Below w w w1)=>lS b R n w1 (hR.below h) GF hw);exact aO
def KT(hp:1≤p∧p<9)(hn:1≤n∧n<9) :
  Calls prog 110 (Qi (some ⟨b,0,none⟩) (Qa 7 p n q (str nm) sa sl sc ba bl bc)) w (WN b R ⟨7,p,n,q,nm,ss⟩ w):=by
 obtain⟨p,rfl⟩:=RV (show 0≤p by omega);have MH:p<9:=by omega
 obtain⟨n,rfl⟩:=RV (show 0≤n by omega);have GF:n<9:=by omega
 have hb:=hR.lt;have HF:Hid (turns R ⟨7,p,n,q,nm,ss⟩ (.slice none 0 0)=([⟨2,p,n,0,0⟩],R.ZO n p UW)):=rfl;have C:=Zh (fun(w1:World) (h:Below w w w1)=>Ay b R p n w1 (hR.below h) GF MH);clear hR;go_enter func110,ntmps110;go_wp2_with (go_at_call 139;refine(C.o _ tD).mono ?_;rintro e w1 ⟨rfl,Xh,Wb⟩;have Xr:=Zh Xh;have TN:=Zh Wb;clear Xh Wb)
 have hz:=TN.o.size;go_ret;refine SY HF (Yn _ _ 1 _ ([⟨2,p,n,0,0⟩].flatMap Z7) Zd Zi) (Xr.o.alloc _) tD (TN.o.alloc hz _)
def zy(hp:1≤p∧p<9)(hn:1≤n∧n<9) :
  Calls prog 110 (Qi (some ⟨b,0,none⟩) (Qa 10 p n q (str nm) sa sl sc ba bl bc)) w (WN b R ⟨10,p,n,q,nm,ss⟩ w):=by
 obtain⟨p,rfl⟩:=RV (show 0≤p by omega);have MH:p<9:=by omega
 obtain⟨n,rfl⟩:=RV (show 0≤n by omega);have GF:n<9:=by omega
 have hb:=hR.lt;obtain⟨c0,c1,c2⟩:=hR.Ge GF MH;have f1:=hR.Yv (54+n*27+p*3+1);have HF:Hid (turns R ⟨10,p,n,q,nm,ss⟩ (.slice none 0 0)=([⟨4,p,n,0,0⟩],R.ZO n p {R.sub n p with ZV:=true})):=rfl;have JM:=Zh (hR.Sj GF MH (i:=1) Zo (x:={R.sub n p with ZV:=true}) (v:= .bool true) (MW _ _));have TN:Hid (Fr w (· = b) w (w.setCell ⟨b,54+n*27+p*3+1,none⟩ (.bool true))):=(Fr.refl _ _ _).setAt _ _;clear hR;go_enter func110,ntmps110;go_wp2
 go_region
 go_wp2;go_ret;exact SX HF (by first|exact Row.drew (Yn _ _ 1 _ ([⟨4,p,n,0,0⟩].flatMap Z7) Zd Zi)|exact Yn _ _ 1 _ ([⟨4,p,n,0,0⟩].flatMap Z7) Zd (by simp[size_setCell])) jo (by repeat(first|exact TN.o|refine Fr.drew ?_|refine Fr.alloc ?_ (by simp <;> omega) _))
end
def Yo{w w':World}{a:Addr}{v:Value}(hb:Below w w w')(h:w.cell? a=some v):w'.cell? a=some v:=(hb.cell (World.block_lt_of_cell? w _ h)).trans h
def Nz{w:World}{a:Addr}{v:Value}(h:w.cell? a=some v)(o:Obj):(w.alloc o).cell? a=some v:=Yo (Z' _ _) h
def Vn{w:World}{a:Addr}{v:Value}(h:w.cell? a=some v):w.drew.cell? a=some v:=h
def Hp{w:World}{a:Addr}{v:Value}(h:w.drew.drew.cell? a=some v)(o:Obj):(w.alloc o).drew.drew.cell? a=some v:=Nz (w:=w) h o
def Hq{w:World}{a:Addr}{v:Value}(h:w.drew.drew.drew.cell? a=some v)(o:Obj):(w.alloc o).drew.drew.drew.cell? a=some v:=Nz (w:=w) h o
def cell_grown{w w':World}{row:Option Nat}{a:Addr}{v:Value}(hg:w.grownBy w' row)(h:w.cell? a=some v)(WA:∀k,row=some k→a.block<k):w'.cell? a=some v:=
 (World.cell?_of_block (hg.block a.block (World.block_lt_of_cell? w _ h) (fun e=>by have:=WA _ e.symm;omega))).trans h
def BQ{W:World}{m:Nat}(hm:W.heap.size=m)(A:Obj)(cs:Array Value)(e:TypeId)(j:Nat):((W.alloc A).alloc (.cells cs e)).cell? ⟨m+1,j,none⟩=cs[j]?:=by
 subst hm;have:=(ao W A (.cells cs e)).2;simp only[World.cell?,this];rfl
def BP{W:World}{m:Nat}(hm:W.heap.size=m)(B:Obj)(cs:Array Value)(e:TypeId)(j:Nat):((W.alloc (.cells cs e)).alloc B).cell? ⟨m,j,none⟩=cs[j]?:=by
 subst hm;have:=(ao W (.cells cs e) B).1;simp only[World.cell?,this];rfl
structure TX(b:Nat)(R1:Room)(w w':World):Prop where
 room:ZQ w' b R1
 fr:Fr w (· = b) w w'
 size:w.heap.size+1<w'.heap.size
def TX.drew{b:Nat}{R1:Room}{w w':World}(h:TX b R1 w w'):TX b R1 w w'.drew:=⟨h.room.drew,h.fr.drew,h.size⟩
def TX.alloc{b:Nat}{R1:Room}{w w':World}(h:TX b R1 w w')(o:Obj):TX b R1 w (w'.alloc o):=⟨h.room.alloc o,h.fr.alloc (by have:=h.size;omega) o,by have:=h.size;simp;omega⟩
def TX.below{b:Nat}{R1:Room}{w w1 w':World}(h:TX b R1 w w1)(hb:Below w1 w1 w'):TX b R1 w w':=
 ⟨h.room.below hb,h.fr.trans ((Fr.Z8 _ hb).mono (by have:=h.size;omega) (fun _ _ h=>h)),by have:=h.size;have:=hb.size;omega⟩
def TX.jG{b:Nat}{R1:Room}{w w':World}(h:TX b R1 w w'.drew.drew)(o:Obj):TX b R1 w (w'.alloc o).drew.drew:=
 h.below ⟨rfl,rfl,rfl,by show w'.heap.size≤(w'.alloc o).heap.size;simp,fun k hk=>Below.heap_alloc _ _ _ hk⟩
def TX.jH{b:Nat}{R1:Room}{w w':World}(h:TX b R1 w w'.drew.drew.drew)(o:Obj):TX b R1 w (w'.alloc o).drew.drew.drew:=
 h.below ⟨rfl,rfl,rfl,by show w'.heap.size≤(w'.alloc o).heap.size;simp,fun k hk=>Below.heap_alloc _ _ _ hk⟩
def TX.grown{b:Nat}{R1:Room}{w w1 w':World}(h:TX b R1 w w1)(hb:b<w.heap.size){base:Nat}{v:Value}{m:Nat}{ys:List Value}(ho:w1.ownsRow base 158 5 v m ys)(hg:w1.grownBy w' v.ownBlock)(hB:w.heap.size≤base):TX b R1 w w':=
 ⟨ZQ.grown h.room ho hg Zo Zd,h.fr.grown hg (by have:=h.size;omega) (fun k hk=>PJ hB (YG ho k hk)),by have:=h.size;have:=hg.size;omega⟩
def OH(w:World)(e:TypeId)(size n m base:Nat)(xs:List Value)(hl:xs.length=n*size)(hn:n≤maxLen)(hm:m=w.heap.size)(hB:base≤m):(w.alloc (.cells xs.toArray e)).ownsRow base e size (.slice (some ⟨m,0,none⟩) n n) n xs:=by
 exact Yt19
def TX.xP{b:Nat}{R1:Room}{w w1 w':World}(h:TX b R1 w w1)(hb:b<w.heap.size){v:Value}{m:Nat}{ys:List Value}(ho:w1.ownsRow (w.heap.size+2) 158 5 v m ys)(hg:Hid (w1.grownBy w' v.ownBlock)) :
  TX b R1 w w'∧∀a u,a.block≤w.heap.size+1→w1.cell? a=some u→w'.cell? a=some u:=
 ⟨h.grown hb ho hg.o Zo,fun a u ha hu=>cell_grown hg.o hu (fun k hk=>by have:=YG ho k hk;omega)⟩
def Oj{w:World}{b m i j:Nat}{u v:Value}(hb:b<m)(h:w.cell? ⟨m,j,none⟩=some v):(w.setCell ⟨b,i,none⟩ u).cell? ⟨m,j,none⟩=some v:=by
 rw[World.cell?_setCell_other _ _ _ _ (by intro e;injection e;omega)];exact h
def oV{w:World}{b m j i0 i1 i2 i3 i4:Nat}{u0 u1 u2 u3 u4 v:Value}(hb:b<m)(h:w.cell? ⟨m,j,none⟩=some v):(((((w.setCell ⟨b,i0,none⟩ u0).setCell ⟨b,i1,none⟩ u1).setCell ⟨b,i2,none⟩ u2).setCell ⟨b,i3,none⟩ u3).setCell ⟨b,i4,none⟩ u4).cell? ⟨m,j,none⟩=some v:=
 Oj hb (Oj hb (Oj hb (Oj hb (Oj hb h))))
def qK{w:World}{b m i0 i1 i2 i3 i4:Nat}{u0 u1 u2 u3 u4:Value}(h:m<w.heap.size):m<(((((w.setCell ⟨b,i0,none⟩ u0).setCell ⟨b,i1,none⟩ u1).setCell ⟨b,i2,none⟩ u2).setCell ⟨b,i3,none⟩ u3).setCell ⟨b,i4,none⟩ u4).heap.size:=by
 simpa[size_setCell]using h
section
variable (b:Nat) (R:Room) (p n q:Int) (nm:List UInt8) (ss:List Int) (sa ba:Option Addr) (sl sc bl bc:Nat) (w:World) (hR:ZQ w b R)
include hR
def Er(hp:1≤p∧p<9)(hn:1≤n∧n<9)(ZW:XG w (.slice sa sl sc) ss.length (bd ss))(hl:ss.length≤1000000) :
  Calls prog 110 (Qi (some ⟨b,0,none⟩) (Qa 4 p n q (str nm) sa sl sc ba bl bc)) w (WN b R ⟨4,p,n,q,nm,ss⟩ w):=by
 obtain⟨p,rfl⟩:=RV (show 0≤p by omega);have MH:p<9:=by omega
 obtain⟨n,rfl⟩:=RV (show 0≤n by omega);have GF:n<9:=by omega
 have hb:=hR.lt;have R8:Hid (∀w1,Below w w w1→ZQ w1 b R):=fun w1 h=>hR.below h
 have Hi:Hid (sl=ss.length):=by
  obtain⟨a',c',e,_⟩:=ZW;injection e
 have HUF:Hid (∀w1,ZQ w1 b R→∀j,w1.frozen? ⟨b,j,none⟩=false):=fun w1 h j=>h.Yv j
 have C:=Zh (fun(w1:World) (h:Below w w w1)=>Bz (.slice sa sl sc) ss w1 (ZW.below h) hl);have JJ:∀A B:Obj,Below w w ((w.alloc A).alloc B).drew:=fun A B=>(((YE _ _).alloc (Zq _) A).alloc Zi B).drew
 clear hR ZW hl;go_enter func110,ntmps110;go_wp2
 go_region_held3 (fun w'=>w'.cell? ⟨w,1,none⟩=some (.int .i64 p)∧w'.cell? ⟨w,2,none⟩=some (.int .i64 n)∧w'.cell? ⟨w,5,none⟩=some (.slice sa sl sc)∧Fr w (· = b) w w'∧w.heap.size+1<w'.heap.size) (first|(refine⟨?_,?_,?_,?_,?_⟩ <;> first|with_reducible assumption|(with_reducible refine Fr.drew ?_;with_reducible assumption)|(with_reducible refine Fr.Z8 _ ?_;with_reducible apply JJ)|((with_reducible refine Fr.setAt ?_ _ _);(repeat(with_reducible refine Fr.setAt ?_ _ _));with_reducible assumption)|(with_reducible refine oV hb ?_;with_reducible assumption)|(with_reducible refine qK ?_;with_reducible assumption)|go_keep)|go_keep) (first|(go_at_call 112;go_split_ands;refine Calls.mono (C.o _ (JJ _ _)) ?_;rintro e w2 ⟨⟨cv,rfl,hcr⟩,Y7⟩;have Yk:=Below.trans (JJ _ _) (Y7.mono (jD (Nat.lt_of_succ_lt WE)));have RD:=Fr.Z8 (· = b) Yk;have pN:=Od WE Y7.size;obtain⟨ca,cc,hce,hcx⟩:=id hcr;clear hcx;subst hce;have HCR:=Zh hcr;clear hcr;obtain⟨s0,s1,s2,s3,s4⟩:=(R8.o w2 Yk).L_ GF;have f0:=HUF.o w2 (R8.o w2 Yk) (9+n*5);have f1:=HUF.o w2 (R8.o w2 Yk) (9+n*5+1);have f2:=HUF.o w2 (R8.o w2 Yk) (9+n*5+2);have f3:=HUF.o w2 (R8.o w2 Yk) (9+n*5+3);have f4:=HUF.o w2 (R8.o w2 Yk) (9+n*5+4);have k1:=Yo (a:=⟨w,1,none⟩) Y7 WE;have k2:=Yo (a:=⟨w,2,none⟩) Y7 WE;have k5:=Yo (a:=⟨w,5,none⟩) Y7 WE))
 go_wp2;go_ret;have HF:Hid (turns R ⟨4,p,n,q,nm,ss⟩ (.slice ca ss.length cc)=([],R.YW n ⟨true,n,p,.slice ca ss.length cc,ss,false⟩)):=rfl;exact SX HF (Row.nil _ _) ((R8.o w2 Yk).YW GF ⟨true,n,p,.slice ca ss.length cc,ss,false⟩ HCR.o) (((((RD.setAt _ _).setAt _ _).setAt _ _).setAt _ _).setAt _ _)
end
section
variable (b:Nat) (R:Room) (p n q:Int) (nm:List UInt8) (ss:List Int) (sa ba:Option Addr) (sl sc bl bc:Nat) (w:World) (hR:ZQ w b R)
include hR
def Bq(hp:1≤p∧p<9)(hn:1≤n∧n<9)(hw:0≤(R.sub n.toNat p.toNat).want∧(R.sub n.toNat p.toNat).want<(R.src n.toNat).ss.length) :
  Calls prog 110 (Qi (some ⟨b,0,none⟩) (Qa 11 p n q (str nm) sa sl sc ba bl bc)) w (WN b R ⟨11,p,n,q,nm,ss⟩ w):=by
 obtain⟨p,rfl⟩:=RV (show 0≤p by omega);have MH:p<9:=by omega
 obtain⟨n,rfl⟩:=RV (show 0≤n by omega);have GF:n<9:=by omega
 have hb:=hR.lt;obtain⟨c0,c1,c2⟩:=hR.Ge GF MH;have fz:=hR.Yv (54+n*27+p*3+1);have HF:Hid (turns R ⟨11,p,n,q,nm,ss⟩ (.slice none 0 0)=(⟨5,p,n,0,0⟩ :: waits (R.ZO n p {R.sub n p with ZV:=false}) p n,R.ZO n p {R.sub n p with ZV:=false})):=rfl;have JM:=Zh (hR.Sj GF MH (i:=1) Zo (x:={R.sub n p with ZV:=false}) (v:= .bool false) (MW _ _));have TN:Hid (Fr w (· = b) w (w.setCell ⟨b,54+n*27+p*3+1,none⟩ (.bool false))):=(Fr.refl _ _ _).setAt _ _
 have CW:Hid (∀w1,ZQ w1 b (R.ZO n p {R.sub n p with ZV:=false})→Calls prog 141 (Qv (some ⟨b,0,none⟩) p n) w1 fun e w'=>(∃v,e = .returned v∧Yx w' v (waits (R.ZO n p {R.sub n p with ZV:=false}) p n))∧Below w1 w1 w'):=
  fun w1 h=>JG b _ p n w1 h GF MH (by rw[VW];exact hw)
 have iX:(waits (R.ZO n p {R.sub n p with ZV:=false}) p n).length≤1:=by unfold waits;split <;> simp
 clear hR hw;have HTX:Hid (∀B1 B2:Obj,TX b (R.ZO n p {R.sub n p with ZV:=false}) w (((w.setCell ⟨b,54+n*27+p*3+1,none⟩ (.bool false)).alloc B1).alloc B2).drew):=fun B1 B2=>⟨((JM.o.alloc _).alloc _).drew,((TN.o.alloc Zi _).alloc Zi _).drew,by simp⟩
 generalize waits (R.ZO n p {R.sub n p with ZV:=false}) p n=W at *;generalize R.ZO n p {R.sub n p with ZV:=false}=R1 at *;go_enter func110,ntmps110;go_wp2
 go_region
 go_wp2;have htx:=HTX.o
 go_region_held3 (fun w'=>w'.cell? ⟨w.heap.size+1,0,none⟩=some (.int .i64 5)∧w'.cell? ⟨w.heap.size+1,1,none⟩=some (.int .i64 p)∧w'.cell? ⟨w.heap.size+1,2,none⟩=some (.int .i64 n)∧w'.cell? ⟨w.heap.size+1,3,none⟩=some (.int .i64 0)∧w'.cell? ⟨w.heap.size+1,4,none⟩=some (.int .u32 0)∧w'.cell? ⟨w,1,none⟩=some (.int .i64 p)∧w'.cell? ⟨w,2,none⟩=some (.int .i64 n)∧TX b R1 w w') ((go_split_ands;((repeat' apply And.intro) <;> first|with_reducible assumption|((with_reducible apply Vn);with_reducible assumption)|(with_reducible apply TX.drew;with_reducible assumption)|(with_reducible apply TX.drew;with_reducible apply htx)|(with_reducible apply Nz;with_reducible assumption)|(with_reducible apply Hp;with_reducible assumption)|(with_reducible apply Hq;with_reducible assumption)|(with_reducible apply TX.alloc;with_reducible assumption)|(with_reducible apply TX.jG;with_reducible assumption)|(with_reducible apply TX.jH;with_reducible assumption)|((with_reducible apply Vn);(with_reducible apply Vn);(with_reducible refine(BQ (size_setCell _ _ _) _ _ _ _).trans ?_);rfl)|((with_reducible apply Vn);(with_reducible apply Vn);(with_reducible refine(BP (size_setCell _ _ _) _ _ _ _).trans ?_);rfl)|go_keep))) (first|(go_at_call 141;go_split_ands;refine Calls.mono (CW.o _ (TX.room WE)) ?_;rintro e w2 ⟨⟨tv,rfl,Sz⟩,Y7⟩;have Ew:=Zh Sz;clear Sz;have k0:=Yo (a:=⟨w.heap.size+1,0,none⟩) Y7 WE;have k1:=Yo (a:=⟨w.heap.size+1,1,none⟩) Y7 WE;have k2:=Yo (a:=⟨w.heap.size+1,2,none⟩) Y7 WE;have k3:=Yo (a:=⟨w.heap.size+1,3,none⟩) Y7 WE;have k4:=Yo (a:=⟨w.heap.size+1,4,none⟩) Y7 WE;have k5:=Yo (a:=⟨w,1,none⟩) Y7 WE;have k6:=Yo (a:=⟨w,2,none⟩) Y7 WE;have tx2:=TX.below WE Y7)|(go_split_ands;refine Y9 Zr (.tmp 105) (.tmp 111) 98 Zr (w.heap.size+2) Xt _ 1 ([Yz.mk 5 p n 0 0].flatMap Z7) Zr ?_ _ W.length (W.flatMap Z7) Zr ?_ (Vo _) (XT _) Zo Zo ?_ ?_;(first|exact OH _ _ 5 1 _ _ ([Yz.mk 5 p n 0 0].flatMap Z7) rfl Zd rfl (by have:=tx2.size;omega)|(exact Zp (by repeat(first|exact P_ _ _ 5 1 _ ([Yz.mk 5 p n 0 0].flatMap Z7) rfl Zd Zi|refine WY ?_)) Y7));(first|exact Ew.o|exact Ew.o.below (Z' _ _));(have hs:=TX.size WE;omega);intro v' w3 HO HG;obtain⟨tx3,xV⟩:=TX.xP WE hb (by first|exact OH _ _ 5 1 _ _ ([Yz.mk 5 p n 0 0].flatMap Z7) rfl Zd rfl (by have:=tx2.size;omega)|(exact Zp (by repeat(first|exact P_ _ _ 5 1 _ ([Yz.mk 5 p n 0 0].flatMap Z7) rfl Zd Zi|refine WY ?_)) Y7)) HG;have g0:=xV ⟨w.heap.size+1,0,none⟩ _ Zi WE;have g1:=xV ⟨w.heap.size+1,1,none⟩ _ Zi WE;have g2:=xV ⟨w.heap.size+1,2,none⟩ _ Zi WE;have g3:=xV ⟨w.heap.size+1,3,none⟩ _ Zi WE;have g4:=xV ⟨w.heap.size+1,4,none⟩ _ Zi WE;have g5:=xV ⟨w,1,none⟩ _ Zi WE;have g6:=xV ⟨w,2,none⟩ _ Zi WE;clear xV))
 all_goals
  go_wp2;go_ret;have ZW:=Row.Z4 HO.o;rw[Nat.add_comm]at ZW;exact SX HF ZW tx3.room tx3.fr
end
section
variable (b:Nat) (R:Room) (p n q:Int) (nm:List UInt8) (ss:List Int) (sa ba:Option Addr) (sl sc bl bc:Nat) (w:World) (hR:ZQ w b R)
include hR
def Br(hp:1≤p∧p<9)(hn:1≤n∧n<9)(hw:0≤q∧q<(R.src n.toNat).ss.length) :
  Calls prog 110 (Qi (some ⟨b,0,none⟩) (Qa 12 p n q (str nm) sa sl sc ba bl bc)) w (WN b R ⟨12,p,n,q,nm,ss⟩ w):=by
 obtain⟨p,rfl⟩:=RV (show 0≤p by omega);have MH:p<9:=by omega
 obtain⟨n,rfl⟩:=RV (show 0≤n by omega);have GF:n<9:=by omega
 have hb:=hR.lt;obtain⟨c0,c1,c2⟩:=hR.Ge GF MH;have fz:=hR.Yv (54+n*27+p*3+2);have HF:Hid (turns R ⟨12,p,n,q,nm,ss⟩ (.slice none 0 0)=(⟨8,p,n,q,0⟩ :: waits (R.ZO n p {R.sub n p with want:=q}) p n,R.ZO n p {R.sub n p with want:=q})):=rfl;have JM:=Zh (hR.Sj GF MH (i:=2) Zo (x:={R.sub n p with want:=q}) (v:= .int .i64 q) (Bn _ _));have TN:Hid (Fr w (· = b) w (w.setCell ⟨b,54+n*27+p*3+2,none⟩ (.int .i64 q))):=(Fr.refl _ _ _).setAt _ _
 have CW:Hid (∀w1,ZQ w1 b (R.ZO n p {R.sub n p with want:=q})→Calls prog 141 (Qv (some ⟨b,0,none⟩) p n) w1 fun e w'=>(∃v,e = .returned v∧Yx w' v (waits (R.ZO n p {R.sub n p with want:=q}) p n))∧Below w1 w1 w'):=
  fun w1 h=>JG b _ p n w1 h GF MH (by rw[VW];exact hw)
 have iX:(waits (R.ZO n p {R.sub n p with want:=q}) p n).length≤1:=by unfold waits;split <;> simp
 clear hR hw;have HTX:Hid (∀B1 B2:Obj,TX b (R.ZO n p {R.sub n p with want:=q}) w (((w.setCell ⟨b,54+n*27+p*3+2,none⟩ (.int .i64 q)).alloc B1).alloc B2).drew.drew):=fun B1 B2=>⟨((JM.o.alloc _).alloc _).drew.drew,((TN.o.alloc Zi _).alloc Zi _).drew.drew,by simp⟩
 generalize waits (R.ZO n p {R.sub n p with want:=q}) p n=W at *;generalize R.ZO n p {R.sub n p with want:=q}=R1 at *;go_enter func110,ntmps110;go_wp2
 go_region
 go_wp2
 go_region
 go_wp2;have htx:=HTX.o
 go_region_held3 (fun w'=>w'.cell? ⟨w.heap.size+1,0,none⟩=some (.int .i64 8)∧w'.cell? ⟨w.heap.size+1,1,none⟩=some (.int .i64 p)∧w'.cell? ⟨w.heap.size+1,2,none⟩=some (.int .i64 n)∧w'.cell? ⟨w.heap.size+1,3,none⟩=some (.int .i64 q)∧w'.cell? ⟨w.heap.size+1,4,none⟩=some (.int .u32 0)∧w'.cell? ⟨w,1,none⟩=some (.int .i64 p)∧w'.cell? ⟨w,2,none⟩=some (.int .i64 n)∧TX b R1 w w') ((go_split_ands;((repeat' apply And.intro) <;> first|with_reducible assumption|((with_reducible apply Vn);with_reducible assumption)|(with_reducible apply TX.drew;with_reducible assumption)|(with_reducible apply TX.drew;with_reducible apply htx)|(with_reducible apply Nz;with_reducible assumption)|(with_reducible apply Hp;with_reducible assumption)|(with_reducible apply Hq;with_reducible assumption)|(with_reducible apply TX.alloc;with_reducible assumption)|(with_reducible apply TX.jG;with_reducible assumption)|(with_reducible apply TX.jH;with_reducible assumption)|((with_reducible apply Vn);(with_reducible apply Vn);(with_reducible apply Vn);(with_reducible refine(BQ (size_setCell _ _ _) _ _ _ _).trans ?_);rfl)|((with_reducible apply Vn);(with_reducible apply Vn);(with_reducible apply Vn);(with_reducible refine(BP (size_setCell _ _ _) _ _ _ _).trans ?_);rfl)|go_keep))) (first|(go_at_call 141;go_split_ands;refine Calls.mono (CW.o _ (TX.room WE)) ?_;rintro e w2 ⟨⟨tv,rfl,Sz⟩,Y7⟩;have Ew:=Zh Sz;clear Sz;have k0:=Yo (a:=⟨w.heap.size+1,0,none⟩) Y7 WE;have k1:=Yo (a:=⟨w.heap.size+1,1,none⟩) Y7 WE;have k2:=Yo (a:=⟨w.heap.size+1,2,none⟩) Y7 WE;have k3:=Yo (a:=⟨w.heap.size+1,3,none⟩) Y7 WE;have k4:=Yo (a:=⟨w.heap.size+1,4,none⟩) Y7 WE;have k5:=Yo (a:=⟨w,1,none⟩) Y7 WE;have k6:=Yo (a:=⟨w,2,none⟩) Y7 WE;have tx2:=TX.below WE Y7)|(go_split_ands;refine Y9 Zr (.tmp 132) (.tmp 138) 98 Zr (w.heap.size+2) Xt _ 1 ([Yz.mk 8 p n q 0].flatMap Z7) Zr ?_ _ W.length (W.flatMap Z7) Zr ?_ (Vo _) (XT _) Zo Zo ?_ ?_;(first|exact OH _ _ 5 1 _ _ ([Yz.mk 8 p n q 0].flatMap Z7) rfl Zd rfl (by have:=tx2.size;omega)|(exact Zp (by repeat(first|exact P_ _ _ 5 1 _ ([Yz.mk 8 p n q 0].flatMap Z7) rfl Zd Zi|refine WY ?_)) Y7));(first|exact Ew.o|exact Ew.o.below (Z' _ _));(have hs:=TX.size WE;omega);intro v' w3 HO HG;obtain⟨tx3,xV⟩:=TX.xP WE hb (by first|exact OH _ _ 5 1 _ _ ([Yz.mk 8 p n q 0].flatMap Z7) rfl Zd rfl (by have:=tx2.size;omega)|(exact Zp (by repeat(first|exact P_ _ _ 5 1 _ ([Yz.mk 8 p n q 0].flatMap Z7) rfl Zd Zi|refine WY ?_)) Y7)) HG;have g0:=xV ⟨w.heap.size+1,0,none⟩ _ Zi WE;have g1:=xV ⟨w.heap.size+1,1,none⟩ _ Zi WE;have g2:=xV ⟨w.heap.size+1,2,none⟩ _ Zi WE;have g3:=xV ⟨w.heap.size+1,3,none⟩ _ Zi WE;have g4:=xV ⟨w.heap.size+1,4,none⟩ _ Zi WE;have g5:=xV ⟨w,1,none⟩ _ Zi WE;have g6:=xV ⟨w,2,none⟩ _ Zi WE;clear xV))
 all_goals
  go_wp2;go_ret;have ZW:=Row.Z4 HO.o;rw[Nat.add_comm]at ZW;exact SX HF ZW tx3.room tx3.fr
end
def qP(b:Nat)(R:Room)(o:Op)(sa ba:Option Addr)(sc bl bc:Nat)(w:World)(hR:ZQ w b R)(hI:Inv R)(ok:Ok R o)
  (ZW:XG w (.slice sa o.ZG.length sc) o.ZG.length (bd o.ZG)) :
  Calls prog 110 (Qi (some ⟨b,0,none⟩) (Jr o sa o.ZG.length sc ba bl bc)) w (WN b R o w):=by
 have V9:=ok;obtain⟨kd,p,n,q,nm,ss⟩:=o;obtain⟨hk,hp,hj,ht,hs,ue,fI,Lr⟩:=ok;dsimp only at *;by_cases k2:kd=2
 ·subst k2;exact vA b R p n q nm ss sa ba _ sc bl bc w hR hp
 by_cases k3:kd=3
 ·subst k3;exact zx b R p n q nm ss sa ba _ sc bl bc w hR hp
 have hn:=hs Zo;by_cases k4:kd=4
 ·subst k4;have h2:=(F3 (ue rfl)).2.1;dsimp only at h2;exact Er b R p n q nm ss sa ba _ sc bl bc w hR hp hn ZW Zo
 have Lr:=Lr Zo;have hb:=fun q=>hI.YZ n.toNat q
 by_cases k5:kd=5
 ·subst k5;exact He b R p n q nm ss sa ba _ sc bl bc w hR hn
 by_cases k6:kd=6
 ·subst k6;exact Hd b R p n q nm ss sa ba _ sc bl bc w hR hp hn (OD (Oe Lr rfl).2.2)
 by_cases k7:kd=7
 ·subst k7;exact KT b R p n q nm ss sa ba _ sc bl bc w hR hp hn
 by_cases k8:kd=8
 ·subst k8;exact vB b R p n q nm ss sa ba _ sc bl bc w hR hn
 by_cases k9:kd=9
 ·subst k9;exact Bt b R p n q nm ss sa ba _ sc bl bc w hR hn fun p' _ ht=>⟨(hb p' ht).2.2.2.2.2.2.2.1,(hb p' ht).2.2.2.2.2.2.2.2⟩
 obtain⟨h1,_,_,h4⟩:=Tf Lr (by right;show 10≤kd;omega);dsimp only at h1 h4;by_cases k10:kd=10
 ·subst k10;exact zy b R p n q nm ss sa ba _ sc bl bc w hR hp hn
 by_cases k11:kd=11
 ·subst k11;exact Bq b R p n q nm ss sa ba _ sc bl bc w hR hp hn ⟨(hb _ h1).2.2.2.2.2.2.2.1,(hb _ h1).2.2.2.2.2.2.2.2⟩
 obtain rfl:kd=12:=by omega
 exact Br b R p n q nm ss sa ba _ sc bl bc w hR hp hn (OD (h4 rfl).1)
def EB(b:Nat)(R:Room)(o:Op)(w:World)(e:Ending)(w':World):Prop:=
 ∃v sv,e = .returned (.tuple #[v,.int .i64 (Wq R o sv).2])∧Yx w' v (Wq R o sv).1.1∧ZQ w' b (Wq R o sv).1.2∧Fr w (· = b) w w'
def Aw{b:Nat}{R:Room}{o:Op}{w w':World}{x:Int}(hx:Hid (XQ R o=x))(WA:x≠0)(h2:ZQ w' b R)(h3:Fr w (· = b) w w'):EB b R o w (.returned (.tuple (Ja none 0 0 x))) w':=by
 have h:∀sv,Wq R o sv=(([],R),x):=fun sv=>by unfold Wq;rw[hx.o,ZU WA]
 exact⟨.slice none 0 0,.slice none 0 0,by rw[h],by rw[h];exact Row.nil _ _,by rw[h];exact h2,h3⟩
def Av{b:Nat}{R:Room}{o:Op}{w w1 w':World}{v:Value}(hx:Hid (XQ R o=0))(hb:Below w w w1)(h:WN b R o w1 (.returned v) w'):EB b R o w (.returned (.tuple #[v,.int .i64 0])) w':=by
 obtain⟨v',sv,he,h1,h2,h3⟩:=h;injection he with he
 subst he;have hd:Wq R o sv=(turns R o sv,0):=by unfold Wq;rw[hx.o];simp
 exact⟨v,sv,by rw[hd],by rw[hd];exact h1,by rw[hd];exact h2,(Fr.Z8 _ hb).trans (h3.mono hb.size (fun _ _ h=>h))⟩
def Ep{b:Nat}{R:Room}{o:Op}{w w':World}{e:Ending}(h:WN b R o w e w'):∃v,e = .returned v∧WN b R o w (.returned v) w':=by
 obtain⟨v,sv,he,h1⟩:=h;exact⟨v,he,v,sv,rfl,h1⟩
def Il{R:Room}(hI:Inv R):∀p,(R.names p).length<9223372036854775807:=by
 intro p;by_cases h:R.names p=[]
 ·rw[h];decide
 ·have:=rY (hI.nameAt p h).2;omega
def ij(b:Nat)(R:Room)(o:Op)(sa ba:Option Addr)(sc bl bc:Nat)(w:World)(hR:ZQ w b R)(hI:Inv R)(hT:Xn w)(UD:o.name.length<9223372036854775807)
  (ZW:XG w (.slice sa o.ZG.length sc) o.ZG.length (bd o.ZG)) :
  Calls prog 77 (Qi (some ⟨b,0,none⟩) (Jr o sa o.ZG.length sc ba bl bc)) w (EB b R o w):=by
 have CW:=Zh (fun(w1:World) (h:Below w w w1)=>qV b R o sa ba sc bl bc w1 (hR.below h) (Utf8Tabs_below hT h) UD (Il hI) (ZW.below h));have CT:=Zh (fun(w1:World) (h:Below w w w1) (ok:XQ R o=0)=>qP b R o sa ba sc bl bc w1 (hR.below h) hI (O4 ok) (ZW.below h));have hb:=hR.lt;have HRB:Hid (∀w1,Below w w w1→ZQ w1 b R):=fun w1 h=>hR.below h
 have HDW:=Zh (fun(w':World) x=>@Aw b R o w w' x);have HDR:=Zh (fun(w1 w':World) v=>@Av b R o w w1 w' v);have HTV:=Zh (fun(w1 w':World) e=>@Ep b R o w1 w' e);clear hR hI hT UD ZW;obtain⟨kd,p,n,q,nm,ss⟩:=o;dsimp only at *;generalize EB b R ⟨kd,p,n,q,nm,ss⟩ w=DP at *;generalize hwx:XQ R ⟨kd,p,n,q,nm,ss⟩=x at *;have HX:=Zh hwx;clear hwx;by_cases hx:x=0
 ·subst hx;go_enter func77,ntmps77;go_wp2_with fail
  refine(CW.o _ (Z' _ _)).mono ?_;rintro e w1 ⟨rfl,YV⟩;have c0:=Yo (a:=⟨w,0,none⟩) YV (v:= .int .i64 kd) Zi;have c1:=Yo (a:=⟨w,1,none⟩) YV (v:= .int .i64 p) Zi;have c2:=Yo (a:=⟨w,2,none⟩) YV (v:= .int .i64 n) Zi;have c3:=Yo (a:=⟨w,3,none⟩) YV (v:= .int .i64 q) Zi;have c4:=Yo (a:=⟨w,4,none⟩) YV (v:= .string (str nm)) Zi;have c5:=Yo (a:=⟨w,5,none⟩) YV (v:= .slice sa ss.length sc) Zi;have c6:=Yo (a:=⟨w,6,none⟩) YV (v:= .slice ba bl bc) Zi;have WO:Below w w w1:=(Z' _ _).trans (YV.mono Zi);clear YV;go_wp2_with fail
  refine(CT.o _ WO trivial).mono ?_;intro e w2 hp;obtain⟨tv,rfl,hp⟩:=HTV.o _ _ _ hp;have HP:=Zh hp;clear hp;go_wp2_with fail
  exact HDR.o _ _ _ (by first|exact rfl|exact trivial) WO HP.o
 ·have rO:(x !=0)=true:=by rw[Rs];exact hx
  have HXN:=Zh hx;clear hx;go_enter func77,ntmps77;go_wp2_with fail
  refine(CW.o _ (Z' _ _)).mono ?_;rintro e w1 ⟨rfl,YV⟩;have WO:Below w w w1:=(Z' _ _).trans (YV.mono Zi);clear YV;go_wp2_with fail
  exact HDW.o _ _ (by first|exact rfl|exact trivial) HXN.o (HRB.o _ WO) (Fr.Z8 _ WO)
def mR:∀j,j<297→(((List.range 297).map (Wy empty)).toArray)[j]?=some (Wy empty j):=by
 intro j hj;simp[hj]
def rA(w:World):Calls prog 69 #[] w fun e w'=>e = .returned (.pointer (some ⟨w,0,none⟩))∧ZQ w' w empty∧Below w w w':=by
 go_enter func69,ntmps69;go_wp2;go_ret;have HZ:Tryz.zeroCells152=((List.range 297).map (Wy empty)).toArray:=by kernel_rfl
 refine⟨rfl,⟨⟨_,Z9 _ _,by rw[HZ];simp,fun j hj=>by rw[HZ];exact mR j hj⟩,fun n _=>Row.nil _ _⟩,Z' _ _⟩
def r_(R:Room)(x:Int):∀k n:Nat,n+k≤9→0≤(Ro R x k n).1∧(Ro R x k n).1<9
 | 0,_,_=>by simp[Ro]
 | k+1,n,h=>by
  unfold Ro;split
  ·dsimp only;omega
  ·exact r_ R x k (n+1) Zo
def of_lt(R:Room)(x:Int):0≤(of R x).1∧(of R x).1<9:=r_ R x 9 0 Zo
def wj(b:Nat)(R:Room)(p x:Int)(w:World)(hR:ZQ w b R) :
  Calls prog 132 (Jd (some ⟨b,0,none⟩) p x) w fun e w'=>
   (∃v,e = .returned (.tuple #[v,.int .i64 (YM R p x).2])∧Yx w' v (YM R p x).1.1)∧ZQ w' b (YM R p x).1.2∧Fr w (· = b) w w':=by
 have hb:=hR.lt;have CO:=Zh (Iy b R x w hR);have Ow:=of_lt R x;have HG:Hid (YM R p x=if !(of R x).2.2 || !Y5 R p||decide ((R.src (of R x).1.toNat).own≠p)then(([],R),8)else(gone R (of R x).1.toNat,0)):=rfl;have HR:Hid (∀w1,Below w w w1→ZQ w1 b R):=fun w1 h=>hR.below h
 clear hR;generalize of R x=o at *;obtain⟨o1,o2,o3⟩:=o;dsimp only at *;obtain⟨n,rfl⟩:=RV Ow.1;rw[Wi]at HG;have hn:n<9:=by omega
 cases o3
 ·have HF:Hid (YM R p x=(([],R),8)):=by show _=_;rw[HG.o];rfl
  go_enter func132,ntmps132;go_wp2_with (go_at_call 127;refine CO.o.mono ?_;rintro e w1 ⟨rfl,YV⟩)
  exact Yt20
 have CJ:Hid (∀w1,Below w w w1→_):=fun w1 h=>Tc b R p w1 (HR.o w1 h)
 have CG:Hid (∀w1,Below w w w1→_):=fun w1 h=>Fj b R n w1 (HR.o w1 h) hn
 have HSC:Hid (∀w1,Below w w w1→w1.cell? ⟨b,9+n*5+1+1,none⟩=some (.int .i64 (R.src n).own)):=fun w1 h=>((HR.o w1 h).L_ hn).2.2.1
 cases hj:Y5 R p
 ·have HF:Hid (YM R p x=(([],R),8)):=by show _=_;rw[HG.o,hj];rfl
  rw[hj]at CJ;clear hj;go_enter func132,ntmps132;go_wp2_with (first|(go_at_call 127;refine CO.o.mono ?_;rintro e w1 ⟨rfl,YV⟩)|(go_at_call 80;refine(CJ.o _ YV).mono ?_;rintro e w2 ⟨rfl,rfl⟩))
  exact Yt20
 rw[hj]at CJ HG;clear hj;by_cases ho:(R.src n).own=p
 ·have HF:Hid (YM R p x=(gone R n,0)):=by show _=_;rw[HG.o];simp[ho]
  rw[ho]at HSC;clear ho HG;generalize gone R n=G at *;go_enter func132,ntmps132;go_wp2_with (first|(go_at_call 127;refine CO.o.mono ?_;rintro e w1 ⟨rfl,YV⟩;have hsc:=HSC.o _ YV)|(go_at_call 80;refine(CJ.o _ YV).mono ?_;rintro e w2 ⟨rfl,rfl⟩)|(go_at_call 137;refine(CG.o _ YV).mono ?_;rintro e w2 ⟨⟨tv,rfl,Sz⟩,Xh,Wb⟩))
  go_ret2
  rw[HF.o];exact⟨⟨_,rfl,Sz⟩,Xh,(Fr.Z8 _ YV).trans (Wb.mono YV.size (fun _ _ h=>h))⟩
 ·have HF:Hid (YM R p x=(([],R),8)):=by show _=_;rw[HG.o];simp[ho]
  have rO:((R.src n).own !=p)=true:=by rw[Rs];exact ho
  clear ho HG;go_enter func132,ntmps132;go_wp2_with (first|(go_at_call 127;refine CO.o.mono ?_;rintro e w1 ⟨rfl,YV⟩;have hsc:=HSC.o _ YV)|(go_at_call 80;refine(CJ.o _ YV).mono ?_;rintro e w2 ⟨rfl,rfl⟩))
  exact Yt20
structure U1 where
 num:Int
 name:List UInt8
deriving DecidableEq
structure V4 where
 num:Int
 own:Int
 ss:List Int
 ZJ:Bool
deriving DecidableEq
structure Vd where
 peer:Int
 source:Int
 want:Int
 ZV:Bool
deriving DecidableEq
structure ZK where
 Zu:List U1
 Yb:List V4
 ZX:List Vd
deriving DecidableEq
def Yr(x:U1):List Value:=(Q6 x.num (str x.name))
def Y_(x:V4×Value):List Value:=[.int .i64 x.1.num,.int .i64 x.1.own,x.2,.bool x.1.ZJ]
def Zb(x:Vd):List Value:=(Ql x.peer x.source x.want x.ZV)
structure Hl(w:World)(pv sv uv:Value)(T:ZK):Prop where
 Zu:Row w 103 pv T.Zu.length (T.Zu.flatMap Yr)
 Yb:∃ms:List (V4×Value),ms.map Prod.fst=T.Yb∧Row w 108 sv ms.length (ms.flatMap Y_)∧∀m∈ms,Row w 66 m.2 m.1.ss.length (bd m.1.ss)
 ZX:Row w 105 uv T.ZX.length (T.ZX.flatMap Zb)
def Hl.fr{B:Nat}{S:Nat→Prop}{w w':World}{pv sv uv:Value}{T:ZK}(h:Hl w pv sv uv T)(hf:Fr B S w w')(hB:w.heap.size≤B)
  (h1:∀k c fr,S k→w.heap[k]?≠some (.cells c 103 fr)) (h2:∀k c fr,S k→w.heap[k]?≠some (.cells c 108 fr)) (h3:∀k c fr,S k→w.heap[k]?≠some (.cells c 105 fr)) (h4:∀k c fr,S k→w.heap[k]?≠some (.cells c 66 fr)):Hl w' pv sv uv T:=by
 obtain⟨a,⟨ms,b1,b2,b3⟩,c⟩:=h;exact⟨a.fr hf hB h1,⟨ms,b1,b2.fr hf hB h2,fun m hm=>(b3 m hm).fr hf hB h4⟩,c.fr hf hB h3⟩
def Hl.below{w w':World}{pv sv uv:Value}{T:ZK}(h:Hl w pv sv uv T)(hb:Below w w w'):Hl w' pv sv uv T:=
 h.fr (Fr.Z8 Pj hb) (Zq _) (fun _ _ _ h=>h.elim) (fun _ _ _ h=>h.elim) (fun _ _ _ h=>h.elim) (fun _ _ _ h=>h.elim)
def Tw:Elem prog 47 103 2 24:=⟨underlying47,⟨.agg (Q6 0 ⟨#[]⟩),by kernel_rfl,rfl⟩,by decide⟩
def UF:Elem prog 48 108 4 48:=⟨underlying48,⟨.agg (Qq 0 0 none 0 0 false),by kernel_rfl,rfl⟩,by decide⟩
def TZ:Elem prog 49 105 4 32:=⟨underlying49,⟨.agg (Ql 0 0 0 false),by kernel_rfl,rfl⟩,by decide⟩
def Wl{base:Nat}{e:TypeId}{size:Nat}{v:Value}{n:Nat}{xs:List Value}{w:World}(h:w.ownsRow base e size v n xs):∃a c,v = .slice a n c:=by
 obtain⟨_,h⟩:=h;rcases h with⟨rfl,rfl⟩|⟨g,cap,cur,rfl,_⟩
 ·exact⟨_,_,rfl⟩
 ·exact⟨_,_,rfl⟩
def set3{w:World}{b:Nat}{u0 u1 u2 v0 v1 v2:Value}(h0:w.cell? ⟨b,0,none⟩=some u0)(h1:w.cell? ⟨b,1,none⟩=some u1)(h2:w.cell? ⟨b,2,none⟩=some u2) :
  (((w.setCell ⟨b,0,none⟩ v0).setCell ⟨b,1,none⟩ v1).setCell ⟨b,2,none⟩ v2).cell? ⟨b,0,none⟩=some v0∧(((w.setCell ⟨b,0,none⟩ v0).setCell ⟨b,1,none⟩ v1).setCell ⟨b,2,none⟩ v2).cell? ⟨b,1,none⟩=some v1∧(((w.setCell ⟨b,0,none⟩ v0).setCell ⟨b,1,none⟩ v1).setCell ⟨b,2,none⟩ v2).cell? ⟨b,2,none⟩=some v2:=by
 have e01:(⟨b,0,none⟩:Addr)≠⟨b,1,none⟩:=by simp
 have e02:(⟨b,0,none⟩:Addr)≠⟨b,2,none⟩:=by simp
 have e12:(⟨b,1,none⟩:Addr)≠⟨b,2,none⟩:=by simp
 refine⟨?_,?_,?_⟩
 ·rw[World.cell?_setCell_other _ _ _ _ Zi,World.cell?_setCell_other _ _ _ _ Zi,nu _ _ _ h0]
 ·rw[World.cell?_setCell_other _ _ _ _ Zi,nu (u:=u1)];rw[World.cell?_setCell_other _ _ _ _ Zi];exact h1
 ·rw[nu (u:=u2)];rw[World.cell?_setCell_other _ _ _ _ Zi,World.cell?_setCell_other _ _ _ _ Zi];exact h2
section
end
def Kv(x:U1):∀u∈Yr x,u.oneCell'=true:=by
 intro u hu;simp only[Yr,K5,List.mem_nil_iff,or_false]at hu;rcases hu with rfl|rfl <;> rfl
def KS(x:Vd):∀u∈Zb x,u.oneCell'=true:=by
 intro u hu;simp only[Zb,K5,List.mem_nil_iff,or_false]at hu;rcases hu with rfl|rfl|rfl|rfl <;> rfl
def KR(x:V4)(a:Option Addr)(n c:Nat):∀u∈Y_ (x,.slice a n c),u.oneCell'=true:=by
 intro u hu;simp only[Y_,K5,List.mem_nil_iff,or_false]at hu;rcases hu with rfl|rfl|rfl|rfl <;> rfl
section
open Go.WideShapes Go.ChangeShapes
section
variable {H:Type} {enc:TypeId×Value→H} {P:Program}
def L5(hl:laidOutB P=true){W W':World}{sp':Nat→Bool}(hb:Below W W W'):∀ {ts:List TypeId} {vs:List Value} {ds:List (DataW H)} {ps:List MemPlace},
  (∀t∈ts,P.readableRec t=true∧t<P.types.size)→DataW.TrodAll enc P W 0 (fun _=>true) true ts vs ds ps→(∀p∈ps,p.block<W.heap.size)→(∀p∈ps,sp' p.block=true) →
  DataW.TrodAll enc P W' 0 sp' true ts vs ds ps
 | [],[],[],_,_,h,_,_=>h
 | t :: ts,v :: vs,d :: ds,ps,ht,h,Ow,hsp=>by
  obtain⟨p,q,h1,h2,rfl⟩:=h;refine⟨p,q,?_,?_,rfl⟩
  ·exact WideElems.Trod_stays hl (ht t (List.mem_cons_self ..)).1 (ht t (List.mem_cons_self ..)).2 h1 (fun x hx=>hb.same (Ow x (EZ.2 (WQ hx)))) (fun x hx=>hsp x (EZ.2 (WQ hx)))
  ·exact L5 hl hb (fun t' h'=>ht t' (List.mem_cons_of_mem _ h')) h2 (fun x hx=>Ow x (EZ.2 (WG hx))) (fun x hx=>hsp x (EZ.2 (WG hx)))
 | [],[],_ :: _,_,_,h,_,_=>h.elim
 | [],_ :: _,_,_,_,h,_,_=>h.elim
 | _ :: _,[],_,_,_,h,_,_=>h.elim
 | _ :: _,_ :: _,[],_,_,h,_,_=>h.elim
def lM{f:Func}{s:ChangeSpec}{apart fresh handsOn again:Bool}{W W':World}{args:Array Value}{ds gs:List (DataW H)}{before:List MemPlace}{tb:TypeId}
  (hW:DataW.Whole enc P f.params.toList s.vars apart W args.toList ds gs before) (hl:laidOutB P=true) (ht:∀t∈f.params.toList,P.readableRec t=true∧t<P.types.size)
  (hv:s.vars=[]) (hs:s.fn H (ds++gs)={results:=[.lit (.bool true)],args:=ds}) (Kh:f.resultTypes=#[tb]) (bU:P.underlying tb=some .bool)
  (hb:Below W W W') :
  s.post enc P f apart fresh handsOn again W args (.bool true) W':=by
 have Ow:∀p∈before,p.block<W.heap.size:=fun p hp=>hW.lt p hp
 have hold:∀p∈before,(fun b=>decide (b<W.heap.size)) p.block=true:=fun p hp=>by simpa using Ow p hp
 have hW0:=hW;obtain⟨p,q,hA,hV,cy,hz,hn⟩:=hW;rw[hv]at hV;obtain⟨rfl,rfl⟩:=trodVars_none hV;rw[rC]at cy;subst cy
 have ko:∀sp:Nat→Bool,(∀p∈before,sp p.block=true)→DataW.TrodAll enc P W' 0 sp true f.params.toList args.toList (s.fn H (ds++[])).args before:=by
  intro sp hsp;rw[hs];exact L5 hl hb ht hA Ow hsp
 have hr:∀(b:Nat) (sp:Nat→Bool) (hd:Bool),DataW.TrodAll enc P W' b sp hd f.resultTypes.toList ((Value.bool true).resultList f.resultTypes.size) (s.fn H (ds++[])).results []:=by
  intro b sp hd;rw[hs,Kh];exact trodAll_cons_mk (shut_bool bU _) trodAll_mk0
 have cG:∀sp:Nat→Bool,(∀p∈before,sp p.block=true)→DataW.TrodVars enc P W' sp s.vars (s.fn H (ds++[])).vars []:=by
  intro sp _;rw[hs,hv];rfl
 have V9:∀(j:Nat) (t:TypeId) (r:Value),f.resultTypes[j]?=some t→((Value.bool true).resultList f.resultTypes.size)[j]?=some r→Value.okWide P W' .any 0 t r:=by
  exact ok_one Kh rfl (okWide_bool_mk bU _)
 refine⟨ds,[],before,[],before,[],hW0,hr _ _ _,ko _ hold,cG _ hold,World.keptBut_mono (fun p hp=>⟨hp,?_⟩) (hb.frame (· ∈ before)),fun _=>?_⟩
 ·simpa using hp
 ·refine⟨V9,_,_,([]++before)++[],⟨[]++before,[],trodAll_append (ko _ (fun _ _=>rfl)) (hr _ _ _),cG _ (fun _ _=>rfl),rfl,?_,?_⟩,?_⟩
  ·intro b off hp;have GD:MemPlace.cell b off∈before:=by simpa using hp
   rw[hb.frozen (Ow _ GD)];exact hz b off GD
  ·intro ha;simpa using hn ha
  ·intro p hp _;simpa using hp
def xk{r:Reach}{b0:Nat}{t e:TypeId}{W:World}{v:Value}(ht:P.underlying t=some (.slice e))(h:Value.okWide P W r b0 t v):v.cells=#[v]:=by
 obtain⟨a,l,c,rfl⟩:=okWide_slice ht h;rfl
end
end
section
open Go.WideShapes Go.ChangeShapes Go.Deep
structure OpV where
 o:Op
 sa:Option Addr
 sc:Nat
 ba:Option Addr
 bl:Nat
 bc:Nat
def XD(x:OpV):List Value:=(Jr x.o x.sa x.o.ZG.length x.sc x.ba x.bl x.bc)
section
variable {H:Type} {enc:TypeId×Value→H} {W:World} {base:Nat} {sp:Nat→Bool} {held:Bool}
def Mn{w:World}{a:Addr}{v:Value}(h:w.cell? a=some v):a=⟨a.block,a.off,none⟩:=by
 obtain⟨b,o,s⟩:=a;cases s with
 | none=>rfl
 | some x=>simp[World.cell?]at h;split at h <;> simp_all
def JW{a:Addr}(h:a=⟨a.block,a.off,none⟩)(j:Nat):a.add j=⟨a.block,a.off+j,none⟩:=by
 unfold Addr.add;split
 ·rename_i h0;subst h0;exact h
 ·rw[h]
def Dz{fuel:Nat}{v:Value}{x:DataW H×List MemPlace}(h:DataW.trod enc prog W base sp held fuel 29 [v]=some x):∃(l:List Int) (a:Option Addr) (c:Nat),v = .slice a l.length c∧XG W (.slice a l.length c) l.length (bd l):=by
 rcases open_slice1 underlying29 X6 h with⟨hc,_⟩|⟨a,len,cap,m,n,V,D,Pl,Tx,hb,hl,hm,kH,_,hx⟩
 ·exact⟨[],none,0,by simpa using hc,XG.nil _⟩
 ·have AV:len≤m:=by rw[kH];split <;> omega
  have hv:v = .slice (some a) len cap:=by simpa using Tx
  have key:∀i,i<len→∃z,W.cell? (a.add i)=some (.int .u32 z)∧V i = .int .u32 z:=by
   intro i hi;obtain⟨h1,h2⟩:=hx i Zo;obtain⟨z,hz,_⟩:=DataW.trod_int underlying66 h2;have hz:V i = .int .u32 z:=by simpa using hz
   exact⟨z,by rw[h1,hz],hz⟩
  let l:List Int:=(List.range len).map fun i=>match V i with | .int _ z=>z|_=>0
  have t_:l.length=len:=by simp[l]
  refine⟨l,some a,cap,by rw[t_];exact hv,some a,cap,rfl,by rw[t_];exact hl,hm,(fun h=>by cases h),?_⟩;by_cases h0:len=0
  ·exact WQ (BK (by rw[VI,t_];exact h0))
  ·obtain⟨z0,vX,_⟩:=key 0 Zo;have lD:W.cell? a=some (.int .u32 z0):=by unfold Addr.add at vX;simpa using vX
   have ha:=Mn lD;refine WG ⟨a.block,a.off,by rw[←ha],World.block_lt_of_cell? W a lD,fun j hj=>?_⟩;rw[VI,t_]at hj;obtain⟨z,hz,hV⟩:=key j hj;rw[←JW ha,hz];simp[bd,l,hj,hV]
def seven{α:Type}{l:List α}(h:l.length=7):∃c0 c1 c2 c3 c4 c5 c6,l=[c0,c1,c2,c3,c4,c5,c6]:=by
 obtain _|⟨c0,l⟩:=l
 ·simp at h
 obtain _|⟨c1,l⟩:=l
 ·simp at h
 obtain _|⟨c2,l⟩:=l
 ·simp at h
 obtain _|⟨c3,l⟩:=l
 ·simp at h
 obtain _|⟨c4,l⟩:=l
 ·simp at h
 obtain _|⟨c5,l⟩:=l
 ·simp at h
 obtain _|⟨c6,l⟩:=l
 ·simp at h
 obtain _|⟨c7,l⟩:=l
 ·exact⟨_,_,_,_,_,_,_,rfl⟩
 ·simp at h
def M6{P:Program}{e:TypeId}:∀ {l:List (DataW H)} {d:DataW H},d∈l→∀n∈d.weights P e,n∈DataW.weightsAll P e l
 | d0 :: l,d,hd,n,hn=>by
  simp only[DataW.weightsAll,EZ];rcases K5.1 hd with rfl|hd
  ·exact WQ hn
  ·exact WG (M6 hd n hn)
 | [],_,hd,_,_=>by simp at hd
end
def uT{α:Type}(f:α→List Value)(k:Nat)(hk:∀x,(f x).length=k)(cg:0<k){w:World}{e:TypeId}{v:Value}{n:Nat}{l:List α}(h:Row w e v n (l.flatMap f))(hl:0<l.length) :
  ∃g off cap,v = .slice (some ⟨g,off,none⟩) n cap∧n≤cap∧cap≤maxLen∧g<w.heap.size∧∀(i:Nat) (x:α),l[i]?=some x→∀j,j<k→w.cell? ⟨g,off+i*k+j,none⟩=(f x)[j]?:=by
 exact Yx80
end
def slice_inj{a b:Option Addr}{n m c d:Nat}(h:Value.slice a n c = .slice b m d):a=b∧c=d:=by
 injection h with h1 h2 h3
 exact⟨h1,h3⟩
def sj{w:World}{a:Option Addr}{c:Nat}{l:List U1}(h:Row w 103 (.slice a l.length c) l.length (l.flatMap Yr))(hl:0<l.length):∃g off,a=some ⟨g,off,none⟩∧∀(i:Nat) (x:U1),l[i]?=some x →
  w.cell? ⟨g,off+i*2,none⟩=some (.int .i64 x.num)∧w.cell? ⟨g,off+i*2+1,none⟩=some (.string (str x.name)):=by
 exact Yx136
def N1{w:World}{a:Option Addr}{c:Nat}{l:List Vd}(h:Row w 105 (.slice a l.length c) l.length (l.flatMap Zb))(hl:0<l.length):∃g off,a=some ⟨g,off,none⟩∧∀(i:Nat) (x:Vd),l[i]?=some x →
  w.cell? ⟨g,off+i*4,none⟩=some (.int .i64 x.peer)∧w.cell? ⟨g,off+i*4+1,none⟩=some (.int .i64 x.source)∧w.cell? ⟨g,off+i*4+2,none⟩=some (.int .i64 x.want)∧w.cell? ⟨g,off+i*4+3,none⟩=some (.bool x.ZV):=by
 obtain⟨g,off,cap,h1,_,_,_,h5⟩:=uT Zb 4 (fun _=>rfl) Zo h hl;exact⟨g,off,(slice_inj h1).1,fun i x hx=>⟨h5 i x hx 0 Zo,h5 i x hx 1 Zo,h5 i x hx 2 Zo,h5 i x hx 3 Zo⟩⟩
def R6{w:World}{a:Option Addr}{c:Nat}{l:List (V4×Value)}(h:Row w 108 (.slice a l.length c) l.length (l.flatMap Y_))(hl:0<l.length):∃g off,a=some ⟨g,off,none⟩∧∀(i:Nat) (x:V4×Value),l[i]?=some x →
  w.cell? ⟨g,off+i*4,none⟩=some (.int .i64 x.1.num)∧w.cell? ⟨g,off+i*4+1,none⟩=some (.int .i64 x.1.own)∧w.cell? ⟨g,off+i*4+2,none⟩=some x.2∧w.cell? ⟨g,off+i*4+3,none⟩=some (.bool x.1.ZJ):=by
 obtain⟨g,off,cap,h1,_,_,_,h5⟩:=uT Y_ 4 (fun _=>rfl) Zo h hl;exact⟨g,off,(slice_inj h1).1,fun i x hx=>⟨h5 i x hx 0 Zo,h5 i x hx 1 Zo,h5 i x hx 2 Zo,h5 i x hx 3 Zo⟩⟩
def KG{α:Type}(f:α→List Value)(k:Nat)(hk:∀x,(f x).length=k)(cg:0<k){w:World}{v:Value}{n:Nat}{l:List α}(h:XG w v n (l.flatMap f))(hl:0<l.length) :
  ∃g off cap,v = .slice (some ⟨g,off,none⟩) n cap∧n≤cap∧cap≤maxLen∧g<w.heap.size∧∀(i:Nat) (x:α),l[i]?=some x→∀j,j<k→w.cell? ⟨g,off+i*k+j,none⟩=(f x)[j]?:=by
 exact Yx80
structure Wc(R:Room):Prop where
 short:∀n,(R.src n).ss.length≤1000000
def MT{R:Room}(h:Wc R)(n:Nat)(x:Src)(hx:x.ss.length≤1000000):Wc (R.YW n x):=⟨fun m=>by rw[Wf];split;exact hx;exact h.short m⟩
def Du{R:Room}(h:Wc R)(n:Nat):Wc (gone R n).2:=⟨fun m=>by rw[Ot];split;exact Tv _;exact h.short m⟩
def vd{R:Room}(h:Wc R)(p:Nat):Wc (leave R p).2:=by
 have h1:Wc (ZH p R 9).2:=⟨fun m=>by rw[(QU R p 9).2];exact h.short m⟩;exact⟨fun m=>by show((ZB (ZH p R 9).2 p 9).2.src m).ss.length≤_;rw[NN];split;exact Tv _;exact h1.short m⟩
def ve{R:Room}{o:Op}(h:Wc R)(ok:Ok R o)(sv:Value):Wc (turns R o sv).2:=by
 unfold turns;dsimp only;by_cases k2:o.kind=2
 ·rw[ZU k2];exact⟨h.short⟩
 rw[Z3 k2];by_cases k3:o.kind=3
 ·rw[ZU k3];exact vd h _
 rw[Z3 k3];by_cases k4:o.kind=4
 ·rw[ZU k4];exact MT h _ _ (by have:=(F3 (ok.Bb k4)).2.1;show o.ZG.length≤_;omega)
 rw[Z3 k4];by_cases k5:o.kind=5
 ·rw[ZU k5];exact Du h _
 rw[Z3 k5];by_cases k6:o.kind=6
 ·rw[ZU k6];exact⟨h.short⟩
 rw[Z3 k6];by_cases k7:o.kind=7
 ·rw[ZU k7];exact⟨h.short⟩
 rw[Z3 k7];by_cases k8:o.kind=8
 ·rw[ZU k8];exact MT h _ _ (h.short _)
 rw[Z3 k8];by_cases k9:o.kind=9
 ·rw[ZU k9];exact MT h _ _ (h.short _)
 rw[Z3 k9];split
 ·exact⟨h.short⟩
 split
 ·exact⟨h.short⟩
 split
 ·exact⟨h.short⟩
 ·exact h
def Gc{R:Room}(h:Wc R)(o:Op)(sv:Value):Wc (Wq R o sv).1.2:=by
 unfold Wq;by_cases h0:XQ R o=0
 ·rw[Z3 (by simpa using h0)];exact ve h (O4 h0) sv
 ·rw[ZU h0];exact h
def Uj:Wc empty:=⟨fun _=>Tv _⟩
def MR{R:Room}(h:Wc R)(p x:Int):Wc (YM R p x).1.2:=by
 unfold YM;split
 ·exact h
 ·exact Du h _
def Ny(b:Nat)(R:Room)(n:Nat)(w:World)(hR:ZQ w b R)(hI:Inv R)(hl:∀n,(R.src n).ss.length≤1000000) :
  Calls prog 81 (Qk (some ⟨b,0,none⟩) n) w fun e w'=>
   (∃(nm ow:Int) (a:Option Addr) (k c:Nat) (mu has:Bool),e = .returned (.tuple (Q4 (Qq nm ow a k c mu) has))∧has=(R.src n).there∧(has=true→ow=(R.src n).own))∧Below w w w':=by
 cases ht:(R.src n).there
 ·refine(oh b R n w hR ?_).mono ?_
  ·rw[Wi,ht,Bool.and_false]
  ·rintro e w' ⟨rfl,hb⟩;exact⟨⟨_,_,_,_,_,_,_,rfl,rfl,fun h=>by cases h⟩,hb⟩
 ·have hs:=hI.YL n ht;refine(tA b R n w hR ⟨hs.1,hs.2.1⟩ ht (hl n)).mono ?_;rintro e w' ⟨⟨v',rfl,⟨a,c,rfl,_⟩⟩,hb⟩;exact⟨⟨_,_,_,_,_,_,_,rfl,rfl,fun _=>rfl⟩,hb⟩
def Ra{P:Program}{ops:Array Oper}{o:Oper}{a:Act}{w:World}{K:Act→World→Prop}{Q:Exit→Act→World→Prop}{E':Prop}(Lt:o.guard=none)(ty:TypeId)(x:Operand)(ho:o.op = .load ty x)
  (g:Nat) (hx:a.eval x = .pointer (some ⟨g,0,none⟩)) (t:TypeId) (cs:Array Value) (fr:Nat×Nat) (d:TypeDesc) (hg:w.heap[g]?=some (.cells cs t fr))
  (hu:P.underlying ty=some d) (hd:(match d with | .struct _ | .array _ _=>true|_=>false)=true) (hi:(P.info? ty).map (·.size)=some cs.size)
  (h:K (a.put o.dst (.agg cs)) w):if Region.wanted o (yielded ops a.tmps)=true then Oper.wp P o a w K Q else E':=by
 have hw:Region.wanted o (yielded ops a.tmps)=true:=by simp[Region.wanted,Lt]
 rw[ZU hw];exact wp_load_row ty x ho g hx t cs fr d hg hu hd hi h
def sD{w:World}{cs:List Value}{T:Taken}(h:X8 w cs T):cs.toArray.size=22:=by rw[List.size_toArray];exact h.size
def Pw{w:World}{cs:List Value}{T:Taken}(h:X8 w cs T):(W_:Array Value).size=cs.toArray.size:=by rw[sD h];rfl
def Px{w:World}{cs:List Value}{T:Taken}(h:X8 w cs T):(prog.info? 100).map (·.size)=some cs.toArray.size:=by rw[sD h];kernel_rfl
def X8.setRow{w:World}{cs:List Value}{T:Taken}(h:X8 w cs T){g:Nat}{c:Array Value}{f:Nat×Nat}(hg:w.heap[g]?=some (.cells c 100 f))(c':Array Value):X8 (w.setRow g c') cs T:=
 h.fr (S6 w g c') (fun k hk=>by have hk:k=g:=hk;subst hk;exact⟨_,_,_,hg,by decide,by decide,by decide,by decide,by decide,by decide,by decide⟩)
def p7(g b:Nat)(R:Room)(ep peer:Int)(P:JR)(d:Eu)(cv ev pv:Value)(w:World)(hD:X5 w g b R ep)(hI:Inv R)(hl:∀n,(R.src n).ss.length≤1000000)(hP:Vp w P cv ev pv) :
  Calls prog 106 (Jm (some ⟨g,0,none⟩) peer (VT P d cv ev pv).toArray) w fun e w'=>(∃cs:List Value,e = .returned (.agg cs.toArray)∧X8 w' cs (VK R ep peer P d))∧Below w w w':=by
 obtain⟨⟨ca,cc,rfl⟩,⟨ea,ec,rfl⟩,⟨pa,pc,rfl⟩⟩:=hP.form;obtain⟨n,O2,O3,hO⟩:∃(n:Nat) (O2:Int) (O3:Bool),of R P.Yi=((n:Int),O2,O3):=⟨(of R P.Yi).1.toNat,(of R P.Yi).2.1,(of R P.Yi).2.2,by rw[Int.toNat_of_nonneg (of_lt R P.Yi).1]⟩
 have HX:Hid (VK R ep peer P d=if(O3&&decide ((R.src n).own=peer))&&decide (O2=d.ZC)then{Uo with XR:=⟨1,(n:Int),ep,0⟩,XM:=P,WI:=d}else Ya 5 0):=by
  show VK R ep peer P d=_;unfold VK owned;rw[hO];rfl
 have HTH:Hid (O3=true→(R.src n).there=true):=by
  show _→_;intro h3;obtain⟨m,_,h1,_,h2⟩:=Pr (R:=R) (x:=P.Yi) (by rw[hO];exact h3);rw[hO]at h2;have h4:(n:Int)=(m:Int):=congrArg (·.1) h2;have h4:n=m:=by omega
  rw[h4];exact h1
 generalize VK R ep peer P d=X at *;have zK:=hD.cells.2.2.2
 have yh:((w.alloc (.cells (Js P ca cc ea ec pa pc d) 97)).alloc (.cells W_ 100)).heap[w.heap.size]?=some (.cells (Js P ca cc ea ec pa pc d) 97 (0,0)):=by
  rw[(Z' _ _).block _ Ah];exact Z9 w _
 have hz:((w.alloc (.cells (Js P ca cc ea ec pa pc d) 97)).alloc (.cells W_ 100)).heap[w.heap.size+1]?=some (.cells W_ 100 (0,0)):=by
  have h:=Z9 (w.alloc (.cells (Js P ca cc ea ec pa pc d) 97)) (.cells W_ 100);have e:(w.alloc (.cells (Js P ca cc ea ec pa pc d) 97)).heap.size=w.heap.size+1:=by show(w.heap.push _).size=_;rw[N9]
  rw[e]at h;exact h
 have JJ:Below w w ((w.alloc (.cells (Js P ca cc ea ec pa pc d) 97)).alloc (.cells W_ 100)):=ZA (Z' w _) (Zq _) _;have BB:Hid (X5 ((w.alloc (.cells (Js P ca cc ea ec pa pc d) 97)).alloc (.cells W_ 100)) g b R ep):=hD.below JJ;have HP1:Hid (Vp ((w.alloc (.cells (Js P ca cc ea ec pa pc d) 97)).alloc (.cells W_ 100)) P (.slice ca P.Vs.length cc) (.slice ea P.ext.length ec) (.slice pa P.Zz.length pc)):=hP.below JJ;have Iw:=Zh yh;have HZ:=Zh hz;have Ri:=Zh JJ;clear hD hP yh hz JJ;dsimp only[VT];go_enter func106,ntmps106;go_upto_region 1 with fail
 generalize((w.alloc (.cells (Js P ca cc ea ec pa pc d) 97)).alloc (.cells W_ 100))=w1 at *
 have COF:Hid (Calls prog 127 (Jk (some ⟨b,0,none⟩) P.Yi) w1.drew fun e w'=>e = .returned (.tuple (Q7 (n:Int) O2 O3))∧Below w1 w1 w'):=by
  have h:=Iy b R P.Yi w1.drew (BB.o.room.below (YE _ _).drew);rw[hO]at h;exact h.mono (fun _ _ ⟨q1,q2⟩=>⟨q1,(YE _ _).drew.trans q2⟩)
 have Zv:Hid (∀w',Below w1 w1 w'→w'.cell? ⟨g,0,none⟩=some (.pointer (some ⟨b,0,none⟩))∧w'.cell? ⟨w,4,none⟩=some (.int .u32 P.Yi)∧Below w1 w1 w'):=fun w' h=>
  ⟨(BB.o.below h).cells.1,by rw[cell_of ((h.block w (ZY Iw.o)).trans Iw.o) 4];rfl,h⟩
 clear hO;refine RX ?_;refine wp_region_held_drew (S:=(fun w'=>w'.cell? ⟨g,0,none⟩=some (.pointer (some ⟨b,0,none⟩))∧w'.cell? ⟨w,4,none⟩=some (.int .u32 P.Yi)∧Below w1 w1 w')) X6 ?_ (fun XY=>?_)
 ·exact Zv.o _ (YE _ _).drew
 refine YA 0 (h:=YA 1 (h:=YA 2 (h:=YA 3 (h:=YA 4 (h:=YA 5 (h:=YA 6 (h:=?_)))))));refine Rv 7 (h:=fun K hK=>?_);go_simp;refine COF.o.mono ?_;rintro e w2 ⟨rfl,Y7⟩;have Yc:=Zh Y7;clear Y7;go_wp2_with fail
 refine hK.out _ _ ?_ (fun XC=>?_)
 ·exact Zv.o _ Yc.o
 clear hK K;try simp only[pt]
 refine YA 8 (h:=YA 9 (h:=YA 10 (h:=YA 11 (h:=YA 12 (h:=YA 13 (h:=YA 14 (h:=?_)))))));refine wpAnyH_done X6 ?_ _;refine QP ?_;have CSR:Hid (Calls prog 81 (Qk (some ⟨b,0,none⟩) (n:Int)) w2 fun e w'=>(∃(nm ow:Int) (a:Option Addr) (k c:Nat) (mu has:Bool),e = .returned (.tuple (Q4 (Qq nm ow a k c mu) has))∧has=(R.src n).there∧(has=true→ow=(R.src n).own))∧Below w2 w2 w'):=Ny b R n w2 (BB.o.room.below Yc.o) hI hl;have cg2:=(Zv.o w2 Yc.o).1;clear XY XC COF Zv;go_upto_region 3 with(go_at_call 81;refine CSR.o.mono ?_;rintro e w3 ⟨⟨nm,ow,a,k,c,mu,has,rfl,D5,Cn⟩,WM⟩;have WB:=Zh (Tr Yc WM);have HH:=Zh D5;have LJ:=Zh Cn;clear WM D5 Cn)
 have U5:Hid (Below w1 w1 (w3.alloc (.cells (Qq nm ow a k c mu) 108))):=ZA WB.o (Zq _) _;have cl:=cell_of ((WB.o.block w (ZY Iw.o)).trans Iw.o) 11;simp only[Ss,R_,Rw]at cl;have hxl:w.heap.size<w3.heap.size:=Od (ZY Iw.o) WB.o.size;clear CSR Yc cg2;cases O3 with
 | false=>
  rw[Z3 Zi]at HX;exact Yx18
 | true=>
  have Cn:ow=(R.src n).own:=LJ.o (by rw[HH.o];exact HTH.o rfl);subst Cn;clear LJ HH HTH;by_cases hp:(R.src n).own=peer
  ·by_cases gW:O2=d.ZC
   ·subst hp;subst gW;rw[ZU Zi]at HX;go_upto_region 5 with fail
    clear cl hxl;generalize w3.alloc (.cells (Qq nm (R.src n).own a k c mu) 108)=w4 at *;have cg4:=(BB.o.below U5.o).cells.2.1;have K7:=(U5.o.block w (ZY Iw.o)).trans Iw.o;have Ea:=(U5.o.block (w.heap.size+1) (ZY HZ.o)).trans HZ.o;have HP4:=Zh (HP1.o.below U5.o);have hbw4:Below w w w4:=Tr Ri U5.o;clear BB HP1 Iw HZ U5 WB Ri hI hl;refine RX ?_;refine wp_region_held_drew (S:=(fun w'=>w'.cell? ⟨g,1,none⟩=some (.int .i64 ep))) X6 ?_ (fun XY=>?_)
    ·exact cg4
    refine YA 0 (h:=YA 1 (h:=YA 2 (h:=YA 3 (h:=YA 4 (h:=YA 5 (h:=?_))))));refine Rv 6 (h:=fun K hK=>?_);refine Ra Zr 97 (.tmp 5) Zr w Zr 97 (Js P ca cc ea ec pa pc d) (0,0) _ K7 underlying97 rfl X6 ?_;refine hK.out _ _ ?_ (fun XC=>?_)
    ·first|exact cg4|exact cg5
    clear hK K;try simp only[pt]
    refine YA 7 (h:=?_);refine Rv 8 (h:=fun K hK=>?_);refine RU Zr 100 (.tmp 6) (.tmp 56) Zr Zr (w.heap.size+1) (J1 1 (n:Int) ep 0 P ca cc ea ec pa pc d none 0 0 none 0 0 0) Zr Zr 100 _ Ea X6 X6 X6 ?_;have cg5:(w4.setRow (w.heap.size+1) (J1 1 (n:Int) ep 0 P ca cc ea ec pa pc d none 0 0 none 0 0 0)).cell? ⟨g,1,none⟩=some (.int .i64 ep):=by rw[World.cell?_of_block (w:=w4) (setRow_other w4 _ g _ Zo)];exact cg4
    refine hK.out _ _ ?_ (fun Vq=>?_)
    ·first|exact cg4|exact cg5
    clear hK K;try simp only[pt]
    refine wpAnyH_done X6 ?_ _;refine QP ?_;go_wp2_with fail
    refine Vr (v:= .agg (J1 1 (n:Int) ep 0 P ca cc ea ec pa pc d none 0 0 none 0 0 0)) ?_ rfl ?_
    ·exact results_cell_row Zr _ _ (w.heap.size+1) 100 (J1 1 (n:Int) ep 0 P ca cc ea ec pa pc d none 0 0 none 0 0 0) (0,0) _ Zr (setRow_heap w4.drew _ _ _ _ _ Ea) underlying100 rfl X6
    refine⟨⟨(J1 1 (n:Int) ep 0 P ca cc ea ec pa pc d none 0 0 none 0 0 0),rfl,?_⟩,Z0 hbw4.drew (JV _) _⟩;rw[HX.o];have HT:X8 w4.drew (J1 1 (n:Int) ep 0 P ca cc ea ec pa pc d none 0 0 none 0 0 0) {Uo with XR:=⟨1,(n:Int),ep,0⟩,XM:=P,WI:=d}:=⟨_,_,_,_,_,rfl,HP4.o.below (YE _ _).drew,YB.nil _,Row.nil _ _⟩;exact HT.setRow Ea _
   ·rw[Z3 (by simp[gW])]at HX;have hb:(O2 !=d.ZC)=true:=by rw[Rs];exact gW
    have Y7:(O2==d.ZC)=false:=by rw[Wz];exact gW
    subst hp;exact Yx18
  ·rw[Z3 (by simp[hp])]at HX;have hb:((R.src n).own !=peer)=true:=by rw[Rs];exact hp
   have Y7:((R.src n).own==peer)=false:=by rw[Wz];exact hp
   exact Yx18
def tE:∀x:Fin 256,bits .and .u8 ((x.val:Nat):Int) 60=((x.val/4%16*4:Nat):Int):=by decide +kernel
def and_60(n:Nat)(hn:n<256):bits .and .u8 (n:Int) 60=((n/4%16*4:Nat):Int):=tE ⟨n,hn⟩
def jT(d:Eu):Value:= .agg (Ju d)
def vZ(v:Value)(b:List UInt8)(w:World)(hv:XU w v b) :
  Calls prog 126 #[v] w fun e w'=>e = .returned (.tuple (Qo (Qd (Yu b).1.ZC (Yu b).1.key (Yu b).1.start (Yu b).1.frame) (Yu b).2))∧Below w w w':=by
 have hlen:=hv.len;have HV:Hid (∀w',Below w w w'→XU w' v b):=fun w' h=>hv.below h
 have HE:Hid (Yu b=if b.length<4 then(S_,2)else if at8 b 0/4%16≠0∨at8 b 0%4=3∨at8 b 1≠90 then(S_,1)else(⟨(at8 b 0%4:Nat),decide (128≤at8 b 0),decide (at8 b 0/64%2=1),get b 2 2⟩,0)):=rfl;obtain⟨a,c,rfl,Rt,-⟩:=id hv;clear hv;have T6:=Z' w (.cells (Qd 0 false false 0) 81);have G5:=Zh (HV.o _ T6);generalize Yu b=X at *;by_cases h1:b.length<4
 ·obtain rfl:X=(S_,2):=by rw[HE.o,ZU h1]
  clear HE HV G5;go_enter func126,ntmps126;go_wp2;exact Vr (v:= .tuple (Qo (Qd 0 false false 0) 2)) (by simp[results,results126,go_sem]) rfl ⟨rfl,T6⟩
 obtain⟨g,off,cap,e1,_,_,hc⟩:=Rk (HV.o w (YE _ _)) Zo;cases e1;obtain⟨_,_,_,e2,_,_,hca⟩:=Rk G5.o Zo;cases e2;have d0:(w.alloc (.cells (Qd 0 false false 0) 81)).cell? ⟨g,off,none⟩=some (.int .u8 (at8 b 0:Int)):=hca 0 Zo;have d1:=hca 1 Zo;have l1:decide ((b.length:Int)<4)=false:=WH Zo;have PE:=Xd b 0;have Sg:=Xd b 1;have a60:=and_60 (at8 b 0) PE;have a3:=and_3 (at8 b 0) PE;clear hc hca;by_cases h2:at8 b 0/4%16≠0∨at8 b 0%4=3∨at8 b 1≠90
 ·obtain rfl:X=(S_,1):=by rw[HE.o,Z3 h1,ZU h2]
  clear HE HV G5;by_cases h3:at8 b 0/4%16≠0
  ·have q3:(((at8 b 0/4%16*4:Nat):Int)!=0)=true:=by rw[Rs];omega
   clear h2 h3;generalize at8 b 0/4%16*4=y at *;exact Yx68
  ·have hz:at8 b 0/4%16*4=0:=by omega
   rw[hz]at a60;by_cases h4:at8 b 0%4=3
   ·rw[h4]at a3;clear h2 h3 h4 hz;exact Yx68
   ·have q4:(((at8 b 0%4:Nat):Int)==3)=false:=by rw[Wz];omega
    have q5:(((at8 b 1:Nat):Int)!=90)=true:=by rw[Rs];omega
    clear h2 h3 h4 hz;generalize at8 b 0%4=y at *;exact Yx68
 ·have CG:=Nw _ b 2 2 _ G5.o;have hn:get b 2 2<65536:=U7 b 2 2 2 Zd;have hz:at8 b 0/4%16*4=0:=by omega
  rw[hz]at a60;have q4:(((at8 b 0%4:Nat):Int)==3)=false:=by rw[Wz];omega
  have q5:(((at8 b 1:Nat):Int)!=90)=false:=by rw[bne_eq_false_iff_eq];omega
  have a128:=rE (at8 b 0) PE;have a64:=and_64 (at8 b 0) PE
  obtain rfl:X=(⟨(at8 b 0%4:Nat),(((at8 b 0/128%2*128:Nat):Int)!=0),(((at8 b 0/64%2*64:Nat):Int)!=0),get b 2 2⟩,0):=by
   rw[HE.o,Z3 h1,Z3 h2]
   congr 2
   ·rw[Bool.eq_iff_iff,Su,Rs];omega
   ·rw[Bool.eq_iff_iff,Su,Rs];omega
  dsimp only;have mV:=Zh CG
  have Zv:Hid (∀w',Below w w w'→w'.cell? ⟨g,off,none⟩=some (.int .u8 (at8 b 0:Int))∧Below w w w'):=fun w' h=>by
   obtain⟨_,_,_,e,_,_,hc⟩:=Rk (HV.o w' h) Zo;cases e;exact⟨hc 0 Zo,h⟩
  clear HE HV G5 h2 hz CG;have hy4:at8 b 0%4<4:=by omega
  have hbI:(0:Int)<(b.length:Int):=by omega
  have hbN:0<b.length:=by omega
  have hbZ:¬b.length=0:=by omega
  generalize get b 2 2=n at *;generalize at8 b 0/128%2*128=y1 at *;generalize at8 b 0/64%2*64=y2 at *;generalize at8 b 0%4=y at *;generalize b.length=N at *;have hnw:IntKind.u16.wrap (n:Int)=(n:Int):=by rw[IntKind.wrap_u16];omega
  have hyw:IntKind.i64.wrap (y:Int)=(y:Int):=SZ _ Zo;go_enter func126,ntmps126;go_wp2_with (go_at_call 155;refine mV.o.mono ?_;rintro e w' ⟨rfl,rfl⟩)
  go_region_held3 (fun w'=>w'.cell? ⟨g,off,none⟩=some (.int .u8 (at8 b 0:Int))∧Below w w w') (first|exact Zv.o _ (by first|exact(Z' w _).drew|with_reducible assumption|exact Below.drew WE|exact Below.setCell WE Zi _|exact Below.setCell (Below.drew WE) Zi _)|go_keep) (first|fail)
  go_wp2;exact Vr (v:= .tuple (Qo (Qd y ((y1:Int)!=0) ((y2:Int)!=0) n) 0)) (by simp[results,results126,go_sem,hnw]) rfl ⟨rfl,(Z' w _).drew⟩
def uU(v:Value)(b:List UInt8)(w:World)(hv:XU w v b) :
  Calls prog 125 #[v] w fun e w'=>(∃a,e = .returned (.tuple #[a,.int .i64 (YH b).2])∧Np w' a (YH b).1)∧Below w w w':=by
 by_cases h:(looks b).2=0
 ·exact qE v b w hv h
 ·exact uV v b w hv h
def zn(b:List UInt8):Ev×Int:=if(YH b).2≠0 then(.none,(YH b).2)else if(Yu (YH b).1.Zz).2≠0 then(.none,(Yu (YH b).1.Zz).2)else(.XS (YH b).1 (Yu (YH b).1.Zz).1,0)
def Gb{b:List UInt8}(h1:¬512<b.length)(h2:¬b.length<2)(h3:¬(192≤at8 b 1∧at8 b 1≤223)):XX b=zn b:=by
 unfold XX zn;rw[Z3 h1,Z3 h2,Z3 h3]
def KN(v:Value)(b:List UInt8)(w:World)(hv:XU w v b)(h3:¬(192≤at8 b 1∧at8 b 1≤223)) :
  Calls prog 105 #[v] w fun e w'=>(∃a,e = .returned (.tuple #[a,.int .i64 (XX b).2])∧sI w' a (XX b).1)∧Below w w w':=by
 have hlen:=hv.len;by_cases h1:512<b.length
 ·have HX:Hid (XX b=(.none,5)):=by show _=_;unfold XX;rw[ZU h1]
  exact Yx74
 by_cases h2:b.length<2
 ·have HX:Hid (XX b=(.none,2)):=by show _=_;unfold XX;rw[Z3 h1,ZU h2]
  exact Yx74
 rw[Gb h1 h2 h3];have HC:=Zh (uU v b w hv);have HX:Hid (zn b=if(YH b).2≠0 then(.none,(YH b).2)else if(Yu (YH b).1.Zz).2≠0 then(.none,(Yu (YH b).1.Zz).2)else(.XS (YH b).1 (Yu (YH b).1.Zz).1,0)):=rfl;obtain⟨g,off,c,rfl,Rt,x8,WO⟩:=Rk hv Zo;have d1:=WO 1 Zo;clear WO hv Rt x8;have hbI:(1:Int)<(b.length:Int):=by omega
 have hbN:1<b.length:=by omega
 generalize zn b=X at *;generalize YH b=Y at *;obtain⟨P,er⟩:=Y;dsimp only at HC HX;have cr:=fun(x:Value) (w:World)=>run_makeInterface (P:=prog) w 97 x X6
 have hk:at8 b 1<192∨223<at8 b 1:=by omega
 generalize at8 b 1=kd at *;go_enter func105,ntmps105;rcases hk with hk|hk
 ·have l1:decide ((192:Int)≤(kd:Int))=false:=WH Zo;exact Yx10
 ·have l1:decide ((192:Int)≤(kd:Int))=true:=WV Zo;have l2:decide ((kd:Int)≤223)=false:=WH Zo;exact Yx10
def L9{P:Program}(w:World)(t xt:TypeId)(v:Value)(d:TypeDesc)(hu:P.underlying t=some d)(hd:(match d with | .interface _=>false|_=>true)=true):(Instr.typeAssert (.iface t v) xt t true).run P w = .ok (.tuple #[v,.bool true]) w:=by
 unfold Instr.typeAssert;simp only[Sem.run_bind,run_underlying hu w,Result.andThen_ok];cases d <;> simp_all
def Ga{b:List UInt8}(h3:¬(192≤at8 b 1∧at8 b 1≤223))(h:(XX b).2=0):∃p d,(XX b).1 = .XS p d:=by
 by_cases h1:512<b.length
 ·unfold XX at h;rw[ZU h1]at h;cases h
 by_cases h2:b.length<2
 ·unfold XX at h;rw[Z3 h1,ZU h2]at h;cases h
 rw[Gb h1 h2 h3]at h ⊢;unfold zn at h ⊢;by_cases h4:(YH b).2≠0
 ·rw[ZU h4]at h;exact absurd h h4
 rw[Z3 h4]at h ⊢;by_cases h5:(Yu (YH b).1.Zz).2≠0
 ·rw[ZU h5]at h;exact absurd h h5
 rw[Z3 h5];exact⟨_,_,rfl⟩
def E6(g b:Nat)(R:Room)(ep kd peer src ly:Int)(nm:ByteArray)(sa ba:Option Addr)(sl sc bl bc:Nat)(l:List UInt8)(w:World)(hD:X5 w g b R ep)(hI:Inv R)(hl:∀n,(R.src n).ss.length≤1000000)(hv:XU w (.slice ba bl bc) l)(h3:¬(192≤at8 l 1∧at8 l 1≤223)) :
  Calls prog 76 (Qi (some ⟨g,0,none⟩) (Qa kd peer src ly nm sa sl sc ba bl bc)) w fun e w'=>(∃cs:List Value,e = .returned (.agg cs.toArray)∧X8 w' cs (YD R ep peer l).1.1)∧X5 w' g b (YD R ep peer l).1.2 (YD R ep peer l).2∧Fr w (fun k=>k=b∨k=g) w w':=by
 have HX:Hid (YD R ep peer l=if(XX l).2≠0 then((Ya 3 (XX l).2,R),ep)else if !Y5 R peer then((Ya 4 0,R),ep)else match(XX l).1 with
  | .XS p d=>((VK R ep peer p d,R),ep)
  | .X4 l=>((Uc (ep+1) l (Zw peer l R).1.1 (Zw peer l R).2,(Zw peer l R).1.2),ep+1)
  | .none=>((Uc (ep+1) [] [] 0,R),ep+1)):=rfl
 have LK:=Zh (Ga (b:=l) h3);have zK:=hD.cells.2.2.2
 have yh:((w.alloc (.cells (Qa kd peer src ly nm sa sl sc ba bl bc) 32)).alloc (.cells W_ 100)).heap[w.heap.size]?=some (.cells (Qa kd peer src ly nm sa sl sc ba bl bc) 32 (0,0)):=by
  rw[(Z' _ _).block _ Ah];exact Z9 w _
 have hz:((w.alloc (.cells (Qa kd peer src ly nm sa sl sc ba bl bc) 32)).alloc (.cells W_ 100)).heap[w.heap.size+1]?=some (.cells W_ 100 (0,0)):=by
  exact Yx49
 have JJ:Below w w ((w.alloc (.cells (Qa kd peer src ly nm sa sl sc ba bl bc) 32)).alloc (.cells W_ 100)):=ZA (Z' w _) (Zq _) _;have aw:=Zh hD;have BB:Hid (X5 ((w.alloc (.cells (Qa kd peer src ly nm sa sl sc ba bl bc) 32)).alloc (.cells W_ 100)) g b R ep):=hD.below JJ;have CS:=Zh (KN _ l ((w.alloc (.cells (Qa kd peer src ly nm sa sl sc ba bl bc) 32)).alloc (.cells W_ 100)) (hv.below JJ) h3);have Iw:=Zh yh;have HZ:=Zh hz;have Ri:=Zh JJ;clear hD hv yh hz JJ h3;generalize YD R ep peer l=X at *;generalize XX l=Y at *;obtain⟨ev,er⟩:=Y;dsimp only at HX LK CS;go_enter func76,ntmps76;go_upto_region 2 with(go_at_call 105;refine CS.o.mono ?_;rintro e w2 ⟨⟨a,rfl,LQ⟩,Y7⟩;have BC:=Zh LQ;have Yc:=Zh Y7;clear LQ Y7)
 clear CS;generalize((w.alloc (.cells (Qa kd peer src ly nm sa sl sc ba bl bc) 32)).alloc (.cells W_ 100))=w1 at *
 have Zv:Hid (∀w',Below w1 w1 w'→w'.cell? ⟨g,0,none⟩=some (.pointer (some ⟨b,0,none⟩))∧w'.cell? ⟨w,1,none⟩=some (.int .i64 peer)):=fun w' h=>
  ⟨(BB.o.below h).cells.1,by rw[cell_of ((h.block w (ZY Iw.o)).trans Iw.o) 1];rfl⟩
 have Ur:Hid (∀w' cs T,Below w w w'→X8 w' cs T→X=((T,R),ep)→(∃cs':List Value,Ending.returned (.agg cs.toArray) = .returned (.agg cs'.toArray)∧X8 w' cs' X.1.1)∧X5 w' g b X.1.2 X.2∧Fr w (fun k=>k=b∨k=g) w w'):=fun w' cs T h1 h2 h3=>by
  rw[h3];exact⟨⟨cs,rfl,h2⟩,aw.o.below h1,Fr.Z8 _ h1⟩
 by_cases Rl:er=0
 ·subst Rl;rw[Z3 Zi]at HX;obtain⟨p,d,hpd⟩:=LK.o rfl;subst hpd;dsimp only at HX;have HJ:=Zh (Tc b R peer w2.drew ((BB.o.room.below Yc.o).below (YE _ _).drew));go_upto_region 4 with fail
  refine RX ?_;refine wp_region_held_drew (S:=(fun w'=>w'.cell? ⟨g,0,none⟩=some (.pointer (some ⟨b,0,none⟩))∧w'.cell? ⟨w,1,none⟩=some (.int .i64 peer))) X6 ?_ (fun XY=>?_)
  ·exact Zv.o _ Yc.o.drew
  refine YA 0 (h:=YA 1 (h:=YA 2 (h:=YA 3 (h:=YA 4 (h:=YA 5 (h:=?_))))));refine Rv 6 (h:=fun K hK=>?_);go_simp;refine HJ.o.mono ?_;rintro e w' ⟨rfl,rfl⟩;go_wp2_with fail
  refine hK.out _ _ ?_ (fun XC=>?_)
  ·exact Zv.o _ Yc.o.drew
  clear hK K;try simp only[pt]
  refine YA 7 (h:=?_);refine wpAnyH_done X6 ?_ _;refine QP ?_;clear XY XC Zv;have WB:Hid (Below w1 w1 w2.drew):=Yc.o.drew;have iA:Hid (sI w2.drew a (.XS p d)):=BC.o.below (YE _ _).drew;clear Yc BC HJ;generalize w2.drew=w3 at *;clear w2;by_cases hj:Y5 R peer=true
  ·rw[hj,Z3 Zi]at HX;rw[hj];have hta:=fun(w:World) (v:Value)=>L9 (P:=prog) w 97 188 v _ underlying97 rfl
   obtain⟨cv,ev,pv,ha,hP⟩:=iA.o;obtain⟨⟨ca,cc,G9⟩,⟨ea,ec,hevv⟩,⟨pa,pc,Mk⟩⟩:=hP.form;subst G9;subst hevv;subst Mk;dsimp only[VT]at ha;subst ha;have hxr:=Z9 w3 (.cells (Js p ca cc ea ec pa pc d) 97);have U5:Hid (Below w1 w1 (w3.alloc (.cells (Js p ca cc ea ec pa pc d) 97))):=ZA WB.o (Zq _) _;have CM:=Zh (p7 g b R ep peer p d _ _ _ (w3.alloc (.cells (Js p ca cc ea ec pa pc d) 97)) (BB.o.below U5.o) hI hl (hP.below (Z' _ _)));have K7:=cell_of ((WB.o.block w (ZY Iw.o)).trans Iw.o) 1;simp only[Ss,R_,Rw]at K7;have hxl:w.heap.size<w3.heap.size:=Od (ZY Iw.o) WB.o.size;clear iA hP;dsimp only[VT]at CM;go_wp2_with (first|with_reducible refine Zl hxr underlying97 ?_|(go_at_call 106;refine CM.o.mono ?_;rintro e w5 ⟨⟨cs,rfl,O9⟩,Nu⟩;have PD:=Zh (Tr U5 Nu);have JK:=(PD.o.block (w.heap.size+1) (ZY HZ.o)).trans HZ.o;have hi:=Px O9;have hold:=Pw O9;have Oz:=O9.one;have JO:=Zh O9;clear O9 Nu)|(with_reducible refine ZT 100 (.tmp 4) (.tmp 46) rfl ?_;refine VM rfl 100 (.tmp 4) (.tmp 46) rfl rfl (w.heap.size+1) cs.toArray rfl rfl 100 W_ JK hi hold Oz ?_))
   refine Vr (v:= .agg cs.toArray) ?_ rfl ?_
   ·exact jz
   exact Ur.o _ cs _ (Z0 (Tr Ri PD.o) (JV _) _) (JO.o.setRow JK _) HX.o
  ·exact Yx38
 ·exact Yx34
def EU(g b:Nat)(R:Room)(ep:Int)(o:Op)(l:List UInt8)(w:World)(e:Ending)(w':World):Prop:=
 ∃sv,(∃cs:List Value,e = .returned (.agg cs.toArray)∧X8 w' cs (take R ep o l sv).1.1)∧X5 w' g b (take R ep o l sv).1.2 (take R ep o l sv).2∧Fr w (fun k=>k=b∨k=g) w w'
def rG{R:Room}{o:Op}{sv:Value}(h:(Wq R o sv).2≠0):(Wq R o sv).1.2=R:=by
 unfold Wq at h ⊢;split
 ·rfl
 ·rename_i h1;rw[Z3 h1]at h;exact absurd rfl h
def X5.ne{w:World}{g b:Nat}{R:Room}{ep:Int}(h:X5 w g b R ep):g≠b:=by
 intro e;obtain⟨c,hc,_⟩:=h.room.cells;rw[←e,h.Y8]at hc;injection hc with hc
 injection hc with _ hc
 exact absurd hc Zd
def X5.setRow{w:World}{g b:Nat}{R:Room}{ep:Int}(h:X5 w g b R ep){X:Nat}{c:Array Value}{f:Nat×Nat}(hg:w.heap[X]?=some (.cells c 100 f))(hXg:g≠X)(hXb:b≠X)(c':Array Value):X5 (w.setRow X c') g b R ep:=
 ⟨by rw[setRow_other w X g _ hXg];exact h.Y8,h.room.fr (S6 w X c') (Zq _) (fun e=>hXb e) (fun k _ _ hk=>by have hk:k=X:=hk;rw[hk,hg];intro h;injection h with h;injection h with _ h;exact absurd h Zd)⟩
def jh(g b:Nat)(R:Room)(ep kd p n q:Int)(nm:List UInt8)(ss:List Int)(sa ba:Option Addr)(sc bl bc:Nat)(l:List UInt8)(w:World)(hD:X5 w g b R ep)(hI:Inv R)(hT:Xn w)(h0:0≤ep)(h9:ep<1000000000)
  (hn:nm.length<9223372036854775807) (hs:XG w (.slice sa ss.length sc) ss.length (YF ss))
  (hdg:kd=1→∀w1,Below w w w1→Calls prog 76 (Qi (some ⟨g,0,none⟩) (Qa kd p n q (str nm) sa ss.length sc ba bl bc)) w1 fun e w'=>(∃cs:List Value,e = .returned (.agg cs.toArray)∧X8 w' cs (YD R ep p l).1.1)∧X5 w' g b (YD R ep p l).1.2 (YD R ep p l).2∧Fr w1 (fun k=>k=b∨k=g) w1 w') :
  Calls prog 44 (Qi (some ⟨g,0,none⟩) (Qa kd p n q (str nm) sa ss.length sc ba bl bc)) w (EU g b R ep ⟨kd,p,n,q,nm,ss⟩ l w):=by
 have HX:Hid (∀sv,take R ep ⟨kd,p,n,q,nm,ss⟩ l sv=if kd=1 then YD R ep p l else if(Wq R ⟨kd,p,n,q,nm,ss⟩ sv).2≠0 then((Ya 6 (Wq R ⟨kd,p,n,q,nm,ss⟩ sv).2,R),ep)else((Uc (ep+1) [] (Wq R ⟨kd,p,n,q,nm,ss⟩ sv).1.1 0,(Wq R ⟨kd,p,n,q,nm,ss⟩ sv).1.2),ep+1)):=fun sv=>rfl
 have zK:=hD.cells.2.2.2;have WO:=hD.room.lt;have tW:=hD.ne
 have yh:((w.alloc (.cells (Qa kd p n q (str nm) sa ss.length sc ba bl bc) 32)).alloc (.cells W_ 100)).heap[w.heap.size]?=some (.cells (Qa kd p n q (str nm) sa ss.length sc ba bl bc) 32 (0,0)):=by
  rw[(Z' _ _).block _ Ah];exact Z9 w _
 have hz:((w.alloc (.cells (Qa kd p n q (str nm) sa ss.length sc ba bl bc) 32)).alloc (.cells W_ 100)).heap[w.heap.size+1]?=some (.cells W_ 100 (0,0)):=by
  have h:=Z9 (w.alloc (.cells (Qa kd p n q (str nm) sa ss.length sc ba bl bc) 32)) (.cells W_ 100);exact Yx110
 have JJ:Below w w ((w.alloc (.cells (Qa kd p n q (str nm) sa ss.length sc ba bl bc) 32)).alloc (.cells W_ 100)):=ZA (Z' w _) (Zq _) _;have BB:Hid (X5 ((w.alloc (.cells (Qa kd p n q (str nm) sa ss.length sc ba bl bc) 32)).alloc (.cells W_ 100)) g b R ep):=hD.below JJ;have Iw:=Zh yh;have HZ:=Zh hz;have Ri:=Zh JJ
 have Ur:Hid (∀w2 cs (T:(Taken×Room)×Int) sv,Fr ((w.alloc (.cells (Qa kd p n q (str nm) sa ss.length sc ba bl bc) 32)).alloc (.cells W_ 100)).heap.size (fun k=>k=b∨k=g) ((w.alloc (.cells (Qa kd p n q (str nm) sa ss.length sc ba bl bc) 32)).alloc (.cells W_ 100)) w2→X8 w2 cs T.1.1→X5 w2 g b T.1.2 T.2→take R ep ⟨kd,p,n,q,nm,ss⟩ l sv=T→EU g b R ep ⟨kd,p,n,q,nm,ss⟩ l w (.returned (.agg cs.toArray)) (w2.setRow (w.heap.size+1) cs.toArray)):=fun w2 cs T sv h1 h2 h3 h4=>by
  have TF:=(h1.block (w.heap.size+1) (ZY hz) Zo).trans hz;refine⟨sv,⟨cs,rfl,by rw[h4];exact h2.setRow TF _⟩,by rw[h4];exact h3.setRow TF Zo Zo _,?_⟩;exact Lj ((Fr.Z8 _ JJ).trans (h1.mono JJ.size (fun _ _ h=>h))) (JV _) _
 by_cases hk:kd=1
 ·have CD:=Zh (hdg hk _ JJ);have BG:Hid (take R ep ⟨kd,p,n,q,nm,ss⟩ l (.slice none 0 0)=YD R ep p l):=by show _=_;rw[HX.o,ZU hk]
  subst hk;clear HX hdg hD hT hs yh hz JJ;generalize YD R ep p l=X at *;go_enter func44,ntmps44;go_wp2_with (first|(go_at_call 76;refine CD.o.mono ?_;rintro e w2 ⟨⟨cs,rfl,O9⟩,nA,tT⟩;have JK:=(tT.block (w.heap.size+1) (ZY HZ.o) Zo).trans HZ.o;have hi:=Px O9;have hold:=Pw O9;have Oz:=O9.one;have JO:=Zh O9;have gF:=Zh nA;have wE:=Zh tT;clear O9 nA tT)|(with_reducible refine ZT 100 (.tmp 4) (.tmp 12) rfl ?_;refine VM rfl 100 (.tmp 4) (.tmp 12) rfl rfl (w.heap.size+1) cs.toArray rfl rfl 100 W_ JK hi hold Oz ?_))
  refine Vr (v:= .agg cs.toArray) ?_ rfl ?_
  ·exact jz
  exact Ur.o _ cs _ _ wE.o JO.o gF.o BG.o
 ·have BG:Hid (∀sv,take R ep ⟨kd,p,n,q,nm,ss⟩ l sv=if(Wq R ⟨kd,p,n,q,nm,ss⟩ sv).2≠0 then((Ya 6 (Wq R ⟨kd,p,n,q,nm,ss⟩ sv).2,R),ep)else((Uc (ep+1) [] (Wq R ⟨kd,p,n,q,nm,ss⟩ sv).1.1 0,(Wq R ⟨kd,p,n,q,nm,ss⟩ sv).1.2),ep+1)):=fun sv=>by rw[HX.o,Z3 hk]
  have CD:=Zh (ij b R ⟨kd,p,n,q,nm,ss⟩ sa ba sc bl bc ((w.alloc (.cells (Qa kd p n q (str nm) sa ss.length sc ba bl bc) 32)).alloc (.cells W_ 100)).drew (BB.o.room.below (YE _ _).drew) hI (Utf8Tabs_below hT JJ.drew) hn (hs.below JJ.drew));have gU:(kd==1)=false:=by rw[Wz];exact hk
  dsimp only at CD;clear HX hdg hD hT hs yh hz JJ;generalize hdo:Wq R ⟨kd,p,n,q,nm,ss⟩=DO at *;go_enter func44,ntmps44;go_upto_region 3 with fail
  generalize((w.alloc (.cells (Qa kd p n q (str nm) sa ss.length sc ba bl bc) 32)).alloc (.cells W_ 100))=w1 at *;have cg1:=BB.o.cells.1;have Sg:=Iw.o;refine RX ?_;refine wp_region_held_drew (S:=(fun w'=>w'.cell? ⟨g,0,none⟩=some (.pointer (some ⟨b,0,none⟩)))) X6 ?_ (fun XY=>?_)
  ·exact cg1
  refine YA 0 (h:=YA 1 (h:=YA 2 (h:=YA 3 (h:=?_))));refine Rv 4 (h:=fun K hK=>?_);refine Ra Zr 32 (.tmp 3) Zr w Zr 32 (Qa kd p n q (str nm) sa ss.length sc ba bl bc) (0,0) _ Sg underlying32 rfl X6 ?_;refine hK.out _ _ ?_ (fun XC=>?_)
  ·first|exact cg2|exact cg1
  clear hK K;try simp only[pt]
  refine Rv 5 (h:=fun K hK=>?_);go_simp;refine CD.o.mono ?_;rintro e w2 ⟨v,sv,rfl,Sz,Xh,Wb⟩;rw[hdo]at Sz Xh;try rw[hdo]
  obtain⟨va,vc,hv,-⟩:=id Sz;subst hv;have Hj:=Zh (BG.o sv);have HDOR:Hid ((DO sv).2≠0→(DO sv).1.2=R):=by rw[←hdo];exact rG
  have wE:Hid (Fr w1 (fun k=>k=b∨k=g) w1 w2):=(Fr.Z8 _ (YE w1 w1).drew).trans (Wb.mono (Zq _) (fun _ _ h=>WQ h));have gF:Hid (X5 w2 g b (DO sv).1.2 ep):=⟨(Wb.block g (by have h:=BB.o.cells.2.2.2;exact h) tW).trans BB.o.Y8,Xh⟩;have Ew:=Zh Sz;have cg2:=gF.o.cells.1;clear Sz Xh Wb CD;generalize(DO sv).1.1.length=vn at *;go_wp2_with fail
  refine hK.out _ _ ?_ (fun Vq=>?_)
  ·first|exact cg2|exact cg1
  clear hK K;try simp only[pt]
  refine YA 6 (h:=YA 7 (h:=YA 8 (h:=YA 9 (h:=YA 10 (h:=?_)))));refine wpAnyH_done X6 ?_ _;refine QP ?_;clear XY XC Vq;by_cases he:(DO sv).2=0
  ·rw[he];rw[Z3 (by simp[he])]at Hj;have Tx:((Qm 0 0 0 0 false 0 0 0 0 none 0 0 false 0 none 0 0 none 0 0 0 0 false false 0 none 0 0 va vn vc 0):List Value).length=22:=rfl;have CC:=Zh (Hr g (.pointer (some ⟨b,0,none⟩)) ep (Qm 0 0 0 0 false 0 0 0 0 none 0 0 false 0 none 0 0 none 0 0 0 0 false false 0 none 0 0 va vn vc 0) w2 gF.o.Y8 h0 h9 rfl X6);clear Tx;have HTK2:Hid (X8 w2 ((((Qm 0 0 0 0 false 0 0 0 0 none 0 0 false 0 none 0 0 none 0 0 0 0 false false 0 none 0 0 va vn vc 0):List Value).set 0 (.int .i64 2)).set 2 (.int .i64 (ep+1))) (Uc (ep+1) [] (DO sv).1.1 0)):=⟨_,_,_,_,_,rfl,Vp.nil _,YB.nil _,Ew.o⟩;have aj:=Zh gF.o.apart;generalize Rt:((((Qm 0 0 0 0 false 0 0 0 0 none 0 0 false 0 none 0 0 none 0 0 0 0 false false 0 none 0 0 va vn vc 0):List Value).set 0 (.int .i64 2)).set 2 (.int .i64 (ep+1)))=cs at *;have mU:=Zh Rt;clear Rt
   go_wp2_with (first|(go_at_call 79;refine CC.o.mono ?_;rintro e w5 ⟨rfl,hg5,pD⟩;have Gv:Hid (Fr w1 (fun k=>k=b∨k=g) w1 w5):=wE.o.trans (pD.mono wE.o.size (fun _ _ h=>WG h));have JK:=(Gv.o.block (w.heap.size+1) (ZY HZ.o) Zo).trans HZ.o;have JO:Hid (X8 w5 cs (Uc (ep+1) [] (DO sv).1.1 0)):=HTK2.o.fr pD (fun k hk=>aj.o k (WG hk));have HD5:Hid (X5 w5 g b (DO sv).1.2 (ep+1)):=⟨hg5,gF.o.room.fr pD (Zq _) (fun h=>tW (Eq.symm h)) (fun k c fr hk=>aj.o.ne Zi k c fr (WG hk))⟩;have hi:=Px JO.o;have hold:=Pw JO.o;have Oz:=JO.o.one;clear hg5 pD CC)|(with_reducible refine ZT 100 (.tmp 4) (.tmp 29) rfl ?_;refine VM rfl 100 (.tmp 4) (.tmp 29) rfl rfl (w.heap.size+1) cs.toArray rfl rfl 100 W_ JK hi hold Oz ?_))
   refine Vr (v:= .agg cs.toArray) ?_ rfl ?_
   ·exact jz
   exact Ur.o _ cs _ _ Gv.o JO.o HD5.o Hj.o
  ·rw[ZU he]at Hj;have hb:((DO sv).2 !=0)=true:=by rw[Rs];exact he
   have Y7:((DO sv).2==0)=false:=by rw[Wz];exact he
   have HDR:Hid (X5 w2 g b R ep):=by have h:=gF.o;rw[HDOR.o he]at h;exact h
   clear gF;go_wp2_with (first|(go_at_call 78;refine(Pv 6 (DO sv).2 _).mono ?_;rintro e w5 ⟨⟨cs,rfl,O9⟩,Nu⟩;have Gv:Hid (Fr w1 (fun k=>k=b∨k=g) w1 w5):=wE.o.trans (Fr.Z8 _ (Nu.mono wE.o.size));have JK:=(Gv.o.block (w.heap.size+1) (ZY HZ.o) Zo).trans HZ.o;have HD5:=Zh (HDR.o.below Nu);have hi:=Px O9;have hold:=Pw O9;have Oz:=O9.one;have JO:=Zh O9;clear O9 Nu)|(with_reducible refine ZT 100 (.tmp 4) (.tmp 25) rfl ?_;refine VM rfl 100 (.tmp 4) (.tmp 25) rfl rfl (w.heap.size+1) cs.toArray rfl rfl 100 W_ JK hi hold Oz ?_))
   refine Vr (v:= .agg cs.toArray) ?_ rfl ?_
   ·exact jz
   exact Ur.o _ cs _ _ Gv.o JO.o HD5.o Hj.o
structure QN where
 bad:Int
 XE:Int
 unknown:Int
 refused:Int
def lT:QN:=⟨0,0,0,0⟩
def QN.add(c:QN)(k u:Int):QN:=
 ⟨if k=3 then c.bad+1 else c.bad,if k=4 then c.XE+1 else c.XE,(if k=5 then c.unknown+1 else c.unknown)+u,if k=6 then c.refused+1 else c.refused⟩
structure QN.Below(c:QN)(n:Int):Prop where
 bad:0≤c.bad∧c.bad≤n
 XE:0≤c.XE∧c.XE≤n
 unknown:0≤c.unknown∧c.unknown≤n
 refused:0≤c.refused∧c.refused≤n
structure wh where
 R:Room
 ep:Int
 c:QN
def wh.take(F:wh)(o:Op)(b:List UInt8)(sv:Value):Taken×wh:=
 ((By.take F.R F.ep o b sv).1.1,⟨(By.take F.R F.ep o b sv).1.2,(By.take F.R F.ep o b sv).2,F.c.add (By.take F.R F.ep o b sv).1.1.XR.kind (By.take F.R F.ep o b sv).1.1.unknown⟩)
def fcells(d:Nat)(c:QN):Array Value:=#[.pointer (some ⟨d,0,none⟩),.int .i64 c.bad,.int .i64 c.XE,.int .i64 c.unknown,.int .i64 c.refused,.int .i64 0,.int .i64 0,.int .i64 0,.int .i64 0]
structure SD(w:World)(f d b:Nat)(F:wh):Prop where
 Y8:w.heap[f]?=some (.cells (fcells d F.c) 90 (0,0))
 TJ:X5 w d b F.R F.ep
def SD.below{w w':World}{f d b:Nat}{F:wh}(h:SD w f d b F)(hb:Below w w w'):SD w' f d b F:=⟨by rw[hb.block f (ZY h.Y8)];exact h.Y8,h.TJ.below hb⟩
def SD.ne{w:World}{f d b:Nat}{F:wh}(h:SD w f d b F):f≠d∧f≠b∧d≠b:=by
 refine⟨fun e=>?_,fun e=>?_,h.TJ.ne⟩
 ·have h1:=h.Y8;rw[e,h.TJ.Y8]at h1;injection h1 with h1
  injection h1 with _ h1
  exact absurd h1 Zd
 ·obtain⟨c,hc,_⟩:=h.TJ.room.cells;rw[←e,h.Y8]at hc;injection hc with hc
  injection hc with _ hc
  exact absurd hc Zd
def v_(w:World):Calls prog 40 #[] w fun e w'=>(∃d b,e = .returned (.pointer (some ⟨d,0,none⟩))∧X5 w' d b empty 0∧w.heap.size≤d∧w.heap.size≤b)∧Below w w w':=by
 have C:=Zh (rA w);go_enter func40,ntmps40;go_wp2_with (go_at_call 69;refine C.o.mono ?_;rintro e w2 ⟨rfl,Xh,Y7⟩;have HR:=Zh Xh;have HB:=Zh Y7;clear Xh Y7)
 go_ret;exact⟨⟨_,w.heap.size,rfl,⟨Z9 w2 _,HR.o.below (Z' w2 _)⟩,HB.o.size,Zq _⟩,ZA HB.o (Zq _) _⟩
def X5.fr{w w':World}{g b:Nat}{R:Room}{ep:Int}{S:Nat→Prop}(h:X5 w g b R ep)(hf:Fr w S w w')(hd:¬S g)(hb:¬S b)(hS:∀k c fr,S k→w.heap[k]?≠some (.cells c 66 fr)):X5 w' g b R ep:=
 ⟨(hf.block g (ZY h.Y8) hd).trans h.Y8,h.room.fr hf (Zq _) hb hS⟩
structure WR where
 x:OpV
 b:List UInt8
structure JQ(w:World)(v:Value)(L:List WR):Prop where
 row:Row w 32 v L.length (L.flatMap fun y=>XD y.x)
 each:∀y∈L,Row w 66 (.slice y.x.sa y.x.o.ZG.length y.x.sc) y.x.o.ZG.length (YF y.x.o.ZG)∧Row w 5 (.slice y.x.ba y.x.bl y.x.bc) y.b.length (Re y.b)∧y.x.o.name.length<9223372036854775807
def JQ.below{w w':World}{v:Value}{L:List WR}(h:JQ w v L)(hb:Below w w w'):JQ w' v L:=⟨h.row.below hb,fun y hy=>⟨(h.each y hy).1.below hb,(h.each y hy).2.1.below hb,(h.each y hy).2.2⟩⟩
def JQ.fr{w w':World}{v:Value}{L:List WR}{S:Nat→Prop}(h:JQ w v L)(hf:Fr w S w w')(hS:LH w S):JQ w' v L:=
 ⟨Row.fr h.row hf (Zq _) (hS.ne Zi),fun y hy=>⟨Row.fr (h.each y hy).1 hf (Zq _) (hS.ne Zi),Row.fr (h.each y hy).2.1 hf (Zq _) (hS.ne Zi),(h.each y hy).2.2⟩⟩
def SD.apart{w:World}{f d b:Nat}{F:wh}(h:SD w f d b F):LH w (fun k=>k=b∨k=d∨k=f):=by
 rintro k (rfl|rfl|rfl)
 ·exact h.TJ.apart k (WQ rfl)
 ·exact h.TJ.apart k (WG rfl)
 ·exact⟨_,_,_,h.Y8,by decide,by decide,by decide,by decide,by decide,by decide,by decide⟩
def pk7:List UInt8:=[128,96,0,7,0,0,0,50,0,0,0,10,192,90,0,9,5]
def bop:Nat→Op
 | 0=>⟨2,1,0,0,[97,110,110],[]⟩
 | 1=>⟨2,2,0,0,[98,111,98],[]⟩
 | 2=>⟨4,1,3,0,[],[10,11]⟩
 | 3=>⟨6,2,3,0,[],[]⟩
 | _=>⟨1,1,0,0,[],[]⟩
def E0(h:Nat):List WR:=[⟨⟨bop 0,none,0,none,0,0⟩,[]⟩,⟨⟨bop 1,none,0,none,0,0⟩,[]⟩,⟨⟨bop 2,some ⟨h,0,none⟩,2,none,0,0⟩,[]⟩,⟨⟨bop 3,none,0,none,0,0⟩,[]⟩,⟨⟨bop 4,none,0,some ⟨h+1,0,none⟩,17,17⟩,pk7⟩]
def uG(w:World):Calls prog 68 (Qw 7 10) w fun e w'=>e = .returned (.slice (some ⟨w,0,none⟩) 17 17)∧w'=w.alloc (.cells (Re pk7).toArray 5):=by
 go_enter func68,ntmps68;go_wp2;go_ret;exact⟨rfl,rfl⟩
def BO(w:World):Calls prog 39 #[] w fun e w'=>e = .returned (.slice (some ⟨w.heap.size+2,0,none⟩) 5 5)∧JQ w' (.slice (some ⟨w.heap.size+2,0,none⟩) 5 5) (E0 w)∧Below w w w':=by
 have C:=Zh uG;go_enter func39,ntmps39;go_wp2_with (go_at_call 68;refine(C.o _).mono ?_;rintro e w2 ⟨rfl,rfl⟩)
 exact Yx33
structure S3(i:Rc):Prop where
 m0:0≤i.XS
 m1:i.XS<4294967296
 g:i.gone.length≤128
 b:i.blocks.length≤128
 p:i.Xm.length≤128
def WL(b:List UInt8)(p:Int):get b p 4<4294967296:=by
 unfold get;split
 ·exact be_lt4 jq
 ·decide
def OG:S3 XJ:=⟨by decide,by decide,by decide,by decide,by decide⟩
def qz(b:List UInt8):S3 (report b):=⟨by show(0:Int)≤0;decide,by show(0:Int)<4294967296;decide,Tv _,by show((List.range (at8 b 0%32)).map _).length≤128;rw[Te,List.length_range];omega,Tv _⟩
def Cv{b:List UInt8}(h:b.length≤512)(p:Nat):(XL b p).length≤128:=by unfold XL;rw[Te,List.length_range];omega
def mf{b:List UInt8}(h:b.length≤512)(k:Nat):S3 (parts b k):=by
 unfold parts;by_cases h1:k=203
 ·rw[ZU h1];exact⟨by show(0:Int)≤0;decide,by show(0:Int)<4294967296;decide,by show((XL b 4).map _).length≤128;rw[Te];exact Cv h 4,Tv _,Tv _⟩
 ·rw[Z3 h1];have hg:=WL b 8;exact⟨by show(0:Int)≤(get b 8 4:Int);omega,by show(get b 8 4:Int)<4294967296;omega,Tv _,Tv _,by show((XL b 12).map _).length≤128;rw[Te];exact Cv h 12⟩
def FB{b:List UInt8}(h:b.length≤512):S3 (YX b).1.1:=by
 unfold YX;split
 ·exact OG
 split
 ·exact OG
 split
 ·exact OG
 split
 ·unfold XP;split
  ·exact OG
  ·exact qz b
 dsimp only;split
 ·exact OG
 split
 ·exact OG
 ·exact mf jq _
def FC:∀(k:Nat) (b:List UInt8),b.length≤512→(∀i∈(Yw k b).1,S3 i)∧(Yw k b).1.length≤k
 | 0,b,h=>⟨fun i hi=>(by cases hi),Zq _⟩
 | k+1,b,h=>by
  unfold Yw;split
  ·exact⟨fun i hi=>(by cases hi),Tv _⟩
  split
  ·exact⟨fun i hi=>by rw[K4]at hi;subst hi;exact FB h,by show 1≤k+1;omega⟩
  have ih:=FC k (b.drop (YX b).1.2) (by rw[QG];omega);dsimp only;split
  ·exact⟨fun i hi=>(by cases hi),Tv _⟩
  ·refine⟨fun i hi=>?_,by rw[List.length_cons];exact Nat.succ_le_succ ih.2⟩;rcases K5.1 hi with rfl|hi
   ·exact FB h
   ·exact ih.1 i hi
def S9(b:List UInt8):(∀i∈(Yl b).1,S3 i)∧(Yl b).1.length≤8:=by
 unfold Yl;split
 ·exact⟨fun i hi=>(by cases hi),Tv _⟩
 ·exact FC 8 b Zo
def OT{b:List UInt8}(h3:192≤at8 b 1∧at8 b 1≤223)(h:(XX b).2=0):(XX b).1 = .X4 (Yl b).1:=by
 unfold XX at h ⊢;by_cases h1:512<b.length
 ·rw[ZU h1]at h;cases h
 rw[Z3 h1]at h ⊢;by_cases h2:b.length<2
 ·rw[ZU h2]at h;cases h
 rw[Z3 h2,ZU h3]at h ⊢;by_cases h4:(Yl b).2≠0
 ·rw[ZU h4]at h;exact absurd h h4
 ·rw[Z3 h4]
def Lp(R:Room)(p x:Int):(YM R p x).1.1.length≤18:=by
 unfold YM;split
 ·exact Tv _
 ·exact Oq _ _
def tJ(e:Int):0≤xA e∧xA e≤1:=by unfold xA;split <;> omega
def PT(peer:Int):∀(l:List Int) (R:Room),Inv R→Wc R→Inv (Y6 peer l R).1.2∧Wc (Y6 peer l R).1.2∧(Y6 peer l R).1.1.length≤18*l.length∧0≤(Y6 peer l R).2∧(Y6 peer l R).2≤l.length
 | [],R,h,hs=>⟨h,hs,Zq _,Int.le_refl _,Int.le_refl _⟩
 | x :: l,R,h,hs=>by
  have ih:=PT peer l (YM R peer x).1.2 (Lv h peer x) (MR hs peer x);have h1:=Lp R peer x;have h2:=tJ (YM R peer x).2;unfold Y6;refine⟨ih.1,ih.2.1,?_,?_,?_⟩
  ·show((YM R peer x).1.1++_).length≤_;rw[UC,List.length_cons];have:=ih.2.2.1;omega
  ·show 0≤xA _+_;have:=ih.2.2.2.1;omega
  ·show xA _+_≤((l.length+1:Nat):Int);have:=ih.2.2.2.2;omega
def IX{R:Room}(h:Inv R)(hs:Wc R)(peer:Int){i:Rc}(hi:S3 i):Inv (X_ R peer i).1.2∧Wc (X_ R peer i).1.2∧(X_ R peer i).1.1.length≤3000∧0≤(X_ R peer i).2∧(X_ R peer i).2≤1000:=by
 unfold X_;split
 ·exact⟨h,hs,Tv _,by dsimp only;split <;> omega,by dsimp only;split <;> omega⟩
 split
 ·exact⟨h,hs,Tv _,by dsimp only;split <;> omega,by dsimp only;split <;> omega⟩
 split
 ·have:=PT peer i.gone R h hs;have hg:=hi.g;exact⟨this.1,this.2.1,Zo,this.2.2.2.1,Zo⟩
 ·exact⟨h,hs,Tv _,Int.le_refl _,by show(0:Int)≤1000;decide⟩
def P4(peer:Int):∀(l:List Rc) (R:Room),Inv R→Wc R→(∀i∈l,S3 i)→Inv (Zw peer l R).1.2∧Wc (Zw peer l R).1.2∧(Zw peer l R).1.1.length≤3000*l.length∧0≤(Zw peer l R).2∧(Zw peer l R).2≤1000*l.length
 | [],R,h,hs,hi=>⟨h,hs,Zq _,Int.le_refl _,Int.le_refl _⟩
 | x :: l,R,h,hs,hi=>by
  have h1:=IX h hs peer (hi x (List.mem_cons_self ..));have ih:=P4 peer l (X_ R peer x).1.2 h1.1 h1.2.1 (fun i h=>hi i (List.mem_cons_of_mem _ h));unfold Zw;refine⟨ih.1,ih.2.1,?_,?_,?_⟩
  ·show((X_ R peer x).1.1++_).length≤_;rw[UC,List.length_cons];have:=ih.2.2.1;omega
  ·show 0≤(X_ R peer x).2+_;have:=ih.2.2.2.1;omega
  ·show(X_ R peer x).2+_≤((1000:Int)*((l.length+1:Nat):Int));have:=ih.2.2.2.2;omega
def xE{R:Room}(h:Inv R)(hs:Wc R)(ep p:Int)(l:List UInt8):Inv (YD R ep p l).1.2∧Wc (YD R ep p l).1.2∧0≤(YD R ep p l).1.1.unknown∧(YD R ep p l).1.1.unknown≤8000∧ep≤(YD R ep p l).2∧(YD R ep p l).2≤ep+1:=by
 unfold YD;by_cases h1:(XX l).2≠0
 ·rw[ZU h1];exact⟨h,hs,by show(0:Int)≤0;decide,by show(0:Int)≤8000;decide,Int.le_refl _,by show ep≤ep+1;omega⟩
 rw[Z3 h1];by_cases h2:(!Y5 R p)=true
 ·rw[ZU h2];exact⟨h,hs,by show(0:Int)≤0;decide,by show(0:Int)≤8000;decide,Int.le_refl _,by show ep≤ep+1;omega⟩
 rw[Z3 h2];by_cases h3:192≤at8 l 1∧at8 l 1≤223
 ·rw[OT h3 Zo];have hk:=S9 l;have:=P4 p (Yl l).1 R h hs hk.1;exact⟨this.1,this.2.1,this.2.2.2.1,by show(Zw p (Yl l).1 R).2≤8000;omega,by show ep≤ep+1;omega,Int.le_refl _⟩
 ·rcases kV:(XX l).1 with _|⟨P,d⟩|fl
  ·exact⟨h,hs,by show(0:Int)≤0;decide,by show(0:Int)≤8000;decide,by show ep≤ep+1;omega,Int.le_refl _⟩
  ·dsimp only;refine⟨h,hs,?_,?_,Int.le_refl _,Zo⟩
   ·unfold VK;split <;> (show(0:Int)≤0;decide)
   ·unfold VK;split <;> (show(0:Int)≤8000;decide)
  ·exfalso;unfold XX at kV;rw[Z3 h3]at kV;split at kV
   ·cases kV
   split at kV
   ·cases kV
   split at kV
   ·cases kV
   split at kV
   ·cases kV
   ·cases kV
def FT(R:Room)(p x:Int):owned R.bare p x=owned R p x:=by
 unfold owned;rw[Kt];rfl
def xL(R:Room)(p x:Int):YM R.bare p x=(((YM R p x).1.1,(YM R p x).1.2.bare),(YM R p x).2):=by
 have h1:Y5 R.bare p=Y5 R p:=rfl;have h2:∀n,(R.bare.src n).own=(R.src n).own:=fun _=>rfl
 unfold YM;rw[Kt,h1,h2,Mj];split <;> rfl
def Ka(p:Int):∀(l:List Int) (R:Room),Y6 p l R.bare=(((Y6 p l R).1.1,(Y6 p l R).1.2.bare),(Y6 p l R).2)
 | [],R=>rfl
 | x :: l,R=>by
  unfold Y6;rw[xL];dsimp only;rw[Ka p l]
def yl(R:Room)(p:Int)(i:Rc):X_ R.bare p i=(((X_ R p i).1.1,(X_ R p i).1.2.bare),(X_ R p i).2):=by
 have h1:Ul R.bare p i.XS=Ul R p i.XS:=rfl;unfold X_;rw[FT,h1,Ka];split
 ·rfl
 split
 ·rfl
 split <;> rfl
def Kk(p:Int):∀(l:List Rc) (R:Room),Zw p l R.bare=(((Zw p l R).1.1,(Zw p l R).1.2.bare),(Zw p l R).2)
 | [],R=>rfl
 | x :: l,R=>by
  unfold Zw;rw[yl];dsimp only;rw[Kk p l]
def yB(R:Room)(ep p:Int)(P:JR)(d:Eu):VK R.bare ep p P d=VK R ep p P d:=by
 unfold VK;rw[FT,Kt]
def DV(R:Room)(ep p:Int)(l:List UInt8):YD R.bare ep p l=(((YD R ep p l).1.1,(YD R ep p l).1.2.bare),(YD R ep p l).2):=by
 have h1:Y5 R.bare p=Y5 R p:=rfl;unfold YD;rw[h1];split
 ·rfl
 split
 ·rfl
 cases (XX l).1 with
 | none=>rfl
 | XS P d=>dsimp only;rw[yB]
 | X4 fl=>dsimp only;rw[Kk]
def qM(R:Room)(ep:Int)(o:Op)(l:List UInt8)(sv zM:Value):(take R.bare ep o l zM).1.1=(take R ep o l sv).1.1∧(take R.bare ep o l zM).1.2.bare=(take R ep o l sv).1.2.bare∧(take R.bare ep o l zM).2=(take R ep o l sv).2:=by
 unfold take;by_cases h:o.kind=1
 ·rw[ZU h,ZU h,DV];exact⟨rfl,rfl,rfl⟩
 ·rw[Z3 h,Z3 h];obtain⟨h1,h2,h3⟩:=xI R o sv zM;rw[h2];by_cases h4:(Wq R o sv).2≠0
  ·rw[ZU h4,ZU h4];exact⟨rfl,rfl,rfl⟩
  ·rw[Z3 h4,Z3 h4];dsimp only;rw[h1];exact⟨rfl,h3,rfl⟩
def Bo{R:Room}(h:Inv R)(hs:Wc R)(ep:Int)(o:Op)(l:List UInt8)(sv:Value):Inv (take R ep o l sv).1.2∧Wc (take R ep o l sv).1.2∧0≤(take R ep o l sv).1.1.unknown∧(take R ep o l sv).1.1.unknown≤8000∧ep≤(take R ep o l sv).2∧(take R ep o l sv).2≤ep+1:=by
 unfold take;split
 ·exact xE h hs ep o.peer l
 split
 ·exact⟨h,hs,by show(0:Int)≤0;decide,by show(0:Int)≤8000;decide,Int.le_refl _,by show ep≤ep+1;omega⟩
 ·exact⟨A1 h o sv,Gc hs o sv,by show(0:Int)≤0;decide,by show(0:Int)≤8000;decide,by show ep≤ep+1;omega,Int.le_refl _⟩
def vq(R:Room)(ep:Int)(o:Op)(l:List UInt8)(sv:Value):((take R ep o l sv).1.1.XR.kind=2∧(take R ep o l sv).1.1.XR.Nt=ep+1∧(take R ep o l sv).2=ep+1)∨((take R ep o l sv).1.1.XR.kind≠2∧(take R ep o l sv).2=ep∧((take R ep o l sv).1.1.XR.kind=1→(take R ep o l sv).1.1.XR.Nt=ep)):=by
 unfold take;split
 ·unfold YD;split
  ·exact WG ⟨by show(3:Int)≠2;decide,rfl,fun h=>absurd h (by show(3:Int)≠1;decide)⟩
  split
  ·exact WG ⟨by show(4:Int)≠2;decide,rfl,fun h=>absurd h (by show(4:Int)≠1;decide)⟩
  cases (XX l).1 with
  | none=>exact WQ ⟨rfl,rfl,rfl⟩
  | XS P d=>
   dsimp only;unfold VK;split
   ·exact WG ⟨by show(1:Int)≠2;decide,rfl,fun _=>rfl⟩
   ·exact WG ⟨by show(5:Int)≠2;decide,rfl,fun h=>absurd h (by show(5:Int)≠1;decide)⟩
  | X4 fl=>exact WQ ⟨rfl,rfl,rfl⟩
 split
 ·exact WG ⟨by show(6:Int)≠2;decide,rfl,fun h=>absurd h (by show(6:Int)≠1;decide)⟩
 ·exact WQ ⟨rfl,rfl,rfl⟩
def Yf(L:List WR):Nat→Room×Int
 | 0=>(empty,0)
 | k+1=>match L[k]? with
  | none=>Yf L k
  | some y=>((take (Yf L k).1 (Yf L k).2 y.x.o y.b (.slice none 0 0)).1.2.bare,(take (Yf L k).1 (Yf L k).2 y.x.o y.b (.slice none 0 0)).2)
def Z6(L:List WR)(k:Nat):Taken:=match L[k]? with
 | none=>Uo
 | some y=>(take (Yf L k).1 (Yf L k).2 y.x.o y.b (.slice none 0 0)).1.1
def yZ{L:List WR}{k:Nat}{y:WR}{R:Room}{ep:Int}(hy:L[k]?=some y)(hR:R.bare=(Yf L k).1)(he:ep=(Yf L k).2)(sv:Value) :
  (take R ep y.x.o y.b sv).1.1=Z6 L k∧(take R ep y.x.o y.b sv).1.2.bare=(Yf L (k+1)).1∧(take R ep y.x.o y.b sv).2=(Yf L (k+1)).2:=by
 obtain⟨h1,h2,h3⟩:=qM R ep y.x.o y.b sv (.slice none 0 0);rw[hR,he]at h1 h2 h3;have e1:Z6 L k=(take (Yf L k).1 (Yf L k).2 y.x.o y.b (.slice none 0 0)).1.1:=by unfold Z6;rw[hy]
 have e2:Yf L (k+1)=((take (Yf L k).1 (Yf L k).2 y.x.o y.b (.slice none 0 0)).1.2.bare,(take (Yf L k).1 (Yf L k).2 y.x.o y.b (.slice none 0 0)).2):=by
  conv=>lhs;unfold Yf
  rw[hy]
 rw[e1,e2,he];exact⟨h1.symm,h2.symm,h3.symm⟩
def Dr{L:List WR}{k:Nat}(hk:k<L.length):((Z6 L k).XR.kind=2∧(Z6 L k).XR.Nt=(Yf L k).2+1∧(Yf L (k+1)).2=(Yf L k).2+1)∨((Z6 L k).XR.kind≠2∧(Yf L (k+1)).2=(Yf L k).2∧((Z6 L k).XR.kind=1→(Z6 L k).XR.Nt=(Yf L k).2)):=by
 have hy:L[k]?=some L[k]:=U' hk;have e1:Z6 L k=(take (Yf L k).1 (Yf L k).2 L[k].x.o L[k].b (.slice none 0 0)).1.1:=by unfold Z6;rw[hy]
 have e2:(Yf L (k+1)).2=(take (Yf L k).1 (Yf L k).2 L[k].x.o L[k].b (.slice none 0 0)).2:=by
  conv=>lhs;unfold Yf
  rw[hy]
 rw[e1,e2];exact vq _ _ _ _ _
def I_(L:List WR):∀k,0≤(Yf L k).2∧(Yf L k).2≤k
 | 0=>⟨Int.le_refl _,Int.le_refl _⟩
 | k+1=>by
  have ih:=I_ L k;by_cases hk:k<L.length
  ·rcases Dr hk with⟨_,_,h⟩|⟨_,h,_⟩ <;> (rw[h];omega)
  ·have e2:Yf L (k+1)=Yf L k:=by
    conv=>lhs;unfold Yf
    rw[List.getElem?_eq_none Zo]
   rw[e2];omega

/- Part of a proof. -/
import Derived.Test.YtpdjhlcbcomdkaaGreatDoorF32
set_option linter.unusedVariables false
set_option linter.unusedSimpArgs false
set_option maxRecDepth 100000
set_option maxHeartbeats 16000000
open Go Go.Q Go.Qr
namespace Go.Proofs.By
open Go.RowKit Go.Proofs.Heap Go.Proofs
open Go.Proofs.Rm (ZT ZU WJ ZL Xg below_drewN)
def XG (n at':Int) (key:Int × Int) (Q:List XJ) (m:Nat):List XJ:=XT n at' (fun k=>decide (k=key)) (Q.take m)++Q.drop m
theorem Em (n at':Int) (key:Int × Int) (Q:List XJ) (m:Nat):(XG n at' key Q m).length=Q.length:=by
 unfold XG XT
 rw [SP,UM,TU,RU]
 omega
theorem GR (n at':Int) (key:Int × Int) (Q:List XJ):XG n at' key Q 0=Q:=by
 unfold XG XT
 rw [List.take_zero,List.drop_zero];rfl
theorem El (n at':Int) (key:Int × Int) (Q:List XJ) {m:Nat} (h:Q.length≤m):XG n at' key Q m=XT n at' (fun k=>decide (k=key)) Q:=by
 unfold XG
 rw [I8 h,List.drop_eq_nil_of_le h,Df]
theorem GQ (n at':Int) (key:Int × Int) {Q:List XJ} {m:Nat} (hm:m<Q.length):XG n at' key Q (m+1)=if ((XG n at' key Q m).getD m UI).fin=n∧Xd ((XG n at' key Q m).getD m UI)=key then (XG n at' key Q m).set m {(XG n at' key Q m).getD m UI with fin:=at'} else XG n at' key Q m:=by
 have hl:(XT n at' (fun k=>decide (k=key)) (Q.take m)).length=m:=by unfold XT;rw [UM,TU];omega
 have e0:XG n at' key Q m=XT n at' (fun k=>decide (k=key)) (Q.take m)++Q[m] :: Q.drop (m+1):=by unfold XG;rw [List.drop_eq_getElem_cons hm]
 have e1:(XG n at' key Q m).getD m UI=Q[m]:=by
  rw [e0,Sq,bz Zo,hl,Nat.sub_self];rfl
 have e2:XG n at' key Q (m+1)=XT n at' (fun k=>decide (k=key)) (Q.take m)++(if Q[m].fin=n∧decide (Xd Q[m]=key)=true then {Q[m] with fin:=at'} else Q[m]) :: Q.drop (m+1):=by
  unfold XG
  rw [List.take_succ_eq_append_getElem hm]
  unfold XT
  rw [ND,pL]
  rfl
 rw [e1,e2]
 by_cases h:Q[m].fin=n∧Xd Q[m]=key
 ·rw [ZX h,ZX ⟨h.1,Ws h.2⟩,e0,List.set_append_right _ _ Zo,hl,Nat.sub_self];rfl
 ·rw [Z6 h,Z6 (fun x=>h ⟨x.1,of_decide_eq_true x.2⟩),e0]
theorem tq (B k b:Nat) (oa:Option Addr) (n oc:Nat) (av ev lv uv:Value) (c0 c1 c2 c3:Int) (LS:List XJ) (T:ZU) (was:List WJ) (at':Int) (w:World)
  (PQ:w.heap[k]?=some (.cells (Qu oa n oc av ev lv c0 c1 c2 c3 0 0 0 0 (some ⟨b,0,none⟩)) 44 (0,0))) (hR:ZT w b T) (yX:w.ownsRow B 59 4 lv LS.length (LS.flatMap Yi)) (oX:Row w 105 uv was.length (was.flatMap ZL)) :
  Calls Tryz.prog 43 #[.pointer (some ⟨k,0,none⟩),uv,.int .i64 at'] w fun e w'=>e = .returned (.tuple #[])∧w'.ownsRow B 59 4 lv (Sw n at' T was LS).length ((Sw n at' T was LS).flatMap Yi)∧Fr w (fun j=>lv.ownBlock=some j) w w':=by
 obtain ⟨la,lc,hlv,Dl⟩:=Row.ZV yX
 subst hlv
 obtain ⟨ua,uc,rfl⟩:=Row.form oX
 have HK:Hid (∀ w',Fr w (fun j=>(Value.slice la LS.length lc).ownBlock=some j) w w'→w'.heap[k]?=some (.cells #[.slice oa n oc,av,ev,.slice la LS.length lc,.int .i64 c0,.int .i64 c1,.int .i64 c2,.int .i64 c3,.int .i64 0,.int .i64 0,.int .i64 0,.int .i64 0,.pointer (some ⟨b,0,none⟩)] 44 (0,0))):=fun w' hf=>(hf.block k (ZQ PQ) (fun e=>X4 yX Zd _ _ _ e PQ)).trans PQ
 have HR:Hid (∀ w',Fr w (fun j=>(Value.slice la LS.length lc).ownBlock=some j) w w'→ZT w' b T):=fun w' hf=>Vg hR hf (Sh yX Zd)
 have HU:Hid (∀ w',Fr w (fun j=>(Value.slice la LS.length lc).ownBlock=some j) w w'→Row w' 105 (.slice ua was.length uc) was.length (was.flatMap ZL)):=fun w' hf=>Row.fr oX hf (ZB _) (X4 yX Zd)
 have HL:=Zh yX
 have yY:=(Row.ZV yX).len
 have hwl:=oX.len
 rw [NS]
 clear PQ hR yX oX
 go_enter Tryz.func43,Tryz.ntmps43
 go_wp2_with fail
 go_loopw [11] (fun s11 w'=>∃ i:Nat,i≤was.length∧s11 = .int .i64 (i:Int)∧w'.ownsRow B 59 4 (.slice la LS.length lc) LS.length ((Sw n at' T (was.take i) LS).flatMap Yi)∧Fr w (fun j=>(Value.slice la LS.length lc).ownBlock=some j) w w') (fun s11 _=>was.length-(intOf s11).toNat)
 case atStart=>exact ⟨0,Zo,rfl,HL.o,Fr.refl _ _ _⟩
 case round=>
  obtain ⟨i,hi,rfl,YO,Xm⟩:=hrel
  have U5:=Zh Xm
  clear HL
  by_cases cH:i<was.length
  ·obtain ⟨g',off',e1,UO⟩:=EA ZL 4 (fun _=>rfl) (HU.o _ Xm) Zo
   cases e1
   have hx:was[i]?=some was[i]:=VQ cH
   have UO:=UO i _ hx
   have HT:=Zh (Pr hx)
   clear hx
   generalize was[i]=x at *
   have Lj:=Zh (zA n at' T (was.take i) x LS)
   have hQl:=NS n at' T (was.take i) LS
   generalize Sw n at' T (was.take i) LS=Q at *
   have xN:wr.rangeAt g' (off'+i*4) (Qg x.peer x.source x.want x.ZR):=fun m v hm=>(UO m (by have h:=(List.getElem?_eq_some_iff.1 hm).1;simpa using h)).trans hm
   have hiI:(i:Int)<(was.length:Int):=Gs.2 cH
   have hz:=Z5 wr (.cells (Qg 0 0 0 false) 105)
   have BC:=setRow_heap _ _ _ (Qg x.peer x.source x.want x.ZR) _ _ hz
   have QI:Hid (Below wr wr ((wr.alloc (.cells (Qg 0 0 0 false) 105)).setRow wr.heap.size (Qg x.peer x.source x.want x.ZR))):=Z0 (Z' wr _) (ZB _) _
   have JV:Hid (Fr w (fun j=>(Value.slice la LS.length lc).ownBlock=some j) w ((wr.alloc (.cells (Qg 0 0 0 false) 105)).setRow wr.heap.size (Qg x.peer x.source x.want x.ZR))):=Xm.trans (Fr.Z9 _ (QI.o.mono Xm.size))
   have kB:=Zh (X9 YO QI.o)
   have vC:=HK.o _ JV.o
   clear UO Xm YO U5 QI
   go_upto_region 3 with (first|(with_reducible refine Yp 105 (.tmp 13) rfl ?_;refine Zm xN Tryz.underlying105 ?_)|(with_reducible refine ZY 105 (.tmp 7) (.tmp 14) rfl ?_;refine Zs hz ?_))
   clear hz xN
   have ur:=ZQ BC
   generalize ((wr.alloc (.cells (Qg 0 0 0 false) 105)).setRow wr.heap.size (Qg x.peer x.source x.want x.ZR))=w5 at *
   generalize wr.heap.size=kb at *
   have qD:=Zh BC
   obtain ⟨xp,xs,xw,xz⟩:=x
   have mW:=Zh (HR.o _ JV.o)
   have CB:=Zh (Xg b T xp xs w5.drew (mW.o.below (YG w5.heap.size w5).drew))
   have HOO:Hid (Rb n at' T Q ⟨xp,xs,xw,xz⟩=if 0≤T.Zx xp xs then Q else XT n at' (fun k=>decide (k=(xp,xs))) Q):=rfl
   generalize Rb n at' T Q ⟨xp,xs,xw,xz⟩=Q2 at *
   generalize T.Zx xp xs=sa at *
   have ZC:Hid (∀ w',Below w5 w5 w'→w'.cell? ⟨k,12,none⟩=some (.pointer (some ⟨b,0,none⟩))∧w'.cell? ⟨kb,0,none⟩=some (.int .i64 xp)∧w'.cell? ⟨kb,1,none⟩=some (.int .i64 xs)):=fun w' h=>by
    have a1:=(h.block _ (ZQ vC)).trans vC
    have a2:=(h.block _ ur).trans qD.o
    exact ⟨Zc a1 12 rfl,Zc a2 0 rfl,Zc a2 1 rfl⟩
   clear BC
   refine QN ?_
   refine Z3.Yq (d:=8) (S:=(fun w'=>w'.cell? ⟨k,12,none⟩=some (.pointer (some ⟨b,0,none⟩))∧w'.cell? ⟨kb,0,none⟩=some (.int .i64 xp)∧w'.cell? ⟨kb,1,none⟩=some (.int .i64 xs))) Zk ?_ (fun Yb=>?_)
   ·(try dsimp only)
    exact ZC.o _ (YG _ _).drew
   refine YP 0 (h:=YP 1 (h:=YP 2 (h:=YP 4 (h:=YP 6 (h:=YK 3 (h:=YK 5 (h:=YK 7 (h:=?_))))))))
   refine YR 8 (h:=fun K hK=>?_)
   go_simp
   refine CB.o.mono ?_
   rintro e w7 ⟨rfl,Fm⟩
   have kp:=Zh Fm
   clear Fm
   go_wp2_with fail
   refine Z3.WO hK _ _ Zk ?_
   clear hK K
   try simp only [Z3.pt]
   refine YP 9 (h:=?_)
   refine Z3.Xz Zk ?_ _
   refine Py ?_
   clear ZC CB
   have mF:Hid (Below w5 w5 w7):=(YG w5.heap.size w5).drew.trans kp.o
   have pE:Hid (Fr w (fun j=>(Value.slice la LS.length lc).ownBlock=some j) w w7):=JV.o.trans (Fr.Z9 _ (mF.o.mono JV.o.size))
   have HO7:=Zh (X9 kB.o mF.o)
   have hx7:=(mF.o.block _ ur).trans qD.o
   have hkb7:=Px ur mF.o.size
   clear kp mF JV kB qD vC mW ur
   by_cases hs:0≤sa
   ·have b1:decide (0≤sa)=true:=Ws hs
    have QJ:Hid (Q2=Q):=by show _=_;rw [HOO.o,ZX hs]
    clear HOO
    go_wp2_with fail
    go_roundw
    case rel=>exact ⟨i+1,Zo,Zn,by rw [HT.o,Lj.o,QJ.o];exact HO7.o,pE.o⟩
    case measure=>simp [intOf];omega
   have b1:decide (0≤sa)=false:=WN hs
   have QJ:Hid (Q2=XT n at' (fun k=>decide (k=(xp,xs))) Q):=by show _=_;rw [HOO.o,Z6 hs]
   clear HOO
   have Fs:=HK.o _ pE.o
   have k3:w7.cell? ⟨k,3,none⟩=some (.slice la LS.length lc):=Zc Fs 3 rfl
   clear Fs
   go_wp2_with fail
   go_loopw [30] (fun s30 w'=>∃ m:Nat,m≤LS.length∧s30 = .int .i64 (m:Int)∧w'.ownsRow B 59 4 (.slice la LS.length lc) LS.length ((XG n at' (xp,xs) Q m).flatMap Yi)∧Fr w7 (fun j=>(Value.slice la LS.length lc).ownBlock=some j) w7 w') (fun s30 _=>LS.length-(intOf s30).toNat)
   case atStart=>exact ⟨0,Zo,rfl,by rw [GR];exact HO7.o,Fr.refl _ _ _⟩
   case round=>
    obtain ⟨m,hm,rfl,YO,Xm⟩:=hrel
    have HF8:Hid (Fr w (fun j=>(Value.slice la LS.length lc).ownBlock=some j) w wr):=pE.o.trans (Xm.mono pE.o.size (fun _ _ h=>h))
    have f_:=Zh Xm
    have M8:=Zh YO
    clear k3
    by_cases My:m<LS.length
    ·have pP:=HK.o _ HF8.o
     have r0:wr.cell? ⟨k,0,none⟩=some (.slice oa n oc):=Zc pP 0 rfl
     have r3:wr.cell? ⟨k,3,none⟩=some (.slice la LS.length lc):=Zc pP 3 rfl
     have hx8:=(Xm.block _ hkb7 (fun e=>X4 HO7.o Zd _ _ _ e hx7)).trans hx7
     have q0:wr.cell? ⟨kb,0,none⟩=some (.int .i64 xp):=Zc hx8 0 rfl
     have q1:wr.cell? ⟨kb,1,none⟩=some (.int .i64 xs):=Zc hx8 1 rfl
     obtain ⟨g,c9,cur,e9,-,Jt⟩:=Ix YO Zo
     cases e9
     have hPl:=Em n at' (xp,xs) Q m
     obtain ⟨y0,y1,y3⟩:=o8 YO (m:=m) Zo
     have fz:wr.frozen? ⟨g,m*4+3,none⟩=false:=ZI Jt _
     have AB:=GQ n at' (xp,xs) (Q:=Q) (m:=m) Zo
     generalize hP:XG n at' (xp,xs) Q m=P at *
     clear hP
     have sA:=BO at' P m Zo
     have fo:(m:Int)<(LS.length:Int):=Gs.2 My
     have yz:=Zh AB
     have Gl:=Zh sA
     generalize P.getD m UI=z at *
     obtain ⟨zp,zs,zb,zf⟩:=z
     dsimp only [Xd] at y0 y1 y3 yz Gl
     clear YO Xm pP hx8 Jt sA AB
     go_upto_region 7 with fail
     by_cases hc:(zp=xp∧zs=xs)∧zf=(n:Int)
     ·obtain ⟨⟨rfl,rfl⟩,rfl⟩:=hc
      have qu:Hid (XG n at' (zp,zs) Q (m+1)=P.set m {peer:=zp,source:=zs,bgn:=zb,fin:=at'}):=by show _=_;rw [yz.o];exact ZX ⟨rfl,rfl⟩
      have HSW:Hid (∀ w',Below wr wr w'→(w'.setCell ⟨g,m*4+3,none⟩ (.int .i64 at')).ownsRow B 59 4 (.slice (some ⟨g,0,none⟩) LS.length lc) LS.length ((P.set m {peer:=zp,source:=zs,bgn:=zb,fin:=at'}).flatMap Yi)):=fun w' hb=>by
       have h2:=NV (X9 M8.o hb) Zo (m*4+3) (.int .i64 at')
       rw [Gl.o] at h2
       exact h2
      clear yz
      go_quiet (fail)
      go_wp2
      go_roundw
      case rel=>
       refine ⟨m+1,Zo,Zn,?_,(f_.o.trans (Fr.Z9 _ (below_drewN (YG _ _) _ |>.mono f_.o.size))).setCell (p:=⟨g,m*4+3,none⟩) (Wj rfl) _⟩
       rw [qu.o]
       exact HSW.o _ (below_drewN (YG _ _) _)
      case measure=>simp [intOf];omega
     ·have qu:Hid (XG n at' (xp,xs) Q (m+1)=P):=by show _=_;rw [yz.o];exact Z6 (fun h=>hc ⟨by have h2:=h.2;rw [Prod.mk.injEq] at h2;exact h2,h.1⟩)
      clear yz Gl
      have SK:zp≠xp∨(zp=xp∧zs≠xs)∨(zp=xp∧zs=xs∧zf≠(n:Int)):=by by_cases a:zp=xp <;> by_cases b:zs=xs <;> by_cases c:zf=(n:Int) <;> simp [a,b,c] <;> exact hc ⟨⟨a,b⟩,c⟩
      clear hc
      rcases SK with h|⟨rfl,h⟩|⟨rfl,rfl,h⟩
      case' inl=>have e1:(zp == xp)=false:=by rw [WT];exact h
      case' inr.inl=>have e1:(zs == xs)=false:=by rw [WT];exact h
      case' inr.inr=>have e1:(zf == (n:Int))=false:=by rw [WT];exact h
      all_goals
       clear h
       go_quiet (fail)
       go_wp2
       go_roundw
       case rel=>exact ⟨m+1,Zo,Zn,by rw [qu.o];exact X9 M8.o (below_drewN (YG _ _) _),f_.o.trans (Fr.Z9 _ ((below_drewN (YG _ _) _).mono f_.o.size))⟩
       case measure=>simp [intOf];omega
    ·have hA:=El n at' (xp,xs) Q (m:=m) Zo
     rw [hA] at YO
     have qq:=Zh YO
     clear YO Xm M8 hA
     go_wp2
     go_roundw
     case rel=>exact ⟨i+1,Zo,Zn,by rw [HT.o,Lj.o,QJ.o];exact qq.o,HF8.o⟩
     case measure=>simp [intOf];omega
  ·have hT:was.take i=was:=I8 Zo
   rw [hT] at YO
   have qq:=Zh YO
   clear YO Xm hT
   go_wp2
   first|refine bodyPost_end (results_none Zr _ _ _) rfl ?_|refine VR (results_none Zr _ _ _) rfl ?_
   exact ⟨rfl,qq.o,U5.o⟩
open Go.Proofs.Rm (YM YE Room Z4 Inv W9 Zb eK XF)
open Go.Proofs.N_ (Xe)
open Go.Proofs.Mem
theorem Xt.fr {w w':World} {f d b:Nat} {F:Uv} {S:Nat→Prop} (h:Xt w f d b F) (hf:Fr w S w w') (h1:¬S f) (h2:¬S d) (h3:¬S b) (hS:∀ k c fr,S k→w.heap[k]?≠some (.cells c 66 fr)):Xt w' f d b F:=
 ⟨(hf.block f (ZQ h.Y8) h1).trans h.Y8,h.VO.fr hf h2 h3 hS⟩
def Uw (a:Gg):Array Value:=(Jo a)
theorem E7 {w:World} {X:Nat} {c:Array Value} {f:Nat × Nat} (h:w.heap[X]?=some (.cells c 35 f)):N7 w (· = X):=fun k hk=>by
 have hk:k=X:=hk
 subst hk
 exact ⟨_,_,_,h,by decide,by decide,by decide,by decide,by decide,by decide,by decide⟩
theorem j4 {w:World} {a:Option Addr} {c:Nat} {L:List QM} (h:Lp w (.slice a L.length c) L) (hl:0<L.length):∃ g off,a=some ⟨g,off,none⟩∧∀ (i:Nat) (y:QM),L[i]?=some y →
  w.cell? ⟨g,off+i*7,none⟩=some (.int .i64 y.x.o.kind)∧w.cell? ⟨g,off+i*7+1,none⟩=some (.int .i64 y.x.o.peer)∧w.cell? ⟨g,off+i*7+2,none⟩=some (.int .i64 y.x.o.source)∧w.cell? ⟨g,off+i*7+3,none⟩=some (.int .i64 y.x.o.Zu)∧w.cell? ⟨g,off+i*7+4,none⟩=some (.string (str y.x.o.name))∧w.cell? ⟨g,off+i*7+5,none⟩=some (.slice y.x.sa y.x.o.ZO.length y.x.sc)∧w.cell? ⟨g,off+i*7+6,none⟩=some (.slice y.x.ba y.x.bl y.x.bc):=by
 obtain ⟨g,off,cap,h1,_,_,_,h5⟩:=Rm.Ez (fun y:QM=>XF y.x) 7 (fun _=>rfl) Zo h.row hl
 exact ⟨g,off,(Rm.slice_inj h1).1,fun i x hx=>⟨h5 i x hx 0 Zo,h5 i x hx 1 Zo,h5 i x hx 2 Zo,h5 i x hx 3 Zo,h5 i x hx 4 Zo,h5 i x hx 5 Zo,h5 i x hx 6 Zo⟩⟩
theorem nM {w:World} {a:Option Addr} {n c:Nat} {l:List UInt8} (h:Row w 5 (.slice a n c) l.length (Sr l)):Yn w (.slice a n c) l:=h.r
theorem bB (k:Nat):0≤bE k∧bE k≤4:=by
 match k with
 | 0=>exact ⟨by decide,by decide⟩
 | 1=>exact ⟨by decide,by decide⟩
 | 2=>exact ⟨by decide,by decide⟩
 | 3=>exact ⟨by decide,by decide⟩
 | k+4=>exact ⟨by show (0:Int)≤4;decide,by show (4:Int)≤4;decide⟩
theorem L5:M0.Below 1000000000:=⟨by decide,by decide,by decide,by decide⟩
theorem yj (w:World) (hT:Xe w):Calls Tryz.prog 14 #[] w fun e w'=>e = .returned (.bool true)∧Below w w w':=by
 have HT:Hid (∀ w',Below w w w'→Xe w'):=fun w' h=>Utf8Tabs_below hT h
 clear hT
 have CN:=Zh (Lh w)
 go_enter Tryz.func14,Tryz.ntmps14
 go_wp2_with fail
 refine CN.o.mono ?_
 rintro e w1 ⟨⟨f,d,b,rfl,hF,h1,h2,h3⟩,Zj⟩
 obtain ⟨nfd,nfb,ndb⟩:=hF.ne
 have GF:=ZQ hF.Y8
 have Bo:=ZQ hF.VO.Y8
 have XS:=hF.VO.room.lt
 have fZ:=Zh (hF.below (Z' w1 (.cells (Uw (bA 0)) 35)))
 have Lb:Hid ((w1.alloc (.cells (Uw (bA 0)) 35)).heap[w1.heap.size]?=some (.cells (Uw (bA 0)) 35 (0,0))):=Z5 w1 _
 have Wy:Hid (Below w w (w1.alloc (.cells (Uw (bA 0)) 35))):=ZA Zj (ZB _) _
 have CB:=Zh (KH (w1.alloc (.cells (Uw (bA 0)) 35)))
 have hws:=Zj.size
 clear hF CN Zj
 go_wp2_with fail
 refine CB.o.mono ?_
 rintro e w2 ⟨rfl,Bv,Y0⟩
 have XA:=Zh (Wy.o.trans (Y0.mono Wy.o.size))
 have KB:=Zh (fZ.o.below Y0)
 have Dc:=Zh ((Y0.block w1.heap.size (ZQ Lb.o)).trans Lb.o)
 have uH:=Zh Bv
 clear Bv Y0 fZ Lb Wy CB
 obtain ⟨H,hH⟩:∃ H,H=(w1.alloc (.cells (Uw (bA 0)) 35)).heap.size:=⟨_,rfl⟩
 rw [←hH] at uH ⊢
 clear hH
 obtain ⟨L,hL⟩:∃ L,L=w1.heap.size:=⟨_,rfl⟩
 rw [←hL] at Dc GF Bo XS hws ⊢
 clear hL
 go_wp2_with fail
 go_loopw [9] (fun i w'=>∃ k:Nat,k≤5∧i = .int .i64 k∧Below w w w'∧Lp w' (.slice (some ⟨H+2,0,none⟩) 5 5) (u7 H)∧w'.heap[L]?=some (.cells (Uw (bA k)) 35 (0,0))∧∃ sv,Xt w' f d b (bF k sv)) (fun i _=>5-(intOf i).toNat)
 case atStart=>exact ⟨0,Zo,rfl,XA.o,uH.o,Dc.o,.slice none 0 0,KB.o⟩
 case round=>
  clear XA uH Dc KB
  obtain ⟨k,hk,rfl,iW,Bv,hL,sv,hF⟩:=hrel
  have ER:=Zh iW
  have uH:=Zh Bv
  have HLB:=Zh hL
  have HF:=Zh hF
  have Vr:=iW.size
  have hLl:=ZQ hL
  clear iW hL hF
  by_cases vC:k<5
  ·obtain ⟨g,off,e1,YX⟩:=j4 (L:=u7 H) (a:=some ⟨H+2,0,none⟩) (c:=5) Bv (Nat.zero_lt_succ _)
   cases e1
   obtain ⟨xa,xc,ya,yl,yc,hx⟩:=nK H k vC
   obtain ⟨c0,c1,c2,c3,c4,c5,c6⟩:=YX k _ hx
   have gI:=Zh (Bv.each _ (List.mem_of_getElem? hx))
   have Fq:H+2<wr.heap.size:=World.block_lt_of_cell? wr ⟨H+2,0+k*7,none⟩ c0
   have yz:=Zh (bC k vC sv)
   have Dd:=Zh (iz k vC)
   have he:=bB k
   clear YX hx Bv
   generalize Nc k=o at *
   generalize bG k=y at *
   obtain ⟨kd,p,n,q,nm,ss⟩:=o
   dsimp only at c0 c1 c2 c3 c4 c5 c6 gI yz Dd
   simp only [OD] at c0 c1 c2 c3 c4 c5 c6
   have hyl:kd=1∨kd≠1:=by omega
   have CD:Hid (∀ w4,Below wr wr w4→Calls Tryz.prog 18 (Qf (some ⟨f,0,none⟩) (Qa kd p n q (str nm) xa ss.length xc ya yl yc)) w4 (Te f d b (bF k sv) ⟨kd,p,n,q,nm,ss⟩ y w4)):=
    fun w4 h=>JU f d b (bF k sv) kd p n q nm ss xa ya xc yl yc y w4 (HF.o.below h) L5 (yI k sv) (J4 k sv).short (HT.o _ (ER.o.trans (h.mono Vr))) he.1 (by show bE k<_;omega) gI.o.2.2 (gI.o.1.below h).r (fun Dk=>⟨nM (gI.o.2.1.below h),Dd.o Dk⟩)
   go_wp2_with (first|(go_at_call 18;refine (CD.o _ (Z' _ _)).mono ?_;rintro e w5 ⟨QB,iY,iN,Ee⟩;obtain ⟨uA,ha,hf⟩:=yz.o QB;rw [ha] at iY;rw [hf] at iN;clear ha hf;dsimp only [DN] at iY;subst iY;have JV:=Zh iN;have gf:=Zh Ee;have TE:=Z' wr (.cells (Qa kd p n q (str nm) xa ss.length xc ya yl yc) 32);have hw4:=TE.size;have rO:w5.heap[L]?=some (.cells (Uw (bA k)) 35 (0,0)):=(Ee.block L Zo Zo).trans ((TE.block L hLl).trans HLB.o);have HOPS5:=Zh ((uH.o.below TE).fr Ee (HF.o.below TE).apart);have pY:Hid (Below w w w5):=(ER.o.trans (TE.mono Vr)).trans (Fr.below (Ee.mono (Rh Vr hw4) (fun j hj hs=>by omega)));clear iN Ee TE hw4 CD)|(with_reducible refine ZY 35 (.tmp 2) (.tmp 15) rfl ?_;refine ZW rfl 35 (.tmp 2) (.tmp 15) rfl rfl L (Uw (bA (k+1))) rfl rfl 35 _ rO Zg Zg Zg ?_))
   go_roundw
   case rel=>
    refine ⟨k+1,Zo,Zn,Z0 pY.o hws _,HOPS5.o.fr (We w5 L _) (E7 rO),setRow_heap _ _ _ _ _ _ rO,uA,?_⟩
    exact JV.o.fr (We w5 L _) (fun e=>by have e:f=L:=e;omega) (fun e=>by have e:d=L:=e;omega) (fun e=>by have e:b=L:=e;omega) (fun j c fr hj=>(E7 rO).ne Zi j c fr hj)
   case measure=>simp [intOf];omega
  ·obtain rfl:k=5:=by omega
   have CT:Hid (Calls Tryz.prog 18 (Qf (some ⟨f,0,none⟩) bw) wr (Te f d b (bF 5 sv) ⟨0,0,0,0,[],[]⟩ [] wr)):=
    JU f d b (bF 5 sv) 0 0 0 0 [] [] none none 0 0 0 [] wr HF.o L5 (yI 5 sv) (J4 5 sv).short (HT.o _ ER.o) (by show (0:Int)≤4;decide) (by show (4:Int)<1000000000;decide) Zd (Yf.nil _) (fun h=>absurd h Zd)
   clear Bv
   go_wp2_with fail
   refine CT.o.mono ?_
   rintro e w5 ⟨QB,iY,iN,Ee⟩
   rw [(lA sv QB).1] at iY
   rw [(lA sv QB).2] at iN
   dsimp only [DN] at iY
   subst iY
   have rO:w5.heap[L]?=some (.cells (Uw (bA 5)) 35 (0,0)):=(Ee.block L Zo Zo).trans HLB.o
   have pY:Hid (Below w w w5):=ER.o.trans (Fr.below (Ee.mono Vr (fun j hj hs=>by omega)))
   have Fl:=Z' w5 (.cells (Qe 6 0 0 4) 35)
   have wW:=Zh (iN.below Fl)
   have HB6:Hid (Below w w (w5.alloc (.cells (Qe 6 0 0 4) 35))):=pY.o.trans (Fl.mono pY.o.size)
   have hLl5:=ZQ rO
   have z0:w5.cell? ⟨L,0,none⟩=some (.int .i64 1):=cell_of rO 0
   have z1:w5.cell? ⟨L,1,none⟩=some (.int .i64 3):=cell_of rO 1
   have z2:w5.cell? ⟨L,2,none⟩=some (.int .i64 4):=cell_of rO 2
   have z3:w5.cell? ⟨L,3,none⟩=some (.int .i64 0):=cell_of rO 3
   have CE:=Zh (uC f d b _ _ wW.o)
   have CC:=Zh (Ha f d b _ _ wW.o)
   have CTB:=Zh (fun w' h=>N8 f d b _ w' (wW.o.below h) (J4 5 sv).short)
   have HTB:=Zh (bTab sv)
   clear CT iN Ee Fl HF HLB uH ER HT rO pY
   dsimp only at CE CC
   have hfd1:∀ w:World,(Instr.field 41 (.agg (Q5 0 0 0 1 0 0 0 0)) 3).run Tryz.prog w = .ok (.int .i64 1) w:=fun _=>by kernel_rfl
   have hfd2:∀ (a:Option Addr) (n c:Nat) (y z:Value) (w:World),(Instr.field 51 (.agg #[.slice a n c,y,z]) 0).run Tryz.prog w = .ok (.slice a n c) w:=fun _ _ _ _ _ _=>by kernel_rfl
   go_wp2_with (first|(go_at_call 23;refine CE.o.mono ?_;rintro e w7 ⟨rfl,rfl⟩)|(go_at_call 19;refine CC.o.mono ?_;rintro e w7 ⟨rfl,Fm⟩;have mF:=Zh Fm;clear Fm)|(go_at_call 21;refine (CTB.o _ mF.o).mono ?_;rintro e w8 ⟨⟨pv,uA,uv,rfl,ht⟩,oq⟩;obtain ⟨pa,pc,NR⟩:=Row.form ht.ZK;rw [HTB.o] at NR;subst NR;have HB8:=Zh (mF.o.trans (oq.mono mF.o.size));clear ht oq))
   go_ret
   exact ⟨rfl,HB6.o.trans (HB8.o.mono HB6.o.size)⟩
end Go.Proofs.By
namespace Go.Proofs.By
open Go.RowKit Go.Proofs.Heap
open Go.Proofs.Rm (below_drewN Room Inv WZ eK XF Zb U2 VG)
open Go.Proofs.N_ (Xe)
open Go.Proofs.Mem
theorem mC (v:Value) (L:List QM) (w:World) (h:Tz w v L):Calls Tryz.prog 15 #[v] w fun e w'=>(∃ v',e = .returned v'∧Tz w' v' (L.take 80))∧w=w':=by
 obtain ⟨va,vc,rfl,hvc,vF⟩:=h.form
 obtain ⟨K,hKd⟩:∃ K,K=min L.length 80:=⟨_,rfl⟩
 have hK1:K≤L.length:=by omega
 have hKm:min (L.length:Int) 80=(K:Int):=by omega
 obtain ⟨vs,U4,-,BB⟩:=RM (P:=Tryz.prog) rD va L.length vc K Zo
 have HO:Hid (Tz w (.slice vs K vc) (L.take 80)):=by
  have h2:=h.take hK1 BB
  have e:L.take K=L.take 80:=by
   rcases Nat.le_total L.length 80 with h3|h3
   ·rw [hKd,Nat.min_eq_left h3,qX,I8 h3]
   ·rw [hKd,Nat.min_eq_right h3]
  rwa [e] at h2
 clear h BB hKd
 go_enter Tryz.func15,Tryz.ntmps15
 go_wp2
 go_ret
 exact ⟨⟨_,rfl,HO.o⟩,rfl⟩
theorem E5 {c:UX} {n:Int} (h:c.Below n) (k:Int) {u:Int} (h0:0≤u) (h1:u≤8000):(c.add k u).Below (n+8001):=by
 obtain ⟨⟨a1,a2⟩,⟨b1,b2⟩,⟨c1,c2⟩,⟨d1,d2⟩⟩:=h
 unfold UX.add
 refine ⟨?_,?_,?_,?_⟩ <;> dsimp only <;> split <;> omega
theorem yi (f d b:Nat) (F:Uv) (kd p n q:Int) (nm:List UInt8) (ss:List Int) (sa ba:Option Addr) (sc bl bc:Nat) (l:List UInt8) (w:World) (hF:Xt w f d b F) (hc:F.c.Below 1000000000) (hI:Inv F.R) (hS:WZ F.R) (hT:Xe w) (h0:0≤F.ep) (h9:F.ep<1000000000)
  (hn:nm.length<9223372036854775807) (hs:Yf w (.slice sa ss.length sc) ss.length (Zb ss)) (hb:Yn w (.slice ba bl bc) l) :
  Calls Tryz.prog 18 (Qf (some ⟨f,0,none⟩) (Qa kd p n q (str nm) sa ss.length sc ba bl bc)) w (Te f d b F ⟨kd,p,n,q,nm,ss⟩ l w):=by
 refine EP f d b F kd p n q nm ss sa ba sc bl bc l w hF hc (fun sv=>?_) (fun w' h=>?_)
 ·have:=EF hI hS F.ep ⟨kd,p,n,q,nm,ss⟩ l sv
  exact ⟨this.2.2.1,by have:=this.2.2.2.1;omega⟩
 ·exact A1 d b F.R F.ep kd p n q nm ss sa ba sc bl bc l w' (hF.VO.below h) hI (Utf8Tabs_below hT h) h0 h9 hn (hs.below h) (fun hk w1 h1=>DY d b F.R F.ep kd p n q (str nm) sa ba ss.length sc bl bc l w1 ((hF.VO.below h).below h1) hI hS h0 h9 ((Yf.below hb h).below h1))
end Go.Proofs.By

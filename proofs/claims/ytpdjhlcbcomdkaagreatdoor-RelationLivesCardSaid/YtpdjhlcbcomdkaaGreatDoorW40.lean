/- Part of a proof. -/
import Derived.Test.YtpdjhlcbcomdkaaGreatDoorW35
import Derived.Test.YtpdjhlcbcomdkaaGreatDoorW39
set_option linter.unusedVariables false
set_option linter.unusedSimpArgs false
set_option maxRecDepth 100000
set_option maxHeartbeats 16000000
open Go Go.Q Go.Qr
namespace Go.Proofs.By
open Go.RowKit Go.Proofs.Heap Go.Proofs
open Go.Proofs.Rm (below_drewN YL)
theorem r8 (w:World):Calls Tryz.prog 56 #[.pointer none] w fun e w'=>e = .returned (.slice none 0 0)∧w=w':=by
 go_enter Tryz.func56,Tryz.ntmps56
 go_wp2_with fail
 go_ret
 exact ⟨rfl,rfl⟩
section
variable {w:World} {V k:Nat} {ov av mv lv:Value} {L:List VG} {x:Zq} {wv cv qv:Value}
theorem r7 (h:VB w V k ov av mv lv L x wv cv qv) (hr:Og w wv cv qv (WK L x (L.length+1))) (hL:L.length≤256) :
  Calls Tryz.prog 56 #[.pointer (some ⟨V,0,none⟩)] w fun e w'=>(∃ ev,e = .returned ev∧w'.ownsRow w 70 6 ev (Rs L x L.length).o.length ((Rs L x L.length).o.flatMap UY))∧Below w w w':=by
 have IM:=Zh h
 have HVR:=Zh hr
 obtain ⟨oa,oc,aZ,-,-⟩:=h.ops.form
 subst aZ
 have Gi:Hid (SO w (w.alloc (.cells (Qv none 0 0 0 0 0) 162)) w.heap.size (Rs L x 0) (.slice none 0 0) (.slice none 0 0)):=⟨Z' w _,Z7 w _,Ua _ _ _ _,Zw _⟩
 have hVl:=ZV h.view
 have VR:=ZV h.book
 have v0:w.cell? ⟨V,0,none⟩=some (.pointer (some ⟨k,0,none⟩)):=Zc h.view 0 rfl
 have b0:w.cell? ⟨k,0,none⟩=some (.slice oa L.length oc):=Zc h.book 0 rfl
 clear h hr
 go_enter Tryz.func56,Tryz.ntmps56
 go_wp2_with fail
 clear v0 b0 hVl VR
 generalize w.alloc (.cells (Qv none 0 0 0 0 0) 162)=w0 at *
 go_loopw [15] (fun s15 w'=>∃ (j:Nat) (uv:Value),j≤L.length∧s15 = .int .i64 (j:Int)∧SO w w' w.heap.size (Rs L x j) uv uv) (fun s15 _=>L.length-(intOf s15).toNat)
 case atStart=>exact ⟨0,_,Zo,rfl,Gi.o⟩
 case round=>
  obtain ⟨j,uv,hj,rfl,rC⟩:=hrel
  clear Gi
  have nj:=Zh rC
  clear rC
  by_cases S4:j<L.length
  ·have Al:(j:Int)<(L.length:Int):=Ou.2 S4
   have P8:=Zh (E2 L x j)
   have BZ:Hid (Rs L x (j+1)=PI L x (Wu L x j) (Rs L x j) j):=rfl
   have IK:=Zh (HVR.o.at (OY L x (Nat.lt_succ_of_lt S4)))
   generalize Rs L x j=z at *
   generalize Wu L x j=s at *
   have bq:z.o.length≤1000:=by have:=P8.o.len;omega
   have Bv:Hid (∀ e∈z.o,0≤e.event∧e.event<L.length):=fun e he=>by have:=P8.o.ev e he;omega
   obtain ⟨ua,uc,rfl⟩:=Row.form (Row.Z6 nj.o.own)
   obtain ⟨gq,oq,mq,cq,hqv,d_,hqc⟩:=IK.o.quiet
   have HQC:=Zh hqc
   have hjqI:(j:Int)<(mq:Int):=Ou.2 d_
   subst hqv
   have CP:=Zh (Jx (IM.o.below nj.o.Zj) S4)
   have zG:Hid (PI L x s z j=if Tk L x j && !s.quiet && (Ug s (ZX L j).Wo || Ei L s z.o j) then J2 L x s z j else z):=rfl
   generalize hS:PI L x s z j=ZZ at *
   have jz:=Zh hS
   clear hS hqc
   generalize BD:Ug s (ZX L j).Wo=op at *
   have HOP:=Zh BD
   generalize o_:Ei L s z.o j=go at *
   have aw:=Zh o_
   generalize Tk L x j=pk at *
   generalize s.quiet=qt at *
   clear BD o_
   cases pk with
   | false=>
    have HX:Hid (ZZ=z):=by show _=_;rw [zG.o];rfl
    go_wp2_with (go_at_call 88;refine CP.o.mono ?_;rintro e w2 ⟨rfl,Y0⟩;have QO:=Zh (nj.o.below Y0);have q7:w2.cell? ⟨V,7,none⟩=some (.slice (some ⟨gq,oq,none⟩) mq cq):=(by rw [cell_of (IM.o.below QO.o.Zj).view 7];rfl);have qc:w2.cell? ⟨gq,oq+j,none⟩=some (.bool qt):=Yi HQC.o QO.o.Zj;have CN:=Zh (TK (IM.o.below QO.o.Zj) S4 (IK.o.below QO.o.Zj));rw [HOP.o] at CN;clear Y0)
    go_roundw
    case rel=>exact ⟨j+1,_,Zo,Zn,by rw [BZ.o,HX.o];exact QO.o⟩
    case measure=>simp [intOf];omega
   | true=>
   cases qt with
   | true=>
    have HX:Hid (ZZ=z):=by show _=_;rw [zG.o];rfl
    go_wp2_with (go_at_call 88;refine CP.o.mono ?_;rintro e w2 ⟨rfl,Y0⟩;have QO:=Zh (nj.o.below Y0);have q7:w2.cell? ⟨V,7,none⟩=some (.slice (some ⟨gq,oq,none⟩) mq cq):=(by rw [cell_of (IM.o.below QO.o.Zj).view 7];rfl);have qc:w2.cell? ⟨gq,oq+j,none⟩=some (.bool true):=Yi HQC.o QO.o.Zj;have CN:=Zh (TK (IM.o.below QO.o.Zj) S4 (IK.o.below QO.o.Zj));rw [HOP.o] at CN;clear Y0)
    go_roundw
    case rel=>exact ⟨j+1,_,Zo,Zn,by rw [BZ.o,HX.o];exact QO.o⟩
    case measure=>simp [intOf];omega
   | false=>
   cases op with
   | true=>
    have HX:Hid (ZZ=J2 L x s z j):=by show _=_;rw [zG.o];rfl
    go_wp2_with (first|(go_at_call 88;refine CP.o.mono ?_;rintro e w2 ⟨rfl,Y0⟩;have QO:=Zh (nj.o.below Y0);have q7:w2.cell? ⟨V,7,none⟩=some (.slice (some ⟨gq,oq,none⟩) mq cq):=(by rw [cell_of (IM.o.below QO.o.Zj).view 7];rfl);have qc:w2.cell? ⟨gq,oq+j,none⟩=some (.bool false):=Yi HQC.o QO.o.Zj;have CN:=Zh (TK (IM.o.below QO.o.Zj) S4 (IK.o.below QO.o.Zj));rw [HOP.o] at CN;clear Y0)|(go_at_call 89;refine CN.o.mono ?_;rintro e w3 ⟨rfl,VH⟩;have Gj:=Zh (QO.o.below VH);obtain ⟨e0,e1,e2,e3⟩:=Gj.o.facts;have CG:=Zh (Kb (IM.o.below Gj.o.Zj) S4 (IK.o.below Gj.o.Zj) ua uc z.o z.opn z.begin z.UD (Row.Z6 Gj.o.own) Bv.o bq);rw [aw.o] at CG;have CSE:=Zh (O9 IM.o S4 hL IK.o w.heap.size z _ w3 Gj.o P8.o);clear VH)|(go_at_call 91;refine CSE.o.mono ?_;rintro e w5 ⟨rfl,mB,pJ⟩;have HS5:=Zh pJ;clear pJ))
    go_roundw
    case rel=>exact ⟨j+1,_,Zo,Zn,by rw [BZ.o,HX.o];exact HS5.o⟩
    case measure=>simp [intOf];omega
   | false=>
   cases go with
   | true=>
    have HX:Hid (ZZ=J2 L x s z j):=by show _=_;rw [zG.o];rfl
    go_wp2_with (first|(go_at_call 88;refine CP.o.mono ?_;rintro e w2 ⟨rfl,Y0⟩;have QO:=Zh (nj.o.below Y0);have q7:w2.cell? ⟨V,7,none⟩=some (.slice (some ⟨gq,oq,none⟩) mq cq):=(by rw [cell_of (IM.o.below QO.o.Zj).view 7];rfl);have qc:w2.cell? ⟨gq,oq+j,none⟩=some (.bool false):=Yi HQC.o QO.o.Zj;have CN:=Zh (TK (IM.o.below QO.o.Zj) S4 (IK.o.below QO.o.Zj));rw [HOP.o] at CN;clear Y0)|(go_at_call 89;refine CN.o.mono ?_;rintro e w3 ⟨rfl,VH⟩;have Gj:=Zh (QO.o.below VH);obtain ⟨e0,e1,e2,e3⟩:=Gj.o.facts;have CG:=Zh (Kb (IM.o.below Gj.o.Zj) S4 (IK.o.below Gj.o.Zj) ua uc z.o z.opn z.begin z.UD (Row.Z6 Gj.o.own) Bv.o bq);rw [aw.o] at CG;have CSE:=Zh (O9 IM.o S4 hL IK.o w.heap.size z _ w3 Gj.o P8.o);clear VH)|(go_at_call 90;refine CG.o.mono ?_;rintro e w4 ⟨rfl,OE⟩;have HS4:=Zh (Gj.o.below OE);clear CSE;have CSE:=Zh (O9 IM.o S4 hL IK.o w.heap.size z _ w4 HS4.o P8.o);clear OE)|(go_at_call 91;refine CSE.o.mono ?_;rintro e w5 ⟨rfl,mB,pJ⟩;have HS5:=Zh pJ;clear pJ))
    go_roundw
    case rel=>exact ⟨j+1,_,Zo,Zn,by rw [BZ.o,HX.o];exact HS5.o⟩
    case measure=>simp [intOf];omega
   | false=>
    have HX:Hid (ZZ=z):=by show _=_;rw [zG.o];rfl
    go_wp2_with (first|(go_at_call 88;refine CP.o.mono ?_;rintro e w2 ⟨rfl,Y0⟩;have QO:=Zh (nj.o.below Y0);have q7:w2.cell? ⟨V,7,none⟩=some (.slice (some ⟨gq,oq,none⟩) mq cq):=(by rw [cell_of (IM.o.below QO.o.Zj).view 7];rfl);have qc:w2.cell? ⟨gq,oq+j,none⟩=some (.bool false):=Yi HQC.o QO.o.Zj;have CN:=Zh (TK (IM.o.below QO.o.Zj) S4 (IK.o.below QO.o.Zj));rw [HOP.o] at CN;clear Y0)|(go_at_call 89;refine CN.o.mono ?_;rintro e w3 ⟨rfl,VH⟩;have Gj:=Zh (QO.o.below VH);obtain ⟨e0,e1,e2,e3⟩:=Gj.o.facts;have CG:=Zh (Kb (IM.o.below Gj.o.Zj) S4 (IK.o.below Gj.o.Zj) ua uc z.o z.opn z.begin z.UD (Row.Z6 Gj.o.own) Bv.o bq);rw [aw.o] at CG;have CSE:=Zh (O9 IM.o S4 hL IK.o w.heap.size z _ w3 Gj.o P8.o);clear VH)|(go_at_call 90;refine CG.o.mono ?_;rintro e w4 ⟨rfl,OE⟩;have HS4:=Zh (Gj.o.below OE);clear CSE;have CSE:=Zh (O9 IM.o S4 hL IK.o w.heap.size z _ w4 HS4.o P8.o);clear OE))
    go_roundw
    case rel=>exact ⟨j+1,_,Zo,Zn,by rw [BZ.o,HX.o];exact HS4.o⟩
    case measure=>simp [intOf];omega
  ·have MM:j=L.length:=by omega
   subst MM
   obtain ⟨ua,uc,rfl⟩:=Row.form (Row.Z6 nj.o.own)
   obtain ⟨u0,u1,u2,u3⟩:=nj.o.facts
   clear S4
   go_wp2_with fail
   go_ret
   exact ⟨⟨_,rfl,nj.o.own⟩,nj.o.Zj⟩
end
open Go.Proofs.Od (Xz)
open Go.Proofs.Mem
theorem I9 (v:Value) (L:List VG) (w:World) (hT:Xz w) (h:Xe w v L) (hL:L.length≤256) :
  Calls Tryz.prog 24 #[v] w fun e w'=>(∃ av,e = .returned av∧Row w' 35 av L.length ((XA L L.length).flatMap WE))∧Below w w w':=by
 exact Yx71
theorem tQ {w:World} {b b':Nat} {e:TypeId} {size:Nat} {v:Value} {n:Nat} {xs:List Value} (h:w.ownsRow b e size v n xs) (hb:b'≤b):w.ownsRow b' e size v n xs:=by
 obtain ⟨h1,h2⟩:=h
 refine ⟨h1,?_⟩
 rcases h2 with h2|⟨g,cap,cur,hv,hg,r⟩
 ·exact Ww h2
 ·exact Wi ⟨g,cap,cur,hv,PW hb hg,r⟩
def Rq (L:List VG) (x:Zq):List uz:=if x∈X8 L L.length L.length then (Rs L x L.length).o else []
theorem wh (v:Value) (L:List VG) (x:Zq) (w:World) (hT:Xz w) (h:Xe w v L) (hL:L.length≤256) :
  Calls Tryz.prog 29 #[v,.agg (ZY x).toArray] w fun e w'=>(∃ ev,e = .returned ev∧w'.ownsRow w 70 6 ev (Rq L x).length ((Rq L x).flatMap UY))∧Below w w w':=by
 have Sc:Hid (Below w w (w.alloc (.cells (ZY x).toArray 59))):=Z' w _
 have hz:(w.alloc (.cells (ZY x).toArray 59)).heap[w.heap.size]?=some (.cells (ZY x).toArray 59 (0,0)):=Z7 w _
 by_cases hx:x∈X8 L L.length L.length
 ·have CV:=Zh (Me v L x (w.alloc (.cells (ZY x).toArray 59)) (Utf8Tabs_below hT Sc.o) (h.below Sc.o) hL hx)
  have HX:Hid (Rq L x=(Rs L x L.length).o):=by show _=_;unfold Rq;rw [ZQ hx]
  have HL:=Zh hL
  generalize Rq L x=X at *
  clear hx hT h hL
  obtain ⟨p,sr,b,f⟩:=x
  dsimp only [ZY] at CV Sc hz ⊢
  go_enter Tryz.func29,Tryz.ntmps29
  go_wp2_with (first|(with_reducible refine Y8 59 (.tmp 3) rfl ?_;refine Y9 rfl 59 (.tmp 3) rfl w.heap.size rfl 59 (Qe p sr b f) (0,0) _ hz Tryz.underlying59 rfl ZB ?_)|(go_at_call 55;refine CV.o.mono ?_;rintro e w2 ⟨⟨V,k,ov,av,mv,lv,wv,cv,qv,rfl,pS,pT⟩,Y0⟩;have X6:=Zh (Sc.o.trans (Y0.mono Sc.o.size));have CW:=Zh (r7 pS pT HL.o);clear pS pT Y0)|(go_at_call 56;refine CW.o.mono ?_;rintro e w3 ⟨⟨ev,rfl,Lm⟩,VH⟩;have Bv:=Zh Lm;have VT:=Zh (X6.o.trans (VH.mono X6.o.size));clear Lm VH))
  go_ret
  exact ⟨⟨ev,rfl,by rw [HX.o];exact tQ Bv.o X6.o.size⟩,VT.o⟩
 ·have CV:=Zh (Md v L x (w.alloc (.cells (ZY x).toArray 59)) (Utf8Tabs_below hT Sc.o) (h.below Sc.o) hL hx)
  have HX:Hid (Rq L x=[]):=by show _=_;unfold Rq;rw [Z4 hx]
  generalize Rq L x=X at *
  clear hx hT h hL
  obtain ⟨p,sr,b,f⟩:=x
  dsimp only [ZY] at CV Sc hz ⊢
  go_enter Tryz.func29,Tryz.ntmps29
  go_wp2_with (first|(with_reducible refine Y8 59 (.tmp 3) rfl ?_;refine Y9 rfl 59 (.tmp 3) rfl w.heap.size rfl 59 (Qe p sr b f) (0,0) _ hz Tryz.underlying59 rfl ZB ?_)|(go_at_call 55;refine CV.o.mono ?_;rintro e w2 ⟨rfl,Y0⟩;have X6:=Zh (Sc.o.trans (Y0.mono Sc.o.size));have CW:=Zh (r8 w2);clear Y0)|(go_at_call 56;refine CW.o.mono ?_;rintro e w' ⟨rfl,rfl⟩))
  go_ret
  exact ⟨⟨_,rfl,by rw [HX.o];exact Ua _ _ _ _⟩,X6.o⟩
theorem rY (v:Value) (L:List VG) (x:Zq) (w:World) (hT:Xz w) (h:Xe w v L) (hL:L.length≤256) :
  Calls Tryz.prog 29 #[v,.agg (ZY x).toArray] w fun e w'=>(∃ ev,e = .returned ev∧Row w' 70 ev (Rq L x).length ((Rq L x).flatMap UY))∧Below w w w':=
 (wh v L x w hT h hL).mono fun e w' ⟨⟨ev,h1,h2⟩,h3⟩=>⟨⟨ev,h1,Row.Z6 h2⟩,h3⟩
end Go.Proofs.By
namespace Go.Proofs.By
def bX:Zq:=⟨2,3,3,5⟩
theorem bAdms (h:Nat):XA (Gu h) 5=[⟨2,0,1,0⟩,⟨2,0,2,0⟩,⟨2,0,3,0⟩,⟨2,0,4,0⟩,⟨1,3,4,0⟩]:=by kernel_rfl
theorem cY (h:Nat):X8 (Gu h) ((5:Nat):Int) 5=[bX]:=by kernel_rfl
open Go.RowKit Go.Proofs.Heap Go.Proofs
open Go.Proofs.Rm (Xm YO)
open Go.Proofs.Od (Xz)
open Go.Proofs.Mem
theorem Dq (w:World):Calls Tryz.prog 86 (Qt 7 10) w fun e w'=>e = .returned (.slice (some ⟨w,0,none⟩) 17 17)∧w'=w.alloc (.cells (RX bt).toArray 5):=by
 go_enter Tryz.func86,Tryz.ntmps86
 go_wp2
 go_ret
 exact ⟨rfl,rfl⟩
theorem zN (w:World):Calls Tryz.prog 54 #[] w fun e w'=>e = .returned (.slice (some ⟨w.heap.size+2,0,none⟩) 5 5)∧KY w' (.slice (some ⟨w.heap.size+2,0,none⟩) 5 5) (Gu w.heap.size)∧Below w w w':=by
 have C:=Zh Dq
 go_enter Tryz.func54,Tryz.ntmps54
 go_wp2_with (go_at_call 86;refine (C.o _).mono ?_;rintro e w2 ⟨rfl,rfl⟩)
 exact Yx33
theorem fw {w:World} {v:Value} {L:List VG} (h:KY w v L):Xe w v L:=⟨h.row.r,fun y hy=>⟨(h.each y hy).1.r,(h.each y hy).2.1.r,(h.each y hy).2.2⟩⟩
theorem KA {w:World} {e:TypeId} {a:Option Addr} {n c:Nat} {xs:List Value} (h:Row w e (.slice a n c) n xs) (hl:0<xs.length):∃ g o,a=some ⟨g,o,none⟩∧w.rangeAt g o xs:=by
 obtain ⟨g,o,cap,h1,_,_,_,h5⟩:=Row.open h hl
 injection h1 with e1 _ _
 exact ⟨g,o,e1,fun m v hm=>(h5 m (List.getElem?_eq_some_iff.1 hm).1).trans hm⟩
theorem Eg (v:Value) (L:List VG) (w:World) (h:Xe w v L):Calls Tryz.prog 26 #[v] w fun e w'=>(∃ v',e = .returned v'∧Xe w' v' (L.take 60))∧w=w':=by
 obtain ⟨va,vc,rfl,hvc,BC⟩:=h.form
 obtain ⟨K,dH⟩:∃ K,K=min L.length 60:=⟨_,rfl⟩
 have hK1:K≤L.length:=by omega
 have hKm:min (L.length:Int) 60=(K:Int):=by omega
 obtain ⟨vs,Uz,-,GX⟩:=Sy (P:=Tryz.prog) wN va L.length vc K Zo
 have HO:Hid (Xe w (.slice vs K vc) (L.take 60)):=by
  have h2:=h.take hK1 GX
  have e:L.take K=L.take 60:=by
   rcases Nat.le_total L.length 60 with h3|h3
   ·rw [dH,Nat.min_eq_left h3,nZ,F5 h3]
   ·rw [dH,Nat.min_eq_right h3]
  rwa [e] at h2
 clear h GX dH
 go_enter Tryz.func26,Tryz.ntmps26
 go_wp2
 go_ret
 exact ⟨⟨_,rfl,HO.o⟩,rfl⟩
theorem kf (h:Nat):Rq (Gu h) bX=[⟨4,0,0,Xc 2 3,0,true⟩]:=by kernel_rfl
theorem j_ (h:Nat):zU (Gu h) bX 5=0:=by kernel_rfl
theorem j6 (h:Nat):zU (Gu h) bX 4 = -1:=by kernel_rfl
theorem ot (h:Nat):Iz (Gu h) Wz 1=true:=by kernel_rfl
theorem J3 (w:World) (hT:Xz w):Calls Tryz.prog 25 #[] w fun e w'=>e = .returned (.bool true)∧Below w w w':=by
 have CB:=Zh (zN w)
 have HT:Hid (∀ w',Below w w w'→Xz w'):=fun w' h=>Utf8Tabs_below hT h
 have CO:=Zh (fun w'=>Hr 2 3 w')
 clear hT
 go_enter Tryz.func25,Tryz.ntmps25
 go_upto_region 2 with (go_at_call 54;refine CB.o.mono ?_;rintro e w1 ⟨rfl,ho,YZ⟩;have HO:=Zh (fw ho);have Vp:=Zh YZ;clear ho YZ)
 generalize (w.heap.size+2)=H2 at *
 have CA:=Zh (I9 _ _ w1 (HT.o _ Vp.o) HO.o (by show 5≤256;decide))
 have CL:=Zh (fun (w':World) (hb:Below w1 w1 w')=>Gn _ _ w' (HT.o _ (Vp.o.trans (hb.mono Vp.o.size))) (HO.o.below hb) (by show 5≤256;decide))
 have CS:=Zh (fun (w':World) (hb:Below w1 w1 w')=>rY _ _ bX w' (HT.o _ (Vp.o.trans (hb.mono Vp.o.size))) (HO.o.below hb) (by show 5≤256;decide))
 have C5':=(fun (at':Int) (w':World) (hb:Below w1 w1 w')=>nC _ _ bX at' w' (HT.o _ (Vp.o.trans (hb.mono Vp.o.size))) (HO.o.below hb) (by show 5≤256;decide))
 have CQ':=(fun (w':World) (hb:Below w1 w1 w')=>v_ _ _ Wz 1 w' (HT.o _ (Vp.o.trans (hb.mono Vp.o.size))) (HO.o.below hb) (by show 5≤256;decide))
 have hlen:(Gu w.heap.size).length=5:=rfl
 rw [hlen] at CA CL
 rw [bAdms] at CA
 simp only [cY] at CL
 have iU:=kf w.heap.size
 have hc5:=j_ w.heap.size
 have hc4:=j6 w.heap.size
 have hq:=ot w.heap.size
 simp only [iU] at CS
 have C5:=Zh (C5' 5)
 have C4:=Zh (C5' 4)
 have CQ:=Zh CQ'
 rw [hc5] at C5
 rw [hc4] at C4
 rw [hq] at CQ
 clear C5' CQ' hc5 hc4 hq iU hlen HT CB HO
 dsimp only [ZY,bX,Wz] at CS C5 C4 CQ
 generalize Xc 2 3=OU at *
 go_upto_region 4 with (first|(go_at_call 24;refine CA.o.mono ?_;rintro e w2 ⟨⟨av,rfl,ha⟩,Y0⟩;obtain ⟨aa,ac,dJ⟩:=Row.form ha;subst dJ;have HA:=Zh ha;have X6:=Zh Y0;clear ha Y0)|(go_at_call 27;refine (CL.o _ X6.o).mono ?_;rintro e w3 ⟨⟨lv,rfl,hl⟩,VH⟩;obtain ⟨la,lc,pj⟩:=Row.form hl;subst pj;have HL:=Zh hl;have VT:=Zh (X6.o.trans (VH.mono X6.o.size));have HA3:=Zh (Row.below HA.o VH);clear hl VH))
 obtain ⟨ga,oa,hga,bf⟩:=KA HA3.o Zd
 obtain ⟨gx,ox,hgx,hrx⟩:=KA HL.o Zd
 subst hga
 subst hgx
 have Ue:w3.cell? ⟨ga,oa+16,none⟩=some (.int .i64 1):=bf 16 _ rfl
 have RH:w3.cell? ⟨ga,oa+16+2,none⟩=some (.int .i64 4):=bf 18 _ rfl
 have x0:w3.cell? ⟨gx,ox,none⟩=some (.int .i64 2):=hrx 0 _ rfl
 have x1:w3.cell? ⟨gx,ox+1,none⟩=some (.int .i64 3):=hrx 1 _ rfl
 have x2:w3.cell? ⟨gx,ox+2,none⟩=some (.int .i64 3):=hrx 2 _ rfl
 have x3:w3.cell? ⟨gx,ox+3,none⟩=some (.int .i64 5):=hrx 3 _ rfl
 have X0:=Zh x0
 have X1:=Zh x1
 have X2:=Zh x2
 have X3:=Zh x3
 clear bf hrx
 go_upto_region 7 with (go_at_call 29;refine (CS.o _ VT.o).mono ?_;rintro e w6 ⟨⟨ev,rfl,he⟩,Ep⟩;obtain ⟨ea,ec,Lm⟩:=Row.form he;subst Lm;have HE:=Zh he;have HB36:=Zh Ep;have fK:=Zh (VT.o.trans (Ep.mono VT.o.size));clear he Ep)
 obtain ⟨ge,oe,hge,lj⟩:=KA HE.o (by show 0<6;decide)
 subst hge
 have rR:=Zh lj
 clear Ue RH x0 x1 x2 x3 lj
 have Zz:Hid (∀ w',Below w6 w6 w'→w'.cell? ⟨gx,ox,none⟩=some (.int .i64 2)∧w'.cell? ⟨gx,ox+1,none⟩=some (.int .i64 3)∧w'.cell? ⟨gx,ox+2,none⟩=some (.int .i64 3)∧w'.cell? ⟨gx,ox+3,none⟩=some (.int .i64 5)∧w'.cell? ⟨ge,oe,none⟩=some (.int .i64 4)∧w'.cell? ⟨ge,oe+1,none⟩=some (.int .u16 0)∧w'.cell? ⟨ge,oe+2,none⟩=some (.int .u32 0)∧w'.cell? ⟨ge,oe+3,none⟩=some (.int .u32 OU)∧w'.cell? ⟨ge,oe+4,none⟩=some (.int .u16 0)∧w'.cell? ⟨ge,oe+5,none⟩=some (.bool true)):=fun w' hb=>
  have VH:=HB36.o.trans (hb.mono HB36.o.size)
  ⟨Yi X0.o VH,Yi X1.o VH,Yi X2.o VH,Yi X3.o VH,Yi (rR.o 0 _ rfl) hb,Yi (rR.o 1 _ rfl) hb,Yi (rR.o 2 _ rfl) hb,Yi (rR.o 3 _ rfl) hb,Yi (rR.o 4 _ rfl) hb,Yi (rR.o 5 _ rfl) hb⟩
 refine Sd ?_
 refine Z_.Zu (d:=51) (S:=(fun w'=>w'.cell? ⟨gx,ox,none⟩=some (.int .i64 2)∧w'.cell? ⟨gx,ox+1,none⟩=some (.int .i64 3)∧w'.cell? ⟨gx,ox+2,none⟩=some (.int .i64 3)∧w'.cell? ⟨gx,ox+3,none⟩=some (.int .i64 5)∧w'.cell? ⟨ge,oe,none⟩=some (.int .i64 4)∧w'.cell? ⟨ge,oe+1,none⟩=some (.int .u16 0)∧w'.cell? ⟨ge,oe+2,none⟩=some (.int .u32 0)∧w'.cell? ⟨ge,oe+3,none⟩=some (.int .u32 OU)∧w'.cell? ⟨ge,oe+4,none⟩=some (.int .u16 0)∧w'.cell? ⟨ge,oe+5,none⟩=some (.bool true))) ZB ?_ (fun _=>?_)
 ·(try dsimp only)
  exact Zz.o _ (YH _ _).drew
 refine YP 0 (h:=YP 1 (h:=YP 3 (h:=YQ 2 [48,45,40,37,32,28,23,17,10,5,4] (h:=YP 4 (h:=YP 5 (h:=YP 6 (h:=YP 7 (h:=YP 8 (h:=YP 9 (h:=YP 10 (h:=YP 11 (h:=YP 12 (h:=YP 13 (h:=YQ 14 [48,45,40,37,32,28,23,17,16,15] (h:=YP 15 (h:=YP 16 (h:=YP 17 (h:=YP 18 (h:=YP 19 (h:=YP 20 (h:=YQ 21 [48,45,40,37,32,28,23,22] (h:=YP 22 (h:=YP 23 (h:=YP 24 (h:=YP 25 (h:=YP 26 (h:=YQ 27 [48,45,40,37,32,31,30] (h:=?_))))))))))))))))))))))))))))
 refine YR 28 (h:=fun K hK=>?_)
 go_simp
 refine (CO.o _).mono ?_
 rintro e w' ⟨rfl,rfl⟩
 go_wp2_with fail
 refine Z_.Y_ hK _ _ ?_ (fun _=>?_)
 ·(try dsimp only)
  exact Zz.o _ cr
 clear hK K
 try simp only [Z_.pt]
 refine YP 29 (h:=YP 30 (h:=YP 31 (h:=YP 32 (h:=YP 33 (h:=YP 34 (h:=YP 35 (h:=YQ 36 [48,45,40,37] (h:=?_))))))))
 refine YR 37 (h:=fun K hK=>?_)
 go_simp
 refine (C5.o _ (fK.o.trans ((YH w6.heap.size w6).drew.mono fK.o.size))).mono ?_
 rintro e w7 ⟨rfl,MK⟩
 have BJ:=Zh ((YH w6.heap.size w6).drew.trans MK)
 clear MK
 go_wp2_with fail
 refine Z_.Y_ hK _ _ ?_ (fun _=>?_)
 ·(try dsimp only)
  exact Zz.o _ cr
 clear hK K
 try simp only [Z_.pt]
 refine YP 38 (h:=YP 39 (h:=YP 40 (h:=YP 41 (h:=YP 42 (h:=YP 43 (h:=YQ 44 [48,45] (h:=?_)))))))
 refine YR 45 (h:=fun K hK=>?_)
 go_simp
 refine (C4.o _ (fK.o.trans (BJ.o.mono fK.o.size))).mono ?_
 rintro e w8 ⟨rfl,kM⟩
 have HB8:=Zh (BJ.o.trans (kM.mono BJ.o.size))
 clear kM
 go_wp2_with fail
 refine Z_.Y_ hK _ _ ?_ (fun _=>?_)
 ·(try dsimp only)
  exact Zz.o _ cr
 clear hK K
 try simp only [Z_.pt]
 refine YP 46 (h:=YP 47 (h:=YP 48 (h:=YP 49 (h:=YP 50 (h:=?_)))))
 refine YR 51 (h:=fun K hK=>?_)
 go_simp
 refine (CQ.o _ (fK.o.trans (HB8.o.mono fK.o.size))).mono ?_
 rintro e w9 ⟨rfl,kN⟩
 have lT:=Zh (HB8.o.trans (kN.mono HB8.o.size))
 clear kN
 go_wp2_with fail
 refine Z_.Ye hK _ _ ZB ?_
 clear hK K
 try simp only [Z_.pt]
 refine YP 52 (h:=YP 53 (h:=?_))
 refine Z_.Yr ZB ?_ _
 refine QY ?_
 go_wp2_with fail
 go_ret
 exact ⟨rfl,Vp.o.trans ((fK.o.trans (lT.o.mono fK.o.size)).mono Vp.o.size)⟩
end Go.Proofs.By
namespace Go.Proofs.By
open Go.RowKit Go.Proofs.Heap Go.Proofs
open Go.Proofs.Rm (below_drewN)
open Go.Proofs.Od (Xz)
open Go.Proofs.Mem
theorem Mc (v:Value) (L0:List VG) (w:World) (hT:Xz w) (hv:Xe w v L0):Calls Tryz.prog 6 #[v] w fun e w'=>e = .returned (.bool true)∧Below w w w':=by
 have CS:=Zh (J3 w hT)
 have CF:=Zh (fun (w':World) (h:Below w w w')=>Eg v L0 w' (hv.below h))
 have HT:Hid (∀ w',Below w w w'→Xz w'):=fun w' h=>Utf8Tabs_below hT h
 have hL:(L0.take 60).length≤60:=by rw [Tg];omega
 generalize L0.take 60=L at *
 obtain ⟨l,hl⟩:∃ l,l=XA L L.length:=⟨_,rfl⟩
 have hlb:l.length≤10000000:=by rw [hl];rw [Xa];omega
 have CA:Hid (∀ (v':Value) (w':World),Xz w'→Xe w' v' L→Calls Tryz.prog 24 #[v'] w' fun e w2=>(∃ aa ac,e = .returned (.slice aa l.length ac)∧Row w2 35 (.slice aa l.length ac) l.length (l.flatMap WE))∧Below w' w' w2):=fun v' w' hT h=>(I9 v' L w' hT h Zo).mono fun e w2 ⟨⟨av,e1,e2⟩,e3⟩=>by
  have e2:Row w2 35 av l.length (l.flatMap WE):=by rw [hl,Xa];exact e2
  obtain ⟨aa,ac,dJ⟩:=Row.form e2
  subst dJ
  exact ⟨⟨aa,ac,e1,e2⟩,e3⟩
 have CY:Hid (∀ (v':Value) (w':World),Xz w'→Xe w' v' L→Calls Tryz.prog 17 #[v'] w' fun e w2=>(∃ k ba bc,e = .returned (.pointer (some ⟨k,0,none⟩))∧w2.cell? ⟨k,1,none⟩=some (.slice ba l.length bc)∧Row w2 35 (.slice ba l.length bc) l.length (l.flatMap WE))∧Below w' w' w2):=fun v' w' hT h=>(uJ v' L w' hT h Zo).mono fun e w2 ⟨k,b,vs,vc,av,ev,lv,E,T,R,ep,e1,e2⟩=>by
  have h3:=Row.Z6 e2.st.XE
  have h4:w2.cell? ⟨k,1,none⟩=some av:=Zc e2.st.Za 1 rfl
  rw [←hl] at h3
  obtain ⟨ba,bc,wQ⟩:=Row.form h3
  subst wQ
  exact ⟨⟨k,ba,bc,e1,h4,h3⟩,e2.Zj⟩
 clear hT hv hl
 go_enter Tryz.func6,Tryz.ntmps6
 go_upto_region 4 with (first|(go_at_call 25;refine CS.o.mono ?_;rintro e w1 ⟨rfl,YZ⟩;have VQ:=Zh YZ;clear YZ)|(go_at_call 26;refine (CF.o _ VQ.o).mono ?_;rintro e w' ⟨⟨v',rfl,ho⟩,rfl⟩;obtain ⟨va,vc,pQ,hvc,BC⟩:=Xe.form ho;subst pQ;have HO:=Zh ho;clear ho))
 clear CS CF
 go_cut [3,4] (fun s3 s4 wx=>∃ aa ac ba bc,s3 = .slice aa l.length ac∧s4 = .slice ba l.length bc∧Row wx 35 (.slice aa l.length ac) l.length (l.flatMap WE)∧Row wx 35 (.slice ba l.length bc) l.length (l.flatMap WE)∧Below w w wx)
 case first=>
  exact Yt1
 case rest=>
  obtain ⟨w3,rfl⟩:∃ W:World,W=wc:=⟨_,rfl⟩
  obtain ⟨aa,ac,ba,bc,rfl,rfl,ha,hb,Wn⟩:=hcut
  have HA:=Zh ha
  have HB:=Zh hb
  have S_:=Zh Wn
  clear CA CY ha hb Wn
  go_wp2_with fail
  go_loopw [24] (fun fB w'=>∃ j:Nat,j≤l.length∧fB = .int .i64 (j:Int)∧Below w3 w3 w') (fun fB _=>l.length-(intOf fB).toNat)
  case atStart=>exact ⟨0,Zo,rfl,YH _ _⟩
  case round=>
   obtain ⟨j,hj,rfl,Wn⟩:=hrel
   have HBJ:=Zh Wn
   by_cases S4:j<l.length
   ·have hz:l[j]?=some l[j]:=U7 S4
    obtain ⟨ga,oa,ea,ra⟩:=Tp WE 4 (fun _=>rfl) (HA.o.below Wn) Zo
    obtain ⟨gb,ob,eb,rb⟩:=Tp WE 4 (fun _=>rfl) (HB.o.below Wn) Zo
    subst ea
    subst eb
    replace ra:=ra j _ hz
    replace rb:=rb j _ hz
    generalize l[j]=z at *
    obtain ⟨z1,z2,z3,z4⟩:=z
    have x0:=ra 0 Zo
    have x1:=ra 1 Zo
    have x2:=ra 2 Zo
    have x3:=ra 3 Zo
    have y0:=rb 0 Zo
    have y1:=rb 1 Zo
    have y2:=rb 2 Zo
    have y3:=rb 3 Zo
    simp only [WE,S6,SJ,gX] at x0 x1 x2 x3 y0 y1 y2 y3
    exact Yt14
   ·have MM:j=l.length:=by omega
    clear Wn
    subst MM
    go_wp2
    go_ret
    exact ⟨rfl,S_.o.trans (HBJ.o.mono S_.o.size)⟩
theorem K2 (v:Value) (L0:List VG) (w:World) (hT:Xz w) (hv:Xe w v L0):Calls Tryz.prog 7 #[v] w fun e w'=>e = .returned (.bool true)∧Below w w w':=by
 have CS:=Zh (J3 w hT)
 have CF:=Zh (fun (w':World) (h:Below w w w')=>Eg v L0 w' (hv.below h))
 have HT:Hid (∀ w',Below w w w'→Xz w'):=fun w' h=>Utf8Tabs_below hT h
 have hL:(L0.take 60).length≤60:=by rw [Tg];omega
 generalize L0.take 60=L at *
 obtain ⟨l,hl⟩:∃ l,l=X8 L L.length L.length:=⟨_,rfl⟩
 have hlb:l.length≤10000000:=by rw [hl];have:=QG L L.length L.length;omega
 have CA:Hid (∀ (v':Value) (w':World),Xz w'→Xe w' v' L→Calls Tryz.prog 27 #[v'] w' fun e w2=>(∃ aa ac,e = .returned (.slice aa l.length ac)∧Row w2 59 (.slice aa l.length ac) l.length (l.flatMap ZY))∧Below w' w' w2):=fun v' w' hT h=>(Gn v' L w' hT h Zo).mono fun e w2 ⟨⟨av,e1,e2⟩,e3⟩=>by
  rw [←hl] at e2
  obtain ⟨aa,ac,dJ⟩:=Row.form e2
  subst dJ
  exact ⟨⟨aa,ac,e1,e2⟩,e3⟩
 have CY:Hid (∀ (v':Value) (w':World),Xz w'→Xe w' v' L→Calls Tryz.prog 17 #[v'] w' fun e w2=>(∃ k ba bc,e = .returned (.pointer (some ⟨k,0,none⟩))∧w2.cell? ⟨k,3,none⟩=some (.slice ba l.length bc)∧Row w2 59 (.slice ba l.length bc) l.length (l.flatMap ZY))∧Below w' w' w2):=fun v' w' hT h=>(uJ v' L w' hT h Zo).mono fun e w2 ⟨k,b,vs,vc,av,ev,lv,E,T,R,ep,e1,e2⟩=>by
  have h3:=Row.Z6 e2.st.QS
  have h4:w2.cell? ⟨k,3,none⟩=some lv:=Zc e2.st.Za 3 rfl
  rw [←hl] at h3
  obtain ⟨ba,bc,wQ⟩:=Row.form h3
  subst wQ
  exact ⟨⟨k,ba,bc,e1,h4,h3⟩,e2.Zj⟩
 clear hT hv hl
 go_enter Tryz.func7,Tryz.ntmps7
 go_upto_region 4 with (first|(go_at_call 25;refine CS.o.mono ?_;rintro e w1 ⟨rfl,YZ⟩;have VQ:=Zh YZ;clear YZ)|(go_at_call 26;refine (CF.o _ VQ.o).mono ?_;rintro e w' ⟨⟨v',rfl,ho⟩,rfl⟩;obtain ⟨va,vc,pQ,hvc,BC⟩:=Xe.form ho;subst pQ;have HO:=Zh ho;clear ho))
 clear CS CF
 go_cut [3,4] (fun s3 s4 wx=>∃ aa ac ba bc,s3 = .slice aa l.length ac∧s4 = .slice ba l.length bc∧Row wx 59 (.slice aa l.length ac) l.length (l.flatMap ZY)∧Row wx 59 (.slice ba l.length bc) l.length (l.flatMap ZY)∧Below w w wx)
 case first=>
  exact Yt1
 case rest=>
  obtain ⟨w3,rfl⟩:∃ W:World,W=wc:=⟨_,rfl⟩
  obtain ⟨aa,ac,ba,bc,rfl,rfl,ha,hb,Wn⟩:=hcut
  have HA:=Zh ha
  have HB:=Zh hb
  have S_:=Zh Wn
  clear CA CY ha hb Wn
  go_wp2_with fail
  go_loopw [24] (fun fB w'=>∃ j:Nat,j≤l.length∧fB = .int .i64 (j:Int)∧Below w3 w3 w') (fun fB _=>l.length-(intOf fB).toNat)
  case atStart=>exact ⟨0,Zo,rfl,YH _ _⟩
  case round=>
   obtain ⟨j,hj,rfl,Wn⟩:=hrel
   have HBJ:=Zh Wn
   by_cases S4:j<l.length
   ·have hz:l[j]?=some l[j]:=U7 S4
    obtain ⟨ga,oa,ea,ra⟩:=Tp ZY 4 (fun _=>rfl) (HA.o.below Wn) Zo
    obtain ⟨gb,ob,eb,rb⟩:=Tp ZY 4 (fun _=>rfl) (HB.o.below Wn) Zo
    subst ea
    subst eb
    replace ra:=ra j _ hz
    replace rb:=rb j _ hz
    generalize l[j]=z at *
    obtain ⟨z1,z2,z3,z4⟩:=z
    have x0:=ra 0 Zo
    have x1:=ra 1 Zo
    have x2:=ra 2 Zo
    have x3:=ra 3 Zo
    have y0:=rb 0 Zo
    have y1:=rb 1 Zo
    have y2:=rb 2 Zo
    have y3:=rb 3 Zo
    simp only [ZY,S6,SJ,gX] at x0 x1 x2 x3 y0 y1 y2 y3
    exact Yt14
   ·have MM:j=l.length:=by omega
    clear Wn
    subst MM
    go_wp2
    go_ret
    exact ⟨rfl,S_.o.trans (HBJ.o.mono S_.o.size)⟩
end Go.Proofs.By

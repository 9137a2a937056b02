/- Part of a proof. -/
import Derived.Test.YtpdjhlcbcomdkaaGreatDoorF35
set_option linter.unusedVariables false
set_option linter.unusedSimpArgs false
set_option maxRecDepth 100000
set_option maxHeartbeats 16000000
open Go Go.Q Go.Qr
namespace Go.Proofs.By
open Go.RowKit Go.Proofs.Heap Go.Proofs
open Go.Proofs.Rm (below_drewN Room Inv WZ ZT ZU Xi XF Zb U2 VG Sp Na IH Gb table)
open Go.Proofs.N_ (Xe)
open Go.Proofs.Mem
theorem PI {ts:List TypeId} {w:World} {f d b:Nat} {F:Uv} (h:Xt w f d b F) (h1:152 ∉ ts) (h2:131 ∉ ts) (h3:90 ∉ ts):Off ts w (fun m=>m=b∨m=d∨m=f):=by
 obtain ⟨c',MP,_⟩:=h.VO.room.cells
 exact Ek (Wl MP h1) (Ek (Wl h.VO.Y8 h2) (Wl h.Y8 h3))
structure FA (w1 w3 w':World) (f d b:Nat) (L:List QM) (j:Nat) (R:Room) (ep:Int) (c:UX):Prop where
 fr:Fr w3 (fun m=>m=b∨m=d∨m=f) w3 w'
 YI:Below w1 w1 w'
 front:Xt w' f d b ⟨R,ep,c⟩
 inv:Inv R
 Cs:WZ R
 bare:R.bare=(XB L j).1
 iH:ep=(XB L j).2
 cn:c=Xr L j
 Dg:c.Below (8001*(j:Int))
theorem Dr (v:Value) (L0:List QM) (w:World) (hT:Xe w) (hv:Tz w v L0):Calls Tryz.prog 3 #[v] w fun e w'=>e = .returned (.bool true)∧Below w w w':=by
 have CS:=Zh (yj w hT)
 have CF:=Zh (fun (w':World) (h:Below w w w')=>mC v L0 w' (hv.below h))
 have HT:Hid (∀ w',Below w w w'→Xe w'):=fun w' h=>Utf8Tabs_below hT h
 have CN:=Zh Lh
 have hL:(L0.take 80).length≤80:=by rw [TU];omega
 have CY:=Zh (fun (v':Value) (w':World) (hT:Xe w') (h:Tz w' v' (L0.take 80))=>nb v' (L0.take 80) w' hT h Zo)
 generalize L0.take 80=L at *
 clear hT hv
 go_enter Tryz.func3,Tryz.ntmps3
 go_wp2_with (first|(go_at_call 14;refine CS.o.mono ?_;rintro e w1 ⟨rfl,Zj⟩;have Wy:=Zh Zj;clear Zj)|(go_at_call 15;refine (CF.o _ Wy.o).mono ?_;rintro e w' ⟨⟨v',rfl,ho⟩,rfl⟩;obtain ⟨va,vc,oV,hvc,vF⟩:=Tz.form ho;subst oV;have HO:=Zh ho;clear ho)|(go_at_call 16;refine (CN.o _).mono ?_;rintro e w2 ⟨⟨f,d,b,rfl,hF,hf,hd,hb⟩,Y0⟩;have HF:=Zh hF;have XA:=Zh Y0;have HFG:Hid (w1.heap.size≤f∧w1.heap.size≤d∧w1.heap.size≤b):=⟨hf,hd,hb⟩;clear hF Y0 hf hd hb)|(go_at_call 17;refine (CY.o _ _ (HT.o _ (Wy.o.trans (XA.o.mono Wy.o.size))) (HO.o.below XA.o)).mono ?_;rintro e w3 ⟨k,rb,vs,dX,av,ev,lv,E,T,RY,epY,rfl,Nu⟩;have T_:=Zh (XA.o.trans (Nu.YI.mono XA.o.size));have Dv:=Zh (HF.o.below Nu.YI);have Z7:=Row.ZV Nu.st.WH;obtain ⟨aa,ac,hav⟩:=Row.form Z7;subst hav;have JY:=Zh Nu;clear Nu Z7))
 have gy:=Zh JY.o.st.Y8
 have HSA:=Zh (Row.ZV JY.o.st.WH)
 have HSR:=Zh JY.o.ref
 have OJ:=Zh JY.o.sim
 have gg:=Zh JY.o.inv
 have HBARE:=Zh JY.o.bare
 have HOWA:=Zh JY.o.st.WH
 clear CS CF CN CY HF XA JY
 have f_:=Zh (fun (w':World) (h:Fr w3 (fun m=>m=b∨m=d∨m=f) w3 w')=>(⟨(h.block _ (ZQ gy.o) (fun e=>PI (ts:=[44]) Dv.o Zd Zd Zd _ Zi _ _ _ e gy.o)).trans gy.o,Row.fr HSA.o h (ZB _) (PI (ts:=[35]) Dv.o Zd Zd Zd _ Zi),Vg HSR.o h (PI Dv.o Zd Zd Zd)⟩:w'.heap[k]?=some (.cells #[.slice vs L.length dX,.slice aa (Vl L L.length).length ac,ev,lv,.int .i64 (Xr L L.length).bad,.int .i64 (Xr L L.length).YW,.int .i64 (Xr L L.length).unknown,.int .i64 (Xr L L.length).refused,.int .i64 0,.int .i64 0,.int .i64 0,.int .i64 0,.pointer (some ⟨rb,0,none⟩)] 44 (0,0))∧Row w' 35 (.slice aa (Vl L L.length).length ac) (Vl L L.length).length ((Vl L L.length).flatMap QS)∧ZT w' rb T))
 have EY:Hid (FA w1 w3 w3 f d b L 0 Rm.empty 0 M0):=⟨Fr.refl _ _ _,T_.o,Dv.o,U2,VG,rfl,rfl,rfl,⟨by decide,by decide,by decide,by decide⟩⟩
 have gD:Hid (∀ w',Below w1 w1 w'→Xe w'):=fun w' h=>HT.o _ (Wy.o.trans (h.mono Wy.o.size))
 clear HT
 go_loopw [16] (fun s16 w'=>∃ (j:Nat) (R:Room) (ep:Int) (c:UX),j≤L.length∧s16 = .int .i64 (j:Int)∧FA w1 w3 w' f d b L j R ep c) (fun s16 _=>L.length-(intOf s16).toNat)
 case atStart=>exact ⟨0,_,_,_,Zo,rfl,EY.o⟩
 case round=>
  obtain ⟨j,R,ep,c,hj,rfl,Bq⟩:=hrel
  clear EY
  have ue:=Zh Bq
  by_cases Oh:j<L.length
  ·have hOr:=HO.o.below Bq.YI
   obtain ⟨g',off',cap',e1,-,-,-,UO⟩:=Rm.xZ (fun y:QM=>XF y.x) 7 (fun _=>rfl) Zo hOr.row Zo
   cases e1
   have hy:L[j]?=some L[j]:=VQ Oh
   have UO:=UO j _ hy
   have cx:=hOr.each L[j] (Pw Oh)
   have yz:=Zh (fun sv=>Ci hy Bq.bare Bq.iH sv)
   have b9:=K4 L j
   rw [←Bq.iH] at b9
   have fU:Hid (Xr L (j+1)=(Xr L j).add (YH L j).WH.kind (YH L j).unknown):=rfl
   obtain ⟨fA,mn,-⟩:=f_.o _ Bq.fr
   obtain ⟨ga,oa,ea,hra⟩:=EA QS 4 (fun _=>rfl) mn (by rw [MG];omega)
   subst ea
   have hxa:(Vl L L.length)[j]?=some (YH L j).WH:=by unfold Vl;rw [List.getElem?_map,List.getElem?_range Oh];rfl
   replace hra:=hra j _ hxa
   have hcb:c.Below 1000000000:=by
    obtain ⟨⟨a1,a2⟩,⟨b1,b2⟩,⟨c1,c2⟩,⟨d1,d2⟩⟩:=Bq.Dg
    exact ⟨⟨a1,Zo⟩,⟨b1,Zo⟩,⟨c1,Zo⟩,⟨d1,Zo⟩⟩
   clear hy hxa
   generalize L[j]=y at *
   obtain ⟨⟨⟨kd,p,s,q,nm,ss⟩,sa,sc,ba,bl,bc⟩,bb⟩:=y
   dsimp only at cx yz
   obtain ⟨Nu,Aw,Vz⟩:=cx
   have xN:wr.rangeAt g' (off'+j*7) (Qa kd p s q (str nm) sa ss.length sc ba bl bc):=fun m v hm=>(UO m (by have h:=(List.getElem?_eq_some_iff.1 hm).1;simpa using h)).trans hm
   have fk:(j:Int)<(L.length:Int):=Gs.2 Oh
   have hz:=Z5 wr (.cells (Qa 0 0 0 0 ⟨#[]⟩ none 0 0 none 0 0) 32)
   have OG:=setRow_heap _ _ _ (Qa kd p s q (str nm) sa ss.length sc ba bl bc) _ _ hz
   have Ur:Hid (Below wr wr ((wr.alloc (.cells (Qa 0 0 0 0 ⟨#[]⟩ none 0 0 none 0 0) 32)).setRow wr.heap.size (Qa kd p s q (str nm) sa ss.length sc ba bl bc))):=Z0 (Z' wr _) (ZB _) _
   have eo:=Zh (Bq.front.below Ur.o)
   have gb:Hid (Fr w3 (fun m=>m=b∨m=d∨m=f) w3 ((wr.alloc (.cells (Qa 0 0 0 0 ⟨#[]⟩ none 0 0 none 0 0) 32)).setRow wr.heap.size (Qa kd p s q (str nm) sa ss.length sc ba bl bc))):=Bq.fr.trans (Fr.Z9 _ (Ur.o.mono Bq.fr.size))
   have fQ:Hid (Below w1 w1 ((wr.alloc (.cells (Qa 0 0 0 0 ⟨#[]⟩ none 0 0 none 0 0) 32)).setRow wr.heap.size (Qa kd p s q (str nm) sa ss.length sc ba bl bc))):=Bq.YI.trans (Ur.o.mono Bq.YI.size)
   have HSS4:=Zh (Nu.below Ur.o)
   have HBB4:=Zh (Yf.below Aw Ur.o)
   have jC:((wr.alloc (.cells (Qa 0 0 0 0 ⟨#[]⟩ none 0 0 none 0 0) 32)).setRow wr.heap.size (Qa kd p s q (str nm) sa ss.length sc ba bl bc)).rangeAt ga (oa+j*4) (QS (YH L j).WH):=fun m v hm=>Lx ((hra m (by have h:=(List.getElem?_eq_some_iff.1 hm).1;simpa [QS] using h)).trans hm) Ur.o
   have hk4:=(Ur.o.block _ (ZQ fA)).trans fA
   clear UO hOr Nu Aw fA hra mn Bq
   go_upto_region 9 with (first|(with_reducible refine Yp 32 (.tmp 19) rfl ?_;refine Zm xN Tryz.underlying32 ?_)|(with_reducible refine ZY 32 (.tmp 6) (.tmp 20) rfl ?_;refine Zs hz ?_))
   clear hz xN Ur
   have hobl:=ZQ OG
   generalize ((wr.alloc (.cells (Qa 0 0 0 0 ⟨#[]⟩ none 0 0 none 0 0) 32)).setRow wr.heap.size (Qa kd p s q (str nm) sa ss.length sc ba bl bc))=w4 at *
   have hob:w3.heap.size≤wr.heap.size:=ue.o.fr.size
   generalize wr.heap.size=ob at *
   have bP:(YH L j).WH=⟨(YH L j).WH.kind,(YH L j).WH.source,(YH L j).WH.SQ,(YH L j).WH.err⟩:=rfl
   have HADM:=Zh bP
   clear bP
   have pG:Hid (∀ sv,Inv ((⟨R,ep,c⟩:Uv).take ⟨kd,p,s,q,nm,ss⟩ bb sv).2.R∧WZ ((⟨R,ep,c⟩:Uv).take ⟨kd,p,s,q,nm,ss⟩ bb sv).2.R∧((⟨R,ep,c⟩:Uv).take ⟨kd,p,s,q,nm,ss⟩ bb sv).2.R.bare=(XB L (j+1)).1∧((⟨R,ep,c⟩:Uv).take ⟨kd,p,s,q,nm,ss⟩ bb sv).2.ep=(XB L (j+1)).2∧((⟨R,ep,c⟩:Uv).take ⟨kd,p,s,q,nm,ss⟩ bb sv).2.c=Xr L (j+1)∧((⟨R,ep,c⟩:Uv).take ⟨kd,p,s,q,nm,ss⟩ bb sv).2.c.Below (8001*((j+1:Nat):Int))∧((⟨R,ep,c⟩:Uv).take ⟨kd,p,s,q,nm,ss⟩ bb sv).1=YH L j):=fun sv=>by
    have ok:=EF ue.o.inv ue.o.Cs ep ⟨kd,p,s,q,nm,ss⟩ bb sv
    obtain ⟨st1,st2,st3⟩:=yz.o sv
    have TH:=E5 ue.o.Dg (take R ep ⟨kd,p,s,q,nm,ss⟩ bb sv).1.1.WH.kind ok.2.2.1 ok.2.2.2.1
    have e8:8001*((j+1:Nat):Int)=8001*(j:Int)+8001:=by omega
    rw [e8]
    refine ⟨ok.1,ok.2.1,st2,st3,?_,TH,st1⟩
    rw [fU.o,←ue.o.cn,←st1];rfl
   have CTK:=Zh ((yi f d b ⟨R,ep,c⟩ kd p s q nm ss sa ba sc bl bc bb w4.drew (eo.o.below (YG _ _).drew) hcb ue.o.inv ue.o.Cs (gD.o _ fQ.o.drew) b9.1 (by show ep<1000000000;omega) Vz (HSS4.o.below (YG _ _).drew) (Yf.below HBB4.o (YG _ _).drew)).mono (fun e w' ⟨sv,e1,e2,e3⟩=>(⟨sv,by rw [e1,(pG.o sv).2.2.2.2.2.2];rfl,e2,e3⟩:∃ sv,e=Ending.returned (.agg (Qe (YH L j).WH.kind (YH L j).WH.source (YH L j).WH.SQ (YH L j).WH.err))∧Xt w' f d b ((⟨R,ep,c⟩:Uv).take ⟨kd,p,s,q,nm,ss⟩ bb sv).2∧Fr w4.drew.heap.size (fun m=>m=b∨m=d∨m=f) w4.drew w')))
   have HK4:=Zh hk4
   have MF:=Zh OG
   dsimp only [QS] at jC
   generalize (YH L j).WH.kind=ak at *
   generalize (YH L j).WH.source=as' at *
   generalize (YH L j).WH.SQ=ae at *
   generalize (YH L j).WH.err=ar at *
   have HRA4:=Zh jC
   have hbf3:=ZQ Dv.o.Y8
   have hbd3:=ZQ Dv.o.VO.Y8
   have hbb3:=Dv.o.VO.room.lt
   have hga:ga<w3.heap.size∧ga≠b∧ga≠d∧ga≠f:=by
    have hr:=HSA.o
    obtain ⟨cur,hc⟩:=L8 HOWA.o ga rfl
    have ho:=PI (ts:=[35]) Dv.o Zd Zd Zd 35 Zi
    exact ⟨ZQ hc,fun e=>ho _ _ _ (Wc e) hc,fun e=>ho _ _ _ (Wj (Wc e)) hc,fun e=>ho _ _ _ (Wj (Wj e)) hc⟩
   have W_:=ZQ gy.o
   have hkn:k≠b∧k≠d∧k≠f:=by
    have ho:=PI (ts:=[44]) Dv.o Zd Zd Zd 44 Zi
    exact ⟨fun e=>ho _ _ _ (Wc e) gy.o,fun e=>ho _ _ _ (Wj (Wc e)) gy.o,fun e=>ho _ _ _ (Wj (Wj e)) gy.o⟩
   have h34:=gb.o.size
   have ZC:Hid (∀ w',Fr w4 (fun m=>m=b∨m=d∨m=f) w4 w'→w'.heap[ob]?=some (.cells (Qa kd p s q (str nm) sa ss.length sc ba bl bc) 32 (0,0))∧w'.cell? ⟨k,1,none⟩=some (.slice (some ⟨ga,oa,none⟩) (Vl L L.length).length ac)∧w'.rangeAt ga (oa+j*4) (Qe ak as' ae ar)):=fun w' h=>by
    have a1:=(h.block ob hobl (by rintro (e|e|e) <;> omega)).trans MF.o
    have a2:=(h.block k Zo (by rintro (e|e|e) <;> omega)).trans HK4.o
    refine ⟨a1,Zc a2 1 rfl,fun m v hm=>(h.cell (p:=⟨ga,_,none⟩) (by show ga<_;omega) (by show ¬(ga=b∨ga=d∨ga=f);omega)).trans (HRA4.o m v hm)⟩
   have cR:(j:Int)<((Vl L L.length).length:Int):=by rw [MG];exact fk
   have HJL:=Zh cR
   clear jC hk4 OG eo HSS4 HBB4
   refine QN ?_
   refine Z3.Yq (d:=10) (S:=(fun w'=>w'.heap[ob]?=some (.cells (Qa kd p s q (str nm) sa ss.length sc ba bl bc) 32 (0,0))∧w'.cell? ⟨k,1,none⟩=some (.slice (some ⟨ga,oa,none⟩) (Vl L L.length).length ac)∧w'.rangeAt ga (oa+j*4) (Qe ak as' ae ar))) Zk ?_ (fun Yb=>?_)
   ·(try dsimp only)
    first|exact ZC.o _ (Fr.Z9 _ (YG _ _).drew)|exact ZC.o _ mL.o
   refine YP 0 (h:=YP 3 (h:=YP 4 (h:=YP 5 (h:=YP 7 (h:=?_)))))
   refine Z3.tk 1 ?_ rfl ?_ <| ?_
   rotate_left
   ·intro wS QW;(try dsimp only at QW)
    refine Vp 32 (.tmp 6) ?_ ob ?_ 32 (Qa kd p s q (str nm) sa ss.length sc ba bl bc) (0,0) _ QW.1 Tryz.underlying32 rfl Zk
    all_goals rfl
   try simp only [Z3.pt]
   refine YK 6 (h:=YP 8 (h:=?_))
   refine Z3.tk 9 ?_ rfl ?_ <| ?_
   rotate_left
   ·intro wS QW;(try dsimp only at QW)
    refine (Ux 35 (.tmp 29) ?_ ga (oa+j*4) ?_ (Qe ak as' ae ar) _ QW.2.2 Tryz.underlying35 rfl Zk).trans ?_
    all_goals rfl
   try simp only [Z3.pt]
   refine YR 2 (h:=fun K hK=>?_)
   go_simp
   refine CTK.o.mono ?_
   rintro e w6 ⟨sv,rfl,rL,cA⟩
   have wW:=Zh rL
   have mL:Hid (Fr w4 (fun m=>m=b∨m=d∨m=f) w4 w6):=(Fr.Z9 _ (YG w4.heap.size w4).drew).trans (cA.mono (YG w4.heap.size w4).drew.size (fun _ _ h=>h))
   clear rL cA
   go_wp2_with fail
   refine Z3.Xl hK _ _ ?_ (fun XX=>?_)
   ·(try dsimp only)
    first|exact ZC.o _ (Fr.Z9 _ (YG _ _).drew)|exact ZC.o _ mL.o
   clear hK K
   try simp only [Z3.pt]
   refine YR 10 (h:=fun K hK=>?_)
   go_simp
   refine Z3.WO hK _ _ Zk ?_
   clear hK K
   try simp only [Z3.pt]
   refine Z3.Xz Zk ?_ _
   refine Py ?_
   clear CTK ZC
   obtain ⟨x1,x2,x3,x4,x5,x6,x7⟩:=pG.o sv
   have HFRN:=Zh (gb.o.trans (mL.o.mono gb.o.size (fun _ _ h=>h)))
   have HBLN:Hid (Below w1 w1 w6):=fQ.o.trans ((mL.o.mono fQ.o.size (S':=Lm) (fun m hm hs=>by have:=HFG.o;omega)).below)
   have HFAN:Hid (FA w1 w3 w6 f d b L (j+1) ((⟨R,ep,c⟩:Uv).take ⟨kd,p,s,q,nm,ss⟩ bb sv).2.R ((⟨R,ep,c⟩:Uv).take ⟨kd,p,s,q,nm,ss⟩ bb sv).2.ep ((⟨R,ep,c⟩:Uv).take ⟨kd,p,s,q,nm,ss⟩ bb sv).2.c):=⟨HFRN.o,HBLN.o,wW.o,x1,x2,x3,x4,x5,x6⟩
   clear x1 x2 x3 x4 x5 x6 x7 pG
   go_wp2_with fail
   go_roundw
   case rel=>exact ⟨j+1,_,_,_,Zo,Zn,HFAN.o⟩
   case measure=>simp [intOf];omega
  ·have vB:j=L.length:=by omega
   subst vB
   obtain ⟨fA,-,ml⟩:=f_.o _ Bq.fr
   have pH:=Zh fA
   have ZC:Hid (∀ w',Below wr wr w'→w'.rangeAt k 4 (Q5 (Xr L L.length).bad (Xr L L.length).YW (Xr L L.length).unknown (Xr L L.length).refused 0 0 0 0)∧w'.cell? ⟨k,12,none⟩=some (.pointer (some ⟨rb,0,none⟩))):=fun w' h=>by
    have a:=(h.block _ (ZQ pH.o)).trans pH.o
    refine ⟨fun m v hm=>?_,Zc a 12 rfl⟩
    have hl:=(List.getElem?_eq_some_iff.1 hm).1
    have hl:m<8:=by simpa using hl
    rw [cell_of a (4+m)]
    rcases m with _|_|_|_|_|_|_|_|m
    all_goals first|exact hm|omega
   have TH:=ue.o.cn
   have HTE:Hid (table R=T.table):=by
    show _=_
    rw [OJ.o.table gg.o]
    exact Gb (by rw [ue.o.bare,HBARE.o])
   have CC:=Zh (Ha f d b ⟨R,ep,c⟩ wr.drew (Bq.front.below (YG _ _).drew))
   have CT2:=Zh (fun (w':World) (h:Below wr wr w')=>N8 f d b ⟨R,ep,c⟩ w' (ue.o.front.below h) ue.o.Cs.short)
   have CR:=Zh (fun (w':World) (h:Below wr wr w')=>IH rb T w' (ml.below h))
   have Dt:Hid (Below w w wr):=Wy.o.trans (Bq.YI.mono Wy.o.size)
   dsimp only at CC CT2
   rw [TH] at CC
   generalize T.table=TT at *
   rw [HTE.o] at CT2
   clear Bq fA ml TH HTE ue
   go_upto_region 12 with fail
   refine QN ?_
   refine Z3.Yq (d:=17) (S:=(fun w'=>w'.rangeAt k 4 (Q5 (Xr L L.length).bad (Xr L L.length).YW (Xr L L.length).unknown (Xr L L.length).refused 0 0 0 0)∧w'.cell? ⟨k,12,none⟩=some (.pointer (some ⟨rb,0,none⟩)))) Zk ?_ (fun Yb=>?_)
   ·exact aB
   refine YP 0 (h:=YP 2 (h:=YP 3 (h:=YP 4 (h:=?_))))
   refine Z3.tkp 5 [] ?_ rfl ?_ <| ?_
   rotate_left
   ·intro wS QW;(try dsimp only at QW)
    refine (Ux 41 (.tmp 37) ?_ k 4 ?_ (Q5 (Xr L L.length).bad (Xr L L.length).YW (Xr L L.length).unknown (Xr L L.length).refused 0 0 0 0) _ QW.1 Tryz.underlying41 rfl Zk).trans ?_
    all_goals rfl
   try simp only [Z3.pt]
   refine YR 1 (h:=fun K hK=>?_)
   go_simp
   refine CC.o.mono ?_
   rintro e wa ⟨rfl,Vb⟩
   have JG:Hid (Below wr wr wa):=(YG wr.heap.size wr).drew.trans Vb
   clear Vb
   go_wp2_with fail
   refine Z3.Xl hK _ _ ?_ (fun XX=>?_)
   ·exact aB
   clear hK K
   try simp only [Z3.pt]
   refine YP 6 (h:=YP 7 (h:=YP 8 (h:=YP 10 (h:=YP 11 (h:=YP 12 (h:=YQ 13 [] (h:=?_)))))))
   refine YR 9 (h:=fun K hK=>?_)
   go_simp
   refine (CT2.o _ JG.o).mono ?_
   rintro e wb ⟨⟨pv,sv,uv,rfl,htb⟩,Aw⟩
   have HTB:=Zh htb
   have uE:Hid (Below wr wr wb):=JG.o.trans (Aw.mono JG.o.size)
   clear Aw htb
   go_wp2_with fail
   refine Z3.Xl hK _ _ ?_ (fun Wo=>?_)
   ·exact aB
   clear hK K
   try simp only [Z3.pt]
   refine YR 14 (h:=fun K hK=>?_)
   go_simp
   refine (CR.o _ uE.o).mono ?_
   rintro e wc ⟨⟨pv2,uA,uv2,rfl,htc⟩,hbc⟩
   have HTC:=Zh htc
   have HTB2:=Zh (HTB.o.below hbc)
   have kp:Hid (Below wr wr wc):=uE.o.trans (hbc.mono uE.o.size)
   clear hbc htc
   go_wp2_with fail
   refine Z3.Xl hK _ _ ?_ (fun Oc=>?_)
   ·exact aB
   clear hK K
   try simp only [Z3.pt]
   refine YR 15 (h:=fun K hK=>?_)
   go_simp
   refine (Na _ _ _ _ _ _ TT TT _ HTB2.o HTC.o).mono ?_
   rintro e wd ⟨rfl,b9⟩
   have wR:Hid (Below wr wr wd):=kp.o.trans (b9.mono kp.o.size)
   clear b9
   go_wp2_with fail
   refine Z3.Xl hK _ _ ?_ (fun H_=>?_)
   ·exact aB
   clear hK K
   try simp only [Z3.pt]
   refine YP 16 (h:=?_)
   refine YR 17 (h:=fun K hK=>?_)
   go_simp
   refine Z3.WO hK _ _ Zk ?_
   clear hK K
   try simp only [Z3.pt]
   refine Z3.Xz Zk ?_ _
   refine Py ?_
   go_wp2_with fail
   go_ret
   exact ⟨by simp,Dt.o.trans (wR.o.mono Dt.o.size)⟩
end Go.Proofs.By

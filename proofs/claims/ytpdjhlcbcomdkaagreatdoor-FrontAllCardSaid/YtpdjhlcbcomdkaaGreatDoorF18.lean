/- Part of a proof. -/
import Derived.Test.YtpdjhlcbcomdkaaGreatDoorF17
set_option linter.unusedVariables false
set_option linter.unusedSimpArgs false
set_option maxRecDepth 100000
set_option maxHeartbeats 16000000
open Go Go.Q Go.Qr
namespace Go.Proofs.Rm
open Go.RowKit Go.Proofs.Heap Go.Proofs.Mem
theorem LD {α:Type} (f:α→List Value) (c:Nat) (hc:∀ x,(f x).length=c) {i:Nat} (hi:i<c) (u:Value) (y:α):∀ (l:List α) (k:Nat) (hk:k<l.length),f y=(f l[k]).set i u→(l.flatMap f).set (k*c+i) u=(l.set k y).flatMap f
 | [],k,hk,_=>by simp at hk
 | x :: l,0,_,h=>by
  rw [List.flatMap_cons,List.set_append_left _ _ (by rw [hc];omega),List.set_cons_zero,List.flatMap_cons]
  simp only [List.getElem_cons_zero] at h
  rw [h,Nat.zero_mul,OD]
 | x :: l,k+1,hk,h=>by
  have ih:=LD f c hc hi u y l k (by simpa using hk) (by simpa using h)
  rw [List.flatMap_cons,List.set_append_right _ _ (by rw [hc,Nat.succ_mul];omega),List.set_cons_succ,List.flatMap_cons,hc,show (k+1)*c+i-c=k*c+i by rw [Nat.succ_mul];omega,ih]
theorem DX (b:Nat) (T:ZU) (o:Op) (sa ba:Option Addr) (sl sc bl bc:Nat) (w:World) (hR:ZT w b T) (VV:T.Small) (hs:0≤T.Zx o.peer o.source) (QP:0≤T.Zq o.source) (TW:0≤(T.changed o 4).want∧(T.changed o 4).want<(T.Xb o.source).ss.length) :
  Calls Tryz.prog 102 (Q3 (some ⟨b,0,none⟩) (Ji o sa sl sc ba bl bc) 4) w fun e w'=>(∃ v,e = .returned v∧YM w' v (T.change o 4).1)∧ZT w' b (T.change o 4).2∧Fr w (· = b) w w':=by
 obtain ⟨kd,p,n,la,nm,ss⟩:=o
 dsimp only at hs QP TW ⊢
 have hb:=hR.lt
 obtain ⟨q,hq,Nj,JN,-⟩:=Yh hs
 have Nj:T.Zx p n=q:=Nj
 have CB:=Zh (fun (w1:World) (h:ZT w1 b T)=>Xg b T p n w1 h)
 rw [Nj] at CB
 have HX:Hid (T.changed ⟨kd,p,n,la,nm,ss⟩ 4={T.Z8[q] with ZR:=true}):=by
  show _=_
  unfold ZU.changed ZU.Sl
  dsimp only
  rw [Nj,Xf,PJ hq]
  rfl
 have gD:Hid (T.ZZ p n (T.changed ⟨kd,p,n,la,nm,ss⟩ 4)={T with Z8:=T.Z8.set q ({T.Z8[q] with ZR:=true})}):=by
  show _=_
  rw [HX.o];unfold ZU.ZZ;rw [Nj,Xf]
 have ej:Hid (T.change ⟨kd,p,n,la,nm,ss⟩ 4=(⟨4,p,n,0,0⟩ :: (if (T.changed ⟨kd,p,n,la,nm,ss⟩ 4).ZR || ((T.ZZ p n (T.changed ⟨kd,p,n,la,nm,ss⟩ 4)).Xb n).ZE then [] else [(T.ZZ p n (T.changed ⟨kd,p,n,la,nm,ss⟩ 4)).ask (T.changed ⟨kd,p,n,la,nm,ss⟩ 4)]),T.ZZ p n (T.changed ⟨kd,p,n,la,nm,ss⟩ 4))):=rfl
 obtain ⟨pv,sv,uv,YJ,X_⟩:=hR.Wh
 have V8:=X_.Z8
 have U4:=VV.Z8
 unfold small at U4
 have HR:=Zh hR
 have wZ:=Zh V8
 have c2:=cell_of YJ 2
 have f2:=hR.YS 2
 obtain ⟨ua,Mt,rfl,PV,-,-⟩:=id V8
 have Gn:=Zh QP
 have N9:=Zh TW
 have Gl:=Zh (LD ZL 4 (fun _=>rfl) (i:=3) Zd (.bool true) ({T.Z8[q] with ZR:=true}) T.Z8 q hq rfl)
 have Dw:=Zh (Uf T.Z8)
 have Rp:Hid (Row (w.alloc (.cells (Qa kd p n la (str nm) sa sl sc ba bl bc) 32)) 105 (.slice ua T.Z8.length Mt) T.Z8.length (T.Z8.flatMap ZL)):=V8.below (Z' _ _)
 have bI:=((Z' w (.cells (Qa kd p n la (str nm) sa sl sc ba bl bc) 32)).cell (p:=⟨b,2,none⟩) hb).trans c2
 have bO:=((Z' w (.cells (Qa kd p n la (str nm) sa sl sc ba bl bc) 32)).frozen (p:=⟨b,2,none⟩) hb).trans f2
 have lK:=hR.below (Z' w (.cells (Qa kd p n la (str nm) sa sl sc ba bl bc) 32))
 have hWs:=World.size_alloc w (.cells (Qa kd p n la (str nm) sa sl sc ba bl bc) 32)
 have bQ:=Z5 w (.cells (Qa kd p n la (str nm) sa sl sc ba bl bc) 32)
 have TL:Hid (Below w w (w.alloc (.cells (Qa kd p n la (str nm) sa sl sc ba bl bc) 32))):=Z' _ _
 clear YJ X_ V8 hR VV hs Nj c2 f2 QP TW
 go_enter Tryz.func102,Tryz.ntmps102
 go_upto_region 1 with fail
 generalize w.alloc (.cells (Qa kd p n la (str nm) sa sl sc ba bl bc) 32)=W0 at *
 go_wp2_with (at_builtin;refine Za rfl (.const (.slice none 0 0)) (.tmp 13) 49 rfl (w.heap.size+1) VZ (.slice none 0 0) 0 [] rfl (Us _ _ _ _) (.slice ua T.Z8.length Mt) T.Z8.length (T.Z8.flatMap ZL) rfl Rp.o Dw.o (Ug _) Zo Zo Zo (fun v1 w2 uK HG=>?_);have HQ:Hid (w2.ownsRow (w.heap.size+1) 105 4 v1 T.Z8.length (T.Z8.flatMap ZL)):=qL;clear uK;have YF:Below (w.heap.size+1) W0 w2:=(YG _ _).grown HG.o Zo (fun k hk=>by cases hk);have c2:=(YF.cell (p:=⟨b,2,none⟩) UL).trans bI;have f2:=(YF.frozen (p:=⟨b,2,none⟩) UL).trans bO;obtain ⟨g,cp,cur,hv,Br,Jt⟩:=P7 HQ.o Zo;subst hv)
 have mG:=Zh YF
 have Sn:=Zh ((lK.below (YF.mono Zo)).Mi (Row.ZV HQ.o))
 have LO:g≠b:=by omega
 have UK:=Zh (Yj HQ.o ((Fr.refl w2.heap.size (· = b) w2).setAt 2 (.slice (some ⟨g,0,none⟩) T.Z8.length cp)) (fun k hk=>by omega))
 have JI:Hid (Fr (w.heap.size+1) (· = b) W0 (w2.setCell ⟨b,2,none⟩ (.slice (some ⟨g,0,none⟩) T.Z8.length cp))):=(Fr.Z9 _ YF).setAt _ _
 have k2:(w2.setCell ⟨b,2,none⟩ (.slice (some ⟨g,0,none⟩) T.Z8.length cp)).cell? ⟨b,2,none⟩=some (.slice (some ⟨g,0,none⟩) T.Z8.length cp):=um _ _ _ c2
 have oG:g<w2.heap.size:=by
  exact qM
 have yS:(w2.setCell ⟨b,2,none⟩ (.slice (some ⟨g,0,none⟩) T.Z8.length cp)).heap[g]?=some (.cells cur 105):=by simp [World.setCell,Array.getElem?_modify,LO.symm,Jt]
 have TJ:=size_setCell w2 ⟨b,2,none⟩ (.slice (some ⟨g,0,none⟩) T.Z8.length cp)
 have lO:=YF.size
 clear c2 f2 Jt YF lK
 generalize w2.setCell ⟨b,2,none⟩ (.slice (some ⟨g,0,none⟩) T.Z8.length cp)=W1 at *
 have xL:∀ j,W1.frozen? ⟨g,j,none⟩=false:=fun j=>by simp [World.frozen?,yS]
 obtain ⟨g',off',e1,xI⟩:=Td (Row.ZV UK.o) Zo
 cases e1
 obtain ⟨d0,d1,d2,d3⟩:=xI q T.Z8[q] (VQ hq)
 rw [OD] at d0 d1 d2 d3
 have WI:=fun (j:Nat)=>(JI.o.cell (p:=⟨w,j,none⟩) UL UL).trans (cell_of bQ j)
 have x1:W1.cell? ⟨w,1,none⟩=some (.int .i64 p):=WI 1
 have x2:W1.cell? ⟨w,2,none⟩=some (.int .i64 n):=WI 2
 have x3:W1.cell? ⟨w,3,none⟩=some (.int .i64 la):=WI 3
 have Oj:w.heap.size<W1.heap.size:=by omega
 have sH:b<W1.heap.size:=by omega
 have PX:g<W1.heap.size:=by omega
 have ZC:Hid (∀ w',Below W1 W1 w'→w'.cell? ⟨b,2,none⟩=some (.slice (some ⟨g,0,none⟩) T.Z8.length cp)∧w'.cell? ⟨w,1,none⟩=some (.int .i64 p)∧w'.cell? ⟨w,2,none⟩=some (.int .i64 n)∧Below W1 W1 w'):=fun w' h=>
  ⟨(h.cell (p:=⟨b,2,none⟩) sH).trans k2,(h.cell (p:=⟨w,1,none⟩) Oj).trans x1,(h.cell (p:=⟨w,2,none⟩) Oj).trans x2,h⟩
 have Ll:Hid (∀ w',Below W1 W1 w'→(w'.cell? ⟨w,1,none⟩=some (.int .i64 p)∧w'.cell? ⟨w,2,none⟩=some (.int .i64 n)∧w'.cell? ⟨w,3,none⟩=some (.int .i64 la))∧(w'.cell? ⟨g,q*4,none⟩=some (.int .i64 T.Z8[q].peer)∧w'.cell? ⟨g,q*4+1,none⟩=some (.int .i64 T.Z8[q].source)∧w'.cell? ⟨g,q*4+2,none⟩=some (.int .i64 T.Z8[q].want)∧w'.cell? ⟨g,q*4+3,none⟩=some (.bool T.Z8[q].ZR))∧w'.frozen? ⟨g,q*4+3,none⟩=false):=fun w' h=>
  ⟨⟨(h.cell (p:=⟨w,1,none⟩) Oj).trans x1,(h.cell (p:=⟨w,2,none⟩) Oj).trans x2,(h.cell (p:=⟨w,3,none⟩) Oj).trans x3⟩,⟨(h.cell (p:=⟨g,q*4,none⟩) PX).trans d0,(h.cell (p:=⟨g,q*4+1,none⟩) PX).trans d1,(h.cell (p:=⟨g,q*4+2,none⟩) PX).trans d2,(h.cell (p:=⟨g,q*4+3,none⟩) PX).trans d3⟩,(h.frozen (p:=⟨g,q*4+3,none⟩) PX).trans (xL _)⟩
 have Hc:Hid (∀ w',Below W1 W1 w'→ZT (w'.setCell ⟨g,q*4+3,none⟩ (.bool true)) b (T.ZZ p n (T.changed ⟨kd,p,n,la,nm,ss⟩ 4))∧Fr w (· = b) w (w'.setCell ⟨g,q*4+3,none⟩ (.bool true))):=fun w' h=>by
  have hr:=Sn.o.below h
  have oL:=ZF UK.o h
  have hf:Fr w' (· = g) w' (w'.setCell ⟨g,q*4+3,none⟩ (.bool true)):=(Fr.refl _ _ _).setAt _ _
  have uq:w'.heap[g]?=some (.cells cur 105):=by
   rw [h.block g PX];exact yS
  have Jv:∀ e,105≠e→∀ k c fr,k=g→w'.heap[k]?≠some (.cells c e fr):=by
   intro e he k c fr hk
   subst hk
   rw [uq]
   exact VX he
  have Ia:=hr.lt
  have vI:=VK oL Zo (i:=q*4+3) (.bool true)
  exact gV
 have pT:Hid (∀ w1,Below W1 W1 w1→Calls Tryz.prog 51 (Qs (some ⟨b,0,none⟩) p n) w1 fun e w'=>e = .returned (.int .i64 q)∧Below w1 w1 w'):=fun w1 h=>CB.o w1 (by have:=Sn.o.below h;exact this)
 have Ri:Below W1 W1 W1:=YG _ _
 have hqI:(q:Int)<(T.Z8.length:Int):=Gs.2 hq
 have hq0:(0:Int)≤(q:Int):=yF q
 have Lc:Hid ((T.changed ⟨kd,p,n,la,nm,ss⟩ 4).peer=T.Z8[q].peer∧(T.changed ⟨kd,p,n,la,nm,ss⟩ 4).source=n):=by
  show _∧_
  rw [HX.o]
  simp at JN
  exact ⟨rfl,JN.2⟩
 have eF:Hid (T.Z8[q].peer=p∧T.Z8[q].source=n):=by simp at JN;exact JN
 clear d0 d1 d2 d3 xI WI x1 x2 x3 xL yS k2 HQ UK Gl JN
 go_wp2_with fail
 go_region_held3 (fun w'=>w'.cell? ⟨b,2,none⟩=some (.slice (some ⟨g,0,none⟩) T.Z8.length cp)∧w'.cell? ⟨w,1,none⟩=some (.int .i64 p)∧w'.cell? ⟨w,2,none⟩=some (.int .i64 n)∧Below W1 W1 w') (first|(exact ZC.o _ Xo)|(exact ZC.o _ (Below.drew Xo))|go_keep) (first|(go_at_call 51;go_split_ands;(with_reducible refine Calls.mono (pT.o _ Xo) ?_);rintro e V ⟨rfl,OE⟩;have Oe:=Heap.Below.call Xo (ZB _) OE)|fail)
 obtain ⟨⟨x1,x2,x3⟩,⟨d0,d1,d2,d3⟩,z0⟩:=Ll.o _ Oe
 have vK:=Oe.size
 have ET:=Zh Oe
 have hgV:¬g=V.heap.size:=by omega
 have cE:¬V.heap.size=g:=by omega
 have hzV:w.heap.size<V.heap.size:=by omega
 have hzg:g<V.heap.size:=by omega
 have uq:¬g=w.heap.size:=by omega
 have cG:¬w.heap.size=g:=by omega
 have hVw:¬V.heap.size=w.heap.size:=by omega
 clear Ri OE Oe
 go_wp2_with fail
 obtain ⟨iK,iL⟩:=Hc.o V ET.o
 go_ret
 have uf:Hid (T.change ⟨kd,p,n,la,nm,ss⟩ 4=([⟨4,p,n,0,0⟩],T.ZZ p n (T.changed ⟨kd,p,n,la,nm,ss⟩ 4))):=by show _=_;rw [ej.o,HX.o];simp
 rw [uf.o]
 exact ⟨⟨_,rfl,YL _ _ 1 _ ([⟨4,p,n,0,0⟩].flatMap Z_) Zd Zi⟩,(iK.alloc _).alloc _,(iL.alloc VB _).alloc VB _⟩
theorem Gu (b:Nat) (T:ZU) (o:Op) (sa ba:Option Addr) (sl sc bl bc:Nat) (w:World) (hR:ZT w b T) (VV:T.Small) (hs:0≤T.Zx o.peer o.source) (QP:0≤T.Zq o.source) (TW:0≤(T.changed o 5).want∧(T.changed o 5).want<(T.Xb o.source).ss.length) :
  Calls Tryz.prog 102 (Q3 (some ⟨b,0,none⟩) (Ji o sa sl sc ba bl bc) 5) w fun e w'=>(∃ v,e = .returned v∧YM w' v (T.change o 5).1)∧ZT w' b (T.change o 5).2∧Fr w (· = b) w w':=by
 obtain ⟨kd,p,n,la,nm,ss⟩:=o
 dsimp only at hs QP TW ⊢
 have hb:=hR.lt
 obtain ⟨q,hq,Nj,JN,-⟩:=Yh hs
 have Nj:T.Zx p n=q:=Nj
 have CB:=Zh (fun (w1:World) (h:ZT w1 b T)=>Xg b T p n w1 h)
 rw [Nj] at CB
 have HX:Hid (T.changed ⟨kd,p,n,la,nm,ss⟩ 5={T.Z8[q] with ZR:=false}):=by
  show _=_
  unfold ZU.changed ZU.Sl
  dsimp only
  rw [Nj,Xf,PJ hq]
  rfl
 have gD:Hid (T.ZZ p n (T.changed ⟨kd,p,n,la,nm,ss⟩ 5)={T with Z8:=T.Z8.set q ({T.Z8[q] with ZR:=false})}):=by
  show _=_
  rw [HX.o];unfold ZU.ZZ;rw [Nj,Xf]
 have ej:Hid (T.change ⟨kd,p,n,la,nm,ss⟩ 5=(⟨5,p,n,0,0⟩ :: (if (T.changed ⟨kd,p,n,la,nm,ss⟩ 5).ZR || ((T.ZZ p n (T.changed ⟨kd,p,n,la,nm,ss⟩ 5)).Xb n).ZE then [] else [(T.ZZ p n (T.changed ⟨kd,p,n,la,nm,ss⟩ 5)).ask (T.changed ⟨kd,p,n,la,nm,ss⟩ 5)]),T.ZZ p n (T.changed ⟨kd,p,n,la,nm,ss⟩ 5))):=rfl
 obtain ⟨pv,sv,uv,YJ,X_⟩:=hR.Wh
 have V8:=X_.Z8
 have U4:=VV.Z8
 unfold small at U4
 have HR:=Zh hR
 have wZ:=Zh V8
 have c2:=cell_of YJ 2
 have f2:=hR.YS 2
 obtain ⟨ua,Mt,rfl,PV,-,-⟩:=id V8
 have Gn:=Zh QP
 have N9:=Zh TW
 have Gl:=Zh (LD ZL 4 (fun _=>rfl) (i:=3) Zd (.bool false) ({T.Z8[q] with ZR:=false}) T.Z8 q hq rfl)
 have Dw:=Zh (Uf T.Z8)
 have Rp:Hid (Row (w.alloc (.cells (Qa kd p n la (str nm) sa sl sc ba bl bc) 32)) 105 (.slice ua T.Z8.length Mt) T.Z8.length (T.Z8.flatMap ZL)):=V8.below (Z' _ _)
 have bI:=((Z' w (.cells (Qa kd p n la (str nm) sa sl sc ba bl bc) 32)).cell (p:=⟨b,2,none⟩) hb).trans c2
 have bO:=((Z' w (.cells (Qa kd p n la (str nm) sa sl sc ba bl bc) 32)).frozen (p:=⟨b,2,none⟩) hb).trans f2
 have lK:=hR.below (Z' w (.cells (Qa kd p n la (str nm) sa sl sc ba bl bc) 32))
 have hWs:=World.size_alloc w (.cells (Qa kd p n la (str nm) sa sl sc ba bl bc) 32)
 have bQ:=Z5 w (.cells (Qa kd p n la (str nm) sa sl sc ba bl bc) 32)
 have TL:Hid (Below w w (w.alloc (.cells (Qa kd p n la (str nm) sa sl sc ba bl bc) 32))):=Z' _ _
 clear YJ X_ V8 hR VV hs Nj c2 f2 QP TW
 go_enter Tryz.func102,Tryz.ntmps102
 go_upto_region 1 with fail
 generalize w.alloc (.cells (Qa kd p n la (str nm) sa sl sc ba bl bc) 32)=W0 at *
 go_wp2_with (at_builtin;refine Za rfl (.const (.slice none 0 0)) (.tmp 13) 49 rfl (w.heap.size+1) VZ (.slice none 0 0) 0 [] rfl (Us _ _ _ _) (.slice ua T.Z8.length Mt) T.Z8.length (T.Z8.flatMap ZL) rfl Rp.o Dw.o (Ug _) Zo Zo Zo (fun v1 w2 uK HG=>?_);have HQ:Hid (w2.ownsRow (w.heap.size+1) 105 4 v1 T.Z8.length (T.Z8.flatMap ZL)):=qL;clear uK;have YF:Below (w.heap.size+1) W0 w2:=(YG _ _).grown HG.o Zo (fun k hk=>by cases hk);have c2:=(YF.cell (p:=⟨b,2,none⟩) UL).trans bI;have f2:=(YF.frozen (p:=⟨b,2,none⟩) UL).trans bO;obtain ⟨g,cp,cur,hv,Br,Jt⟩:=P7 HQ.o Zo;subst hv)
 have mG:=Zh YF
 have Sn:=Zh ((lK.below (YF.mono Zo)).Mi (Row.ZV HQ.o))
 have LO:g≠b:=by omega
 have UK:=Zh (Yj HQ.o ((Fr.refl w2.heap.size (· = b) w2).setAt 2 (.slice (some ⟨g,0,none⟩) T.Z8.length cp)) (fun k hk=>by omega))
 have JI:Hid (Fr (w.heap.size+1) (· = b) W0 (w2.setCell ⟨b,2,none⟩ (.slice (some ⟨g,0,none⟩) T.Z8.length cp))):=(Fr.Z9 _ YF).setAt _ _
 have k2:(w2.setCell ⟨b,2,none⟩ (.slice (some ⟨g,0,none⟩) T.Z8.length cp)).cell? ⟨b,2,none⟩=some (.slice (some ⟨g,0,none⟩) T.Z8.length cp):=um _ _ _ c2
 have oG:g<w2.heap.size:=by
  exact qM
 have yS:(w2.setCell ⟨b,2,none⟩ (.slice (some ⟨g,0,none⟩) T.Z8.length cp)).heap[g]?=some (.cells cur 105):=by simp [World.setCell,Array.getElem?_modify,LO.symm,Jt]
 have TJ:=size_setCell w2 ⟨b,2,none⟩ (.slice (some ⟨g,0,none⟩) T.Z8.length cp)
 have lO:=YF.size
 clear c2 f2 Jt YF lK
 generalize w2.setCell ⟨b,2,none⟩ (.slice (some ⟨g,0,none⟩) T.Z8.length cp)=W1 at *
 have xL:∀ j,W1.frozen? ⟨g,j,none⟩=false:=fun j=>by simp [World.frozen?,yS]
 obtain ⟨g',off',e1,xI⟩:=Td (Row.ZV UK.o) Zo
 cases e1
 obtain ⟨d0,d1,d2,d3⟩:=xI q T.Z8[q] (VQ hq)
 rw [OD] at d0 d1 d2 d3
 have WI:=fun (j:Nat)=>(JI.o.cell (p:=⟨w,j,none⟩) UL UL).trans (cell_of bQ j)
 have x1:W1.cell? ⟨w,1,none⟩=some (.int .i64 p):=WI 1
 have x2:W1.cell? ⟨w,2,none⟩=some (.int .i64 n):=WI 2
 have x3:W1.cell? ⟨w,3,none⟩=some (.int .i64 la):=WI 3
 have Oj:w.heap.size<W1.heap.size:=by omega
 have sH:b<W1.heap.size:=by omega
 have PX:g<W1.heap.size:=by omega
 have ZC:Hid (∀ w',Below W1 W1 w'→w'.cell? ⟨b,2,none⟩=some (.slice (some ⟨g,0,none⟩) T.Z8.length cp)∧w'.cell? ⟨w,1,none⟩=some (.int .i64 p)∧w'.cell? ⟨w,2,none⟩=some (.int .i64 n)∧Below W1 W1 w'):=fun w' h=>
  ⟨(h.cell (p:=⟨b,2,none⟩) sH).trans k2,(h.cell (p:=⟨w,1,none⟩) Oj).trans x1,(h.cell (p:=⟨w,2,none⟩) Oj).trans x2,h⟩
 have Ll:Hid (∀ w',Below W1 W1 w'→(w'.cell? ⟨w,1,none⟩=some (.int .i64 p)∧w'.cell? ⟨w,2,none⟩=some (.int .i64 n)∧w'.cell? ⟨w,3,none⟩=some (.int .i64 la))∧(w'.cell? ⟨g,q*4,none⟩=some (.int .i64 T.Z8[q].peer)∧w'.cell? ⟨g,q*4+1,none⟩=some (.int .i64 T.Z8[q].source)∧w'.cell? ⟨g,q*4+2,none⟩=some (.int .i64 T.Z8[q].want)∧w'.cell? ⟨g,q*4+3,none⟩=some (.bool T.Z8[q].ZR))∧w'.frozen? ⟨g,q*4+3,none⟩=false):=fun w' h=>
  ⟨⟨(h.cell (p:=⟨w,1,none⟩) Oj).trans x1,(h.cell (p:=⟨w,2,none⟩) Oj).trans x2,(h.cell (p:=⟨w,3,none⟩) Oj).trans x3⟩,⟨(h.cell (p:=⟨g,q*4,none⟩) PX).trans d0,(h.cell (p:=⟨g,q*4+1,none⟩) PX).trans d1,(h.cell (p:=⟨g,q*4+2,none⟩) PX).trans d2,(h.cell (p:=⟨g,q*4+3,none⟩) PX).trans d3⟩,(h.frozen (p:=⟨g,q*4+3,none⟩) PX).trans (xL _)⟩
 have Hc:Hid (∀ w',Below W1 W1 w'→ZT (w'.setCell ⟨g,q*4+3,none⟩ (.bool false)) b (T.ZZ p n (T.changed ⟨kd,p,n,la,nm,ss⟩ 5))∧Fr w (· = b) w (w'.setCell ⟨g,q*4+3,none⟩ (.bool false))):=fun w' h=>by
  have hr:=Sn.o.below h
  have oL:=ZF UK.o h
  have hf:Fr w' (· = g) w' (w'.setCell ⟨g,q*4+3,none⟩ (.bool false)):=(Fr.refl _ _ _).setAt _ _
  have uq:w'.heap[g]?=some (.cells cur 105):=by
   rw [h.block g PX];exact yS
  have Jv:∀ e,105≠e→∀ k c fr,k=g→w'.heap[k]?≠some (.cells c e fr):=by
   intro e he k c fr hk
   subst hk
   rw [uq]
   exact VX he
  have Ia:=hr.lt
  have vI:=VK oL Zo (i:=q*4+3) (.bool false)
  exact gV
 have pT:Hid (∀ w1,Below W1 W1 w1→Calls Tryz.prog 51 (Qs (some ⟨b,0,none⟩) p n) w1 fun e w'=>e = .returned (.int .i64 q)∧Below w1 w1 w'):=fun w1 h=>CB.o w1 (by have:=Sn.o.below h;exact this)
 have Ri:Below W1 W1 W1:=YG _ _
 have hqI:(q:Int)<(T.Z8.length:Int):=Gs.2 hq
 have hq0:(0:Int)≤(q:Int):=yF q
 have Lc:Hid ((T.changed ⟨kd,p,n,la,nm,ss⟩ 5).peer=T.Z8[q].peer∧(T.changed ⟨kd,p,n,la,nm,ss⟩ 5).source=n):=by
  show _∧_
  rw [HX.o]
  simp at JN
  exact ⟨rfl,JN.2⟩
 have eF:Hid (T.Z8[q].peer=p∧T.Z8[q].source=n):=by simp at JN;exact JN
 clear d0 d1 d2 d3 xI WI x1 x2 x3 xL yS k2 HQ UK Gl JN
 go_wp2_with fail
 go_region_held3 (fun w'=>w'.cell? ⟨b,2,none⟩=some (.slice (some ⟨g,0,none⟩) T.Z8.length cp)∧w'.cell? ⟨w,1,none⟩=some (.int .i64 p)∧w'.cell? ⟨w,2,none⟩=some (.int .i64 n)∧Below W1 W1 w') (first|(exact ZC.o _ Xo)|(exact ZC.o _ (Below.drew Xo))|go_keep) (first|(go_at_call 51;go_split_ands;(with_reducible refine Calls.mono (pT.o _ Xo) ?_);rintro e V ⟨rfl,OE⟩;have Oe:=Heap.Below.call Xo (ZB _) OE)|fail)
 obtain ⟨⟨x1,x2,x3⟩,⟨d0,d1,d2,d3⟩,z0⟩:=Ll.o _ Oe
 have vK:=Oe.size
 have ET:=Zh Oe
 have hgV:¬g=V.heap.size:=by omega
 have cE:¬V.heap.size=g:=by omega
 have hzV:w.heap.size<V.heap.size:=by omega
 have hzg:g<V.heap.size:=by omega
 have uq:¬g=w.heap.size:=by omega
 have cG:¬w.heap.size=g:=by omega
 have hVw:¬V.heap.size=w.heap.size:=by omega
 clear Ri OE Oe
 go_wp2_with fail
 obtain ⟨iK,iL⟩:=Hc.o V ET.o
 obtain ⟨m,hm,PU,-,-⟩:=Yh Gn.o
 have PU:T.Zq n=m:=PU
 have mQ:Hid (((T.ZZ p n (T.changed ⟨kd,p,n,la,nm,ss⟩ 5)).Xb n).ZE=T.Yv[m].ZE):=by
  show (T.Yv.getD (T.Zq n).toNat Vm).ZE=_
  rw [PU,Xf,Sq,VQ hm];rfl
 have Gj:Hid (∀ w1,ZT w1 b (T.ZZ p n (T.changed ⟨kd,p,n,la,nm,ss⟩ 5))→Calls Tryz.prog 99 (Qf (some ⟨b,0,none⟩) (Qg T.Z8[q].peer T.Z8[q].source ({T.Z8[q] with ZR:=false}).want ({T.Z8[q] with ZR:=false}).ZR)) w1 fun e w'=>e = .returned (WG ((T.ZZ p n (T.changed ⟨kd,p,n,la,nm,ss⟩ 5)).ask (T.changed ⟨kd,p,n,la,nm,ss⟩ 5)))∧Below w1 w1 w'):=fun w1 h=>by
  have h1:=Jq b (T.ZZ p n (T.changed ⟨kd,p,n,la,nm,ss⟩ 5)) (T.changed ⟨kd,p,n,la,nm,ss⟩ 5) w1 h (by rw [Lc.o.2];exact Gn.o) (by rw [Lc.o.2];exact N9.o)
  rw [HX.o] at h1 ⊢
  exact h1
 have CS:Hid (∀ w1,ZT w1 b (T.ZZ p n (T.changed ⟨kd,p,n,la,nm,ss⟩ 5))→Calls Tryz.prog 49 (Ql (some ⟨b,0,none⟩) n) w1 fun e w'=>e = .returned (.int .i64 m)∧Below w1 w1 w'):=fun w1 h=>by
  have h1:=W8 b _ n w1 h
  rw [show (T.ZZ p n (T.changed ⟨kd,p,n,la,nm,ss⟩ 5)).Zq n=m from PU] at h1
  exact h1
 have oP:=size_setCell V ⟨g,q*4+3,none⟩ (.bool false)
 have y0:(V.setCell ⟨g,q*4+3,none⟩ (.bool false)).cell? ⟨g,q*4,none⟩=some (.int .i64 T.Z8[q].peer):=(World.cell?_setCell_other _ _ _ _ Zi).trans d0
 have y1:(V.setCell ⟨g,q*4+3,none⟩ (.bool false)).cell? ⟨g,q*4+1,none⟩=some (.int .i64 T.Z8[q].source):=(World.cell?_setCell_other _ _ _ _ Zi).trans d1
 have y2:(V.setCell ⟨g,q*4+3,none⟩ (.bool false)).cell? ⟨g,q*4+2,none⟩=some (.int .i64 ({T.Z8[q] with ZR:=false}).want):=(World.cell?_setCell_other _ _ _ _ Zi).trans d2
 have y3:(V.setCell ⟨g,q*4+3,none⟩ (.bool false)).cell? ⟨g,q*4+3,none⟩=some (.bool ({T.Z8[q] with ZR:=false}).ZR):=um _ _ _ d3
 have yb:(V.setCell ⟨g,q*4+3,none⟩ (.bool false)).cell? ⟨w,2,none⟩=some (.int .i64 n):=(World.cell?_setCell_other _ _ _ _ (by simp <;> omega)).trans x2
 generalize V.setCell ⟨g,q*4+3,none⟩ (.bool false)=W5 at *
 have ht:=Z5 W5 (.cells (Qi 5 p n 0 0) 158)
 rw [oP] at ht
 have Vb:=Z' W5 (.cells (Qi 5 p n 0 0) 158)
 have rP:=iK.alloc (.cells (Qi 5 p n 0 0) 158)
 have rL:=iL.alloc Zo (.cells (Qi 5 p n 0 0) 158)
 have mz:=(Vb.cell (p:=⟨g,q*4,none⟩) UL).trans y0
 have y1':=(Vb.cell (p:=⟨g,q*4+1,none⟩) UL).trans y1
 have mA:=(Vb.cell (p:=⟨g,q*4+2,none⟩) UL).trans y2
 have mB:=(Vb.cell (p:=⟨g,q*4+3,none⟩) UL).trans y3
 have fL:=(Vb.cell (p:=⟨w,2,none⟩) UL).trans yb
 have oQ:=World.size_alloc W5 (.cells (Qi 5 p n 0 0) 158)
 generalize W5.alloc (.cells (Qi 5 p n 0 0) 158)=W6 at *
 clear y0 y1 y2 y3 yb Vb iK iL d0 d1 d2 d3 z0 x1 x2 x3
 have AU:=Zh rP
 have wW:=Zh rL
 obtain ⟨pv6,sv6,uv6,Og,Kh⟩:=rP.Wh
 obtain ⟨P,Vd,Wp,Ef⟩:=Kh.Yv
 have Vd:P.map Prod.fst=T.Yv:=Vd
 have r8:m<P.length:=by rw [←Vd,UM] at hm;exact hm
 have lH:=Wp.len
 have s1:=cell_of Og 1
 obtain ⟨pa,pc,rfl,-,-⟩:=id Wp
 obtain ⟨gs,RD,e4,SK⟩:=U3 Wp Zo
 subst e4
 obtain ⟨-,-,-,s4⟩:=SK m P[m] (VQ r8)
 have lI:P[m].1.ZE=T.Yv[m].ZE:=by
  have:(P.map Prod.fst)[m]?=T.Yv[m]?:=by rw [Vd]
  rw [List.getElem?_map,VQ r8,VQ hm] at this
  simp at this;rw [this]
 rw [lI] at s4
 have jk:gs<W6.heap.size:=by
  exact gP
 have fo:(m:Int)<(P.length:Int):=Gs.2 r8
 have vE:(0:Int)≤(m:Int):=yF m
 have Fl:b<W6.heap.size:=by omega
 have xK:g<W6.heap.size:=by omega
 have Fj:V.heap.size<W6.heap.size:=by omega
 have jR:w.heap.size<W6.heap.size:=by omega
 have Ih:w.heap.size≤W6.heap.size:=by omega
 have Jw:n=T.Z8[q].source:=eF.o.2.symm
 clear Og Kh Vd Wp Ef SK lI rP rL PU
 generalize P.length=NP at *
 generalize T.Yv[m].ZE=mu at *
 have VH:Hid (∀ w',Below W6 W6 w'→(w'.cell? ⟨g,q*4,none⟩=some (.int .i64 T.Z8[q].peer)∧w'.cell? ⟨g,q*4+1,none⟩=some (.int .i64 T.Z8[q].source)∧w'.cell? ⟨g,q*4+2,none⟩=some (.int .i64 ({T.Z8[q] with ZR:=false}).want)∧w'.cell? ⟨g,q*4+3,none⟩=some (.bool ({T.Z8[q] with ZR:=false}).ZR))∧(w'.cell? ⟨V,0,none⟩=some (.int .i64 5)∧w'.cell? ⟨V,1,none⟩=some (.int .i64 p)∧w'.cell? ⟨V,2,none⟩=some (.int .i64 n)∧w'.cell? ⟨V,3,none⟩=some (.int .i64 0)∧w'.cell? ⟨V,4,none⟩=some (.int .u32 0))∧w'.cell? ⟨w,2,none⟩=some (.int .i64 n)∧w'.cell? ⟨b,1,none⟩=some (.slice (some ⟨gs,RD,none⟩) NP pc)∧w'.cell? ⟨gs,RD+m*4+3,none⟩=some (.bool mu)∧Below W6 W6 w'):=fun w' h=>
  ⟨⟨(h.cell (p:=⟨g,q*4,none⟩) xK).trans mz,(h.cell (p:=⟨g,q*4+1,none⟩) xK).trans y1',(h.cell (p:=⟨g,q*4+2,none⟩) xK).trans mA,(h.cell (p:=⟨g,q*4+3,none⟩) xK).trans mB⟩,⟨(h.cell (p:=⟨V,0,none⟩) Fj).trans (cell_of ht 0),(h.cell (p:=⟨V,1,none⟩) Fj).trans (cell_of ht 1),(h.cell (p:=⟨V,2,none⟩) Fj).trans (cell_of ht 2),(h.cell (p:=⟨V,3,none⟩) Fj).trans (cell_of ht 3),(h.cell (p:=⟨V,4,none⟩) Fj).trans (cell_of ht 4)⟩,(h.cell (p:=⟨w,2,none⟩) jR).trans fL,(h.cell (p:=⟨b,1,none⟩) Fl).trans s1,(h.cell (p:=⟨gs,RD+m*4+3,none⟩) jk).trans s4,h⟩
 have uJ:Hid ((T.changed ⟨kd,p,n,la,nm,ss⟩ 5).ZR=({T.Z8[q] with ZR:=false}).ZR):=by show _=_;rw [HX.o]
 generalize T.ZZ p n (T.changed ⟨kd,p,n,la,nm,ss⟩ 5)=T1 at *
 generalize T1.ask (T.changed ⟨kd,p,n,la,nm,ss⟩ 5)=TA at *
 generalize (T.changed ⟨kd,p,n,la,nm,ss⟩ 5).ZR=cpau at *
 clear ht mz y1' mA s1 s4 hm Gn N9 HX Lc gD Hc ZC Ll Sn JI TL mG ET wZ Rp HR CB pT eF Dw
 dsimp only at VH Gj mB uJ
 generalize T.Z8[q].source=xs at *
 generalize T.Z8[q].peer=xp at *
 generalize T.Z8[q].want=xw at *
 subst Jw
 have Ri:Below W6 W6 W6:=YG _ _
 have uf:Hid (T.change ⟨kd,p,n,la,nm,ss⟩ 5=(⟨5,p,n,0,0⟩ :: (if mu then [] else [TA]),T1)):=by show _=_;rw [ej.o,uJ.o,mQ.o];simp
 go_upto_region 13 with fail
 go_cut [73] (fun s73 wx=>s73 = .bool mu∧Below W6 W6 wx)
 case first=>
  go_region_held3 (fun w'=>(w'.cell? ⟨g,q*4,none⟩=some (.int .i64 xp)∧w'.cell? ⟨g,q*4+1,none⟩=some (.int .i64 n)∧w'.cell? ⟨g,q*4+2,none⟩=some (.int .i64 xw)∧w'.cell? ⟨g,q*4+3,none⟩=some (.bool false))∧(w'.cell? ⟨V,0,none⟩=some (.int .i64 5)∧w'.cell? ⟨V,1,none⟩=some (.int .i64 p)∧w'.cell? ⟨V,2,none⟩=some (.int .i64 n)∧w'.cell? ⟨V,3,none⟩=some (.int .i64 0)∧w'.cell? ⟨V,4,none⟩=some (.int .u32 0))∧w'.cell? ⟨w,2,none⟩=some (.int .i64 n)∧w'.cell? ⟨b,1,none⟩=some (.slice (some ⟨gs,RD,none⟩) NP pc)∧w'.cell? ⟨gs,RD+m*4+3,none⟩=some (.bool mu)∧Below W6 W6 w') (first|(exact VH.o _ Xo)|(exact VH.o _ (Below.drew Xo))|go_keep) (first|(go_at_call 49;go_split_ands;(with_reducible refine Calls.mono (CS.o _ (AU.o.below Xo)) ?_);rintro e V2 ⟨rfl,OE⟩;have Oe:=Heap.Below.call Xo (ZB _) OE)|fail)
  all_goals (go_wp2_with fail;go_meet;exact ⟨rfl,by first|with_reducible assumption|exact Below.drew Xo⟩)
 case rest=>
  clear Ri
  obtain ⟨rfl,OP⟩:=hcut
  obtain ⟨W7,rfl⟩:∃ W7:World,W7=wc:=⟨_,rfl⟩
  cases mu
  ·go_upto_region 15 with fail
   go_cut [6] (fun s6 wx=>YM wx s6 [⟨5,p,n,0,0⟩,TA]∧Below W6 W6 wx)
   case first=>
    go_region_held3 (fun w'=>(w'.cell? ⟨g,q*4,none⟩=some (.int .i64 xp)∧w'.cell? ⟨g,q*4+1,none⟩=some (.int .i64 n)∧w'.cell? ⟨g,q*4+2,none⟩=some (.int .i64 xw)∧w'.cell? ⟨g,q*4+3,none⟩=some (.bool false))∧(w'.cell? ⟨V,0,none⟩=some (.int .i64 5)∧w'.cell? ⟨V,1,none⟩=some (.int .i64 p)∧w'.cell? ⟨V,2,none⟩=some (.int .i64 n)∧w'.cell? ⟨V,3,none⟩=some (.int .i64 0)∧w'.cell? ⟨V,4,none⟩=some (.int .u32 0))∧w'.cell? ⟨w,2,none⟩=some (.int .i64 n)∧w'.cell? ⟨b,1,none⟩=some (.slice (some ⟨gs,RD,none⟩) NP pc)∧w'.cell? ⟨gs,RD+m*4+3,none⟩=some (.bool false)∧Below W6 W6 w') (first|(exact VH.o _ Xo)|(exact VH.o _ (Below.drew Xo))|(exact VH.o _ (Heap.Below.alloc' Xo (ZB _) _))|(exact VH.o _ (Heap.Below.alloc' (Below.drew Xo) (ZB _) _))|go_keep) (first|(go_at_call 99;go_split_ands;(with_reducible refine Calls.mono (Gj.o _ (AU.o.below Xo)) ?_);rintro e V3 ⟨rfl,OE⟩;have GA:=Heap.Below.call Xo (ZB _) OE;unfold WG)|fail)
    go_wp2_with fail
    go_meet
    exact ⟨YL _ _ 2 _ ([⟨5,p,n,0,0⟩,TA].flatMap Z_) Zd rfl,GA.alloc GA.size _⟩
   case rest=>
    exact kR
  ·obtain ⟨-,⟨t0,t1,t2,t3,t4⟩,-⟩:=VH.o _ OP
   have dN:V.heap.size<W7.heap.size:=Px Fj OP.size
   go_wp2
   go_ret
   rw [uf.o]
   exact ⟨⟨_,rfl,YL _ _ 1 _ ([⟨5,p,n,0,0⟩].flatMap Z_) Zd rfl⟩,(AU.o.below OP).alloc _,(wW.o.trans ((Fr.Z9 _ OP).mono Ih (fun _ _ h=>h))).alloc (Rh Ih OP.size) _⟩
theorem A8 (b:Nat) (T:ZU) (o:Op) (sa ba:Option Addr) (sl sc bl bc:Nat) (w:World) (hR:ZT w b T) (VV:T.Small) (hs:0≤T.Zx o.peer o.source) (QP:0≤T.Zq o.source) (TW:0≤(T.changed o 8).want∧(T.changed o 8).want<(T.Xb o.source).ss.length) :
  Calls Tryz.prog 102 (Q3 (some ⟨b,0,none⟩) (Ji o sa sl sc ba bl bc) 8) w fun e w'=>(∃ v,e = .returned v∧YM w' v (T.change o 8).1)∧ZT w' b (T.change o 8).2∧Fr w (· = b) w w':=by
 obtain ⟨kd,p,n,la,nm,ss⟩:=o
 dsimp only at hs QP TW ⊢
 have hb:=hR.lt
 obtain ⟨q,hq,Nj,JN,-⟩:=Yh hs
 have Nj:T.Zx p n=q:=Nj
 have CB:=Zh (fun (w1:World) (h:ZT w1 b T)=>Xg b T p n w1 h)
 rw [Nj] at CB
 have HX:Hid (T.changed ⟨kd,p,n,la,nm,ss⟩ 8={T.Z8[q] with want:=la}):=by
  show _=_
  unfold ZU.changed ZU.Sl
  dsimp only
  rw [Nj,Xf,PJ hq]
  rfl
 have gD:Hid (T.ZZ p n (T.changed ⟨kd,p,n,la,nm,ss⟩ 8)={T with Z8:=T.Z8.set q ({T.Z8[q] with want:=la})}):=by
  show _=_
  rw [HX.o];unfold ZU.ZZ;rw [Nj,Xf]
 have ej:Hid (T.change ⟨kd,p,n,la,nm,ss⟩ 8=(⟨8,p,n,la,0⟩ :: (if (T.changed ⟨kd,p,n,la,nm,ss⟩ 8).ZR || ((T.ZZ p n (T.changed ⟨kd,p,n,la,nm,ss⟩ 8)).Xb n).ZE then [] else [(T.ZZ p n (T.changed ⟨kd,p,n,la,nm,ss⟩ 8)).ask (T.changed ⟨kd,p,n,la,nm,ss⟩ 8)]),T.ZZ p n (T.changed ⟨kd,p,n,la,nm,ss⟩ 8))):=rfl
 obtain ⟨pv,sv,uv,YJ,X_⟩:=hR.Wh
 have V8:=X_.Z8
 have U4:=VV.Z8
 unfold small at U4
 have HR:=Zh hR
 have wZ:=Zh V8
 have c2:=cell_of YJ 2
 have f2:=hR.YS 2
 obtain ⟨ua,Mt,rfl,PV,-,-⟩:=id V8
 have Gn:=Zh QP
 have N9:=Zh TW
 have Gl:=Zh (LD ZL 4 (fun _=>rfl) (i:=2) Zd (.int .i64 la) ({T.Z8[q] with want:=la}) T.Z8 q hq rfl)
 have Dw:=Zh (Uf T.Z8)
 have Rp:Hid (Row (w.alloc (.cells (Qa kd p n la (str nm) sa sl sc ba bl bc) 32)) 105 (.slice ua T.Z8.length Mt) T.Z8.length (T.Z8.flatMap ZL)):=V8.below (Z' _ _)
 have bI:=((Z' w (.cells (Qa kd p n la (str nm) sa sl sc ba bl bc) 32)).cell (p:=⟨b,2,none⟩) hb).trans c2
 have bO:=((Z' w (.cells (Qa kd p n la (str nm) sa sl sc ba bl bc) 32)).frozen (p:=⟨b,2,none⟩) hb).trans f2
 have lK:=hR.below (Z' w (.cells (Qa kd p n la (str nm) sa sl sc ba bl bc) 32))
 have hWs:=World.size_alloc w (.cells (Qa kd p n la (str nm) sa sl sc ba bl bc) 32)
 have bQ:=Z5 w (.cells (Qa kd p n la (str nm) sa sl sc ba bl bc) 32)
 have TL:Hid (Below w w (w.alloc (.cells (Qa kd p n la (str nm) sa sl sc ba bl bc) 32))):=Z' _ _
 clear YJ X_ V8 hR VV hs Nj c2 f2 QP TW
 go_enter Tryz.func102,Tryz.ntmps102
 go_upto_region 1 with fail
 generalize w.alloc (.cells (Qa kd p n la (str nm) sa sl sc ba bl bc) 32)=W0 at *
 go_wp2_with (at_builtin;refine Za rfl (.const (.slice none 0 0)) (.tmp 13) 49 rfl (w.heap.size+1) VZ (.slice none 0 0) 0 [] rfl (Us _ _ _ _) (.slice ua T.Z8.length Mt) T.Z8.length (T.Z8.flatMap ZL) rfl Rp.o Dw.o (Ug _) Zo Zo Zo (fun v1 w2 uK HG=>?_);have HQ:Hid (w2.ownsRow (w.heap.size+1) 105 4 v1 T.Z8.length (T.Z8.flatMap ZL)):=qL;clear uK;have YF:Below (w.heap.size+1) W0 w2:=(YG _ _).grown HG.o Zo (fun k hk=>by cases hk);have c2:=(YF.cell (p:=⟨b,2,none⟩) UL).trans bI;have f2:=(YF.frozen (p:=⟨b,2,none⟩) UL).trans bO;obtain ⟨g,cp,cur,hv,Br,Jt⟩:=P7 HQ.o Zo;subst hv)
 have mG:=Zh YF
 have Sn:=Zh ((lK.below (YF.mono Zo)).Mi (Row.ZV HQ.o))
 have LO:g≠b:=by omega
 have UK:=Zh (Yj HQ.o ((Fr.refl w2.heap.size (· = b) w2).setAt 2 (.slice (some ⟨g,0,none⟩) T.Z8.length cp)) (fun k hk=>by omega))
 have JI:Hid (Fr (w.heap.size+1) (· = b) W0 (w2.setCell ⟨b,2,none⟩ (.slice (some ⟨g,0,none⟩) T.Z8.length cp))):=(Fr.Z9 _ YF).setAt _ _
 have k2:(w2.setCell ⟨b,2,none⟩ (.slice (some ⟨g,0,none⟩) T.Z8.length cp)).cell? ⟨b,2,none⟩=some (.slice (some ⟨g,0,none⟩) T.Z8.length cp):=um _ _ _ c2
 have oG:g<w2.heap.size:=by
  exact qM
 have yS:(w2.setCell ⟨b,2,none⟩ (.slice (some ⟨g,0,none⟩) T.Z8.length cp)).heap[g]?=some (.cells cur 105):=by simp [World.setCell,Array.getElem?_modify,LO.symm,Jt]
 have TJ:=size_setCell w2 ⟨b,2,none⟩ (.slice (some ⟨g,0,none⟩) T.Z8.length cp)
 have lO:=YF.size
 clear c2 f2 Jt YF lK
 generalize w2.setCell ⟨b,2,none⟩ (.slice (some ⟨g,0,none⟩) T.Z8.length cp)=W1 at *
 have xL:∀ j,W1.frozen? ⟨g,j,none⟩=false:=fun j=>by simp [World.frozen?,yS]
 obtain ⟨g',off',e1,xI⟩:=Td (Row.ZV UK.o) Zo
 cases e1
 obtain ⟨d0,d1,d2,d3⟩:=xI q T.Z8[q] (VQ hq)
 rw [OD] at d0 d1 d2 d3
 have WI:=fun (j:Nat)=>(JI.o.cell (p:=⟨w,j,none⟩) UL UL).trans (cell_of bQ j)
 have x1:W1.cell? ⟨w,1,none⟩=some (.int .i64 p):=WI 1
 have x2:W1.cell? ⟨w,2,none⟩=some (.int .i64 n):=WI 2
 have x3:W1.cell? ⟨w,3,none⟩=some (.int .i64 la):=WI 3
 have Oj:w.heap.size<W1.heap.size:=by omega
 have sH:b<W1.heap.size:=by omega
 have PX:g<W1.heap.size:=by omega
 have ZC:Hid (∀ w',Below W1 W1 w'→w'.cell? ⟨b,2,none⟩=some (.slice (some ⟨g,0,none⟩) T.Z8.length cp)∧w'.cell? ⟨w,1,none⟩=some (.int .i64 p)∧w'.cell? ⟨w,2,none⟩=some (.int .i64 n)∧Below W1 W1 w'):=fun w' h=>
  ⟨(h.cell (p:=⟨b,2,none⟩) sH).trans k2,(h.cell (p:=⟨w,1,none⟩) Oj).trans x1,(h.cell (p:=⟨w,2,none⟩) Oj).trans x2,h⟩
 have Ll:Hid (∀ w',Below W1 W1 w'→(w'.cell? ⟨w,1,none⟩=some (.int .i64 p)∧w'.cell? ⟨w,2,none⟩=some (.int .i64 n)∧w'.cell? ⟨w,3,none⟩=some (.int .i64 la))∧(w'.cell? ⟨g,q*4,none⟩=some (.int .i64 T.Z8[q].peer)∧w'.cell? ⟨g,q*4+1,none⟩=some (.int .i64 T.Z8[q].source)∧w'.cell? ⟨g,q*4+2,none⟩=some (.int .i64 T.Z8[q].want)∧w'.cell? ⟨g,q*4+3,none⟩=some (.bool T.Z8[q].ZR))∧w'.frozen? ⟨g,q*4+2,none⟩=false):=fun w' h=>
  ⟨⟨(h.cell (p:=⟨w,1,none⟩) Oj).trans x1,(h.cell (p:=⟨w,2,none⟩) Oj).trans x2,(h.cell (p:=⟨w,3,none⟩) Oj).trans x3⟩,⟨(h.cell (p:=⟨g,q*4,none⟩) PX).trans d0,(h.cell (p:=⟨g,q*4+1,none⟩) PX).trans d1,(h.cell (p:=⟨g,q*4+2,none⟩) PX).trans d2,(h.cell (p:=⟨g,q*4+3,none⟩) PX).trans d3⟩,(h.frozen (p:=⟨g,q*4+2,none⟩) PX).trans (xL _)⟩
 have Hc:Hid (∀ w',Below W1 W1 w'→ZT (w'.setCell ⟨g,q*4+2,none⟩ (.int .i64 la)) b (T.ZZ p n (T.changed ⟨kd,p,n,la,nm,ss⟩ 8))∧Fr w (· = b) w (w'.setCell ⟨g,q*4+2,none⟩ (.int .i64 la))):=fun w' h=>by
  have hr:=Sn.o.below h
  have oL:=ZF UK.o h
  have hf:Fr w' (· = g) w' (w'.setCell ⟨g,q*4+2,none⟩ (.int .i64 la)):=(Fr.refl _ _ _).setAt _ _
  have uq:w'.heap[g]?=some (.cells cur 105):=by
   rw [h.block g PX];exact yS
  have Jv:∀ e,105≠e→∀ k c fr,k=g→w'.heap[k]?≠some (.cells c e fr):=by
   intro e he k c fr hk
   subst hk
   rw [uq]
   exact VX he
  have Ia:=hr.lt
  have vI:=VK oL Zo (i:=q*4+2) (.int .i64 la)
  exact gV
 have pT:Hid (∀ w1,Below W1 W1 w1→Calls Tryz.prog 51 (Qs (some ⟨b,0,none⟩) p n) w1 fun e w'=>e = .returned (.int .i64 q)∧Below w1 w1 w'):=fun w1 h=>CB.o w1 (by have:=Sn.o.below h;exact this)
 have Ri:Below W1 W1 W1:=YG _ _
 have hqI:(q:Int)<(T.Z8.length:Int):=Gs.2 hq
 have hq0:(0:Int)≤(q:Int):=yF q
 have Lc:Hid ((T.changed ⟨kd,p,n,la,nm,ss⟩ 8).peer=T.Z8[q].peer∧(T.changed ⟨kd,p,n,la,nm,ss⟩ 8).source=n):=by
  show _∧_
  rw [HX.o]
  simp at JN
  exact ⟨rfl,JN.2⟩
 have eF:Hid (T.Z8[q].peer=p∧T.Z8[q].source=n):=by simp at JN;exact JN
 clear d0 d1 d2 d3 xI WI x1 x2 x3 xL yS k2 HQ UK Gl JN
 go_wp2_with fail
 go_region_held3 (fun w'=>w'.cell? ⟨b,2,none⟩=some (.slice (some ⟨g,0,none⟩) T.Z8.length cp)∧w'.cell? ⟨w,1,none⟩=some (.int .i64 p)∧w'.cell? ⟨w,2,none⟩=some (.int .i64 n)∧Below W1 W1 w') (first|(exact ZC.o _ Xo)|(exact ZC.o _ (Below.drew Xo))|go_keep) (first|(go_at_call 51;go_split_ands;(with_reducible refine Calls.mono (pT.o _ Xo) ?_);rintro e V ⟨rfl,OE⟩;have Oe:=Heap.Below.call Xo (ZB _) OE)|fail)
 obtain ⟨⟨x1,x2,x3⟩,⟨d0,d1,d2,d3⟩,z0⟩:=Ll.o _ Oe
 have vK:=Oe.size
 have ET:=Zh Oe
 have hgV:¬g=V.heap.size:=by omega
 have cE:¬V.heap.size=g:=by omega
 have hzV:w.heap.size<V.heap.size:=by omega
 have hzg:g<V.heap.size:=by omega
 have uq:¬g=w.heap.size:=by omega
 have cG:¬w.heap.size=g:=by omega
 have hVw:¬V.heap.size=w.heap.size:=by omega
 clear Ri OE Oe
 go_wp2_with fail
 obtain ⟨iK,iL⟩:=Hc.o V ET.o
 obtain ⟨m,hm,PU,-,-⟩:=Yh Gn.o
 have PU:T.Zq n=m:=PU
 have mQ:Hid (((T.ZZ p n (T.changed ⟨kd,p,n,la,nm,ss⟩ 8)).Xb n).ZE=T.Yv[m].ZE):=by
  show (T.Yv.getD (T.Zq n).toNat Vm).ZE=_
  rw [PU,Xf,Sq,VQ hm];rfl
 have Gj:Hid (∀ w1,ZT w1 b (T.ZZ p n (T.changed ⟨kd,p,n,la,nm,ss⟩ 8))→Calls Tryz.prog 99 (Qf (some ⟨b,0,none⟩) (Qg T.Z8[q].peer T.Z8[q].source ({T.Z8[q] with want:=la}).want ({T.Z8[q] with want:=la}).ZR)) w1 fun e w'=>e = .returned (WG ((T.ZZ p n (T.changed ⟨kd,p,n,la,nm,ss⟩ 8)).ask (T.changed ⟨kd,p,n,la,nm,ss⟩ 8)))∧Below w1 w1 w'):=fun w1 h=>by
  have h1:=Jq b (T.ZZ p n (T.changed ⟨kd,p,n,la,nm,ss⟩ 8)) (T.changed ⟨kd,p,n,la,nm,ss⟩ 8) w1 h (by rw [Lc.o.2];exact Gn.o) (by rw [Lc.o.2];exact N9.o)
  rw [HX.o] at h1 ⊢
  exact h1
 have CS:Hid (∀ w1,ZT w1 b (T.ZZ p n (T.changed ⟨kd,p,n,la,nm,ss⟩ 8))→Calls Tryz.prog 49 (Ql (some ⟨b,0,none⟩) n) w1 fun e w'=>e = .returned (.int .i64 m)∧Below w1 w1 w'):=fun w1 h=>by
  have h1:=W8 b _ n w1 h
  rw [show (T.ZZ p n (T.changed ⟨kd,p,n,la,nm,ss⟩ 8)).Zq n=m from PU] at h1
  exact h1
 have oP:=size_setCell V ⟨g,q*4+2,none⟩ (.int .i64 la)
 have y0:(V.setCell ⟨g,q*4+2,none⟩ (.int .i64 la)).cell? ⟨g,q*4,none⟩=some (.int .i64 T.Z8[q].peer):=(World.cell?_setCell_other _ _ _ _ Zi).trans d0
 have y1:(V.setCell ⟨g,q*4+2,none⟩ (.int .i64 la)).cell? ⟨g,q*4+1,none⟩=some (.int .i64 T.Z8[q].source):=(World.cell?_setCell_other _ _ _ _ Zi).trans d1
 have y2:(V.setCell ⟨g,q*4+2,none⟩ (.int .i64 la)).cell? ⟨g,q*4+2,none⟩=some (.int .i64 ({T.Z8[q] with want:=la}).want):=um _ _ _ d2
 have y3:(V.setCell ⟨g,q*4+2,none⟩ (.int .i64 la)).cell? ⟨g,q*4+3,none⟩=some (.bool ({T.Z8[q] with want:=la}).ZR):=(World.cell?_setCell_other _ _ _ _ Zi).trans d3
 have yb:(V.setCell ⟨g,q*4+2,none⟩ (.int .i64 la)).cell? ⟨w,2,none⟩=some (.int .i64 n):=(World.cell?_setCell_other _ _ _ _ (by simp <;> omega)).trans x2
 generalize V.setCell ⟨g,q*4+2,none⟩ (.int .i64 la)=W5 at *
 have ht:=Z5 W5 (.cells (Qi 8 p n la 0) 158)
 rw [oP] at ht
 have Vb:=Z' W5 (.cells (Qi 8 p n la 0) 158)
 have rP:=iK.alloc (.cells (Qi 8 p n la 0) 158)
 have rL:=iL.alloc Zo (.cells (Qi 8 p n la 0) 158)
 have mz:=(Vb.cell (p:=⟨g,q*4,none⟩) UL).trans y0
 have y1':=(Vb.cell (p:=⟨g,q*4+1,none⟩) UL).trans y1
 have mA:=(Vb.cell (p:=⟨g,q*4+2,none⟩) UL).trans y2
 have mB:=(Vb.cell (p:=⟨g,q*4+3,none⟩) UL).trans y3
 have fL:=(Vb.cell (p:=⟨w,2,none⟩) UL).trans yb
 have oQ:=World.size_alloc W5 (.cells (Qi 8 p n la 0) 158)
 generalize W5.alloc (.cells (Qi 8 p n la 0) 158)=W6 at *
 clear y0 y1 y2 y3 yb Vb iK iL d0 d1 d2 d3 z0 x1 x2 x3
 have AU:=Zh rP
 have wW:=Zh rL
 obtain ⟨pv6,sv6,uv6,Og,Kh⟩:=rP.Wh
 obtain ⟨P,Vd,Wp,Ef⟩:=Kh.Yv
 have Vd:P.map Prod.fst=T.Yv:=Vd
 have r8:m<P.length:=by rw [←Vd,UM] at hm;exact hm
 have lH:=Wp.len
 have s1:=cell_of Og 1
 obtain ⟨pa,pc,rfl,-,-⟩:=id Wp
 obtain ⟨gs,RD,e4,SK⟩:=U3 Wp Zo
 subst e4
 obtain ⟨-,-,-,s4⟩:=SK m P[m] (VQ r8)
 have lI:P[m].1.ZE=T.Yv[m].ZE:=by
  have:(P.map Prod.fst)[m]?=T.Yv[m]?:=by rw [Vd]
  rw [List.getElem?_map,VQ r8,VQ hm] at this
  simp at this;rw [this]
 rw [lI] at s4
 have jk:gs<W6.heap.size:=by
  exact gP
 have fo:(m:Int)<(P.length:Int):=Gs.2 r8
 have vE:(0:Int)≤(m:Int):=yF m
 have Fl:b<W6.heap.size:=by omega
 have xK:g<W6.heap.size:=by omega
 have Fj:V.heap.size<W6.heap.size:=by omega
 have jR:w.heap.size<W6.heap.size:=by omega
 have Ih:w.heap.size≤W6.heap.size:=by omega
 have Jw:n=T.Z8[q].source:=eF.o.2.symm
 clear Og Kh Vd Wp Ef SK lI rP rL PU
 generalize P.length=NP at *
 generalize T.Yv[m].ZE=mu at *
 have VH:Hid (∀ w',Below W6 W6 w'→(w'.cell? ⟨g,q*4,none⟩=some (.int .i64 T.Z8[q].peer)∧w'.cell? ⟨g,q*4+1,none⟩=some (.int .i64 T.Z8[q].source)∧w'.cell? ⟨g,q*4+2,none⟩=some (.int .i64 ({T.Z8[q] with want:=la}).want)∧w'.cell? ⟨g,q*4+3,none⟩=some (.bool ({T.Z8[q] with want:=la}).ZR))∧(w'.cell? ⟨V,0,none⟩=some (.int .i64 8)∧w'.cell? ⟨V,1,none⟩=some (.int .i64 p)∧w'.cell? ⟨V,2,none⟩=some (.int .i64 n)∧w'.cell? ⟨V,3,none⟩=some (.int .i64 la)∧w'.cell? ⟨V,4,none⟩=some (.int .u32 0))∧w'.cell? ⟨w,2,none⟩=some (.int .i64 n)∧w'.cell? ⟨b,1,none⟩=some (.slice (some ⟨gs,RD,none⟩) NP pc)∧w'.cell? ⟨gs,RD+m*4+3,none⟩=some (.bool mu)∧Below W6 W6 w'):=fun w' h=>
  ⟨⟨(h.cell (p:=⟨g,q*4,none⟩) xK).trans mz,(h.cell (p:=⟨g,q*4+1,none⟩) xK).trans y1',(h.cell (p:=⟨g,q*4+2,none⟩) xK).trans mA,(h.cell (p:=⟨g,q*4+3,none⟩) xK).trans mB⟩,⟨(h.cell (p:=⟨V,0,none⟩) Fj).trans (cell_of ht 0),(h.cell (p:=⟨V,1,none⟩) Fj).trans (cell_of ht 1),(h.cell (p:=⟨V,2,none⟩) Fj).trans (cell_of ht 2),(h.cell (p:=⟨V,3,none⟩) Fj).trans (cell_of ht 3),(h.cell (p:=⟨V,4,none⟩) Fj).trans (cell_of ht 4)⟩,(h.cell (p:=⟨w,2,none⟩) jR).trans fL,(h.cell (p:=⟨b,1,none⟩) Fl).trans s1,(h.cell (p:=⟨gs,RD+m*4+3,none⟩) jk).trans s4,h⟩
 have uJ:Hid ((T.changed ⟨kd,p,n,la,nm,ss⟩ 8).ZR=({T.Z8[q] with want:=la}).ZR):=by show _=_;rw [HX.o]
 generalize T.ZZ p n (T.changed ⟨kd,p,n,la,nm,ss⟩ 8)=T1 at *
 generalize T1.ask (T.changed ⟨kd,p,n,la,nm,ss⟩ 8)=TA at *
 generalize (T.changed ⟨kd,p,n,la,nm,ss⟩ 8).ZR=cpau at *
 clear ht mz y1' mA s1 s4 hm Gn N9 HX Lc gD Hc ZC Ll Sn JI TL mG ET wZ Rp HR CB pT eF Dw
 dsimp only at VH Gj mB uJ
 generalize T.Z8[q].source=xs at *
 generalize T.Z8[q].peer=xp at *
 generalize T.Z8[q].ZR=xq at *
 subst Jw
 have Ri:Below W6 W6 W6:=YG _ _
 cases xq
 ·have uf:Hid (T.change ⟨kd,p,n,la,nm,ss⟩ 8=(⟨8,p,n,la,0⟩ :: (if mu then [] else [TA]),T1)):=by show _=_;rw [ej.o,uJ.o,mQ.o];simp
  go_upto_region 13 with fail
  go_cut [73] (fun s73 wx=>s73 = .bool mu∧Below W6 W6 wx)
  case first=>
   go_region_held3 (fun w'=>(w'.cell? ⟨g,q*4,none⟩=some (.int .i64 xp)∧w'.cell? ⟨g,q*4+1,none⟩=some (.int .i64 n)∧w'.cell? ⟨g,q*4+2,none⟩=some (.int .i64 la)∧w'.cell? ⟨g,q*4+3,none⟩=some (.bool false))∧(w'.cell? ⟨V,0,none⟩=some (.int .i64 8)∧w'.cell? ⟨V,1,none⟩=some (.int .i64 p)∧w'.cell? ⟨V,2,none⟩=some (.int .i64 n)∧w'.cell? ⟨V,3,none⟩=some (.int .i64 la)∧w'.cell? ⟨V,4,none⟩=some (.int .u32 0))∧w'.cell? ⟨w,2,none⟩=some (.int .i64 n)∧w'.cell? ⟨b,1,none⟩=some (.slice (some ⟨gs,RD,none⟩) NP pc)∧w'.cell? ⟨gs,RD+m*4+3,none⟩=some (.bool mu)∧Below W6 W6 w') (first|(exact VH.o _ Xo)|(exact VH.o _ (Below.drew Xo))|go_keep) (first|(go_at_call 49;go_split_ands;(with_reducible refine Calls.mono (CS.o _ (AU.o.below Xo)) ?_);rintro e V2 ⟨rfl,OE⟩;have Oe:=Heap.Below.call Xo (ZB _) OE)|fail)
   all_goals (go_wp2_with fail;go_meet;exact ⟨rfl,by first|with_reducible assumption|exact Below.drew Xo⟩)
  case rest=>
   clear Ri
   obtain ⟨rfl,OP⟩:=hcut
   obtain ⟨W7,rfl⟩:∃ W7:World,W7=wc:=⟨_,rfl⟩
   cases mu
   ·go_upto_region 15 with fail
    go_cut [6] (fun s6 wx=>YM wx s6 [⟨8,p,n,la,0⟩,TA]∧Below W6 W6 wx)
    case first=>
     go_region_held3 (fun w'=>(w'.cell? ⟨g,q*4,none⟩=some (.int .i64 xp)∧w'.cell? ⟨g,q*4+1,none⟩=some (.int .i64 n)∧w'.cell? ⟨g,q*4+2,none⟩=some (.int .i64 la)∧w'.cell? ⟨g,q*4+3,none⟩=some (.bool false))∧(w'.cell? ⟨V,0,none⟩=some (.int .i64 8)∧w'.cell? ⟨V,1,none⟩=some (.int .i64 p)∧w'.cell? ⟨V,2,none⟩=some (.int .i64 n)∧w'.cell? ⟨V,3,none⟩=some (.int .i64 la)∧w'.cell? ⟨V,4,none⟩=some (.int .u32 0))∧w'.cell? ⟨w,2,none⟩=some (.int .i64 n)∧w'.cell? ⟨b,1,none⟩=some (.slice (some ⟨gs,RD,none⟩) NP pc)∧w'.cell? ⟨gs,RD+m*4+3,none⟩=some (.bool false)∧Below W6 W6 w') (first|(exact VH.o _ Xo)|(exact VH.o _ (Below.drew Xo))|(exact VH.o _ (Heap.Below.alloc' Xo (ZB _) _))|(exact VH.o _ (Heap.Below.alloc' (Below.drew Xo) (ZB _) _))|go_keep) (first|(go_at_call 99;go_split_ands;(with_reducible refine Calls.mono (Gj.o _ (AU.o.below Xo)) ?_);rintro e V3 ⟨rfl,OE⟩;have GA:=Heap.Below.call Xo (ZB _) OE;unfold WG)|fail)
     go_wp2_with fail
     go_meet
     exact ⟨YL _ _ 2 _ ([⟨8,p,n,la,0⟩,TA].flatMap Z_) Zd rfl,GA.alloc GA.size _⟩
    case rest=>
     exact kR
   ·obtain ⟨-,⟨t0,t1,t2,t3,t4⟩,-⟩:=VH.o _ OP
    have dN:V.heap.size<W7.heap.size:=Px Fj OP.size
    go_wp2
    go_ret
    rw [uf.o]
    exact ⟨⟨_,rfl,YL _ _ 1 _ ([⟨8,p,n,la,0⟩].flatMap Z_) Zd rfl⟩,(AU.o.below OP).alloc _,(wW.o.trans ((Fr.Z9 _ OP).mono Ih (fun _ _ h=>h))).alloc (Rh Ih OP.size) _⟩
 ·have uf:Hid (T.change ⟨kd,p,n,la,nm,ss⟩ 8=([⟨8,p,n,la,0⟩],T1)):=by show _=_;rw [ej.o,uJ.o];simp
  obtain ⟨⟨-,-,-,z3⟩,⟨t0,t1,t2,t3,t4⟩,-⟩:=VH.o _ Ri
  clear Ri oQ oP
  go_wp2_with fail
  go_quiet (fail)
  go_wp2
  go_ret
  rw [uf.o]
  exact ⟨⟨_,rfl,YL _ _ 1 _ ([⟨8,p,n,la,0⟩].flatMap Z_) Zd rfl⟩,(AU.o.below (below_drewN (YG _ _) _)).alloc _,(Fr.drewN wW.o _).alloc Ih _⟩
end Go.Proofs.Rm

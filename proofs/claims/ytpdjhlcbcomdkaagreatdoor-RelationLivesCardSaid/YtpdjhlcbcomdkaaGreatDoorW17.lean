/- Part of a proof. -/
import Derived.Test.YtpdjhlcbcomdkaaGreatDoorW16
set_option linter.unusedVariables false
set_option linter.unusedSimpArgs false
set_option maxRecDepth 100000
set_option maxHeartbeats 16000000
open Go Go.Q Go.Qr
namespace Go.Proofs.Rm
open Go.RowKit Go.Proofs.Heap Go.Proofs.Mem
theorem Lc {α:Type} (f:α→List Value) (c:Nat) (hc:∀ x,(f x).length=c) {i:Nat} (hi:i<c) (u:Value) (y:α):∀ (l:List α) (k:Nat) (hk:k<l.length),f y=(f l[k]).set i u→(l.flatMap f).set (k*c+i) u=(l.set k y).flatMap f
 | [],k,hk,_=>by simp at hk
 | x :: l,0,_,h=>by
  rw [List.flatMap_cons,List.set_append_left _ _ (by rw [hc];omega),List.set_cons_zero,List.flatMap_cons]
  simp only [List.getElem_cons_zero] at h
  rw [h,Nat.zero_mul,QP]
 | x :: l,k+1,hk,h=>by
  have ih:=Lc f c hc hi u y l k (by simpa using hk) (by simpa using h)
  rw [List.flatMap_cons,List.set_append_right _ _ (by rw [hc,Nat.succ_mul];omega),List.set_cons_succ,List.flatMap_cons,hc,show (k+1)*c+i-c=k*c+i by rw [Nat.succ_mul];omega,ih]
theorem Ck (b:Nat) (T:ZN) (o:Op) (sa ba:Option Addr) (sl sc bl bc:Nat) (w:World) (hR:ZL w b T) (Vq:T.Small) (hs:0≤T.Zb o.peer o.source) (P5:0≤T.YU o.source) (Th:0≤(T.changed o 4).want∧(T.changed o 4).want<(T.Wc o.source).ss.length) :
  Calls Tryz.prog 102 (Q1 (some ⟨b,0,none⟩) (Jm o sa sl sc ba bl bc) 4) w fun e w'=>(∃ v,e = .returned v∧YG w' v (T.change o 4).1)∧ZL w' b (T.change o 4).2∧Fr w (· = b) w w':=by
 obtain ⟨kd,p,n,la,nm,ss⟩:=o
 dsimp only at hs P5 Th ⊢
 have hb:=hR.lt
 obtain ⟨q,hq,MN,IV,-⟩:=XL hs
 have MN:T.Zb p n=q:=MN
 have CB:=Zh (fun (w1:World) (h:ZL w1 b T)=>Wy b T p n w1 h)
 rw [MN] at CB
 have HX:Hid (T.changed ⟨kd,p,n,la,nm,ss⟩ 4={T.Z5[q] with ZR:=true}):=by
  show _=_
  unfold ZN.changed ZN.OZ
  dsimp only
  rw [MN,Wv,Nv hq]
  rfl
 have HT1:Hid (T.ZP p n (T.changed ⟨kd,p,n,la,nm,ss⟩ 4)={T with Z5:=T.Z5.set q ({T.Z5[q] with ZR:=true})}):=by
  show _=_
  rw [HX.o];unfold ZN.ZP;rw [MN,Wv]
 have ai:Hid (T.change ⟨kd,p,n,la,nm,ss⟩ 4=(⟨4,p,n,0,0⟩ :: (if (T.changed ⟨kd,p,n,la,nm,ss⟩ 4).ZR || ((T.ZP p n (T.changed ⟨kd,p,n,la,nm,ss⟩ 4)).Wc n).ZG then [] else [(T.ZP p n (T.changed ⟨kd,p,n,la,nm,ss⟩ 4)).ask (T.changed ⟨kd,p,n,la,nm,ss⟩ 4)]),T.ZP p n (T.changed ⟨kd,p,n,la,nm,ss⟩ 4))):=rfl
 obtain ⟨pv,sv,uv,Yp,XM⟩:=hR.VC
 have UI:=XM.Z5
 have Uz:=Vq.Z5
 unfold small at Uz
 have HR:=Zh hR
 have uG:=Zh UI
 have c2:=cell_of Yp 2
 have f2:=hR.YC 2
 obtain ⟨ua,LY,rfl,Pq,-,-⟩:=id UI
 have Fi:=Zh P5
 have Nt:=Zh Th
 have Fh:=Zh (Lc Zv 4 (fun _=>rfl) (i:=3) Zd (.bool true) ({T.Z5[q] with ZR:=true}) T.Z5 q hq rfl)
 have BO:=Zh (TH T.Z5)
 have QW:Hid (Row (w.alloc (.cells (Qa kd p n la (str nm) sa sl sc ba bl bc) 32)) 105 (.slice ua T.Z5.length LY) T.Z5.length (T.Z5.flatMap Zv)):=UI.below (Z' _ _)
 have c2a:=((Z' w (.cells (Qa kd p n la (str nm) sa sl sc ba bl bc) 32)).cell (p:=⟨b,2,none⟩) hb).trans c2
 have f2a:=((Z' w (.cells (Qa kd p n la (str nm) sa sl sc ba bl bc) 32)).frozen (p:=⟨b,2,none⟩) hb).trans f2
 have ig:=hR.below (Z' w (.cells (Qa kd p n la (str nm) sa sl sc ba bl bc) 32))
 have hWs:=World.size_alloc w (.cells (Qa kd p n la (str nm) sa sl sc ba bl bc) 32)
 have hBX:=Z7 w (.cells (Qa kd p n la (str nm) sa sl sc ba bl bc) 32)
 have Ta:Hid (Below w w (w.alloc (.cells (Qa kd p n la (str nm) sa sl sc ba bl bc) 32))):=Z' _ _
 clear Yp XM UI hR Vq hs MN c2 f2 P5 Th
 go_enter Tryz.func102,Tryz.ntmps102
 go_upto_region 1 with fail
 generalize w.alloc (.cells (Qa kd p n la (str nm) sa sl sc ba bl bc) 32)=W0 at *
 go_wp2_with (at_builtin;refine YV rfl (.const (.slice none 0 0)) (.tmp 13) 49 rfl (w.heap.size+1) Ur (.slice none 0 0) 0 [] rfl (Ua _ _ _ _) (.slice ua T.Z5.length LY) T.Z5.length (T.Z5.flatMap Zv) rfl QW.o BO.o (TI _) Zo Zo Zo (fun v1 w2 rQ HG=>?_);have HQ:Hid (w2.ownsRow (w.heap.size+1) 105 4 v1 T.Z5.length (T.Z5.flatMap Zv)):=nM;clear rQ;have Yt:Below (w.heap.size+1) W0 w2:=(YH _ _).grown HG.o Zo (fun k hk=>by cases hk);have c2:=(Yt.cell (p:=⟨b,2,none⟩) Uj).trans c2a;have f2:=(Yt.frozen (p:=⟨b,2,none⟩) Uj).trans f2a;obtain ⟨g,cp,cur,hv,wW,JM⟩:=PC HQ.o Zo;subst hv)
 have zi:=Zh Yt
 have RU:=Zh ((ig.below (Yt.mono Zo)).LN (Row.Z6 HQ.o))
 have Lp:g≠b:=by omega
 have Ui:=Zh (WJ HQ.o ((Fr.refl w2.heap.size (· = b) w2).setAt 2 (.slice (some ⟨g,0,none⟩) T.Z5.length cp)) (fun k hk=>by omega))
 have IH:Hid (Fr (w.heap.size+1) (· = b) W0 (w2.setCell ⟨b,2,none⟩ (.slice (some ⟨g,0,none⟩) T.Z5.length cp))):=(Fr.Z8 _ Yt).setAt _ _
 have k2:(w2.setCell ⟨b,2,none⟩ (.slice (some ⟨g,0,none⟩) T.Z5.length cp)).cell? ⟨b,2,none⟩=some (.slice (some ⟨g,0,none⟩) T.Z5.length cp):=rp _ _ _ c2
 have kU:g<w2.heap.size:=by
  exact Yt9
 have wV:(w2.setCell ⟨b,2,none⟩ (.slice (some ⟨g,0,none⟩) T.Z5.length cp)).heap[g]?=some (.cells cur 105):=by simp [World.setCell,Array.getElem?_modify,Lp.symm,JM]
 have QV:=size_setCell w2 ⟨b,2,none⟩ (.slice (some ⟨g,0,none⟩) T.Z5.length cp)
 have ir:=Yt.size
 clear c2 f2 JM Yt ig
 generalize w2.setCell ⟨b,2,none⟩ (.slice (some ⟨g,0,none⟩) T.Z5.length cp)=W1 at *
 have vd:∀ j,W1.frozen? ⟨g,j,none⟩=false:=fun j=>by simp [World.frozen?,wV]
 obtain ⟨g',off',e1,yT⟩:=O0 (Row.Z6 Ui.o) Zo
 cases e1
 obtain ⟨d0,d1,d2,d3⟩:=yT q T.Z5[q] (U7 hq)
 rw [QP] at d0 d1 d2 d3
 have Wb:=fun (j:Nat)=>(IH.o.cell (p:=⟨w,j,none⟩) Uj Uj).trans (cell_of hBX j)
 have x1:W1.cell? ⟨w,1,none⟩=some (.int .i64 p):=Wb 1
 have x2:W1.cell? ⟨w,2,none⟩=some (.int .i64 n):=Wb 2
 have x3:W1.cell? ⟨w,3,none⟩=some (.int .i64 la):=Wb 3
 have ND:w.heap.size<W1.heap.size:=by omega
 have pN:b<W1.heap.size:=by omega
 have Pt:g<W1.heap.size:=by omega
 have Zz:Hid (∀ w',Below W1 W1 w'→w'.cell? ⟨b,2,none⟩=some (.slice (some ⟨g,0,none⟩) T.Z5.length cp)∧w'.cell? ⟨w,1,none⟩=some (.int .i64 p)∧w'.cell? ⟨w,2,none⟩=some (.int .i64 n)∧Below W1 W1 w'):=fun w' h=>
  ⟨(h.cell (p:=⟨b,2,none⟩) pN).trans k2,(h.cell (p:=⟨w,1,none⟩) ND).trans x1,(h.cell (p:=⟨w,2,none⟩) ND).trans x2,h⟩
 have KV:Hid (∀ w',Below W1 W1 w'→(w'.cell? ⟨w,1,none⟩=some (.int .i64 p)∧w'.cell? ⟨w,2,none⟩=some (.int .i64 n)∧w'.cell? ⟨w,3,none⟩=some (.int .i64 la))∧(w'.cell? ⟨g,q*4,none⟩=some (.int .i64 T.Z5[q].peer)∧w'.cell? ⟨g,q*4+1,none⟩=some (.int .i64 T.Z5[q].source)∧w'.cell? ⟨g,q*4+2,none⟩=some (.int .i64 T.Z5[q].want)∧w'.cell? ⟨g,q*4+3,none⟩=some (.bool T.Z5[q].ZR))∧w'.frozen? ⟨g,q*4+3,none⟩=false):=fun w' h=>
  ⟨⟨(h.cell (p:=⟨w,1,none⟩) ND).trans x1,(h.cell (p:=⟨w,2,none⟩) ND).trans x2,(h.cell (p:=⟨w,3,none⟩) ND).trans x3⟩,⟨(h.cell (p:=⟨g,q*4,none⟩) Pt).trans d0,(h.cell (p:=⟨g,q*4+1,none⟩) Pt).trans d1,(h.cell (p:=⟨g,q*4+2,none⟩) Pt).trans d2,(h.cell (p:=⟨g,q*4+3,none⟩) Pt).trans d3⟩,(h.frozen (p:=⟨g,q*4+3,none⟩) Pt).trans (vd _)⟩
 have Ga:Hid (∀ w',Below W1 W1 w'→ZL (w'.setCell ⟨g,q*4+3,none⟩ (.bool true)) b (T.ZP p n (T.changed ⟨kd,p,n,la,nm,ss⟩ 4))∧Fr w (· = b) w (w'.setCell ⟨g,q*4+3,none⟩ (.bool true))):=fun w' h=>by
  have hr:=RU.o.below h
  have lg:=Zy Ui.o h
  have hf:Fr w' (· = g) w' (w'.setCell ⟨g,q*4+3,none⟩ (.bool true)):=(Fr.refl _ _ _).setAt _ _
  have rA:w'.heap[g]?=some (.cells cur 105):=by
   rw [h.block g Pt];exact wV
  have Ip:∀ e,105≠e→∀ k c fr,k=g→w'.heap[k]?≠some (.cells c e fr):=by
   intro e he k c fr hk
   subst hk
   rw [rA]
   exact Ux he
  have GS:=hr.lt
  have tB:=Vf lg Zo (i:=q*4+3) (.bool true)
  exact cE
 have mC:Hid (∀ w1,Below W1 W1 w1→Calls Tryz.prog 51 (Qs (some ⟨b,0,none⟩) p n) w1 fun e w'=>e = .returned (.int .i64 q)∧Below w1 w1 w'):=fun w1 h=>CB.o w1 (by have:=RU.o.below h;exact this)
 have N9:Below W1 W1 W1:=YH _ _
 have hqI:(q:Int)<(T.Z5.length:Int):=Ou.2 hq
 have hq0:(0:Int)≤(q:Int):=rq q
 have M5:Hid ((T.changed ⟨kd,p,n,la,nm,ss⟩ 4).peer=T.Z5[q].peer∧(T.changed ⟨kd,p,n,la,nm,ss⟩ 4).source=n):=by
  show _∧_
  rw [HX.o]
  simp at IV
  exact ⟨rfl,IV.2⟩
 have aC:Hid (T.Z5[q].peer=p∧T.Z5[q].source=n):=by simp at IV;exact IV
 clear d0 d1 d2 d3 yT Wb x1 x2 x3 vd wV k2 HQ Ui Fh IV
 go_wp2_with fail
 go_region_held3 (fun w'=>w'.cell? ⟨b,2,none⟩=some (.slice (some ⟨g,0,none⟩) T.Z5.length cp)∧w'.cell? ⟨w,1,none⟩=some (.int .i64 p)∧w'.cell? ⟨w,2,none⟩=some (.int .i64 n)∧Below W1 W1 w') (first|(exact Zz.o _ WT)|(exact Zz.o _ (Below.drew WT))|go_keep) (first|(go_at_call 51;go_split_ands;(with_reducible refine Calls.mono (mC.o _ WT) ?_);rintro e V ⟨rfl,NY⟩;have Nz:=Heap.Below.call WT (Zw _) NY)|fail)
 obtain ⟨⟨x1,x2,x3⟩,⟨d0,d1,d2,d3⟩,z0⟩:=KV.o _ Nz
 have tE:=Nz.size
 have DV:=Zh Nz
 have hgV:¬g=V.heap.size:=by omega
 have hgV2:¬V.heap.size=g:=by omega
 have hzV:w.heap.size<V.heap.size:=by omega
 have hzg:g<V.heap.size:=by omega
 have rA:¬g=w.heap.size:=by omega
 have hgw2:¬w.heap.size=g:=by omega
 have hVw:¬V.heap.size=w.heap.size:=by omega
 clear N9 NY Nz
 go_wp2_with fail
 obtain ⟨dB,dC⟩:=Ga.o V DV.o
 go_ret
 have qZ:Hid (T.change ⟨kd,p,n,la,nm,ss⟩ 4=([⟨4,p,n,0,0⟩],T.ZP p n (T.changed ⟨kd,p,n,la,nm,ss⟩ 4))):=by show _=_;rw [ai.o,HX.o];simp
 rw [qZ.o]
 exact ⟨⟨_,rfl,Yu _ _ 1 _ ([⟨4,p,n,0,0⟩].flatMap Z9) Zd Zi⟩,(dB.alloc _).alloc _,(dC.alloc Uq _).alloc Uq _⟩
theorem Fp (b:Nat) (T:ZN) (o:Op) (sa ba:Option Addr) (sl sc bl bc:Nat) (w:World) (hR:ZL w b T) (Vq:T.Small) (hs:0≤T.Zb o.peer o.source) (P5:0≤T.YU o.source) (Th:0≤(T.changed o 5).want∧(T.changed o 5).want<(T.Wc o.source).ss.length) :
  Calls Tryz.prog 102 (Q1 (some ⟨b,0,none⟩) (Jm o sa sl sc ba bl bc) 5) w fun e w'=>(∃ v,e = .returned v∧YG w' v (T.change o 5).1)∧ZL w' b (T.change o 5).2∧Fr w (· = b) w w':=by
 obtain ⟨kd,p,n,la,nm,ss⟩:=o
 dsimp only at hs P5 Th ⊢
 have hb:=hR.lt
 obtain ⟨q,hq,MN,IV,-⟩:=XL hs
 have MN:T.Zb p n=q:=MN
 have CB:=Zh (fun (w1:World) (h:ZL w1 b T)=>Wy b T p n w1 h)
 rw [MN] at CB
 have HX:Hid (T.changed ⟨kd,p,n,la,nm,ss⟩ 5={T.Z5[q] with ZR:=false}):=by
  show _=_
  unfold ZN.changed ZN.OZ
  dsimp only
  rw [MN,Wv,Nv hq]
  rfl
 have HT1:Hid (T.ZP p n (T.changed ⟨kd,p,n,la,nm,ss⟩ 5)={T with Z5:=T.Z5.set q ({T.Z5[q] with ZR:=false})}):=by
  show _=_
  rw [HX.o];unfold ZN.ZP;rw [MN,Wv]
 have ai:Hid (T.change ⟨kd,p,n,la,nm,ss⟩ 5=(⟨5,p,n,0,0⟩ :: (if (T.changed ⟨kd,p,n,la,nm,ss⟩ 5).ZR || ((T.ZP p n (T.changed ⟨kd,p,n,la,nm,ss⟩ 5)).Wc n).ZG then [] else [(T.ZP p n (T.changed ⟨kd,p,n,la,nm,ss⟩ 5)).ask (T.changed ⟨kd,p,n,la,nm,ss⟩ 5)]),T.ZP p n (T.changed ⟨kd,p,n,la,nm,ss⟩ 5))):=rfl
 obtain ⟨pv,sv,uv,Yp,XM⟩:=hR.VC
 have UI:=XM.Z5
 have Uz:=Vq.Z5
 unfold small at Uz
 have HR:=Zh hR
 have uG:=Zh UI
 have c2:=cell_of Yp 2
 have f2:=hR.YC 2
 obtain ⟨ua,LY,rfl,Pq,-,-⟩:=id UI
 have Fi:=Zh P5
 have Nt:=Zh Th
 have Fh:=Zh (Lc Zv 4 (fun _=>rfl) (i:=3) Zd (.bool false) ({T.Z5[q] with ZR:=false}) T.Z5 q hq rfl)
 have BO:=Zh (TH T.Z5)
 have QW:Hid (Row (w.alloc (.cells (Qa kd p n la (str nm) sa sl sc ba bl bc) 32)) 105 (.slice ua T.Z5.length LY) T.Z5.length (T.Z5.flatMap Zv)):=UI.below (Z' _ _)
 have c2a:=((Z' w (.cells (Qa kd p n la (str nm) sa sl sc ba bl bc) 32)).cell (p:=⟨b,2,none⟩) hb).trans c2
 have f2a:=((Z' w (.cells (Qa kd p n la (str nm) sa sl sc ba bl bc) 32)).frozen (p:=⟨b,2,none⟩) hb).trans f2
 have ig:=hR.below (Z' w (.cells (Qa kd p n la (str nm) sa sl sc ba bl bc) 32))
 have hWs:=World.size_alloc w (.cells (Qa kd p n la (str nm) sa sl sc ba bl bc) 32)
 have hBX:=Z7 w (.cells (Qa kd p n la (str nm) sa sl sc ba bl bc) 32)
 have Ta:Hid (Below w w (w.alloc (.cells (Qa kd p n la (str nm) sa sl sc ba bl bc) 32))):=Z' _ _
 clear Yp XM UI hR Vq hs MN c2 f2 P5 Th
 go_enter Tryz.func102,Tryz.ntmps102
 go_upto_region 1 with fail
 generalize w.alloc (.cells (Qa kd p n la (str nm) sa sl sc ba bl bc) 32)=W0 at *
 go_wp2_with (at_builtin;refine YV rfl (.const (.slice none 0 0)) (.tmp 13) 49 rfl (w.heap.size+1) Ur (.slice none 0 0) 0 [] rfl (Ua _ _ _ _) (.slice ua T.Z5.length LY) T.Z5.length (T.Z5.flatMap Zv) rfl QW.o BO.o (TI _) Zo Zo Zo (fun v1 w2 rQ HG=>?_);have HQ:Hid (w2.ownsRow (w.heap.size+1) 105 4 v1 T.Z5.length (T.Z5.flatMap Zv)):=nM;clear rQ;have Yt:Below (w.heap.size+1) W0 w2:=(YH _ _).grown HG.o Zo (fun k hk=>by cases hk);have c2:=(Yt.cell (p:=⟨b,2,none⟩) Uj).trans c2a;have f2:=(Yt.frozen (p:=⟨b,2,none⟩) Uj).trans f2a;obtain ⟨g,cp,cur,hv,wW,JM⟩:=PC HQ.o Zo;subst hv)
 have zi:=Zh Yt
 have RU:=Zh ((ig.below (Yt.mono Zo)).LN (Row.Z6 HQ.o))
 have Lp:g≠b:=by omega
 have Ui:=Zh (WJ HQ.o ((Fr.refl w2.heap.size (· = b) w2).setAt 2 (.slice (some ⟨g,0,none⟩) T.Z5.length cp)) (fun k hk=>by omega))
 have IH:Hid (Fr (w.heap.size+1) (· = b) W0 (w2.setCell ⟨b,2,none⟩ (.slice (some ⟨g,0,none⟩) T.Z5.length cp))):=(Fr.Z8 _ Yt).setAt _ _
 have k2:(w2.setCell ⟨b,2,none⟩ (.slice (some ⟨g,0,none⟩) T.Z5.length cp)).cell? ⟨b,2,none⟩=some (.slice (some ⟨g,0,none⟩) T.Z5.length cp):=rp _ _ _ c2
 have kU:g<w2.heap.size:=by
  exact Yt9
 have wV:(w2.setCell ⟨b,2,none⟩ (.slice (some ⟨g,0,none⟩) T.Z5.length cp)).heap[g]?=some (.cells cur 105):=by simp [World.setCell,Array.getElem?_modify,Lp.symm,JM]
 have QV:=size_setCell w2 ⟨b,2,none⟩ (.slice (some ⟨g,0,none⟩) T.Z5.length cp)
 have ir:=Yt.size
 clear c2 f2 JM Yt ig
 generalize w2.setCell ⟨b,2,none⟩ (.slice (some ⟨g,0,none⟩) T.Z5.length cp)=W1 at *
 have vd:∀ j,W1.frozen? ⟨g,j,none⟩=false:=fun j=>by simp [World.frozen?,wV]
 obtain ⟨g',off',e1,yT⟩:=O0 (Row.Z6 Ui.o) Zo
 cases e1
 obtain ⟨d0,d1,d2,d3⟩:=yT q T.Z5[q] (U7 hq)
 rw [QP] at d0 d1 d2 d3
 have Wb:=fun (j:Nat)=>(IH.o.cell (p:=⟨w,j,none⟩) Uj Uj).trans (cell_of hBX j)
 have x1:W1.cell? ⟨w,1,none⟩=some (.int .i64 p):=Wb 1
 have x2:W1.cell? ⟨w,2,none⟩=some (.int .i64 n):=Wb 2
 have x3:W1.cell? ⟨w,3,none⟩=some (.int .i64 la):=Wb 3
 have ND:w.heap.size<W1.heap.size:=by omega
 have pN:b<W1.heap.size:=by omega
 have Pt:g<W1.heap.size:=by omega
 have Zz:Hid (∀ w',Below W1 W1 w'→w'.cell? ⟨b,2,none⟩=some (.slice (some ⟨g,0,none⟩) T.Z5.length cp)∧w'.cell? ⟨w,1,none⟩=some (.int .i64 p)∧w'.cell? ⟨w,2,none⟩=some (.int .i64 n)∧Below W1 W1 w'):=fun w' h=>
  ⟨(h.cell (p:=⟨b,2,none⟩) pN).trans k2,(h.cell (p:=⟨w,1,none⟩) ND).trans x1,(h.cell (p:=⟨w,2,none⟩) ND).trans x2,h⟩
 have KV:Hid (∀ w',Below W1 W1 w'→(w'.cell? ⟨w,1,none⟩=some (.int .i64 p)∧w'.cell? ⟨w,2,none⟩=some (.int .i64 n)∧w'.cell? ⟨w,3,none⟩=some (.int .i64 la))∧(w'.cell? ⟨g,q*4,none⟩=some (.int .i64 T.Z5[q].peer)∧w'.cell? ⟨g,q*4+1,none⟩=some (.int .i64 T.Z5[q].source)∧w'.cell? ⟨g,q*4+2,none⟩=some (.int .i64 T.Z5[q].want)∧w'.cell? ⟨g,q*4+3,none⟩=some (.bool T.Z5[q].ZR))∧w'.frozen? ⟨g,q*4+3,none⟩=false):=fun w' h=>
  ⟨⟨(h.cell (p:=⟨w,1,none⟩) ND).trans x1,(h.cell (p:=⟨w,2,none⟩) ND).trans x2,(h.cell (p:=⟨w,3,none⟩) ND).trans x3⟩,⟨(h.cell (p:=⟨g,q*4,none⟩) Pt).trans d0,(h.cell (p:=⟨g,q*4+1,none⟩) Pt).trans d1,(h.cell (p:=⟨g,q*4+2,none⟩) Pt).trans d2,(h.cell (p:=⟨g,q*4+3,none⟩) Pt).trans d3⟩,(h.frozen (p:=⟨g,q*4+3,none⟩) Pt).trans (vd _)⟩
 have Ga:Hid (∀ w',Below W1 W1 w'→ZL (w'.setCell ⟨g,q*4+3,none⟩ (.bool false)) b (T.ZP p n (T.changed ⟨kd,p,n,la,nm,ss⟩ 5))∧Fr w (· = b) w (w'.setCell ⟨g,q*4+3,none⟩ (.bool false))):=fun w' h=>by
  have hr:=RU.o.below h
  have lg:=Zy Ui.o h
  have hf:Fr w' (· = g) w' (w'.setCell ⟨g,q*4+3,none⟩ (.bool false)):=(Fr.refl _ _ _).setAt _ _
  have rA:w'.heap[g]?=some (.cells cur 105):=by
   rw [h.block g Pt];exact wV
  have Ip:∀ e,105≠e→∀ k c fr,k=g→w'.heap[k]?≠some (.cells c e fr):=by
   intro e he k c fr hk
   subst hk
   rw [rA]
   exact Ux he
  have GS:=hr.lt
  have tB:=Vf lg Zo (i:=q*4+3) (.bool false)
  exact cE
 have mC:Hid (∀ w1,Below W1 W1 w1→Calls Tryz.prog 51 (Qs (some ⟨b,0,none⟩) p n) w1 fun e w'=>e = .returned (.int .i64 q)∧Below w1 w1 w'):=fun w1 h=>CB.o w1 (by have:=RU.o.below h;exact this)
 have N9:Below W1 W1 W1:=YH _ _
 have hqI:(q:Int)<(T.Z5.length:Int):=Ou.2 hq
 have hq0:(0:Int)≤(q:Int):=rq q
 have M5:Hid ((T.changed ⟨kd,p,n,la,nm,ss⟩ 5).peer=T.Z5[q].peer∧(T.changed ⟨kd,p,n,la,nm,ss⟩ 5).source=n):=by
  show _∧_
  rw [HX.o]
  simp at IV
  exact ⟨rfl,IV.2⟩
 have aC:Hid (T.Z5[q].peer=p∧T.Z5[q].source=n):=by simp at IV;exact IV
 clear d0 d1 d2 d3 yT Wb x1 x2 x3 vd wV k2 HQ Ui Fh IV
 go_wp2_with fail
 go_region_held3 (fun w'=>w'.cell? ⟨b,2,none⟩=some (.slice (some ⟨g,0,none⟩) T.Z5.length cp)∧w'.cell? ⟨w,1,none⟩=some (.int .i64 p)∧w'.cell? ⟨w,2,none⟩=some (.int .i64 n)∧Below W1 W1 w') (first|(exact Zz.o _ WT)|(exact Zz.o _ (Below.drew WT))|go_keep) (first|(go_at_call 51;go_split_ands;(with_reducible refine Calls.mono (mC.o _ WT) ?_);rintro e V ⟨rfl,NY⟩;have Nz:=Heap.Below.call WT (Zw _) NY)|fail)
 obtain ⟨⟨x1,x2,x3⟩,⟨d0,d1,d2,d3⟩,z0⟩:=KV.o _ Nz
 have tE:=Nz.size
 have DV:=Zh Nz
 have hgV:¬g=V.heap.size:=by omega
 have hgV2:¬V.heap.size=g:=by omega
 have hzV:w.heap.size<V.heap.size:=by omega
 have hzg:g<V.heap.size:=by omega
 have rA:¬g=w.heap.size:=by omega
 have hgw2:¬w.heap.size=g:=by omega
 have hVw:¬V.heap.size=w.heap.size:=by omega
 clear N9 NY Nz
 go_wp2_with fail
 obtain ⟨dB,dC⟩:=Ga.o V DV.o
 obtain ⟨m,hm,Pp,-,-⟩:=XL Fi.o
 have Pp:T.YU n=m:=Pp
 have qX:Hid (((T.ZP p n (T.changed ⟨kd,p,n,la,nm,ss⟩ 5)).Wc n).ZG=T.Yk[m].ZG):=by
  show (T.Yk.getD (T.YU n).toNat UO).ZG=_
  rw [Pp,Wv,Rw,U7 hm];rfl
 have Fe:Hid (∀ w1,ZL w1 b (T.ZP p n (T.changed ⟨kd,p,n,la,nm,ss⟩ 5))→Calls Tryz.prog 99 (Qi (some ⟨b,0,none⟩) (Qk T.Z5[q].peer T.Z5[q].source ({T.Z5[q] with ZR:=false}).want ({T.Z5[q] with ZR:=false}).ZR)) w1 fun e w'=>e = .returned (V8 ((T.ZP p n (T.changed ⟨kd,p,n,la,nm,ss⟩ 5)).ask (T.changed ⟨kd,p,n,la,nm,ss⟩ 5)))∧Below w1 w1 w'):=fun w1 h=>by
  have h1:=Ii b (T.ZP p n (T.changed ⟨kd,p,n,la,nm,ss⟩ 5)) (T.changed ⟨kd,p,n,la,nm,ss⟩ 5) w1 h (by rw [M5.o.2];exact Fi.o) (by rw [M5.o.2];exact Nt.o)
  rw [HX.o] at h1 ⊢
  exact h1
 have CS:Hid (∀ w1,ZL w1 b (T.ZP p n (T.changed ⟨kd,p,n,la,nm,ss⟩ 5))→Calls Tryz.prog 49 (Qj (some ⟨b,0,none⟩) n) w1 fun e w'=>e = .returned (.int .i64 m)∧Below w1 w1 w'):=fun w1 h=>by
  have h1:=V6 b _ n w1 h
  rw [show (T.ZP p n (T.changed ⟨kd,p,n,la,nm,ss⟩ 5)).YU n=m from Pp] at h1
  exact h1
 have lA:=size_setCell V ⟨g,q*4+3,none⟩ (.bool false)
 have y0:(V.setCell ⟨g,q*4+3,none⟩ (.bool false)).cell? ⟨g,q*4,none⟩=some (.int .i64 T.Z5[q].peer):=(World.cell?_setCell_other _ _ _ _ Zi).trans d0
 have y1:(V.setCell ⟨g,q*4+3,none⟩ (.bool false)).cell? ⟨g,q*4+1,none⟩=some (.int .i64 T.Z5[q].source):=(World.cell?_setCell_other _ _ _ _ Zi).trans d1
 have y2:(V.setCell ⟨g,q*4+3,none⟩ (.bool false)).cell? ⟨g,q*4+2,none⟩=some (.int .i64 ({T.Z5[q] with ZR:=false}).want):=(World.cell?_setCell_other _ _ _ _ Zi).trans d2
 have y3:(V.setCell ⟨g,q*4+3,none⟩ (.bool false)).cell? ⟨g,q*4+3,none⟩=some (.bool ({T.Z5[q] with ZR:=false}).ZR):=rp _ _ _ d3
 have yb:(V.setCell ⟨g,q*4+3,none⟩ (.bool false)).cell? ⟨w,2,none⟩=some (.int .i64 n):=(World.cell?_setCell_other _ _ _ _ (by simp <;> omega)).trans x2
 generalize V.setCell ⟨g,q*4+3,none⟩ (.bool false)=W5 at *
 have ht:=Z7 W5 (.cells (Qh 5 p n 0 0) 158)
 rw [lA] at ht
 have UF:=Z' W5 (.cells (Qh 5 p n 0 0) 158)
 have oU:=dB.alloc (.cells (Qh 5 p n 0 0) 158)
 have hU:=dC.alloc Zo (.cells (Qh 5 p n 0 0) 158)
 have iW:=(UF.cell (p:=⟨g,q*4,none⟩) Uj).trans y0
 have y1':=(UF.cell (p:=⟨g,q*4+1,none⟩) Uj).trans y1
 have lR:=(UF.cell (p:=⟨g,q*4+2,none⟩) Uj).trans y2
 have iX:=(UF.cell (p:=⟨g,q*4+3,none⟩) Uj).trans y3
 have bz:=(UF.cell (p:=⟨w,2,none⟩) Uj).trans yb
 have lB:=World.size_alloc W5 (.cells (Qh 5 p n 0 0) 158)
 generalize W5.alloc (.cells (Qh 5 p n 0 0) 158)=W6 at *
 clear y0 y1 y2 y3 yb UF dB dC d0 d1 d2 d3 z0 x1 x2 x3
 have zy:=Zh oU
 have fO:=Zh hU
 obtain ⟨pv6,sv6,uv6,NA,JP⟩:=oU.VC
 obtain ⟨P,TF,U6,Db⟩:=JP.Yk
 have TF:P.map Prod.fst=T.Yk:=TF
 have po:m<P.length:=by rw [←TF,Tx] at hm;exact hm
 have h_:=U6.len
 have s1:=cell_of NA 1
 obtain ⟨pa,pc,rfl,-,-⟩:=id U6
 obtain ⟨gs,Rj,e4,Tz⟩:=SF U6 Zo
 subst e4
 obtain ⟨-,-,-,s4⟩:=Tz m P[m] (U7 po)
 have ib:P[m].1.ZG=T.Yk[m].ZG:=by
  have:(P.map Prod.fst)[m]?=T.Yk[m]?:=by rw [TF]
  rw [List.getElem?_map,U7 po,U7 hm] at this
  simp at this;rw [this]
 rw [ib] at s4
 have dW:gs<W6.heap.size:=by
  exact cA
 have iH:(m:Int)<(P.length:Int):=Ou.2 po
 have td:(0:Int)≤(m:Int):=rq m
 have Ep:b<W6.heap.size:=by omega
 have u_:g<W6.heap.size:=by omega
 have En:V.heap.size<W6.heap.size:=by omega
 have eU:w.heap.size<W6.heap.size:=by omega
 have GY:w.heap.size≤W6.heap.size:=by omega
 have Iq:n=T.Z5[q].source:=aC.o.2.symm
 clear NA JP TF U6 Db Tz ib oU hU Pp
 generalize P.length=NP at *
 generalize T.Yk[m].ZG=mu at *
 have U5:Hid (∀ w',Below W6 W6 w'→(w'.cell? ⟨g,q*4,none⟩=some (.int .i64 T.Z5[q].peer)∧w'.cell? ⟨g,q*4+1,none⟩=some (.int .i64 T.Z5[q].source)∧w'.cell? ⟨g,q*4+2,none⟩=some (.int .i64 ({T.Z5[q] with ZR:=false}).want)∧w'.cell? ⟨g,q*4+3,none⟩=some (.bool ({T.Z5[q] with ZR:=false}).ZR))∧(w'.cell? ⟨V,0,none⟩=some (.int .i64 5)∧w'.cell? ⟨V,1,none⟩=some (.int .i64 p)∧w'.cell? ⟨V,2,none⟩=some (.int .i64 n)∧w'.cell? ⟨V,3,none⟩=some (.int .i64 0)∧w'.cell? ⟨V,4,none⟩=some (.int .u32 0))∧w'.cell? ⟨w,2,none⟩=some (.int .i64 n)∧w'.cell? ⟨b,1,none⟩=some (.slice (some ⟨gs,Rj,none⟩) NP pc)∧w'.cell? ⟨gs,Rj+m*4+3,none⟩=some (.bool mu)∧Below W6 W6 w'):=fun w' h=>
  ⟨⟨(h.cell (p:=⟨g,q*4,none⟩) u_).trans iW,(h.cell (p:=⟨g,q*4+1,none⟩) u_).trans y1',(h.cell (p:=⟨g,q*4+2,none⟩) u_).trans lR,(h.cell (p:=⟨g,q*4+3,none⟩) u_).trans iX⟩,⟨(h.cell (p:=⟨V,0,none⟩) En).trans (cell_of ht 0),(h.cell (p:=⟨V,1,none⟩) En).trans (cell_of ht 1),(h.cell (p:=⟨V,2,none⟩) En).trans (cell_of ht 2),(h.cell (p:=⟨V,3,none⟩) En).trans (cell_of ht 3),(h.cell (p:=⟨V,4,none⟩) En).trans (cell_of ht 4)⟩,(h.cell (p:=⟨w,2,none⟩) eU).trans bz,(h.cell (p:=⟨b,1,none⟩) Ep).trans s1,(h.cell (p:=⟨gs,Rj+m*4+3,none⟩) dW).trans s4,h⟩
 have rP:Hid ((T.changed ⟨kd,p,n,la,nm,ss⟩ 5).ZR=({T.Z5[q] with ZR:=false}).ZR):=by show _=_;rw [HX.o]
 generalize T.ZP p n (T.changed ⟨kd,p,n,la,nm,ss⟩ 5)=T1 at *
 generalize T1.ask (T.changed ⟨kd,p,n,la,nm,ss⟩ 5)=TA at *
 generalize (T.changed ⟨kd,p,n,la,nm,ss⟩ 5).ZR=cpau at *
 clear ht iW y1' lR s1 s4 hm Fi Nt HX M5 HT1 Ga Zz KV RU IH Ta zi DV uG QW HR CB mC aC BO
 dsimp only at U5 Fe iX rP
 generalize T.Z5[q].source=xs at *
 generalize T.Z5[q].peer=xp at *
 generalize T.Z5[q].want=xw at *
 subst Iq
 have N9:Below W6 W6 W6:=YH _ _
 have qZ:Hid (T.change ⟨kd,p,n,la,nm,ss⟩ 5=(⟨5,p,n,0,0⟩ :: (if mu then [] else [TA]),T1)):=by show _=_;rw [ai.o,rP.o,qX.o];simp
 go_upto_region 13 with fail
 go_cut [73] (fun s73 wx=>s73 = .bool mu∧Below W6 W6 wx)
 case first=>
  go_region_held3 (fun w'=>(w'.cell? ⟨g,q*4,none⟩=some (.int .i64 xp)∧w'.cell? ⟨g,q*4+1,none⟩=some (.int .i64 n)∧w'.cell? ⟨g,q*4+2,none⟩=some (.int .i64 xw)∧w'.cell? ⟨g,q*4+3,none⟩=some (.bool false))∧(w'.cell? ⟨V,0,none⟩=some (.int .i64 5)∧w'.cell? ⟨V,1,none⟩=some (.int .i64 p)∧w'.cell? ⟨V,2,none⟩=some (.int .i64 n)∧w'.cell? ⟨V,3,none⟩=some (.int .i64 0)∧w'.cell? ⟨V,4,none⟩=some (.int .u32 0))∧w'.cell? ⟨w,2,none⟩=some (.int .i64 n)∧w'.cell? ⟨b,1,none⟩=some (.slice (some ⟨gs,Rj,none⟩) NP pc)∧w'.cell? ⟨gs,Rj+m*4+3,none⟩=some (.bool mu)∧Below W6 W6 w') (first|(exact U5.o _ WT)|(exact U5.o _ (Below.drew WT))|go_keep) (first|(go_at_call 49;go_split_ands;(with_reducible refine Calls.mono (CS.o _ (zy.o.below WT)) ?_);rintro e V2 ⟨rfl,NY⟩;have Nz:=Heap.Below.call WT (Zw _) NY)|fail)
  all_goals (go_wp2_with fail;go_meet;exact ⟨rfl,by first|with_reducible assumption|exact Below.drew WT⟩)
 case rest=>
  clear N9
  obtain ⟨rfl,Oa⟩:=hcut
  obtain ⟨W7,rfl⟩:∃ W7:World,W7=wc:=⟨_,rfl⟩
  cases mu
  ·go_upto_region 15 with fail
   go_cut [6] (fun s6 wx=>YG wx s6 [⟨5,p,n,0,0⟩,TA]∧Below W6 W6 wx)
   case first=>
    go_region_held3 (fun w'=>(w'.cell? ⟨g,q*4,none⟩=some (.int .i64 xp)∧w'.cell? ⟨g,q*4+1,none⟩=some (.int .i64 n)∧w'.cell? ⟨g,q*4+2,none⟩=some (.int .i64 xw)∧w'.cell? ⟨g,q*4+3,none⟩=some (.bool false))∧(w'.cell? ⟨V,0,none⟩=some (.int .i64 5)∧w'.cell? ⟨V,1,none⟩=some (.int .i64 p)∧w'.cell? ⟨V,2,none⟩=some (.int .i64 n)∧w'.cell? ⟨V,3,none⟩=some (.int .i64 0)∧w'.cell? ⟨V,4,none⟩=some (.int .u32 0))∧w'.cell? ⟨w,2,none⟩=some (.int .i64 n)∧w'.cell? ⟨b,1,none⟩=some (.slice (some ⟨gs,Rj,none⟩) NP pc)∧w'.cell? ⟨gs,Rj+m*4+3,none⟩=some (.bool false)∧Below W6 W6 w') (first|(exact U5.o _ WT)|(exact U5.o _ (Below.drew WT))|(exact U5.o _ (Heap.Below.alloc' WT (Zw _) _))|(exact U5.o _ (Heap.Below.alloc' (Below.drew WT) (Zw _) _))|go_keep) (first|(go_at_call 99;go_split_ands;(with_reducible refine Calls.mono (Fe.o _ (zy.o.below WT)) ?_);rintro e V3 ⟨rfl,NY⟩;have Fx:=Heap.Below.call WT (Zw _) NY;unfold V8)|fail)
    go_wp2_with fail
    go_meet
    exact ⟨Yu _ _ 2 _ ([⟨5,p,n,0,0⟩,TA].flatMap Z9) Zd rfl,Fx.alloc Fx.size _⟩
   case rest=>
    exact gA
  ·obtain ⟨-,⟨t0,t1,t2,t3,t4⟩,-⟩:=U5.o _ Oa
   have hzt:V.heap.size<W7.heap.size:=Pb En Oa.size
   go_wp2
   go_ret
   rw [qZ.o]
   exact ⟨⟨_,rfl,Yu _ _ 1 _ ([⟨5,p,n,0,0⟩].flatMap Z9) Zd rfl⟩,(zy.o.below Oa).alloc _,(fO.o.trans ((Fr.Z8 _ Oa).mono GY (fun _ _ h=>h))).alloc (PW GY Oa.size) _⟩
theorem zQ (b:Nat) (T:ZN) (o:Op) (sa ba:Option Addr) (sl sc bl bc:Nat) (w:World) (hR:ZL w b T) (Vq:T.Small) (hs:0≤T.Zb o.peer o.source) (P5:0≤T.YU o.source) (Th:0≤(T.changed o 8).want∧(T.changed o 8).want<(T.Wc o.source).ss.length) :
  Calls Tryz.prog 102 (Q1 (some ⟨b,0,none⟩) (Jm o sa sl sc ba bl bc) 8) w fun e w'=>(∃ v,e = .returned v∧YG w' v (T.change o 8).1)∧ZL w' b (T.change o 8).2∧Fr w (· = b) w w':=by
 obtain ⟨kd,p,n,la,nm,ss⟩:=o
 dsimp only at hs P5 Th ⊢
 have hb:=hR.lt
 obtain ⟨q,hq,MN,IV,-⟩:=XL hs
 have MN:T.Zb p n=q:=MN
 have CB:=Zh (fun (w1:World) (h:ZL w1 b T)=>Wy b T p n w1 h)
 rw [MN] at CB
 have HX:Hid (T.changed ⟨kd,p,n,la,nm,ss⟩ 8={T.Z5[q] with want:=la}):=by
  show _=_
  unfold ZN.changed ZN.OZ
  dsimp only
  rw [MN,Wv,Nv hq]
  rfl
 have HT1:Hid (T.ZP p n (T.changed ⟨kd,p,n,la,nm,ss⟩ 8)={T with Z5:=T.Z5.set q ({T.Z5[q] with want:=la})}):=by
  show _=_
  rw [HX.o];unfold ZN.ZP;rw [MN,Wv]
 have ai:Hid (T.change ⟨kd,p,n,la,nm,ss⟩ 8=(⟨8,p,n,la,0⟩ :: (if (T.changed ⟨kd,p,n,la,nm,ss⟩ 8).ZR || ((T.ZP p n (T.changed ⟨kd,p,n,la,nm,ss⟩ 8)).Wc n).ZG then [] else [(T.ZP p n (T.changed ⟨kd,p,n,la,nm,ss⟩ 8)).ask (T.changed ⟨kd,p,n,la,nm,ss⟩ 8)]),T.ZP p n (T.changed ⟨kd,p,n,la,nm,ss⟩ 8))):=rfl
 obtain ⟨pv,sv,uv,Yp,XM⟩:=hR.VC
 have UI:=XM.Z5
 have Uz:=Vq.Z5
 unfold small at Uz
 have HR:=Zh hR
 have uG:=Zh UI
 have c2:=cell_of Yp 2
 have f2:=hR.YC 2
 obtain ⟨ua,LY,rfl,Pq,-,-⟩:=id UI
 have Fi:=Zh P5
 have Nt:=Zh Th
 have Fh:=Zh (Lc Zv 4 (fun _=>rfl) (i:=2) Zd (.int .i64 la) ({T.Z5[q] with want:=la}) T.Z5 q hq rfl)
 have BO:=Zh (TH T.Z5)
 have QW:Hid (Row (w.alloc (.cells (Qa kd p n la (str nm) sa sl sc ba bl bc) 32)) 105 (.slice ua T.Z5.length LY) T.Z5.length (T.Z5.flatMap Zv)):=UI.below (Z' _ _)
 have c2a:=((Z' w (.cells (Qa kd p n la (str nm) sa sl sc ba bl bc) 32)).cell (p:=⟨b,2,none⟩) hb).trans c2
 have f2a:=((Z' w (.cells (Qa kd p n la (str nm) sa sl sc ba bl bc) 32)).frozen (p:=⟨b,2,none⟩) hb).trans f2
 have ig:=hR.below (Z' w (.cells (Qa kd p n la (str nm) sa sl sc ba bl bc) 32))
 have hWs:=World.size_alloc w (.cells (Qa kd p n la (str nm) sa sl sc ba bl bc) 32)
 have hBX:=Z7 w (.cells (Qa kd p n la (str nm) sa sl sc ba bl bc) 32)
 have Ta:Hid (Below w w (w.alloc (.cells (Qa kd p n la (str nm) sa sl sc ba bl bc) 32))):=Z' _ _
 clear Yp XM UI hR Vq hs MN c2 f2 P5 Th
 go_enter Tryz.func102,Tryz.ntmps102
 go_upto_region 1 with fail
 generalize w.alloc (.cells (Qa kd p n la (str nm) sa sl sc ba bl bc) 32)=W0 at *
 go_wp2_with (at_builtin;refine YV rfl (.const (.slice none 0 0)) (.tmp 13) 49 rfl (w.heap.size+1) Ur (.slice none 0 0) 0 [] rfl (Ua _ _ _ _) (.slice ua T.Z5.length LY) T.Z5.length (T.Z5.flatMap Zv) rfl QW.o BO.o (TI _) Zo Zo Zo (fun v1 w2 rQ HG=>?_);have HQ:Hid (w2.ownsRow (w.heap.size+1) 105 4 v1 T.Z5.length (T.Z5.flatMap Zv)):=nM;clear rQ;have Yt:Below (w.heap.size+1) W0 w2:=(YH _ _).grown HG.o Zo (fun k hk=>by cases hk);have c2:=(Yt.cell (p:=⟨b,2,none⟩) Uj).trans c2a;have f2:=(Yt.frozen (p:=⟨b,2,none⟩) Uj).trans f2a;obtain ⟨g,cp,cur,hv,wW,JM⟩:=PC HQ.o Zo;subst hv)
 have zi:=Zh Yt
 have RU:=Zh ((ig.below (Yt.mono Zo)).LN (Row.Z6 HQ.o))
 have Lp:g≠b:=by omega
 have Ui:=Zh (WJ HQ.o ((Fr.refl w2.heap.size (· = b) w2).setAt 2 (.slice (some ⟨g,0,none⟩) T.Z5.length cp)) (fun k hk=>by omega))
 have IH:Hid (Fr (w.heap.size+1) (· = b) W0 (w2.setCell ⟨b,2,none⟩ (.slice (some ⟨g,0,none⟩) T.Z5.length cp))):=(Fr.Z8 _ Yt).setAt _ _
 have k2:(w2.setCell ⟨b,2,none⟩ (.slice (some ⟨g,0,none⟩) T.Z5.length cp)).cell? ⟨b,2,none⟩=some (.slice (some ⟨g,0,none⟩) T.Z5.length cp):=rp _ _ _ c2
 have kU:g<w2.heap.size:=by
  exact Yt9
 have wV:(w2.setCell ⟨b,2,none⟩ (.slice (some ⟨g,0,none⟩) T.Z5.length cp)).heap[g]?=some (.cells cur 105):=by simp [World.setCell,Array.getElem?_modify,Lp.symm,JM]
 have QV:=size_setCell w2 ⟨b,2,none⟩ (.slice (some ⟨g,0,none⟩) T.Z5.length cp)
 have ir:=Yt.size
 clear c2 f2 JM Yt ig
 generalize w2.setCell ⟨b,2,none⟩ (.slice (some ⟨g,0,none⟩) T.Z5.length cp)=W1 at *
 have vd:∀ j,W1.frozen? ⟨g,j,none⟩=false:=fun j=>by simp [World.frozen?,wV]
 obtain ⟨g',off',e1,yT⟩:=O0 (Row.Z6 Ui.o) Zo
 cases e1
 obtain ⟨d0,d1,d2,d3⟩:=yT q T.Z5[q] (U7 hq)
 rw [QP] at d0 d1 d2 d3
 have Wb:=fun (j:Nat)=>(IH.o.cell (p:=⟨w,j,none⟩) Uj Uj).trans (cell_of hBX j)
 have x1:W1.cell? ⟨w,1,none⟩=some (.int .i64 p):=Wb 1
 have x2:W1.cell? ⟨w,2,none⟩=some (.int .i64 n):=Wb 2
 have x3:W1.cell? ⟨w,3,none⟩=some (.int .i64 la):=Wb 3
 have ND:w.heap.size<W1.heap.size:=by omega
 have pN:b<W1.heap.size:=by omega
 have Pt:g<W1.heap.size:=by omega
 have Zz:Hid (∀ w',Below W1 W1 w'→w'.cell? ⟨b,2,none⟩=some (.slice (some ⟨g,0,none⟩) T.Z5.length cp)∧w'.cell? ⟨w,1,none⟩=some (.int .i64 p)∧w'.cell? ⟨w,2,none⟩=some (.int .i64 n)∧Below W1 W1 w'):=fun w' h=>
  ⟨(h.cell (p:=⟨b,2,none⟩) pN).trans k2,(h.cell (p:=⟨w,1,none⟩) ND).trans x1,(h.cell (p:=⟨w,2,none⟩) ND).trans x2,h⟩
 have KV:Hid (∀ w',Below W1 W1 w'→(w'.cell? ⟨w,1,none⟩=some (.int .i64 p)∧w'.cell? ⟨w,2,none⟩=some (.int .i64 n)∧w'.cell? ⟨w,3,none⟩=some (.int .i64 la))∧(w'.cell? ⟨g,q*4,none⟩=some (.int .i64 T.Z5[q].peer)∧w'.cell? ⟨g,q*4+1,none⟩=some (.int .i64 T.Z5[q].source)∧w'.cell? ⟨g,q*4+2,none⟩=some (.int .i64 T.Z5[q].want)∧w'.cell? ⟨g,q*4+3,none⟩=some (.bool T.Z5[q].ZR))∧w'.frozen? ⟨g,q*4+2,none⟩=false):=fun w' h=>
  ⟨⟨(h.cell (p:=⟨w,1,none⟩) ND).trans x1,(h.cell (p:=⟨w,2,none⟩) ND).trans x2,(h.cell (p:=⟨w,3,none⟩) ND).trans x3⟩,⟨(h.cell (p:=⟨g,q*4,none⟩) Pt).trans d0,(h.cell (p:=⟨g,q*4+1,none⟩) Pt).trans d1,(h.cell (p:=⟨g,q*4+2,none⟩) Pt).trans d2,(h.cell (p:=⟨g,q*4+3,none⟩) Pt).trans d3⟩,(h.frozen (p:=⟨g,q*4+2,none⟩) Pt).trans (vd _)⟩
 have Ga:Hid (∀ w',Below W1 W1 w'→ZL (w'.setCell ⟨g,q*4+2,none⟩ (.int .i64 la)) b (T.ZP p n (T.changed ⟨kd,p,n,la,nm,ss⟩ 8))∧Fr w (· = b) w (w'.setCell ⟨g,q*4+2,none⟩ (.int .i64 la))):=fun w' h=>by
  have hr:=RU.o.below h
  have lg:=Zy Ui.o h
  have hf:Fr w' (· = g) w' (w'.setCell ⟨g,q*4+2,none⟩ (.int .i64 la)):=(Fr.refl _ _ _).setAt _ _
  have rA:w'.heap[g]?=some (.cells cur 105):=by
   rw [h.block g Pt];exact wV
  have Ip:∀ e,105≠e→∀ k c fr,k=g→w'.heap[k]?≠some (.cells c e fr):=by
   intro e he k c fr hk
   subst hk
   rw [rA]
   exact Ux he
  have GS:=hr.lt
  have tB:=Vf lg Zo (i:=q*4+2) (.int .i64 la)
  exact cE
 have mC:Hid (∀ w1,Below W1 W1 w1→Calls Tryz.prog 51 (Qs (some ⟨b,0,none⟩) p n) w1 fun e w'=>e = .returned (.int .i64 q)∧Below w1 w1 w'):=fun w1 h=>CB.o w1 (by have:=RU.o.below h;exact this)
 have N9:Below W1 W1 W1:=YH _ _
 have hqI:(q:Int)<(T.Z5.length:Int):=Ou.2 hq
 have hq0:(0:Int)≤(q:Int):=rq q
 have M5:Hid ((T.changed ⟨kd,p,n,la,nm,ss⟩ 8).peer=T.Z5[q].peer∧(T.changed ⟨kd,p,n,la,nm,ss⟩ 8).source=n):=by
  show _∧_
  rw [HX.o]
  simp at IV
  exact ⟨rfl,IV.2⟩
 have aC:Hid (T.Z5[q].peer=p∧T.Z5[q].source=n):=by simp at IV;exact IV
 clear d0 d1 d2 d3 yT Wb x1 x2 x3 vd wV k2 HQ Ui Fh IV
 go_wp2_with fail
 go_region_held3 (fun w'=>w'.cell? ⟨b,2,none⟩=some (.slice (some ⟨g,0,none⟩) T.Z5.length cp)∧w'.cell? ⟨w,1,none⟩=some (.int .i64 p)∧w'.cell? ⟨w,2,none⟩=some (.int .i64 n)∧Below W1 W1 w') (first|(exact Zz.o _ WT)|(exact Zz.o _ (Below.drew WT))|go_keep) (first|(go_at_call 51;go_split_ands;(with_reducible refine Calls.mono (mC.o _ WT) ?_);rintro e V ⟨rfl,NY⟩;have Nz:=Heap.Below.call WT (Zw _) NY)|fail)
 obtain ⟨⟨x1,x2,x3⟩,⟨d0,d1,d2,d3⟩,z0⟩:=KV.o _ Nz
 have tE:=Nz.size
 have DV:=Zh Nz
 have hgV:¬g=V.heap.size:=by omega
 have hgV2:¬V.heap.size=g:=by omega
 have hzV:w.heap.size<V.heap.size:=by omega
 have hzg:g<V.heap.size:=by omega
 have rA:¬g=w.heap.size:=by omega
 have hgw2:¬w.heap.size=g:=by omega
 have hVw:¬V.heap.size=w.heap.size:=by omega
 clear N9 NY Nz
 go_wp2_with fail
 obtain ⟨dB,dC⟩:=Ga.o V DV.o
 obtain ⟨m,hm,Pp,-,-⟩:=XL Fi.o
 have Pp:T.YU n=m:=Pp
 have qX:Hid (((T.ZP p n (T.changed ⟨kd,p,n,la,nm,ss⟩ 8)).Wc n).ZG=T.Yk[m].ZG):=by
  show (T.Yk.getD (T.YU n).toNat UO).ZG=_
  rw [Pp,Wv,Rw,U7 hm];rfl
 have Fe:Hid (∀ w1,ZL w1 b (T.ZP p n (T.changed ⟨kd,p,n,la,nm,ss⟩ 8))→Calls Tryz.prog 99 (Qi (some ⟨b,0,none⟩) (Qk T.Z5[q].peer T.Z5[q].source ({T.Z5[q] with want:=la}).want ({T.Z5[q] with want:=la}).ZR)) w1 fun e w'=>e = .returned (V8 ((T.ZP p n (T.changed ⟨kd,p,n,la,nm,ss⟩ 8)).ask (T.changed ⟨kd,p,n,la,nm,ss⟩ 8)))∧Below w1 w1 w'):=fun w1 h=>by
  have h1:=Ii b (T.ZP p n (T.changed ⟨kd,p,n,la,nm,ss⟩ 8)) (T.changed ⟨kd,p,n,la,nm,ss⟩ 8) w1 h (by rw [M5.o.2];exact Fi.o) (by rw [M5.o.2];exact Nt.o)
  rw [HX.o] at h1 ⊢
  exact h1
 have CS:Hid (∀ w1,ZL w1 b (T.ZP p n (T.changed ⟨kd,p,n,la,nm,ss⟩ 8))→Calls Tryz.prog 49 (Qj (some ⟨b,0,none⟩) n) w1 fun e w'=>e = .returned (.int .i64 m)∧Below w1 w1 w'):=fun w1 h=>by
  have h1:=V6 b _ n w1 h
  rw [show (T.ZP p n (T.changed ⟨kd,p,n,la,nm,ss⟩ 8)).YU n=m from Pp] at h1
  exact h1
 have lA:=size_setCell V ⟨g,q*4+2,none⟩ (.int .i64 la)
 have y0:(V.setCell ⟨g,q*4+2,none⟩ (.int .i64 la)).cell? ⟨g,q*4,none⟩=some (.int .i64 T.Z5[q].peer):=(World.cell?_setCell_other _ _ _ _ Zi).trans d0
 have y1:(V.setCell ⟨g,q*4+2,none⟩ (.int .i64 la)).cell? ⟨g,q*4+1,none⟩=some (.int .i64 T.Z5[q].source):=(World.cell?_setCell_other _ _ _ _ Zi).trans d1
 have y2:(V.setCell ⟨g,q*4+2,none⟩ (.int .i64 la)).cell? ⟨g,q*4+2,none⟩=some (.int .i64 ({T.Z5[q] with want:=la}).want):=rp _ _ _ d2
 have y3:(V.setCell ⟨g,q*4+2,none⟩ (.int .i64 la)).cell? ⟨g,q*4+3,none⟩=some (.bool ({T.Z5[q] with want:=la}).ZR):=(World.cell?_setCell_other _ _ _ _ Zi).trans d3
 have yb:(V.setCell ⟨g,q*4+2,none⟩ (.int .i64 la)).cell? ⟨w,2,none⟩=some (.int .i64 n):=(World.cell?_setCell_other _ _ _ _ (by simp <;> omega)).trans x2
 generalize V.setCell ⟨g,q*4+2,none⟩ (.int .i64 la)=W5 at *
 have ht:=Z7 W5 (.cells (Qh 8 p n la 0) 158)
 rw [lA] at ht
 have UF:=Z' W5 (.cells (Qh 8 p n la 0) 158)
 have oU:=dB.alloc (.cells (Qh 8 p n la 0) 158)
 have hU:=dC.alloc Zo (.cells (Qh 8 p n la 0) 158)
 have iW:=(UF.cell (p:=⟨g,q*4,none⟩) Uj).trans y0
 have y1':=(UF.cell (p:=⟨g,q*4+1,none⟩) Uj).trans y1
 have lR:=(UF.cell (p:=⟨g,q*4+2,none⟩) Uj).trans y2
 have iX:=(UF.cell (p:=⟨g,q*4+3,none⟩) Uj).trans y3
 have bz:=(UF.cell (p:=⟨w,2,none⟩) Uj).trans yb
 have lB:=World.size_alloc W5 (.cells (Qh 8 p n la 0) 158)
 generalize W5.alloc (.cells (Qh 8 p n la 0) 158)=W6 at *
 clear y0 y1 y2 y3 yb UF dB dC d0 d1 d2 d3 z0 x1 x2 x3
 have zy:=Zh oU
 have fO:=Zh hU
 obtain ⟨pv6,sv6,uv6,NA,JP⟩:=oU.VC
 obtain ⟨P,TF,U6,Db⟩:=JP.Yk
 have TF:P.map Prod.fst=T.Yk:=TF
 have po:m<P.length:=by rw [←TF,Tx] at hm;exact hm
 have h_:=U6.len
 have s1:=cell_of NA 1
 obtain ⟨pa,pc,rfl,-,-⟩:=id U6
 obtain ⟨gs,Rj,e4,Tz⟩:=SF U6 Zo
 subst e4
 obtain ⟨-,-,-,s4⟩:=Tz m P[m] (U7 po)
 have ib:P[m].1.ZG=T.Yk[m].ZG:=by
  have:(P.map Prod.fst)[m]?=T.Yk[m]?:=by rw [TF]
  rw [List.getElem?_map,U7 po,U7 hm] at this
  simp at this;rw [this]
 rw [ib] at s4
 have dW:gs<W6.heap.size:=by
  exact cA
 have iH:(m:Int)<(P.length:Int):=Ou.2 po
 have td:(0:Int)≤(m:Int):=rq m
 have Ep:b<W6.heap.size:=by omega
 have u_:g<W6.heap.size:=by omega
 have En:V.heap.size<W6.heap.size:=by omega
 have eU:w.heap.size<W6.heap.size:=by omega
 have GY:w.heap.size≤W6.heap.size:=by omega
 have Iq:n=T.Z5[q].source:=aC.o.2.symm
 clear NA JP TF U6 Db Tz ib oU hU Pp
 generalize P.length=NP at *
 generalize T.Yk[m].ZG=mu at *
 have U5:Hid (∀ w',Below W6 W6 w'→(w'.cell? ⟨g,q*4,none⟩=some (.int .i64 T.Z5[q].peer)∧w'.cell? ⟨g,q*4+1,none⟩=some (.int .i64 T.Z5[q].source)∧w'.cell? ⟨g,q*4+2,none⟩=some (.int .i64 ({T.Z5[q] with want:=la}).want)∧w'.cell? ⟨g,q*4+3,none⟩=some (.bool ({T.Z5[q] with want:=la}).ZR))∧(w'.cell? ⟨V,0,none⟩=some (.int .i64 8)∧w'.cell? ⟨V,1,none⟩=some (.int .i64 p)∧w'.cell? ⟨V,2,none⟩=some (.int .i64 n)∧w'.cell? ⟨V,3,none⟩=some (.int .i64 la)∧w'.cell? ⟨V,4,none⟩=some (.int .u32 0))∧w'.cell? ⟨w,2,none⟩=some (.int .i64 n)∧w'.cell? ⟨b,1,none⟩=some (.slice (some ⟨gs,Rj,none⟩) NP pc)∧w'.cell? ⟨gs,Rj+m*4+3,none⟩=some (.bool mu)∧Below W6 W6 w'):=fun w' h=>
  ⟨⟨(h.cell (p:=⟨g,q*4,none⟩) u_).trans iW,(h.cell (p:=⟨g,q*4+1,none⟩) u_).trans y1',(h.cell (p:=⟨g,q*4+2,none⟩) u_).trans lR,(h.cell (p:=⟨g,q*4+3,none⟩) u_).trans iX⟩,⟨(h.cell (p:=⟨V,0,none⟩) En).trans (cell_of ht 0),(h.cell (p:=⟨V,1,none⟩) En).trans (cell_of ht 1),(h.cell (p:=⟨V,2,none⟩) En).trans (cell_of ht 2),(h.cell (p:=⟨V,3,none⟩) En).trans (cell_of ht 3),(h.cell (p:=⟨V,4,none⟩) En).trans (cell_of ht 4)⟩,(h.cell (p:=⟨w,2,none⟩) eU).trans bz,(h.cell (p:=⟨b,1,none⟩) Ep).trans s1,(h.cell (p:=⟨gs,Rj+m*4+3,none⟩) dW).trans s4,h⟩
 have rP:Hid ((T.changed ⟨kd,p,n,la,nm,ss⟩ 8).ZR=({T.Z5[q] with want:=la}).ZR):=by show _=_;rw [HX.o]
 generalize T.ZP p n (T.changed ⟨kd,p,n,la,nm,ss⟩ 8)=T1 at *
 generalize T1.ask (T.changed ⟨kd,p,n,la,nm,ss⟩ 8)=TA at *
 generalize (T.changed ⟨kd,p,n,la,nm,ss⟩ 8).ZR=cpau at *
 clear ht iW y1' lR s1 s4 hm Fi Nt HX M5 HT1 Ga Zz KV RU IH Ta zi DV uG QW HR CB mC aC BO
 dsimp only at U5 Fe iX rP
 generalize T.Z5[q].source=xs at *
 generalize T.Z5[q].peer=xp at *
 generalize T.Z5[q].ZR=xq at *
 subst Iq
 have N9:Below W6 W6 W6:=YH _ _
 cases xq
 ·have qZ:Hid (T.change ⟨kd,p,n,la,nm,ss⟩ 8=(⟨8,p,n,la,0⟩ :: (if mu then [] else [TA]),T1)):=by show _=_;rw [ai.o,rP.o,qX.o];simp
  go_upto_region 13 with fail
  go_cut [73] (fun s73 wx=>s73 = .bool mu∧Below W6 W6 wx)
  case first=>
   go_region_held3 (fun w'=>(w'.cell? ⟨g,q*4,none⟩=some (.int .i64 xp)∧w'.cell? ⟨g,q*4+1,none⟩=some (.int .i64 n)∧w'.cell? ⟨g,q*4+2,none⟩=some (.int .i64 la)∧w'.cell? ⟨g,q*4+3,none⟩=some (.bool false))∧(w'.cell? ⟨V,0,none⟩=some (.int .i64 8)∧w'.cell? ⟨V,1,none⟩=some (.int .i64 p)∧w'.cell? ⟨V,2,none⟩=some (.int .i64 n)∧w'.cell? ⟨V,3,none⟩=some (.int .i64 la)∧w'.cell? ⟨V,4,none⟩=some (.int .u32 0))∧w'.cell? ⟨w,2,none⟩=some (.int .i64 n)∧w'.cell? ⟨b,1,none⟩=some (.slice (some ⟨gs,Rj,none⟩) NP pc)∧w'.cell? ⟨gs,Rj+m*4+3,none⟩=some (.bool mu)∧Below W6 W6 w') (first|(exact U5.o _ WT)|(exact U5.o _ (Below.drew WT))|go_keep) (first|(go_at_call 49;go_split_ands;(with_reducible refine Calls.mono (CS.o _ (zy.o.below WT)) ?_);rintro e V2 ⟨rfl,NY⟩;have Nz:=Heap.Below.call WT (Zw _) NY)|fail)
   all_goals (go_wp2_with fail;go_meet;exact ⟨rfl,by first|with_reducible assumption|exact Below.drew WT⟩)
  case rest=>
   clear N9
   obtain ⟨rfl,Oa⟩:=hcut
   obtain ⟨W7,rfl⟩:∃ W7:World,W7=wc:=⟨_,rfl⟩
   cases mu
   ·go_upto_region 15 with fail
    go_cut [6] (fun s6 wx=>YG wx s6 [⟨8,p,n,la,0⟩,TA]∧Below W6 W6 wx)
    case first=>
     go_region_held3 (fun w'=>(w'.cell? ⟨g,q*4,none⟩=some (.int .i64 xp)∧w'.cell? ⟨g,q*4+1,none⟩=some (.int .i64 n)∧w'.cell? ⟨g,q*4+2,none⟩=some (.int .i64 la)∧w'.cell? ⟨g,q*4+3,none⟩=some (.bool false))∧(w'.cell? ⟨V,0,none⟩=some (.int .i64 8)∧w'.cell? ⟨V,1,none⟩=some (.int .i64 p)∧w'.cell? ⟨V,2,none⟩=some (.int .i64 n)∧w'.cell? ⟨V,3,none⟩=some (.int .i64 la)∧w'.cell? ⟨V,4,none⟩=some (.int .u32 0))∧w'.cell? ⟨w,2,none⟩=some (.int .i64 n)∧w'.cell? ⟨b,1,none⟩=some (.slice (some ⟨gs,Rj,none⟩) NP pc)∧w'.cell? ⟨gs,Rj+m*4+3,none⟩=some (.bool false)∧Below W6 W6 w') (first|(exact U5.o _ WT)|(exact U5.o _ (Below.drew WT))|(exact U5.o _ (Heap.Below.alloc' WT (Zw _) _))|(exact U5.o _ (Heap.Below.alloc' (Below.drew WT) (Zw _) _))|go_keep) (first|(go_at_call 99;go_split_ands;(with_reducible refine Calls.mono (Fe.o _ (zy.o.below WT)) ?_);rintro e V3 ⟨rfl,NY⟩;have Fx:=Heap.Below.call WT (Zw _) NY;unfold V8)|fail)
     go_wp2_with fail
     go_meet
     exact ⟨Yu _ _ 2 _ ([⟨8,p,n,la,0⟩,TA].flatMap Z9) Zd rfl,Fx.alloc Fx.size _⟩
    case rest=>
     exact gA
   ·obtain ⟨-,⟨t0,t1,t2,t3,t4⟩,-⟩:=U5.o _ Oa
    have hzt:V.heap.size<W7.heap.size:=Pb En Oa.size
    go_wp2
    go_ret
    rw [qZ.o]
    exact ⟨⟨_,rfl,Yu _ _ 1 _ ([⟨8,p,n,la,0⟩].flatMap Z9) Zd rfl⟩,(zy.o.below Oa).alloc _,(fO.o.trans ((Fr.Z8 _ Oa).mono GY (fun _ _ h=>h))).alloc (PW GY Oa.size) _⟩
 ·have qZ:Hid (T.change ⟨kd,p,n,la,nm,ss⟩ 8=([⟨8,p,n,la,0⟩],T1)):=by show _=_;rw [ai.o,rP.o];simp
  obtain ⟨⟨-,-,-,z3⟩,⟨t0,t1,t2,t3,t4⟩,-⟩:=U5.o _ N9
  clear N9 lB lA
  go_wp2_with fail
  go_quiet (fail)
  go_wp2
  go_ret
  rw [qZ.o]
  exact ⟨⟨_,rfl,Yu _ _ 1 _ ([⟨8,p,n,la,0⟩].flatMap Z9) Zd rfl⟩,(zy.o.below (below_drewN (YH _ _) _)).alloc _,(Fr.drewN fO.o _).alloc GY _⟩
end Go.Proofs.Rm

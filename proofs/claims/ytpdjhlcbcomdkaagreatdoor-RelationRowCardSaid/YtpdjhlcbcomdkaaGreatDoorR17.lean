/- Part of a proof. -/
import Derived.Test.YtpdjhlcbcomdkaaGreatDoorR16
set_option linter.unusedVariables false
set_option linter.unusedSimpArgs false
set_option maxRecDepth 100000
set_option maxHeartbeats 16000000
open Go Go.Q Go.Qr
namespace Go.Proofs.Rm
open Go.RowKit Go.Proofs.Heap Go.Proofs.Mem
theorem KY {α:Type} (f:α→List Value) (c:Nat) (hc:∀ x,(f x).length=c) {i:Nat} (hi:i<c) (u:Value) (y:α):∀ (l:List α) (k:Nat) (hk:k<l.length),f y=(f l[k]).set i u→(l.flatMap f).set (k*c+i) u=(l.set k y).flatMap f
 | [],k,hk,_=>by simp at hk
 | x :: l,0,_,h=>by
  rw [List.flatMap_cons,List.set_append_left _ _ (by rw [hc];omega),List.set_cons_zero,List.flatMap_cons];simp only [List.getElem_cons_zero] at h;rw [h,Nat.zero_mul,QD]
 | x :: l,k+1,hk,h=>by
  have ih:=KY f c hc hi u y l k (by simpa using hk) (by simpa using h);rw [List.flatMap_cons,List.set_append_right _ _ (by rw [hc,Nat.succ_mul];omega),List.set_cons_succ,List.flatMap_cons,hc,show (k+1)*c+i-c=k*c+i by rw [Nat.succ_mul];omega,ih]
theorem BV (b:Nat) (T:ZN) (o:Op) (sa ba:Option Addr) (sl sc bl bc:Nat) (w:World) (hR:ZL w b T) (Vl:T.Small) (hs:0≤T.Y9 o.peer o.source) (PH:0≤T.YU o.source) (Ta:0≤(T.changed o 4).want∧(T.changed o 4).want<(T.Wb o.source).ss.length) :
  Calls Tryz.prog 102 (Q4 (some ⟨b,0,none⟩) (Jo o sa sl sc ba bl bc) 4) w fun e w'=>(∃ v,e = .returned v∧YF w' v (T.change o 4).1)∧ZL w' b (T.change o 4).2∧Fr w (· = b) w w':=by
 obtain ⟨kd,p,n,la,nm,ss⟩:=o;dsimp only at hs PH Ta ⊢;have hb:=hR.lt;obtain ⟨q,hq,My,IA,-⟩:=XI hs;have My:T.Y9 p n=q:=My;have CB:=Zh (fun (w1:World) (h:ZL w1 b T)=>Wv b T p n w1 h);rw [My] at CB
 have HX:Hid (T.changed ⟨kd,p,n,la,nm,ss⟩ 4={T.Z0[q] with ZQ:=true}):=by
  show _=_;unfold ZN.changed ZN.OD;dsimp only;rw [My,Wz,Ni hq];rfl
 have HT1:Hid (T.ZP p n (T.changed ⟨kd,p,n,la,nm,ss⟩ 4)={T with Z0:=T.Z0.set q ({T.Z0[q] with ZQ:=true})}):=by
  show _=_;rw [HX.o];unfold ZN.ZP;rw [My,Wz]
 have HCH:Hid (T.change ⟨kd,p,n,la,nm,ss⟩ 4=(⟨4,p,n,0,0⟩ :: (if (T.changed ⟨kd,p,n,la,nm,ss⟩ 4).ZQ || ((T.ZP p n (T.changed ⟨kd,p,n,la,nm,ss⟩ 4)).Wb n).ZE then [] else [(T.ZP p n (T.changed ⟨kd,p,n,la,nm,ss⟩ 4)).ask (T.changed ⟨kd,p,n,la,nm,ss⟩ 4)]),T.ZP p n (T.changed ⟨kd,p,n,la,nm,ss⟩ 4))):=rfl;obtain ⟨pv,sv,uv,Yn,XJ⟩:=hR.Vw;have UA:=XJ.Z0;have Uw:=Vl.Z0;unfold small at Uw;have HR:=Zh hR;have uf:=Zh UA;have c2:=cell_of Yn 2;have f2:=hR.Yz 2;obtain ⟨ua,LF,rfl,O9,-,-⟩:=id UA;have E3:=Zh PH;have Ng:=Zh Ta;have E2:=Zh (KY Zt 4 (fun _=>rfl) (i:=3) Zd (.bool true) ({T.Z0[q] with ZQ:=true}) T.Z0 q hq rfl);have Bu:=Zh (Tv T.Z0);have QK:Hid (Row (w.alloc (.cells (Qa kd p n la (str nm) sa sl sc ba bl bc) 32)) 105 (.slice ua T.Z0.length LF) T.Z0.length (T.Z0.flatMap Zt)):=UA.below (Z' _ _);have c2a:=((Z' w (.cells (Qa kd p n la (str nm) sa sl sc ba bl bc) 32)).cell (p:=⟨b,2,none⟩) hb).trans c2;have f2a:=((Z' w (.cells (Qa kd p n la (str nm) sa sl sc ba bl bc) 32)).frozen (p:=⟨b,2,none⟩) hb).trans f2;have gy:=hR.below (Z' w (.cells (Qa kd p n la (str nm) sa sl sc ba bl bc) 32));have hWs:=World.size_alloc w (.cells (Qa kd p n la (str nm) sa sl sc ba bl bc) 32);have hBX:=Z8 w (.cells (Qa kd p n la (str nm) sa sl sc ba bl bc) 32);have S5:Hid (Below w w (w.alloc (.cells (Qa kd p n la (str nm) sa sl sc ba bl bc) 32))):=Z' _ _
 clear Yn XJ UA hR Vl hs My c2 f2 PH Ta;go_enter Tryz.func102,Tryz.ntmps102;go_upto_region 1 with fail
 generalize w.alloc (.cells (Qa kd p n la (str nm) sa sl sc ba bl bc) 32)=W0 at *
 go_wp2_with (at_builtin;refine YV rfl (.const (.slice none 0 0)) (.tmp 13) 49 rfl (w.heap.size+1) Uh (.slice none 0 0) 0 [] rfl (TY _ _ _ _) (.slice ua T.Z0.length LF) T.Z0.length (T.Z0.flatMap Zt) rfl QK.o Bu.o (Tw _) Zo Zo Zo (fun v1 w2 rh HG=>?_);have HQ:Hid (w2.ownsRow (w.heap.size+1) 105 4 v1 T.Z0.length (T.Z0.flatMap Zt)):=mU;clear rh;have Yq:Below (w.heap.size+1) W0 w2:=(YJ _ _).grown HG.o Zo (fun k hk=>by cases hk);have c2:=(Yq.cell (p:=⟨b,2,none⟩) T_).trans c2a;have f2:=(Yq.frozen (p:=⟨b,2,none⟩) T_).trans f2a;obtain ⟨g,cp,cur,hv,wC,JB⟩:=Pj HQ.o Zo;subst hv)
 have yJ:=Zh Yq;have Ry:=Zh ((gy.below (Yq.mono Zo)).Lu (Row.Z6 HQ.o));have K6:g≠b:=by omega
 have T9:=Zh (WG HQ.o ((Fr.refl w2.heap.size (· = b) w2).setAt 2 (.slice (some ⟨g,0,none⟩) T.Z0.length cp)) (fun k hk=>by omega));have Io:Hid (Fr (w.heap.size+1) (· = b) W0 (w2.setCell ⟨b,2,none⟩ (.slice (some ⟨g,0,none⟩) T.Z0.length cp))):=(Fr.Z7 _ Yq).setAt _ _;have k2:(w2.setCell ⟨b,2,none⟩ (.slice (some ⟨g,0,none⟩) T.Z0.length cp)).cell? ⟨b,2,none⟩=some (.slice (some ⟨g,0,none⟩) T.Z0.length cp):=qC _ _ _ c2
 have j6:g<w2.heap.size:=by
  exact Yt9
 have wz:(w2.setCell ⟨b,2,none⟩ (.slice (some ⟨g,0,none⟩) T.Z0.length cp)).heap[g]?=some (.cells cur 105):=by simp [World.setCell,Array.getElem?_modify,K6.symm,JB]
 have QJ:=size_setCell w2 ⟨b,2,none⟩ (.slice (some ⟨g,0,none⟩) T.Z0.length cp);have gF:=Yq.size;clear c2 f2 JB Yq gy;generalize w2.setCell ⟨b,2,none⟩ (.slice (some ⟨g,0,none⟩) T.Z0.length cp)=W1 at *
 have uJ:∀ j,W1.frozen? ⟨g,j,none⟩=false:=fun j=>by simp [World.frozen?,wz]
 obtain ⟨g',off',e1,yA⟩:=OE (Row.Z6 T9.o) Zo;cases e1;obtain ⟨d0,d1,d2,d3⟩:=yA q T.Z0[q] (Vb hq);rw [QD] at d0 d1 d2 d3;have V9:=fun (j:Nat)=>(Io.o.cell (p:=⟨w,j,none⟩) T_ T_).trans (cell_of hBX j)
 have x1:W1.cell? ⟨w,1,none⟩=some (.int .i64 p):=V9 1;have x2:W1.cell? ⟨w,2,none⟩=some (.int .i64 n):=V9 2;have x3:W1.cell? ⟨w,3,none⟩=some (.int .i64 la):=V9 3;have Nr:w.heap.size<W1.heap.size:=by omega
 have oX:b<W1.heap.size:=by omega
 have Pc:g<W1.heap.size:=by omega
 have Zz:Hid (∀ w',Below W1 W1 w'→w'.cell? ⟨b,2,none⟩=some (.slice (some ⟨g,0,none⟩) T.Z0.length cp)∧w'.cell? ⟨w,1,none⟩=some (.int .i64 p)∧w'.cell? ⟨w,2,none⟩=some (.int .i64 n)∧Below W1 W1 w'):=fun w' h=>
  ⟨(h.cell (p:=⟨b,2,none⟩) oX).trans k2,(h.cell (p:=⟨w,1,none⟩) Nr).trans x1,(h.cell (p:=⟨w,2,none⟩) Nr).trans x2,h⟩
 have QM:Hid (∀ w',Below W1 W1 w'→(w'.cell? ⟨w,1,none⟩=some (.int .i64 p)∧w'.cell? ⟨w,2,none⟩=some (.int .i64 n)∧w'.cell? ⟨w,3,none⟩=some (.int .i64 la))∧(w'.cell? ⟨g,q*4,none⟩=some (.int .i64 T.Z0[q].peer)∧w'.cell? ⟨g,q*4+1,none⟩=some (.int .i64 T.Z0[q].source)∧w'.cell? ⟨g,q*4+2,none⟩=some (.int .i64 T.Z0[q].want)∧w'.cell? ⟨g,q*4+3,none⟩=some (.bool T.Z0[q].ZQ))∧w'.frozen? ⟨g,q*4+3,none⟩=false):=fun w' h=>
  ⟨⟨(h.cell (p:=⟨w,1,none⟩) Nr).trans x1,(h.cell (p:=⟨w,2,none⟩) Nr).trans x2,(h.cell (p:=⟨w,3,none⟩) Nr).trans x3⟩,⟨(h.cell (p:=⟨g,q*4,none⟩) Pc).trans d0,(h.cell (p:=⟨g,q*4+1,none⟩) Pc).trans d1,(h.cell (p:=⟨g,q*4+2,none⟩) Pc).trans d2,(h.cell (p:=⟨g,q*4+3,none⟩) Pc).trans d3⟩,(h.frozen (p:=⟨g,q*4+3,none⟩) Pc).trans (uJ _)⟩
 have FR:Hid (∀ w',Below W1 W1 w'→ZL (w'.setCell ⟨g,q*4+3,none⟩ (.bool true)) b (T.ZP p n (T.changed ⟨kd,p,n,la,nm,ss⟩ 4))∧Fr w (· = b) w (w'.setCell ⟨g,q*4+3,none⟩ (.bool true))):=fun w' h=>by
  have hr:=Ry.o.below h;have kr:=Zx T9.o h;have hf:Fr w' (· = g) w' (w'.setCell ⟨g,q*4+3,none⟩ (.bool true)):=(Fr.refl _ _ _).setAt _ _
  have qJ:w'.heap[g]?=some (.cells cur 105):=by
   rw [h.block g Pc];exact wz
  have H':∀ e,105≠e→∀ k c fr,k=g→w'.heap[k]?≠some (.cells c e fr):=by
   intro e he k c fr hk;subst hk;rw [qJ];exact Uo he
  have Gx:=hr.lt;have wJ:=U8 kr Zo (i:=q*4+3) (.bool true);exact bJ
 have lK:Hid (∀ w1,Below W1 W1 w1→Calls Tryz.prog 51 (Qu (some ⟨b,0,none⟩) p n) w1 fun e w'=>e = .returned (.int .i64 q)∧Below w1 w1 w'):=fun w1 h=>CB.o w1 (by have:=Ry.o.below h;exact this)
 have NT:Below W1 W1 W1:=YJ _ _;have dF:(q:Int)<(T.Z0.length:Int):=OP.2 hq;have hq0:(0:Int)≤(q:Int):=qD q
 have MO:Hid ((T.changed ⟨kd,p,n,la,nm,ss⟩ 4).peer=T.Z0[q].peer∧(T.changed ⟨kd,p,n,la,nm,ss⟩ 4).source=n):=by
  show _∧_;rw [HX.o];simp at IA;exact ⟨rfl,IA.2⟩
 have HPS:Hid (T.Z0[q].peer=p∧T.Z0[q].source=n):=by simp at IA;exact IA
 clear d0 d1 d2 d3 yA V9 x1 x2 x3 uJ wz k2 HQ T9 E2 IA;go_wp2_with fail
 go_region_held3 (fun w'=>w'.cell? ⟨b,2,none⟩=some (.slice (some ⟨g,0,none⟩) T.Z0.length cp)∧w'.cell? ⟨w,1,none⟩=some (.int .i64 p)∧w'.cell? ⟨w,2,none⟩=some (.int .i64 n)∧Below W1 W1 w') (first|(exact Zz.o _ WS)|(exact Zz.o _ (Below.drew WS))|go_keep) (first|(go_at_call 51;go_split_ands;(with_reducible refine Calls.mono (lK.o _ WS) ?_);rintro e V ⟨rfl,NJ⟩;have Nl:=Heap.Below.call WS (Zw _) NJ)|fail)
 obtain ⟨⟨x1,x2,x3⟩,⟨d0,d1,d2,d3⟩,z0⟩:=QM.o _ Nl;have sK:=Nl.size;have DB:=Zh Nl;have hgV:¬g=V.heap.size:=by omega
 have hgV2:¬V.heap.size=g:=by omega
 have hzV:w.heap.size<V.heap.size:=by omega
 have hzg:g<V.heap.size:=by omega
 have qJ:¬g=w.heap.size:=by omega
 have hgw2:¬w.heap.size=g:=by omega
 have hVw:¬V.heap.size=w.heap.size:=by omega
 clear NT NJ Nl;go_wp2_with fail
 obtain ⟨cB,cC⟩:=FR.o V DB.o;go_ret;have qx:Hid (T.change ⟨kd,p,n,la,nm,ss⟩ 4=([⟨4,p,n,0,0⟩],T.ZP p n (T.changed ⟨kd,p,n,la,nm,ss⟩ 4))):=by show _=_;rw [HCH.o,HX.o];simp
 rw [qx.o];exact ⟨⟨_,rfl,Yr _ _ 1 _ ([⟨4,p,n,0,0⟩].flatMap Z9) Zd Zi⟩,(cB.alloc _).alloc _,(cC.alloc Ug _).alloc Ug _⟩
theorem E8 (b:Nat) (T:ZN) (o:Op) (sa ba:Option Addr) (sl sc bl bc:Nat) (w:World) (hR:ZL w b T) (Vl:T.Small) (hs:0≤T.Y9 o.peer o.source) (PH:0≤T.YU o.source) (Ta:0≤(T.changed o 5).want∧(T.changed o 5).want<(T.Wb o.source).ss.length) :
  Calls Tryz.prog 102 (Q4 (some ⟨b,0,none⟩) (Jo o sa sl sc ba bl bc) 5) w fun e w'=>(∃ v,e = .returned v∧YF w' v (T.change o 5).1)∧ZL w' b (T.change o 5).2∧Fr w (· = b) w w':=by
 obtain ⟨kd,p,n,la,nm,ss⟩:=o;dsimp only at hs PH Ta ⊢;have hb:=hR.lt;obtain ⟨q,hq,My,IA,-⟩:=XI hs;have My:T.Y9 p n=q:=My;have CB:=Zh (fun (w1:World) (h:ZL w1 b T)=>Wv b T p n w1 h);rw [My] at CB
 have HX:Hid (T.changed ⟨kd,p,n,la,nm,ss⟩ 5={T.Z0[q] with ZQ:=false}):=by
  show _=_;unfold ZN.changed ZN.OD;dsimp only;rw [My,Wz,Ni hq];rfl
 have HT1:Hid (T.ZP p n (T.changed ⟨kd,p,n,la,nm,ss⟩ 5)={T with Z0:=T.Z0.set q ({T.Z0[q] with ZQ:=false})}):=by
  show _=_;rw [HX.o];unfold ZN.ZP;rw [My,Wz]
 have HCH:Hid (T.change ⟨kd,p,n,la,nm,ss⟩ 5=(⟨5,p,n,0,0⟩ :: (if (T.changed ⟨kd,p,n,la,nm,ss⟩ 5).ZQ || ((T.ZP p n (T.changed ⟨kd,p,n,la,nm,ss⟩ 5)).Wb n).ZE then [] else [(T.ZP p n (T.changed ⟨kd,p,n,la,nm,ss⟩ 5)).ask (T.changed ⟨kd,p,n,la,nm,ss⟩ 5)]),T.ZP p n (T.changed ⟨kd,p,n,la,nm,ss⟩ 5))):=rfl;obtain ⟨pv,sv,uv,Yn,XJ⟩:=hR.Vw;have UA:=XJ.Z0;have Uw:=Vl.Z0;unfold small at Uw;have HR:=Zh hR;have uf:=Zh UA;have c2:=cell_of Yn 2;have f2:=hR.Yz 2;obtain ⟨ua,LF,rfl,O9,-,-⟩:=id UA;have E3:=Zh PH;have Ng:=Zh Ta;have E2:=Zh (KY Zt 4 (fun _=>rfl) (i:=3) Zd (.bool false) ({T.Z0[q] with ZQ:=false}) T.Z0 q hq rfl);have Bu:=Zh (Tv T.Z0);have QK:Hid (Row (w.alloc (.cells (Qa kd p n la (str nm) sa sl sc ba bl bc) 32)) 105 (.slice ua T.Z0.length LF) T.Z0.length (T.Z0.flatMap Zt)):=UA.below (Z' _ _);have c2a:=((Z' w (.cells (Qa kd p n la (str nm) sa sl sc ba bl bc) 32)).cell (p:=⟨b,2,none⟩) hb).trans c2;have f2a:=((Z' w (.cells (Qa kd p n la (str nm) sa sl sc ba bl bc) 32)).frozen (p:=⟨b,2,none⟩) hb).trans f2;have gy:=hR.below (Z' w (.cells (Qa kd p n la (str nm) sa sl sc ba bl bc) 32));have hWs:=World.size_alloc w (.cells (Qa kd p n la (str nm) sa sl sc ba bl bc) 32);have hBX:=Z8 w (.cells (Qa kd p n la (str nm) sa sl sc ba bl bc) 32);have S5:Hid (Below w w (w.alloc (.cells (Qa kd p n la (str nm) sa sl sc ba bl bc) 32))):=Z' _ _
 clear Yn XJ UA hR Vl hs My c2 f2 PH Ta;go_enter Tryz.func102,Tryz.ntmps102;go_upto_region 1 with fail
 generalize w.alloc (.cells (Qa kd p n la (str nm) sa sl sc ba bl bc) 32)=W0 at *
 go_wp2_with (at_builtin;refine YV rfl (.const (.slice none 0 0)) (.tmp 13) 49 rfl (w.heap.size+1) Uh (.slice none 0 0) 0 [] rfl (TY _ _ _ _) (.slice ua T.Z0.length LF) T.Z0.length (T.Z0.flatMap Zt) rfl QK.o Bu.o (Tw _) Zo Zo Zo (fun v1 w2 rh HG=>?_);have HQ:Hid (w2.ownsRow (w.heap.size+1) 105 4 v1 T.Z0.length (T.Z0.flatMap Zt)):=mU;clear rh;have Yq:Below (w.heap.size+1) W0 w2:=(YJ _ _).grown HG.o Zo (fun k hk=>by cases hk);have c2:=(Yq.cell (p:=⟨b,2,none⟩) T_).trans c2a;have f2:=(Yq.frozen (p:=⟨b,2,none⟩) T_).trans f2a;obtain ⟨g,cp,cur,hv,wC,JB⟩:=Pj HQ.o Zo;subst hv)
 have yJ:=Zh Yq;have Ry:=Zh ((gy.below (Yq.mono Zo)).Lu (Row.Z6 HQ.o));have K6:g≠b:=by omega
 have T9:=Zh (WG HQ.o ((Fr.refl w2.heap.size (· = b) w2).setAt 2 (.slice (some ⟨g,0,none⟩) T.Z0.length cp)) (fun k hk=>by omega));have Io:Hid (Fr (w.heap.size+1) (· = b) W0 (w2.setCell ⟨b,2,none⟩ (.slice (some ⟨g,0,none⟩) T.Z0.length cp))):=(Fr.Z7 _ Yq).setAt _ _;have k2:(w2.setCell ⟨b,2,none⟩ (.slice (some ⟨g,0,none⟩) T.Z0.length cp)).cell? ⟨b,2,none⟩=some (.slice (some ⟨g,0,none⟩) T.Z0.length cp):=qC _ _ _ c2
 have j6:g<w2.heap.size:=by
  exact Yt9
 have wz:(w2.setCell ⟨b,2,none⟩ (.slice (some ⟨g,0,none⟩) T.Z0.length cp)).heap[g]?=some (.cells cur 105):=by simp [World.setCell,Array.getElem?_modify,K6.symm,JB]
 have QJ:=size_setCell w2 ⟨b,2,none⟩ (.slice (some ⟨g,0,none⟩) T.Z0.length cp);have gF:=Yq.size;clear c2 f2 JB Yq gy;generalize w2.setCell ⟨b,2,none⟩ (.slice (some ⟨g,0,none⟩) T.Z0.length cp)=W1 at *
 have uJ:∀ j,W1.frozen? ⟨g,j,none⟩=false:=fun j=>by simp [World.frozen?,wz]
 obtain ⟨g',off',e1,yA⟩:=OE (Row.Z6 T9.o) Zo;cases e1;obtain ⟨d0,d1,d2,d3⟩:=yA q T.Z0[q] (Vb hq);rw [QD] at d0 d1 d2 d3;have V9:=fun (j:Nat)=>(Io.o.cell (p:=⟨w,j,none⟩) T_ T_).trans (cell_of hBX j)
 have x1:W1.cell? ⟨w,1,none⟩=some (.int .i64 p):=V9 1;have x2:W1.cell? ⟨w,2,none⟩=some (.int .i64 n):=V9 2;have x3:W1.cell? ⟨w,3,none⟩=some (.int .i64 la):=V9 3;have Nr:w.heap.size<W1.heap.size:=by omega
 have oX:b<W1.heap.size:=by omega
 have Pc:g<W1.heap.size:=by omega
 have Zz:Hid (∀ w',Below W1 W1 w'→w'.cell? ⟨b,2,none⟩=some (.slice (some ⟨g,0,none⟩) T.Z0.length cp)∧w'.cell? ⟨w,1,none⟩=some (.int .i64 p)∧w'.cell? ⟨w,2,none⟩=some (.int .i64 n)∧Below W1 W1 w'):=fun w' h=>
  ⟨(h.cell (p:=⟨b,2,none⟩) oX).trans k2,(h.cell (p:=⟨w,1,none⟩) Nr).trans x1,(h.cell (p:=⟨w,2,none⟩) Nr).trans x2,h⟩
 have QM:Hid (∀ w',Below W1 W1 w'→(w'.cell? ⟨w,1,none⟩=some (.int .i64 p)∧w'.cell? ⟨w,2,none⟩=some (.int .i64 n)∧w'.cell? ⟨w,3,none⟩=some (.int .i64 la))∧(w'.cell? ⟨g,q*4,none⟩=some (.int .i64 T.Z0[q].peer)∧w'.cell? ⟨g,q*4+1,none⟩=some (.int .i64 T.Z0[q].source)∧w'.cell? ⟨g,q*4+2,none⟩=some (.int .i64 T.Z0[q].want)∧w'.cell? ⟨g,q*4+3,none⟩=some (.bool T.Z0[q].ZQ))∧w'.frozen? ⟨g,q*4+3,none⟩=false):=fun w' h=>
  ⟨⟨(h.cell (p:=⟨w,1,none⟩) Nr).trans x1,(h.cell (p:=⟨w,2,none⟩) Nr).trans x2,(h.cell (p:=⟨w,3,none⟩) Nr).trans x3⟩,⟨(h.cell (p:=⟨g,q*4,none⟩) Pc).trans d0,(h.cell (p:=⟨g,q*4+1,none⟩) Pc).trans d1,(h.cell (p:=⟨g,q*4+2,none⟩) Pc).trans d2,(h.cell (p:=⟨g,q*4+3,none⟩) Pc).trans d3⟩,(h.frozen (p:=⟨g,q*4+3,none⟩) Pc).trans (uJ _)⟩
 have FR:Hid (∀ w',Below W1 W1 w'→ZL (w'.setCell ⟨g,q*4+3,none⟩ (.bool false)) b (T.ZP p n (T.changed ⟨kd,p,n,la,nm,ss⟩ 5))∧Fr w (· = b) w (w'.setCell ⟨g,q*4+3,none⟩ (.bool false))):=fun w' h=>by
  have hr:=Ry.o.below h;have kr:=Zx T9.o h;have hf:Fr w' (· = g) w' (w'.setCell ⟨g,q*4+3,none⟩ (.bool false)):=(Fr.refl _ _ _).setAt _ _
  have qJ:w'.heap[g]?=some (.cells cur 105):=by
   rw [h.block g Pc];exact wz
  have H':∀ e,105≠e→∀ k c fr,k=g→w'.heap[k]?≠some (.cells c e fr):=by
   intro e he k c fr hk;subst hk;rw [qJ];exact Uo he
  have Gx:=hr.lt;have wJ:=U8 kr Zo (i:=q*4+3) (.bool false);exact bJ
 have lK:Hid (∀ w1,Below W1 W1 w1→Calls Tryz.prog 51 (Qu (some ⟨b,0,none⟩) p n) w1 fun e w'=>e = .returned (.int .i64 q)∧Below w1 w1 w'):=fun w1 h=>CB.o w1 (by have:=Ry.o.below h;exact this)
 have NT:Below W1 W1 W1:=YJ _ _;have dF:(q:Int)<(T.Z0.length:Int):=OP.2 hq;have hq0:(0:Int)≤(q:Int):=qD q
 have MO:Hid ((T.changed ⟨kd,p,n,la,nm,ss⟩ 5).peer=T.Z0[q].peer∧(T.changed ⟨kd,p,n,la,nm,ss⟩ 5).source=n):=by
  show _∧_;rw [HX.o];simp at IA;exact ⟨rfl,IA.2⟩
 have HPS:Hid (T.Z0[q].peer=p∧T.Z0[q].source=n):=by simp at IA;exact IA
 clear d0 d1 d2 d3 yA V9 x1 x2 x3 uJ wz k2 HQ T9 E2 IA;go_wp2_with fail
 go_region_held3 (fun w'=>w'.cell? ⟨b,2,none⟩=some (.slice (some ⟨g,0,none⟩) T.Z0.length cp)∧w'.cell? ⟨w,1,none⟩=some (.int .i64 p)∧w'.cell? ⟨w,2,none⟩=some (.int .i64 n)∧Below W1 W1 w') (first|(exact Zz.o _ WS)|(exact Zz.o _ (Below.drew WS))|go_keep) (first|(go_at_call 51;go_split_ands;(with_reducible refine Calls.mono (lK.o _ WS) ?_);rintro e V ⟨rfl,NJ⟩;have Nl:=Heap.Below.call WS (Zw _) NJ)|fail)
 obtain ⟨⟨x1,x2,x3⟩,⟨d0,d1,d2,d3⟩,z0⟩:=QM.o _ Nl;have sK:=Nl.size;have DB:=Zh Nl;have hgV:¬g=V.heap.size:=by omega
 have hgV2:¬V.heap.size=g:=by omega
 have hzV:w.heap.size<V.heap.size:=by omega
 have hzg:g<V.heap.size:=by omega
 have qJ:¬g=w.heap.size:=by omega
 have hgw2:¬w.heap.size=g:=by omega
 have hVw:¬V.heap.size=w.heap.size:=by omega
 clear NT NJ Nl;go_wp2_with fail
 obtain ⟨cB,cC⟩:=FR.o V DB.o;obtain ⟨m,hm,O8,-,-⟩:=XI E3.o;have O8:T.YU n=m:=O8
 have qu:Hid (((T.ZP p n (T.changed ⟨kd,p,n,la,nm,ss⟩ 5)).Wb n).ZE=T.Yg[m].ZE):=by
  show (T.Yg.getD (T.YU n).toNat UG).ZE=_;rw [O8,Wz,SC,Vb hm];rfl
 have EZ:Hid (∀ w1,ZL w1 b (T.ZP p n (T.changed ⟨kd,p,n,la,nm,ss⟩ 5))→Calls Tryz.prog 99 (Qi (some ⟨b,0,none⟩) (Ql T.Z0[q].peer T.Z0[q].source ({T.Z0[q] with ZQ:=false}).want ({T.Z0[q] with ZQ:=false}).ZQ)) w1 fun e w'=>e = .returned (V4 ((T.ZP p n (T.changed ⟨kd,p,n,la,nm,ss⟩ 5)).ask (T.changed ⟨kd,p,n,la,nm,ss⟩ 5)))∧Below w1 w1 w'):=fun w1 h=>by
  have h1:=Hy b (T.ZP p n (T.changed ⟨kd,p,n,la,nm,ss⟩ 5)) (T.changed ⟨kd,p,n,la,nm,ss⟩ 5) w1 h (by rw [MO.o.2];exact E3.o) (by rw [MO.o.2];exact Ng.o);rw [HX.o] at h1 ⊢;exact h1
 have CS:Hid (∀ w1,ZL w1 b (T.ZP p n (T.changed ⟨kd,p,n,la,nm,ss⟩ 5))→Calls Tryz.prog 49 (Qk (some ⟨b,0,none⟩) n) w1 fun e w'=>e = .returned (.int .i64 m)∧Below w1 w1 w'):=fun w1 h=>by
  have h1:=VW b _ n w1 h;rw [show (T.ZP p n (T.changed ⟨kd,p,n,la,nm,ss⟩ 5)).YU n=m from O8] at h1;exact h1
 have kz:=size_setCell V ⟨g,q*4+3,none⟩ (.bool false);have y0:(V.setCell ⟨g,q*4+3,none⟩ (.bool false)).cell? ⟨g,q*4,none⟩=some (.int .i64 T.Z0[q].peer):=(World.cell?_setCell_other _ _ _ _ Zi).trans d0;have y1:(V.setCell ⟨g,q*4+3,none⟩ (.bool false)).cell? ⟨g,q*4+1,none⟩=some (.int .i64 T.Z0[q].source):=(World.cell?_setCell_other _ _ _ _ Zi).trans d1;have y2:(V.setCell ⟨g,q*4+3,none⟩ (.bool false)).cell? ⟨g,q*4+2,none⟩=some (.int .i64 ({T.Z0[q] with ZQ:=false}).want):=(World.cell?_setCell_other _ _ _ _ Zi).trans d2;have y3:(V.setCell ⟨g,q*4+3,none⟩ (.bool false)).cell? ⟨g,q*4+3,none⟩=some (.bool ({T.Z0[q] with ZQ:=false}).ZQ):=qC _ _ _ d3;have yb:(V.setCell ⟨g,q*4+3,none⟩ (.bool false)).cell? ⟨w,2,none⟩=some (.int .i64 n):=(World.cell?_setCell_other _ _ _ _ (by simp <;> omega)).trans x2;generalize V.setCell ⟨g,q*4+3,none⟩ (.bool false)=W5 at *
 have ht:=Z8 W5 (.cells (Qh 5 p n 0 0) 158);rw [kz] at ht;have Uk:=Z' W5 (.cells (Qh 5 p n 0 0) 158);have nW:=cB.alloc (.cells (Qh 5 p n 0 0) 158);have gj:=cC.alloc Zo (.cells (Qh 5 p n 0 0) 158);have ie:=(Uk.cell (p:=⟨g,q*4,none⟩) T_).trans y0;have y1':=(Uk.cell (p:=⟨g,q*4+1,none⟩) T_).trans y1;have kR:=(Uk.cell (p:=⟨g,q*4+2,none⟩) T_).trans y2;have ig:=(Uk.cell (p:=⟨g,q*4+3,none⟩) T_).trans y3;have aC:=(Uk.cell (p:=⟨w,2,none⟩) T_).trans yb;have kB:=World.size_alloc W5 (.cells (Qh 5 p n 0 0) 158);generalize W5.alloc (.cells (Qh 5 p n 0 0) 158)=W6 at *
 clear y0 y1 y2 y3 yb Uk cB cC d0 d1 d2 d3 z0 x1 x2 x3;have yV:=Zh nW;have eV:=Zh gj;obtain ⟨pv6,sv6,uv6,Nn,JE⟩:=nW.Vw;obtain ⟨P,Tt,U0,Cn⟩:=JE.Yg;have Tt:P.map Prod.fst=T.Yg:=Tt;have oC:m<P.length:=by rw [←Tt,TB] at hm;exact hm
 have gm:=U0.len;have s1:=cell_of Nn 1;obtain ⟨pa,pc,rfl,-,-⟩:=id U0;obtain ⟨gs,QX,e4,Tn⟩:=Sw U0 Zo;subst e4;obtain ⟨-,-,-,s4⟩:=Tn m P[m] (Vb oC)
 have gp:P[m].1.ZE=T.Yg[m].ZE:=by
  have:(P.map Prod.fst)[m]?=T.Yg[m]?:=by rw [Tt]
  rw [List.getElem?_map,Vb oC,Vb hm] at this;simp at this;rw [this]
 rw [gp] at s4
 have cV:gs<W6.heap.size:=by
  exact bF
 have kp:(m:Int)<(P.length:Int):=OP.2 oC;have sB:(0:Int)≤(m:Int):=qD m;have Ec:b<W6.heap.size:=by omega
 have uI:g<W6.heap.size:=by omega
 have Ea:V.heap.size<W6.heap.size:=by omega
 have dU:w.heap.size<W6.heap.size:=by omega
 have GG:w.heap.size≤W6.heap.size:=by omega
 have Ia:n=T.Z0[q].source:=HPS.o.2.symm;clear Nn JE Tt U0 Cn Tn gp nW gj O8;generalize P.length=NP at *
 generalize T.Yg[m].ZE=mu at *
 have Xa:Hid (∀ w',Below W6 W6 w'→(w'.cell? ⟨g,q*4,none⟩=some (.int .i64 T.Z0[q].peer)∧w'.cell? ⟨g,q*4+1,none⟩=some (.int .i64 T.Z0[q].source)∧w'.cell? ⟨g,q*4+2,none⟩=some (.int .i64 ({T.Z0[q] with ZQ:=false}).want)∧w'.cell? ⟨g,q*4+3,none⟩=some (.bool ({T.Z0[q] with ZQ:=false}).ZQ))∧(w'.cell? ⟨V,0,none⟩=some (.int .i64 5)∧w'.cell? ⟨V,1,none⟩=some (.int .i64 p)∧w'.cell? ⟨V,2,none⟩=some (.int .i64 n)∧w'.cell? ⟨V,3,none⟩=some (.int .i64 0)∧w'.cell? ⟨V,4,none⟩=some (.int .u32 0))∧w'.cell? ⟨w,2,none⟩=some (.int .i64 n)∧w'.cell? ⟨b,1,none⟩=some (.slice (some ⟨gs,QX,none⟩) NP pc)∧w'.cell? ⟨gs,QX+m*4+3,none⟩=some (.bool mu)∧Below W6 W6 w'):=fun w' h=>
  ⟨⟨(h.cell (p:=⟨g,q*4,none⟩) uI).trans ie,(h.cell (p:=⟨g,q*4+1,none⟩) uI).trans y1',(h.cell (p:=⟨g,q*4+2,none⟩) uI).trans kR,(h.cell (p:=⟨g,q*4+3,none⟩) uI).trans ig⟩,⟨(h.cell (p:=⟨V,0,none⟩) Ea).trans (cell_of ht 0),(h.cell (p:=⟨V,1,none⟩) Ea).trans (cell_of ht 1),(h.cell (p:=⟨V,2,none⟩) Ea).trans (cell_of ht 2),(h.cell (p:=⟨V,3,none⟩) Ea).trans (cell_of ht 3),(h.cell (p:=⟨V,4,none⟩) Ea).trans (cell_of ht 4)⟩,(h.cell (p:=⟨w,2,none⟩) dU).trans aC,(h.cell (p:=⟨b,1,none⟩) Ec).trans s1,(h.cell (p:=⟨gs,QX+m*4+3,none⟩) cV).trans s4,h⟩
 have rf:Hid ((T.changed ⟨kd,p,n,la,nm,ss⟩ 5).ZQ=({T.Z0[q] with ZQ:=false}).ZQ):=by show _=_;rw [HX.o]
 generalize T.ZP p n (T.changed ⟨kd,p,n,la,nm,ss⟩ 5)=T1 at *
 generalize T1.ask (T.changed ⟨kd,p,n,la,nm,ss⟩ 5)=TA at *
 generalize (T.changed ⟨kd,p,n,la,nm,ss⟩ 5).ZQ=cpau at *
 clear ht ie y1' kR s1 s4 hm E3 Ng HX MO HT1 FR Zz QM Ry Io S5 yJ DB uf QK HR CB lK HPS Bu;dsimp only at Xa EZ ig rf;generalize T.Z0[q].source=xs at *
 generalize T.Z0[q].peer=xp at *
 generalize T.Z0[q].want=xw at *
 subst Ia;have NT:Below W6 W6 W6:=YJ _ _;have qx:Hid (T.change ⟨kd,p,n,la,nm,ss⟩ 5=(⟨5,p,n,0,0⟩ :: (if mu then [] else [TA]),T1)):=by show _=_;rw [HCH.o,rf.o,qu.o];simp
 go_upto_region 13 with fail
 go_cut [73] (fun s73 wx=>s73 = .bool mu∧Below W6 W6 wx)
 case first=>
  go_region_held3 (fun w'=>(w'.cell? ⟨g,q*4,none⟩=some (.int .i64 xp)∧w'.cell? ⟨g,q*4+1,none⟩=some (.int .i64 n)∧w'.cell? ⟨g,q*4+2,none⟩=some (.int .i64 xw)∧w'.cell? ⟨g,q*4+3,none⟩=some (.bool false))∧(w'.cell? ⟨V,0,none⟩=some (.int .i64 5)∧w'.cell? ⟨V,1,none⟩=some (.int .i64 p)∧w'.cell? ⟨V,2,none⟩=some (.int .i64 n)∧w'.cell? ⟨V,3,none⟩=some (.int .i64 0)∧w'.cell? ⟨V,4,none⟩=some (.int .u32 0))∧w'.cell? ⟨w,2,none⟩=some (.int .i64 n)∧w'.cell? ⟨b,1,none⟩=some (.slice (some ⟨gs,QX,none⟩) NP pc)∧w'.cell? ⟨gs,QX+m*4+3,none⟩=some (.bool mu)∧Below W6 W6 w') (first|(exact Xa.o _ WS)|(exact Xa.o _ (Below.drew WS))|go_keep) (first|(go_at_call 49;go_split_ands;(with_reducible refine Calls.mono (CS.o _ (yV.o.below WS)) ?_);rintro e V2 ⟨rfl,NJ⟩;have Nl:=Heap.Below.call WS (Zw _) NJ)|fail)
  all_goals (go_wp2_with fail;go_meet;exact ⟨rfl,by first|with_reducible assumption|exact Below.drew WS⟩)
 case rest=>
  clear NT;obtain ⟨rfl,NW⟩:=hcut;obtain ⟨W7,rfl⟩:∃ W7:World,W7=wc:=⟨_,rfl⟩;cases mu
  ·go_upto_region 15 with fail
   go_cut [6] (fun s6 wx=>YF wx s6 [⟨5,p,n,0,0⟩,TA]∧Below W6 W6 wx)
   case first=>
    go_region_held3 (fun w'=>(w'.cell? ⟨g,q*4,none⟩=some (.int .i64 xp)∧w'.cell? ⟨g,q*4+1,none⟩=some (.int .i64 n)∧w'.cell? ⟨g,q*4+2,none⟩=some (.int .i64 xw)∧w'.cell? ⟨g,q*4+3,none⟩=some (.bool false))∧(w'.cell? ⟨V,0,none⟩=some (.int .i64 5)∧w'.cell? ⟨V,1,none⟩=some (.int .i64 p)∧w'.cell? ⟨V,2,none⟩=some (.int .i64 n)∧w'.cell? ⟨V,3,none⟩=some (.int .i64 0)∧w'.cell? ⟨V,4,none⟩=some (.int .u32 0))∧w'.cell? ⟨w,2,none⟩=some (.int .i64 n)∧w'.cell? ⟨b,1,none⟩=some (.slice (some ⟨gs,QX,none⟩) NP pc)∧w'.cell? ⟨gs,QX+m*4+3,none⟩=some (.bool false)∧Below W6 W6 w') (first|(exact Xa.o _ WS)|(exact Xa.o _ (Below.drew WS))|(exact Xa.o _ (Heap.Below.alloc' WS (Zw _) _))|(exact Xa.o _ (Heap.Below.alloc' (Below.drew WS) (Zw _) _))|go_keep) (first|(go_at_call 99;go_split_ands;(with_reducible refine Calls.mono (EZ.o _ (yV.o.below WS)) ?_);rintro e V3 ⟨rfl,NJ⟩;have Fe:=Heap.Below.call WS (Zw _) NJ;unfold V4)|fail)
    go_wp2_with fail
    go_meet;exact ⟨Yr _ _ 2 _ ([⟨5,p,n,0,0⟩,TA].flatMap Z9) Zd rfl,Fe.alloc Fe.size _⟩
   case rest=>
    exact fK
  ·obtain ⟨-,⟨t0,t1,t2,t3,t4⟩,-⟩:=Xa.o _ NW;have hzt:V.heap.size<W7.heap.size:=OS Ea NW.size;go_wp2;go_ret;rw [qx.o];exact ⟨⟨_,rfl,Yr _ _ 1 _ ([⟨5,p,n,0,0⟩].flatMap Z9) Zd rfl⟩,(yV.o.below NW).alloc _,(eV.o.trans ((Fr.Z7 _ NW).mono GG (fun _ _ h=>h))).alloc (PO GG NW.size) _⟩
theorem zy (b:Nat) (T:ZN) (o:Op) (sa ba:Option Addr) (sl sc bl bc:Nat) (w:World) (hR:ZL w b T) (Vl:T.Small) (hs:0≤T.Y9 o.peer o.source) (PH:0≤T.YU o.source) (Ta:0≤(T.changed o 8).want∧(T.changed o 8).want<(T.Wb o.source).ss.length) :
  Calls Tryz.prog 102 (Q4 (some ⟨b,0,none⟩) (Jo o sa sl sc ba bl bc) 8) w fun e w'=>(∃ v,e = .returned v∧YF w' v (T.change o 8).1)∧ZL w' b (T.change o 8).2∧Fr w (· = b) w w':=by
 obtain ⟨kd,p,n,la,nm,ss⟩:=o;dsimp only at hs PH Ta ⊢;have hb:=hR.lt;obtain ⟨q,hq,My,IA,-⟩:=XI hs;have My:T.Y9 p n=q:=My;have CB:=Zh (fun (w1:World) (h:ZL w1 b T)=>Wv b T p n w1 h);rw [My] at CB
 have HX:Hid (T.changed ⟨kd,p,n,la,nm,ss⟩ 8={T.Z0[q] with want:=la}):=by
  show _=_;unfold ZN.changed ZN.OD;dsimp only;rw [My,Wz,Ni hq];rfl
 have HT1:Hid (T.ZP p n (T.changed ⟨kd,p,n,la,nm,ss⟩ 8)={T with Z0:=T.Z0.set q ({T.Z0[q] with want:=la})}):=by
  show _=_;rw [HX.o];unfold ZN.ZP;rw [My,Wz]
 have HCH:Hid (T.change ⟨kd,p,n,la,nm,ss⟩ 8=(⟨8,p,n,la,0⟩ :: (if (T.changed ⟨kd,p,n,la,nm,ss⟩ 8).ZQ || ((T.ZP p n (T.changed ⟨kd,p,n,la,nm,ss⟩ 8)).Wb n).ZE then [] else [(T.ZP p n (T.changed ⟨kd,p,n,la,nm,ss⟩ 8)).ask (T.changed ⟨kd,p,n,la,nm,ss⟩ 8)]),T.ZP p n (T.changed ⟨kd,p,n,la,nm,ss⟩ 8))):=rfl;obtain ⟨pv,sv,uv,Yn,XJ⟩:=hR.Vw;have UA:=XJ.Z0;have Uw:=Vl.Z0;unfold small at Uw;have HR:=Zh hR;have uf:=Zh UA;have c2:=cell_of Yn 2;have f2:=hR.Yz 2;obtain ⟨ua,LF,rfl,O9,-,-⟩:=id UA;have E3:=Zh PH;have Ng:=Zh Ta;have E2:=Zh (KY Zt 4 (fun _=>rfl) (i:=2) Zd (.int .i64 la) ({T.Z0[q] with want:=la}) T.Z0 q hq rfl);have Bu:=Zh (Tv T.Z0);have QK:Hid (Row (w.alloc (.cells (Qa kd p n la (str nm) sa sl sc ba bl bc) 32)) 105 (.slice ua T.Z0.length LF) T.Z0.length (T.Z0.flatMap Zt)):=UA.below (Z' _ _);have c2a:=((Z' w (.cells (Qa kd p n la (str nm) sa sl sc ba bl bc) 32)).cell (p:=⟨b,2,none⟩) hb).trans c2;have f2a:=((Z' w (.cells (Qa kd p n la (str nm) sa sl sc ba bl bc) 32)).frozen (p:=⟨b,2,none⟩) hb).trans f2;have gy:=hR.below (Z' w (.cells (Qa kd p n la (str nm) sa sl sc ba bl bc) 32));have hWs:=World.size_alloc w (.cells (Qa kd p n la (str nm) sa sl sc ba bl bc) 32);have hBX:=Z8 w (.cells (Qa kd p n la (str nm) sa sl sc ba bl bc) 32);have S5:Hid (Below w w (w.alloc (.cells (Qa kd p n la (str nm) sa sl sc ba bl bc) 32))):=Z' _ _
 clear Yn XJ UA hR Vl hs My c2 f2 PH Ta;go_enter Tryz.func102,Tryz.ntmps102;go_upto_region 1 with fail
 generalize w.alloc (.cells (Qa kd p n la (str nm) sa sl sc ba bl bc) 32)=W0 at *
 go_wp2_with (at_builtin;refine YV rfl (.const (.slice none 0 0)) (.tmp 13) 49 rfl (w.heap.size+1) Uh (.slice none 0 0) 0 [] rfl (TY _ _ _ _) (.slice ua T.Z0.length LF) T.Z0.length (T.Z0.flatMap Zt) rfl QK.o Bu.o (Tw _) Zo Zo Zo (fun v1 w2 rh HG=>?_);have HQ:Hid (w2.ownsRow (w.heap.size+1) 105 4 v1 T.Z0.length (T.Z0.flatMap Zt)):=mU;clear rh;have Yq:Below (w.heap.size+1) W0 w2:=(YJ _ _).grown HG.o Zo (fun k hk=>by cases hk);have c2:=(Yq.cell (p:=⟨b,2,none⟩) T_).trans c2a;have f2:=(Yq.frozen (p:=⟨b,2,none⟩) T_).trans f2a;obtain ⟨g,cp,cur,hv,wC,JB⟩:=Pj HQ.o Zo;subst hv)
 have yJ:=Zh Yq;have Ry:=Zh ((gy.below (Yq.mono Zo)).Lu (Row.Z6 HQ.o));have K6:g≠b:=by omega
 have T9:=Zh (WG HQ.o ((Fr.refl w2.heap.size (· = b) w2).setAt 2 (.slice (some ⟨g,0,none⟩) T.Z0.length cp)) (fun k hk=>by omega));have Io:Hid (Fr (w.heap.size+1) (· = b) W0 (w2.setCell ⟨b,2,none⟩ (.slice (some ⟨g,0,none⟩) T.Z0.length cp))):=(Fr.Z7 _ Yq).setAt _ _;have k2:(w2.setCell ⟨b,2,none⟩ (.slice (some ⟨g,0,none⟩) T.Z0.length cp)).cell? ⟨b,2,none⟩=some (.slice (some ⟨g,0,none⟩) T.Z0.length cp):=qC _ _ _ c2
 have j6:g<w2.heap.size:=by
  exact Yt9
 have wz:(w2.setCell ⟨b,2,none⟩ (.slice (some ⟨g,0,none⟩) T.Z0.length cp)).heap[g]?=some (.cells cur 105):=by simp [World.setCell,Array.getElem?_modify,K6.symm,JB]
 have QJ:=size_setCell w2 ⟨b,2,none⟩ (.slice (some ⟨g,0,none⟩) T.Z0.length cp);have gF:=Yq.size;clear c2 f2 JB Yq gy;generalize w2.setCell ⟨b,2,none⟩ (.slice (some ⟨g,0,none⟩) T.Z0.length cp)=W1 at *
 have uJ:∀ j,W1.frozen? ⟨g,j,none⟩=false:=fun j=>by simp [World.frozen?,wz]
 obtain ⟨g',off',e1,yA⟩:=OE (Row.Z6 T9.o) Zo;cases e1;obtain ⟨d0,d1,d2,d3⟩:=yA q T.Z0[q] (Vb hq);rw [QD] at d0 d1 d2 d3;have V9:=fun (j:Nat)=>(Io.o.cell (p:=⟨w,j,none⟩) T_ T_).trans (cell_of hBX j)
 have x1:W1.cell? ⟨w,1,none⟩=some (.int .i64 p):=V9 1;have x2:W1.cell? ⟨w,2,none⟩=some (.int .i64 n):=V9 2;have x3:W1.cell? ⟨w,3,none⟩=some (.int .i64 la):=V9 3;have Nr:w.heap.size<W1.heap.size:=by omega
 have oX:b<W1.heap.size:=by omega
 have Pc:g<W1.heap.size:=by omega
 have Zz:Hid (∀ w',Below W1 W1 w'→w'.cell? ⟨b,2,none⟩=some (.slice (some ⟨g,0,none⟩) T.Z0.length cp)∧w'.cell? ⟨w,1,none⟩=some (.int .i64 p)∧w'.cell? ⟨w,2,none⟩=some (.int .i64 n)∧Below W1 W1 w'):=fun w' h=>
  ⟨(h.cell (p:=⟨b,2,none⟩) oX).trans k2,(h.cell (p:=⟨w,1,none⟩) Nr).trans x1,(h.cell (p:=⟨w,2,none⟩) Nr).trans x2,h⟩
 have QM:Hid (∀ w',Below W1 W1 w'→(w'.cell? ⟨w,1,none⟩=some (.int .i64 p)∧w'.cell? ⟨w,2,none⟩=some (.int .i64 n)∧w'.cell? ⟨w,3,none⟩=some (.int .i64 la))∧(w'.cell? ⟨g,q*4,none⟩=some (.int .i64 T.Z0[q].peer)∧w'.cell? ⟨g,q*4+1,none⟩=some (.int .i64 T.Z0[q].source)∧w'.cell? ⟨g,q*4+2,none⟩=some (.int .i64 T.Z0[q].want)∧w'.cell? ⟨g,q*4+3,none⟩=some (.bool T.Z0[q].ZQ))∧w'.frozen? ⟨g,q*4+2,none⟩=false):=fun w' h=>
  ⟨⟨(h.cell (p:=⟨w,1,none⟩) Nr).trans x1,(h.cell (p:=⟨w,2,none⟩) Nr).trans x2,(h.cell (p:=⟨w,3,none⟩) Nr).trans x3⟩,⟨(h.cell (p:=⟨g,q*4,none⟩) Pc).trans d0,(h.cell (p:=⟨g,q*4+1,none⟩) Pc).trans d1,(h.cell (p:=⟨g,q*4+2,none⟩) Pc).trans d2,(h.cell (p:=⟨g,q*4+3,none⟩) Pc).trans d3⟩,(h.frozen (p:=⟨g,q*4+2,none⟩) Pc).trans (uJ _)⟩
 have FR:Hid (∀ w',Below W1 W1 w'→ZL (w'.setCell ⟨g,q*4+2,none⟩ (.int .i64 la)) b (T.ZP p n (T.changed ⟨kd,p,n,la,nm,ss⟩ 8))∧Fr w (· = b) w (w'.setCell ⟨g,q*4+2,none⟩ (.int .i64 la))):=fun w' h=>by
  have hr:=Ry.o.below h;have kr:=Zx T9.o h;have hf:Fr w' (· = g) w' (w'.setCell ⟨g,q*4+2,none⟩ (.int .i64 la)):=(Fr.refl _ _ _).setAt _ _
  have qJ:w'.heap[g]?=some (.cells cur 105):=by
   rw [h.block g Pc];exact wz
  have H':∀ e,105≠e→∀ k c fr,k=g→w'.heap[k]?≠some (.cells c e fr):=by
   intro e he k c fr hk;subst hk;rw [qJ];exact Uo he
  have Gx:=hr.lt;have wJ:=U8 kr Zo (i:=q*4+2) (.int .i64 la);exact bJ
 have lK:Hid (∀ w1,Below W1 W1 w1→Calls Tryz.prog 51 (Qu (some ⟨b,0,none⟩) p n) w1 fun e w'=>e = .returned (.int .i64 q)∧Below w1 w1 w'):=fun w1 h=>CB.o w1 (by have:=Ry.o.below h;exact this)
 have NT:Below W1 W1 W1:=YJ _ _;have dF:(q:Int)<(T.Z0.length:Int):=OP.2 hq;have hq0:(0:Int)≤(q:Int):=qD q
 have MO:Hid ((T.changed ⟨kd,p,n,la,nm,ss⟩ 8).peer=T.Z0[q].peer∧(T.changed ⟨kd,p,n,la,nm,ss⟩ 8).source=n):=by
  show _∧_;rw [HX.o];simp at IA;exact ⟨rfl,IA.2⟩
 have HPS:Hid (T.Z0[q].peer=p∧T.Z0[q].source=n):=by simp at IA;exact IA
 clear d0 d1 d2 d3 yA V9 x1 x2 x3 uJ wz k2 HQ T9 E2 IA;go_wp2_with fail
 go_region_held3 (fun w'=>w'.cell? ⟨b,2,none⟩=some (.slice (some ⟨g,0,none⟩) T.Z0.length cp)∧w'.cell? ⟨w,1,none⟩=some (.int .i64 p)∧w'.cell? ⟨w,2,none⟩=some (.int .i64 n)∧Below W1 W1 w') (first|(exact Zz.o _ WS)|(exact Zz.o _ (Below.drew WS))|go_keep) (first|(go_at_call 51;go_split_ands;(with_reducible refine Calls.mono (lK.o _ WS) ?_);rintro e V ⟨rfl,NJ⟩;have Nl:=Heap.Below.call WS (Zw _) NJ)|fail)
 obtain ⟨⟨x1,x2,x3⟩,⟨d0,d1,d2,d3⟩,z0⟩:=QM.o _ Nl;have sK:=Nl.size;have DB:=Zh Nl;have hgV:¬g=V.heap.size:=by omega
 have hgV2:¬V.heap.size=g:=by omega
 have hzV:w.heap.size<V.heap.size:=by omega
 have hzg:g<V.heap.size:=by omega
 have qJ:¬g=w.heap.size:=by omega
 have hgw2:¬w.heap.size=g:=by omega
 have hVw:¬V.heap.size=w.heap.size:=by omega
 clear NT NJ Nl;go_wp2_with fail
 obtain ⟨cB,cC⟩:=FR.o V DB.o;obtain ⟨m,hm,O8,-,-⟩:=XI E3.o;have O8:T.YU n=m:=O8
 have qu:Hid (((T.ZP p n (T.changed ⟨kd,p,n,la,nm,ss⟩ 8)).Wb n).ZE=T.Yg[m].ZE):=by
  show (T.Yg.getD (T.YU n).toNat UG).ZE=_;rw [O8,Wz,SC,Vb hm];rfl
 have EZ:Hid (∀ w1,ZL w1 b (T.ZP p n (T.changed ⟨kd,p,n,la,nm,ss⟩ 8))→Calls Tryz.prog 99 (Qi (some ⟨b,0,none⟩) (Ql T.Z0[q].peer T.Z0[q].source ({T.Z0[q] with want:=la}).want ({T.Z0[q] with want:=la}).ZQ)) w1 fun e w'=>e = .returned (V4 ((T.ZP p n (T.changed ⟨kd,p,n,la,nm,ss⟩ 8)).ask (T.changed ⟨kd,p,n,la,nm,ss⟩ 8)))∧Below w1 w1 w'):=fun w1 h=>by
  have h1:=Hy b (T.ZP p n (T.changed ⟨kd,p,n,la,nm,ss⟩ 8)) (T.changed ⟨kd,p,n,la,nm,ss⟩ 8) w1 h (by rw [MO.o.2];exact E3.o) (by rw [MO.o.2];exact Ng.o);rw [HX.o] at h1 ⊢;exact h1
 have CS:Hid (∀ w1,ZL w1 b (T.ZP p n (T.changed ⟨kd,p,n,la,nm,ss⟩ 8))→Calls Tryz.prog 49 (Qk (some ⟨b,0,none⟩) n) w1 fun e w'=>e = .returned (.int .i64 m)∧Below w1 w1 w'):=fun w1 h=>by
  have h1:=VW b _ n w1 h;rw [show (T.ZP p n (T.changed ⟨kd,p,n,la,nm,ss⟩ 8)).YU n=m from O8] at h1;exact h1
 have kz:=size_setCell V ⟨g,q*4+2,none⟩ (.int .i64 la);have y0:(V.setCell ⟨g,q*4+2,none⟩ (.int .i64 la)).cell? ⟨g,q*4,none⟩=some (.int .i64 T.Z0[q].peer):=(World.cell?_setCell_other _ _ _ _ Zi).trans d0;have y1:(V.setCell ⟨g,q*4+2,none⟩ (.int .i64 la)).cell? ⟨g,q*4+1,none⟩=some (.int .i64 T.Z0[q].source):=(World.cell?_setCell_other _ _ _ _ Zi).trans d1;have y2:(V.setCell ⟨g,q*4+2,none⟩ (.int .i64 la)).cell? ⟨g,q*4+2,none⟩=some (.int .i64 ({T.Z0[q] with want:=la}).want):=qC _ _ _ d2;have y3:(V.setCell ⟨g,q*4+2,none⟩ (.int .i64 la)).cell? ⟨g,q*4+3,none⟩=some (.bool ({T.Z0[q] with want:=la}).ZQ):=(World.cell?_setCell_other _ _ _ _ Zi).trans d3;have yb:(V.setCell ⟨g,q*4+2,none⟩ (.int .i64 la)).cell? ⟨w,2,none⟩=some (.int .i64 n):=(World.cell?_setCell_other _ _ _ _ (by simp <;> omega)).trans x2;generalize V.setCell ⟨g,q*4+2,none⟩ (.int .i64 la)=W5 at *
 have ht:=Z8 W5 (.cells (Qh 8 p n la 0) 158);rw [kz] at ht;have Uk:=Z' W5 (.cells (Qh 8 p n la 0) 158);have nW:=cB.alloc (.cells (Qh 8 p n la 0) 158);have gj:=cC.alloc Zo (.cells (Qh 8 p n la 0) 158);have ie:=(Uk.cell (p:=⟨g,q*4,none⟩) T_).trans y0;have y1':=(Uk.cell (p:=⟨g,q*4+1,none⟩) T_).trans y1;have kR:=(Uk.cell (p:=⟨g,q*4+2,none⟩) T_).trans y2;have ig:=(Uk.cell (p:=⟨g,q*4+3,none⟩) T_).trans y3;have aC:=(Uk.cell (p:=⟨w,2,none⟩) T_).trans yb;have kB:=World.size_alloc W5 (.cells (Qh 8 p n la 0) 158);generalize W5.alloc (.cells (Qh 8 p n la 0) 158)=W6 at *
 clear y0 y1 y2 y3 yb Uk cB cC d0 d1 d2 d3 z0 x1 x2 x3;have yV:=Zh nW;have eV:=Zh gj;obtain ⟨pv6,sv6,uv6,Nn,JE⟩:=nW.Vw;obtain ⟨P,Tt,U0,Cn⟩:=JE.Yg;have Tt:P.map Prod.fst=T.Yg:=Tt;have oC:m<P.length:=by rw [←Tt,TB] at hm;exact hm
 have gm:=U0.len;have s1:=cell_of Nn 1;obtain ⟨pa,pc,rfl,-,-⟩:=id U0;obtain ⟨gs,QX,e4,Tn⟩:=Sw U0 Zo;subst e4;obtain ⟨-,-,-,s4⟩:=Tn m P[m] (Vb oC)
 have gp:P[m].1.ZE=T.Yg[m].ZE:=by
  have:(P.map Prod.fst)[m]?=T.Yg[m]?:=by rw [Tt]
  rw [List.getElem?_map,Vb oC,Vb hm] at this;simp at this;rw [this]
 rw [gp] at s4
 have cV:gs<W6.heap.size:=by
  exact bF
 have kp:(m:Int)<(P.length:Int):=OP.2 oC;have sB:(0:Int)≤(m:Int):=qD m;have Ec:b<W6.heap.size:=by omega
 have uI:g<W6.heap.size:=by omega
 have Ea:V.heap.size<W6.heap.size:=by omega
 have dU:w.heap.size<W6.heap.size:=by omega
 have GG:w.heap.size≤W6.heap.size:=by omega
 have Ia:n=T.Z0[q].source:=HPS.o.2.symm;clear Nn JE Tt U0 Cn Tn gp nW gj O8;generalize P.length=NP at *
 generalize T.Yg[m].ZE=mu at *
 have Xa:Hid (∀ w',Below W6 W6 w'→(w'.cell? ⟨g,q*4,none⟩=some (.int .i64 T.Z0[q].peer)∧w'.cell? ⟨g,q*4+1,none⟩=some (.int .i64 T.Z0[q].source)∧w'.cell? ⟨g,q*4+2,none⟩=some (.int .i64 ({T.Z0[q] with want:=la}).want)∧w'.cell? ⟨g,q*4+3,none⟩=some (.bool ({T.Z0[q] with want:=la}).ZQ))∧(w'.cell? ⟨V,0,none⟩=some (.int .i64 8)∧w'.cell? ⟨V,1,none⟩=some (.int .i64 p)∧w'.cell? ⟨V,2,none⟩=some (.int .i64 n)∧w'.cell? ⟨V,3,none⟩=some (.int .i64 la)∧w'.cell? ⟨V,4,none⟩=some (.int .u32 0))∧w'.cell? ⟨w,2,none⟩=some (.int .i64 n)∧w'.cell? ⟨b,1,none⟩=some (.slice (some ⟨gs,QX,none⟩) NP pc)∧w'.cell? ⟨gs,QX+m*4+3,none⟩=some (.bool mu)∧Below W6 W6 w'):=fun w' h=>
  ⟨⟨(h.cell (p:=⟨g,q*4,none⟩) uI).trans ie,(h.cell (p:=⟨g,q*4+1,none⟩) uI).trans y1',(h.cell (p:=⟨g,q*4+2,none⟩) uI).trans kR,(h.cell (p:=⟨g,q*4+3,none⟩) uI).trans ig⟩,⟨(h.cell (p:=⟨V,0,none⟩) Ea).trans (cell_of ht 0),(h.cell (p:=⟨V,1,none⟩) Ea).trans (cell_of ht 1),(h.cell (p:=⟨V,2,none⟩) Ea).trans (cell_of ht 2),(h.cell (p:=⟨V,3,none⟩) Ea).trans (cell_of ht 3),(h.cell (p:=⟨V,4,none⟩) Ea).trans (cell_of ht 4)⟩,(h.cell (p:=⟨w,2,none⟩) dU).trans aC,(h.cell (p:=⟨b,1,none⟩) Ec).trans s1,(h.cell (p:=⟨gs,QX+m*4+3,none⟩) cV).trans s4,h⟩
 have rf:Hid ((T.changed ⟨kd,p,n,la,nm,ss⟩ 8).ZQ=({T.Z0[q] with want:=la}).ZQ):=by show _=_;rw [HX.o]
 generalize T.ZP p n (T.changed ⟨kd,p,n,la,nm,ss⟩ 8)=T1 at *
 generalize T1.ask (T.changed ⟨kd,p,n,la,nm,ss⟩ 8)=TA at *
 generalize (T.changed ⟨kd,p,n,la,nm,ss⟩ 8).ZQ=cpau at *
 clear ht ie y1' kR s1 s4 hm E3 Ng HX MO HT1 FR Zz QM Ry Io S5 yJ DB uf QK HR CB lK HPS Bu;dsimp only at Xa EZ ig rf;generalize T.Z0[q].source=xs at *
 generalize T.Z0[q].peer=xp at *
 generalize T.Z0[q].ZQ=xq at *
 subst Ia;have NT:Below W6 W6 W6:=YJ _ _;cases xq
 ·have qx:Hid (T.change ⟨kd,p,n,la,nm,ss⟩ 8=(⟨8,p,n,la,0⟩ :: (if mu then [] else [TA]),T1)):=by show _=_;rw [HCH.o,rf.o,qu.o];simp
  go_upto_region 13 with fail
  go_cut [73] (fun s73 wx=>s73 = .bool mu∧Below W6 W6 wx)
  case first=>
   go_region_held3 (fun w'=>(w'.cell? ⟨g,q*4,none⟩=some (.int .i64 xp)∧w'.cell? ⟨g,q*4+1,none⟩=some (.int .i64 n)∧w'.cell? ⟨g,q*4+2,none⟩=some (.int .i64 la)∧w'.cell? ⟨g,q*4+3,none⟩=some (.bool false))∧(w'.cell? ⟨V,0,none⟩=some (.int .i64 8)∧w'.cell? ⟨V,1,none⟩=some (.int .i64 p)∧w'.cell? ⟨V,2,none⟩=some (.int .i64 n)∧w'.cell? ⟨V,3,none⟩=some (.int .i64 la)∧w'.cell? ⟨V,4,none⟩=some (.int .u32 0))∧w'.cell? ⟨w,2,none⟩=some (.int .i64 n)∧w'.cell? ⟨b,1,none⟩=some (.slice (some ⟨gs,QX,none⟩) NP pc)∧w'.cell? ⟨gs,QX+m*4+3,none⟩=some (.bool mu)∧Below W6 W6 w') (first|(exact Xa.o _ WS)|(exact Xa.o _ (Below.drew WS))|go_keep) (first|(go_at_call 49;go_split_ands;(with_reducible refine Calls.mono (CS.o _ (yV.o.below WS)) ?_);rintro e V2 ⟨rfl,NJ⟩;have Nl:=Heap.Below.call WS (Zw _) NJ)|fail)
   all_goals (go_wp2_with fail;go_meet;exact ⟨rfl,by first|with_reducible assumption|exact Below.drew WS⟩)
  case rest=>
   clear NT;obtain ⟨rfl,NW⟩:=hcut;obtain ⟨W7,rfl⟩:∃ W7:World,W7=wc:=⟨_,rfl⟩;cases mu
   ·go_upto_region 15 with fail
    go_cut [6] (fun s6 wx=>YF wx s6 [⟨8,p,n,la,0⟩,TA]∧Below W6 W6 wx)
    case first=>
     go_region_held3 (fun w'=>(w'.cell? ⟨g,q*4,none⟩=some (.int .i64 xp)∧w'.cell? ⟨g,q*4+1,none⟩=some (.int .i64 n)∧w'.cell? ⟨g,q*4+2,none⟩=some (.int .i64 la)∧w'.cell? ⟨g,q*4+3,none⟩=some (.bool false))∧(w'.cell? ⟨V,0,none⟩=some (.int .i64 8)∧w'.cell? ⟨V,1,none⟩=some (.int .i64 p)∧w'.cell? ⟨V,2,none⟩=some (.int .i64 n)∧w'.cell? ⟨V,3,none⟩=some (.int .i64 la)∧w'.cell? ⟨V,4,none⟩=some (.int .u32 0))∧w'.cell? ⟨w,2,none⟩=some (.int .i64 n)∧w'.cell? ⟨b,1,none⟩=some (.slice (some ⟨gs,QX,none⟩) NP pc)∧w'.cell? ⟨gs,QX+m*4+3,none⟩=some (.bool false)∧Below W6 W6 w') (first|(exact Xa.o _ WS)|(exact Xa.o _ (Below.drew WS))|(exact Xa.o _ (Heap.Below.alloc' WS (Zw _) _))|(exact Xa.o _ (Heap.Below.alloc' (Below.drew WS) (Zw _) _))|go_keep) (first|(go_at_call 99;go_split_ands;(with_reducible refine Calls.mono (EZ.o _ (yV.o.below WS)) ?_);rintro e V3 ⟨rfl,NJ⟩;have Fe:=Heap.Below.call WS (Zw _) NJ;unfold V4)|fail)
     go_wp2_with fail
     go_meet;exact ⟨Yr _ _ 2 _ ([⟨8,p,n,la,0⟩,TA].flatMap Z9) Zd rfl,Fe.alloc Fe.size _⟩
    case rest=>
     exact fK
   ·obtain ⟨-,⟨t0,t1,t2,t3,t4⟩,-⟩:=Xa.o _ NW;have hzt:V.heap.size<W7.heap.size:=OS Ea NW.size;go_wp2;go_ret;rw [qx.o];exact ⟨⟨_,rfl,Yr _ _ 1 _ ([⟨8,p,n,la,0⟩].flatMap Z9) Zd rfl⟩,(yV.o.below NW).alloc _,(eV.o.trans ((Fr.Z7 _ NW).mono GG (fun _ _ h=>h))).alloc (PO GG NW.size) _⟩
 ·have qx:Hid (T.change ⟨kd,p,n,la,nm,ss⟩ 8=([⟨8,p,n,la,0⟩],T1)):=by show _=_;rw [HCH.o,rf.o];simp
  obtain ⟨⟨-,-,-,z3⟩,⟨t0,t1,t2,t3,t4⟩,-⟩:=Xa.o _ NT;clear NT kB kz;go_wp2_with fail
  go_quiet (fail)
  go_wp2;go_ret;rw [qx.o];exact ⟨⟨_,rfl,Yr _ _ 1 _ ([⟨8,p,n,la,0⟩].flatMap Z9) Zd rfl⟩,(yV.o.below (below_drewN (YJ _ _) _)).alloc _,(Fr.drewN eV.o _).alloc GG _⟩
end Go.Proofs.Rm

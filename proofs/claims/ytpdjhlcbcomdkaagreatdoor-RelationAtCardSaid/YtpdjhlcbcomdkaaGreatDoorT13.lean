/- Part of a proof. -/
import Derived.Test.YtpdjhlcbcomdkaaGreatDoorT12
set_option linter.unusedVariables false
set_option linter.unusedSimpArgs false
set_option maxRecDepth 100000
set_option maxHeartbeats 16000000
open Go Go.Q Go.Qr Go.Proofs.Tryz
namespace Go.Proofs.Rm
open Go.RowKit Go.Proofs.Heap Go.Proofs.Mem
theorem Km{α:Type}(f:α→List Value)(c:Nat)(hc:∀x,(f x).length=c){i:Nat}(hi:i<c)(u:Value)(y:α):∀(l:List α) (k:Nat) (hk:k<l.length),f y=(f l[k]).set i u→(l.flatMap f).set (k*c+i) u=(l.set k y).flatMap f
 | [],k,hk,_=>by simp at hk
 | x :: l,0,_,h=>by
  rw[List.flatMap_cons,List.set_append_left _ _ (by rw[hc];omega),List.set_cons_zero,List.flatMap_cons];simp only[List.getElem_cons_zero]at h;rw[h,Nat.zero_mul,PW]
 | x :: l,k+1,hk,h=>by
  have ih:=Km f c hc hi u y l k (by simpa using hk) (by simpa using h);rw[List.flatMap_cons,List.set_append_right _ _ (by rw[hc,Nat.succ_mul];omega),List.set_cons_succ,List.flatMap_cons,hc,show(k+1)*c+i-c=k*c+i by rw[Nat.succ_mul];omega,ih]
theorem AU(b:Nat)(T:ZO)(o:Op)(sa ba:Option Addr)(sl sc bl bc:Nat)(w:World)(hR:ZM w b T)(Vl:T.Small)(hs:0≤T.Y6 o.peer o.source)(Pv:0≤T.YV o.source)(S6:0≤(T.changed o 4).want∧(T.changed o 4).want<(T.V6 o.source).ss.length) :
  Calls prog 102 (Qt (some ⟨b,0,none⟩) (Jq o sa sl sc ba bl bc) 4) w fun e w'=>(∃v,e = .returned v∧YD w' v (T.change o 4).1)∧ZM w' b (T.change o 4).2∧Fr w (· = b) w w':=by
 obtain⟨kd,p,n,la,nm,ss⟩:=o;dsimp only at hs Pv S6 ⊢;have hb:=hR.lt;obtain⟨q,hq,L8,Hj,-⟩:=XE hs;have L8:T.Y6 p n=q:=L8;have CB:=Zh (fun(w1:World) (h:ZM w1 b T)=>Wo b T p n w1 h);rw[L8]at CB
 have HX:Hid (T.changed ⟨kd,p,n,la,nm,ss⟩ 4={T.ZY[q]with ZV:=true}):=by
  show _=_;unfold ZO.changed ZO.Ol;dsimp only;rw[L8,Wl,MR hq];rfl
 have HT1:Hid (T.ZQ p n (T.changed ⟨kd,p,n,la,nm,ss⟩ 4)={T with ZY:=T.ZY.set q ({T.ZY[q]with ZV:=true})}):=by
  show _=_;rw[HX.o];unfold ZO.ZQ;rw[L8,Wl]
 have HCH:Hid (T.change ⟨kd,p,n,la,nm,ss⟩ 4=(⟨4,p,n,0,0⟩ :: (if(T.changed ⟨kd,p,n,la,nm,ss⟩ 4).ZV||((T.ZQ p n (T.changed ⟨kd,p,n,la,nm,ss⟩ 4)).V6 n).ZN then[]else[(T.ZQ p n (T.changed ⟨kd,p,n,la,nm,ss⟩ 4)).ask (T.changed ⟨kd,p,n,la,nm,ss⟩ 4)]),T.ZQ p n (T.changed ⟨kd,p,n,la,nm,ss⟩ 4))):=rfl;obtain⟨pv,sv,uv,Yn,XF⟩:=hR.Vv;have UC:=XF.ZY;have Us:=Vl.ZY;unfold small at Us;have HR:=Zh hR;have rQ:=Zh UC;have c2:=cell_of Yn 2;have f2:=hR.YB 2;obtain⟨ua,Ld,rfl,OX,-,-⟩:=id UC;have D6:=Zh Pv;have ML:=Zh S6;have D5:=Zh (Km Zq 4 (fun _=>rfl) (i:=3) Zd (.bool true) ({T.ZY[q]with ZV:=true}) T.ZY q hq rfl);have Al:=Zh (Tq T.ZY);have P9:Hid (Row (w.alloc (.cells (Qa kd p n la (str nm) sa sl sc ba bl bc) 32)) 105 (.slice ua T.ZY.length Ld) T.ZY.length (T.ZY.flatMap Zq)):=UC.below (Z' _ _);have c2a:=((Z' w (.cells (Qa kd p n la (str nm) sa sl sc ba bl bc) 32)).cell (p:=⟨b,2,none⟩) hb).trans c2;have f2a:=((Z' w (.cells (Qa kd p n la (str nm) sa sl sc ba bl bc) 32)).frozen (p:=⟨b,2,none⟩) hb).trans f2;have cW:=hR.below (Z' w (.cells (Qa kd p n la (str nm) sa sl sc ba bl bc) 32));have hWs:=World.size_alloc w (.cells (Qa kd p n la (str nm) sa sl sc ba bl bc) 32);have hBX:=Z9 w (.cells (Qa kd p n la (str nm) sa sl sc ba bl bc) 32);have SZ:Hid (Below w w (w.alloc (.cells (Qa kd p n la (str nm) sa sl sc ba bl bc) 32))):=Z' _ _
 clear Yn XF UC hR Vl hs L8 c2 f2 Pv S6;go_enter func102,ntmps102;go_upto_region 1 with fail
 generalize w.alloc (.cells (Qa kd p n la (str nm) sa sl sc ba bl bc) 32)=W0 at *
 go_wp2_with (at_builtin;refine YO rfl (.const (.slice none 0 0)) (.tmp 13) 49 rfl (w.heap.size+1) Ug (.slice none 0 0) 0 [] rfl (TV _ _ _ _) (.slice ua T.ZY.length Ld) T.ZY.length (T.ZY.flatMap Zq) rfl P9.o Al.o (Tt _) Zo Zo Zo (fun v1 w2 oQ HG=>?_);have HQ:Hid (w2.ownsRow (w.heap.size+1) 105 4 v1 T.ZY.length (T.ZY.flatMap Zq)):=kf;clear oQ;have Yp:Below (w.heap.size+1) W0 w2:=(YI _ _).grown HG.o Zo (fun k hk=>by cases hk);have c2:=(Yp.cell (p:=⟨b,2,none⟩) T_).trans c2a;have f2:=(Yp.frozen (p:=⟨b,2,none⟩) T_).trans f2a;obtain⟨g,cp,cur,hv,uD,Ij⟩:=O9 HQ.o Zo;subst hv)
 have wV:=Zh Yp;have Rt:=Zh ((cW.below (Yp.mono Zo)).K6 (Row.Z4 HQ.o));have Ku:g≠b:=by omega
 have T9:=Zh (Wv HQ.o ((Fr.refl w2 (· = b) w2).setAt 2 (.slice (some ⟨g,0,none⟩) T.ZY.length cp)) (fun k hk=>by omega));have Ha:Hid (Fr (w.heap.size+1) (· = b) W0 (w2.setCell ⟨b,2,none⟩ (.slice (some ⟨g,0,none⟩) T.ZY.length cp))):=(Fr.Z6 _ Yp).setAt _ _;have k2:(w2.setCell ⟨b,2,none⟩ (.slice (some ⟨g,0,none⟩) T.ZY.length cp)).cell? ⟨b,2,none⟩=some (.slice (some ⟨g,0,none⟩) T.ZY.length cp):=nZ _ _ _ c2
 have gN:g<w2.heap.size:=by
  exact ki
 have uC:(w2.setCell ⟨b,2,none⟩ (.slice (some ⟨g,0,none⟩) T.ZY.length cp)).heap[g]?=some (.cells cur 105):=by simp[World.setCell,Array.getElem?_modify,Ku.symm,Ij]
 have P8:=size_setCell w2 ⟨b,2,none⟩ (.slice (some ⟨g,0,none⟩) T.ZY.length cp);have di:=Yp.size;clear c2 f2 Ij Yp cW;generalize w2.setCell ⟨b,2,none⟩ (.slice (some ⟨g,0,none⟩) T.ZY.length cp)=W1 at *
 have sD:∀j,W1.frozen? ⟨g,j,none⟩=false:=fun j=>by simp[World.frozen?,uC]
 obtain⟨g',off',e1,NJ⟩:=Om (Row.Z4 T9.o) Zo;cases e1;obtain⟨d0,d1,d2,d3⟩:=NJ q T.ZY[q] (Ve hq);rw[PW]at d0 d1 d2 d3;have V5:=fun(j:Nat)=>(Ha.o.cell (p:=⟨w,j,none⟩) T_ T_).trans (cell_of hBX j)
 have x1:W1.cell? ⟨w,1,none⟩=some (.int .i64 p):=V5 1;have x2:W1.cell? ⟨w,2,none⟩=some (.int .i64 n):=V5 2;have x3:W1.cell? ⟨w,3,none⟩=some (.int .i64 la):=V5 3;have M5:w.heap.size<W1.heap.size:=by omega
 have mi:b<W1.heap.size:=by omega
 have O0:g<W1.heap.size:=by omega
 have ZB:Hid (∀w',Below W1 W1 w'→w'.cell? ⟨b,2,none⟩=some (.slice (some ⟨g,0,none⟩) T.ZY.length cp)∧w'.cell? ⟨w,1,none⟩=some (.int .i64 p)∧w'.cell? ⟨w,2,none⟩=some (.int .i64 n)∧Below W1 W1 w'):=fun w' h=>
  ⟨(h.cell (p:=⟨b,2,none⟩) mi).trans k2,(h.cell (p:=⟨w,1,none⟩) M5).trans x1,(h.cell (p:=⟨w,2,none⟩) M5).trans x2,h⟩
 have J2:Hid (∀w',Below W1 W1 w'→(w'.cell? ⟨w,1,none⟩=some (.int .i64 p)∧w'.cell? ⟨w,2,none⟩=some (.int .i64 n)∧w'.cell? ⟨w,3,none⟩=some (.int .i64 la))∧(w'.cell? ⟨g,q*4,none⟩=some (.int .i64 T.ZY[q].peer)∧w'.cell? ⟨g,q*4+1,none⟩=some (.int .i64 T.ZY[q].source)∧w'.cell? ⟨g,q*4+2,none⟩=some (.int .i64 T.ZY[q].want)∧w'.cell? ⟨g,q*4+3,none⟩=some (.bool T.ZY[q].ZV))∧w'.frozen? ⟨g,q*4+3,none⟩=false):=fun w' h=>
  ⟨⟨(h.cell (p:=⟨w,1,none⟩) M5).trans x1,(h.cell (p:=⟨w,2,none⟩) M5).trans x2,(h.cell (p:=⟨w,3,none⟩) M5).trans x3⟩,⟨(h.cell (p:=⟨g,q*4,none⟩) O0).trans d0,(h.cell (p:=⟨g,q*4+1,none⟩) O0).trans d1,(h.cell (p:=⟨g,q*4+2,none⟩) O0).trans d2,(h.cell (p:=⟨g,q*4+3,none⟩) O0).trans d3⟩,(h.frozen (p:=⟨g,q*4+3,none⟩) O0).trans (sD _)⟩
 have EU:Hid (∀w',Below W1 W1 w'→ZM (w'.setCell ⟨g,q*4+3,none⟩ (.bool true)) b (T.ZQ p n (T.changed ⟨kd,p,n,la,nm,ss⟩ 4))∧Fr w (· = b) w (w'.setCell ⟨g,q*4+3,none⟩ (.bool true))):=fun w' h=>by
  have hr:=Rt.o.below h;have gX:=Zv T9.o h;have hf:Fr w' (· = g) w' (w'.setCell ⟨g,q*4+3,none⟩ (.bool true)):=(Fr.refl _ _ _).setAt _ _
  have om:w'.heap[g]?=some (.cells cur 105):=by
   rw[h.block g O0];exact uC
  have GX:∀e,105≠e→∀k c fr,k=g→w'.heap[k]?≠some (.cells c e fr):=by
   intro e he k c fr hk;subst hk;rw[om];exact Uo he
  have FB:=hr.lt;have qo:=U_ gX Zo (i:=q*4+3) (.bool true);exact Yx25
 have jb:Hid (∀w1,Below W1 W1 w1→Calls prog 51 (Qu (some ⟨b,0,none⟩) p n) w1 fun e w'=>e = .returned (.int .i64 q)∧Below w1 w1 w'):=fun w1 h=>CB.o w1 (by have:=Rt.o.below h;exact this)
 have Nw:Below W1 W1 W1:=YI _ _;have hqI:(q:Int)<(T.ZY.length:Int):=P6.2 hq;have hq0:(0:Int)≤(q:Int):=n7 q
 have Mo:Hid ((T.changed ⟨kd,p,n,la,nm,ss⟩ 4).peer=T.ZY[q].peer∧(T.changed ⟨kd,p,n,la,nm,ss⟩ 4).source=n):=by
  show _∧_;rw[HX.o];simp at Hj;exact⟨rfl,Hj.2⟩
 have HPS:Hid (T.ZY[q].peer=p∧T.ZY[q].source=n):=by simp at Hj;exact Hj
 clear d0 d1 d2 d3 NJ V5 x1 x2 x3 sD uC k2 HQ T9 D5 Hj;go_wp2_with fail
 go_region_held3 (fun w'=>w'.cell? ⟨b,2,none⟩=some (.slice (some ⟨g,0,none⟩) T.ZY.length cp)∧w'.cell? ⟨w,1,none⟩=some (.int .i64 p)∧w'.cell? ⟨w,2,none⟩=some (.int .i64 n)∧Below W1 W1 w') (first|(exact ZB.o _ WQ)|(exact ZB.o _ (Below.drew WQ))|go_keep) (first|(go_at_call 51;go_split_ands;(with_reducible refine Calls.mono (jb.o _ WQ) ?_);rintro e V ⟨rfl,Nq⟩;have MW:=Heap.Below.call WQ (Zw _) Nq)|fail)
 obtain⟨⟨x1,x2,x3⟩,⟨d0,d1,d2,d3⟩,z0⟩:=J2.o _ MW;have qu:=MW.size;have BS:=Zh MW;have hgV:¬g=V.heap.size:=by omega
 have hgV2:¬V.heap.size=g:=by omega
 have hzV:w.heap.size<V.heap.size:=by omega
 have hzg:g<V.heap.size:=by omega
 have om:¬g=w.heap.size:=by omega
 have hgw2:¬w.heap.size=g:=by omega
 have hVw:¬V.heap.size=w.heap.size:=by omega
 clear Nw Nq MW;go_wp2_with fail
 obtain⟨hA1,hA2⟩:=EU.o V BS.o;go_ret;have nV:Hid (T.change ⟨kd,p,n,la,nm,ss⟩ 4=([⟨4,p,n,0,0⟩],T.ZQ p n (T.changed ⟨kd,p,n,la,nm,ss⟩ 4))):=by show _=_;rw[HCH.o,HX.o];simp
 rw[nV.o];exact⟨⟨_,rfl,Yw _ _ 1 _ ([⟨4,p,n,0,0⟩].flatMap Z7) Zd Zi⟩,(hA1.alloc _).alloc _,(hA2.alloc Uf _).alloc Uf _⟩
theorem Ea(b:Nat)(T:ZO)(o:Op)(sa ba:Option Addr)(sl sc bl bc:Nat)(w:World)(hR:ZM w b T)(Vl:T.Small)(hs:0≤T.Y6 o.peer o.source)(Pv:0≤T.YV o.source)(S6:0≤(T.changed o 5).want∧(T.changed o 5).want<(T.V6 o.source).ss.length) :
  Calls prog 102 (Qt (some ⟨b,0,none⟩) (Jq o sa sl sc ba bl bc) 5) w fun e w'=>(∃v,e = .returned v∧YD w' v (T.change o 5).1)∧ZM w' b (T.change o 5).2∧Fr w (· = b) w w':=by
 obtain⟨kd,p,n,la,nm,ss⟩:=o;dsimp only at hs Pv S6 ⊢;have hb:=hR.lt;obtain⟨q,hq,L8,Hj,-⟩:=XE hs;have L8:T.Y6 p n=q:=L8;have CB:=Zh (fun(w1:World) (h:ZM w1 b T)=>Wo b T p n w1 h);rw[L8]at CB
 have HX:Hid (T.changed ⟨kd,p,n,la,nm,ss⟩ 5={T.ZY[q]with ZV:=false}):=by
  show _=_;unfold ZO.changed ZO.Ol;dsimp only;rw[L8,Wl,MR hq];rfl
 have HT1:Hid (T.ZQ p n (T.changed ⟨kd,p,n,la,nm,ss⟩ 5)={T with ZY:=T.ZY.set q ({T.ZY[q]with ZV:=false})}):=by
  show _=_;rw[HX.o];unfold ZO.ZQ;rw[L8,Wl]
 have HCH:Hid (T.change ⟨kd,p,n,la,nm,ss⟩ 5=(⟨5,p,n,0,0⟩ :: (if(T.changed ⟨kd,p,n,la,nm,ss⟩ 5).ZV||((T.ZQ p n (T.changed ⟨kd,p,n,la,nm,ss⟩ 5)).V6 n).ZN then[]else[(T.ZQ p n (T.changed ⟨kd,p,n,la,nm,ss⟩ 5)).ask (T.changed ⟨kd,p,n,la,nm,ss⟩ 5)]),T.ZQ p n (T.changed ⟨kd,p,n,la,nm,ss⟩ 5))):=rfl;obtain⟨pv,sv,uv,Yn,XF⟩:=hR.Vv;have UC:=XF.ZY;have Us:=Vl.ZY;unfold small at Us;have HR:=Zh hR;have rQ:=Zh UC;have c2:=cell_of Yn 2;have f2:=hR.YB 2;obtain⟨ua,Ld,rfl,OX,-,-⟩:=id UC;have D6:=Zh Pv;have ML:=Zh S6;have D5:=Zh (Km Zq 4 (fun _=>rfl) (i:=3) Zd (.bool false) ({T.ZY[q]with ZV:=false}) T.ZY q hq rfl);have Al:=Zh (Tq T.ZY);have P9:Hid (Row (w.alloc (.cells (Qa kd p n la (str nm) sa sl sc ba bl bc) 32)) 105 (.slice ua T.ZY.length Ld) T.ZY.length (T.ZY.flatMap Zq)):=UC.below (Z' _ _);have c2a:=((Z' w (.cells (Qa kd p n la (str nm) sa sl sc ba bl bc) 32)).cell (p:=⟨b,2,none⟩) hb).trans c2;have f2a:=((Z' w (.cells (Qa kd p n la (str nm) sa sl sc ba bl bc) 32)).frozen (p:=⟨b,2,none⟩) hb).trans f2;have cW:=hR.below (Z' w (.cells (Qa kd p n la (str nm) sa sl sc ba bl bc) 32));have hWs:=World.size_alloc w (.cells (Qa kd p n la (str nm) sa sl sc ba bl bc) 32);have hBX:=Z9 w (.cells (Qa kd p n la (str nm) sa sl sc ba bl bc) 32);have SZ:Hid (Below w w (w.alloc (.cells (Qa kd p n la (str nm) sa sl sc ba bl bc) 32))):=Z' _ _
 clear Yn XF UC hR Vl hs L8 c2 f2 Pv S6;go_enter func102,ntmps102;go_upto_region 1 with fail
 generalize w.alloc (.cells (Qa kd p n la (str nm) sa sl sc ba bl bc) 32)=W0 at *
 go_wp2_with (at_builtin;refine YO rfl (.const (.slice none 0 0)) (.tmp 13) 49 rfl (w.heap.size+1) Ug (.slice none 0 0) 0 [] rfl (TV _ _ _ _) (.slice ua T.ZY.length Ld) T.ZY.length (T.ZY.flatMap Zq) rfl P9.o Al.o (Tt _) Zo Zo Zo (fun v1 w2 oQ HG=>?_);have HQ:Hid (w2.ownsRow (w.heap.size+1) 105 4 v1 T.ZY.length (T.ZY.flatMap Zq)):=kf;clear oQ;have Yp:Below (w.heap.size+1) W0 w2:=(YI _ _).grown HG.o Zo (fun k hk=>by cases hk);have c2:=(Yp.cell (p:=⟨b,2,none⟩) T_).trans c2a;have f2:=(Yp.frozen (p:=⟨b,2,none⟩) T_).trans f2a;obtain⟨g,cp,cur,hv,uD,Ij⟩:=O9 HQ.o Zo;subst hv)
 have wV:=Zh Yp;have Rt:=Zh ((cW.below (Yp.mono Zo)).K6 (Row.Z4 HQ.o));have Ku:g≠b:=by omega
 have T9:=Zh (Wv HQ.o ((Fr.refl w2 (· = b) w2).setAt 2 (.slice (some ⟨g,0,none⟩) T.ZY.length cp)) (fun k hk=>by omega));have Ha:Hid (Fr (w.heap.size+1) (· = b) W0 (w2.setCell ⟨b,2,none⟩ (.slice (some ⟨g,0,none⟩) T.ZY.length cp))):=(Fr.Z6 _ Yp).setAt _ _;have k2:(w2.setCell ⟨b,2,none⟩ (.slice (some ⟨g,0,none⟩) T.ZY.length cp)).cell? ⟨b,2,none⟩=some (.slice (some ⟨g,0,none⟩) T.ZY.length cp):=nZ _ _ _ c2
 have gN:g<w2.heap.size:=by
  exact ki
 have uC:(w2.setCell ⟨b,2,none⟩ (.slice (some ⟨g,0,none⟩) T.ZY.length cp)).heap[g]?=some (.cells cur 105):=by simp[World.setCell,Array.getElem?_modify,Ku.symm,Ij]
 have P8:=size_setCell w2 ⟨b,2,none⟩ (.slice (some ⟨g,0,none⟩) T.ZY.length cp);have di:=Yp.size;clear c2 f2 Ij Yp cW;generalize w2.setCell ⟨b,2,none⟩ (.slice (some ⟨g,0,none⟩) T.ZY.length cp)=W1 at *
 have sD:∀j,W1.frozen? ⟨g,j,none⟩=false:=fun j=>by simp[World.frozen?,uC]
 obtain⟨g',off',e1,NJ⟩:=Om (Row.Z4 T9.o) Zo;cases e1;obtain⟨d0,d1,d2,d3⟩:=NJ q T.ZY[q] (Ve hq);rw[PW]at d0 d1 d2 d3;have V5:=fun(j:Nat)=>(Ha.o.cell (p:=⟨w,j,none⟩) T_ T_).trans (cell_of hBX j)
 have x1:W1.cell? ⟨w,1,none⟩=some (.int .i64 p):=V5 1;have x2:W1.cell? ⟨w,2,none⟩=some (.int .i64 n):=V5 2;have x3:W1.cell? ⟨w,3,none⟩=some (.int .i64 la):=V5 3;have M5:w.heap.size<W1.heap.size:=by omega
 have mi:b<W1.heap.size:=by omega
 have O0:g<W1.heap.size:=by omega
 have ZB:Hid (∀w',Below W1 W1 w'→w'.cell? ⟨b,2,none⟩=some (.slice (some ⟨g,0,none⟩) T.ZY.length cp)∧w'.cell? ⟨w,1,none⟩=some (.int .i64 p)∧w'.cell? ⟨w,2,none⟩=some (.int .i64 n)∧Below W1 W1 w'):=fun w' h=>
  ⟨(h.cell (p:=⟨b,2,none⟩) mi).trans k2,(h.cell (p:=⟨w,1,none⟩) M5).trans x1,(h.cell (p:=⟨w,2,none⟩) M5).trans x2,h⟩
 have J2:Hid (∀w',Below W1 W1 w'→(w'.cell? ⟨w,1,none⟩=some (.int .i64 p)∧w'.cell? ⟨w,2,none⟩=some (.int .i64 n)∧w'.cell? ⟨w,3,none⟩=some (.int .i64 la))∧(w'.cell? ⟨g,q*4,none⟩=some (.int .i64 T.ZY[q].peer)∧w'.cell? ⟨g,q*4+1,none⟩=some (.int .i64 T.ZY[q].source)∧w'.cell? ⟨g,q*4+2,none⟩=some (.int .i64 T.ZY[q].want)∧w'.cell? ⟨g,q*4+3,none⟩=some (.bool T.ZY[q].ZV))∧w'.frozen? ⟨g,q*4+3,none⟩=false):=fun w' h=>
  ⟨⟨(h.cell (p:=⟨w,1,none⟩) M5).trans x1,(h.cell (p:=⟨w,2,none⟩) M5).trans x2,(h.cell (p:=⟨w,3,none⟩) M5).trans x3⟩,⟨(h.cell (p:=⟨g,q*4,none⟩) O0).trans d0,(h.cell (p:=⟨g,q*4+1,none⟩) O0).trans d1,(h.cell (p:=⟨g,q*4+2,none⟩) O0).trans d2,(h.cell (p:=⟨g,q*4+3,none⟩) O0).trans d3⟩,(h.frozen (p:=⟨g,q*4+3,none⟩) O0).trans (sD _)⟩
 have EU:Hid (∀w',Below W1 W1 w'→ZM (w'.setCell ⟨g,q*4+3,none⟩ (.bool false)) b (T.ZQ p n (T.changed ⟨kd,p,n,la,nm,ss⟩ 5))∧Fr w (· = b) w (w'.setCell ⟨g,q*4+3,none⟩ (.bool false))):=fun w' h=>by
  have hr:=Rt.o.below h;have gX:=Zv T9.o h;have hf:Fr w' (· = g) w' (w'.setCell ⟨g,q*4+3,none⟩ (.bool false)):=(Fr.refl _ _ _).setAt _ _
  have om:w'.heap[g]?=some (.cells cur 105):=by
   rw[h.block g O0];exact uC
  have GX:∀e,105≠e→∀k c fr,k=g→w'.heap[k]?≠some (.cells c e fr):=by
   intro e he k c fr hk;subst hk;rw[om];exact Uo he
  have FB:=hr.lt;have qo:=U_ gX Zo (i:=q*4+3) (.bool false);exact Yx25
 have jb:Hid (∀w1,Below W1 W1 w1→Calls prog 51 (Qu (some ⟨b,0,none⟩) p n) w1 fun e w'=>e = .returned (.int .i64 q)∧Below w1 w1 w'):=fun w1 h=>CB.o w1 (by have:=Rt.o.below h;exact this)
 have Nw:Below W1 W1 W1:=YI _ _;have hqI:(q:Int)<(T.ZY.length:Int):=P6.2 hq;have hq0:(0:Int)≤(q:Int):=n7 q
 have Mo:Hid ((T.changed ⟨kd,p,n,la,nm,ss⟩ 5).peer=T.ZY[q].peer∧(T.changed ⟨kd,p,n,la,nm,ss⟩ 5).source=n):=by
  show _∧_;rw[HX.o];simp at Hj;exact⟨rfl,Hj.2⟩
 have HPS:Hid (T.ZY[q].peer=p∧T.ZY[q].source=n):=by simp at Hj;exact Hj
 clear d0 d1 d2 d3 NJ V5 x1 x2 x3 sD uC k2 HQ T9 D5 Hj;go_wp2_with fail
 go_region_held3 (fun w'=>w'.cell? ⟨b,2,none⟩=some (.slice (some ⟨g,0,none⟩) T.ZY.length cp)∧w'.cell? ⟨w,1,none⟩=some (.int .i64 p)∧w'.cell? ⟨w,2,none⟩=some (.int .i64 n)∧Below W1 W1 w') (first|(exact ZB.o _ WQ)|(exact ZB.o _ (Below.drew WQ))|go_keep) (first|(go_at_call 51;go_split_ands;(with_reducible refine Calls.mono (jb.o _ WQ) ?_);rintro e V ⟨rfl,Nq⟩;have MW:=Heap.Below.call WQ (Zw _) Nq)|fail)
 obtain⟨⟨x1,x2,x3⟩,⟨d0,d1,d2,d3⟩,z0⟩:=J2.o _ MW;have qu:=MW.size;have BS:=Zh MW;have hgV:¬g=V.heap.size:=by omega
 have hgV2:¬V.heap.size=g:=by omega
 have hzV:w.heap.size<V.heap.size:=by omega
 have hzg:g<V.heap.size:=by omega
 have om:¬g=w.heap.size:=by omega
 have hgw2:¬w.heap.size=g:=by omega
 have hVw:¬V.heap.size=w.heap.size:=by omega
 clear Nw Nq MW;go_wp2_with fail
 obtain⟨hA1,hA2⟩:=EU.o V BS.o;obtain⟨m,hm,OW,-,-⟩:=XE D6.o;have OW:T.YV n=m:=OW
 have nT:Hid (((T.ZQ p n (T.changed ⟨kd,p,n,la,nm,ss⟩ 5)).V6 n).ZN=T.Yj[m].ZN):=by
  show(T.Yj.getD (T.YV n).toNat UI).ZN=_;rw[OW,Wl,Q_,Ve hm];rfl
 have DX:Hid (∀w1,ZM w1 b (T.ZQ p n (T.changed ⟨kd,p,n,la,nm,ss⟩ 5))→Calls prog 99 (Qi (some ⟨b,0,none⟩) (Qk T.ZY[q].peer T.ZY[q].source ({T.ZY[q]with ZV:=false}).want ({T.ZY[q]with ZV:=false}).ZV)) w1 fun e w'=>e = .returned (VZ ((T.ZQ p n (T.changed ⟨kd,p,n,la,nm,ss⟩ 5)).ask (T.changed ⟨kd,p,n,la,nm,ss⟩ 5)))∧Below w1 w1 w'):=fun w1 h=>by
  have h1:=GL b (T.ZQ p n (T.changed ⟨kd,p,n,la,nm,ss⟩ 5)) (T.changed ⟨kd,p,n,la,nm,ss⟩ 5) w1 h (by rw[Mo.o.2];exact D6.o) (by rw[Mo.o.2];exact ML.o);rw[HX.o]at h1 ⊢;exact h1
 have CS:Hid (∀w1,ZM w1 b (T.ZQ p n (T.changed ⟨kd,p,n,la,nm,ss⟩ 5))→Calls prog 49 (Qj (some ⟨b,0,none⟩) n) w1 fun e w'=>e = .returned (.int .i64 m)∧Below w1 w1 w'):=fun w1 h=>by
  have h1:=VV b _ n w1 h;rw[show(T.ZQ p n (T.changed ⟨kd,p,n,la,nm,ss⟩ 5)).YV n=m from OW]at h1;exact h1
 have hJ:=size_setCell V ⟨g,q*4+3,none⟩ (.bool false);have y0:(V.setCell ⟨g,q*4+3,none⟩ (.bool false)).cell? ⟨g,q*4,none⟩=some (.int .i64 T.ZY[q].peer):=(World.cell?_setCell_other _ _ _ _ Zi).trans d0;have y1:(V.setCell ⟨g,q*4+3,none⟩ (.bool false)).cell? ⟨g,q*4+1,none⟩=some (.int .i64 T.ZY[q].source):=(World.cell?_setCell_other _ _ _ _ Zi).trans d1;have y2:(V.setCell ⟨g,q*4+3,none⟩ (.bool false)).cell? ⟨g,q*4+2,none⟩=some (.int .i64 ({T.ZY[q]with ZV:=false}).want):=(World.cell?_setCell_other _ _ _ _ Zi).trans d2;have y3:(V.setCell ⟨g,q*4+3,none⟩ (.bool false)).cell? ⟨g,q*4+3,none⟩=some (.bool ({T.ZY[q]with ZV:=false}).ZV):=nZ _ _ _ d3;have yb:(V.setCell ⟨g,q*4+3,none⟩ (.bool false)).cell? ⟨w,2,none⟩=some (.int .i64 n):=(World.cell?_setCell_other _ _ _ _ (by simp <;> omega)).trans x2;generalize V.setCell ⟨g,q*4+3,none⟩ (.bool false)=W5 at *
 have ht:=Z9 W5 (.cells (Qh 5 p n 0 0) 158);rw[hJ]at ht;have Uj:=Z' W5 (.cells (Qh 5 p n 0 0) 158);have lg:=hA1.alloc (.cells (Qh 5 p n 0 0) 158);have cS:=hA2.alloc Zo (.cells (Qh 5 p n 0 0) 158);have dW:=(Uj.cell (p:=⟨g,q*4,none⟩) T_).trans y0;have y1':=(Uj.cell (p:=⟨g,q*4+1,none⟩) T_).trans y1;have iD:=(Uj.cell (p:=⟨g,q*4+2,none⟩) T_).trans y2;have dX:=(Uj.cell (p:=⟨g,q*4+3,none⟩) T_).trans y3;have yb':=(Uj.cell (p:=⟨w,2,none⟩) T_).trans yb;have hU:=World.size_alloc W5 (.cells (Qh 5 p n 0 0) 158);generalize W5.alloc (.cells (Qh 5 p n 0 0) 158)=W6 at *
 clear y0 y1 y2 y3 yb Uj hA1 hA2 d0 d1 d2 d3 z0 x1 x2 x3;have xy:=Zh lg;have bF:=Zh cS;obtain⟨pv6,sv6,uv6,MX,Im⟩:=lg.Vv;obtain⟨P,Tj,U1,Bd⟩:=Im.Yj;have Tj:P.map Prod.fst=T.Yj:=Tj;have lM:m<P.length:=by rw[←Tj,Tx]at hm;exact hm
 have cT:=U1.len;have s1:=cell_of MX 1;obtain⟨pa,pc,rfl,-,-⟩:=id U1;obtain⟨gs,QO,e4,TN⟩:=Su U1 Zo;subst e4;obtain⟨-,-,-,s4⟩:=TN m P[m] (Ve lM)
 have cU:P[m].1.ZN=T.Yj[m].ZN:=by
  have:(P.map Prod.fst)[m]?=T.Yj[m]?:=by rw[Tj]
  rw[List.getElem?_map,Ve lM,Ve hm]at this;simp at this;rw[this]
 rw[cU]at s4
 have hgs:gs<W6.heap.size:=by
  exact Yt26
 have lL:(m:Int)<(P.length:Int):=P6.2 lM;have qg:(0:Int)≤(m:Int):=n7 m;have Cv:b<W6.heap.size:=by omega
 have sB:g<W6.heap.size:=by omega
 have Ct:V.heap.size<W6.heap.size:=by omega
 have aM:w.heap.size<W6.heap.size:=by omega
 have FI:w.heap.size≤W6.heap.size:=by omega
 have GY:n=T.ZY[q].source:=HPS.o.2.symm;clear MX Im Tj U1 Bd TN cU lg cS OW;generalize P.length=NP at *
 generalize T.Yj[m].ZN=mu at *
 have U0:Hid (∀w',Below W6 W6 w'→(w'.cell? ⟨g,q*4,none⟩=some (.int .i64 T.ZY[q].peer)∧w'.cell? ⟨g,q*4+1,none⟩=some (.int .i64 T.ZY[q].source)∧w'.cell? ⟨g,q*4+2,none⟩=some (.int .i64 ({T.ZY[q]with ZV:=false}).want)∧w'.cell? ⟨g,q*4+3,none⟩=some (.bool ({T.ZY[q]with ZV:=false}).ZV))∧(w'.cell? ⟨V,0,none⟩=some (.int .i64 5)∧w'.cell? ⟨V,1,none⟩=some (.int .i64 p)∧w'.cell? ⟨V,2,none⟩=some (.int .i64 n)∧w'.cell? ⟨V,3,none⟩=some (.int .i64 0)∧w'.cell? ⟨V,4,none⟩=some (.int .u32 0))∧w'.cell? ⟨w,2,none⟩=some (.int .i64 n)∧w'.cell? ⟨b,1,none⟩=some (.slice (some ⟨gs,QO,none⟩) NP pc)∧w'.cell? ⟨gs,QO+m*4+3,none⟩=some (.bool mu)∧Below W6 W6 w'):=fun w' h=>
  ⟨⟨(h.cell (p:=⟨g,q*4,none⟩) sB).trans dW,(h.cell (p:=⟨g,q*4+1,none⟩) sB).trans y1',(h.cell (p:=⟨g,q*4+2,none⟩) sB).trans iD,(h.cell (p:=⟨g,q*4+3,none⟩) sB).trans dX⟩,⟨(h.cell (p:=⟨V,0,none⟩) Ct).trans (cell_of ht 0),(h.cell (p:=⟨V,1,none⟩) Ct).trans (cell_of ht 1),(h.cell (p:=⟨V,2,none⟩) Ct).trans (cell_of ht 2),(h.cell (p:=⟨V,3,none⟩) Ct).trans (cell_of ht 3),(h.cell (p:=⟨V,4,none⟩) Ct).trans (cell_of ht 4)⟩,(h.cell (p:=⟨w,2,none⟩) aM).trans yb',(h.cell (p:=⟨b,1,none⟩) Cv).trans s1,(h.cell (p:=⟨gs,QO+m*4+3,none⟩) hgs).trans s4,h⟩
 have oP:Hid ((T.changed ⟨kd,p,n,la,nm,ss⟩ 5).ZV=({T.ZY[q]with ZV:=false}).ZV):=by show _=_;rw[HX.o]
 generalize T.ZQ p n (T.changed ⟨kd,p,n,la,nm,ss⟩ 5)=T1 at *
 generalize T1.ask (T.changed ⟨kd,p,n,la,nm,ss⟩ 5)=TA at *
 generalize(T.changed ⟨kd,p,n,la,nm,ss⟩ 5).ZV=cpau at *
 clear ht dW y1' iD s1 s4 hm D6 ML HX Mo HT1 EU ZB J2 Rt Ha SZ wV BS rQ P9 HR CB jb HPS Al;dsimp only at U0 DX dX oP;generalize T.ZY[q].source=xs at *
 generalize T.ZY[q].peer=xp at *
 generalize T.ZY[q].want=xw at *
 subst GY;have Nw:Below W6 W6 W6:=YI _ _;have nV:Hid (T.change ⟨kd,p,n,la,nm,ss⟩ 5=(⟨5,p,n,0,0⟩ :: (if mu then[]else[TA]),T1)):=by show _=_;rw[HCH.o,oP.o,nT.o];simp
 go_upto_region 13 with fail
 go_cut [73] (fun s73 wx=>s73 = .bool mu∧Below W6 W6 wx)
 case first=>
  go_region_held3 (fun w'=>(w'.cell? ⟨g,q*4,none⟩=some (.int .i64 xp)∧w'.cell? ⟨g,q*4+1,none⟩=some (.int .i64 n)∧w'.cell? ⟨g,q*4+2,none⟩=some (.int .i64 xw)∧w'.cell? ⟨g,q*4+3,none⟩=some (.bool false))∧(w'.cell? ⟨V,0,none⟩=some (.int .i64 5)∧w'.cell? ⟨V,1,none⟩=some (.int .i64 p)∧w'.cell? ⟨V,2,none⟩=some (.int .i64 n)∧w'.cell? ⟨V,3,none⟩=some (.int .i64 0)∧w'.cell? ⟨V,4,none⟩=some (.int .u32 0))∧w'.cell? ⟨w,2,none⟩=some (.int .i64 n)∧w'.cell? ⟨b,1,none⟩=some (.slice (some ⟨gs,QO,none⟩) NP pc)∧w'.cell? ⟨gs,QO+m*4+3,none⟩=some (.bool mu)∧Below W6 W6 w') (first|(exact U0.o _ WQ)|(exact U0.o _ (Below.drew WQ))|go_keep) (first|(go_at_call 49;go_split_ands;(with_reducible refine Calls.mono (CS.o _ (xy.o.below WQ)) ?_);rintro e V2 ⟨rfl,Nq⟩;have MW:=Heap.Below.call WQ (Zw _) Nq)|fail)
  all_goals(go_wp2_with fail;go_meet;exact⟨rfl,by first|with_reducible assumption|exact Below.drew WQ⟩)
 case rest=>
  clear Nw;obtain⟨rfl,Nz⟩:=hcut;obtain⟨W7,rfl⟩:∃W7:World,W7=wc:=⟨_,rfl⟩;cases mu
  ·go_upto_region 15 with fail
   go_cut [6] (fun s6 wx=>YD wx s6 [⟨5,p,n,0,0⟩,TA]∧Below W6 W6 wx)
   case first=>
    go_region_held3 (fun w'=>(w'.cell? ⟨g,q*4,none⟩=some (.int .i64 xp)∧w'.cell? ⟨g,q*4+1,none⟩=some (.int .i64 n)∧w'.cell? ⟨g,q*4+2,none⟩=some (.int .i64 xw)∧w'.cell? ⟨g,q*4+3,none⟩=some (.bool false))∧(w'.cell? ⟨V,0,none⟩=some (.int .i64 5)∧w'.cell? ⟨V,1,none⟩=some (.int .i64 p)∧w'.cell? ⟨V,2,none⟩=some (.int .i64 n)∧w'.cell? ⟨V,3,none⟩=some (.int .i64 0)∧w'.cell? ⟨V,4,none⟩=some (.int .u32 0))∧w'.cell? ⟨w,2,none⟩=some (.int .i64 n)∧w'.cell? ⟨b,1,none⟩=some (.slice (some ⟨gs,QO,none⟩) NP pc)∧w'.cell? ⟨gs,QO+m*4+3,none⟩=some (.bool false)∧Below W6 W6 w') (first|(exact U0.o _ WQ)|(exact U0.o _ (Below.drew WQ))|(exact U0.o _ (Heap.Below.alloc' WQ (Zw _) _))|(exact U0.o _ (Heap.Below.alloc' (Below.drew WQ) (Zw _) _))|go_keep) (first|(go_at_call 99;go_split_ands;(with_reducible refine Calls.mono (DX.o _ (xy.o.below WQ)) ?_);rintro e V3 ⟨rfl,Nq⟩;have Eg:=Heap.Below.call WQ (Zw _) Nq;unfold VZ)|fail)
    go_wp2_with fail
    go_meet;exact⟨Yw _ _ 2 _ ([⟨5,p,n,0,0⟩,TA].flatMap Z7) Zd rfl,Eg.alloc Eg.size _⟩
   case rest=>
    exact cg
  ·obtain⟨-,⟨t0,t1,t2,t3,t4⟩,-⟩:=U0.o _ Nz;have hzt:V.heap.size<W7.heap.size:=OB Ct Nz.size;go_wp2;go_ret;rw[nV.o];exact⟨⟨_,rfl,Yw _ _ 1 _ ([⟨5,p,n,0,0⟩].flatMap Z7) Zd rfl⟩,(xy.o.below Nz).alloc _,(bF.o.trans ((Fr.Z6 _ Nz).mono FI (fun _ _ h=>h))).alloc (PX FI Nz.size) _⟩
theorem xU(b:Nat)(T:ZO)(o:Op)(sa ba:Option Addr)(sl sc bl bc:Nat)(w:World)(hR:ZM w b T)(Vl:T.Small)(hs:0≤T.Y6 o.peer o.source)(Pv:0≤T.YV o.source)(S6:0≤(T.changed o 8).want∧(T.changed o 8).want<(T.V6 o.source).ss.length) :
  Calls prog 102 (Qt (some ⟨b,0,none⟩) (Jq o sa sl sc ba bl bc) 8) w fun e w'=>(∃v,e = .returned v∧YD w' v (T.change o 8).1)∧ZM w' b (T.change o 8).2∧Fr w (· = b) w w':=by
 obtain⟨kd,p,n,la,nm,ss⟩:=o;dsimp only at hs Pv S6 ⊢;have hb:=hR.lt;obtain⟨q,hq,L8,Hj,-⟩:=XE hs;have L8:T.Y6 p n=q:=L8;have CB:=Zh (fun(w1:World) (h:ZM w1 b T)=>Wo b T p n w1 h);rw[L8]at CB
 have HX:Hid (T.changed ⟨kd,p,n,la,nm,ss⟩ 8={T.ZY[q]with want:=la}):=by
  show _=_;unfold ZO.changed ZO.Ol;dsimp only;rw[L8,Wl,MR hq];rfl
 have HT1:Hid (T.ZQ p n (T.changed ⟨kd,p,n,la,nm,ss⟩ 8)={T with ZY:=T.ZY.set q ({T.ZY[q]with want:=la})}):=by
  show _=_;rw[HX.o];unfold ZO.ZQ;rw[L8,Wl]
 have HCH:Hid (T.change ⟨kd,p,n,la,nm,ss⟩ 8=(⟨8,p,n,la,0⟩ :: (if(T.changed ⟨kd,p,n,la,nm,ss⟩ 8).ZV||((T.ZQ p n (T.changed ⟨kd,p,n,la,nm,ss⟩ 8)).V6 n).ZN then[]else[(T.ZQ p n (T.changed ⟨kd,p,n,la,nm,ss⟩ 8)).ask (T.changed ⟨kd,p,n,la,nm,ss⟩ 8)]),T.ZQ p n (T.changed ⟨kd,p,n,la,nm,ss⟩ 8))):=rfl;obtain⟨pv,sv,uv,Yn,XF⟩:=hR.Vv;have UC:=XF.ZY;have Us:=Vl.ZY;unfold small at Us;have HR:=Zh hR;have rQ:=Zh UC;have c2:=cell_of Yn 2;have f2:=hR.YB 2;obtain⟨ua,Ld,rfl,OX,-,-⟩:=id UC;have D6:=Zh Pv;have ML:=Zh S6;have D5:=Zh (Km Zq 4 (fun _=>rfl) (i:=2) Zd (.int .i64 la) ({T.ZY[q]with want:=la}) T.ZY q hq rfl);have Al:=Zh (Tq T.ZY);have P9:Hid (Row (w.alloc (.cells (Qa kd p n la (str nm) sa sl sc ba bl bc) 32)) 105 (.slice ua T.ZY.length Ld) T.ZY.length (T.ZY.flatMap Zq)):=UC.below (Z' _ _);have c2a:=((Z' w (.cells (Qa kd p n la (str nm) sa sl sc ba bl bc) 32)).cell (p:=⟨b,2,none⟩) hb).trans c2;have f2a:=((Z' w (.cells (Qa kd p n la (str nm) sa sl sc ba bl bc) 32)).frozen (p:=⟨b,2,none⟩) hb).trans f2;have cW:=hR.below (Z' w (.cells (Qa kd p n la (str nm) sa sl sc ba bl bc) 32));have hWs:=World.size_alloc w (.cells (Qa kd p n la (str nm) sa sl sc ba bl bc) 32);have hBX:=Z9 w (.cells (Qa kd p n la (str nm) sa sl sc ba bl bc) 32);have SZ:Hid (Below w w (w.alloc (.cells (Qa kd p n la (str nm) sa sl sc ba bl bc) 32))):=Z' _ _
 clear Yn XF UC hR Vl hs L8 c2 f2 Pv S6;go_enter func102,ntmps102;go_upto_region 1 with fail
 generalize w.alloc (.cells (Qa kd p n la (str nm) sa sl sc ba bl bc) 32)=W0 at *
 go_wp2_with (at_builtin;refine YO rfl (.const (.slice none 0 0)) (.tmp 13) 49 rfl (w.heap.size+1) Ug (.slice none 0 0) 0 [] rfl (TV _ _ _ _) (.slice ua T.ZY.length Ld) T.ZY.length (T.ZY.flatMap Zq) rfl P9.o Al.o (Tt _) Zo Zo Zo (fun v1 w2 oQ HG=>?_);have HQ:Hid (w2.ownsRow (w.heap.size+1) 105 4 v1 T.ZY.length (T.ZY.flatMap Zq)):=kf;clear oQ;have Yp:Below (w.heap.size+1) W0 w2:=(YI _ _).grown HG.o Zo (fun k hk=>by cases hk);have c2:=(Yp.cell (p:=⟨b,2,none⟩) T_).trans c2a;have f2:=(Yp.frozen (p:=⟨b,2,none⟩) T_).trans f2a;obtain⟨g,cp,cur,hv,uD,Ij⟩:=O9 HQ.o Zo;subst hv)
 have wV:=Zh Yp;have Rt:=Zh ((cW.below (Yp.mono Zo)).K6 (Row.Z4 HQ.o));have Ku:g≠b:=by omega
 have T9:=Zh (Wv HQ.o ((Fr.refl w2 (· = b) w2).setAt 2 (.slice (some ⟨g,0,none⟩) T.ZY.length cp)) (fun k hk=>by omega));have Ha:Hid (Fr (w.heap.size+1) (· = b) W0 (w2.setCell ⟨b,2,none⟩ (.slice (some ⟨g,0,none⟩) T.ZY.length cp))):=(Fr.Z6 _ Yp).setAt _ _;have k2:(w2.setCell ⟨b,2,none⟩ (.slice (some ⟨g,0,none⟩) T.ZY.length cp)).cell? ⟨b,2,none⟩=some (.slice (some ⟨g,0,none⟩) T.ZY.length cp):=nZ _ _ _ c2
 have gN:g<w2.heap.size:=by
  exact ki
 have uC:(w2.setCell ⟨b,2,none⟩ (.slice (some ⟨g,0,none⟩) T.ZY.length cp)).heap[g]?=some (.cells cur 105):=by simp[World.setCell,Array.getElem?_modify,Ku.symm,Ij]
 have P8:=size_setCell w2 ⟨b,2,none⟩ (.slice (some ⟨g,0,none⟩) T.ZY.length cp);have di:=Yp.size;clear c2 f2 Ij Yp cW;generalize w2.setCell ⟨b,2,none⟩ (.slice (some ⟨g,0,none⟩) T.ZY.length cp)=W1 at *
 have sD:∀j,W1.frozen? ⟨g,j,none⟩=false:=fun j=>by simp[World.frozen?,uC]
 obtain⟨g',off',e1,NJ⟩:=Om (Row.Z4 T9.o) Zo;cases e1;obtain⟨d0,d1,d2,d3⟩:=NJ q T.ZY[q] (Ve hq);rw[PW]at d0 d1 d2 d3;have V5:=fun(j:Nat)=>(Ha.o.cell (p:=⟨w,j,none⟩) T_ T_).trans (cell_of hBX j)
 have x1:W1.cell? ⟨w,1,none⟩=some (.int .i64 p):=V5 1;have x2:W1.cell? ⟨w,2,none⟩=some (.int .i64 n):=V5 2;have x3:W1.cell? ⟨w,3,none⟩=some (.int .i64 la):=V5 3;have M5:w.heap.size<W1.heap.size:=by omega
 have mi:b<W1.heap.size:=by omega
 have O0:g<W1.heap.size:=by omega
 have ZB:Hid (∀w',Below W1 W1 w'→w'.cell? ⟨b,2,none⟩=some (.slice (some ⟨g,0,none⟩) T.ZY.length cp)∧w'.cell? ⟨w,1,none⟩=some (.int .i64 p)∧w'.cell? ⟨w,2,none⟩=some (.int .i64 n)∧Below W1 W1 w'):=fun w' h=>
  ⟨(h.cell (p:=⟨b,2,none⟩) mi).trans k2,(h.cell (p:=⟨w,1,none⟩) M5).trans x1,(h.cell (p:=⟨w,2,none⟩) M5).trans x2,h⟩
 have J2:Hid (∀w',Below W1 W1 w'→(w'.cell? ⟨w,1,none⟩=some (.int .i64 p)∧w'.cell? ⟨w,2,none⟩=some (.int .i64 n)∧w'.cell? ⟨w,3,none⟩=some (.int .i64 la))∧(w'.cell? ⟨g,q*4,none⟩=some (.int .i64 T.ZY[q].peer)∧w'.cell? ⟨g,q*4+1,none⟩=some (.int .i64 T.ZY[q].source)∧w'.cell? ⟨g,q*4+2,none⟩=some (.int .i64 T.ZY[q].want)∧w'.cell? ⟨g,q*4+3,none⟩=some (.bool T.ZY[q].ZV))∧w'.frozen? ⟨g,q*4+2,none⟩=false):=fun w' h=>
  ⟨⟨(h.cell (p:=⟨w,1,none⟩) M5).trans x1,(h.cell (p:=⟨w,2,none⟩) M5).trans x2,(h.cell (p:=⟨w,3,none⟩) M5).trans x3⟩,⟨(h.cell (p:=⟨g,q*4,none⟩) O0).trans d0,(h.cell (p:=⟨g,q*4+1,none⟩) O0).trans d1,(h.cell (p:=⟨g,q*4+2,none⟩) O0).trans d2,(h.cell (p:=⟨g,q*4+3,none⟩) O0).trans d3⟩,(h.frozen (p:=⟨g,q*4+2,none⟩) O0).trans (sD _)⟩
 have EU:Hid (∀w',Below W1 W1 w'→ZM (w'.setCell ⟨g,q*4+2,none⟩ (.int .i64 la)) b (T.ZQ p n (T.changed ⟨kd,p,n,la,nm,ss⟩ 8))∧Fr w (· = b) w (w'.setCell ⟨g,q*4+2,none⟩ (.int .i64 la))):=fun w' h=>by
  have hr:=Rt.o.below h;have gX:=Zv T9.o h;have hf:Fr w' (· = g) w' (w'.setCell ⟨g,q*4+2,none⟩ (.int .i64 la)):=(Fr.refl _ _ _).setAt _ _
  have om:w'.heap[g]?=some (.cells cur 105):=by
   rw[h.block g O0];exact uC
  have GX:∀e,105≠e→∀k c fr,k=g→w'.heap[k]?≠some (.cells c e fr):=by
   intro e he k c fr hk;subst hk;rw[om];exact Uo he
  have FB:=hr.lt;have qo:=U_ gX Zo (i:=q*4+2) (.int .i64 la);exact Yx25
 have jb:Hid (∀w1,Below W1 W1 w1→Calls prog 51 (Qu (some ⟨b,0,none⟩) p n) w1 fun e w'=>e = .returned (.int .i64 q)∧Below w1 w1 w'):=fun w1 h=>CB.o w1 (by have:=Rt.o.below h;exact this)
 have Nw:Below W1 W1 W1:=YI _ _;have hqI:(q:Int)<(T.ZY.length:Int):=P6.2 hq;have hq0:(0:Int)≤(q:Int):=n7 q
 have Mo:Hid ((T.changed ⟨kd,p,n,la,nm,ss⟩ 8).peer=T.ZY[q].peer∧(T.changed ⟨kd,p,n,la,nm,ss⟩ 8).source=n):=by
  show _∧_;rw[HX.o];simp at Hj;exact⟨rfl,Hj.2⟩
 have HPS:Hid (T.ZY[q].peer=p∧T.ZY[q].source=n):=by simp at Hj;exact Hj
 clear d0 d1 d2 d3 NJ V5 x1 x2 x3 sD uC k2 HQ T9 D5 Hj;go_wp2_with fail
 go_region_held3 (fun w'=>w'.cell? ⟨b,2,none⟩=some (.slice (some ⟨g,0,none⟩) T.ZY.length cp)∧w'.cell? ⟨w,1,none⟩=some (.int .i64 p)∧w'.cell? ⟨w,2,none⟩=some (.int .i64 n)∧Below W1 W1 w') (first|(exact ZB.o _ WQ)|(exact ZB.o _ (Below.drew WQ))|go_keep) (first|(go_at_call 51;go_split_ands;(with_reducible refine Calls.mono (jb.o _ WQ) ?_);rintro e V ⟨rfl,Nq⟩;have MW:=Heap.Below.call WQ (Zw _) Nq)|fail)
 obtain⟨⟨x1,x2,x3⟩,⟨d0,d1,d2,d3⟩,z0⟩:=J2.o _ MW;have qu:=MW.size;have BS:=Zh MW;have hgV:¬g=V.heap.size:=by omega
 have hgV2:¬V.heap.size=g:=by omega
 have hzV:w.heap.size<V.heap.size:=by omega
 have hzg:g<V.heap.size:=by omega
 have om:¬g=w.heap.size:=by omega
 have hgw2:¬w.heap.size=g:=by omega
 have hVw:¬V.heap.size=w.heap.size:=by omega
 clear Nw Nq MW;go_wp2_with fail
 obtain⟨hA1,hA2⟩:=EU.o V BS.o;obtain⟨m,hm,OW,-,-⟩:=XE D6.o;have OW:T.YV n=m:=OW
 have nT:Hid (((T.ZQ p n (T.changed ⟨kd,p,n,la,nm,ss⟩ 8)).V6 n).ZN=T.Yj[m].ZN):=by
  show(T.Yj.getD (T.YV n).toNat UI).ZN=_;rw[OW,Wl,Q_,Ve hm];rfl
 have DX:Hid (∀w1,ZM w1 b (T.ZQ p n (T.changed ⟨kd,p,n,la,nm,ss⟩ 8))→Calls prog 99 (Qi (some ⟨b,0,none⟩) (Qk T.ZY[q].peer T.ZY[q].source ({T.ZY[q]with want:=la}).want ({T.ZY[q]with want:=la}).ZV)) w1 fun e w'=>e = .returned (VZ ((T.ZQ p n (T.changed ⟨kd,p,n,la,nm,ss⟩ 8)).ask (T.changed ⟨kd,p,n,la,nm,ss⟩ 8)))∧Below w1 w1 w'):=fun w1 h=>by
  have h1:=GL b (T.ZQ p n (T.changed ⟨kd,p,n,la,nm,ss⟩ 8)) (T.changed ⟨kd,p,n,la,nm,ss⟩ 8) w1 h (by rw[Mo.o.2];exact D6.o) (by rw[Mo.o.2];exact ML.o);rw[HX.o]at h1 ⊢;exact h1
 have CS:Hid (∀w1,ZM w1 b (T.ZQ p n (T.changed ⟨kd,p,n,la,nm,ss⟩ 8))→Calls prog 49 (Qj (some ⟨b,0,none⟩) n) w1 fun e w'=>e = .returned (.int .i64 m)∧Below w1 w1 w'):=fun w1 h=>by
  have h1:=VV b _ n w1 h;rw[show(T.ZQ p n (T.changed ⟨kd,p,n,la,nm,ss⟩ 8)).YV n=m from OW]at h1;exact h1
 have hJ:=size_setCell V ⟨g,q*4+2,none⟩ (.int .i64 la);have y0:(V.setCell ⟨g,q*4+2,none⟩ (.int .i64 la)).cell? ⟨g,q*4,none⟩=some (.int .i64 T.ZY[q].peer):=(World.cell?_setCell_other _ _ _ _ Zi).trans d0;have y1:(V.setCell ⟨g,q*4+2,none⟩ (.int .i64 la)).cell? ⟨g,q*4+1,none⟩=some (.int .i64 T.ZY[q].source):=(World.cell?_setCell_other _ _ _ _ Zi).trans d1;have y2:(V.setCell ⟨g,q*4+2,none⟩ (.int .i64 la)).cell? ⟨g,q*4+2,none⟩=some (.int .i64 ({T.ZY[q]with want:=la}).want):=nZ _ _ _ d2;have y3:(V.setCell ⟨g,q*4+2,none⟩ (.int .i64 la)).cell? ⟨g,q*4+3,none⟩=some (.bool ({T.ZY[q]with want:=la}).ZV):=(World.cell?_setCell_other _ _ _ _ Zi).trans d3;have yb:(V.setCell ⟨g,q*4+2,none⟩ (.int .i64 la)).cell? ⟨w,2,none⟩=some (.int .i64 n):=(World.cell?_setCell_other _ _ _ _ (by simp <;> omega)).trans x2;generalize V.setCell ⟨g,q*4+2,none⟩ (.int .i64 la)=W5 at *
 have ht:=Z9 W5 (.cells (Qh 8 p n la 0) 158);rw[hJ]at ht;have Uj:=Z' W5 (.cells (Qh 8 p n la 0) 158);have lg:=hA1.alloc (.cells (Qh 8 p n la 0) 158);have cS:=hA2.alloc Zo (.cells (Qh 8 p n la 0) 158);have dW:=(Uj.cell (p:=⟨g,q*4,none⟩) T_).trans y0;have y1':=(Uj.cell (p:=⟨g,q*4+1,none⟩) T_).trans y1;have iD:=(Uj.cell (p:=⟨g,q*4+2,none⟩) T_).trans y2;have dX:=(Uj.cell (p:=⟨g,q*4+3,none⟩) T_).trans y3;have yb':=(Uj.cell (p:=⟨w,2,none⟩) T_).trans yb;have hU:=World.size_alloc W5 (.cells (Qh 8 p n la 0) 158);generalize W5.alloc (.cells (Qh 8 p n la 0) 158)=W6 at *
 clear y0 y1 y2 y3 yb Uj hA1 hA2 d0 d1 d2 d3 z0 x1 x2 x3;have xy:=Zh lg;have bF:=Zh cS;obtain⟨pv6,sv6,uv6,MX,Im⟩:=lg.Vv;obtain⟨P,Tj,U1,Bd⟩:=Im.Yj;have Tj:P.map Prod.fst=T.Yj:=Tj;have lM:m<P.length:=by rw[←Tj,Tx]at hm;exact hm
 have cT:=U1.len;have s1:=cell_of MX 1;obtain⟨pa,pc,rfl,-,-⟩:=id U1;obtain⟨gs,QO,e4,TN⟩:=Su U1 Zo;subst e4;obtain⟨-,-,-,s4⟩:=TN m P[m] (Ve lM)
 have cU:P[m].1.ZN=T.Yj[m].ZN:=by
  have:(P.map Prod.fst)[m]?=T.Yj[m]?:=by rw[Tj]
  rw[List.getElem?_map,Ve lM,Ve hm]at this;simp at this;rw[this]
 rw[cU]at s4
 have hgs:gs<W6.heap.size:=by
  exact Yt26
 have lL:(m:Int)<(P.length:Int):=P6.2 lM;have qg:(0:Int)≤(m:Int):=n7 m;have Cv:b<W6.heap.size:=by omega
 have sB:g<W6.heap.size:=by omega
 have Ct:V.heap.size<W6.heap.size:=by omega
 have aM:w.heap.size<W6.heap.size:=by omega
 have FI:w.heap.size≤W6.heap.size:=by omega
 have GY:n=T.ZY[q].source:=HPS.o.2.symm;clear MX Im Tj U1 Bd TN cU lg cS OW;generalize P.length=NP at *
 generalize T.Yj[m].ZN=mu at *
 have U0:Hid (∀w',Below W6 W6 w'→(w'.cell? ⟨g,q*4,none⟩=some (.int .i64 T.ZY[q].peer)∧w'.cell? ⟨g,q*4+1,none⟩=some (.int .i64 T.ZY[q].source)∧w'.cell? ⟨g,q*4+2,none⟩=some (.int .i64 ({T.ZY[q]with want:=la}).want)∧w'.cell? ⟨g,q*4+3,none⟩=some (.bool ({T.ZY[q]with want:=la}).ZV))∧(w'.cell? ⟨V,0,none⟩=some (.int .i64 8)∧w'.cell? ⟨V,1,none⟩=some (.int .i64 p)∧w'.cell? ⟨V,2,none⟩=some (.int .i64 n)∧w'.cell? ⟨V,3,none⟩=some (.int .i64 la)∧w'.cell? ⟨V,4,none⟩=some (.int .u32 0))∧w'.cell? ⟨w,2,none⟩=some (.int .i64 n)∧w'.cell? ⟨b,1,none⟩=some (.slice (some ⟨gs,QO,none⟩) NP pc)∧w'.cell? ⟨gs,QO+m*4+3,none⟩=some (.bool mu)∧Below W6 W6 w'):=fun w' h=>
  ⟨⟨(h.cell (p:=⟨g,q*4,none⟩) sB).trans dW,(h.cell (p:=⟨g,q*4+1,none⟩) sB).trans y1',(h.cell (p:=⟨g,q*4+2,none⟩) sB).trans iD,(h.cell (p:=⟨g,q*4+3,none⟩) sB).trans dX⟩,⟨(h.cell (p:=⟨V,0,none⟩) Ct).trans (cell_of ht 0),(h.cell (p:=⟨V,1,none⟩) Ct).trans (cell_of ht 1),(h.cell (p:=⟨V,2,none⟩) Ct).trans (cell_of ht 2),(h.cell (p:=⟨V,3,none⟩) Ct).trans (cell_of ht 3),(h.cell (p:=⟨V,4,none⟩) Ct).trans (cell_of ht 4)⟩,(h.cell (p:=⟨w,2,none⟩) aM).trans yb',(h.cell (p:=⟨b,1,none⟩) Cv).trans s1,(h.cell (p:=⟨gs,QO+m*4+3,none⟩) hgs).trans s4,h⟩
 have oP:Hid ((T.changed ⟨kd,p,n,la,nm,ss⟩ 8).ZV=({T.ZY[q]with want:=la}).ZV):=by show _=_;rw[HX.o]
 generalize T.ZQ p n (T.changed ⟨kd,p,n,la,nm,ss⟩ 8)=T1 at *
 generalize T1.ask (T.changed ⟨kd,p,n,la,nm,ss⟩ 8)=TA at *
 generalize(T.changed ⟨kd,p,n,la,nm,ss⟩ 8).ZV=cpau at *
 clear ht dW y1' iD s1 s4 hm D6 ML HX Mo HT1 EU ZB J2 Rt Ha SZ wV BS rQ P9 HR CB jb HPS Al;dsimp only at U0 DX dX oP;generalize T.ZY[q].source=xs at *
 generalize T.ZY[q].peer=xp at *
 generalize T.ZY[q].ZV=xq at *
 subst GY;have Nw:Below W6 W6 W6:=YI _ _;cases xq
 ·have nV:Hid (T.change ⟨kd,p,n,la,nm,ss⟩ 8=(⟨8,p,n,la,0⟩ :: (if mu then[]else[TA]),T1)):=by show _=_;rw[HCH.o,oP.o,nT.o];simp
  go_upto_region 13 with fail
  go_cut [73] (fun s73 wx=>s73 = .bool mu∧Below W6 W6 wx)
  case first=>
   go_region_held3 (fun w'=>(w'.cell? ⟨g,q*4,none⟩=some (.int .i64 xp)∧w'.cell? ⟨g,q*4+1,none⟩=some (.int .i64 n)∧w'.cell? ⟨g,q*4+2,none⟩=some (.int .i64 la)∧w'.cell? ⟨g,q*4+3,none⟩=some (.bool false))∧(w'.cell? ⟨V,0,none⟩=some (.int .i64 8)∧w'.cell? ⟨V,1,none⟩=some (.int .i64 p)∧w'.cell? ⟨V,2,none⟩=some (.int .i64 n)∧w'.cell? ⟨V,3,none⟩=some (.int .i64 la)∧w'.cell? ⟨V,4,none⟩=some (.int .u32 0))∧w'.cell? ⟨w,2,none⟩=some (.int .i64 n)∧w'.cell? ⟨b,1,none⟩=some (.slice (some ⟨gs,QO,none⟩) NP pc)∧w'.cell? ⟨gs,QO+m*4+3,none⟩=some (.bool mu)∧Below W6 W6 w') (first|(exact U0.o _ WQ)|(exact U0.o _ (Below.drew WQ))|go_keep) (first|(go_at_call 49;go_split_ands;(with_reducible refine Calls.mono (CS.o _ (xy.o.below WQ)) ?_);rintro e V2 ⟨rfl,Nq⟩;have MW:=Heap.Below.call WQ (Zw _) Nq)|fail)
   all_goals(go_wp2_with fail;go_meet;exact⟨rfl,by first|with_reducible assumption|exact Below.drew WQ⟩)
  case rest=>
   clear Nw;obtain⟨rfl,Nz⟩:=hcut;obtain⟨W7,rfl⟩:∃W7:World,W7=wc:=⟨_,rfl⟩;cases mu
   ·go_upto_region 15 with fail
    go_cut [6] (fun s6 wx=>YD wx s6 [⟨8,p,n,la,0⟩,TA]∧Below W6 W6 wx)
    case first=>
     go_region_held3 (fun w'=>(w'.cell? ⟨g,q*4,none⟩=some (.int .i64 xp)∧w'.cell? ⟨g,q*4+1,none⟩=some (.int .i64 n)∧w'.cell? ⟨g,q*4+2,none⟩=some (.int .i64 la)∧w'.cell? ⟨g,q*4+3,none⟩=some (.bool false))∧(w'.cell? ⟨V,0,none⟩=some (.int .i64 8)∧w'.cell? ⟨V,1,none⟩=some (.int .i64 p)∧w'.cell? ⟨V,2,none⟩=some (.int .i64 n)∧w'.cell? ⟨V,3,none⟩=some (.int .i64 la)∧w'.cell? ⟨V,4,none⟩=some (.int .u32 0))∧w'.cell? ⟨w,2,none⟩=some (.int .i64 n)∧w'.cell? ⟨b,1,none⟩=some (.slice (some ⟨gs,QO,none⟩) NP pc)∧w'.cell? ⟨gs,QO+m*4+3,none⟩=some (.bool false)∧Below W6 W6 w') (first|(exact U0.o _ WQ)|(exact U0.o _ (Below.drew WQ))|(exact U0.o _ (Heap.Below.alloc' WQ (Zw _) _))|(exact U0.o _ (Heap.Below.alloc' (Below.drew WQ) (Zw _) _))|go_keep) (first|(go_at_call 99;go_split_ands;(with_reducible refine Calls.mono (DX.o _ (xy.o.below WQ)) ?_);rintro e V3 ⟨rfl,Nq⟩;have Eg:=Heap.Below.call WQ (Zw _) Nq;unfold VZ)|fail)
     go_wp2_with fail
     go_meet;exact⟨Yw _ _ 2 _ ([⟨8,p,n,la,0⟩,TA].flatMap Z7) Zd rfl,Eg.alloc Eg.size _⟩
    case rest=>
     exact cg
   ·obtain⟨-,⟨t0,t1,t2,t3,t4⟩,-⟩:=U0.o _ Nz;have hzt:V.heap.size<W7.heap.size:=OB Ct Nz.size;go_wp2;go_ret;rw[nV.o];exact⟨⟨_,rfl,Yw _ _ 1 _ ([⟨8,p,n,la,0⟩].flatMap Z7) Zd rfl⟩,(xy.o.below Nz).alloc _,(bF.o.trans ((Fr.Z6 _ Nz).mono FI (fun _ _ h=>h))).alloc (PX FI Nz.size) _⟩
 ·have nV:Hid (T.change ⟨kd,p,n,la,nm,ss⟩ 8=([⟨8,p,n,la,0⟩],T1)):=by show _=_;rw[HCH.o,oP.o];simp
  obtain⟨⟨-,-,-,z3⟩,⟨t0,t1,t2,t3,t4⟩,-⟩:=U0.o _ Nw;clear Nw hU hJ;go_wp2_with fail
  go_quiet (fail)
  go_wp2;go_ret;rw[nV.o];exact⟨⟨_,rfl,Yw _ _ 1 _ ([⟨8,p,n,la,0⟩].flatMap Z7) Zd rfl⟩,(xy.o.below (below_drewN (YI _ _) _)).alloc _,(Fr.drewN bF.o _).alloc FI _⟩
end Go.Proofs.Rm

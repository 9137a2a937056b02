/- Part of a proof. -/
import Derived.Test.YtpdjhlcbcomdkaaGreatDoorR29
set_option linter.unusedVariables false
set_option linter.unusedSimpArgs false
set_option maxRecDepth 100000
set_option maxHeartbeats 16000000
open Go Go.Q Go.Qr
namespace Go.Proofs.By
open Go.RowKit Go.Proofs.Heap Go.Proofs
open Go.Proofs.Rm (below_drewN YB)
open Go.Proofs.NM (Xz)
open Go.Proofs.Mem
theorem D5 (p s at':Int) (ls:List Zu):∀ k,∀ z∈Yc p s at' ls k,∃ y∈ls,z=y∨z={y with fin:=at'}
 | 0,z,h=>⟨z,h,Ws rfl⟩
 | k+1,z,h=>by
  unfold Yc at h;split at h
  ·rcases List.mem_or_eq_of_mem_set h with h1|h1
   ·exact ⟨z,h1,Ws rfl⟩
   ·by_cases hk:k<ls.length
    ·refine ⟨ls.getD k Wx,?_,Wh h1⟩;rw [SC,Vb hk];exact PA hk
    ·rw [List.set_eq_of_length_le Zo] at h;exact ⟨z,h,Ws rfl⟩
  ·exact D5 p s at' ls k z h
theorem GU {n at':Int} (h0:0≤at') (h1:at'<n):∀ (ts:List YB) (ls:List Zu),(∀ z∈ls,0≤z.MR∧z.MR<n∧z.fin≤n)→∀ z∈WX n at' ls ts,0≤z.MR∧z.MR<n∧z.fin≤n
 | [],_,h=>h
 | t :: ts,ls,h=>by
  refine GU h0 h1 ts (X9 n at' ls t) fun z hz=>?_
  unfold X9 at hz;split at hz
  ·rcases DN.1 hz with h2|h2
   ·exact h z h2
   ·rw [J1] at h2;subst h2;exact ⟨h0,h1,Int.le_refl _⟩
  split at hz
  ·obtain ⟨y,hy,h2|h2⟩:=D5 _ _ _ _ _ z hz
   ·rw [h2];exact h y hy
   ·rw [h2];have:=h y hy;exact ⟨this.1,this.2.1,by show at'≤n;omega⟩
  ·exact h z hz
theorem TF (L:List V7) (n:Nat):∀ k,k≤n→∀ z∈Yv L n k,0≤z.MR∧z.MR<n∧z.fin≤n
 | 0,_=>fun z h=>by cases h
 | k+1,hk=>GU Zo Zo _ _ (TF L n k Zo)
theorem RS.bkf {w w':World} {k g b:Nat} {ov av mv lv:Value} {L:List V7} {M:List TP} {R:Rm.Room} {ep:Int} (h:RS w w' k g b ov L L.length L.length av mv lv M R ep) (ho:Xf w' ov L):aD w' k ov av mv lv L (Yv L L.length L.length):=by
 have h1:=Row.Z6 h.book.XC;rw [Ww] at h1;exact ⟨h.book.Y8,ho,h1,⟨M,Row.Z6 h.book.Ld,h.book.each,h.ek⟩,Row.Z6 h.book.P4⟩
theorem F7 (v:Value) (L:List V7) (w:World) (hT:Xz w) (h:Xf w v L) (hL:L.length≤256) :
  Calls Tryz.prog 27 #[v] w fun e w'=>(∃ lv,e = .returned lv∧Row w' 59 lv (Yv L L.length L.length).length ((Yv L L.length L.length).flatMap ZX))∧Below w w w':=by
 have C:=Zh (KJ v L w hT h hL);clear hT h hL;go_enter Tryz.func27,Tryz.ntmps27;go_wp2_with (go_at_call 53;refine C.o.mono ?_;rintro e w2 ⟨k,g,b,ov,av,mv,lv,M,R,ep,rfl,-,Uc⟩;have BC:=Zh Uc;have k3:w2.cell? ⟨k,3,none⟩=some lv:=(Zc Uc.book.Y8 3 rfl);clear Uc)
 go_ret;exact ⟨⟨lv,rfl,Row.Z6 BC.o.book.P4⟩,BC.o.Zg⟩
theorem N9 (v:Value) (L:List V7) (x:Zu) (w:World) (hT:Xz w) (h:Xf w v L) (hL:L.length≤256) (hx:x ∉ Yv L L.length L.length) :
  Calls Tryz.prog 55 #[v,.agg (ZX x).toArray] w fun e w'=>e = .returned (.pointer none)∧Below w w w':=by
 have HLK:=Zh (TF L L.length L.length (Zw _));have HX:=Zh hx;have Tx:Hid ((w.alloc (.cells (ZX x).toArray 59)).heap[w.heap.size]?=some (.cells (ZX x).toArray 59 (0,0))):=Z8 w _;have Vk:Hid (Below w w (w.alloc (.cells (ZX x).toArray 59))):=Z' w _;have CR0:=Zh (fun (w':World) (hb:Below w w w')=>KJ v L w' (Utf8Tabs_below hT hb) (h.below hb) hL);have HL:=Zh hL;clear hx hT h hL;obtain ⟨p,sr,b,f⟩:=x;dsimp only [ZX] at Tx Vk ⊢;go_enter Tryz.func55,Tryz.ntmps55;go_upto_region 1 with fail
 generalize w.alloc (.cells (Qc p sr b f) 59)=w1 at *
 have Zz:Hid (∀ w',Below w1 w1 w'→w'.rangeAt w.heap.size 0 (Qc p sr b f)∧Below w1 w1 w'):=fun w' hb=>⟨fun m v hm=>by rw [QD,cell_of ((hb.block _ (ZW Tx.o)).trans Tx.o) m];simpa using hm,hb⟩
 have CR:=Zh (CR0.o w1.drew (Vk.o.trans ((YJ w1.heap.size w1).drew.mono Vk.o.size)));clear CR0;refine SX ?_;refine Z_.Zy (d:=3) (S:=(fun w'=>w'.rangeAt w.heap.size 0 (Qc p sr b f)∧Below w1 w1 w')) ZB ?_ (fun _=>?_)
 ·(try dsimp only)
  exact Zz.o _ (YJ _ _).drew
 refine YP 0 (h:=?_);refine Z_.tk 2 ?_ rfl ?_ <| ?_
 rotate_left
 ·exact fF
 try simp only [Z_.pt]
 refine YR 1 (h:=fun K hK=>?_);go_simp;refine CR.o.mono ?_;rintro e w2 ⟨k,g,b',ov,av,mv,lv,M,R,ep,rfl,ho,Uc⟩;have HF:=Zh (Uc.bkf ho);have X8:=Zh ((YJ w1.heap.size w1).drew.trans Uc.Zg);clear ho Uc;go_wp2_with fail
 refine Z_.Zb hK _ _ ?_ (fun _=>?_)
 ·(try dsimp only)
  exact Zz.o _ (by first|with_reducible exact X8.o|with_reducible exact (YJ _ _).drew)
 clear hK K;try simp only [Z_.pt]
 refine YR 3 (h:=fun K hK=>?_);go_simp;refine (rG HF.o _ HX.o).mono ?_;rintro e w3 ⟨rfl,VJ⟩;have Wc:=Zh VJ;clear VJ;go_wp2_with fail
 refine Z_.Yk hK _ _ ZB ?_;clear hK K;try simp only [Z_.pt]
 refine YP 4 (h:=?_);refine Z_.YC ZB ?_ _;refine RA ?_;go_wp2_with fail
 go_ret;exact ⟨rfl,Vk.o.trans ((X8.o.trans (Wc.o.mono X8.o.size)).mono Vk.o.size)⟩
theorem N_ (v:Value) (L:List V7) (x:Zu) (w:World) (hT:Xz w) (h:Xf w v L) (hL:L.length≤256) (hx:x∈Yv L L.length L.length) :
  Calls Tryz.prog 55 #[v,.agg (ZX x).toArray] w fun e w'=>(∃ V k ov av mv lv wv cv qv,e = .returned (.pointer (some ⟨V,0,none⟩))∧VB w' V k ov av mv lv L x wv cv qv∧OL w' wv cv qv (WQ L x (L.length+1)))∧Below w w w':=by
 have HLK:=Zh (TF L L.length L.length (Zw _));have HX:=Zh hx;have Tx:Hid ((w.alloc (.cells (ZX x).toArray 59)).heap[w.heap.size]?=some (.cells (ZX x).toArray 59 (0,0))):=Z8 w _;have Vk:Hid (Below w w (w.alloc (.cells (ZX x).toArray 59))):=Z' w _;have CR0:=Zh (fun (w':World) (hb:Below w w w')=>KJ v L w' (Utf8Tabs_below hT hb) (h.below hb) hL);have HL:=Zh hL;clear hx hT h hL;obtain ⟨p,sr,b,f⟩:=x;dsimp only [ZX] at Tx Vk ⊢;go_enter Tryz.func55,Tryz.ntmps55;go_upto_region 1 with fail
 generalize w.alloc (.cells (Qc p sr b f) 59)=w1 at *
 have Zz:Hid (∀ w',Below w1 w1 w'→w'.rangeAt w.heap.size 0 (Qc p sr b f)∧Below w1 w1 w'):=fun w' hb=>⟨fun m v hm=>by rw [QD,cell_of ((hb.block _ (ZW Tx.o)).trans Tx.o) m];simpa using hm,hb⟩
 have CR:=Zh (CR0.o w1.drew (Vk.o.trans ((YJ w1.heap.size w1).drew.mono Vk.o.size)));clear CR0;refine SX ?_;refine Z_.Zy (d:=3) (S:=(fun w'=>w'.rangeAt w.heap.size 0 (Qc p sr b f)∧Below w1 w1 w')) ZB ?_ (fun _=>?_)
 ·(try dsimp only)
  exact Zz.o _ (YJ _ _).drew
 refine YP 0 (h:=?_);refine Z_.tk 2 ?_ rfl ?_ <| ?_
 rotate_left
 ·exact fF
 try simp only [Z_.pt]
 refine YR 1 (h:=fun K hK=>?_);go_simp;refine CR.o.mono ?_;rintro e w2 ⟨k,g,b',ov,av,mv,lv,M,R,ep,rfl,ho,Uc⟩;have HF:=Zh (Uc.bkf ho);have X8:=Zh ((YJ w1.heap.size w1).drew.trans Uc.Zg);clear ho Uc;go_wp2_with fail
 refine Z_.Zb hK _ _ ?_ (fun _=>?_)
 ·(try dsimp only)
  exact Zz.o _ (by first|with_reducible exact X8.o|with_reducible exact (YJ _ _).drew)
 clear hK K;try simp only [Z_.pt]
 refine YR 3 (h:=fun K hK=>?_);go_simp;refine (rH HF.o HL.o _ HX.o (HLK.o _ HX.o).1 (HLK.o _ HX.o).2.1).mono ?_;rintro e w3 ⟨⟨V,wv,cv,qv,rfl,uM,uN⟩,VJ⟩;have Wc:=Zh VJ;have Iu:=Zh uM;have HVR:=Zh uN;clear VJ uM uN;go_wp2_with fail
 refine Z_.Yk hK _ _ ZB ?_;clear hK K;try simp only [Z_.pt]
 refine YP 4 (h:=?_);refine Z_.YC ZB ?_ _;refine RA ?_;go_wp2_with fail
 go_ret;exact ⟨⟨V,_,_,_,_,_,wv,cv,qv,rfl,Iu.o,HVR.o⟩,Vk.o.trans ((X8.o.trans (Wc.o.mono X8.o.size)).mono Vk.o.size)⟩
def Kv (L:List V7) (x:Zu) (at':Int):Int:=if x∈Yv L L.length L.length then (if there x at' then (Yi L x at'.toNat).want else -1) else -1
theorem rC (v:Value) (L:List V7) (x:Zu) (at':Int) (w:World) (hT:Xz w) (h:Xf w v L) (hL:L.length≤256) :
  Calls Tryz.prog 31 #[v,.agg (ZX x).toArray,.int .i64 at'] w fun e w'=>e = .returned (.int .i64 (Kv L x at'))∧Below w w w':=by
 have Tx:Hid (Below w w (w.alloc (.cells (ZX x).toArray 59))):=Z' w _;have hz:(w.alloc (.cells (ZX x).toArray 59)).heap[w.heap.size]?=some (.cells (ZX x).toArray 59 (0,0)):=Z8 w _;have HX:Hid (Kv L x at'=if x∈Yv L L.length L.length then (if there x at' then (Yi L x at'.toNat).want else -1) else -1):=rfl;generalize Kv L x at'=X at *
 by_cases hx:x∈Yv L L.length L.length
 ·have Wq:=TF L L.length L.length (Zw _) x hx;have CV:=Zh (N_ v L x (w.alloc (.cells (ZX x).toArray 59)) (Utf8Tabs_below hT Tx.o) (h.below Tx.o) hL hx);have VA:Hid (X=if there x at' then (Yi L x at'.toNat).want else -1):=by show _=_;rw [HX.o,ZR hx]
  have H0:=Zh Wq.1;have H1:=Zh Wq.2.2;clear hx Wq HX hT h hL;obtain ⟨p,sr,b,f⟩:=x;dsimp only [ZX] at CV Tx hz ⊢;go_enter Tryz.func31,Tryz.ntmps31;go_wp2_with (first|(with_reducible refine Zj 59 (.tmp 4) rfl ?_;refine Zf rfl 59 (.tmp 4) rfl w.heap.size rfl 59 (Qc p sr b f) (0,0) _ hz Tryz.underlying59 rfl ZB ?_)|(go_at_call 55;refine CV.o.mono ?_;rintro e w2 ⟨⟨V,k,ov,av,mv,lv,wv,cv,qv,rfl,uM,uN⟩,Y7⟩;have X8:=Zh (Tx.o.trans (Y7.mono Tx.o.size));have CW:=Zh (rJ V k L _ wv cv qv w2 uM.view uN H0.o H1.o at');rw [←VA.o] at CW;clear uM uN Y7)|(go_at_call 62;refine CW.o.mono ?_;rintro e w' ⟨rfl,rfl⟩))
  go_ret;exact ⟨rfl,X8.o⟩
 ·have CV:=Zh (N9 v L x (w.alloc (.cells (ZX x).toArray 59)) (Utf8Tabs_below hT Tx.o) (h.below Tx.o) hL hx);have VA:Hid (X = -1):=by show _=_;rw [HX.o,Z4 hx]
  clear hx HX hT h hL;obtain ⟨p,sr,b,f⟩:=x;dsimp only [ZX] at CV Tx hz ⊢;go_enter Tryz.func31,Tryz.ntmps31;go_wp2_with (first|(with_reducible refine Zj 59 (.tmp 4) rfl ?_;refine Zf rfl 59 (.tmp 4) rfl w.heap.size rfl 59 (Qc p sr b f) (0,0) _ hz Tryz.underlying59 rfl ZB ?_)|(go_at_call 55;refine CV.o.mono ?_;rintro e w2 ⟨rfl,Y7⟩;have X8:=Zh (Tx.o.trans (Y7.mono Tx.o.size));have CW:=Zh (rK w2 at');clear Y7)|(go_at_call 62;refine CW.o.mono ?_;rintro e w' ⟨rfl,rfl⟩))
  go_ret;exact ⟨by rw [VA.o];rfl,X8.o⟩
def I3 (L:List V7) (x:Zu) (at':Int):Int:=if x∈Yv L L.length L.length then (if there x at' then (Yi L x at'.toNat).cur else -1) else -1
theorem zk (v:Value) (L:List V7) (x:Zu) (at':Int) (w:World) (hT:Xz w) (h:Xf w v L) (hL:L.length≤256) :
  Calls Tryz.prog 35 #[v,.agg (ZX x).toArray,.int .i64 at'] w fun e w'=>e = .returned (.int .i64 (I3 L x at'))∧Below w w w':=by
 have Tx:Hid (Below w w (w.alloc (.cells (ZX x).toArray 59))):=Z' w _;have hz:(w.alloc (.cells (ZX x).toArray 59)).heap[w.heap.size]?=some (.cells (ZX x).toArray 59 (0,0)):=Z8 w _;have HX:Hid (I3 L x at'=if x∈Yv L L.length L.length then (if there x at' then (Yi L x at'.toNat).cur else -1) else -1):=rfl;generalize I3 L x at'=X at *
 by_cases hx:x∈Yv L L.length L.length
 ·have Wq:=TF L L.length L.length (Zw _) x hx;have CV:=Zh (N_ v L x (w.alloc (.cells (ZX x).toArray 59)) (Utf8Tabs_below hT Tx.o) (h.below Tx.o) hL hx);have VA:Hid (X=if there x at' then (Yi L x at'.toNat).cur else -1):=by show _=_;rw [HX.o,ZR hx]
  have H0:=Zh Wq.1;have H1:=Zh Wq.2.2;clear hx Wq HX hT h hL;obtain ⟨p,sr,b,f⟩:=x;dsimp only [ZX] at CV Tx hz ⊢;go_enter Tryz.func35,Tryz.ntmps35;go_wp2_with (first|(with_reducible refine Zj 59 (.tmp 4) rfl ?_;refine Zf rfl 59 (.tmp 4) rfl w.heap.size rfl 59 (Qc p sr b f) (0,0) _ hz Tryz.underlying59 rfl ZB ?_)|(go_at_call 55;refine CV.o.mono ?_;rintro e w2 ⟨⟨V,k,ov,av,mv,lv,wv,cv,qv,rfl,uM,uN⟩,Y7⟩;have X8:=Zh (Tx.o.trans (Y7.mono Tx.o.size));have CW:=Zh (mN V k L _ wv cv qv w2 uM.view uN H0.o H1.o at');rw [←VA.o] at CW;clear uM uN Y7)|(go_at_call 65;refine CW.o.mono ?_;rintro e w' ⟨rfl,rfl⟩))
  go_ret;exact ⟨rfl,X8.o⟩
 ·have CV:=Zh (N9 v L x (w.alloc (.cells (ZX x).toArray 59)) (Utf8Tabs_below hT Tx.o) (h.below Tx.o) hL hx);have VA:Hid (X = -1):=by show _=_;rw [HX.o,Z4 hx]
  clear hx HX hT h hL;obtain ⟨p,sr,b,f⟩:=x;dsimp only [ZX] at CV Tx hz ⊢;go_enter Tryz.func35,Tryz.ntmps35;go_wp2_with (first|(with_reducible refine Zj 59 (.tmp 4) rfl ?_;refine Zf rfl 59 (.tmp 4) rfl w.heap.size rfl 59 (Qc p sr b f) (0,0) _ hz Tryz.underlying59 rfl ZB ?_)|(go_at_call 55;refine CV.o.mono ?_;rintro e w2 ⟨rfl,Y7⟩;have X8:=Zh (Tx.o.trans (Y7.mono Tx.o.size));have CW:=Zh (mO w2 at');clear Y7)|(go_at_call 65;refine CW.o.mono ?_;rintro e w' ⟨rfl,rfl⟩))
  go_ret;exact ⟨by rw [VA.o];rfl,X8.o⟩
def OB (L:List V7) (x:Zu) (at':Int):Bool:=if x∈Yv L L.length L.length then (if there x at' then (Yi L x at'.toNat).quiet else true) else true
theorem F8 (v:Value) (L:List V7) (x:Zu) (at':Int) (w:World) (hT:Xz w) (h:Xf w v L) (hL:L.length≤256) :
  Calls Tryz.prog 33 #[v,.agg (ZX x).toArray,.int .i64 at'] w fun e w'=>e = .returned (.bool (OB L x at'))∧Below w w w':=by
 have Tx:Hid (Below w w (w.alloc (.cells (ZX x).toArray 59))):=Z' w _;have hz:(w.alloc (.cells (ZX x).toArray 59)).heap[w.heap.size]?=some (.cells (ZX x).toArray 59 (0,0)):=Z8 w _;have HX:Hid (OB L x at'=if x∈Yv L L.length L.length then (if there x at' then (Yi L x at'.toNat).quiet else true) else true):=rfl;generalize OB L x at'=X at *
 by_cases hx:x∈Yv L L.length L.length
 ·have Wq:=TF L L.length L.length (Zw _) x hx;have CV:=Zh (N_ v L x (w.alloc (.cells (ZX x).toArray 59)) (Utf8Tabs_below hT Tx.o) (h.below Tx.o) hL hx);have VA:Hid (X=if there x at' then (Yi L x at'.toNat).quiet else true):=by show _=_;rw [HX.o,ZR hx]
  have H0:=Zh Wq.1;have H1:=Zh Wq.2.2;clear hx Wq HX hT h hL;obtain ⟨p,sr,b,f⟩:=x;dsimp only [ZX] at CV Tx hz ⊢;go_enter Tryz.func33,Tryz.ntmps33;go_wp2_with (first|(with_reducible refine Zj 59 (.tmp 4) rfl ?_;refine Zf rfl 59 (.tmp 4) rfl w.heap.size rfl 59 (Qc p sr b f) (0,0) _ hz Tryz.underlying59 rfl ZB ?_)|(go_at_call 55;refine CV.o.mono ?_;rintro e w2 ⟨⟨V,k,ov,av,mv,lv,wv,cv,qv,rfl,uM,uN⟩,Y7⟩;have X8:=Zh (Tx.o.trans (Y7.mono Tx.o.size));have CW:=Zh (vL V k L _ wv cv qv w2 uM.view uN H0.o H1.o at');rw [←VA.o] at CW;clear uM uN Y7)|(go_at_call 64;refine CW.o.mono ?_;rintro e w' ⟨rfl,rfl⟩))
  go_ret;exact ⟨rfl,X8.o⟩
 ·have CV:=Zh (N9 v L x (w.alloc (.cells (ZX x).toArray 59)) (Utf8Tabs_below hT Tx.o) (h.below Tx.o) hL hx);have VA:Hid (X=true):=by show _=_;rw [HX.o,Z4 hx]
  clear hx HX hT h hL;obtain ⟨p,sr,b,f⟩:=x;dsimp only [ZX] at CV Tx hz ⊢;go_enter Tryz.func33,Tryz.ntmps33;go_wp2_with (first|(with_reducible refine Zj 59 (.tmp 4) rfl ?_;refine Zf rfl 59 (.tmp 4) rfl w.heap.size rfl 59 (Qc p sr b f) (0,0) _ hz Tryz.underlying59 rfl ZB ?_)|(go_at_call 55;refine CV.o.mono ?_;rintro e w2 ⟨rfl,Y7⟩;have X8:=Zh (Tx.o.trans (Y7.mono Tx.o.size));have CW:=Zh (vM w2 at');clear Y7)|(go_at_call 64;refine CW.o.mono ?_;rintro e w' ⟨rfl,rfl⟩))
  go_ret;exact ⟨by rw [VA.o];rfl,X8.o⟩
structure Hs where
 event:Int
 seq:Int
 time:Int
 YE:Int
 frame:Int
 sw:Bool
deriving DecidableEq
def Sk:Hs:=⟨0,0,0,0,0,false⟩
structure vJ where
 o:List Hs
 opn:Int
 begin:Int
 Uv:Int
def RI (l:List Hs):Hs:=l.getD (l.length-1) Sk
def QO (a b:Int):Int:=IntKind.i16.wrap (IntKind.u16.wrap (a-b))
def I5 (L:List V7) (s:VS) (out:List Hs) (k:Nat):Bool:=
 decide ((Z5 L k).WJ.ZH=s.cur) && !decide (out.length=0) && decide (0<QO (Z5 L k).XW.seq (Z5 L (RI out).event.toNat).XW.seq)
def rZ (L:List V7) (x:Zu) (z:vJ) (k:Nat) (op:Bool):Hs:=
 ⟨k,IntKind.u16.wrap z.o.length,IntKind.u32.wrap (IntKind.u32.wrap ((Z5 L k).XW.time-(Z5 L z.opn.toNat).XW.time)+z.begin),Xj x.peer x.source,IntKind.u16.wrap (z.Uv-1),op⟩
def SM (z:vJ) (k:Nat) (op st:Bool):vJ:=
 ⟨z.o,if op then k else z.opn,if op then (if 0<z.o.length then IntKind.u32.wrap ((RI z.o).time+3000) else z.begin) else z.begin,if st then IntKind.u16.wrap (z.Uv+1) else z.Uv⟩
def Lt (L:List V7) (x:Zu) (s:VS) (z:vJ) (k:Nat):vJ:=
 let r:=SM z k (VY s (Z5 L k).WJ) (Z5 L k).WJ.start
 {r with o:=r.o++[rZ L x r k (VY s (Z5 L k).WJ)]}
def Tg (L:List V7) (x:Zu) (s:VS) (z:vJ) (k:Nat):vJ:=
 if Wa L x k && !s.quiet && (VY s (Z5 L k).WJ || I5 L s z.o k) then Lt L x s z k else z
def UZ (L:List V7) (x:Zu):Nat→vJ
 | 0=>⟨[],0,0,0⟩
 | k+1=>Tg L x (Yi L x k) (UZ L x k) k
structure F9 (k:Nat) (z:vJ):Prop where
 len:z.o.length≤k
 ev:∀ e∈z.o,0≤e.event∧e.event<k
 opn:0≤z.opn∧(z.opn<k∨z.opn=0)
 bg:0≤z.begin∧z.begin<4294967296
 st:0≤z.Uv∧z.Uv<65536
theorem AG {z:vJ} {k:Nat} (h:F9 k z) (op st:Bool):(0≤(SM z k op st).opn∧(SM z k op st).opn<((k+1:Nat):Int))∧(0≤(SM z k op st).begin∧(SM z k op st).begin<4294967296)∧(0≤(SM z k op st).Uv∧(SM z k op st).Uv<65536):=by
 have h1:=h.opn;have h2:=h.bg;have h3:=h.st;have w1:0≤IntKind.u32.wrap ((RI z.o).time+3000)∧IntKind.u32.wrap ((RI z.o).time+3000)<4294967296:=by rw [NI];omega
 have w2:0≤IntKind.u16.wrap (z.Uv+1)∧IntKind.u16.wrap (z.Uv+1)<65536:=by rw [IntKind.wrap_u16];omega
 unfold SM;dsimp only;refine ⟨?_,?_,?_⟩
 ·cases op
  ·show 0≤z.opn∧z.opn<_;omega
  ·show 0≤(k:Int)∧(k:Int)<_;omega
 ·cases op
  ·exact h2
  ·by_cases hl:0<z.o.length
   ·rw [ZR rfl,ZR hl];exact w1
   ·rw [ZR rfl,Z4 hl];exact h2
 ·cases st
  ·exact h3
  ·exact w2
theorem F9.step {L:List V7} {x:Zu} {s:VS} {z:vJ} {k:Nat} (h:F9 k z):F9 (k+1) (Tg L x s z k):=by
 have hw:F9 (k+1) z:=⟨by have:=h.len;omega,fun e he=>by have:=h.ev e he;omega,by have:=h.opn;omega,h.bg,h.st⟩;unfold Tg;split
 ·obtain ⟨r1,r2,r3⟩:=AG h (VY s (Z5 L k).WJ) (Z5 L k).WJ.start;unfold Lt;dsimp only;refine ⟨?_,?_,⟨r1.1,Ws r1.2⟩,r2,r3⟩
  ·show (z.o++[_]).length≤k+1;rw [UE];have:=h.len;simp only [List.length_cons,List.length_nil];omega
  ·intro e he;rcases DN.1 he with h1|h1
   ·exact hw.ev e h1
   ·rw [J1] at h1;subst h1;show 0≤(k:Int)∧(k:Int)<((k+1:Nat):Int);omega
 ·exact hw
theorem Pp (L:List V7) (x:Zu):∀ k,F9 k (UZ L x k)
 | 0=>⟨Zw _,(fun e h=>by cases h),⟨Int.le_refl _,Wh rfl⟩,⟨Int.le_refl _,(by decide:(0:Int)<4294967296)⟩,⟨Int.le_refl _,(by decide:(0:Int)<65536)⟩⟩
 | k+1=>(Pp L x k).step
end Go.Proofs.By
namespace Go.Proofs.By
open Go.RowKit Go.Proofs.Heap Go.Proofs
open Go.Proofs.Rm (below_drewN YL)
def Vp (e:Hs):List Value:=(Qp e.event e.seq e.time e.YE e.frame e.sw)
theorem ux:Elem Tryz.prog 61 70 6 32:=⟨Tryz.underlying61,⟨.agg (Qp 0 0 0 0 0 false),by kernel_rfl,rfl⟩,by decide⟩
theorem tV (n:Int) : -32768≤IntKind.i16.wrap n∧IntKind.i16.wrap n<32768:=by
 simp only [IntKind.wrap,IntKind.bits,IntKind.signed];simp;split <;> omega
theorem lO (a b:Int) (w:World):Calls Tryz.prog 67 (Qy a b) w fun e w'=>e = .returned (.int .i64 (QO a b))∧w=w':=by
 have HX:Hid (QO a b=IntKind.i16.wrap (IntKind.u16.wrap (a-b))):=rfl;have h1:=tV (IntKind.u16.wrap (a-b));have hw:IntKind.i64.wrap (IntKind.i16.wrap (IntKind.u16.wrap (a-b)))=IntKind.i16.wrap (IntKind.u16.wrap (a-b)):=Tm _ Zo;generalize QO a b=X at *
 clear h1;go_enter Tryz.func67,Tryz.ntmps67;go_wp2;go_ret;exact ⟨by rw [HX.o];rfl,rfl⟩
theorem Dx (a b:Int) (w:World):Calls Tryz.prog 38 (Qy a b) w fun e w'=>e = .returned (.bool (decide (0<QO a b)))∧w=w':=by
 have CD:=Zh (lO a b w);generalize QO a b=d at *
 go_enter Tryz.func38,Tryz.ntmps38;go_wp2_with (go_at_call 67;refine CD.o.mono ?_;rintro e w' ⟨rfl,rfl⟩)
 go_ret;exact ⟨rfl,rfl⟩
section
variable {w:World} {V k:Nat} {ov av mv lv:Value} {L:List V7} {x:Zu} {wv cv qv:Value}
theorem nM {a:Option Addr} {n c:Nat} {l:List Hs} (h:Row w 70 (.slice a n c) n (l.flatMap Vp)) {m:Nat} (hm:m<l.length):∃ g o,a=some ⟨g,o,none⟩∧w.cell? ⟨g,o+m*6,none⟩=some (.int .i64 (l.getD m Sk).event)∧w.cell? ⟨g,o+m*6+2,none⟩=some (.int .u32 (l.getD m Sk).time):=by
 obtain ⟨g,o,e,h2⟩:=Su Vp 6 (fun _=>rfl) h Zo;have hz:l[m]?=some (l.getD m Sk):=by rw [SC,Vb hm];rfl
 exact ⟨g,o,e,h2 m _ hz 0 Zo,h2 m _ hz 2 Zo⟩
theorem J0 (h:VB w V k ov av mv lv L x wv cv qv) {j:Nat} (hj:j<L.length) {s:VS} (hs:fu w wv cv qv j s) (ea:Option Addr) (ec:Nat) (l:List Hs) (z1 z2 z3:Int) (hr:Row w 70 (.slice ea l.length ec) l.length (l.flatMap Vp)) (he:∀ e∈l,0≤e.event∧e.event<L.length) (hl:l.length≤1000) :
  Calls Tryz.prog 90 (Q4 (some ⟨V,0,none⟩) (Qw ea l.length ec z1 z2 z3) (j:Int)) w fun e w'=>e = .returned (.bool (I5 L s l j))∧Below w w w':=by
 obtain ⟨g,o,c,a1,n1,c1,a2,n2,c2,a3,n3,c3,oF,hm⟩:=Kh h hj;subst oF;obtain ⟨g2,o2,m2,d2,FM,l2,e2⟩:=hs.cur;subst FM;have hVl:=ZW h.view;have VK:=ZW h.book;have v0:w.cell? ⟨V,0,none⟩=some (.pointer (some ⟨k,0,none⟩)):=Zc h.view 0 rfl;have v6:w.cell? ⟨V,6,none⟩=some (.slice (some ⟨g2,o2,none⟩) m2 d2):=Zc h.view 6 rfl;have b2:w.cell? ⟨k,2,none⟩=some (.slice (some ⟨g,o,none⟩) L.length c):=Zc h.book 2 rfl;have HX:Hid (I5 L s l j=(decide ((Z5 L j).WJ.ZH=s.cur) && !decide (l.length=0) && decide (0<QO (Z5 L j).XW.seq (Z5 L (RI l).event.toNat).XW.seq))):=rfl;have zW:(j:Int)<(L.length:Int):=OP.2 hj;have i2:(j:Int)<(m2:Int):=OP.2 l2;have mg:=Zh (fun (q:Nat) (hq:q<L.length)=>Kh h hq);have HKB:Hid (∀ w',Below w w w'→w'.cell? ⟨V,0,none⟩=some (.pointer (some ⟨k,0,none⟩))∧w'.cell? ⟨k,2,none⟩=some (.slice (some ⟨g,o,none⟩) L.length c)):=fun w' hb=>⟨Yp v0 hb,Yp b2 hb⟩
 clear h hs;generalize I5 L s l j=X at *
 generalize s.cur=cu at *
 have Vk:Hid (Below w w (w.alloc (.cells (Qw ea l.length ec z1 z2 z3) 162))):=Z' w _;have uO:(w.alloc (.cells (Qw ea l.length ec z1 z2 z3) 162)).heap[w.heap.size]?=some (.cells (Qw ea l.length ec z1 z2 z3) 162 (0,0)):=Z8 w _;have hm2:(w.alloc (.cells (Qw ea l.length ec z1 z2 z3) 162)).rangeAt g (o+j*15) (Qg (Z5 L j).XW.XP (Z5 L j).XW.type (Z5 L j).XW.seq (Z5 L j).XW.time (Z5 L j).XW.YE a1 n1 c1 (Z5 L j).XW.XO (Z5 L j).XW.Yl a2 n2 c2 a3 n3 c3 (Z5 L j).XW.pad (Z5 L j).WJ.ZH (Z5 L j).WJ.key (Z5 L j).WJ.start (Z5 L j).WJ.frame):=fun m v hv=>Yp (hm m v hv) Vk.o
 have hz:((w.alloc (.cells (Qw ea l.length ec z1 z2 z3) 162)).alloc (.cells UM 97)).heap[w.heap.size+1]?=some (.cells UM 97 (0,0)):=by
  have h:=Z8 (w.alloc (.cells (Qw ea l.length ec z1 z2 z3) 162)) (.cells UM 97);rw [size_alloc] at h;exact h
 generalize (Z5 L j).XW=P at *
 generalize (Z5 L j).WJ=D at *
 have Wc:Hid (Below w w (((w.alloc (.cells (Qw ea l.length ec z1 z2 z3) 162)).alloc (.cells UM 97)).setRow (w.heap.size+1) (Ju P.XP P.type P.seq P.time P.YE a1 n1 c1 P.XO P.Yl a2 n2 c2 a3 n3 c3 P.pad D))):=Z3 (ZF Vk.o (Zw _) _) (Ix _) _;have Rh:=setRow_heap _ _ _ (Ju P.XP P.type P.seq P.time P.YE a1 n1 c1 P.XO P.Yl a2 n2 c2 a3 n3 c3 P.pad D) _ _ hz
 have lh:Hid ((((w.alloc (.cells (Qw ea l.length ec z1 z2 z3) 162)).alloc (.cells UM 97)).setRow (w.heap.size+1) (Ju P.XP P.type P.seq P.time P.YE a1 n1 c1 P.XO P.Yl a2 n2 c2 a3 n3 c3 P.pad D)).heap[w.heap.size]?=some (.cells (Qw ea l.length ec z1 z2 z3) 162 (0,0))):=by
  show _=_;rw [setRow_other _ _ _ _ Zo,(Z' (w.alloc (.cells (Qw ea l.length ec z1 z2 z3) 162)) _).block _ (ZW uO)];exact uO
 clear hm uO Vk;go_enter Tryz.func90,Tryz.ntmps90;go_upto_region 2 with (first|(with_reducible refine Zj 97 (.tmp 17) rfl ?_;refine wpList_load_mid rfl 97 (.tmp 17) rfl g (o+j*15) rfl (Ju P.XP P.type P.seq P.time P.YE a1 n1 c1 P.XO P.Yl a2 n2 c2 a3 n3 c3 P.pad D) _ hm2 Tryz.underlying97 rfl ZB ?_)|(with_reducible refine ZU 97 (.tmp 7) (.tmp 18) rfl ?_;refine ZV rfl 97 (.tmp 7) (.tmp 18) rfl rfl (w.heap.size+1) (Ju P.XP P.type P.seq P.time P.YE a1 n1 c1 P.XO P.Yl a2 n2 c2 a3 n3 c3 P.pad D) rfl rfl 97 UM hz ZB ZB ZB ?_))
 clear hz hm2 v0 b2;have KC:Hid (∀ (g o:Nat) (u:Value),w.cell? ⟨g,o,none⟩=some u→(((w.alloc (.cells (Qw ea l.length ec z1 z2 z3) 162)).alloc (.cells UM 97)).setRow (w.heap.size+1) (Ju P.XP P.type P.seq P.time P.YE a1 n1 c1 P.XO P.Yl a2 n2 c2 a3 n3 c3 P.pad D)).cell? ⟨g,o,none⟩=some u):=fun g o u hc=>Yp hc Wc.o
 replace v6:=KC.o _ _ _ v6;replace e2:=KC.o _ _ _ e2;have KB:Hid (∀ w',Below w w w'→w'.cell? ⟨V,0,none⟩=some (.pointer (some ⟨k,0,none⟩))∧w'.cell? ⟨k,2,none⟩=some (.slice (some ⟨g,o,none⟩) L.length c)):=HKB.o;generalize (((w.alloc (.cells (Qw ea l.length ec z1 z2 z3) 162)).alloc (.cells UM 97)).setRow (w.heap.size+1) (Ju P.XP P.type P.seq P.time P.YE a1 n1 c1 P.XO P.Yl a2 n2 c2 a3 n3 c3 P.pad D))=w3 at *
 have y11:w3.cell? ⟨w.heap.size+1,11,none⟩=some (.int .i64 D.ZH):=Zc Rh 11 rfl;have y2:w3.cell? ⟨w.heap.size+1,2,none⟩=some (.int .u16 P.seq):=Zc Rh 2 rfl;have k0:w3.cell? ⟨w,0,none⟩=some (.slice ea l.length ec):=Zc lh.o 0 rfl;have HK:=Zh (KB.o _ Wc.o);clear Rh lh KB HKB;by_cases h1:D.ZH=cu
 rotate_left
 ·have f1:(D.ZH != cu)=true:=by rw [RQ];exact h1
  go_quiet (fail)
  have Ux:=Zh (below_drewN Wc.o nq);go_wp2_with fail
  go_ret;exact ⟨by rw [HX.o,WI h1];rfl,Ux.o⟩
 have f1:(D.ZH != cu)=false:=by rw [bne_eq_false_iff_eq];exact h1
 have H1:=Zh h1;clear h1;by_cases h2:l.length=0
 ·have f2:((l.length:Int) == 0)=true:=by rw [beq_iff_eq];omega
  have H2:=Zh h2;clear h2;go_quiet (fail)
  have Ux:=Zh (below_drewN Wc.o nq);go_wp2_with fail
  go_ret;exact ⟨by rw [HX.o,Wi H2.o];simp,Ux.o⟩
 have f2:((l.length:Int) == 0)=false:=by rw [WR];omega
 obtain ⟨m,hm⟩:∃ m,l.length=m+1:=⟨l.length-1,Zo⟩;obtain ⟨ge,oe,j4,x0,-⟩:=nM (m:=m) hr Zo;subst j4
 have zY:l.getD m Sk∈l:=by
  rw [SC,Vb (by omega:m<l.length)];exact PA _
 have Ma:=he _ zY;have gP:RI l=l.getD m Sk:=by unfold RI;rw [hm];rfl
 rw [gP] at HX;generalize l.getD m Sk=E at *
 obtain ⟨q,hq⟩:∃ q:Nat,E.event=(q:Int):=⟨E.event.toNat,Zo⟩;rw [hq] at x0 HX Ma;have dG:q<L.length:=by omega
 have MO:Hid (X=decide (0<QO P.seq (Z5 L q).XW.seq)):=by
  show _=_;rw [HX.o,Wi H1.o,WI h2];rfl
 obtain ⟨g',o',c',b1,r1,s1,b2',r2,s2,b3,r3,s3,uK,hmq⟩:=mg.o q dG;cases uK;have x2:=KC.o _ _ _ (Pn hmq 2 rfl);replace x0:=KC.o _ _ _ x0;have dF:(q:Int)<(L.length:Int):=OP.2 dG;have CA:=Zh (fun (w':World)=>Dx P.seq (Z5 L q).XW.seq w');generalize QO P.seq (Z5 L q).XW.seq=df at *
 have lG:IntKind.i64.wrap ((l.length:Int)-1)=(m:Int):=by rw [Tm _ Zo];omega
 have kp:(m:Int)<(l.length:Int):=by omega
 have hmN:m<l.length:=by omega
 have HM:=Zh hm;clear HX H1 h2 hr he zY Ma gP hq mg hmq KC hm;go_quiet (fail)
 have Ux:=Zh (below_drewN Wc.o nq);have HK4:Hid ((w3.drewN nq).cell? ⟨V,0,none⟩=some (.pointer (some ⟨k,0,none⟩))∧(w3.drewN nq).cell? ⟨k,2,none⟩=some (.slice (some ⟨g,o,none⟩) L.length c)):=HK.o;have x0':(w3.drewN nq).cell? ⟨ge,oe+m*6,none⟩=some (.int .i64 (q:Int)):=x0;have x2':(w3.drewN nq).cell? ⟨g,o+q*15+2,none⟩=some (.int .u16 (Z5 L q).XW.seq):=x2;have kR:(w3.drewN nq).cell? ⟨w.heap.size+1,2,none⟩=some (.int .u16 P.seq):=y2;have k0':(w3.drewN nq).cell? ⟨w,0,none⟩=some (.slice (some ⟨ge,oe,none⟩) l.length ec):=k0;clear x0 x2 y2 k0 y11 v6 e2 HK Wc;generalize w3.drewN nq=w4 at *
 obtain ⟨v0,b2⟩:=HK4.o;go_upto_region 5 with fail
 go_quiet ((go_at_call 38;exact Calls.quiet_of_same ((CA.o _).mono fun e w' ⟨a,b⟩=>⟨a,b.symm⟩)))
 have Rl:=Zh (below_drewN Ux.o nq);go_wp2_with fail
 go_ret;exact ⟨by rw [MO.o];rfl,Rl.o⟩
end
end Go.Proofs.By

/- Part of a proof. -/
import Derived.Test.YtpdjhlcbcomdkaaGreatDoorW38
set_option linter.unusedVariables false
set_option linter.unusedSimpArgs false
set_option maxRecDepth 100000
set_option maxHeartbeats 16000000
open Go Go.Q Go.Qr
namespace Go.Proofs.By
open Go.RowKit Go.Proofs.Heap Go.Proofs
open Go.Proofs.Rm (below_drewN YD)
open Go.Proofs.Od (Xz)
open Go.Proofs.Mem
theorem Ef (p s at':Int) (ls:List Zq):∀ k,∀ z∈Yg p s at' ls k,∃ y∈ls,z=y∨z={y with fin:=at'}
 | 0,z,h=>⟨z,h,Ww rfl⟩
 | k+1,z,h=>by
  unfold Yg at h
  split at h
  ·rcases List.mem_or_eq_of_mem_set h with h1|h1
   ·exact ⟨z,h1,Ww rfl⟩
   ·by_cases hk:k<ls.length
    ·refine ⟨ls.getD k Wz,?_,Wi h1⟩
     rw [Rw,U7 hk]
     exact Ot hk
    ·rw [List.set_eq_of_length_le Zo] at h
     exact ⟨z,h,Ww rfl⟩
  ·exact Ef p s at' ls k z h
theorem Ha {n at':Int} (h0:0≤at') (h1:at'<n):∀ (ts:List YD) (ls:List Zq),(∀ z∈ls,0≤z.Kf∧z.Kf<n∧z.fin≤n)→∀ z∈WY n at' ls ts,0≤z.Kf∧z.Kf<n∧z.fin≤n
 | [],_,h=>h
 | t :: ts,ls,h=>by
  refine Ha h0 h1 ts (Yb n at' ls t) fun z hz=>?_
  unfold Yb at hz
  split at hz
  ·rcases D5.1 hz with h2|h2
   ·exact h z h2
   ·rw [Kc] at h2;subst h2;exact ⟨h0,h1,Int.le_refl _⟩
  split at hz
  ·obtain ⟨y,hy,h2|h2⟩:=Ef _ _ _ _ _ z hz
   ·rw [h2];exact h y hy
   ·rw [h2];have:=h y hy;exact ⟨this.1,this.2.1,by show at'≤n;omega⟩
  ·exact h z hz
theorem Ri (L:List VG) (n:Nat):∀ k,k≤n→∀ z∈X8 L n k,0≤z.Kf∧z.Kf<n∧z.fin≤n
 | 0,_=>fun z h=>by cases h
 | k+1,hk=>Ha Zo Zo _ _ (Ri L n k Zo)
theorem RS.bkf {w w':World} {k g b:Nat} {ov av mv lv:Value} {L:List VG} {M:List TW} {R:Rm.Room} {ep:Int} (h:RS w w' k g b ov L L.length L.length av mv lv M R ep) (ho:Xe w' ov L):bA w' k ov av mv lv L (X8 L L.length L.length):=by
 have h1:=Row.Z6 h.book.XE
 rw [Xa] at h1
 exact ⟨h.book.Za,ho,h1,⟨M,Row.Z6 h.book.Lz,h.book.each,h.fq⟩,Row.Z6 h.book.QS⟩
theorem Gn (v:Value) (L:List VG) (w:World) (hT:Xz w) (h:Xe w v L) (hL:L.length≤256) :
  Calls Tryz.prog 27 #[v] w fun e w'=>(∃ lv,e = .returned lv∧Row w' 59 lv (X8 L L.length L.length).length ((X8 L L.length L.length).flatMap ZY))∧Below w w w':=by
 have C:=Zh (K1 v L w hT h hL)
 clear hT h hL
 go_enter Tryz.func27,Tryz.ntmps27
 go_wp2_with (go_at_call 53;refine C.o.mono ?_;rintro e w2 ⟨k,g,b,ov,av,mv,lv,M,R,ep,rfl,-,T4⟩;have BW:=Zh T4;have k3:w2.cell? ⟨k,3,none⟩=some lv:=(Zc T4.book.Za 3 rfl);clear T4)
 go_ret
 exact ⟨⟨lv,rfl,Row.Z6 BW.o.book.QS⟩,BW.o.Zj⟩
theorem Md (v:Value) (L:List VG) (x:Zq) (w:World) (hT:Xz w) (h:Xe w v L) (hL:L.length≤256) (hx:x ∉ X8 L L.length L.length) :
  Calls Tryz.prog 55 #[v,.agg (ZY x).toArray] w fun e w'=>e = .returned (.pointer none)∧Below w w w':=by
 have HLK:=Zh (Ri L L.length L.length (Zw _))
 have HX:=Zh hx
 have Sc:Hid ((w.alloc (.cells (ZY x).toArray 59)).heap[w.heap.size]?=some (.cells (ZY x).toArray 59 (0,0))):=Z7 w _
 have Vp:Hid (Below w w (w.alloc (.cells (ZY x).toArray 59))):=Z' w _
 have CR0:=Zh (fun (w':World) (hb:Below w w w')=>K1 v L w' (Utf8Tabs_below hT hb) (h.below hb) hL)
 have HL:=Zh hL
 clear hx hT h hL
 obtain ⟨p,sr,b,f⟩:=x
 dsimp only [ZY] at Sc Vp ⊢
 go_enter Tryz.func55,Tryz.ntmps55
 go_upto_region 1 with fail
 generalize w.alloc (.cells (Qe p sr b f) 59)=w1 at *
 have Zz:Hid (∀ w',Below w1 w1 w'→w'.rangeAt w.heap.size 0 (Qe p sr b f)∧Below w1 w1 w'):=fun w' hb=>⟨fun m v hm=>by rw [QP,cell_of ((hb.block _ (ZV Sc.o)).trans Sc.o) m];simpa using hm,hb⟩
 have CR:=Zh (CR0.o w1.drew (Vp.o.trans ((YH w1.heap.size w1).drew.mono Vp.o.size)))
 clear CR0
 refine Sd ?_
 refine Z_.Zu (d:=3) (S:=(fun w'=>w'.rangeAt w.heap.size 0 (Qe p sr b f)∧Below w1 w1 w')) ZB ?_ (fun _=>?_)
 ·(try dsimp only)
  exact Zz.o _ (YH _ _).drew
 refine YP 0 (h:=?_)
 refine Z_.tk 2 ?_ rfl ?_ <| ?_
 rotate_left
 ·exact gm
 try simp only [Z_.pt]
 refine YR 1 (h:=fun K hK=>?_)
 go_simp
 refine CR.o.mono ?_
 rintro e w2 ⟨k,g,b',ov,av,mv,lv,M,R,ep,rfl,ho,T4⟩
 have HF:=Zh (T4.bkf ho)
 have X6:=Zh ((YH w1.heap.size w1).drew.trans T4.Zj)
 clear ho T4
 go_wp2_with fail
 refine Z_.Y_ hK _ _ ?_ (fun _=>?_)
 ·(try dsimp only)
  exact Zz.o _ (by first|with_reducible exact X6.o|with_reducible exact (YH _ _).drew)
 clear hK K
 try simp only [Z_.pt]
 refine YR 3 (h:=fun K hK=>?_)
 go_simp
 refine (r9 HF.o _ HX.o).mono ?_
 rintro e w3 ⟨rfl,VH⟩
 have VT:=Zh VH
 clear VH
 go_wp2_with fail
 refine Z_.Ye hK _ _ ZB ?_
 clear hK K
 try simp only [Z_.pt]
 refine YP 4 (h:=?_)
 refine Z_.Yr ZB ?_ _
 refine QY ?_
 go_wp2_with fail
 go_ret
 exact ⟨rfl,Vp.o.trans ((X6.o.trans (VT.o.mono X6.o.size)).mono Vp.o.size)⟩
theorem Me (v:Value) (L:List VG) (x:Zq) (w:World) (hT:Xz w) (h:Xe w v L) (hL:L.length≤256) (hx:x∈X8 L L.length L.length) :
  Calls Tryz.prog 55 #[v,.agg (ZY x).toArray] w fun e w'=>(∃ V k ov av mv lv wv cv qv,e = .returned (.pointer (some ⟨V,0,none⟩))∧VB w' V k ov av mv lv L x wv cv qv∧Og w' wv cv qv (WK L x (L.length+1)))∧Below w w w':=by
 have HLK:=Zh (Ri L L.length L.length (Zw _))
 have HX:=Zh hx
 have Sc:Hid ((w.alloc (.cells (ZY x).toArray 59)).heap[w.heap.size]?=some (.cells (ZY x).toArray 59 (0,0))):=Z7 w _
 have Vp:Hid (Below w w (w.alloc (.cells (ZY x).toArray 59))):=Z' w _
 have CR0:=Zh (fun (w':World) (hb:Below w w w')=>K1 v L w' (Utf8Tabs_below hT hb) (h.below hb) hL)
 have HL:=Zh hL
 clear hx hT h hL
 obtain ⟨p,sr,b,f⟩:=x
 dsimp only [ZY] at Sc Vp ⊢
 go_enter Tryz.func55,Tryz.ntmps55
 go_upto_region 1 with fail
 generalize w.alloc (.cells (Qe p sr b f) 59)=w1 at *
 have Zz:Hid (∀ w',Below w1 w1 w'→w'.rangeAt w.heap.size 0 (Qe p sr b f)∧Below w1 w1 w'):=fun w' hb=>⟨fun m v hm=>by rw [QP,cell_of ((hb.block _ (ZV Sc.o)).trans Sc.o) m];simpa using hm,hb⟩
 have CR:=Zh (CR0.o w1.drew (Vp.o.trans ((YH w1.heap.size w1).drew.mono Vp.o.size)))
 clear CR0
 refine Sd ?_
 refine Z_.Zu (d:=3) (S:=(fun w'=>w'.rangeAt w.heap.size 0 (Qe p sr b f)∧Below w1 w1 w')) ZB ?_ (fun _=>?_)
 ·(try dsimp only)
  exact Zz.o _ (YH _ _).drew
 refine YP 0 (h:=?_)
 refine Z_.tk 2 ?_ rfl ?_ <| ?_
 rotate_left
 ·exact gm
 try simp only [Z_.pt]
 refine YR 1 (h:=fun K hK=>?_)
 go_simp
 refine CR.o.mono ?_
 rintro e w2 ⟨k,g,b',ov,av,mv,lv,M,R,ep,rfl,ho,T4⟩
 have HF:=Zh (T4.bkf ho)
 have X6:=Zh ((YH w1.heap.size w1).drew.trans T4.Zj)
 clear ho T4
 go_wp2_with fail
 refine Z_.Y_ hK _ _ ?_ (fun _=>?_)
 ·(try dsimp only)
  exact Zz.o _ (by first|with_reducible exact X6.o|with_reducible exact (YH _ _).drew)
 clear hK K
 try simp only [Z_.pt]
 refine YR 3 (h:=fun K hK=>?_)
 go_simp
 refine (r_ HF.o HL.o _ HX.o (HLK.o _ HX.o).1 (HLK.o _ HX.o).2.1).mono ?_
 rintro e w3 ⟨⟨V,wv,cv,qv,rfl,pS,pT⟩,VH⟩
 have VT:=Zh VH
 have IM:=Zh pS
 have HVR:=Zh pT
 clear VH pS pT
 go_wp2_with fail
 refine Z_.Ye hK _ _ ZB ?_
 clear hK K
 try simp only [Z_.pt]
 refine YP 4 (h:=?_)
 refine Z_.Yr ZB ?_ _
 refine QY ?_
 go_wp2_with fail
 go_ret
 exact ⟨⟨V,_,_,_,_,_,wv,cv,qv,rfl,IM.o,HVR.o⟩,Vp.o.trans ((X6.o.trans (VT.o.mono X6.o.size)).mono Vp.o.size)⟩
def zU (L:List VG) (x:Zq) (at':Int):Int:=if x∈X8 L L.length L.length then (if there x at' then (Wu L x at'.toNat).cur else -1) else -1
theorem nC (v:Value) (L:List VG) (x:Zq) (at':Int) (w:World) (hT:Xz w) (h:Xe w v L) (hL:L.length≤256) :
  Calls Tryz.prog 35 #[v,.agg (ZY x).toArray,.int .i64 at'] w fun e w'=>e = .returned (.int .i64 (zU L x at'))∧Below w w w':=by
 have Sc:Hid (Below w w (w.alloc (.cells (ZY x).toArray 59))):=Z' w _
 have hz:(w.alloc (.cells (ZY x).toArray 59)).heap[w.heap.size]?=some (.cells (ZY x).toArray 59 (0,0)):=Z7 w _
 have HX:Hid (zU L x at'=if x∈X8 L L.length L.length then (if there x at' then (Wu L x at'.toNat).cur else -1) else -1):=rfl
 generalize zU L x at'=X at *
 by_cases hx:x∈X8 L L.length L.length
 ·have V_:=Ri L L.length L.length (Zw _) x hx
  have CV:=Zh (Me v L x (w.alloc (.cells (ZY x).toArray 59)) (Utf8Tabs_below hT Sc.o) (h.below Sc.o) hL hx)
  have Vs:Hid (X=if there x at' then (Wu L x at'.toNat).cur else -1):=by show _=_;rw [HX.o,ZQ hx]
  have H0:=Zh V_.1
  have H1:=Zh V_.2.2
  clear hx V_ HX hT h hL
  obtain ⟨p,sr,b,f⟩:=x
  dsimp only [ZY] at CV Sc hz ⊢
  go_enter Tryz.func35,Tryz.ntmps35
  go_wp2_with (first|(with_reducible refine Y8 59 (.tmp 4) rfl ?_;refine Y9 rfl 59 (.tmp 4) rfl w.heap.size rfl 59 (Qe p sr b f) (0,0) _ hz Tryz.underlying59 rfl ZB ?_)|(go_at_call 55;refine CV.o.mono ?_;rintro e w2 ⟨⟨V,k,ov,av,mv,lv,wv,cv,qv,rfl,pS,pT⟩,Y0⟩;have X6:=Zh (Sc.o.trans (Y0.mono Sc.o.size));have CW:=Zh (nG V k L _ wv cv qv w2 pS.view pT H0.o H1.o at');rw [←Vs.o] at CW;clear pS pT Y0)|(go_at_call 65;refine CW.o.mono ?_;rintro e w' ⟨rfl,rfl⟩))
  go_ret
  exact ⟨rfl,X6.o⟩
 ·have CV:=Zh (Md v L x (w.alloc (.cells (ZY x).toArray 59)) (Utf8Tabs_below hT Sc.o) (h.below Sc.o) hL hx)
  have Vs:Hid (X = -1):=by show _=_;rw [HX.o,Z4 hx]
  clear hx HX hT h hL
  obtain ⟨p,sr,b,f⟩:=x
  dsimp only [ZY] at CV Sc hz ⊢
  go_enter Tryz.func35,Tryz.ntmps35
  go_wp2_with (first|(with_reducible refine Y8 59 (.tmp 4) rfl ?_;refine Y9 rfl 59 (.tmp 4) rfl w.heap.size rfl 59 (Qe p sr b f) (0,0) _ hz Tryz.underlying59 rfl ZB ?_)|(go_at_call 55;refine CV.o.mono ?_;rintro e w2 ⟨rfl,Y0⟩;have X6:=Zh (Sc.o.trans (Y0.mono Sc.o.size));have CW:=Zh (nH w2 at');clear Y0)|(go_at_call 65;refine CW.o.mono ?_;rintro e w' ⟨rfl,rfl⟩))
  go_ret
  exact ⟨by rw [Vs.o];rfl,X6.o⟩
def Iz (L:List VG) (x:Zq) (at':Int):Bool:=if x∈X8 L L.length L.length then (if there x at' then (Wu L x at'.toNat).quiet else true) else true
theorem v_ (v:Value) (L:List VG) (x:Zq) (at':Int) (w:World) (hT:Xz w) (h:Xe w v L) (hL:L.length≤256) :
  Calls Tryz.prog 33 #[v,.agg (ZY x).toArray,.int .i64 at'] w fun e w'=>e = .returned (.bool (Iz L x at'))∧Below w w w':=by
 have Sc:Hid (Below w w (w.alloc (.cells (ZY x).toArray 59))):=Z' w _
 have hz:(w.alloc (.cells (ZY x).toArray 59)).heap[w.heap.size]?=some (.cells (ZY x).toArray 59 (0,0)):=Z7 w _
 have HX:Hid (Iz L x at'=if x∈X8 L L.length L.length then (if there x at' then (Wu L x at'.toNat).quiet else true) else true):=rfl
 generalize Iz L x at'=X at *
 by_cases hx:x∈X8 L L.length L.length
 ·have V_:=Ri L L.length L.length (Zw _) x hx
  have CV:=Zh (Me v L x (w.alloc (.cells (ZY x).toArray 59)) (Utf8Tabs_below hT Sc.o) (h.below Sc.o) hL hx)
  have Vs:Hid (X=if there x at' then (Wu L x at'.toNat).quiet else true):=by show _=_;rw [HX.o,ZQ hx]
  have H0:=Zh V_.1
  have H1:=Zh V_.2.2
  clear hx V_ HX hT h hL
  obtain ⟨p,sr,b,f⟩:=x
  dsimp only [ZY] at CV Sc hz ⊢
  go_enter Tryz.func33,Tryz.ntmps33
  go_wp2_with (first|(with_reducible refine Y8 59 (.tmp 4) rfl ?_;refine Y9 rfl 59 (.tmp 4) rfl w.heap.size rfl 59 (Qe p sr b f) (0,0) _ hz Tryz.underlying59 rfl ZB ?_)|(go_at_call 55;refine CV.o.mono ?_;rintro e w2 ⟨⟨V,k,ov,av,mv,lv,wv,cv,qv,rfl,pS,pT⟩,Y0⟩;have X6:=Zh (Sc.o.trans (Y0.mono Sc.o.size));have CW:=Zh (wq V k L _ wv cv qv w2 pS.view pT H0.o H1.o at');rw [←Vs.o] at CW;clear pS pT Y0)|(go_at_call 64;refine CW.o.mono ?_;rintro e w' ⟨rfl,rfl⟩))
  go_ret
  exact ⟨rfl,X6.o⟩
 ·have CV:=Zh (Md v L x (w.alloc (.cells (ZY x).toArray 59)) (Utf8Tabs_below hT Sc.o) (h.below Sc.o) hL hx)
  have Vs:Hid (X=true):=by show _=_;rw [HX.o,Z4 hx]
  clear hx HX hT h hL
  obtain ⟨p,sr,b,f⟩:=x
  dsimp only [ZY] at CV Sc hz ⊢
  go_enter Tryz.func33,Tryz.ntmps33
  go_wp2_with (first|(with_reducible refine Y8 59 (.tmp 4) rfl ?_;refine Y9 rfl 59 (.tmp 4) rfl w.heap.size rfl 59 (Qe p sr b f) (0,0) _ hz Tryz.underlying59 rfl ZB ?_)|(go_at_call 55;refine CV.o.mono ?_;rintro e w2 ⟨rfl,Y0⟩;have X6:=Zh (Sc.o.trans (Y0.mono Sc.o.size));have CW:=Zh (wu w2 at');clear Y0)|(go_at_call 64;refine CW.o.mono ?_;rintro e w' ⟨rfl,rfl⟩))
  go_ret
  exact ⟨by rw [Vs.o];rfl,X6.o⟩
structure uz where
 event:Int
 seq:Int
 time:Int
 Yy:Int
 frame:Int
 sw:Bool
deriving DecidableEq
def LB:uz:=⟨0,0,0,0,0,false⟩
structure wj where
 o:List uz
 opn:Int
 begin:Int
 UD:Int
def Om (l:List uz):uz:=l.getD (l.length-1) LB
def Oy (a b:Int):Int:=IntKind.i16.wrap (IntKind.u16.wrap (a-b))
def Ei (L:List VG) (s:VS) (out:List uz) (k:Nat):Bool:=
 decide ((ZX L k).Wo.ZF=s.cur) && !decide (out.length=0) && decide (0<Oy (ZX L k).XT.seq (ZX L (Om out).event.toNat).XT.seq)
def ko (L:List VG) (x:Zq) (z:wj) (k:Nat) (op:Bool):uz:=
 ⟨k,IntKind.u16.wrap z.o.length,IntKind.u32.wrap (IntKind.u32.wrap ((ZX L k).XT.time-(ZX L z.opn.toNat).XT.time)+z.begin),Xc x.peer x.source,IntKind.u16.wrap (z.UD-1),op⟩
def Rl (z:wj) (k:Nat) (op st:Bool):wj:=
 ⟨z.o,if op then k else z.opn,if op then (if 0<z.o.length then IntKind.u32.wrap ((Om z.o).time+3000) else z.begin) else z.begin,if st then IntKind.u16.wrap (z.UD+1) else z.UD⟩
def J2 (L:List VG) (x:Zq) (s:VS) (z:wj) (k:Nat):wj:=
 let r:=Rl z k (Ug s (ZX L k).Wo) (ZX L k).Wo.start
 {r with o:=r.o++[ko L x r k (Ug s (ZX L k).Wo)]}
def PI (L:List VG) (x:Zq) (s:VS) (z:wj) (k:Nat):wj:=
 if Tk L x k && !s.quiet && (Ug s (ZX L k).Wo || Ei L s z.o k) then J2 L x s z k else z
def Rs (L:List VG) (x:Zq):Nat→wj
 | 0=>⟨[],0,0,0⟩
 | k+1=>PI L x (Wu L x k) (Rs L x k) k
structure Gp (k:Nat) (z:wj):Prop where
 len:z.o.length≤k
 ev:∀ e∈z.o,0≤e.event∧e.event<k
 opn:0≤z.opn∧(z.opn<k∨z.opn=0)
 bg:0≤z.begin∧z.begin<4294967296
 st:0≤z.UD∧z.UD<65536
theorem A1 {z:wj} {k:Nat} (h:Gp k z) (op st:Bool):(0≤(Rl z k op st).opn∧(Rl z k op st).opn<((k+1:Nat):Int))∧(0≤(Rl z k op st).begin∧(Rl z k op st).begin<4294967296)∧(0≤(Rl z k op st).UD∧(Rl z k op st).UD<65536):=by
 have h1:=h.opn
 have h2:=h.bg
 have h3:=h.st
 have w1:0≤IntKind.u32.wrap ((Om z.o).time+3000)∧IntKind.u32.wrap ((Om z.o).time+3000)<4294967296:=by rw [NW];omega
 have w2:0≤IntKind.u16.wrap (z.UD+1)∧IntKind.u16.wrap (z.UD+1)<65536:=by rw [IntKind.wrap_u16];omega
 unfold Rl
 dsimp only
 refine ⟨?_,?_,?_⟩
 ·cases op
  ·show 0≤z.opn∧z.opn<_;omega
  ·show 0≤(k:Int)∧(k:Int)<_;omega
 ·cases op
  ·exact h2
  ·by_cases hl:0<z.o.length
   ·rw [ZQ rfl,ZQ hl];exact w1
   ·rw [ZQ rfl,Z4 hl];exact h2
 ·cases st
  ·exact h3
  ·exact w2
theorem Gp.step {L:List VG} {x:Zq} {s:VS} {z:wj} {k:Nat} (h:Gp k z):Gp (k+1) (PI L x s z k):=by
 have hw:Gp (k+1) z:=⟨by have:=h.len;omega,fun e he=>by have:=h.ev e he;omega,by have:=h.opn;omega,h.bg,h.st⟩
 unfold PI
 split
 ·obtain ⟨r1,r2,r3⟩:=A1 h (Ug s (ZX L k).Wo) (ZX L k).Wo.start
  unfold J2
  dsimp only
  refine ⟨?_,?_,⟨r1.1,Ww r1.2⟩,r2,r3⟩
  ·show (z.o++[_]).length≤k+1
   rw [UM];have:=h.len;simp only [List.length_cons,List.length_nil];omega
  ·intro e he
   rcases D5.1 he with h1|h1
   ·exact hw.ev e h1
   ·rw [Kc] at h1;subst h1;show 0≤(k:Int)∧(k:Int)<((k+1:Nat):Int);omega
 ·exact hw
theorem E2 (L:List VG) (x:Zq):∀ k,Gp k (Rs L x k)
 | 0=>⟨Zw _,(fun e h=>by cases h),⟨Int.le_refl _,Wi rfl⟩,⟨Int.le_refl _,(by decide:(0:Int)<4294967296)⟩,⟨Int.le_refl _,(by decide:(0:Int)<65536)⟩⟩
 | k+1=>(E2 L x k).step
end Go.Proofs.By
namespace Go.Proofs.By
open Go.RowKit Go.Proofs.Heap Go.Proofs
open Go.Proofs.Rm (below_drewN YL)
def UY (e:uz):List Value:=(Q4 e.event e.seq e.time e.Yy e.frame e.sw)
theorem uP:Elem Tryz.prog 61 70 6 32:=⟨Tryz.underlying61,⟨.agg (Q4 0 0 0 0 0 false),by kernel_rfl,rfl⟩,by decide⟩
theorem uw (n:Int) : -32768≤IntKind.i16.wrap n∧IntKind.i16.wrap n<32768:=by
 simp only [IntKind.wrap,IntKind.bits,IntKind.signed]
 simp
 split <;> omega
theorem mG (a b:Int) (w:World):Calls Tryz.prog 67 (Qw a b) w fun e w'=>e = .returned (.int .i64 (Oy a b))∧w=w':=by
 have HX:Hid (Oy a b=IntKind.i16.wrap (IntKind.u16.wrap (a-b))):=rfl
 have h1:=uw (IntKind.u16.wrap (a-b))
 have hw:IntKind.i64.wrap (IntKind.i16.wrap (IntKind.u16.wrap (a-b)))=IntKind.i16.wrap (IntKind.u16.wrap (a-b)):=Ty _ Zo
 generalize Oy a b=X at *
 clear h1
 go_enter Tryz.func67,Tryz.ntmps67
 go_wp2
 go_ret
 exact ⟨by rw [HX.o];rfl,rfl⟩
theorem rF (a b:Int) (w:World):Calls Tryz.prog 38 (Qw a b) w fun e w'=>e = .returned (.bool (decide (0<Oy a b)))∧w=w':=by
 have CD:=Zh (mG a b w)
 generalize Oy a b=d at *
 go_enter Tryz.func38,Tryz.ntmps38
 go_wp2_with (go_at_call 67;refine CD.o.mono ?_;rintro e w' ⟨rfl,rfl⟩)
 go_ret
 exact ⟨rfl,rfl⟩
section
variable {w:World} {V k:Nat} {ov av mv lv:Value} {L:List VG} {x:Zq} {wv cv qv:Value}
theorem oH {a:Option Addr} {n c:Nat} {l:List uz} (h:Row w 70 (.slice a n c) n (l.flatMap UY)) {m:Nat} (hm:m<l.length):∃ g o,a=some ⟨g,o,none⟩∧w.cell? ⟨g,o+m*6,none⟩=some (.int .i64 (l.getD m LB).event)∧w.cell? ⟨g,o+m*6+2,none⟩=some (.int .u32 (l.getD m LB).time):=by
 obtain ⟨g,o,e,h2⟩:=Tp UY 6 (fun _=>rfl) h Zo
 have hz:l[m]?=some (l.getD m LB):=by rw [Rw,U7 hm];rfl
 exact ⟨g,o,e,h2 m _ hz 0 Zo,h2 m _ hz 2 Zo⟩
theorem Kb (h:VB w V k ov av mv lv L x wv cv qv) {j:Nat} (hj:j<L.length) {s:VS} (hs:fX w wv cv qv j s) (ea:Option Addr) (ec:Nat) (l:List uz) (z1 z2 z3:Int) (hr:Row w 70 (.slice ea l.length ec) l.length (l.flatMap UY)) (he:∀ e∈l,0≤e.event∧e.event<L.length) (hl:l.length≤1000) :
  Calls Tryz.prog 90 (Q1 (some ⟨V,0,none⟩) (Qv ea l.length ec z1 z2 z3) (j:Int)) w fun e w'=>e = .returned (.bool (Ei L s l j))∧Below w w w':=by
 obtain ⟨g,o,c,a1,n1,c1,a2,n2,c2,a3,n3,c3,px,hm⟩:=Ks h hj
 subst px
 obtain ⟨g2,o2,m2,d2,F6,l2,e2⟩:=hs.cur
 subst F6
 have hVl:=ZV h.view
 have VR:=ZV h.book
 have v0:w.cell? ⟨V,0,none⟩=some (.pointer (some ⟨k,0,none⟩)):=Zc h.view 0 rfl
 have v6:w.cell? ⟨V,6,none⟩=some (.slice (some ⟨g2,o2,none⟩) m2 d2):=Zc h.view 6 rfl
 have b2:w.cell? ⟨k,2,none⟩=some (.slice (some ⟨g,o,none⟩) L.length c):=Zc h.book 2 rfl
 have HX:Hid (Ei L s l j=(decide ((ZX L j).Wo.ZF=s.cur) && !decide (l.length=0) && decide (0<Oy (ZX L j).XT.seq (ZX L (Om l).event.toNat).XT.seq))):=rfl
 have Al:(j:Int)<(L.length:Int):=Ou.2 hj
 have i2:(j:Int)<(m2:Int):=Ou.2 l2
 have mU:=Zh (fun (q:Nat) (hq:q<L.length)=>Ks h hq)
 have HKB:Hid (∀ w',Below w w w'→w'.cell? ⟨V,0,none⟩=some (.pointer (some ⟨k,0,none⟩))∧w'.cell? ⟨k,2,none⟩=some (.slice (some ⟨g,o,none⟩) L.length c)):=fun w' hb=>⟨Yi v0 hb,Yi b2 hb⟩
 clear h hs
 generalize Ei L s l j=X at *
 generalize s.cur=cu at *
 have Vp:Hid (Below w w (w.alloc (.cells (Qv ea l.length ec z1 z2 z3) 162))):=Z' w _
 have vg:(w.alloc (.cells (Qv ea l.length ec z1 z2 z3) 162)).heap[w.heap.size]?=some (.cells (Qv ea l.length ec z1 z2 z3) 162 (0,0)):=Z7 w _
 have aX:(w.alloc (.cells (Qv ea l.length ec z1 z2 z3) 162)).rangeAt g (o+j*15) (Qg (ZX L j).XT.XR (ZX L j).XT.type (ZX L j).XT.seq (ZX L j).XT.time (ZX L j).XT.Yy a1 n1 c1 (ZX L j).XT.XQ (ZX L j).XT.Yn a2 n2 c2 a3 n3 c3 (ZX L j).XT.pad (ZX L j).Wo.ZF (ZX L j).Wo.key (ZX L j).Wo.start (ZX L j).Wo.frame):=fun m v hv=>Yi (hm m v hv) Vp.o
 have hz:((w.alloc (.cells (Qv ea l.length ec z1 z2 z3) 162)).alloc (.cells UW 97)).heap[w.heap.size+1]?=some (.cells UW 97 (0,0)):=by
  have h:=Z7 (w.alloc (.cells (Qv ea l.length ec z1 z2 z3) 162)) (.cells UW 97)
  rw [size_alloc] at h
  exact h
 generalize (ZX L j).XT=P at *
 generalize (ZX L j).Wo=D at *
 have VT:Hid (Below w w (((w.alloc (.cells (Qv ea l.length ec z1 z2 z3) 162)).alloc (.cells UW 97)).setRow (w.heap.size+1) (Jr P.XR P.type P.seq P.time P.Yy a1 n1 c1 P.XQ P.Yn a2 n2 c2 a3 n3 c3 P.pad D))):=Z3 (ZC Vp.o (Zw _) _) (IP _) _
 have Pv:=setRow_heap _ _ _ (Jr P.XR P.type P.seq P.time P.Yy a1 n1 c1 P.XQ P.Yn a2 n2 c2 a3 n3 c3 P.pad D) _ _ hz
 have mb:Hid ((((w.alloc (.cells (Qv ea l.length ec z1 z2 z3) 162)).alloc (.cells UW 97)).setRow (w.heap.size+1) (Jr P.XR P.type P.seq P.time P.Yy a1 n1 c1 P.XQ P.Yn a2 n2 c2 a3 n3 c3 P.pad D)).heap[w.heap.size]?=some (.cells (Qv ea l.length ec z1 z2 z3) 162 (0,0))):=by
  show _=_
  rw [setRow_other _ _ _ _ Zo,(Z' (w.alloc (.cells (Qv ea l.length ec z1 z2 z3) 162)) _).block _ (ZV vg)]
  exact vg
 clear hm vg Vp
 go_enter Tryz.func90,Tryz.ntmps90
 go_upto_region 2 with (first|(with_reducible refine Y8 97 (.tmp 17) rfl ?_;refine wpList_load_mid rfl 97 (.tmp 17) rfl g (o+j*15) rfl (Jr P.XR P.type P.seq P.time P.Yy a1 n1 c1 P.XQ P.Yn a2 n2 c2 a3 n3 c3 P.pad D) _ aX Tryz.underlying97 rfl ZB ?_)|(with_reducible refine ZU 97 (.tmp 7) (.tmp 18) rfl ?_;refine ZW rfl 97 (.tmp 7) (.tmp 18) rfl rfl (w.heap.size+1) (Jr P.XR P.type P.seq P.time P.Yy a1 n1 c1 P.XQ P.Yn a2 n2 c2 a3 n3 c3 P.pad D) rfl rfl 97 UW hz ZB ZB ZB ?_))
 clear hz aX v0 b2
 have KC:Hid (∀ (g o:Nat) (u:Value),w.cell? ⟨g,o,none⟩=some u→(((w.alloc (.cells (Qv ea l.length ec z1 z2 z3) 162)).alloc (.cells UW 97)).setRow (w.heap.size+1) (Jr P.XR P.type P.seq P.time P.Yy a1 n1 c1 P.XQ P.Yn a2 n2 c2 a3 n3 c3 P.pad D)).cell? ⟨g,o,none⟩=some u):=fun g o u hc=>Yi hc VT.o
 replace v6:=KC.o _ _ _ v6
 replace e2:=KC.o _ _ _ e2
 have KB:Hid (∀ w',Below w w w'→w'.cell? ⟨V,0,none⟩=some (.pointer (some ⟨k,0,none⟩))∧w'.cell? ⟨k,2,none⟩=some (.slice (some ⟨g,o,none⟩) L.length c)):=HKB.o
 generalize (((w.alloc (.cells (Qv ea l.length ec z1 z2 z3) 162)).alloc (.cells UW 97)).setRow (w.heap.size+1) (Jr P.XR P.type P.seq P.time P.Yy a1 n1 c1 P.XQ P.Yn a2 n2 c2 a3 n3 c3 P.pad D))=w3 at *
 have y11:w3.cell? ⟨w.heap.size+1,11,none⟩=some (.int .i64 D.ZF):=Zc Pv 11 rfl
 have y2:w3.cell? ⟨w.heap.size+1,2,none⟩=some (.int .u16 P.seq):=Zc Pv 2 rfl
 have k0:w3.cell? ⟨w,0,none⟩=some (.slice ea l.length ec):=Zc mb.o 0 rfl
 have HK:=Zh (KB.o _ VT.o)
 clear Pv mb KB HKB
 by_cases h1:D.ZF=cu
 rotate_left
 ·have f1:(D.ZF != cu)=true:=by rw [R6];exact h1
  go_quiet (fail)
  have Uc:=Zh (below_drewN VT.o nq)
  go_wp2_with fail
  go_ret
  exact ⟨by rw [HX.o,WB h1];rfl,Uc.o⟩
 have f1:(D.ZF != cu)=false:=by rw [bne_eq_false_iff_eq];exact h1
 have H1:=Zh h1
 clear h1
 by_cases h2:l.length=0
 ·have f2:((l.length:Int) == 0)=true:=by rw [beq_iff_eq];omega
  have H2:=Zh h2
  clear h2
  go_quiet (fail)
  have Uc:=Zh (below_drewN VT.o nq)
  go_wp2_with fail
  go_ret
  exact ⟨by rw [HX.o,We H2.o];simp,Uc.o⟩
 have f2:((l.length:Int) == 0)=false:=by rw [WQ];omega
 obtain ⟨m,hm⟩:∃ m,l.length=m+1:=⟨l.length-1,Zo⟩
 obtain ⟨ge,oe,kR,x0,-⟩:=oH (m:=m) hr Zo
 subst kR
 have Ao:l.getD m LB∈l:=by
  rw [Rw,U7 (by omega:m<l.length)]
  exact Ot _
 have Lm:=he _ Ao
 have iF:Om l=l.getD m LB:=by unfold Om;rw [hm];rfl
 rw [iF] at HX
 generalize l.getD m LB=E at *
 obtain ⟨q,hq⟩:∃ q:Nat,E.event=(q:Int):=⟨E.event.toNat,Zo⟩
 rw [hq] at x0 HX Lm
 have hqL:q<L.length:=by omega
 have M5:Hid (X=decide (0<Oy P.seq (ZX L q).XT.seq)):=by
  show _=_
  rw [HX.o,We H1.o,WB h2]
  rfl
 obtain ⟨g',o',c',b1,r1,s1,b2',r2,s2,b3,r3,s3,o_,hmq⟩:=mU.o q hqL
 cases o_
 have x2:=KC.o _ _ _ (PF hmq 2 rfl)
 replace x0:=KC.o _ _ _ x0
 have hqI:(q:Int)<(L.length:Int):=Ou.2 hqL
 have CA:=Zh (fun (w':World)=>rF P.seq (ZX L q).XT.seq w')
 generalize Oy P.seq (ZX L q).XT.seq=df at *
 have mo:IntKind.i64.wrap ((l.length:Int)-1)=(m:Int):=by rw [Ty _ Zo];omega
 have iH:(m:Int)<(l.length:Int):=by omega
 have hmN:m<l.length:=by omega
 have HM:=Zh hm
 clear HX H1 h2 hr he Ao Lm iF hq mU hmq KC hm
 go_quiet (fail)
 have Uc:=Zh (below_drewN VT.o nq)
 have HK4:Hid ((w3.drewN nq).cell? ⟨V,0,none⟩=some (.pointer (some ⟨k,0,none⟩))∧(w3.drewN nq).cell? ⟨k,2,none⟩=some (.slice (some ⟨g,o,none⟩) L.length c)):=HK.o
 have x0':(w3.drewN nq).cell? ⟨ge,oe+m*6,none⟩=some (.int .i64 (q:Int)):=x0
 have x2':(w3.drewN nq).cell? ⟨g,o+q*15+2,none⟩=some (.int .u16 (ZX L q).XT.seq):=x2
 have lR:(w3.drewN nq).cell? ⟨w.heap.size+1,2,none⟩=some (.int .u16 P.seq):=y2
 have k0':(w3.drewN nq).cell? ⟨w,0,none⟩=some (.slice (some ⟨ge,oe,none⟩) l.length ec):=k0
 clear x0 x2 y2 k0 y11 v6 e2 HK VT
 generalize w3.drewN nq=w4 at *
 obtain ⟨v0,b2⟩:=HK4.o
 go_upto_region 5 with fail
 go_quiet ((go_at_call 38;exact Calls.quiet_of_same ((CA.o _).mono fun e w' ⟨a,b⟩=>⟨a,b.symm⟩)))
 have P7:=Zh (below_drewN Uc.o nq)
 go_wp2_with fail
 go_ret
 exact ⟨by rw [M5.o];rfl,P7.o⟩
end
structure SO (w w':World) (K:Nat) (z:wj) (o0 ov:Value):Prop where
 Zj:Below w w w'
 Za:w'.heap[K]?=some (.cells #[o0,.int .i64 z.opn,.int .u32 z.begin,.int .u16 z.UD] 162 (0,0))
 own:w'.ownsRow w 70 6 ov z.o.length (z.o.flatMap UY)
 ge:w.heap.size≤K
section
variable {w w1 w2:World} {K:Nat} {z:wj} {o0 ov:Value}
theorem SO.below (h:SO w w1 K z o0 ov) (hb:Below w1 w1 w2):SO w w2 K z o0 ov:=⟨h.Zj.trans (hb.mono h.Zj.size),(hb.block _ (ZV h.Za)).trans h.Za,Yx h.own hb,h.ge⟩
theorem SO.facts (h:SO w w1 K z o0 ov):w1.cell? ⟨K,0,none⟩=some o0∧w1.cell? ⟨K,1,none⟩=some (.int .i64 z.opn)∧w1.cell? ⟨K,2,none⟩=some (.int .u32 z.begin)∧w1.cell? ⟨K,3,none⟩=some (.int .u16 z.UD):=
 ⟨Zc h.Za 0 rfl,Zc h.Za 1 rfl,Zc h.Za 2 rfl,Zc h.Za 3 rfl⟩
theorem SO.set (h:SO w w1 K z o0 ov) (o:Nat) (u:Value) (z':wj) (o0':Value) (hz:z'.o=z.o) (hs:[o0,.int .i64 z.opn,.int .u32 z.begin,.int .u16 z.UD].set o u=[o0',.int .i64 z'.opn,.int .u32 z'.begin,.int .u16 z'.UD]):SO w (w1.setCell ⟨K,o,none⟩ u) K z' o0' ov:=by
 have h2:=VM h.Za o u
 rw [List.setIfInBounds_toArray,hs] at h2
 refine ⟨((Fr.Z8 P_ h.Zj).setCell (p:=⟨K,o,none⟩) (Ww h.ge) _).below,h2,?_,h.ge⟩
 rw [hz]
 refine XS h.own (fun i hi=>MW w1 ⟨K,o,none⟩ u i (fun e=>?_))
 have e:i=K:=e
 subst e
 exact Zf h.own Zd _ _ _ hi h.Za
theorem SO.grow (h:SO w w1 K z o0 ov) (hg:w1.grownBy w2 ov.ownBlock) {ov':Value} {l:List uz} (ho:w2.ownsRow w 70 6 ov' l.length (l.flatMap UY)):SO w w2 K {z with o:=l} o0 ov':=
 ⟨((Fr.Z8 P_ h.Zj).grown hg h.Zj.size (YL h.own)).below,(hg.block _ (ZV h.Za) (fun e=>Zf h.own Zd _ _ _ e.symm h.Za)).trans h.Za,ho,h.ge⟩
end
theorem kp (e:uz):∀ u∈UY e,u.oneCell'=true:=by
 intro u hu
 simp only [UY,Mg,List.mem_nil_iff,or_false] at hu
 rcases hu with rfl|rfl|rfl|rfl|rfl|rfl <;> rfl
section
variable {w:World} {V k:Nat} {ov av mv lv:Value} {L:List VG} {x:Zq} {wv cv qv:Value}
theorem O9 (h:VB w V k ov av mv lv L x wv cv qv) {j:Nat} (hj:j<L.length) (hL:L.length≤256) {s:VS} (hs:fX w wv cv qv j s) (K:Nat) (z:wj) (uv:Value) (w1:World) (rC:SO w w1 K z uv uv) (V_:Gp j z) :
  Calls Tryz.prog 91 #[.pointer (some ⟨V,0,none⟩),.pointer (some ⟨K,0,none⟩),.int .i64 (j:Int)] w1 fun e w2=>e = .returned (.tuple #[])∧∃ mB,SO w w2 K (J2 L x s z j) mB mB:=by
 obtain ⟨g,o,c,a1,n1,c1,a2,n2,c2,a3,n3,c3,px,hm⟩:=Ks h hj
 subst px
 have CN0:=Zh (fun (w':World) (hb:Below w w w')=>TK (h.below hb) hj (hs.below hb))
 have HV:=Zh h.view
 have zh:=Zh h.book
 have mU:=Zh (fun (q:Nat) (hq:q<L.length)=>Ks h hq)
 have bZ:=Zh (A1 V_)
 have hlen:=V_.len
 have HX:Hid (J2 L x s z j={Rl z j (Ug s (ZX L j).Wo) (ZX L j).Wo.start with o:=z.o++[ko L x (Rl z j (Ug s (ZX L j).Wo) (ZX L j).Wo.start) j (Ug s (ZX L j).Wo)]}):=rfl
 have Al:(j:Int)<(L.length:Int):=Ou.2 hj
 clear h hs V_
 generalize J2 L x s z j=X at *
 obtain ⟨xp,xs,xb,xf⟩:=x
 dsimp only at HV
 have HEM:Hid (∀ r op,ko L ⟨xp,xs,xb,xf⟩ r j op=⟨j,IntKind.u16.wrap r.o.length,IntKind.u32.wrap (IntKind.u32.wrap ((ZX L j).XT.time-(ZX L r.opn.toNat).XT.time)+r.begin),Xc xp xs,IntKind.u16.wrap (r.UD-1),op⟩):=fun _ _=>rfl
 generalize Ug s (ZX L j).Wo=op at *
 have Da:w1.rangeAt g (o+j*15) (Qg (ZX L j).XT.XR (ZX L j).XT.type (ZX L j).XT.seq (ZX L j).XT.time (ZX L j).XT.Yy a1 n1 c1 (ZX L j).XT.XQ (ZX L j).XT.Yn a2 n2 c2 a3 n3 c3 (ZX L j).XT.pad (ZX L j).Wo.ZF (ZX L j).Wo.key (ZX L j).Wo.start (ZX L j).Wo.frame):=fun m v hv=>Yi (hm m v hv) rC.Zj
 generalize (ZX L j).XT=P at *
 generalize (ZX L j).Wo=D at *
 have hz:=Z7 w1 (.cells UW 97)
 have np:Hid (SO w ((w1.alloc (.cells UW 97)).setRow w1.heap.size (Jr P.XR P.type P.seq P.time P.Yy a1 n1 c1 P.XQ P.Yn a2 n2 c2 a3 n3 c3 P.pad D)) K z uv uv):=rC.below (Z3 (Z' w1 _) (Zw _) _)
 have HT2:Hid (((w1.alloc (.cells UW 97)).setRow w1.heap.size (Jr P.XR P.type P.seq P.time P.Yy a1 n1 c1 P.XQ P.Yn a2 n2 c2 a3 n3 c3 P.pad D)).heap[w1.heap.size]?=some (.cells (Jr P.XR P.type P.seq P.time P.Yy a1 n1 c1 P.XQ P.Yn a2 n2 c2 a3 n3 c3 P.pad D) 97 (0,0))):=setRow_heap _ _ _ (Jr P.XR P.type P.seq P.time P.Yy a1 n1 c1 P.XQ P.Yn a2 n2 c2 a3 n3 c3 P.pad D) _ _ hz
 have v0:w1.cell? ⟨V,0,none⟩=some (.pointer (some ⟨k,0,none⟩)):=by rw [cell_of ((rC.Zj.block _ (ZV HV.o)).trans HV.o) 0];rfl
 have b2:w1.cell? ⟨k,2,none⟩=some (.slice (some ⟨g,o,none⟩) L.length c):=by rw [cell_of ((rC.Zj.block _ (ZV zh.o)).trans zh.o) 2];rfl
 clear hm rC
 go_enter Tryz.func91,Tryz.ntmps91
 go_upto_region 1 with (first|(with_reducible refine Y8 97 (.tmp 17) rfl ?_;refine wpList_load_mid rfl 97 (.tmp 17) rfl g (o+j*15) rfl (Jr P.XR P.type P.seq P.time P.Yy a1 n1 c1 P.XQ P.Yn a2 n2 c2 a3 n3 c3 P.pad D) _ Da Tryz.underlying97 rfl ZB ?_)|(with_reducible refine ZU 97 (.tmp 6) (.tmp 18) rfl ?_;refine ZW rfl 97 (.tmp 6) (.tmp 18) rfl rfl w1.heap.size (Jr P.XR P.type P.seq P.time P.Yy a1 n1 c1 P.XQ P.Yn a2 n2 c2 a3 n3 c3 P.pad D) rfl rfl 97 UW hz ZB ZB ZB ?_))
 clear hz Da v0 b2
 generalize ((w1.alloc (.cells UW 97)).setRow w1.heap.size (Jr P.XR P.type P.seq P.time P.Yy a1 n1 c1 P.XQ P.Yn a2 n2 c2 a3 n3 c3 P.pad D))=w2 at *
 generalize w1.heap.size=T at *
 obtain ⟨out,opn,kj,st0⟩:=z
 obtain ⟨ua,uc,rfl⟩:=Row.form (Row.Z6 np.o.own)
 dsimp only at HX bZ hlen np
 have CN:=Zh (CN0.o w2 np.o.Zj)
 clear CN0
 go_upto_if 22 with (go_at_call 89;refine CN.o.mono ?_;rintro e w3 ⟨rfl,VH⟩;have BX:=Zh (np.o.below VH);have HT3:Hid (w3.heap[T]?=some (.cells (Jr P.XR P.type P.seq P.time P.Yy a1 n1 c1 P.XQ P.Yn a2 n2 c2 a3 n3 c3 P.pad D) 97 (0,0))):=(VH.block _ (ZV HT2.o)).trans HT2.o;clear VH np HT2)
 go_cut [] (fun wx=>SO w wx K ⟨out,if op then j else opn,if op then (if 0<out.length then IntKind.u32.wrap ((Om out).time+3000) else kj) else kj,st0⟩ (.slice ua out.length uc) (.slice ua out.length uc)∧wx.heap[T]?=some (.cells (Jr P.XR P.type P.seq P.time P.Yy a1 n1 c1 P.XQ P.Yn a2 n2 c2 a3 n3 c3 P.pad D) 97 (0,0)))
 case first=>
  cases op with
  | false=>
   go_wp2_with fail
   go_meet
   exact ⟨BX.o,HT3.o⟩
  | true=>
   obtain ⟨u0,u1,u2,u3⟩:=BX.o.facts
   have f1:=ZO BX.o.Za 1
   have f2:=ZO BX.o.Za 2
   have hKT:T≠K:=fun e=>by
    have h1:=HT3.o
    rw [e,BX.o.Za] at h1
    injection h1 with h1
    injection h1 with _ h1
    exact absurd h1 Zd
   by_cases hl:0<out.length
   ·obtain ⟨m,hm⟩:∃ m,out.length=m+1:=⟨out.length-1,Zo⟩
    obtain ⟨ge,oe,kR,-,x2⟩:=oH (m:=m) (Row.Z6 BX.o.own) (by show m<out.length;omega)
    subst kR
    have HLA:Hid (Om out=out.getD m LB):=by show _=_;unfold Om;rw [hm];rfl
    have mo:IntKind.i64.wrap ((out.length:Int)-1)=(m:Int):=by rw [Ty _ Zo];omega
    have iH:(m:Int)<(out.length:Int):=by omega
    have hmN:m<out.length:=by omega
    have dl:decide (0<(out.length:Int))=true:=We Zo
    have hl1:((out.length:Int)-1)=(m:Int):=by omega
    have HH:Hid (0<out.length):=hl
    dsimp only at x2
    generalize out.getD m LB=E at *
    clear hm hl
    go_wp2_with fail
    go_meet
    rw [ZQ trivial,ZQ trivial,ZQ HH.o,HLA.o,NW]
    exact ⟨(BX.o.set 1 (.int .i64 (j:Int)) ⟨out,j,kj,st0⟩ _ rfl rfl).set 2 _ ⟨out,j,(E.time+3000) % 4294967296,st0⟩ _ rfl rfl,(MW _ ⟨K,2,none⟩ _ T hKT).trans ((MW _ ⟨K,1,none⟩ _ T hKT).trans HT3.o)⟩
   ·have dl:decide (0<(out.length:Int))=false:=WB Zo
    have dl2:decide (0<out.length)=false:=WB hl
    have HH:Hid (¬0<out.length):=hl
    clear hl
    go_wp2_with fail
    go_meet
    rw [ZQ trivial,ZQ trivial,Z4 HH.o]
    exact ⟨BX.o.set 1 (.int .i64 (j:Int)) ⟨out,j,kj,st0⟩ _ rfl rfl,(MW _ ⟨K,1,none⟩ _ T hKT).trans HT3.o⟩
 case rest=>
  obtain ⟨w4,rfl⟩:∃ W:World,W=wc:=⟨_,rfl⟩
  have rT:=Zh hcut.1
  have HT4:=Zh hcut.2
  clear hcut BX HT3
  have hrd:=(bZ.o op D.start).1
  have aJ:Hid (∀ st,Rl ⟨out,opn,kj,st0⟩ j op st=⟨out,if op then j else opn,if op then (if 0<out.length then IntKind.u32.wrap ((Om out).time+3000) else kj) else kj,if st then IntKind.u16.wrap (st0+1) else st0⟩):=fun _=>rfl
  rw [aJ.o] at hrd
  dsimp only at hrd
  generalize (if op then (if 0<out.length then IntKind.u32.wrap ((Om out).time+3000) else kj) else kj)=bg at *
  generalize hq:(if op then (j:Int) else opn)=oq at *
  obtain ⟨q,rfl⟩:∃ q:Nat,oq=(q:Int):=⟨oq.toNat,Zo⟩
  have hqL:q<L.length:=by omega
  clear hrd bZ hq
  have y13:w4.cell? ⟨T,13,none⟩=some (.bool D.start):=Zc HT4.o 13 rfl
  go_upto_if 50 with fail
  clear y13
  go_cut [] (fun wx=>SO w wx K ⟨out,q,bg,if D.start then IntKind.u16.wrap (st0+1) else st0⟩ (.slice ua out.length uc) (.slice ua out.length uc)∧wx.heap[T]?=some (.cells (Jr P.XR P.type P.seq P.time P.Yy a1 n1 c1 P.XQ P.Yn a2 n2 c2 a3 n3 c3 P.pad D) 97 (0,0)))
  case first=>
   have hKT:T≠K:=fun e=>by
    have h1:=HT4.o
    rw [e,rT.o.Za] at h1
    injection h1 with h1
    injection h1 with _ h1
    exact absurd h1 Zd
   obtain ⟨u0,u1,u2,u3⟩:=rT.o.facts
   have f3:=ZO rT.o.Za 3
   dsimp only at u3
   obtain ⟨dly,dke,dst,dfm⟩:=D
   cases dst with
   | false=>
    go_wp2_with fail
    go_meet
    exact ⟨rT.o,HT4.o⟩
   | true=>
    go_wp2_with fail
    go_meet
    rw [ZQ trivial]
    exact ⟨rT.o.set 3 _ ⟨out,q,bg,IntKind.u16.wrap (st0+1)⟩ _ rfl rfl,(MW _ ⟨K,3,none⟩ _ T hKT).trans HT4.o⟩
  case rest=>
   obtain ⟨w5,rfl⟩:∃ W:World,W=wc:=⟨_,rfl⟩
   have zE:=Zh (hcut.1.below (YH _ _).drew)
   have aG:Hid (w5.drew.heap[T]?=some (.cells (Jr P.XR P.type P.seq P.time P.Yy a1 n1 c1 P.XQ P.Yn a2 n2 c2 a3 n3 c3 P.pad D) 97 (0,0))):=hcut.2
   clear hcut rT HT4
   have aI:Hid (X=⟨out++[ko L ⟨xp,xs,xb,xf⟩ ⟨out,q,bg,if D.start then IntKind.u16.wrap (st0+1) else st0⟩ j op],q,bg,if D.start then IntKind.u16.wrap (st0+1) else st0⟩):=by show _=_;rw [HX.o,aJ.o]
   rw [HEM.o] at aI
   generalize (if D.start then IntKind.u16.wrap (st0+1) else st0)=rE at *
   dsimp only at aI
   rw [Wv] at aI
   obtain ⟨g',o',c',b1,r1,s1,b2',r2,s2,b3,r3,s3,o_,hmq⟩:=mU.o q hqL
   cases o_
   have HTQ:Hid (w.cell? ⟨g,o+q*15+3,none⟩=some (.int .u32 (ZX L q).XT.time)):=PF hmq 3 rfl
   generalize (ZX L q).XT=PQ at *
   clear HX aJ HEM hmq mU
   have hqI:(q:Int)<(L.length:Int):=Ou.2 hqL
   have FACTS:Hid (∀ w',SO w w' K ⟨out,q,bg,rE⟩ (.slice ua out.length uc) (.slice ua out.length uc)→w'.heap[T]?=some (.cells (Jr P.XR P.type P.seq P.time P.Yy a1 n1 c1 P.XQ P.Yn a2 n2 c2 a3 n3 c3 P.pad D) 97 (0,0))→w'.cell? ⟨K,0,none⟩=some (.slice ua out.length uc)∧w'.cell? ⟨K,1,none⟩=some (.int .i64 (q:Int))∧w'.cell? ⟨K,2,none⟩=some (.int .u32 bg)∧w'.cell? ⟨K,3,none⟩=some (.int .u16 rE)∧w'.cell? ⟨T,3,none⟩=some (.int .u32 P.time)∧w'.cell? ⟨V,0,none⟩=some (.pointer (some ⟨k,0,none⟩))∧w'.cell? ⟨V,1,none⟩=some (.int .i64 xp)∧w'.cell? ⟨V,2,none⟩=some (.int .i64 xs)∧w'.cell? ⟨k,2,none⟩=some (.slice (some ⟨g,o,none⟩) L.length c)∧w'.cell? ⟨g,o+q*15+3,none⟩=some (.int .u32 PQ.time)):=fun w' h1 h2=>
    ⟨h1.facts.1,h1.facts.2.1,h1.facts.2.2.1,h1.facts.2.2.2,Zc h2 3 rfl,by rw [cell_of ((h1.Zj.block _ (ZV HV.o)).trans HV.o) 0];rfl,by rw [cell_of ((h1.Zj.block _ (ZV HV.o)).trans HV.o) 1];rfl,by rw [cell_of ((h1.Zj.block _ (ZV HV.o)).trans HV.o) 2];rfl,by rw [cell_of ((h1.Zj.block _ (ZV zh.o)).trans zh.o) 2];rfl,Yi HTQ.o h1.Zj⟩
   have CO:=Zh (Hr xp xs w5.drew)
   go_upto_region 9 with fail
   refine Sd ?_
   refine Z_.Zu (d:=56) (S:=(fun w'=>w'.cell? ⟨K,0,none⟩=some (.slice ua out.length uc)∧w'.cell? ⟨K,1,none⟩=some (.int .i64 (q:Int))∧w'.cell? ⟨K,2,none⟩=some (.int .u32 bg)∧w'.cell? ⟨K,3,none⟩=some (.int .u16 rE)∧w'.cell? ⟨T,3,none⟩=some (.int .u32 P.time)∧w'.cell? ⟨V,0,none⟩=some (.pointer (some ⟨k,0,none⟩))∧w'.cell? ⟨V,1,none⟩=some (.int .i64 xp)∧w'.cell? ⟨V,2,none⟩=some (.int .i64 xs)∧w'.cell? ⟨k,2,none⟩=some (.slice (some ⟨g,o,none⟩) L.length c)∧w'.cell? ⟨g,o+q*15+3,none⟩=some (.int .u32 PQ.time))) ZB ?_ (fun _=>?_)
   ·(try dsimp only)
    exact FACTS.o _ zE.o aG.o
   refine YP 0 (h:=YP 1 (h:=YP 2 (h:=YP 3 (h:=YP 5 (h:=YP 6 (h:=YP 7 (h:=YP 8 (h:=YP 9 (h:=YP 13 (h:=YP 14 (h:=YP 16 (h:=YP 17 (h:=YP 18 (h:=YP 23 (h:=YP 24 (h:=YP 25 (h:=YP 32 (h:=YP 33 (h:=YP 34 (h:=YP 37 (h:=YP 38 (h:=YP 39 (h:=YP 40 (h:=YP 42 (h:=YP 43 (h:=YP 44 (h:=YP 45 (h:=YP 48 (h:=YP 49 (h:=YP 50 (h:=YK 4 (h:=YK 10 (h:=YP 11 (h:=YP 12 (h:=YK 15 (h:=YK 19 (h:=YP 20 (h:=YP 21 (h:=YK 22 (h:=YK 26 (h:=YP 27 (h:=YP 28 (h:=YP 29 (h:=YK 30 (h:=YP 31 (h:=YK 35 (h:=YP 36 (h:=YK 41 (h:=YK 46 (h:=YK 51 (h:=YP 52 (h:=?_))))))))))))))))))))))))))))))))))))))))))))))))))))
   refine YR 47 (h:=fun K hK=>?_)
   go_simp
   refine CO.o.mono ?_
   rintro e w' ⟨rfl,rfl⟩
   go_wp2_with fail
   refine Z_.Y_ hK _ _ ?_ (fun _=>?_)
   ·(try dsimp only)
    exact FACTS.o _ zE.o aG.o
   clear hK K
   try simp only [Z_.pt]
   refine YP 53 (h:=YP 54 (h:=?_))
   refine YR 55 (h:=fun K hK=>?_)
   refine Xk Zr uP (.tmp 112) Zr (Q4 (j:Int) (IntKind.u16.wrap (out.length:Int)) (IntKind.u32.wrap (IntKind.u32.wrap (P.time-PQ.time)+bg)) (Xc xp xs) (IntKind.u16.wrap (rE-1)) op) Zr Zr Zd ?_
   have HR:Hid (Row (w5.drew.alloc (.cells (Q4 (j:Int) (IntKind.u16.wrap (out.length:Int)) (IntKind.u32.wrap (IntKind.u32.wrap (P.time-PQ.time)+bg)) (Xc xp xs) (IntKind.u16.wrap (rE-1)) op) 70)) 70 (.slice (some ⟨w5.drew.heap.size,0,none⟩) 1 1) 1 (Q4 (j:Int) (IntKind.u16.wrap (out.length:Int)) (IntKind.u32.wrap (IntKind.u32.wrap (P.time-PQ.time)+bg)) (Xc xp xs) (IntKind.u16.wrap (rE-1)) op)):=VF w5.drew 70 1 (Q4 (j:Int) (IntKind.u16.wrap (out.length:Int)) (IntKind.u32.wrap (IntKind.u32.wrap (P.time-PQ.time)+bg)) (Xc xp xs) (IntKind.u16.wrap (rE-1)) op) Zd
   have Vb:=Z' w5.drew (.cells (Q4 (j:Int) (IntKind.u16.wrap (out.length:Int)) (IntKind.u32.wrap (IntKind.u32.wrap (P.time-PQ.time)+bg)) (Xc xp xs) (IntKind.u16.wrap (rE-1)) op) 70)
   have zE:=Zh (zE.o.below Vb)
   have aG:=Zh ((Vb.block _ (ZV aG.o)).trans aG.o)
   clear Vb
   refine Z_.Y_ hK _ _ ?_ (fun _=>?_)
   ·(try dsimp only)
    exact FACTS.o _ zE.o aG.o
   clear hK K
   try simp only [Z_.pt]
   refine YR 56 (h:=fun K hK=>?_)
   refine Zp Zr (.tmp 62) (.tmp 113) 61 Zr w.heap.size uP (.slice ua out.length uc) out.length (out.flatMap UY) Zr zE.o.own _ 1 (Q4 (j:Int) (IntKind.u16.wrap (out.length:Int)) (IntKind.u32.wrap (IntKind.u32.wrap (P.time-PQ.time)+bg)) (Xc xp xs) (IntKind.u16.wrap (rE-1)) op) Zr HR.o rfl (kp ⟨(j:Int),IntKind.u16.wrap (out.length:Int),IntKind.u32.wrap (IntKind.u32.wrap (P.time-PQ.time)+bg),Xc xp xs,IntKind.u16.wrap (rE-1),op⟩) Zo Zo zE.o.Zj.size ?_
   intro v6 w6 I2 zq
   have lS:Hid (w6.ownsRow w 70 6 v6 (out++[(⟨j,IntKind.u16.wrap out.length,IntKind.u32.wrap (IntKind.u32.wrap (P.time-PQ.time)+bg),Xc xp xs,IntKind.u16.wrap (rE-1),op⟩:uz)]).length ((out++[(⟨j,IntKind.u16.wrap out.length,IntKind.u32.wrap (IntKind.u32.wrap (P.time-PQ.time)+bg),Xc xp xs,IntKind.u16.wrap (rE-1),op⟩:uz)]).flatMap UY)):=(by rw [UM,O_];exact I2.o)
   have cf:=Zh (zE.o.grow zq.o lS.o)
   obtain ⟨na,nc,NZ⟩:∃ a c,v6 = .slice a (out.length+1) c:=by obtain ⟨a,c,h⟩:=Row.form (Row.Z6 lS.o);exact ⟨a,c,by rw [h,UM];rfl⟩
   subst NZ
   obtain ⟨u0,u1,u2,u3⟩:=cf.o.facts
   have f0:=ZO cf.o.Za 0
   refine Z_.Ye hK _ _ ZB ?_
   clear hK K
   try simp only [Z_.pt]
   refine YP 57 (h:=YP 58 (h:=?_))
   refine YR 59 (h:=fun K hK=>?_)
   go_simp
   have HSO7:=Zh (cf.o.set 0 (.slice na (out.length+1) nc) _ (.slice na (out.length+1) nc) rfl rfl)
   refine Z_.Ye hK _ _ ZB ?_
   clear hK K
   try simp only [Z_.pt]
   refine Z_.Yr ZB ?_ _
   refine QY ?_
   go_wp2_with fail
   first|refine bodyPost_end (results_none Zr _ _ _) rfl ?_|refine VJ (v:= .tuple #[]) (results_none Zr _ _ _) rfl ?_
   exact ⟨rfl,_,by rw [aI.o];exact HSO7.o⟩
end
end Go.Proofs.By

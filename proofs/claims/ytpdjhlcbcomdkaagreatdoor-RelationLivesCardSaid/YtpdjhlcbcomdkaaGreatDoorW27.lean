/- Part of a proof. -/
import Derived.Test.YtpdjhlcbcomdkaaGreatDoorW25
import Derived.Test.YtpdjhlcbcomdkaaGreatDoorW26
set_option linter.unusedVariables false
set_option linter.unusedSimpArgs false
set_option maxRecDepth 100000
set_option maxHeartbeats 16000000
open Go Go.Q Go.Qr
namespace Go.Proofs.By
open Go.RowKit Go.Proofs.Heap Go.Proofs
open Go.Proofs.Rm (SQ TQ YG YD Room ZT Inv Wa Z9 XP VZ Yc YL Yu below_drewN Xm YO)
open Go.Proofs.Od (Xz)
open Go.Proofs.Mem
theorem wN:Elem Tryz.prog 22 32 7 96:=⟨Tryz.underlying22,⟨.agg Mf,by kernel_rfl,rfl⟩,by decide⟩
theorem GH {α:Type} (f:α→List Value) (k:Nat) (hk:∀ x,(f x).length=k):∀ (l:List α) (m:Nat),(l.flatMap f).take (m*k)=(l.take m).flatMap f
 | [],m=>by simp
 | x :: l,0=>by simp
 | x :: l,m+1=>by
  have h:=hk x
  rw [List.flatMap_cons,List.take_succ_cons,List.flatMap_cons,Nat.succ_mul,List.take_append,h,F5 Zo,show m*k+k-k=m*k by omega,GH f k hk l m]
theorem Xe.take {w:World} {a:Option Addr} {c:Nat} {L:List VG} (h:Xe w (.slice a L.length c) L) {a':Option Addr} {K:Nat} (hK:K≤L.length)
  (hr:∀ w xs,K≤L.length→xs.length=L.length*7→XU w (.slice a L.length c) L.length xs→XU w (.slice a' K c) K (xs.take (K*7))):Xe w (.slice a' K c) (L.take K):=by
 have hl:(L.take K).length=K:=by rw [Tg];omega
 refine ⟨?_,fun y hy=>h.each y (List.mem_of_mem_take hy)⟩
 rw [hl]
 have:=hr w _ hK (XK (fun y:VG=>Xm y.x) 7 (fun _=>rfl) L) h.row
 rwa [GH (fun y:VG=>Xm y.x) 7 (fun _=>rfl)] at this
theorem Xe.form {w:World} {v:Value} {L:List VG} (h:Xe w v L):∃ a c,v = .slice a L.length c∧L.length≤c∧c≤maxLen:=by
 obtain ⟨a,c,h1,h2,h3,_⟩:=h.row
 exact ⟨a,c,h1,h2,h3⟩
theorem iY (v:Value) (L:List VG) (w:World) (h:Xe w v L):Calls Tryz.prog 84 #[v] w fun e w'=>(∃ v',e = .returned v'∧Xe w' v' (L.take 256))∧w=w':=by
 obtain ⟨va,vc,rfl,hvc,BC⟩:=h.form
 obtain ⟨K,dH⟩:∃ K,K=min L.length 256:=⟨_,rfl⟩
 have hK1:K≤L.length:=by omega
 have hKm:min (L.length:Int) 256=(K:Int):=by omega
 obtain ⟨vs,Uz,-,GX⟩:=Sy (P:=Tryz.prog) wN va L.length vc K Zo
 have HO:Hid (Xe w (.slice vs K vc) (L.take 256)):=by
  have h2:=h.take hK1 GX
  have e:L.take K=L.take 256:=by
   rcases Nat.le_total L.length 256 with h3|h3
   ·rw [dH,Nat.min_eq_left h3,nZ,F5 h3]
   ·rw [dH,Nat.min_eq_right h3]
  rwa [e] at h2
 clear h GX dH
 go_enter Tryz.func84,Tryz.ntmps84
 go_wp2
 go_ret
 exact ⟨⟨_,rfl,HO.o⟩,rfl⟩
def yJ (w:World) (S:Nat→Prop):Prop:=∀ j,S j→∃ c t f,w.heap[j]?=some (.cells c t f)∧(t=116∨t=35∨t=97∨t=59)
theorem yJ.no {w:World} {S:Nat→Prop} (h:yJ w S) {j:Nat} {c:Array Value} {e:TypeId} {f:Nat × Nat} (hj:w.heap[j]?=some (.cells c e f)) (he:e≠116∧e≠35∧e≠97∧e≠59):¬S j:=fun hs=>by
 obtain ⟨c',t,f',h1,h2⟩:=h j hs
 rw [hj] at h1
 injection h1 with h1
 injection h1 with _ h1
 subst h1
 rcases h2 with r|r|r|r
 ·exact he.1 r
 ·exact he.2.1 r
 ·exact he.2.2.1 r
 ·exact he.2.2.2 r
theorem yJ.ne {w:World} {S:Nat→Prop} (h:yJ w S) {e:TypeId} (he:e≠116∧e≠35∧e≠97∧e≠59):∀ j c fr,S j→w.heap[j]?≠some (.cells c e fr):=fun _ _ _ hs hj=>h.no hj he hs
structure RO (w:World) (g b K:Nat) (R:Room) (ep:Int) (TC:Array Value) (tv:Value) (ts:List YD) (x:TW):Prop where
 R8:Yd w g b R ep
 turns:YG w tv ts
 pk:Vt w x.p x.cv x.ev x.pv
 tk:w.heap[K]?=some (.cells TC 100 (0,0))
section
variable {w w':World} {g b K:Nat} {R:Room} {ep:Int} {TC:Array Value} {tv:Value} {ts:List YD} {x:TW}
theorem RO.below (h:RO w g b K R ep TC tv ts x) (hb:Below w w w'):RO w' g b K R ep TC tv ts x:=
 ⟨h.R8.below hb,Row.below h.turns hb,h.pk.below hb,(hb.block _ (ZV h.tk)).trans h.tk⟩
theorem Yd.far (h:Yd w g b R ep) {S:Nat→Prop} (hf:Fr w S w w') (hS:yJ w S):Yd w' g b R ep:=by
 obtain ⟨c,hc,_⟩:=h.room.cells
 exact ⟨(hf.block g (ZV h.Za) (hS.no h.Za Zd)).trans h.Za,h.room.fr hf (Zw _) (hS.no hc Zd) (hS.ne Zd)⟩
theorem RO.far (h:RO w g b K R ep TC tv ts x) {S:Nat→Prop} (hf:Fr w S w w') (hS:yJ w S):RO w' g b K R ep TC tv ts x:=
 ⟨h.R8.far hf hS,Row.fr h.turns hf (Zw _) (hS.ne Zd),h.pk.yR hf (hS.ne Zd) (hS.ne Zd),(hf.block _ (ZV h.tk) (hS.no h.tk Zd)).trans h.tk⟩
end
theorem Yd.cW {w:World} {g b:Nat} {R:Room} {ep:Int} (h:Yd w g b R ep):∀ j,(j=b∨j=g)→∃ c t f,w.heap[j]?=some (.cells c t f)∧t≠116∧t≠35∧t≠97∧t≠59∧t≠66∧t≠5:=by
 rintro j (rfl|rfl)
 ·obtain ⟨c,hc,_,_⟩:=h.room.cells
  exact ⟨c,_,_,hc,by decide,by decide,by decide,by decide,by decide,by decide⟩
 ·exact ⟨_,_,_,h.Za,by decide,by decide,by decide,by decide,by decide,by decide⟩
theorem Xw {P:Program} {w:World} {op:Oper} {a:Act} (ty:TypeId) (x:Operand) (ho:op.op = .load ty x) (b o:Nat) (hx:a.eval x = .pointer (some ⟨b,o,none⟩)) (cs:List Value) (d:TypeDesc) (hc:w.rangeAt b o cs)
  (hu:P.underlying ty=some d) (hd:d.isRow=true) (hi:(P.info? ty).map (·.size)=some cs.length):(execOp a.eval op).run P w = .ok (.value (.agg cs.toArray)) w:=by
 unfold execOp
 simp only [ho,hx,Instr.loadAt,Instr.sureAddr,Sem.run_bind,Sem.run_pure,Result.andThen_ok,run_loadVar_mid w b o ty cs d hc hu hd hi]
theorem Ig (x:FZ):∀ u∈WE x,u.oneCell'=true:=by
 intro u hu
 simp only [WE,Mg,List.mem_nil_iff,or_false] at hu
 rcases hu with rfl|rfl|rfl|rfl <;> rfl
structure RS (w w':World) (k g b:Nat) (ov:Value) (L:List VG) (n:Int) (j:Nat) (av mv lv:Value) (M:List TW) (R:Room) (ep:Int):Prop where
 Zj:Below w w w'
 book:WN w.heap.size w' k #[ov,av,mv,lv] av (XA L j) mv M lv (X8 L n j)
 fq:M.map (fun x=>(x.p,x.d))=OS L j
 R8:Yd w' g b R ep
 inv:Inv R
 yi:Wa R
 bare:R.bare=(WW L j).1
 dA:ep=(WW L j).2
 kg:w.heap.size≤k∧w.heap.size≤g∧w.heap.size≤b
theorem EH {p:KZ} {d:F3} {ca ea pa:Option Addr} {cn cc en ec pn pc:Nat}:∀ u∈[(⟨p,d,.slice ca cn cc,.slice ea en ec,.slice pa pn pc⟩:TW)].flatMap Xr,u.oneCell'=true:=by
 intro u hu
 have hu:u∈VN p d (.slice ca cn cc) (.slice ea en ec) (.slice pa pn pc):=by simpa [Xr] using hu
 simp only [VN,Mg,List.mem_nil_iff,or_false] at hu
 rcases hu with rfl|rfl|rfl|rfl|rfl|rfl|rfl|rfl|rfl|rfl|rfl|rfl|rfl|rfl|rfl <;> rfl
theorem Tp {α:Type} (f:α→List Value) (k:Nat) (hk:∀ x,(f x).length=k) {w:World} {e:TypeId} {a:Option Addr} {n c:Nat} {l:List α} (h:Row w e (.slice a n c) n (l.flatMap f)) (hl:0<l.length*k):∃ g off,a=some ⟨g,off,none⟩∧∀ (i:Nat) (x:α),l[i]?=some x→∀ j,j<k→w.cell? ⟨g,off+i*k+j,none⟩=(f x)[j]?:=by
 have yU:=XK f k hk l
 obtain ⟨g,off,cap,h1,h2,h3,h4,h5⟩:=Row.open h (by rw [yU];exact hl)
 injection h1 with e1 _ _
 refine ⟨g,off,e1,fun i x hx j hj=>?_⟩
 have hi:i<l.length:=(List.getElem?_eq_some_iff.1 hx).1
 have Po:i*k+j<l.length*k:=by
  have h6:(i+1)*k≤l.length*k:=Nat.mul_le_mul_right _ hi
  rw [Nat.succ_mul] at h6
  omega
 rw [Nat.add_assoc,h5 (i*k+j) (by rw [yU];exact Po)]
 exact M_ f k hk l i j x hx hj
theorem K1 (v:Value) (L:List VG) (w:World) (hT:Xz w) (h:Xe w v L) (hL:L.length≤256) :
  Calls Tryz.prog 53 #[v] w fun e w'=>(∃ k g b ov av mv lv M R ep,e = .returned (.pointer (some ⟨k,0,none⟩))∧Xe w' ov L∧RS w w' k g b ov L L.length L.length av mv lv M R ep):=by
 have CC:Hid (Calls Tryz.prog 84 #[v] w fun e w'=>(∃ v',e = .returned v'∧Xe w' v' L)∧w=w'):=by
  have h2:=iY v L w h
  rwa [F5 hL] at h2
 have HT:Hid (∀ w',Below w w w'→Xz w'):=fun w' h=>Utf8Tabs_below hT h
 have CN:=Zh y_
 clear hT h
 go_enter Tryz.func53,Tryz.ntmps53
 go_wp2_with (first|(go_at_call 84;refine CC.o.mono ?_;rintro e w1 ⟨⟨v',rfl,ho⟩,rfl⟩;obtain ⟨va,vc,hv,hvc,BC⟩:=Xe.form ho;subst hv;have HO:=Zh ho;clear ho)|(go_at_call 40;refine (CN.o _).mono ?_;rintro e w2 ⟨⟨g,b,rfl,hd,hg,hb⟩,Y0⟩;have mg:=(Y0.block w.heap.size Ca).trans (Z7 w (.cells #[.slice va L.length vc,.slice none 0 0,.slice none 0 0,.slice none 0 0] 116));have k0:=cell_of mg 0;simp only [SK,S6] at k0;have HD:=Zh hd;have X6:Hid (Below w w w2):=(Z' w _).trans (Y0.mono nJ);have HG:Hid (w.heap.size≤g):=PW nJ hg;have S_:Hid (w.heap.size≤b):=PW nJ hb;clear hd Y0 hg hb))
 have Gi:Hid (RS w w2 w.heap.size g b (.slice va L.length vc) L L.length 0 (.slice none 0 0) (.slice none 0 0) (.slice none 0 0) [] Rm.empty 0):=
  ⟨X6.o,⟨mg,Ua _ _ _ _,Ua _ _ _ _,fun _ h=>(by cases h),Ua _ _ _ _⟩,rfl,HD.o,SQ,TQ,rfl,rfl,⟨Zw _,HG.o,S_.o⟩⟩
 clear mg k0 CC CN HD X6
 go_loopw [20] (fun s20 w'=>∃ (j:Nat) (av mv lv:Value) (M:List TW) (R:Room) (ep:Int),j≤L.length∧s20 = .int .i64 (j:Int)∧RS w w' w.heap.size g b (.slice va L.length vc) L L.length j av mv lv M R ep) (fun s20 _=>L.length-(intOf s20).toNat)
 case atStart=>exact ⟨0,_,_,_,_,_,_,Zo,rfl,Gi.o⟩
 case round=>
  obtain ⟨j,av,mv,lv,M,R,ep,hj,rfl,T4⟩:=hrel
  have BW:=Zh T4
  clear Gi
  by_cases S4:j<L.length
  ·have hOr:=HO.o.below T4.Zj
   obtain ⟨g',off',cap',e1,-,-,-,Vc⟩:=Rm.DA (fun y:VG=>Xm y.x) 7 (fun _=>rfl) Zo hOr.row Zo
   cases e1
   have hy:L[j]?=some L[j]:=U7 S4
   have Vc:=Vc j _ hy
   have kR:=hOr.each L[j] (Ot S4)
   have BZ:=Zh (fun sv=>A8 hy T4.bare T4.dA sv)
   have hbd:=KE L j
   rw [←T4.dA] at hbd
   generalize L[j]=y at *
   obtain ⟨⟨⟨kd,p,s,q,nm,ss⟩,sa,sc,ba,bl,bc⟩,bb⟩:=y
   dsimp only at kR BZ
   obtain ⟨Kn,sU,U0⟩:=kR
   have HA1:=Zh (Jz L j)
   have lX:=Zh (AO L j)
   have Gf:Hid (X8 L L.length (j+1)=WY L.length j (X8 L L.length j) (ZX L j).turns):=rfl
   have HTL:=Zh (NN L j)
   have HLL:=Zh (QG L L.length j)
   have qW:Hid (M.length=j):=by
    show _=_
    have h1:=congrArg List.length T4.fq
    rwa [Tx,Hb] at h1
   generalize ZX L j=T at *
   have KQ:wr.rangeAt g' (off'+j*7) (Qa kd p s q (str nm) sa ss.length sc ba bl bc):=fun m v hm=>(Vc m nI).trans hm
   have Al:(j:Int)<(L.length:Int):=Ou.2 S4
   have hz:=Z7 wr (.cells Mf 32)
   have Pv:=setRow_heap _ _ _ (Qa kd p s q (str nm) sa ss.length sc ba bl bc) _ _ hz
   have VT:Hid (Below wr wr ((wr.alloc (.cells Mf 32)).setRow wr.heap.size (Qa kd p s q (str nm) sa ss.length sc ba bl bc))):=Z3 (Z' wr _) (Zw _) _
   have CT:Hid (Calls Tryz.prog 44 (Qi (some ⟨g,0,none⟩) (Qa kd p s q (str nm) sa ss.length sc ba bl bc)) ((wr.alloc (.cells Mf 32)).setRow wr.heap.size (Qa kd p s q (str nm) sa ss.length sc ba bl bc)) (Gr g b R ep ⟨kd,p,s,q,nm,ss⟩ bb ((wr.alloc (.cells Mf 32)).setRow wr.heap.size (Qa kd p s q (str nm) sa ss.length sc ba bl bc)))):=
    nE g b R ep kd p s q nm ss sa ba sc bl bc bb _ (T4.R8.below VT.o) T4.inv (Utf8Tabs_below (HT.o _ T4.Zj) VT.o) hbd.1 Zo U0 (Kn.below VT.o) (fun hk w1 mo=>Cl g b R ep kd p s q (str nm) sa ba ss.length sc bl bc bb w1 ((T4.R8.below VT.o).below mo) T4.inv T4.yi hbd.1 Zo ((XU.below sU VT.o).below mo))
   have HBK3:=Zh (T4.book.below VT.o)
   have zk:Hid (Below w w ((wr.alloc (.cells Mf 32)).setRow wr.heap.size (Qa kd p s q (str nm) sa ss.length sc ba bl bc))):=T4.Zj.trans (VT.o.mono T4.Zj.size)
   have HD3:=Zh (T4.R8.below VT.o)
   have HTO:=Zh (vJ T4.inv T4.yi ep ⟨kd,p,s,q,nm,ss⟩ bb)
   clear T4 Vc hOr Kn sU
   go_upto_region 6 with (first|(with_reducible refine Y8 32 (.tmp 23) rfl ?_;refine wpList_load_mid rfl 32 (.tmp 23) rfl g' (off'+j*7) rfl (Qa kd p s q (str nm) sa ss.length sc ba bl bc) _ KQ Tryz.underlying32 rfl ZB ?_)|(with_reducible refine ZU 32 (.tmp 6) (.tmp 24) rfl ?_;refine ZW rfl 32 (.tmp 6) (.tmp 24) rfl rfl wr.heap.size (Qa kd p s q (str nm) sa ss.length sc ba bl bc) rfl rfl 32 Mf hz ZB ZB ZB ?_))
   clear hz KQ
   generalize ((wr.alloc (.cells Mf 32)).setRow wr.heap.size (Qa kd p s q (str nm) sa ss.length sc ba bl bc))=w3 at *
   go_upto_region 7 with (first|(with_reducible refine Y8 32 (.tmp 6) rfl ?_;refine Y9 rfl 32 (.tmp 6) rfl wr.heap.size rfl 32 (Qa kd p s q (str nm) sa ss.length sc ba bl bc) (0,0) _ Pv Tryz.underlying32 rfl ZB ?_)|(go_at_call 44;refine CT.o.mono ?_;rintro e w4 ⟨sv,⟨cs,rfl,PV⟩,hd4,iz⟩;obtain ⟨st1,st2,st3⟩:=BZ.o sv;obtain ⟨ok1,ok2,-⟩:=HTO.o sv;rw [st1] at PV;have HD4:=Zh hd4;have qV:=Zh iz;have HOK1:=Zh ok1;have zu:=Zh ok2;have jA:=Zh st2;have rU:=Zh st3;obtain ⟨cv,ev,pv,iv,tv,rfl,eB,P4,S8⟩:=PV.ex;obtain ⟨⟨ca,cc,F6⟩,⟨ea,ec,Lm⟩,⟨pa,pc,Mr⟩⟩:=eB.form;obtain ⟨ia,ic,Ak⟩:=YI.form P4;obtain ⟨ta,tc,pO⟩:=Row.form S8;subst F6;subst Lm;subst Mr;subst Ak;subst pO;have Gh:=Zh eB;have F4:=Zh S8;have hz7:=Z7 w4 (.cells Xv 100);clear PV hd4 iz ok1 ok2 st1 st2 st3 eB P4 S8)|(with_reducible refine ZU 100 (.tmp 7) (.tmp 27) rfl ?_;refine ZW rfl 100 (.tmp 7) (.tmp 27) rfl rfl w4.heap.size (Jv T.XE T.XT ca cc ea ec pa pc T.Wo ia T.items.length ic ta T.turns.length tc T.unknown) rfl rfl 100 Xv hz7 ZB ZB ZB ?_))
   generalize take R ep ⟨kd,p,s,q,nm,ss⟩ bb sv=TT at *
   obtain ⟨⟨T',R'⟩,aR⟩:=TT
   dsimp only at HD4 HOK1 zu jA rU
   have sS:Below w4 w4 ((w4.alloc (.cells Xv 100)).setRow w4.heap.size (Jv T.XE T.XT ca cc ea ec pa pc T.Wo ia T.items.length ic ta T.turns.length tc T.unknown)):=Z3 (Z' w4 _) (Zw _) _
   have HC:Hid (WN w.heap.size ((w4.alloc (.cells Xv 100)).setRow w4.heap.size (Jv T.XE T.XT ca cc ea ec pa pc T.Wo ia T.items.length ic ta T.turns.length tc T.unknown)) w.heap.size (Jc (some ⟨g',off',none⟩) L.length vc av mv lv) av (XA L j) mv M lv (X8 L L.length j)):=(HBK3.o.frA qV.o HD3.o.cW).below sS
   have HR:Hid (RO ((w4.alloc (.cells Xv 100)).setRow w4.heap.size (Jv T.XE T.XT ca cc ea ec pa pc T.Wo ia T.items.length ic ta T.turns.length tc T.unknown)) g b w4.heap.size R' aR (Jv T.XE T.XT ca cc ea ec pa pc T.Wo ia T.items.length ic ta T.turns.length tc T.unknown) (.slice ta T.turns.length tc) T.turns ⟨T.XT,T.Wo,.slice ca T.XT.VW.length cc,.slice ea T.XT.ext.length ec,.slice pa T.XT.ZH.length pc⟩):=⟨HD4.o.below sS,Row.below F4.o sS,Gh.o.below sS,setRow_heap _ _ _ _ _ _ hz7⟩
   have HGE:Hid (w.heap.size≤g∧w.heap.size≤b):=BW.o.kg.2
   have S_:Hid (Below w w ((w4.alloc (.cells Xv 100)).setRow w4.heap.size (Jv T.XE T.XT ca cc ea ec pa pc T.Wo ia T.items.length ic ta T.turns.length tc T.unknown))):=(((Fr.Z8 P_ zk.o).trans ⟨qV.o.os,qV.o.tape,qV.o.output,qV.o.size,fun k hk _=>qV.o.block k (Pb hk zk.o.size) (by have:=HGE.o;omega)⟩).below).trans (sS.mono (PW zk.o.size qV.o.size))
   clear sS hz7 HBK3 zk HD3 HD4 qV Gh F4 CT BZ HTO Pv VT
   generalize ((w4.alloc (.cells Xv 100)).setRow w4.heap.size (Jv T.XE T.XT ca cc ea ec pa pc T.Wo ia T.items.length ic ta T.turns.length tc T.unknown))=w5 at *
   generalize w4.heap.size=K at *
   have HC:=Zh (HC.o.below (YH _ _).drew)
   have HR:=Zh (HR.o.below (YH _ _).drew)
   have S_:=Zh S_.o.drew
   have Zz:Hid (∀ (w':World) c3,w'.heap[w.heap.size]?=some (.cells (Jc (some ⟨g',off',none⟩) L.length vc av mv c3) 116 (0,0))→w'.heap[K]?=some (.cells (Jv T.XE T.XT ca cc ea ec pa pc T.Wo ia T.items.length ic ta T.turns.length tc T.unknown) 100 (0,0))→w'.cell? ⟨w,1,none⟩=some av∧w'.cell? ⟨w,2,none⟩=some mv∧w'.rangeAt K 0 (Jq T.XE)∧w'.rangeAt K 4 (Jn T.XT ca cc ea ec pa pc T.Wo)):=fun w' c3 h1 h2=>
    ⟨Zc h1 1 rfl,Zc h1 2 rfl,fun m v hm=>by
     have h:=(List.getElem?_eq_some_iff.1 hm).1
     have h:m<4:=by simpa using h
     rw [cell_of h2 (0+m),QP]
     rcases m with _|_|_|_|m
     ·exact hm
     ·exact hm
     ·exact hm
     ·exact hm
     ·omega,fun m v hm=>by
     have h:=(List.getElem?_eq_some_iff.1 hm).1
     have h:m<15:=by simpa using h
     rw [cell_of h2 (4+m)]
     rcases m with _|_|_|_|_|_|_|_|_|_|_|_|_|_|_|m
     all_goals first|exact hm|omega⟩
   go_upto_region 7 with fail
   go_cut [] (fun wx=>∃ (na:Option Addr) (nc:Nat) (ma:Option Addr) (mc:Nat),WN w.heap.size wx w.heap.size #[.slice (some ⟨g',off',none⟩) L.length vc,.slice na (j+1) nc,.slice ma (j+1) mc,lv] (.slice na (j+1) nc) (XA L j++[T.XE]) (.slice ma (j+1) mc) (M++[(⟨T.XT,T.Wo,.slice ca T.XT.VW.length cc,.slice ea T.XT.ext.length ec,.slice pa T.XT.ZH.length pc⟩:TW)]) lv (X8 L L.length j)∧RO wx g b K R' aR (Jv T.XE T.XT ca cc ea ec pa pc T.Wo ia T.items.length ic ta T.turns.length tc T.unknown) (.slice ta T.turns.length tc) T.turns ⟨T.XT,T.Wo,.slice ca T.XT.VW.length cc,.slice ea T.XT.ext.length ec,.slice pa T.XT.ZH.length pc⟩∧Below w w wx)
   case first=>
    refine Sd ?_
    refine Z_.Zu (d:=20) (S:=(fun w'=>w'.cell? ⟨w,1,none⟩=some av∧w'.cell? ⟨w,2,none⟩=some mv∧w'.rangeAt K 0 (Jq T.XE)∧w'.rangeAt K 4 (Jn T.XT ca cc ea ec pa pc T.Wo))) ZB ?_ (fun _=>?_)
    ·(try dsimp only)
     exact Zz.o _ _ HC.o.Za HR.o.tk
    refine YP 0 (h:=YP 1 (h:=YP 2 (h:=YP 3 (h:=YP 4 (h:=YP 6 (h:=YP 10 (h:=YP 11 (h:=YP 12 (h:=YP 14 (h:=YK 5 (h:=?_)))))))))))
    refine Z_.Nq (i:=7) (v:=?_) rfl ZB ZB ZB ZB (fun _ _ _ h=>h) (Ww ⟨Zr,?_⟩) S5 ?_
    rotate_left
    ·intro w TE
     (try dsimp only at TE)
     refine (Xw 35 (.tmp 34) ?_ K 0 ?_ (Jq T.XE) _ TE.2.2.1 Tryz.underlying35 rfl ZB).trans ?_
     all_goals rfl
    try simp only [Z_.pt]
    refine YK 13 (h:=?_)
    refine Z_.Nq (i:=15) (v:=?_) rfl ZB ZB ZB ZB (fun _ _ _ h=>h) (Ww ⟨Zr,?_⟩) S5 ?_
    rotate_left
    ·intro w TE
     (try dsimp only at TE)
     refine (Xw 97 (.tmp 42) ?_ K 4 ?_ (Jn T.XT ca cc ea ec pa pc T.Wo) _ TE.2.2.2 Tryz.underlying97 rfl ZB).trans ?_
     all_goals rfl
    try simp only [Z_.pt]
    refine Z_.TR (rs:=[8,16]) ZB Zi ?_
    refine Z_.VX (i:=8) rfl (fun K hK=>?_) ?_
    ·skip
     refine Xk Zr Oz (.tmp 35) Zr (Jq T.XE) Zr Zr Zd ?_
     have aF:Hid (Row (w5.drew.alloc (.cells (Jq T.XE) 35)) 35 (.slice (some ⟨w5.drew.heap.size,0,none⟩) 1 1) 1 ([T.XE].flatMap WE)):=VF w5.drew 35 1 ([T.XE].flatMap WE) Zd
     have Vb:=Z' w5.drew (.cells (Jq T.XE) 35)
     have HC:=Zh (HC.o.below Vb)
     have HR:=Zh (HR.o.below Vb)
     have S_:=Zh (S_.o.trans (Vb.mono S_.o.size))
     clear Vb
     refine Z_.Y_ hK _ _ ?_ (fun _=>?_)
     ·(try dsimp only)
      exact Zz.o _ _ HC.o.Za HR.o.tk
     clear hK K
     try simp only [Z_.pt]
     refine Z_.TR (rs:=[9,16]) ZB Zi ?_
     refine Z_.VX (i:=9) rfl (fun K hK=>?_) ?_
     ·skip
      refine Zp Zr (.tmp 33) (.tmp 36) 37 Zr w.heap.size Oz av (XA L j).length ((XA L j).flatMap WE) Zr HC.o.XE _ 1 ([T.XE].flatMap WE) Zr aF.o rfl (U' fun x _=>Ig x) (by rw [Xa];omega) (by rw [Xa];omega) ?_ ?_
      ·exact S_.o.size
      intro v9 w6 zt rJ
      have lS:Hid (w6.ownsRow w 35 4 v9 (XA L j++[T.XE]).length ((XA L j++[T.XE]).flatMap WE)):=(by have h:=zt.o;rw [UM,O_];exact h)
      obtain ⟨na,nc,NZ,-⟩:=Row.Z6 lS.o
      rw [show (XA L j++[T.XE]).length=j+1 by rw [UM,Xa];rfl] at NZ
      subst NZ
      have au:Hid (yJ (w5.drew.alloc (.cells (Jq T.XE) 35)) (fun i=>av.ownBlock=some i)):=fun i hi=>(by obtain ⟨cu,hc⟩:=Wq HC.o.XE i hi;exact ⟨cu,_,_,hc,Wi (Ww rfl)⟩)
      have HR:=Zh (HR.o.far (XZ rJ.o) au.o)
      have S_:Hid (Below w w w6):=((Fr.Z8 P_ S_.o).grown rJ.o S_.o.size (YL HC.o.XE)).below
      have HC:=Zh (HC.o.Ej rJ.o lS.o)
      refine Z_.Y_ hK _ _ ?_ (fun _=>?_)
      ·(try dsimp only)
       exact Zz.o _ _ HC.o.Za HR.o.tk
      clear hK K
      try simp only [Z_.pt]
      refine YR 16 (h:=fun K hK=>?_)
      refine Xk Zr K9 (.tmp 43) Zr (Jn T.XT ca cc ea ec pa pc T.Wo) Zr Zr Zd ?_
      have zw:Hid (Row (w6.alloc (.cells (Jn T.XT ca cc ea ec pa pc T.Wo) 97)) 97 (.slice (some ⟨w6,0,none⟩) 1 1) 1 ([(⟨T.XT,T.Wo,.slice ca T.XT.VW.length cc,.slice ea T.XT.ext.length ec,.slice pa T.XT.ZH.length pc⟩:TW)].flatMap Xr)):=VF w6 97 1 ([(⟨T.XT,T.Wo,.slice ca T.XT.VW.length cc,.slice ea T.XT.ext.length ec,.slice pa T.XT.ZH.length pc⟩:TW)].flatMap Xr) Zd
      have Vb:=Z' w6 (.cells (Jn T.XT ca cc ea ec pa pc T.Wo) 97)
      have HC:=Zh (HC.o.below Vb)
      have HR:=Zh (HR.o.below Vb)
      have S_:=Zh (S_.o.trans (Vb.mono S_.o.size))
      clear Vb
      refine Z_.Y_ hK _ _ ?_ (fun _=>?_)
      ·(try dsimp only)
       exact Zz.o _ _ HC.o.Za HR.o.tk
      clear hK K
      try simp only [Z_.pt]
      refine YR 17 (h:=fun K hK=>?_)
      refine Zp Zr (.tmp 41) (.tmp 44) 114 Zr w.heap.size K9 mv M.length (M.flatMap Xr) Zr HC.o.Lz _ 1 ([(⟨T.XT,T.Wo,.slice ca T.XT.VW.length cc,.slice ea T.XT.ext.length ec,.slice pa T.XT.ZH.length pc⟩:TW)].flatMap Xr) Zr zw.o rfl EH (by rw [qW.o];omega) (by rw [qW.o];omega) ?_ ?_
      ·exact S_.o.size
      intro v17 w7 bT BM
      have Gg:Hid (w7.ownsRow w 97 15 v17 (M++[(⟨T.XT,T.Wo,.slice ca T.XT.VW.length cc,.slice ea T.XT.ext.length ec,.slice pa T.XT.ZH.length pc⟩:TW)]).length ((M++[(⟨T.XT,T.Wo,.slice ca T.XT.VW.length cc,.slice ea T.XT.ext.length ec,.slice pa T.XT.ZH.length pc⟩:TW)]).flatMap Xr)):=(by have h:=bT.o;rw [UM,O_];exact h)
      obtain ⟨ma,mc,px,-⟩:=Row.Z6 Gg.o
      rw [show (M++[(⟨T.XT,T.Wo,.slice ca T.XT.VW.length cc,.slice ea T.XT.ext.length ec,.slice pa T.XT.ZH.length pc⟩:TW)]).length=j+1 by rw [UM,qW.o];rfl] at px
      subst px
      have HEA:Hid (∀ x∈M++[(⟨T.XT,T.Wo,.slice ca T.XT.VW.length cc,.slice ea T.XT.ext.length ec,.slice pa T.XT.ZH.length pc⟩:TW)],Vt w7 x.p x.cv x.ev x.pv):=fun x hx=>Yo12
      have HFM:Hid (yJ (w6.alloc (.cells (Jn T.XT ca cc ea ec pa pc T.Wo) 97)) (fun i=>mv.ownBlock=some i)):=fun i hi=>(by obtain ⟨cu,hc⟩:=Wq HC.o.Lz i hi;exact ⟨cu,_,_,hc,Wi (Wi (Ww rfl))⟩)
      have HR:=Zh (HR.o.far (XZ BM.o) HFM.o)
      have S_:Hid (Below w w w7):=((Fr.Z8 P_ S_.o).grown BM.o S_.o.size (YL HC.o.Lz)).below
      have HC:=Zh (HC.o.hH BM.o Gg.o HEA.o)
      obtain ⟨b0,b1,b2,b3,b4⟩:=HC.o.cells
      have b41:=b4 1
      have b42:=b4 2
      refine Z_.Y_ hK _ _ ?_ (fun _=>?_)
      ·(try dsimp only)
       exact Zz.o _ _ HC.o.Za HR.o.tk
      clear hK K
      try simp only [Z_.pt]
      refine YP 18 (h:=YP 19 (h:=?_))
      refine YR 20 (h:=fun K hK=>?_)
      go_simp
      have bP:Hid (yJ w7 (· = w.heap.size)):=fun i hi=>jH
      have HR:=Zh (HR.o.far (w':=w7.setCell ⟨w,1,none⟩ (.slice na (j+1) nc)) ((Fr.refl _ _ _).setAt _ _) bP.o)
      have S_:Hid (Below w w (w7.setCell ⟨w,1,none⟩ (.slice na (j+1) nc))):=((Fr.Z8 P_ S_.o).setCell (p:=⟨w,1,none⟩) (Ww (Zw _)) _).below
      have HC:=Zh (HC.o.Hs 1 (.slice na (j+1) nc))
      obtain ⟨d0,d1,d2,d3,d4⟩:=HC.o.cells
      have d42:=d4 2
      refine Z_.Ye hK _ _ ZB ?_
      clear hK K
      try simp only [Z_.pt]
      refine YP 21 (h:=YP 22 (h:=?_))
      refine YR 23 (h:=fun K hK=>?_)
      go_simp
      have bP:Hid (yJ (w7.setCell ⟨w,1,none⟩ (.slice na (j+1) nc)) (· = w.heap.size)):=fun i hi=>jH
      have HR:=Zh (HR.o.far (w':=(w7.setCell ⟨w,1,none⟩ (.slice na (j+1) nc)).setCell ⟨w,2,none⟩ (.slice ma (j+1) mc)) ((Fr.refl _ _ _).setAt _ _) bP.o)
      have S_:Hid (Below w w ((w7.setCell ⟨w,1,none⟩ (.slice na (j+1) nc)).setCell ⟨w,2,none⟩ (.slice ma (j+1) mc))):=((Fr.Z8 P_ S_.o).setCell (p:=⟨w,2,none⟩) (Ww (Zw _)) _).below
      have HC:=Zh (HC.o.Hs 2 (.slice ma (j+1) mc))
      refine Z_.Ye hK _ _ ZB ?_
      clear hK K
      try simp only [Z_.pt]
      refine Z_.Yr ZB ?_ _
      refine QY ?_
      go_wp2_with fail
      go_meet
      exact ⟨na,nc,ma,mc,HC.o,HR.o,S_.o⟩
     refine Z_.VX (i:=16) rfl (fun K hK=>?_) Z_.Q_
     refine Xk Zr K9 (.tmp 43) Zr (Jn T.XT ca cc ea ec pa pc T.Wo) Zr Zr Zd ?_
     have zw:Hid (Row ((w5.drew.alloc (.cells (Jq T.XE) 35)).alloc (.cells (Jn T.XT ca cc ea ec pa pc T.Wo) 97)) 97 (.slice (some ⟨(w5.drew.alloc (.cells (Jq T.XE) 35)).heap.size,0,none⟩) 1 1) 1 ([(⟨T.XT,T.Wo,.slice ca T.XT.VW.length cc,.slice ea T.XT.ext.length ec,.slice pa T.XT.ZH.length pc⟩:TW)].flatMap Xr)):=VF (w5.drew.alloc (.cells (Jq T.XE) 35)) 97 1 ([(⟨T.XT,T.Wo,.slice ca T.XT.VW.length cc,.slice ea T.XT.ext.length ec,.slice pa T.XT.ZH.length pc⟩:TW)].flatMap Xr) Zd
     have Vb:=Z' (w5.drew.alloc (.cells (Jq T.XE) 35)) (.cells (Jn T.XT ca cc ea ec pa pc T.Wo) 97)
     have HC:=Zh (HC.o.below Vb)
     have HR:=Zh (HR.o.below Vb)
     have S_:=Zh (S_.o.trans (Vb.mono S_.o.size))
     have aF:=Zh (Row.below aF.o Vb)
     clear Vb
     refine Z_.Y_ hK _ _ ?_ (fun _=>?_)
     ·(try dsimp only)
      exact Zz.o _ _ HC.o.Za HR.o.tk
     clear hK K
     try simp only [Z_.pt]
     refine YR 9 (h:=fun K hK=>?_)
     refine Zp Zr (.tmp 33) (.tmp 36) 37 Zr w.heap.size Oz av (XA L j).length ((XA L j).flatMap WE) Zr HC.o.XE _ 1 ([T.XE].flatMap WE) Zr aF.o rfl (U' fun x _=>Ig x) (by rw [Xa];omega) (by rw [Xa];omega) ?_ ?_
     ·exact S_.o.size
     intro v9 w6 zt rJ
     have lS:Hid (w6.ownsRow w 35 4 v9 (XA L j++[T.XE]).length ((XA L j++[T.XE]).flatMap WE)):=(by have h:=zt.o;rw [UM,O_];exact h)
     obtain ⟨na,nc,NZ,-⟩:=Row.Z6 lS.o
     rw [show (XA L j++[T.XE]).length=j+1 by rw [UM,Xa];rfl] at NZ
     subst NZ
     have au:Hid (yJ ((w5.drew.alloc (.cells (Jq T.XE) 35)).alloc (.cells (Jn T.XT ca cc ea ec pa pc T.Wo) 97)) (fun i=>av.ownBlock=some i)):=fun i hi=>(by obtain ⟨cu,hc⟩:=Wq HC.o.XE i hi;exact ⟨cu,_,_,hc,Wi (Ww rfl)⟩)
     exact Yx13
    refine Z_.VX (i:=16) rfl (fun K hK=>?_) Z_.Q_
    refine Xk Zr K9 (.tmp 43) Zr (Jn T.XT ca cc ea ec pa pc T.Wo) Zr Zr Zd ?_
    have zw:Hid (Row (w5.drew.alloc (.cells (Jn T.XT ca cc ea ec pa pc T.Wo) 97)) 97 (.slice (some ⟨w5.drew.heap.size,0,none⟩) 1 1) 1 ([(⟨T.XT,T.Wo,.slice ca T.XT.VW.length cc,.slice ea T.XT.ext.length ec,.slice pa T.XT.ZH.length pc⟩:TW)].flatMap Xr)):=VF w5.drew 97 1 ([(⟨T.XT,T.Wo,.slice ca T.XT.VW.length cc,.slice ea T.XT.ext.length ec,.slice pa T.XT.ZH.length pc⟩:TW)].flatMap Xr) Zd
    have Vb:=Z' w5.drew (.cells (Jn T.XT ca cc ea ec pa pc T.Wo) 97)
    have HC:=Zh (HC.o.below Vb)
    have HR:=Zh (HR.o.below Vb)
    have S_:=Zh (S_.o.trans (Vb.mono S_.o.size))
    clear Vb
    refine Z_.Y_ hK _ _ ?_ (fun _=>?_)
    ·(try dsimp only)
     exact Zz.o _ _ HC.o.Za HR.o.tk
    clear hK K
    try simp only [Z_.pt]
    refine YR 8 (h:=fun K hK=>?_)
    refine Xk Zr Oz (.tmp 35) Zr (Jq T.XE) Zr Zr Zd ?_
    have aF:Hid (Row ((w5.drew.alloc (.cells (Jn T.XT ca cc ea ec pa pc T.Wo) 97)).alloc (.cells (Jq T.XE) 35)) 35 (.slice (some ⟨(w5.drew.alloc (.cells (Jn T.XT ca cc ea ec pa pc T.Wo) 97)).heap.size,0,none⟩) 1 1) 1 ([T.XE].flatMap WE)):=VF (w5.drew.alloc (.cells (Jn T.XT ca cc ea ec pa pc T.Wo) 97)) 35 1 ([T.XE].flatMap WE) Zd
    have Vb:=Z' (w5.drew.alloc (.cells (Jn T.XT ca cc ea ec pa pc T.Wo) 97)) (.cells (Jq T.XE) 35)
    have HC:=Zh (HC.o.below Vb)
    have HR:=Zh (HR.o.below Vb)
    have S_:=Zh (S_.o.trans (Vb.mono S_.o.size))
    have zw:=Zh (Row.below zw.o Vb)
    clear Vb
    refine Z_.Y_ hK _ _ ?_ (fun _=>?_)
    ·(try dsimp only)
     exact Zz.o _ _ HC.o.Za HR.o.tk
    clear hK K
    try simp only [Z_.pt]
    refine YR 9 (h:=fun K hK=>?_)
    refine Zp Zr (.tmp 33) (.tmp 36) 37 Zr w.heap.size Oz av (XA L j).length ((XA L j).flatMap WE) Zr HC.o.XE _ 1 ([T.XE].flatMap WE) Zr aF.o rfl (U' fun x _=>Ig x) (by rw [Xa];omega) (by rw [Xa];omega) ?_ ?_
    ·exact S_.o.size
    intro v9 w6 zt rJ
    have lS:Hid (w6.ownsRow w 35 4 v9 (XA L j++[T.XE]).length ((XA L j++[T.XE]).flatMap WE)):=(by have h:=zt.o;rw [UM,O_];exact h)
    obtain ⟨na,nc,NZ,-⟩:=Row.Z6 lS.o
    rw [show (XA L j++[T.XE]).length=j+1 by rw [UM,Xa];rfl] at NZ
    subst NZ
    have au:Hid (yJ ((w5.drew.alloc (.cells (Jn T.XT ca cc ea ec pa pc T.Wo) 97)).alloc (.cells (Jq T.XE) 35)) (fun i=>av.ownBlock=some i)):=fun i hi=>(by obtain ⟨cu,hc⟩:=Wq HC.o.XE i hi;exact ⟨cu,_,_,hc,Wi (Ww rfl)⟩)
    exact Yx13
   case rest=>
    obtain ⟨w9,rfl⟩:∃ W:World,W=wc:=⟨_,rfl⟩
    obtain ⟨na,nc,ma,mc,hbk9,eG,im⟩:=hcut
    have HC:=Zh hbk9
    have HR:=Zh eG
    have S_:=Zh im
    have k20:=cell_of eG.tk 20
    simp only [SK,S6,SJ] at k20
    clear hbk9 eG im Zz
    go_wp2_with fail
    go_loopw [53] (fun s53 w'=>∃ (i:Nat) (Dk:Value),i≤T.turns.length∧s53 = .int .i64 (i:Int)∧WN w.heap.size w' w.heap.size #[.slice (some ⟨g',off',none⟩) L.length vc,.slice na (j+1) nc,.slice ma (j+1) mc,Dk] (.slice na (j+1) nc) (XA L j++[T.XE]) (.slice ma (j+1) mc) (M++[(⟨T.XT,T.Wo,.slice ca T.XT.VW.length cc,.slice ea T.XT.ext.length ec,.slice pa T.XT.ZH.length pc⟩:TW)]) Dk (WY L.length j (X8 L L.length j) (T.turns.take i))∧RO w' g b K R' aR (Jv T.XE T.XT ca cc ea ec pa pc T.Wo ia T.items.length ic ta T.turns.length tc T.unknown) (.slice ta T.turns.length tc) T.turns ⟨T.XT,T.Wo,.slice ca T.XT.VW.length cc,.slice ea T.XT.ext.length ec,.slice pa T.XT.ZH.length pc⟩∧Below w w w') (fun s53 _=>T.turns.length-(intOf s53).toNat)
    case atStart=>exact ⟨0,lv,Zo,rfl,HC.o,HR.o,S_.o⟩
    case round=>
     obtain ⟨i,Dk,hi,rfl,mg,hro,Wn⟩:=hrel
     have Ic:=Zh mg
     have uF:=Zh hro
     have zi:=Zh Wn
     clear HC HR S_ k20
     by_cases iC:i<T.turns.length
     ·obtain ⟨g5,fu,e5,Vc⟩:=Tp Z9 5 (fun _=>rfl) hro.turns Zo
      cases e5
      have ht:T.turns[i]?=some T.turns[i]:=U7 iC
      have Vc:=Vc i _ ht
      have J7:=Zh (Rt ht)
      generalize T.turns[i]=t at *
      have Mb:=Zh (Di L.length j (X8 L L.length j) (T.turns.take i) t)
      have hlen:=NG L.length j (T.turns.take i) (X8 L L.length j)
      rw [Tg] at hlen
      have NB:=HLL.o
      have hlen3:=HTL.o
      have KQ:wr.rangeAt g5 (fu+i*5) (Ju t):=fun m v hm=>(Vc m nI).trans hm
      have hiI:(i:Int)<(T.turns.length:Int):=Ou.2 iC
      have hz:=Z7 wr (.cells (Qh 0 0 0 0 0) 158)
      have Pv:=setRow_heap _ _ _ (Ju t) _ _ hz
      have VT:Hid (Below wr wr ((wr.alloc (.cells (Qh 0 0 0 0 0) 158)).setRow wr.heap.size (Ju t))):=Z3 (Z' wr _) (Zw _) _
      have bK:=Zh (Ic.o.below VT.o)
      have zx:=Zh (uF.o.below VT.o)
      have zk:=Zh (zi.o.trans (VT.o.mono zi.o.size))
      clear mg hro Wn Vc Ic uF VT
      go_upto_region 11 with (first|(with_reducible refine Y8 158 (.tmp 55) rfl ?_;refine wpList_load_mid rfl 158 (.tmp 55) rfl g5 (fu+i*5) rfl (Ju t) _ KQ Tryz.underlying158 rfl ZB ?_)|(with_reducible refine ZU 158 (.tmp 9) (.tmp 56) rfl ?_;refine ZW rfl 158 (.tmp 9) (.tmp 56) rfl rfl wr.heap.size (Ju t) rfl rfl 158 (Qh 0 0 0 0 0) hz ZB ZB ZB ?_))
      clear hz KQ
      generalize ((wr.alloc (.cells (Qh 0 0 0 0 0) 158)).setRow wr.heap.size (Ju t))=SA at *
      have CB:=Zh (rH w.heap.size w.heap.size _ _ _ _ _ _ _ _ _ (j:Int) t SA bK.o zk.o.size Zo)
      go_wp2_with (first|(with_reducible refine Y8 158 (.tmp 9) rfl ?_;refine Y9 rfl 158 (.tmp 9) rfl wr.heap.size rfl 158 (Ju t) (0,0) _ Pv Tryz.underlying158 rfl ZB ?_)|(go_at_call 85;refine CB.o.mono ?_;rintro e FX ⟨rfl,lv2,hbk2,wT⟩;have jf:=Zh hbk2;have zn:=Zh wT;clear hbk2 wT))
      have hfar:yJ SA (fun m=>m=w.heap.size∨Dk.ownBlock=some m):=fun m hm=>by
       rcases hm with rfl|hm
       ·exact ⟨_,_,_,bK.o.Za,Ww rfl⟩
       ·obtain ⟨cu,hc⟩:=Wq bK.o.QS m hm
        exact ⟨cu,_,_,hc,Wi (Wi (Wi rfl))⟩
      have aD:=Zh (zx.o.far zn.o hfar)
      have hbf:Below w SA FX:=(zn.o.mono zk.o.size (S':=P_) (fun m hm hs=>by
       rcases hs with rfl|hs
       ·exact absurd hm (Nat.lt_irrefl _)
       ·have:=YL bK.o.QS m hs;omega)).below
      have HBL4:=Zh (zk.o.trans hbf)
      clear hfar hbf CB
      go_roundw
      case rel=>exact ⟨i+1,lv2,Zo,Zn,by rw [J7.o,Mb.o];exact jf.o,aD.o,HBL4.o⟩
      case measure=>simp [intOf];omega
     ·have hT:T.turns.take i=T.turns:=F5 Zo
      rw [hT] at Ic
      clear mg hro Wn hT
      go_wp2
      go_roundw
      case rel=>
       refine ⟨j+1,.slice na (j+1) nc,.slice ma (j+1) mc,Dk,M++[(⟨T.XT,T.Wo,.slice ca T.XT.VW.length cc,.slice ea T.XT.ext.length ec,.slice pa T.XT.ZH.length pc⟩:TW)],R',aR,Zo,Zn,⟨zi.o,?_,?_,uF.o.R8,HOK1.o,zu.o,jA.o,rU.o,BW.o.kg⟩⟩
       ·rw [HA1.o,Gf.o];exact Ic.o
       ·rw [lX.o,N7,BW.o.fq];rfl
      case measure=>simp [intOf];omega
  ·have MM:j=L.length:=by omega
   subst MM
   have HOE:=Zh (HO.o.below BW.o.Zj)
   clear T4
   go_wp2
   go_ret
   exact ⟨_,g,b,_,av,mv,lv,M,R,ep,rfl,HOE.o,BW.o⟩
end Go.Proofs.By

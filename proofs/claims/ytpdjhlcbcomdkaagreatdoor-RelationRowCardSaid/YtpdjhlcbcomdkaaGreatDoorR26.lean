/- Part of a proof. -/
import Derived.Test.YtpdjhlcbcomdkaaGreatDoorR25
set_option linter.unusedVariables false
set_option linter.unusedSimpArgs false
set_option maxRecDepth 100000
set_option maxHeartbeats 16000000
open Go Go.Q Go.Qr
namespace Go.Proofs.By
open Go.RowKit Go.Proofs.Heap Go.Proofs
open Go.Proofs.Rm (SK TJ YF YB Room ZT Inv V8 Z9 XM VT X_ YL Yr below_drewN Xi YO)
open Go.Proofs.NM (Xz)
open Go.Proofs.Mem
theorem v_:Elem Tryz.prog 22 32 7 96:=⟨Tryz.underlying22,⟨.agg LX,by kernel_rfl,rfl⟩,by decide⟩
theorem Gn {α:Type} (f:α→List Value) (k:Nat) (hk:∀ x,(f x).length=k):∀ (l:List α) (m:Nat),(l.flatMap f).take (m*k)=(l.take m).flatMap f
 | [],m=>by simp
 | x :: l,0=>by simp
 | x :: l,m+1=>by
  have h:=hk x;rw [List.flatMap_cons,List.take_succ_cons,List.flatMap_cons,Nat.succ_mul,List.take_append,h,FL Zo,show m*k+k-k=m*k by omega,Gn f k hk l m]
theorem Xf.take {w:World} {a:Option Addr} {c:Nat} {L:List V7} (h:Xf w (.slice a L.length c) L) {a':Option Addr} {K:Nat} (hK:K≤L.length)
  (hr:∀ w xs,K≤L.length→xs.length=L.length*7→XR w (.slice a L.length c) L.length xs→XR w (.slice a' K c) K (xs.take (K*7))):Xf w (.slice a' K c) (L.take K):=by
 have hl:(L.take K).length=K:=by rw [S4];omega
 refine ⟨?_,fun y hy=>h.each y (List.mem_of_mem_take hy)⟩;rw [hl];have:=hr w _ hK (XG (fun y:V7=>Xi y.x) 7 (fun _=>rfl) L) h.row
 rwa [Gn (fun y:V7=>Xi y.x) 7 (fun _=>rfl)] at this
theorem Xf.form {w:World} {v:Value} {L:List V7} (h:Xf w v L):∃ a c,v = .slice a L.length c∧L.length≤c∧c≤maxLen:=by
 obtain ⟨a,c,h1,h2,h3,_⟩:=h.row;exact ⟨a,c,h1,h2,h3⟩
theorem ij (v:Value) (L:List V7) (w:World) (h:Xf w v L):Calls Tryz.prog 84 #[v] w fun e w'=>(∃ v',e = .returned v'∧Xf w' v' (L.take 256))∧w=w':=by
 obtain ⟨va,vc,rfl,hvc,zZ⟩:=h.form;obtain ⟨K,cH⟩:∃ K,K=min L.length 256:=⟨_,rfl⟩;have hK1:K≤L.length:=by omega
 have hKm:min (L.length:Int) 256=(K:Int):=by omega
 obtain ⟨vs,Uw,-,GF⟩:=Sp (P:=Tryz.prog) v_ va L.length vc K Zo
 have HO:Hid (Xf w (.slice vs K vc) (L.take 256)):=by
  have h2:=h.take hK1 GF
  have e:L.take K=L.take 256:=by
   rcases Nat.le_total L.length 256 with h3|h3
   ·rw [cH,Nat.min_eq_left h3,nv,FL h3]
   ·rw [cH,Nat.min_eq_right h3]
  rwa [e] at h2
 clear h GF cH;go_enter Tryz.func84,Tryz.ntmps84;go_wp2;go_ret;exact ⟨⟨_,rfl,HO.o⟩,rfl⟩
def yl (w:World) (S:Nat→Prop):Prop:=∀ j,S j→∃ c t f,w.heap[j]?=some (.cells c t f)∧(t=116∨t=35∨t=97∨t=59)
theorem yl.no {w:World} {S:Nat→Prop} (h:yl w S) {j:Nat} {c:Array Value} {e:TypeId} {f:Nat × Nat} (hj:w.heap[j]?=some (.cells c e f)) (he:e≠116∧e≠35∧e≠97∧e≠59):¬S j:=fun hs=>by
 obtain ⟨c',t,f',h1,h2⟩:=h j hs;rw [hj] at h1;injection h1 with h1
 injection h1 with _ h1
 subst h1;rcases h2 with r|r|r|r
 ·exact he.1 r
 ·exact he.2.1 r
 ·exact he.2.2.1 r
 ·exact he.2.2.2 r
theorem yl.ne {w:World} {S:Nat→Prop} (h:yl w S) {e:TypeId} (he:e≠116∧e≠35∧e≠97∧e≠59):∀ j c fr,S j→w.heap[j]?≠some (.cells c e fr):=fun _ _ _ hs hj=>h.no hj he hs
structure RO (w:World) (g b K:Nat) (R:Room) (ep:Int) (TC:Array Value) (tv:Value) (ts:List YB) (x:TP):Prop where
 RT:Ya w g b R ep
 turns:YF w tv ts
 pk:Vy w x.p x.cv x.ev x.pv
 tk:w.heap[K]?=some (.cells TC 100 (0,0))
section
variable {w w':World} {g b K:Nat} {R:Room} {ep:Int} {TC:Array Value} {tv:Value} {ts:List YB} {x:TP}
theorem RO.below (h:RO w g b K R ep TC tv ts x) (hb:Below w w w'):RO w' g b K R ep TC tv ts x:=
 ⟨h.RT.below hb,Row.below h.turns hb,h.pk.below hb,(hb.block _ (ZW h.tk)).trans h.tk⟩
theorem Ya.far (h:Ya w g b R ep) {S:Nat→Prop} (hf:Fr w S w w') (hS:yl w S):Ya w' g b R ep:=by
 obtain ⟨c,hc,_⟩:=h.room.cells;exact ⟨(hf.block g (ZW h.Y8) (hS.no h.Y8 Zd)).trans h.Y8,h.room.fr hf (Zw _) (hS.no hc Zd) (hS.ne Zd)⟩
theorem RO.far (h:RO w g b K R ep TC tv ts x) {S:Nat→Prop} (hf:Fr w S w w') (hS:yl w S):RO w' g b K R ep TC tv ts x:=
 ⟨h.RT.far hf hS,Row.fr h.turns hf (Zw _) (hS.ne Zd),h.pk.yz hf (hS.ne Zd) (hS.ne Zd),(hf.block _ (ZW h.tk) (hS.no h.tk Zd)).trans h.tk⟩
end
theorem Ya.cd {w:World} {g b:Nat} {R:Room} {ep:Int} (h:Ya w g b R ep):∀ j,(j=b∨j=g)→∃ c t f,w.heap[j]?=some (.cells c t f)∧t≠116∧t≠35∧t≠97∧t≠59∧t≠66∧t≠5:=by
 rintro j (rfl|rfl)
 ·obtain ⟨c,hc,_,_⟩:=h.room.cells;exact ⟨c,_,_,hc,by decide,by decide,by decide,by decide,by decide,by decide⟩
 ·exact ⟨_,_,_,h.Y8,by decide,by decide,by decide,by decide,by decide,by decide⟩
theorem XH {P:Program} {w:World} {op:Oper} {a:Act} (ty:TypeId) (x:Operand) (ho:op.op = .load ty x) (b o:Nat) (hx:a.eval x = .pointer (some ⟨b,o,none⟩)) (cs:List Value) (d:TypeDesc) (hc:w.rangeAt b o cs)
  (hu:P.underlying ty=some d) (hd:d.isRow=true) (hi:(P.info? ty).map (·.size)=some cs.length):(execOp a.eval op).run P w = .ok (.value (.agg cs.toArray)) w:=by
 unfold execOp;simp only [ho,hx,Instr.loadAt,Instr.sureAddr,Sem.run_bind,Sem.run_pure,Result.andThen_ok,run_loadVar_mid w b o ty cs d hc hu hd hi]
theorem Hw (x:FI):∀ u∈Vn x,u.oneCell'=true:=by
 intro u hu;simp only [Vn,KN,List.mem_nil_iff,or_false] at hu;rcases hu with rfl|rfl|rfl|rfl <;> rfl
structure RS (w w':World) (k g b:Nat) (ov:Value) (L:List V7) (n:Int) (j:Nat) (av mv lv:Value) (M:List TP) (R:Room) (ep:Int):Prop where
 Zg:Below w w w'
 book:WL w.heap.size w' k #[ov,av,mv,lv] av (Xt L j) mv M lv (Yv L n j)
 ek:M.map (fun x=>(x.p,x.d))=Oy L j
 RT:Ya w' g b R ep
 inv:Inv R
 xP:V8 R
 bare:R.bare=(WV L j).1
 cA:ep=(WV L j).2
 kg:w.heap.size≤k∧w.heap.size≤g∧w.heap.size≤b
theorem Et {p:KI} {d:FJ} {ca ea pa:Option Addr} {cn cc en ec pn pc:Nat}:∀ u∈[(⟨p,d,.slice ca cn cc,.slice ea en ec,.slice pa pn pc⟩:TP)].flatMap Xo,u.oneCell'=true:=by
 intro u hu;have hu:u∈V_ p d (.slice ca cn cc) (.slice ea en ec) (.slice pa pn pc):=by simpa [Xo] using hu
 simp only [V_,KN,List.mem_nil_iff,or_false] at hu;rcases hu with rfl|rfl|rfl|rfl|rfl|rfl|rfl|rfl|rfl|rfl|rfl|rfl|rfl|rfl|rfl <;> rfl
theorem Su {α:Type} (f:α→List Value) (k:Nat) (hk:∀ x,(f x).length=k) {w:World} {e:TypeId} {a:Option Addr} {n c:Nat} {l:List α} (h:Row w e (.slice a n c) n (l.flatMap f)) (hl:0<l.length*k):∃ g off,a=some ⟨g,off,none⟩∧∀ (i:Nat) (x:α),l[i]?=some x→∀ j,j<k→w.cell? ⟨g,off+i*k+j,none⟩=(f x)[j]?:=by
 have yB:=XG f k hk l;obtain ⟨g,off,cap,h1,h2,h3,h4,h5⟩:=Row.open h (by rw [yB];exact hl);injection h1 with e1 _ _
 refine ⟨g,off,e1,fun i x hx j hj=>?_⟩;have hi:i<l.length:=(List.getElem?_eq_some_iff.1 hx).1
 have PV:i*k+j<l.length*k:=by
  have h6:(i+1)*k≤l.length*k:=Nat.mul_le_mul_right _ hi;rw [Nat.succ_mul] at h6;omega
 rw [Nat.add_assoc,h5 (i*k+j) (by rw [yB];exact PV)];exact MV f k hk l i j x hx hj
theorem KJ (v:Value) (L:List V7) (w:World) (hT:Xz w) (h:Xf w v L) (hL:L.length≤256) :
  Calls Tryz.prog 53 #[v] w fun e w'=>(∃ k g b ov av mv lv M R ep,e = .returned (.pointer (some ⟨k,0,none⟩))∧Xf w' ov L∧RS w w' k g b ov L L.length L.length av mv lv M R ep):=by
 have CC:Hid (Calls Tryz.prog 84 #[v] w fun e w'=>(∃ v',e = .returned v'∧Xf w' v' L)∧w=w'):=by
  have h2:=ij v L w h
  rwa [FL hL] at h2
 have HT:Hid (∀ w',Below w w w'→Xz w'):=fun w' h=>Utf8Tabs_below hT h
 have CN:=Zh yG;clear hT h;go_enter Tryz.func53,Tryz.ntmps53;go_wp2_with (first|(go_at_call 84;refine CC.o.mono ?_;rintro e w1 ⟨⟨v',rfl,ho⟩,rfl⟩;obtain ⟨va,vc,hv,hvc,zZ⟩:=Xf.form ho;subst hv;have HO:=Zh ho;clear ho)|(go_at_call 40;refine (CN.o _).mono ?_;rintro e w2 ⟨⟨g,b,rfl,hd,hg,hb⟩,Y7⟩;have ll:=(Y7.block w.heap.size BJ).trans (Z8 w (.cells #[.slice va L.length vc,.slice none 0 0,.slice none 0 0,.slice none 0 0] 116));have k0:=cell_of ll 0;simp only [SE,SD] at k0;have HD:=Zh hd;have X8:Hid (Below w w w2):=(Z' w _).trans (Y7.mono mQ);have HG:Hid (w.heap.size≤g):=PO mQ hg;have R6:Hid (w.heap.size≤b):=PO mQ hb;clear hd Y7 hg hb))
 have F3:Hid (RS w w2 w.heap.size g b (.slice va L.length vc) L L.length 0 (.slice none 0 0) (.slice none 0 0) (.slice none 0 0) [] Rm.empty 0):=
  ⟨X8.o,⟨ll,TY _ _ _ _,TY _ _ _ _,fun _ h=>(by cases h),TY _ _ _ _⟩,rfl,HD.o,SK,TJ,rfl,rfl,⟨Zw _,HG.o,R6.o⟩⟩
 clear ll k0 CC CN HD X8;go_loopw [20] (fun s20 w'=>∃ (j:Nat) (av mv lv:Value) (M:List TP) (R:Room) (ep:Int),j≤L.length∧s20 = .int .i64 (j:Int)∧RS w w' w.heap.size g b (.slice va L.length vc) L L.length j av mv lv M R ep) (fun s20 _=>L.length-(intOf s20).toNat)
 case atStart=>exact ⟨0,_,_,_,_,_,_,Zo,rfl,F3.o⟩
 case round=>
  obtain ⟨j,av,mv,lv,M,R,ep,hj,rfl,Uc⟩:=hrel;have BC:=Zh Uc;clear F3;by_cases RV:j<L.length
  ·have hOr:=HO.o.below Uc.Zg;obtain ⟨g',off',cap',e1,-,-,-,VQ⟩:=Rm.Dk (fun y:V7=>Xi y.x) 7 (fun _=>rfl) Zo hOr.row Zo;cases e1;have hy:L[j]?=some L[j]:=Vb RV;have VQ:=VQ j _ hy;have j4:=hOr.each L[j] (PA RV);have BF:=Zh (fun sv=>AQ hy Uc.bare Uc.cA sv);have hbd:=Kp L j;rw [←Uc.cA] at hbd;generalize L[j]=y at *
   obtain ⟨⟨⟨kd,p,s,q,nm,ss⟩,sa,sc,ba,bl,bc⟩,bb⟩:=y;dsimp only at j4 BF;obtain ⟨Mz,sj,UT⟩:=j4;have HA1:=Zh (IY L j);have kZ:=Zh (Aq L j);have FX:Hid (Yv L L.length (j+1)=WX L.length j (Yv L L.length j) (Z5 L j).turns):=rfl;have HTL:=Zh (NB L j);have HLL:=Zh (P5 L L.length j)
   have qq:Hid (M.length=j):=by
    show _=_;have h1:=congrArg List.length Uc.ek
    rwa [TB,GV] at h1
   generalize Z5 L j=T at *
   have M3:wr.rangeAt g' (off'+j*7) (Qa kd p s q (str nm) sa ss.length sc ba bl bc):=fun m v hm=>(VQ m mP).trans hm
   have zW:(j:Int)<(L.length:Int):=OP.2 RV;have hz:=Z8 wr (.cells LX 32);have Rh:=setRow_heap _ _ _ (Qa kd p s q (str nm) sa ss.length sc ba bl bc) _ _ hz;have Wc:Hid (Below wr wr ((wr.alloc (.cells LX 32)).setRow wr.heap.size (Qa kd p s q (str nm) sa ss.length sc ba bl bc))):=Z3 (Z' wr _) (Zw _) _
   have CT:Hid (Calls Tryz.prog 44 (Qi (some ⟨g,0,none⟩) (Qa kd p s q (str nm) sa ss.length sc ba bl bc)) ((wr.alloc (.cells LX 32)).setRow wr.heap.size (Qa kd p s q (str nm) sa ss.length sc ba bl bc)) (Ga g b R ep ⟨kd,p,s,q,nm,ss⟩ bb ((wr.alloc (.cells LX 32)).setRow wr.heap.size (Qa kd p s q (str nm) sa ss.length sc ba bl bc)))):=
    mM g b R ep kd p s q nm ss sa ba sc bl bc bb _ (Uc.RT.below Wc.o) Uc.inv (Utf8Tabs_below (HT.o _ Uc.Zg) Wc.o) hbd.1 Zo UT (Mz.below Wc.o) (fun hk w1 lG=>BW g b R ep kd p s q (str nm) sa ba ss.length sc bl bc bb w1 ((Uc.RT.below Wc.o).below lG) Uc.inv Uc.xP hbd.1 Zo ((XR.below sj Wc.o).below lG))
   have HBK3:=Zh (Uc.book.below Wc.o);have yK:Hid (Below w w ((wr.alloc (.cells LX 32)).setRow wr.heap.size (Qa kd p s q (str nm) sa ss.length sc ba bl bc))):=Uc.Zg.trans (Wc.o.mono Uc.Zg.size);have HD3:=Zh (Uc.RT.below Wc.o);have HTO:=Zh (vg Uc.inv Uc.xP ep ⟨kd,p,s,q,nm,ss⟩ bb);clear Uc VQ hOr Mz sj;go_upto_region 6 with (first|(with_reducible refine Zj 32 (.tmp 23) rfl ?_;refine wpList_load_mid rfl 32 (.tmp 23) rfl g' (off'+j*7) rfl (Qa kd p s q (str nm) sa ss.length sc ba bl bc) _ M3 Tryz.underlying32 rfl ZB ?_)|(with_reducible refine ZU 32 (.tmp 6) (.tmp 24) rfl ?_;refine ZV rfl 32 (.tmp 6) (.tmp 24) rfl rfl wr.heap.size (Qa kd p s q (str nm) sa ss.length sc ba bl bc) rfl rfl 32 LX hz ZB ZB ZB ?_))
   clear hz M3;generalize ((wr.alloc (.cells LX 32)).setRow wr.heap.size (Qa kd p s q (str nm) sa ss.length sc ba bl bc))=w3 at *
   go_upto_region 7 with (first|(with_reducible refine Zj 32 (.tmp 6) rfl ?_;refine Zf rfl 32 (.tmp 6) rfl wr.heap.size rfl 32 (Qa kd p s q (str nm) sa ss.length sc ba bl bc) (0,0) _ Rh Tryz.underlying32 rfl ZB ?_)|(go_at_call 44;refine CT.o.mono ?_;rintro e w4 ⟨sv,⟨cs,rfl,Py⟩,hd4,gJ⟩;obtain ⟨st1,st2,st3⟩:=BF.o sv;obtain ⟨ok1,ok2,-⟩:=HTO.o sv;rw [st1] at Py;have HD4:=Zh hd4;have qp:=Zh gJ;have HOK1:=Zh ok1;have yS:=Zh ok2;have iO:=Zh st2;have ry:=Zh st3;obtain ⟨cv,ev,pv,iv,tv,rfl,yC,PF,S3⟩:=Py.ex;obtain ⟨⟨ca,cc,FM⟩,⟨ea,ec,Ma⟩,⟨pa,pc,Md⟩⟩:=yC.form;obtain ⟨ia,ic,zV⟩:=YI.form PF;obtain ⟨ta,tc,oY⟩:=Row.form S3;subst FM;subst Ma;subst Md;subst zV;subst oY;have FZ:=Zh yC;have FK:=Zh S3;have hz7:=Z8 w4 (.cells Xr 100);clear Py hd4 gJ ok1 ok2 st1 st2 st3 yC PF S3)|(with_reducible refine ZU 100 (.tmp 7) (.tmp 27) rfl ?_;refine ZV rfl 100 (.tmp 7) (.tmp 27) rfl rfl w4.heap.size (Jx T.XC T.XW ca cc ea ec pa pc T.WJ ia T.items.length ic ta T.turns.length tc T.unknown) rfl rfl 100 Xr hz7 ZB ZB ZB ?_))
   generalize take R ep ⟨kd,p,s,q,nm,ss⟩ bb sv=TT at *
   obtain ⟨⟨T',R'⟩,ep'⟩:=TT;dsimp only at HD4 HOK1 yS iO ry;have si:Below w4 w4 ((w4.alloc (.cells Xr 100)).setRow w4.heap.size (Jx T.XC T.XW ca cc ea ec pa pc T.WJ ia T.items.length ic ta T.turns.length tc T.unknown)):=Z3 (Z' w4 _) (Zw _) _;have HC:Hid (WL w.heap.size ((w4.alloc (.cells Xr 100)).setRow w4.heap.size (Jx T.XC T.XW ca cc ea ec pa pc T.WJ ia T.items.length ic ta T.turns.length tc T.unknown)) w.heap.size (Jd (some ⟨g',off',none⟩) L.length vc av mv lv) av (Xt L j) mv M lv (Yv L L.length j)):=(HBK3.o.frA qp.o HD3.o.cd).below si;have HR:Hid (RO ((w4.alloc (.cells Xr 100)).setRow w4.heap.size (Jx T.XC T.XW ca cc ea ec pa pc T.WJ ia T.items.length ic ta T.turns.length tc T.unknown)) g b w4.heap.size R' ep' (Jx T.XC T.XW ca cc ea ec pa pc T.WJ ia T.items.length ic ta T.turns.length tc T.unknown) (.slice ta T.turns.length tc) T.turns ⟨T.XW,T.WJ,.slice ca T.XW.VN.length cc,.slice ea T.XW.ext.length ec,.slice pa T.XW.ZG.length pc⟩):=⟨HD4.o.below si,Row.below FK.o si,FZ.o.below si,setRow_heap _ _ _ _ _ _ hz7⟩;have HGE:Hid (w.heap.size≤g∧w.heap.size≤b):=BC.o.kg.2
   have R6:Hid (Below w w ((w4.alloc (.cells Xr 100)).setRow w4.heap.size (Jx T.XC T.XW ca cc ea ec pa pc T.WJ ia T.items.length ic ta T.turns.length tc T.unknown))):=(((Fr.Z7 PN yK.o).trans ⟨qp.o.os,qp.o.tape,qp.o.output,qp.o.size,fun k hk _=>qp.o.block k (OS hk yK.o.size) (by have:=HGE.o;omega)⟩).below).trans (si.mono (PO yK.o.size qp.o.size));clear si hz7 HBK3 yK HD3 HD4 qp FZ FK CT BF HTO Rh Wc;generalize ((w4.alloc (.cells Xr 100)).setRow w4.heap.size (Jx T.XC T.XW ca cc ea ec pa pc T.WJ ia T.items.length ic ta T.turns.length tc T.unknown))=w5 at *
   generalize w4.heap.size=K at *
   have HC:=Zh (HC.o.below (YJ _ _).drew);have HR:=Zh (HR.o.below (YJ _ _).drew);have R6:=Zh R6.o.drew
   have Zz:Hid (∀ (w':World) c3,w'.heap[w.heap.size]?=some (.cells (Jd (some ⟨g',off',none⟩) L.length vc av mv c3) 116 (0,0))→w'.heap[K]?=some (.cells (Jx T.XC T.XW ca cc ea ec pa pc T.WJ ia T.items.length ic ta T.turns.length tc T.unknown) 100 (0,0))→w'.cell? ⟨w,1,none⟩=some av∧w'.cell? ⟨w,2,none⟩=some mv∧w'.rangeAt K 0 (Jt T.XC)∧w'.rangeAt K 4 (Jp T.XW ca cc ea ec pa pc T.WJ)):=fun w' c3 h1 h2=>
    ⟨Zc h1 1 rfl,Zc h1 2 rfl,fun m v hm=>by
     have h:=(List.getElem?_eq_some_iff.1 hm).1;have h:m<4:=by simpa using h
     rw [cell_of h2 (0+m),QD];rcases m with _|_|_|_|m
     ·exact hm
     ·exact hm
     ·exact hm
     ·exact hm
     ·omega,fun m v hm=>by
     have h:=(List.getElem?_eq_some_iff.1 hm).1;have h:m<15:=by simpa using h
     rw [cell_of h2 (4+m)];rcases m with _|_|_|_|_|_|_|_|_|_|_|_|_|_|_|m
     all_goals first|exact hm|omega⟩
   go_upto_region 7 with fail
   go_cut [] (fun wx=>∃ (na:Option Addr) (nc:Nat) (ma:Option Addr) (mc:Nat),WL w.heap.size wx w.heap.size #[.slice (some ⟨g',off',none⟩) L.length vc,.slice na (j+1) nc,.slice ma (j+1) mc,lv] (.slice na (j+1) nc) (Xt L j++[T.XC]) (.slice ma (j+1) mc) (M++[(⟨T.XW,T.WJ,.slice ca T.XW.VN.length cc,.slice ea T.XW.ext.length ec,.slice pa T.XW.ZG.length pc⟩:TP)]) lv (Yv L L.length j)∧RO wx g b K R' ep' (Jx T.XC T.XW ca cc ea ec pa pc T.WJ ia T.items.length ic ta T.turns.length tc T.unknown) (.slice ta T.turns.length tc) T.turns ⟨T.XW,T.WJ,.slice ca T.XW.VN.length cc,.slice ea T.XW.ext.length ec,.slice pa T.XW.ZG.length pc⟩∧Below w w wx)
   case first=>
    refine SX ?_;refine Z_.Zy (d:=20) (S:=(fun w'=>w'.cell? ⟨w,1,none⟩=some av∧w'.cell? ⟨w,2,none⟩=some mv∧w'.rangeAt K 0 (Jt T.XC)∧w'.rangeAt K 4 (Jp T.XW ca cc ea ec pa pc T.WJ))) ZB ?_ (fun _=>?_)
    ·(try dsimp only)
     exact Zz.o _ _ HC.o.Y8 HR.o.tk
    refine YP 0 (h:=YP 1 (h:=YP 2 (h:=YP 3 (h:=YP 4 (h:=YP 6 (h:=YP 10 (h:=YP 11 (h:=YP 12 (h:=YP 14 (h:=YK 5 (h:=?_)))))))))));refine Z_.Nb (i:=7) (v:=?_) rfl ZB ZB ZB ZB (fun _ _ _ h=>h) (Ws ⟨Zr,?_⟩) SZ ?_
    rotate_left
    ·intro w Uq
     (try dsimp only at Uq)
     refine (XH 35 (.tmp 34) ?_ K 0 ?_ (Jt T.XC) _ Uq.2.2.1 Tryz.underlying35 rfl ZB).trans ?_;all_goals rfl
    try simp only [Z_.pt]
    refine YK 13 (h:=?_);refine Z_.Nb (i:=15) (v:=?_) rfl ZB ZB ZB ZB (fun _ _ _ h=>h) (Ws ⟨Zr,?_⟩) SZ ?_
    rotate_left
    ·intro w Uq
     (try dsimp only at Uq)
     refine (XH 97 (.tmp 42) ?_ K 4 ?_ (Jp T.XW ca cc ea ec pa pc T.WJ) _ Uq.2.2.2 Tryz.underlying97 rfl ZB).trans ?_;all_goals rfl
    try simp only [Z_.pt]
    refine Z_.TK (rs:=[8,16]) ZB Zi ?_;refine Z_.VP (i:=8) rfl (fun K hK=>?_) ?_
    ·skip
     refine Xg Zr Oe (.tmp 35) Zr (Jt T.XC) Zr Zr Zd ?_;have HR8:Hid (Row (w5.drew.alloc (.cells (Jt T.XC) 35)) 35 (.slice (some ⟨w5.drew.heap.size,0,none⟩) 1 1) 1 ([T.XC].flatMap Vn)):=Vz w5.drew 35 1 ([T.XC].flatMap Vn) Zd;have U6:=Z' w5.drew (.cells (Jt T.XC) 35);have HC:=Zh (HC.o.below U6);have HR:=Zh (HR.o.below U6);have R6:=Zh (R6.o.trans (U6.mono R6.o.size));clear U6;refine Z_.Zb hK _ _ ?_ (fun _=>?_)
     ·(try dsimp only)
      exact Zz.o _ _ HC.o.Y8 HR.o.tk
     clear hK K;try simp only [Z_.pt]
     refine Z_.TK (rs:=[9,16]) ZB Zi ?_;refine Z_.VP (i:=9) rfl (fun K hK=>?_) ?_
     ·skip
      refine Zp Zr (.tmp 33) (.tmp 36) 37 Zr w.heap.size Oe av (Xt L j).length ((Xt L j).flatMap Vn) Zr HC.o.XC _ 1 ([T.XC].flatMap Vn) Zr HR8.o rfl (U4 fun x _=>Hw x) (by rw [Ww];omega) (by rw [Ww];omega) ?_ ?_
      ·exact R6.o.size
      intro v9 w6 yR qU;have kS:Hid (w6.ownsRow w 35 4 v9 (Xt L j++[T.XC]).length ((Xt L j++[T.XC]).flatMap Vn)):=(by have h:=yR.o;rw [UE,OQ];exact h);obtain ⟨na,nc,NK,-⟩:=Row.Z6 kS.o;rw [show (Xt L j++[T.XC]).length=j+1 by rw [UE,Ww];rfl] at NK;subst NK;have HFA:Hid (yl (w5.drew.alloc (.cells (Jt T.XC) 35)) (fun i=>av.ownBlock=some i)):=fun i hi=>(by obtain ⟨cu,hc⟩:=Wo HC.o.XC i hi;exact ⟨cu,_,_,hc,Wh (Ws rfl)⟩)
      have HR:=Zh (HR.o.far (XY qU.o) HFA.o);have R6:Hid (Below w w w6):=((Fr.Z7 PN R6.o).grown qU.o R6.o.size (YL HC.o.XC)).below;have HC:=Zh (HC.o.D7 qU.o kS.o);refine Z_.Zb hK _ _ ?_ (fun _=>?_)
      ·(try dsimp only)
       exact Zz.o _ _ HC.o.Y8 HR.o.tk
      clear hK K;try simp only [Z_.pt]
      refine YR 16 (h:=fun K hK=>?_);refine Xg Zr KS (.tmp 43) Zr (Jp T.XW ca cc ea ec pa pc T.WJ) Zr Zr Zd ?_;have yT:Hid (Row (w6.alloc (.cells (Jp T.XW ca cc ea ec pa pc T.WJ) 97)) 97 (.slice (some ⟨w6,0,none⟩) 1 1) 1 ([(⟨T.XW,T.WJ,.slice ca T.XW.VN.length cc,.slice ea T.XW.ext.length ec,.slice pa T.XW.ZG.length pc⟩:TP)].flatMap Xo)):=Vz w6 97 1 ([(⟨T.XW,T.WJ,.slice ca T.XW.VN.length cc,.slice ea T.XW.ext.length ec,.slice pa T.XW.ZG.length pc⟩:TP)].flatMap Xo) Zd;have U6:=Z' w6 (.cells (Jp T.XW ca cc ea ec pa pc T.WJ) 97);have HC:=Zh (HC.o.below U6);have HR:=Zh (HR.o.below U6);have R6:=Zh (R6.o.trans (U6.mono R6.o.size));clear U6;refine Z_.Zb hK _ _ ?_ (fun _=>?_)
      ·(try dsimp only)
       exact Zz.o _ _ HC.o.Y8 HR.o.tk
      clear hK K;try simp only [Z_.pt]
      refine YR 17 (h:=fun K hK=>?_);refine Zp Zr (.tmp 41) (.tmp 44) 114 Zr w.heap.size KS mv M.length (M.flatMap Xo) Zr HC.o.Ld _ 1 ([(⟨T.XW,T.WJ,.slice ca T.XW.VN.length cc,.slice ea T.XW.ext.length ec,.slice pa T.XW.ZG.length pc⟩:TP)].flatMap Xo) Zr yT.o rfl Et (by rw [qq.o];omega) (by rw [qq.o];omega) ?_ ?_
      ·exact R6.o.size
      intro v17 w7 aY Br;have FY:Hid (w7.ownsRow w 97 15 v17 (M++[(⟨T.XW,T.WJ,.slice ca T.XW.VN.length cc,.slice ea T.XW.ext.length ec,.slice pa T.XW.ZG.length pc⟩:TP)]).length ((M++[(⟨T.XW,T.WJ,.slice ca T.XW.VN.length cc,.slice ea T.XW.ext.length ec,.slice pa T.XW.ZG.length pc⟩:TP)]).flatMap Xo)):=(by have h:=aY.o;rw [UE,OQ];exact h);obtain ⟨ma,mc,oF,-⟩:=Row.Z6 FY.o;rw [show (M++[(⟨T.XW,T.WJ,.slice ca T.XW.VN.length cc,.slice ea T.XW.ext.length ec,.slice pa T.XW.ZG.length pc⟩:TP)]).length=j+1 by rw [UE,qq.o];rfl] at oF;subst oF;have HEA:Hid (∀ x∈M++[(⟨T.XW,T.WJ,.slice ca T.XW.VN.length cc,.slice ea T.XW.ext.length ec,.slice pa T.XW.ZG.length pc⟩:TP)],Vy w7 x.p x.cv x.ev x.pv):=fun x hx=>Yo12
      have HFM:Hid (yl (w6.alloc (.cells (Jp T.XW ca cc ea ec pa pc T.WJ) 97)) (fun i=>mv.ownBlock=some i)):=fun i hi=>(by obtain ⟨cu,hc⟩:=Wo HC.o.Ld i hi;exact ⟨cu,_,_,hc,Wh (Wh (Ws rfl))⟩)
      have HR:=Zh (HR.o.far (XY Br.o) HFM.o);have R6:Hid (Below w w w7):=((Fr.Z7 PN R6.o).grown Br.o R6.o.size (YL HC.o.Ld)).below;have HC:=Zh (HC.o.gh Br.o FY.o HEA.o);obtain ⟨b0,b1,b2,b3,b4⟩:=HC.o.cells;have b41:=b4 1;have b42:=b4 2;refine Z_.Zb hK _ _ ?_ (fun _=>?_)
      ·(try dsimp only)
       exact Zz.o _ _ HC.o.Y8 HR.o.tk
      clear hK K;try simp only [Z_.pt]
      refine YP 18 (h:=YP 19 (h:=?_));refine YR 20 (h:=fun K hK=>?_);go_simp;have aU:Hid (yl w7 (· = w.heap.size)):=fun i hi=>iW
      have HR:=Zh (HR.o.far (w':=w7.setCell ⟨w,1,none⟩ (.slice na (j+1) nc)) ((Fr.refl _ _ _).setAt _ _) aU.o);have R6:Hid (Below w w (w7.setCell ⟨w,1,none⟩ (.slice na (j+1) nc))):=((Fr.Z7 PN R6.o).setCell (p:=⟨w,1,none⟩) (Ws (Zw _)) _).below;have HC:=Zh (HC.o.Hd 1 (.slice na (j+1) nc));obtain ⟨d0,d1,d2,d3,d4⟩:=HC.o.cells;have d42:=d4 2;refine Z_.Yk hK _ _ ZB ?_;clear hK K;try simp only [Z_.pt]
      refine YP 21 (h:=YP 22 (h:=?_));refine YR 23 (h:=fun K hK=>?_);go_simp;have aU:Hid (yl (w7.setCell ⟨w,1,none⟩ (.slice na (j+1) nc)) (· = w.heap.size)):=fun i hi=>iW
      have HR:=Zh (HR.o.far (w':=(w7.setCell ⟨w,1,none⟩ (.slice na (j+1) nc)).setCell ⟨w,2,none⟩ (.slice ma (j+1) mc)) ((Fr.refl _ _ _).setAt _ _) aU.o);have R6:Hid (Below w w ((w7.setCell ⟨w,1,none⟩ (.slice na (j+1) nc)).setCell ⟨w,2,none⟩ (.slice ma (j+1) mc))):=((Fr.Z7 PN R6.o).setCell (p:=⟨w,2,none⟩) (Ws (Zw _)) _).below;have HC:=Zh (HC.o.Hd 2 (.slice ma (j+1) mc));refine Z_.Yk hK _ _ ZB ?_;clear hK K;try simp only [Z_.pt]
      refine Z_.YC ZB ?_ _;refine RA ?_;go_wp2_with fail
      go_meet;exact ⟨na,nc,ma,mc,HC.o,HR.o,R6.o⟩
     refine Z_.VP (i:=16) rfl (fun K hK=>?_) Z_.QP;refine Xg Zr KS (.tmp 43) Zr (Jp T.XW ca cc ea ec pa pc T.WJ) Zr Zr Zd ?_;have yT:Hid (Row ((w5.drew.alloc (.cells (Jt T.XC) 35)).alloc (.cells (Jp T.XW ca cc ea ec pa pc T.WJ) 97)) 97 (.slice (some ⟨(w5.drew.alloc (.cells (Jt T.XC) 35)).heap.size,0,none⟩) 1 1) 1 ([(⟨T.XW,T.WJ,.slice ca T.XW.VN.length cc,.slice ea T.XW.ext.length ec,.slice pa T.XW.ZG.length pc⟩:TP)].flatMap Xo)):=Vz (w5.drew.alloc (.cells (Jt T.XC) 35)) 97 1 ([(⟨T.XW,T.WJ,.slice ca T.XW.VN.length cc,.slice ea T.XW.ext.length ec,.slice pa T.XW.ZG.length pc⟩:TP)].flatMap Xo) Zd;have U6:=Z' (w5.drew.alloc (.cells (Jt T.XC) 35)) (.cells (Jp T.XW ca cc ea ec pa pc T.WJ) 97);have HC:=Zh (HC.o.below U6);have HR:=Zh (HR.o.below U6);have R6:=Zh (R6.o.trans (U6.mono R6.o.size));have HR8:=Zh (Row.below HR8.o U6);clear U6;refine Z_.Zb hK _ _ ?_ (fun _=>?_)
     ·(try dsimp only)
      exact Zz.o _ _ HC.o.Y8 HR.o.tk
     clear hK K;try simp only [Z_.pt]
     refine YR 9 (h:=fun K hK=>?_);refine Zp Zr (.tmp 33) (.tmp 36) 37 Zr w.heap.size Oe av (Xt L j).length ((Xt L j).flatMap Vn) Zr HC.o.XC _ 1 ([T.XC].flatMap Vn) Zr HR8.o rfl (U4 fun x _=>Hw x) (by rw [Ww];omega) (by rw [Ww];omega) ?_ ?_
     ·exact R6.o.size
     intro v9 w6 yR qU;have kS:Hid (w6.ownsRow w 35 4 v9 (Xt L j++[T.XC]).length ((Xt L j++[T.XC]).flatMap Vn)):=(by have h:=yR.o;rw [UE,OQ];exact h);obtain ⟨na,nc,NK,-⟩:=Row.Z6 kS.o;rw [show (Xt L j++[T.XC]).length=j+1 by rw [UE,Ww];rfl] at NK;subst NK;have HFA:Hid (yl ((w5.drew.alloc (.cells (Jt T.XC) 35)).alloc (.cells (Jp T.XW ca cc ea ec pa pc T.WJ) 97)) (fun i=>av.ownBlock=some i)):=fun i hi=>(by obtain ⟨cu,hc⟩:=Wo HC.o.XC i hi;exact ⟨cu,_,_,hc,Wh (Ws rfl)⟩)
     exact Yx13
    refine Z_.VP (i:=16) rfl (fun K hK=>?_) Z_.QP;refine Xg Zr KS (.tmp 43) Zr (Jp T.XW ca cc ea ec pa pc T.WJ) Zr Zr Zd ?_;have yT:Hid (Row (w5.drew.alloc (.cells (Jp T.XW ca cc ea ec pa pc T.WJ) 97)) 97 (.slice (some ⟨w5.drew.heap.size,0,none⟩) 1 1) 1 ([(⟨T.XW,T.WJ,.slice ca T.XW.VN.length cc,.slice ea T.XW.ext.length ec,.slice pa T.XW.ZG.length pc⟩:TP)].flatMap Xo)):=Vz w5.drew 97 1 ([(⟨T.XW,T.WJ,.slice ca T.XW.VN.length cc,.slice ea T.XW.ext.length ec,.slice pa T.XW.ZG.length pc⟩:TP)].flatMap Xo) Zd;have U6:=Z' w5.drew (.cells (Jp T.XW ca cc ea ec pa pc T.WJ) 97);have HC:=Zh (HC.o.below U6);have HR:=Zh (HR.o.below U6);have R6:=Zh (R6.o.trans (U6.mono R6.o.size));clear U6;refine Z_.Zb hK _ _ ?_ (fun _=>?_)
    ·(try dsimp only)
     exact Zz.o _ _ HC.o.Y8 HR.o.tk
    clear hK K;try simp only [Z_.pt]
    refine YR 8 (h:=fun K hK=>?_);refine Xg Zr Oe (.tmp 35) Zr (Jt T.XC) Zr Zr Zd ?_;have HR8:Hid (Row ((w5.drew.alloc (.cells (Jp T.XW ca cc ea ec pa pc T.WJ) 97)).alloc (.cells (Jt T.XC) 35)) 35 (.slice (some ⟨(w5.drew.alloc (.cells (Jp T.XW ca cc ea ec pa pc T.WJ) 97)).heap.size,0,none⟩) 1 1) 1 ([T.XC].flatMap Vn)):=Vz (w5.drew.alloc (.cells (Jp T.XW ca cc ea ec pa pc T.WJ) 97)) 35 1 ([T.XC].flatMap Vn) Zd;have U6:=Z' (w5.drew.alloc (.cells (Jp T.XW ca cc ea ec pa pc T.WJ) 97)) (.cells (Jt T.XC) 35);have HC:=Zh (HC.o.below U6);have HR:=Zh (HR.o.below U6);have R6:=Zh (R6.o.trans (U6.mono R6.o.size));have yT:=Zh (Row.below yT.o U6);clear U6;refine Z_.Zb hK _ _ ?_ (fun _=>?_)
    ·(try dsimp only)
     exact Zz.o _ _ HC.o.Y8 HR.o.tk
    clear hK K;try simp only [Z_.pt]
    refine YR 9 (h:=fun K hK=>?_);refine Zp Zr (.tmp 33) (.tmp 36) 37 Zr w.heap.size Oe av (Xt L j).length ((Xt L j).flatMap Vn) Zr HC.o.XC _ 1 ([T.XC].flatMap Vn) Zr HR8.o rfl (U4 fun x _=>Hw x) (by rw [Ww];omega) (by rw [Ww];omega) ?_ ?_
    ·exact R6.o.size
    intro v9 w6 yR qU;have kS:Hid (w6.ownsRow w 35 4 v9 (Xt L j++[T.XC]).length ((Xt L j++[T.XC]).flatMap Vn)):=(by have h:=yR.o;rw [UE,OQ];exact h);obtain ⟨na,nc,NK,-⟩:=Row.Z6 kS.o;rw [show (Xt L j++[T.XC]).length=j+1 by rw [UE,Ww];rfl] at NK;subst NK;have HFA:Hid (yl ((w5.drew.alloc (.cells (Jp T.XW ca cc ea ec pa pc T.WJ) 97)).alloc (.cells (Jt T.XC) 35)) (fun i=>av.ownBlock=some i)):=fun i hi=>(by obtain ⟨cu,hc⟩:=Wo HC.o.XC i hi;exact ⟨cu,_,_,hc,Wh (Ws rfl)⟩)
    exact Yx13
   case rest=>
    obtain ⟨w9,rfl⟩:∃ W:World,W=wc:=⟨_,rfl⟩;obtain ⟨na,nc,ma,mc,hbk9,dI,gB⟩:=hcut;have HC:=Zh hbk9;have HR:=Zh dI;have R6:=Zh gB;have k20:=cell_of dI.tk 20;simp only [SE,SD,R8] at k20;clear hbk9 dI gB Zz;go_wp2_with fail
    go_loopw [53] (fun s53 w'=>∃ (i:Nat) (Cx:Value),i≤T.turns.length∧s53 = .int .i64 (i:Int)∧WL w.heap.size w' w.heap.size #[.slice (some ⟨g',off',none⟩) L.length vc,.slice na (j+1) nc,.slice ma (j+1) mc,Cx] (.slice na (j+1) nc) (Xt L j++[T.XC]) (.slice ma (j+1) mc) (M++[(⟨T.XW,T.WJ,.slice ca T.XW.VN.length cc,.slice ea T.XW.ext.length ec,.slice pa T.XW.ZG.length pc⟩:TP)]) Cx (WX L.length j (Yv L L.length j) (T.turns.take i))∧RO w' g b K R' ep' (Jx T.XC T.XW ca cc ea ec pa pc T.WJ ia T.items.length ic ta T.turns.length tc T.unknown) (.slice ta T.turns.length tc) T.turns ⟨T.XW,T.WJ,.slice ca T.XW.VN.length cc,.slice ea T.XW.ext.length ec,.slice pa T.XW.ZG.length pc⟩∧Below w w w') (fun s53 _=>T.turns.length-(intOf s53).toNat)
    case atStart=>exact ⟨0,lv,Zo,rfl,HC.o,HR.o,R6.o⟩
    case round=>
     obtain ⟨i,Cx,hi,rfl,ll,hro,VX⟩:=hrel;have Hu:=Zh ll;have ue:=Zh hro;have yJ:=Zh VX;clear HC HR R6 k20;by_cases qK:i<T.turns.length
     ·obtain ⟨g5,eu,e5,VQ⟩:=Su Z9 5 (fun _=>rfl) hro.turns Zo;cases e5;have ht:T.turns[i]?=some T.turns[i]:=Vb qK;have VQ:=VQ i _ ht;have JV:=Zh (Rb ht);generalize T.turns[i]=t at *
      have LQ:=Zh (Cv L.length j (Yv L L.length j) (T.turns.take i) t);have hlen:=Nt L.length j (T.turns.take i) (Yv L L.length j);rw [S4] at hlen;have Np:=HLL.o;have hlen3:=HTL.o;have M3:wr.rangeAt g5 (eu+i*5) (Jw t):=fun m v hm=>(VQ m mP).trans hm
      have hiI:(i:Int)<(T.turns.length:Int):=OP.2 qK;have hz:=Z8 wr (.cells (Qh 0 0 0 0 0) 158);have Rh:=setRow_heap _ _ _ (Jw t) _ _ hz;have Wc:Hid (Below wr wr ((wr.alloc (.cells (Qh 0 0 0 0 0) 158)).setRow wr.heap.size (Jw t))):=Z3 (Z' wr _) (Zw _) _;have aO:=Zh (Hu.o.below Wc.o);have yU:=Zh (ue.o.below Wc.o);have yK:=Zh (yJ.o.trans (Wc.o.mono yJ.o.size));clear ll hro VX VQ Hu ue Wc;go_upto_region 11 with (first|(with_reducible refine Zj 158 (.tmp 55) rfl ?_;refine wpList_load_mid rfl 158 (.tmp 55) rfl g5 (eu+i*5) rfl (Jw t) _ M3 Tryz.underlying158 rfl ZB ?_)|(with_reducible refine ZU 158 (.tmp 9) (.tmp 56) rfl ?_;refine ZV rfl 158 (.tmp 9) (.tmp 56) rfl rfl wr.heap.size (Jw t) rfl rfl 158 (Qh 0 0 0 0 0) hz ZB ZB ZB ?_))
      clear hz M3;generalize ((wr.alloc (.cells (Qh 0 0 0 0 0) 158)).setRow wr.heap.size (Jw t))=UH at *
      have CB:=Zh (qR w.heap.size w.heap.size _ _ _ _ _ _ _ _ _ (j:Int) t UH aO.o yK.o.size Zo);go_wp2_with (first|(with_reducible refine Zj 158 (.tmp 9) rfl ?_;refine Zf rfl 158 (.tmp 9) rfl wr.heap.size rfl 158 (Jw t) (0,0) _ Rh Tryz.underlying158 rfl ZB ?_)|(go_at_call 85;refine CB.o.mono ?_;rintro e JR ⟨rfl,lv2,hbk2,wu⟩;have iw:=Zh hbk2;have yN:=Zh wu;clear hbk2 wu))
      have hfar:yl UH (fun m=>m=w.heap.size∨Cx.ownBlock=some m):=fun m hm=>by
       rcases hm with rfl|hm
       ·exact ⟨_,_,_,aO.o.Y8,Ws rfl⟩
       ·obtain ⟨cu,hc⟩:=Wo aO.o.P4 m hm;exact ⟨cu,_,_,hc,Wh (Wh (Wh rfl))⟩
      have HR4:=Zh (yU.o.far yN.o hfar)
      have hbf:Below w UH JR:=(yN.o.mono yK.o.size (S':=PN) (fun m hm hs=>by
       rcases hs with rfl|hs
       ·exact absurd hm (Nat.lt_irrefl _)
       ·have:=YL aO.o.P4 m hs;omega)).below
      have HBL4:=Zh (yK.o.trans hbf);clear hfar hbf CB;go_roundw
      case rel=>exact ⟨i+1,lv2,Zo,Zn,by rw [JV.o,LQ.o];exact iw.o,HR4.o,HBL4.o⟩
      case measure=>simp [intOf];omega
     ·have hT:T.turns.take i=T.turns:=FL Zo;rw [hT] at Hu;clear ll hro VX hT;go_wp2;go_roundw
      case rel=>
       refine ⟨j+1,.slice na (j+1) nc,.slice ma (j+1) mc,Cx,M++[(⟨T.XW,T.WJ,.slice ca T.XW.VN.length cc,.slice ea T.XW.ext.length ec,.slice pa T.XW.ZG.length pc⟩:TP)],R',ep',Zo,Zn,⟨yJ.o,?_,?_,ue.o.RT,HOK1.o,yS.o,iO.o,ry.o,BC.o.kg⟩⟩
       ·rw [HA1.o,FX.o];exact Hu.o
       ·rw [kZ.o,NR,BC.o.ek];rfl
      case measure=>simp [intOf];omega
  ·have Mc:j=L.length:=by omega
   subst Mc;have HOE:=Zh (HO.o.below BC.o.Zg);clear Uc;go_wp2;go_ret;exact ⟨_,g,b,_,av,mv,lv,M,R,ep,rfl,HOE.o,BC.o⟩
end Go.Proofs.By

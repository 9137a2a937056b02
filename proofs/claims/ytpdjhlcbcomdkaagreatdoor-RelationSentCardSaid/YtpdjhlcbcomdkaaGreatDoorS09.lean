import Derived.Test.YtpdjhlcbcomdkaaGreatDoorS08
set_option linter.all false
set_option maxRecDepth 100000
set_option maxHeartbeats 16000000
open Go Go.Q Go.Qr Go.Proofs.Tryz Go.RowKit
namespace Go.Proofs.By
def tO:Elem prog 22 32 7 96:=⟨underlying22,⟨.agg IB,by kernel_rfl,rfl⟩,by decide⟩
def Fg{α:Type}(f:α→List Value)(k:Nat)(hk:∀x,(f x).length=k):∀(l:List α) (m:Nat),(l.flatMap f).take (m*k)=(l.take m).flatMap f
 | [],m=>by simp
 | x :: l,0=>by simp
 | x :: l,m+1=>by
  have h:=hk x;rw[List.flatMap_cons,List.take_succ_cons,List.flatMap_cons,Nat.succ_mul,List.take_append,h,Ex Zo,show m*k+k-k=m*k by omega,Fg f k hk l m]
def Wu.take{w:World}{a:Option Addr}{c:Nat}{L:List WR}(h:Wu w (.slice a L.length c) L){a':Option Addr}{K:Nat}(hK:K≤L.length)
  (hr:∀w xs,K≤L.length→xs.length=L.length*7→XG w (.slice a L.length c) L.length xs→XG w (.slice a' K c) K (xs.take (K*7))):Wu w (.slice a' K c) (L.take K):=by
 have hl:(L.take K).length=K:=by rw[SC];omega
 refine⟨?_,fun y hy=>h.each y (List.mem_of_mem_take hy)⟩;rw[hl];have:=hr w _ hK (XH (fun y:WR=>XD y.x) 7 (fun _=>rfl) L) h.row
 rwa[Fg (fun y:WR=>XD y.x) 7 (fun _=>rfl)]at this
def Wu.form{w:World}{v:Value}{L:List WR}(h:Wu w v L):∃a c,v = .slice a L.length c∧L.length≤c∧c≤maxLen:=by
 obtain⟨a,c,h1,h2,h3,_⟩:=h.row;exact⟨a,c,h1,h2,h3⟩
def cO(v:Value)(L:List WR)(w:World)(h:Wu w v L):Calls prog 84 #[v] w fun e w'=>(∃v',e = .returned v'∧Wu w' v' (L.take 256))∧w=w':=by
 obtain⟨va,vc,rfl,hvc,x8⟩:=h.form;obtain⟨K,hKd⟩:∃K,K=min L.length 256:=⟨_,rfl⟩;have hK1:K≤L.length:=by omega
 have hKm:min (L.length:Int) 256=(K:Int):=by omega
 obtain⟨vs,Uf,-,Fw⟩:=RT (P:=prog) tO va L.length vc K Zo
 have HO:Hid (Wu w (.slice vs K vc) (L.take 256)):=by
  have h2:=h.take hK1 Fw
  have e:L.take K=L.take 256:=by
   rcases Nat.le_total L.length 256 with h3|h3
   ·rw[hKd,Nat.min_eq_left h3,nv,Ex h3]
   ·rw[hKd,Nat.min_eq_right h3]
  rwa[e]at h2
 clear h Fw hKd;go_enter func84,ntmps84;go_wp2;go_ret;exact⟨⟨_,rfl,HO.o⟩,rfl⟩
def vH(w:World)(S:Nat→Prop):Prop:=∀j,S j→∃c t f,w.heap[j]?=some (.cells c t f)∧(t=116∨t=35∨t=97∨t=59)
def vH.no{w:World}{S:Nat→Prop}(h:vH w S){j:Nat}{c:Array Value}{e:TypeId}{f:Nat×Nat}(hj:w.heap[j]?=some (.cells c e f))(he:e≠116∧e≠35∧e≠97∧e≠59):¬S j:=fun hs=>by
 obtain⟨c',t,f',h1,h2⟩:=h j hs;rw[hj]at h1;injection h1 with h1
 injection h1 with _ h1
 subst h1;rcases h2 with r|r|r|r
 ·exact he.1 r
 ·exact he.2.1 r
 ·exact he.2.2.1 r
 ·exact he.2.2.2 r
def vH.ne{w:World}{S:Nat→Prop}(h:vH w S){e:TypeId}(he:e≠116∧e≠35∧e≠97∧e≠59):∀j c fr,S j→w.heap[j]?≠some (.cells c e fr):=fun _ _ _ hs hj=>h.no hj he hs
structure RO(w:World)(g b K:Nat)(R:Room)(ep:Int)(TC:Array Value)(tv:Value)(ts:List Yz)(x:Tt):Prop where
 TJ:X5 w g b R ep
 turns:Yx w tv ts
 pk:Vp w x.p x.cv x.ev x.pv
 tk:w.heap[K]?=some (.cells TC 100 (0,0))
section
variable {w w':World} {g b K:Nat} {R:Room} {ep:Int} {TC:Array Value} {tv:Value} {ts:List Yz} {x:Tt}
def RO.below(h:RO w g b K R ep TC tv ts x)(hb:Below w w w'):RO w' g b K R ep TC tv ts x:=
 ⟨h.TJ.below hb,Row.below h.turns hb,h.pk.below hb,(hb.block _ (ZY h.tk)).trans h.tk⟩
def X5.far(h:X5 w g b R ep){S:Nat→Prop}(hf:Fr w S w w')(hS:vH w S):X5 w' g b R ep:=by
 obtain⟨c,hc,_⟩:=h.room.cells;exact⟨(hf.block g (ZY h.Y8) (hS.no h.Y8 Zd)).trans h.Y8,h.room.fr hf (Zq _) (hS.no hc Zd) (hS.ne Zd)⟩
def RO.far(h:RO w g b K R ep TC tv ts x){S:Nat→Prop}(hf:Fr w S w w')(hS:vH w S):RO w' g b K R ep TC tv ts x:=
 ⟨h.TJ.far hf hS,Row.fr h.turns hf (Zq _) (hS.ne Zd),h.pk.vT hf (hS.ne Zd) (hS.ne Zd),(hf.block _ (ZY h.tk) (hS.no h.tk Zd)).trans h.tk⟩
end
def X5.apartB{w:World}{g b:Nat}{R:Room}{ep:Int}(h:X5 w g b R ep):∀j,(j=b∨j=g)→∃c t f,w.heap[j]?=some (.cells c t f)∧t≠116∧t≠35∧t≠97∧t≠59∧t≠66∧t≠5:=by
 rintro j (rfl|rfl)
 ·obtain⟨c,hc,_,_⟩:=h.room.cells;exact⟨c,_,_,hc,by decide,by decide,by decide,by decide,by decide,by decide⟩
 ·exact⟨_,_,_,h.Y8,by decide,by decide,by decide,by decide,by decide,by decide⟩
def Xj{P:Program}{w:World}{op:Oper}{a:Act}(ty:TypeId)(x:Operand)(ho:op.op = .load ty x)(b o:Nat)(hx:a.eval x = .pointer (some ⟨b,o,none⟩))(cs:List Value)(d:TypeDesc)(hc:w.rangeAt b o cs)
  (hu:P.underlying ty=some d) (hd:d.isRow=true) (hi:(P.info? ty).map (·.size)=some cs.length):(execOp a.eval op).run P w = .ok (.value (.agg cs.toArray)) w:=by
 unfold execOp;simp only[ho,hx,Instr.loadAt,Instr.sureAddr,Sem.run_bind,Sem.run_pure,Result.andThen_ok,run_loadVar_mid w b o ty cs d hc hu hd hi]
def Gw(x:Et):∀u∈VF x,u.oneCell'=true:=by
 intro u hu;simp only[VF,K5,List.mem_nil_iff,or_false]at hu;rcases hu with rfl|rfl|rfl|rfl <;> rfl
structure RS(w w':World)(k g b:Nat)(ov:Value)(L:List WR)(n:Int)(j:Nat)(av mv lv:Value)(M:List Tt)(R:Room)(ep:Int):Prop where
 Za:Below w w w'
 book:Ws w w' k #[ov,av,mv,lv] av (XV L j) mv M lv (Zg L n j)
 meds:M.map (fun x=>(x.p,x.d))=NR L j
 TJ:X5 w' g b R ep
 inv:Inv R
 Bl:Wc R
 bare:R.bare=(Yf L j).1
 eK:ep=(Yf L j).2
 kg:w.heap.size≤k∧w.heap.size≤g∧w.heap.size≤b
def CX{p:JR}{d:Eu}{ca ea pa:Option Addr}{cn cc en ec pn pc:Nat}:∀u∈[(⟨p,d,.slice ca cn cc,.slice ea en ec,.slice pa pn pc⟩:Tt)].flatMap Xg,u.oneCell'=true:=by
 intro u hu;have hu:u∈VT p d (.slice ca cn cc) (.slice ea en ec) (.slice pa pn pc):=by simpa[Xg]using hu
 simp only[VT,K5,List.mem_nil_iff,or_false]at hu;rcases hu with rfl|rfl|rfl|rfl|rfl|rfl|rfl|rfl|rfl|rfl|rfl|rfl|rfl|rfl|rfl <;> rfl
def UI{α:Type}(f:α→List Value)(k:Nat)(hk:∀x,(f x).length=k){w:World}{e:TypeId}{a:Option Addr}{n c:Nat}{l:List α}(h:Row w e (.slice a n c) n (l.flatMap f))(hl:0<l.length*k):∃g off,a=some ⟨g,off,none⟩∧∀(i:Nat) (x:α),l[i]?=some x→∀j,j<k→w.cell? ⟨g,off+i*k+j,none⟩=(f x)[j]?:=by
 have vU:=XH f k hk l;obtain⟨g,off,cap,h1,h2,h3,h4,h5⟩:=Row.open h (by rw[vU];exact hl);injection h1 with e1 _ _
 refine⟨g,off,e1,fun i x hx j hj=>?_⟩;have hi:i<l.length:=(List.getElem?_eq_some_iff.1 hx).1
 have Ow:i*k+j<l.length*k:=by
  have h6:(i+1)*k≤l.length*k:=Nat.mul_le_mul_right _ hi;rw[Nat.succ_mul]at h6;omega
 rw[Nat.add_assoc,h5 (i*k+j) (by rw[vU];exact Ow)];exact Mg f k hk l i j x hx hj
def JS(v:Value)(L:List WR)(w:World)(hT:Xn w)(h:Wu w v L)(hL:L.length≤256) :
  Calls prog 53 #[v] w fun e w'=>(∃k g b ov av mv lv M R ep,e = .returned (.pointer (some ⟨k,0,none⟩))∧Wu w' ov L∧RS w w' k g b ov L L.length L.length av mv lv M R ep):=by
 have CC:Hid (Calls prog 84 #[v] w fun e w'=>(∃v',e = .returned v'∧Wu w' v' L)∧w=w'):=by
  have h2:=cO v L w h
  rwa[Ex hL]at h2
 have HT:Hid (∀w',Below w w w'→Xn w'):=fun w' h=>Utf8Tabs_below hT h
 have CN:=Zh v_;clear hT h;go_enter func53,ntmps53;go_wp2_with (first|(go_at_call 84;refine CC.o.mono ?_;rintro e w1 ⟨⟨v',rfl,ho⟩,rfl⟩;obtain⟨va,vc,hv,hvc,x8⟩:=Wu.form ho;subst hv;have HO:=Zh ho;clear ho)|(go_at_call 40;refine(CN.o _).mono ?_;rintro e w2 ⟨⟨g,b,rfl,hd,hg,hb⟩,Y7⟩;have gS:=(Y7.block w Ah).trans (Z9 w (.cells #[.slice va L.length vc,.slice none 0 0,.slice none 0 0,.slice none 0 0] 116));have k0:=cell_of gS 0;simp only[Ss,R_]at k0;have HD:=Zh hd;have Yc:Hid (Below w w w2):=(Z' w _).trans (Y7.mono jm);have HG:Hid (w.heap.size≤g):=PJ jm hg;have Sq:Hid (w.heap.size≤b):=PJ jm hb;clear hd Y7 hg hb))
 have EN:Hid (RS w w2 w g b (.slice va L.length vc) L L.length 0 (.slice none 0 0) (.slice none 0 0) (.slice none 0 0) [] empty 0):=
  ⟨Yc.o,⟨gS,TH _ _ _ _,TH _ _ _ _,fun _ h=>(by cases h),TH _ _ _ _⟩,rfl,HD.o,S8,Uj,rfl,rfl,⟨Zq _,HG.o,Sq.o⟩⟩
 clear gS k0 CC CN HD Yc;go_loopw [20] (fun s20 w'=>∃(j:Nat) (av mv lv:Value) (M:List Tt) (R:Room) (ep:Int),j≤L.length∧s20 = .int .i64 (j:Int)∧RS w w' w g b (.slice va L.length vc) L L.length j av mv lv M R ep) (fun s20 _=>L.length-(intOf s20).toNat)
 case atStart=>exact⟨0,_,_,_,_,_,_,Zo,rfl,EN.o⟩
 case round=>
  obtain⟨j,av,mv,lv,M,R,ep,hj,rfl,Ty⟩:=hrel;have Ab:=Zh Ty;clear EN;by_cases RZ:j<L.length
  ·have hOr:=HO.o.below Ty.Za;obtain⟨g',off',cap',e1,-,-,-,V5⟩:=KG (fun y:WR=>XD y.x) 7 (fun _=>rfl) Zo hOr.row Zo;cases e1;have hy:L[j]?=some L[j]:=U' RZ;have V5:=V5 j _ hy;have fD:=hOr.each L[j] (O6 RZ);have Ad:=Zh (fun sv=>yZ hy Ty.bare Ty.eK sv);have hbd:=I_ L j;rw[←Ty.eK]at hbd;generalize L[j]=y at *;obtain⟨⟨⟨kd,p,s,q,nm,ss⟩,sa,sc,ba,bl,bc⟩,bb⟩:=y;dsimp only at fD Ad;obtain⟨LW,py,UD⟩:=fD;have HA1:=Zh (Hn L j);have gI:=Zh (yC L j);have EJ:Hid (Zg L L.length (j+1)=W8 L.length j (Zg L L.length j) (Z6 L j).turns):=rfl;have HTL:=Zh (MX L j);have HLL:=Zh (RJ L L.length j)
   have vM:Hid (M.length=j):=by
    show _=_;have h1:=congrArg List.length Ty.meds
    rwa[Te,FN]at h1
   generalize Z6 L j=T at *;have Nk:wr.rangeAt g' (off'+j*7) (Qa kd p s q (str nm) sa ss.length sc ba bl bc):=fun m v hm=>(V5 m jl).trans hm
   have Cj:(j:Int)<(L.length:Int):=PM.2 RZ;have hz:=Z9 wr (.cells IB 32);have SA:=setRow_heap _ _ _ (Qa kd p s q (str nm) sa ss.length sc ba bl bc) _ _ hz;have WB:Hid (Below wr wr ((wr.alloc (.cells IB 32)).setRow wr (Qa kd p s q (str nm) sa ss.length sc ba bl bc))):=Z0 (Z' wr _) (Zq _) _
   have CT:Hid (Calls prog 44 (Qi (some ⟨g,0,none⟩) (Qa kd p s q (str nm) sa ss.length sc ba bl bc)) ((wr.alloc (.cells IB 32)).setRow wr (Qa kd p s q (str nm) sa ss.length sc ba bl bc)) (EU g b R ep ⟨kd,p,s,q,nm,ss⟩ bb ((wr.alloc (.cells IB 32)).setRow wr (Qa kd p s q (str nm) sa ss.length sc ba bl bc)))):=
    jh g b R ep kd p s q nm ss sa ba sc bl bc bb _ (Ty.TJ.below WB.o) Ty.inv (Utf8Tabs_below (HT.o _ Ty.Za) WB.o) hbd.1 Zo UD (LW.below WB.o) (fun hk w1 gZ=>Ar g b R ep kd p s q (str nm) sa ba ss.length sc bl bc bb w1 ((Ty.TJ.below WB.o).below gZ) Ty.inv Ty.Bl hbd.1 Zo ((XG.below py WB.o).below gZ))
   have HBK3:=Zh (Ty.book.below WB.o);have wu:Hid (Below w w ((wr.alloc (.cells IB 32)).setRow wr (Qa kd p s q (str nm) sa ss.length sc ba bl bc))):=Ty.Za.trans (WB.o.mono Ty.Za.size);have HD3:=Zh (Ty.TJ.below WB.o);have HTO:=Zh (Bo Ty.inv Ty.Bl ep ⟨kd,p,s,q,nm,ss⟩ bb);clear Ty V5 hOr LW py;go_upto_region 6 with(first|with_reducible refine Zm Nk underlying32 ?_|(with_reducible refine Zs (cells:=(Qa kd p s q (str nm) sa ss.length sc ba bl bc)) hz ?_))
   clear hz Nk;generalize((wr.alloc (.cells IB 32)).setRow wr (Qa kd p s q (str nm) sa ss.length sc ba bl bc))=w3 at *;go_upto_region 7 with(first|with_reducible refine Zl SA underlying32 ?_|(go_at_call 44;refine CT.o.mono ?_;rintro e w4 ⟨sv,⟨cs,rfl,O9⟩,fC,b9⟩;obtain⟨st1,st2,st3⟩:=Ad.o sv;obtain⟨ok1,ok2,-⟩:=HTO.o sv;rw[st1]at O9;have HD4:=Zh fC;have mW:=Zh b9;have HOK1:=Zh ok1;have wK:=Zh ok2;have dF:=Zh st2;have n7:=Zh st3;obtain⟨cv,ev,pv,iv,tv,rfl,hpk,Pd,Sz⟩:=O9.ex;obtain⟨⟨ca,cc,G9⟩,⟨ea,ec,LQ⟩,⟨pa,pc,Mk⟩⟩:=hpk.form;obtain⟨ia,ic,Ci⟩:=YB.form Pd;obtain⟨ta,tc,lh⟩:=Row.form Sz;subst G9;subst LQ;subst Mk;subst Ci;subst lh;have EM:=Zh hpk;have Ew:=Zh Sz;have hz7:=Z9 w4 (.cells W_ 100);clear O9 fC b9 ok1 ok2 st1 st2 st3 hpk Pd Sz)|(with_reducible refine Zs (cells:=(J0 T.XR T.XM ca cc ea ec pa pc T.WI ia T.items.length ic ta T.turns.length tc T.unknown)) hz7 ?_))
   generalize take R ep ⟨kd,p,s,q,nm,ss⟩ bb sv=TT at *;obtain⟨⟨T',R'⟩,ep'⟩:=TT;dsimp only at HD4 HOK1 wK dF n7;have px:Below w4 w4 ((w4.alloc (.cells W_ 100)).setRow w4 (J0 T.XR T.XM ca cc ea ec pa pc T.WI ia T.items.length ic ta T.turns.length tc T.unknown)):=Z0 (Z' w4 _) (Zq _) _;have HC:Hid (Ws w ((w4.alloc (.cells W_ 100)).setRow w4 (J0 T.XR T.XM ca cc ea ec pa pc T.WI ia T.items.length ic ta T.turns.length tc T.unknown)) w (Jg (some ⟨g',off',none⟩) L.length vc av mv lv) av (XV L j) mv M lv (Zg L L.length j)):=(HBK3.o.frA mW.o HD3.o.apartB).below px;have HR:Hid (RO ((w4.alloc (.cells W_ 100)).setRow w4 (J0 T.XR T.XM ca cc ea ec pa pc T.WI ia T.items.length ic ta T.turns.length tc T.unknown)) g b w4 R' ep' (J0 T.XR T.XM ca cc ea ec pa pc T.WI ia T.items.length ic ta T.turns.length tc T.unknown) (.slice ta T.turns.length tc) T.turns ⟨T.XM,T.WI,.slice ca T.XM.Vs.length cc,.slice ea T.XM.ext.length ec,.slice pa T.XM.Zz.length pc⟩):=⟨HD4.o.below px,Row.below Ew.o px,EM.o.below px,setRow_heap _ _ _ _ _ _ hz7⟩;have HGE:Hid (w.heap.size≤g∧w.heap.size≤b):=Ab.o.kg.2
   have Sq:Hid (Below w w ((w4.alloc (.cells W_ 100)).setRow w4 (J0 T.XR T.XM ca cc ea ec pa pc T.WI ia T.items.length ic ta T.turns.length tc T.unknown))):=(((Fr.Z8 Pj wu.o).trans ⟨mW.o.os,mW.o.tape,mW.o.output,mW.o.size,fun k hk _=>mW.o.block k (Od hk wu.o.size) (by have:=HGE.o;omega)⟩).below).trans (px.mono (PJ wu.o.size mW.o.size));clear px hz7 HBK3 wu HD3 HD4 mW EM Ew CT Ad HTO SA WB;generalize((w4.alloc (.cells W_ 100)).setRow w4 (J0 T.XR T.XM ca cc ea ec pa pc T.WI ia T.items.length ic ta T.turns.length tc T.unknown))=w5 at *;generalize w4.heap.size=K at *;have HC:=Zh (HC.o.below (YE _ _).drew);have HR:=Zh (HR.o.below (YE _ _).drew);have Sq:=Zh Sq.o.drew
   have Zv:Hid (∀(w':World) c3,w'.heap[w.heap.size]?=some (.cells (Jg (some ⟨g',off',none⟩) L.length vc av mv c3) 116 (0,0))→w'.heap[K]?=some (.cells (J0 T.XR T.XM ca cc ea ec pa pc T.WI ia T.items.length ic ta T.turns.length tc T.unknown) 100 (0,0))→w'.cell? ⟨w,1,none⟩=some av∧w'.cell? ⟨w,2,none⟩=some mv∧w'.rangeAt K 0 (Jv T.XR)∧w'.rangeAt K 4 (Js T.XM ca cc ea ec pa pc T.WI)):=fun w' c3 h1 h2=>
    ⟨Zc h1 1 rfl,Zc h1 2 rfl,fun m v hm=>by
     have h:=(List.getElem?_eq_some_iff.1 hm).1;have h:m<4:=by simpa using h
     rw[cell_of h2 (0+m),PA];rcases m with _|_|_|_|m
     ·exact hm
     ·exact hm
     ·exact hm
     ·exact hm
     ·omega,fun m v hm=>by
     have h:=(List.getElem?_eq_some_iff.1 hm).1;have h:m<15:=by simpa using h
     rw[cell_of h2 (4+m)];rcases m with _|_|_|_|_|_|_|_|_|_|_|_|_|_|_|m
     all_goals first|exact hm|omega⟩
   go_upto_region 7 with fail
   go_cut [] (fun wx=>∃(na:Option Addr) (nc:Nat) (ma:Option Addr) (mc:Nat),Ws w wx w #[.slice (some ⟨g',off',none⟩) L.length vc,.slice na (j+1) nc,.slice ma (j+1) mc,lv] (.slice na (j+1) nc) (XV L j++[T.XR]) (.slice ma (j+1) mc) (M++[(⟨T.XM,T.WI,.slice ca T.XM.Vs.length cc,.slice ea T.XM.ext.length ec,.slice pa T.XM.Zz.length pc⟩:Tt)]) lv (Zg L L.length j)∧RO wx g b K R' ep' (J0 T.XR T.XM ca cc ea ec pa pc T.WI ia T.items.length ic ta T.turns.length tc T.unknown) (.slice ta T.turns.length tc) T.turns ⟨T.XM,T.WI,.slice ca T.XM.Vs.length cc,.slice ea T.XM.ext.length ec,.slice pa T.XM.Zz.length pc⟩∧Below w w wx)
   case first=>
    refine RX ?_;refine Zj (d:=20) (S:=(fun w'=>w'.cell? ⟨w,1,none⟩=some av∧w'.cell? ⟨w,2,none⟩=some mv∧w'.rangeAt K 0 (Jv T.XR)∧w'.rangeAt K 4 (Js T.XM ca cc ea ec pa pc T.WI))) X6 ?_ (fun _=>?_)
    ·exact Zv.o _ _ HC.o.Y8 HR.o.tk
    refine YP 0 (h:=YP 1 (h:=YP 2 (h:=YP 3 (h:=YP 4 (h:=YP 6 (h:=YP 10 (h:=YP 11 (h:=YP 12 (h:=YP 14 (h:=YK 5 (h:=?_)))))))))));refine Mr (i:=7) (v:=?_) rfl X6 X6 X6 X6 (fun _ _ _ h=>h) (WQ ⟨Zr,?_⟩) Sw ?_
    rotate_left
    ·intro w Ud
     (try dsimp only at Ud)
     refine(Xj 35 (.tmp 34) ?_ K 0 ?_ (Jv T.XR) _ Ud.2.2.1 underlying35 rfl X6).trans ?_;all_goals rfl
    try simp only[pt]
    refine YK 13 (h:=?_);refine Mr (i:=15) (v:=?_) rfl X6 X6 X6 X6 (fun _ _ _ h=>h) (WQ ⟨Zr,?_⟩) Sw ?_
    rotate_left
    ·intro w Ud
     (try dsimp only at Ud)
     refine(Xj 97 (.tmp 42) ?_ K 4 ?_ (Js T.XM ca cc ea ec pa pc T.WI) _ Ud.2.2.2 underlying97 rfl X6).trans ?_;all_goals rfl
    try simp only[pt]
    refine Tm (rs:=[8,16]) X6 Zi ?_;refine VX (i:=8) rfl (fun K hK=>?_) ?_
    ·skip
     refine W9 Zr NB (.tmp 35) Zr (Jv T.XR) Zr Zr Zd ?_;have HR8:Hid (Row (w5.drew.alloc (.cells (Jv T.XR) 35)) 35 (.slice (some ⟨w5.drew.heap.size,0,none⟩) 1 1) 1 ([T.XR].flatMap VF)):=Vw w5.drew 35 1 ([T.XR].flatMap VF) Zd;have UU:=Z' w5.drew (.cells (Jv T.XR) 35);have HC:=Zh (HC.o.below UU);have HR:=Zh (HR.o.below UU);have Sq:=Zh (Tr Sq UU);clear UU;refine YY hK _ _ ?_ (fun _=>?_)
     ·exact Zv.o _ _ HC.o.Y8 HR.o.tk
     clear hK K;try simp only[pt]
     refine Tm (rs:=[9,16]) X6 Zi ?_;refine VX (i:=9) rfl (fun K hK=>?_) ?_
     ·skip
      refine Y9 Zr (.tmp 33) (.tmp 36) 37 Zr w NB av (XV L j).length ((XV L j).flatMap VF) Zr HC.o.XR _ 1 ([T.XR].flatMap VF) Zr HR8.o rfl (UT fun x _=>Gw x) (by rw[XF];omega) (by rw[XF];omega) ?_ ?_
      ·exact Sq.o.size
      intro v9 w6 wJ nP;have gB:Hid (w6.ownsRow w 35 4 v9 (XV L j++[T.XR]).length ((XV L j++[T.XR]).flatMap VF)):=(by have h:=wJ.o;rw[UC,O7];exact h);obtain⟨na,nc,Na,-⟩:=Row.Z4 gB.o;rw[show(XV L j++[T.XR]).length=j+1 by rw[UC,XF];rfl]at Na;subst Na;have HFA:Hid (vH (w5.drew.alloc (.cells (Jv T.XR) 35)) (fun i=>av.ownBlock=some i)):=fun i hi=>(by obtain⟨cu,hc⟩:=V7 HC.o.XR i hi;exact⟨cu,_,_,hc,WG (WQ rfl)⟩)
      have HR:=Zh (HR.o.far (XN nP.o) HFA.o);have Sq:Hid (Below w w w6):=((Fr.Z8 Pj Sq.o).grown nP.o Sq.o.size (YG HC.o.XR)).below;have HC:=Zh (HC.o.B_ nP.o gB.o);refine YY hK _ _ ?_ (fun _=>?_)
      ·exact Zv.o _ _ HC.o.Y8 HR.o.tk
      clear hK K;try simp only[pt]
      refine YR 16 (h:=fun K hK=>?_);refine W9 Zr J5 (.tmp 43) Zr (Js T.XM ca cc ea ec pa pc T.WI) Zr Zr Zd ?_;have wL:Hid (Row (w6.alloc (.cells (Js T.XM ca cc ea ec pa pc T.WI) 97)) 97 (.slice (some ⟨w6,0,none⟩) 1 1) 1 ([(⟨T.XM,T.WI,.slice ca T.XM.Vs.length cc,.slice ea T.XM.ext.length ec,.slice pa T.XM.Zz.length pc⟩:Tt)].flatMap Xg)):=Vw w6 97 1 ([(⟨T.XM,T.WI,.slice ca T.XM.Vs.length cc,.slice ea T.XM.ext.length ec,.slice pa T.XM.Zz.length pc⟩:Tt)].flatMap Xg) Zd;have UU:=Z' w6 (.cells (Js T.XM ca cc ea ec pa pc T.WI) 97);have HC:=Zh (HC.o.below UU);have HR:=Zh (HR.o.below UU);have Sq:=Zh (Tr Sq UU);clear UU;refine YY hK _ _ ?_ (fun _=>?_)
      ·exact Zv.o _ _ HC.o.Y8 HR.o.tk
      clear hK K;try simp only[pt]
      refine YR 17 (h:=fun K hK=>?_);refine Y9 Zr (.tmp 41) (.tmp 44) 114 Zr w J5 mv M.length (M.flatMap Xg) Zr HC.o.Kp _ 1 ([(⟨T.XM,T.WI,.slice ca T.XM.Vs.length cc,.slice ea T.XM.ext.length ec,.slice pa T.XM.Zz.length pc⟩:Tt)].flatMap Xg) Zr wL.o rfl CX (by rw[vM.o];omega) (by rw[vM.o];omega) ?_ ?_
      ·exact Sq.o.size
      intro v17 w7 HO17 zU;have EL:Hid (w7.ownsRow w 97 15 v17 (M++[(⟨T.XM,T.WI,.slice ca T.XM.Vs.length cc,.slice ea T.XM.ext.length ec,.slice pa T.XM.Zz.length pc⟩:Tt)]).length ((M++[(⟨T.XM,T.WI,.slice ca T.XM.Vs.length cc,.slice ea T.XM.ext.length ec,.slice pa T.XM.Zz.length pc⟩:Tt)]).flatMap Xg)):=(by have h:=HO17.o;rw[UC,O7];exact h);obtain⟨ma,mc,kJ,-⟩:=Row.Z4 EL.o;rw[show(M++[(⟨T.XM,T.WI,.slice ca T.XM.Vs.length cc,.slice ea T.XM.ext.length ec,.slice pa T.XM.Zz.length pc⟩:Tt)]).length=j+1 by rw[UC,vM.o];rfl]at kJ;subst kJ;have HEA:Hid (∀x∈M++[(⟨T.XM,T.WI,.slice ca T.XM.Vs.length cc,.slice ea T.XM.ext.length ec,.slice pa T.XM.Zz.length pc⟩:Tt)],Vp w7 x.p x.cv x.ev x.pv):=fun x hx=>Yo12
      have HFM:Hid (vH (w6.alloc (.cells (Js T.XM ca cc ea ec pa pc T.WI) 97)) (fun i=>mv.ownBlock=some i)):=fun i hi=>(by obtain⟨cu,hc⟩:=V7 HC.o.Kp i hi;exact⟨cu,_,_,hc,WG (WG (WQ rfl))⟩)
      have HR:=Zh (HR.o.far (XN zU.o) HFM.o);have Sq:Hid (Below w w w7):=((Fr.Z8 Pj Sq.o).grown zU.o Sq.o.size (YG HC.o.Kp)).below;have HC:=Zh (HC.o.bJ zU.o EL.o HEA.o);obtain⟨b0,b1,b2,b3,b4⟩:=HC.o.cells;have b41:=b4 1;have b42:=b4 2;refine YY hK _ _ ?_ (fun _=>?_)
      ·exact Zv.o _ _ HC.o.Y8 HR.o.tk
      clear hK K;try simp only[pt]
      refine YP 18 (h:=YP 19 (h:=?_));refine YR 20 (h:=fun K hK=>?_);go_simp;have HFK:Hid (vH w7 (· = w.heap.size)):=fun i hi=>dN
      have HR:=Zh (HR.o.far (w':=w7.setCell ⟨w,1,none⟩ (.slice na (j+1) nc)) ((Fr.refl _ _ _).setAt _ _) HFK.o);have Sq:Hid (Below w w (w7.setCell ⟨w,1,none⟩ (.slice na (j+1) nc))):=((Fr.Z8 Pj Sq.o).setCell (p:=⟨w,1,none⟩) (WQ (Zq _)) _).below;have HC:=Zh (HC.o.F_ 1 (.slice na (j+1) nc));obtain⟨d0,d1,d2,d3,d4⟩:=HC.o.cells;have d42:=d4 2;refine Ye hK _ _ X6 ?_;clear hK K;try simp only[pt]
      refine YP 21 (h:=YP 22 (h:=?_));refine YR 23 (h:=fun K hK=>?_);go_simp;have HFK:Hid (vH (w7.setCell ⟨w,1,none⟩ (.slice na (j+1) nc)) (· = w.heap.size)):=fun i hi=>dN
      have HR:=Zh (HR.o.far (w':=(w7.setCell ⟨w,1,none⟩ (.slice na (j+1) nc)).setCell ⟨w,2,none⟩ (.slice ma (j+1) mc)) ((Fr.refl _ _ _).setAt _ _) HFK.o);have Sq:Hid (Below w w ((w7.setCell ⟨w,1,none⟩ (.slice na (j+1) nc)).setCell ⟨w,2,none⟩ (.slice ma (j+1) mc))):=((Fr.Z8 Pj Sq.o).setCell (p:=⟨w,2,none⟩) (WQ (Zq _)) _).below;have HC:=Zh (HC.o.F_ 2 (.slice ma (j+1) mc));refine Ye hK _ _ X6 ?_;clear hK K;try simp only[pt]
      refine Yt X6 ?_ _;refine QP ?_;go_wp2_with fail
      go_meet;exact⟨na,nc,ma,mc,HC.o,HR.o,Sq.o⟩
     refine VX (i:=16) rfl (fun K hK=>?_) PS;refine W9 Zr J5 (.tmp 43) Zr (Js T.XM ca cc ea ec pa pc T.WI) Zr Zr Zd ?_;have wL:Hid (Row ((w5.drew.alloc (.cells (Jv T.XR) 35)).alloc (.cells (Js T.XM ca cc ea ec pa pc T.WI) 97)) 97 (.slice (some ⟨(w5.drew.alloc (.cells (Jv T.XR) 35)).heap.size,0,none⟩) 1 1) 1 ([(⟨T.XM,T.WI,.slice ca T.XM.Vs.length cc,.slice ea T.XM.ext.length ec,.slice pa T.XM.Zz.length pc⟩:Tt)].flatMap Xg)):=Vw (w5.drew.alloc (.cells (Jv T.XR) 35)) 97 1 ([(⟨T.XM,T.WI,.slice ca T.XM.Vs.length cc,.slice ea T.XM.ext.length ec,.slice pa T.XM.Zz.length pc⟩:Tt)].flatMap Xg) Zd;have UU:=Z' (w5.drew.alloc (.cells (Jv T.XR) 35)) (.cells (Js T.XM ca cc ea ec pa pc T.WI) 97);have HC:=Zh (HC.o.below UU);have HR:=Zh (HR.o.below UU);have Sq:=Zh (Tr Sq UU);have HR8:=Zh (Row.below HR8.o UU);clear UU;refine YY hK _ _ ?_ (fun _=>?_)
     ·exact Zv.o _ _ HC.o.Y8 HR.o.tk
     clear hK K;try simp only[pt]
     refine YR 9 (h:=fun K hK=>?_);refine Y9 Zr (.tmp 33) (.tmp 36) 37 Zr w NB av (XV L j).length ((XV L j).flatMap VF) Zr HC.o.XR _ 1 ([T.XR].flatMap VF) Zr HR8.o rfl (UT fun x _=>Gw x) (by rw[XF];omega) (by rw[XF];omega) ?_ ?_
     ·exact Sq.o.size
     intro v9 w6 wJ nP;have gB:Hid (w6.ownsRow w 35 4 v9 (XV L j++[T.XR]).length ((XV L j++[T.XR]).flatMap VF)):=(by have h:=wJ.o;rw[UC,O7];exact h);obtain⟨na,nc,Na,-⟩:=Row.Z4 gB.o;rw[show(XV L j++[T.XR]).length=j+1 by rw[UC,XF];rfl]at Na;subst Na;have HFA:Hid (vH ((w5.drew.alloc (.cells (Jv T.XR) 35)).alloc (.cells (Js T.XM ca cc ea ec pa pc T.WI) 97)) (fun i=>av.ownBlock=some i)):=fun i hi=>(by obtain⟨cu,hc⟩:=V7 HC.o.XR i hi;exact⟨cu,_,_,hc,WG (WQ rfl)⟩)
     exact Yx13
    refine VX (i:=16) rfl (fun K hK=>?_) PS;refine W9 Zr J5 (.tmp 43) Zr (Js T.XM ca cc ea ec pa pc T.WI) Zr Zr Zd ?_;have wL:Hid (Row (w5.drew.alloc (.cells (Js T.XM ca cc ea ec pa pc T.WI) 97)) 97 (.slice (some ⟨w5.drew.heap.size,0,none⟩) 1 1) 1 ([(⟨T.XM,T.WI,.slice ca T.XM.Vs.length cc,.slice ea T.XM.ext.length ec,.slice pa T.XM.Zz.length pc⟩:Tt)].flatMap Xg)):=Vw w5.drew 97 1 ([(⟨T.XM,T.WI,.slice ca T.XM.Vs.length cc,.slice ea T.XM.ext.length ec,.slice pa T.XM.Zz.length pc⟩:Tt)].flatMap Xg) Zd;have UU:=Z' w5.drew (.cells (Js T.XM ca cc ea ec pa pc T.WI) 97);have HC:=Zh (HC.o.below UU);have HR:=Zh (HR.o.below UU);have Sq:=Zh (Tr Sq UU);clear UU;refine YY hK _ _ ?_ (fun _=>?_)
    ·exact Zv.o _ _ HC.o.Y8 HR.o.tk
    clear hK K;try simp only[pt]
    refine YR 8 (h:=fun K hK=>?_);refine W9 Zr NB (.tmp 35) Zr (Jv T.XR) Zr Zr Zd ?_;have HR8:Hid (Row ((w5.drew.alloc (.cells (Js T.XM ca cc ea ec pa pc T.WI) 97)).alloc (.cells (Jv T.XR) 35)) 35 (.slice (some ⟨(w5.drew.alloc (.cells (Js T.XM ca cc ea ec pa pc T.WI) 97)).heap.size,0,none⟩) 1 1) 1 ([T.XR].flatMap VF)):=Vw (w5.drew.alloc (.cells (Js T.XM ca cc ea ec pa pc T.WI) 97)) 35 1 ([T.XR].flatMap VF) Zd;have UU:=Z' (w5.drew.alloc (.cells (Js T.XM ca cc ea ec pa pc T.WI) 97)) (.cells (Jv T.XR) 35);have HC:=Zh (HC.o.below UU);have HR:=Zh (HR.o.below UU);have Sq:=Zh (Tr Sq UU);have wL:=Zh (Row.below wL.o UU);clear UU;refine YY hK _ _ ?_ (fun _=>?_)
    ·exact Zv.o _ _ HC.o.Y8 HR.o.tk
    clear hK K;try simp only[pt]
    refine YR 9 (h:=fun K hK=>?_);refine Y9 Zr (.tmp 33) (.tmp 36) 37 Zr w NB av (XV L j).length ((XV L j).flatMap VF) Zr HC.o.XR _ 1 ([T.XR].flatMap VF) Zr HR8.o rfl (UT fun x _=>Gw x) (by rw[XF];omega) (by rw[XF];omega) ?_ ?_
    ·exact Sq.o.size
    intro v9 w6 wJ nP;have gB:Hid (w6.ownsRow w 35 4 v9 (XV L j++[T.XR]).length ((XV L j++[T.XR]).flatMap VF)):=(by have h:=wJ.o;rw[UC,O7];exact h);obtain⟨na,nc,Na,-⟩:=Row.Z4 gB.o;rw[show(XV L j++[T.XR]).length=j+1 by rw[UC,XF];rfl]at Na;subst Na;have HFA:Hid (vH ((w5.drew.alloc (.cells (Js T.XM ca cc ea ec pa pc T.WI) 97)).alloc (.cells (Jv T.XR) 35)) (fun i=>av.ownBlock=some i)):=fun i hi=>(by obtain⟨cu,hc⟩:=V7 HC.o.XR i hi;exact⟨cu,_,_,hc,WG (WQ rfl)⟩)
    exact Yx13
   case rest=>
    obtain⟨w9,rfl⟩:∃W:World,W=wc:=⟨_,rfl⟩;obtain⟨na,nc,ma,mc,hbk9,hro9,bT⟩:=hcut;have HC:=Zh hbk9;have HR:=Zh hro9;have Sq:=Zh bT;have k20:=cell_of hro9.tk 20;simp only[Ss,R_,Rw]at k20;clear hbk9 hro9 bT Zv;go_wp2_with fail
    go_loopw [53] (fun s53 w'=>∃(i:Nat) (A5:Value),i≤T.turns.length∧s53 = .int .i64 (i:Int)∧Ws w w' w #[.slice (some ⟨g',off',none⟩) L.length vc,.slice na (j+1) nc,.slice ma (j+1) mc,A5] (.slice na (j+1) nc) (XV L j++[T.XR]) (.slice ma (j+1) mc) (M++[(⟨T.XM,T.WI,.slice ca T.XM.Vs.length cc,.slice ea T.XM.ext.length ec,.slice pa T.XM.Zz.length pc⟩:Tt)]) A5 (W8 L.length j (Zg L L.length j) (T.turns.take i))∧RO w' g b K R' ep' (J0 T.XR T.XM ca cc ea ec pa pc T.WI ia T.items.length ic ta T.turns.length tc T.unknown) (.slice ta T.turns.length tc) T.turns ⟨T.XM,T.WI,.slice ca T.XM.Vs.length cc,.slice ea T.XM.ext.length ec,.slice pa T.XM.Zz.length pc⟩∧Below w w w') (fun s53 _=>T.turns.length-(intOf s53).toNat)
    case atStart=>exact⟨0,lv,Zo,rfl,HC.o,HR.o,Sq.o⟩
    case round=>
     obtain⟨i,A5,hi,rfl,gS,hro,Xp⟩:=hrel;have Gu:=Zh gS;have rh:=Zh hro;have wq:=Zh Xp;clear HC HR Sq k20;by_cases kB:i<T.turns.length
     ·obtain⟨g5,off5,e5,V5⟩:=UI Z7 5 (fun _=>rfl) hro.turns Zo;cases e5;have ht:T.turns[i]?=some T.turns[i]:=U' kB;have V5:=V5 i _ ht;have JO:=Zh (QD ht);generalize T.turns[i]=t at *;have Lc:=Zh (A3 L.length j (Zg L L.length j) (T.turns.take i) t);have hlen:=MN L.length j (T.turns.take i) (Zg L L.length j);rw[SC]at hlen;have MF:=HLL.o;have hlen3:=HTL.o;have Nk:wr.rangeAt g5 (off5+i*5) (Jz t):=fun m v hm=>(V5 m jl).trans hm
      have hiI:(i:Int)<(T.turns.length:Int):=PM.2 kB;have hz:=Z9 wr (.cells (Qh 0 0 0 0 0) 158);have SA:=setRow_heap _ _ _ (Jz t) _ _ hz;have WB:Hid (Below wr wr ((wr.alloc (.cells (Qh 0 0 0 0 0) 158)).setRow wr (Jz t))):=Z0 (Z' wr _) (Zq _) _;have nO:=Zh (Gu.o.below WB.o);have wM:=Zh (rh.o.below WB.o);have wu:=Zh (Tr wq WB.o);clear gS hro Xp V5 Gu rh WB;go_upto_region 11 with(first|with_reducible refine Zm Nk underlying158 ?_|(with_reducible refine Zs (cells:=(Jz t)) hz ?_))
      clear hz Nk;generalize((wr.alloc (.cells (Qh 0 0 0 0 0) 158)).setRow wr (Jz t))=TL at *;have CB:=Zh (nK w w.heap.size _ _ _ _ _ _ _ _ _ (j:Int) t TL nO.o wu.o.size Zo);go_wp2_with (first|with_reducible refine Zl SA underlying158 ?_|(go_at_call 85;refine CB.o.mono ?_;rintro e Gl ⟨rfl,lv2,hbk2,tT⟩;have cS:=Zh hbk2;have wE:=Zh tT;clear hbk2 tT))
      have hfar:vH TL (fun m=>m=w.heap.size∨A5.ownBlock=some m):=fun m hm=>by
       rcases hm with rfl|hm
       ·exact⟨_,_,_,nO.o.Y8,WQ rfl⟩
       ·obtain⟨cu,hc⟩:=V7 nO.o.P6 m hm;exact⟨cu,_,_,hc,WG (WG (WG rfl))⟩
      have HR4:=Zh (wM.o.far wE.o hfar)
      have hbf:Below w TL Gl:=(wE.o.mono wu.o.size (S':=Pj) (fun m hm hs=>by
       rcases hs with rfl|hs
       ·exact absurd hm (Nat.lt_irrefl _)
       ·have:=YG nO.o.P6 m hs;omega)).below
      have HBL4:=Zh (wu.o.trans hbf);clear hfar hbf CB;go_roundw
      case rel=>exact⟨i+1,lv2,Zo,Zn,by rw[JO.o,Lc.o];exact cS.o,HR4.o,HBL4.o⟩
      case measure=>simp[intOf];omega
     ·have hT:T.turns.take i=T.turns:=Ex Zo;rw[hT]at Gu;clear gS hro Xp hT;go_wp2;go_roundw
      case rel=>
       refine⟨j+1,.slice na (j+1) nc,.slice ma (j+1) mc,A5,M++[(⟨T.XM,T.WI,.slice ca T.XM.Vs.length cc,.slice ea T.XM.ext.length ec,.slice pa T.XM.Zz.length pc⟩:Tt)],R',ep',Zo,Zn,⟨wq.o,?_,?_,rh.o.TJ,HOK1.o,wK.o,dF.o,n7.o,Ab.o.kg⟩⟩
       ·rw[HA1.o,EJ.o];exact Gu.o
       ·rw[gI.o,Ng,Ab.o.meds];rfl
      case measure=>simp[intOf];omega
  ·have K6:j=L.length:=by omega
   subst K6;have HOE:=Zh (HO.o.below Ab.o.Za);clear Ty;go_wp2;go_ret;exact⟨_,g,b,_,av,mv,lv,M,R,ep,rfl,HOE.o,Ab.o⟩
structure VB(w:World)(V k:Nat)(ov av mv lv:Value)(L:List WR)(x:Zt)(wv cv qv:Value):Prop where
 book:w.heap[k]?=some (.cells #[ov,av,mv,lv] 116 (0,0))
 ops:Wu w ov L
 XR:Row w 35 av L.length ((XV L L.length).flatMap VF)
 Kp:∃M:List Tt,Row w 97 mv M.length (M.flatMap Xg)∧(∀y∈M,Vp w y.p y.cv y.ev y.pv)∧M.map (fun y=>(y.p,y.d))=NR L L.length
 view:w.heap[V]?=some (.cells (Q8 (some ⟨k,0,none⟩) x.peer x.source x.Mx x.fin wv cv qv) 164 (0,0))
structure aK(w:World)(wv cv qv:Value)(j:Nat)(s:VS):Prop where
 want:∃g o n c,wv = .slice (some ⟨g,o,none⟩) n c∧j<n∧w.cell? ⟨g,o+j,none⟩=some (.int .i64 s.want)
 cur:∃g o n c,cv = .slice (some ⟨g,o,none⟩) n c∧j<n∧w.cell? ⟨g,o+j,none⟩=some (.int .i64 s.cur)
 quiet:∃g o n c,qv = .slice (some ⟨g,o,none⟩) n c∧j<n∧w.cell? ⟨g,o+j,none⟩=some (.bool s.quiet)
def Wj(l:List Int):List Value:=l.map fun z=> .int .i64 z
def UR(l:List Bool):List Value:=l.map fun z=> .bool z
structure Nq(w:World)(wv cv qv:Value)(SS:List VS):Prop where
 want:Row w 3 wv SS.length (Wj (SS.map VS.want))
 cur:Row w 3 cv SS.length (Wj (SS.map VS.cur))
 quiet:Row w 4 qv SS.length (UR (SS.map VS.quiet))
def F7{w:World}{e:TypeId}{v:Value}{n:Nat}{xs:List Value}(h:Row w e v n xs){j:Nat}{u:Value}(hu:xs[j]?=some u)(hj:j<n):∃g o n' c,v = .slice (some ⟨g,o,none⟩) n' c∧j<n'∧w.cell? ⟨g,o+j,none⟩=some u:=by
 have hl:j<xs.length:=(List.getElem?_eq_some_iff.1 hu).1;obtain⟨g,off,cap,h1,h2,h3,h4,h5⟩:=Row.open h Zo;exact⟨g,off,n,cap,h1,hj,(h5 j hl).trans hu⟩
def Nq.at{w:World}{wv cv qv:Value}{SS:List VS}(h:Nq w wv cv qv SS){j:Nat}{s:VS}(hs:SS[j]?=some s):aK w wv cv qv j s:=by
 have hl:j<SS.length:=(List.getElem?_eq_some_iff.1 hs).1;exact⟨F7 h.want (by simp[Wj,hs]) hl,F7 h.cur (by simp[Wj,hs]) hl,F7 h.quiet (by simp[UR,hs]) hl⟩
section
variable {w w':World} {V k:Nat} {ov av mv lv:Value} {L:List WR} {x:Zt} {wv cv qv:Value}
def VB.below(h:VB w V k ov av mv lv L x wv cv qv)(hb:Below w w w'):VB w' V k ov av mv lv L x wv cv qv:=by
 obtain⟨M,m1,m0,m2⟩:=h.Kp;exact⟨(hb.block _ (ZY h.book)).trans h.book,h.ops.below hb,Row.below h.XR hb,⟨M,Row.below m1 hb,fun y hy=>(m0 y hy).below hb,m2⟩,(hb.block _ (ZY h.view)).trans h.view⟩
def Nq.below{SS:List VS}(h:Nq w wv cv qv SS)(hb:Below w w w'):Nq w' wv cv qv SS:=⟨Row.below h.want hb,Row.below h.cur hb,Row.below h.quiet hb⟩
def ZM{g o:Nat}{u:Value}(h:w.cell? ⟨g,o,none⟩=some u)(hb:Below w w w'):w'.cell? ⟨g,o,none⟩=some u:=by
 have hg:g<w.heap.size:=by
  rcases Nat.lt_or_ge g w with h1|h1
  ·exact h1
  ·simp only[World.cell?,DT h1]at h;cases h
 exact(hb.cell (p:=⟨g,o,none⟩) hg).trans h
def aK.below{j:Nat}{s:VS}(h:aK w wv cv qv j s)(hb:Below w w w'):aK w' wv cv qv j s:=by
 obtain⟨⟨g1,o1,n1,c1,a1,b1,d1⟩,⟨g2,o2,n2,c2,a2,b2,d2⟩,⟨g3,o3,n3,c3,a3,b3,d3⟩⟩:=h;exact⟨⟨g1,o1,n1,c1,a1,b1,ZM d1 hb⟩,⟨g2,o2,n2,c2,a2,b2,ZM d2 hb⟩,⟨g3,o3,n3,c3,a3,b3,ZM d3 hb⟩⟩
def lZ(h:Wu w ov L){j:Nat}(hj:j<L.length):∃g o c nm a1 n1 c1 a2 n2 c2,ov = .slice (some ⟨g,o,none⟩) L.length c ∧
  w.rangeAt g (o+j*7) (Qa (opAt L j).kind (opAt L j).peer (opAt L j).source (opAt L j).ZC nm a1 n1 c1 a2 n2 c2):=by
 obtain⟨va,vc,rfl,-,-⟩:=h.form;obtain⟨g,o,cap,e1,-,-,-,V5⟩:=KG (fun y:WR=>XD y.x) 7 (fun _=>rfl) Zo h.row Zo;cases e1;have hy:L[j]?=some L[j]:=U' hj;have V5:=V5 j _ hy;have e2:opAt L j=L[j].x.o:=by unfold opAt;rw[hy]
 rw[e2];exact⟨g,o,_,_,_,_,_,_,_,_,rfl,fun m v hm=>(V5 m jl).trans hm⟩
def rD{n:Nat}(h:Row w 35 av n ((XV L n).flatMap VF)){j:Nat}(hj:j<n):∃g o c,av = .slice (some ⟨g,o,none⟩) n c ∧
  w.rangeAt g (o+j*4) (Qb (Z6 L j).XR.kind (Z6 L j).XR.source (Z6 L j).XR.Nt (Z6 L j).XR.err):=by
 obtain⟨a,c,rfl⟩:=Row.form h;obtain⟨g,o,e,h2⟩:=UI VF 4 (fun _=>rfl) h (by rw[XF];omega);cases e;have hx:(XV L n)[j]?=some (Z6 L j).XR:=by unfold XV;rw[List.getElem?_map,List.getElem?_range hj];rfl
 exact⟨g,o,c,rfl,fun m v hm=>(h2 j _ hx m jl).trans hm⟩
def I1(h:VB w V k ov av mv lv L x wv cv qv){j:Nat}(hj:j<L.length):∃g o c a1 n1 c1 a2 n2 c2 a3 n3 c3,mv = .slice (some ⟨g,o,none⟩) L.length c ∧
  w.rangeAt g (o+j*15) (VT (Z6 L j).XM (Z6 L j).WI (.slice a1 n1 c1) (.slice a2 n2 c2) (.slice a3 n3 c3)):=by
 obtain⟨M,m1,m0,m2⟩:=h.Kp;have hl:M.length=L.length:=by have h1:=congrArg List.length m2;rwa[Te,FN]at h1
 rw[hl]at m1;obtain⟨a,c,rfl⟩:=Row.form m1;obtain⟨g,o,e,h2⟩:=UI Xg 15 (fun _=>rfl) m1 Zo;cases e;have hj':j<M.length:=by omega
 have hx:M[j]?=some M[j]:=U' hj'
 have he:(M[j].p,M[j].d)=((Z6 L j).XM,(Z6 L j).WI):=by
  have h3:=congrArg (fun l=>l[j]?) m2;try dsimp only at h3
  rw[List.getElem?_map,hx]at h3;unfold NR at h3;rw[List.getElem?_map,List.getElem?_range hj]at h3;exact Option.some.inj h3
 injection he with e1 e2
 have V5:=h2 j _ hx;have hp:=m0 M[j] (O6 hj');generalize M[j]=y at *;obtain⟨p,d,cv',ev',pv'⟩:=y;obtain⟨⟨a1,c1,q1⟩,⟨a2,c2,q2⟩,⟨a3,c3,q3⟩⟩:=hp.form;dsimp only at q1 q2 q3 e1 e2;subst q1;subst q2;subst q3;subst e1;subst e2;exact⟨g,o,c,a1,_,c1,a2,_,c2,a3,_,c3,rfl,fun m v hm=>(V5 m (by have h:=(List.getElem?_eq_some_iff.1 hm).1;simpa[VT]using h)).trans hm⟩
end
def Dl{w:World}{g o:Nat}{xs ys:List Value}(h:w.rangeAt g o xs)(i:Nat)(hy:∀m v,ys[m]?=some v→xs[i+m]?=some v):w.rangeAt g (o+i) ys:=fun m v hm=>by rw[Nat.add_assoc];exact h (i+m) v (hy m v hm)
def Ob(V:Nat)(p s b f:Int)(wv cv qv bv:Value)(w:World)(h:w.heap[V]?=some (.cells #[bv,.int .i64 p,.int .i64 s,.int .i64 b,.int .i64 f,wv,cv,qv] 164 (0,0)))(at':Int) :
  Calls prog 115 (Qk (some ⟨V,0,none⟩) at') w fun e w'=>e = .returned (.bool (Wk ⟨p,s,b,f⟩ at'))∧w=w':=by
 have c3:w.cell? ⟨V,3,none⟩=some (.int .i64 b):=Zc h 3 rfl;have c4:w.cell? ⟨V,4,none⟩=some (.int .i64 f):=Zc h 4 rfl;have HX:Hid (Wk ⟨p,s,b,f⟩ at'=(decide (b<at')&&decide (at'<f))):=rfl;generalize Wk ⟨p,s,b,f⟩ at'=X at *;clear h;by_cases h1:b<at'
 ·have d1:decide (b<at')=true:=WV h1;go_enter func115,ntmps115;go_wp2_with fail
  go_ret;exact⟨by rw[HX.o,d1];rfl,rfl⟩
 ·have d1:decide (b<at')=false:=WH h1;go_enter func115,ntmps115;go_wp2_with fail
  go_ret;exact⟨by rw[HX.o,d1];rfl,rfl⟩
def Ux{P:Program}{fn:Func}{p u:Tmp}{ty:TypeId}(h:fn.results=#[.cell p ty,.tmp u])(tmps:Array Value)(w:World)(g:Nat)(t:TypeId)(cs:Array Value)(fr:Nat×Nat)(d:TypeDesc)
  (hp:tmps.getD p undef = .pointer (some ⟨g,0,none⟩)) (hg:w.heap[g]?=some (.cells cs t fr))
  (hu:P.underlying ty=some d) (hd:(match d with | .struct _ | .array _ _=>true|_=>false)=true) (hi:(P.info? ty).map (·.size)=some cs.size) :
  (results fn tmps).run P w = .ok (.tuple #[.agg cs,tmps.getD u undef]) w:=by
 exact Yt4
def jS{x:Nat}(h:x<256):(Rf (x%4) (decide (128≤x)) (decide (x/64%2=1))=x)↔x/4%16=0:=by
 unfold Rf;by_cases h1:128≤x <;> by_cases h2:x/64%2=1 <;> simp[h1,h2] <;> omega
def qO{b:List UInt8}(h:4≤b.length):b.take 4=[UInt8.ofNat (at8 b 0),UInt8.ofNat (at8 b 1),UInt8.ofNat (at8 b 2),UInt8.ofNat (at8 b 3)]:=by
 match b,h with
 | x0 :: x1 :: x2 :: x3 :: t,_=>simp[at8]
def jZ{b:List UInt8}(h:4≤b.length):get b 2 2=at8 b 2*256+at8 b 3:=by
 match b,h with
 | x0 :: x1 :: x2 :: x3 :: t,_=>
  have hw:within (x0 :: x1 :: x2 :: x3 :: t).length 2 2=true:=within_iff.2 ⟨by decide,by decide,by decide,by simp;omega⟩;unfold get;rw[ZU hw];simp[be,at8]
def E2{w:World}{v:Value}{l:List UInt8}(h:XU w v l)(hl:0<l.length):(convert 30 9 v).run prog w = .ok (.string (str l)) w:=by
 obtain⟨g,off,cap,e,_,_,hc⟩:=Al h hl;subst e
 exact run_convert_bytes_back w _ _ 5 ⟨g,off,none⟩ cap l underlying30 underlying5 underlying9 (fun j hj=>by
  have e:(⟨g,off,none⟩:Addr).add j=⟨g,off+j,none⟩:=by unfold Addr.add;split <;> simp_all
  rw[e];exact hc j hj)
def Bc(v:Value)(b:List UInt8)(w:World)(hv:XU w v b) :
  Calls prog 95 #[v] w fun e w'=>e = .returned (.tuple (Qo (Qd (Yu b).1.ZC (Yu b).1.key (Yu b).1.start (Yu b).1.frame) (Yu b).2))∧Below w w w':=by
 have HV:Hid (∀w',Below w w w'→XU w' v b):=fun w' h=>hv.below h
 have HE:Hid (Yu b=if b.length<4 then(S_,2)else if at8 b 0/4%16≠0∨at8 b 0%4=3∨at8 b 1≠90 then(S_,1)else(⟨(at8 b 0%4:Nat),decide (128≤at8 b 0),decide (at8 b 0/64%2=1),get b 2 2⟩,0)):=rfl
 obtain⟨a,c,rfl,Rt,tS⟩:∃a c,v = .slice a b.length c∧b.length≤c∧c≤maxLen:=by
  obtain⟨a,c,h1,h2,h3,_⟩:=id hv;exact⟨a,c,h1,h2,h3⟩
 clear hv;have T6:=Z' w (.cells (Qd 0 false false 0) 81);have hz:=Z9 w (.cells (Qd 0 false false 0) 81);generalize hX:Yu b=X at *;by_cases h1:b.length<4
 ·obtain rfl:X=(S_,2):=by rw[HE.o,ZU h1]
  clear HE HV hX;have l1:decide ((b.length:Int)<4)=true:=WV Zo;go_enter func95,ntmps95;go_wp2;exact Vr (v:= .tuple (Qo (Qd 0 false false 0) 2)) (by simp[results,results95,go_sem]) rfl ⟨rfl,T6⟩
 obtain⟨g,off,cap,e1,_,_,hc⟩:=Rk (HV.o w (YE _ _)) Zo;cases e1;have HC:=Zh hc;have r0:=Xd b 0;have r1:=Xd b 1;have r2:=Xd b 2;have r3:=Xd b 3;have l1:decide ((b.length:Int)<4)=false:=WH Zo;have i0:(0:Int)<(b.length:Int):=by omega
 have i2:(2:Int)<(b.length:Int):=by omega
 have i3:(3:Int)<(b.length:Int):=by omega
 have ky:get b 2 2=at8 b 2*256+at8 b 3:=jZ Zo;obtain⟨vs,Uf,-,Fw⟩:=RT (P:=prog) Vt (some ⟨g,off,none⟩) b.length c 4 Zo;have hs4:∀w,(Instr.slice 30 (.slice (some ⟨g,off,none⟩) b.length c) none (some (.int .i64 4)) none).run prog w = .ok (.slice vs 4 c) w:=Uf;have S0:b.take 4=[UInt8.ofNat (at8 b 0),UInt8.ofNat (at8 b 1),UInt8.ofNat (at8 b 2),UInt8.ofNat (at8 b 3)]:=qO Zo
 have U5:Hid (∀w',Below w w w'→XU w' (.slice vs 4 c) (b.take 4)):=fun w' h=>by
  have h2:=Fw w' (Re b) Zo (by rw[Xa,Nat.mul_one]) (HV.o w' h);rw[Nat.mul_one,Oh]at h2;have h3:(b.take 4).length=4:=by rw[SC];omega
  show XG w' _ _ _;rw[h3];exact h2
 rw[S0]at U5;have c0:=hc 0 Zo;have c2:=hc 2 Zo;have c3:=hc 3 Zo;rw[bG]at c0;rw[Z3 h1,ky]at HE;clear ky Uf Fw hc HC hX HV S0;generalize at8 b 0=x0 at *;generalize at8 b 1=x1 at *;generalize at8 b 2=x2 at *;generalize at8 b 3=x3 at *;have q0:IntKind.u16.wrap ((x2:Int)*256)=(x2:Int)*256:=by rw[IntKind.wrap_u16];omega
 have q2:IntKind.u16.wrap (x2:Int)=(x2:Int):=by rw[IntKind.wrap_u16];omega
 have q3:IntKind.u16.wrap (x3:Int)=(x3:Int):=by rw[IntKind.wrap_u16];omega
 obtain⟨fr,Wb⟩:∃f:Nat,f=x2*256+x3:=⟨_,rfl⟩;obtain⟨ly,gW⟩:∃l:Nat,l=x0%4:=⟨_,rfl⟩;obtain⟨ke,Ru⟩:∃k:Bool,k=decide (128≤x0):=⟨_,rfl⟩;obtain⟨st,H_⟩:∃k:Bool,k=decide (x0/64%2=1):=⟨_,rfl⟩;have p1:(x0:Int).tmod 4=(ly:Int):=by rw[Int.tmod_eq_emod_of_nonneg Zo];omega
 have p1b:IntKind.i64.wrap (ly:Int)=(ly:Int):=SZ _ Zo;have p2:decide ((128:Int)≤(x0:Int))=ke:=by rw[Ru,Bool.eq_iff_iff,Su,Su];omega
 have p2b:decide (128≤x0)=ke:=Ru.symm;obtain⟨y,hy⟩:∃y:Nat,y=x0/64:=⟨_,rfl⟩;have p3:IntKind.u8.wrap ((x0:Int)/64)=(y:Int):=by rw[IntKind.wrap_u8];omega
 have p4:((y:Int).tmod 2==1)=st:=by rw[H_,Bool.eq_iff_iff,beq_iff_eq,Su,Int.tmod_eq_emod_of_nonneg Zo];omega
 have p6:IntKind.u16.wrap (fr:Int)=(fr:Int):=by rw[IntKind.wrap_u16];omega
 have p5:(x2:Int)*256+(x3:Int)=(fr:Int):=by omega
 rw[←Wb]at HE;rw[←gW,←Ru,←H_]at HE;have HL:Hid (fr=x2*256+x3∧ly=x0%4∧ke=decide (128≤x0)∧st=decide (x0/64%2=1)):=⟨Wb,gW,Ru,H_⟩;have hly4:ly<4:=by omega
 have hfr6:fr<65536:=by omega
 clear Wb gW Ru H_ hy;have Zv:Hid (∀w',Below w w w'→w'.cell? ⟨g,off,none⟩=some (.int .u8 (x0:Int))∧w'.cell? ⟨g,off+2,none⟩=some (.int .u8 (x2:Int))∧w'.cell? ⟨g,off+3,none⟩=some (.int .u8 (x3:Int))):=fun w' h=>⟨ZM c0 h,ZM c2 h,ZM c3 h⟩
 have n0:0<b.length:=by omega
 have n1:¬b.length=0:=by omega
 have n2:2<b.length:=by omega
 have n3:3<b.length:=by omega
 have n4:4≤b.length:=by omega
 clear h1;generalize b.length=N at *;have GV:=Zh T6;have HZ1:=Zh hz;clear c0 c2 c3 T6 hz;go_enter func95,ntmps95;go_upto_region 3 with fail
 generalize w.alloc (.cells (Qd 0 false false 0) 81)=w1 at *;have jb:Hid (∀w',Below w1 w1 w'→w'.cell? ⟨g,off,none⟩=some (.int .u8 (x0:Int))∧w'.cell? ⟨g,off+2,none⟩=some (.int .u8 (x2:Int))∧w'.cell? ⟨g,off+3,none⟩=some (.int .u8 (x3:Int))):=fun w' h=>Zv.o _ (Tr GV h)
 refine RX ?_;refine Zj (d:=27) (S:=(fun w'=>w'.cell? ⟨g,off,none⟩=some (.int .u8 (x0:Int))∧w'.cell? ⟨g,off+2,none⟩=some (.int .u8 (x2:Int))∧w'.cell? ⟨g,off+3,none⟩=some (.int .u8 (x3:Int)))) Zk ?_ (fun XY=>?_)
 ·exact jb.o _ (YE _ _).drew
 refine YP 0 (h:=YP 1 (h:=YP 5 (h:=YP 6 (h:=YP 9 (h:=YP 10 (h:=YP 15 (h:=YP 16 (h:=YP 20 (h:=YP 21 (h:=YK 2 (h:=YP 3 (h:=YP 4 (h:=YK 7 (h:=YP 8 (h:=YK 11 (h:=YP 12 (h:=YP 13 (h:=YP 14 (h:=YK 17 (h:=YP 18 (h:=YP 19 (h:=YK 22 (h:=YP 23 (h:=YP 24 (h:=YP 25 (h:=?_))))))))))))))))))))))))));refine YR 26 (h:=fun K hK=>?_);go_simp;refine YY hK _ _ ?_ (fun XC=>?_)
 ·exact jb.o _ (by first|exact(YE _ _).drew|exact ZA (YE _ _).drew (Zq _) _)
 clear hK K;try simp only[pt]
 refine YR 27 (h:=fun K hK=>?_);go_simp;refine Ye hK _ _ Zk ?_;clear hK K;try simp only[pt]
 refine Yt Zk ?_ _;refine QP ?_;have HK:Hid ((((w1.alloc (.cells (Qd (ly:Int) ke st (fr:Int)) 81)).drew)).heap[w1.heap.size]?=some (.cells (Qd (ly:Int) ke st (fr:Int)) 81 (0,0))):=Z9 w1 _;have HB13:Hid (Below w1 w1 (((w1.alloc (.cells (Qd (ly:Int) ke st (fr:Int)) 81)).drew))):=(Z' w1 _).drew;have ry:=Zh ((HB13.o.block _ (ZY HZ1.o)).trans HZ1.o);have WB:Hid (Below w w (((w1.alloc (.cells (Qd (ly:Int) ke st (fr:Int)) 81)).drew))):=(GV.o.trans ((Z' w1 _).mono GV.o.size)).drew;clear Zv jb XY q0 q2 q3 i0 i2 i3 n0 n1 n2 n3 p1 p1b p2 p2b p3 p4 p5 p6 l1;go_upto_region 4 with fail
 generalize((w1.alloc (.cells (Qd (ly:Int) ke st (fr:Int)) 81)).drew)=w3 at *;generalize w1.heap.size=K at *;have SI:Hid (∀w',Below w3 w3 w'→w'.rangeAt K 0 (Qd (ly:Int) ke st (fr:Int))∧Below w3 w3 w'):=fun w' hb=>⟨fun m v hm=>by rw[PA,cell_of ((hb.block _ (ZY HK.o)).trans HK.o) m];simpa using hm,hb⟩
 have HCV:Hid (∀wS,Below w3 w3 wS→(convert 30 9 (.slice vs 4 c)).run prog wS = .ok (.string (str [UInt8.ofNat x0,UInt8.ofNat x1,UInt8.ofNat x2,UInt8.ofNat x3])) wS):=fun wS h=>E2 (U5.o wS (Tr WB h)) (Nat.succ_pos _)
 have Ur:Hid (∀w' d,Below w3 w3 w'→w'.heap[w.heap.size]?=some (.cells (Qd 0 false false 0) 81 (0,0))∧Below w w (w'.setRow w d)):=fun w' d h=>⟨(h.block _ (ZY ry.o)).trans ry.o,Z0 (Tr WB h) (Zq _) _⟩
 have HAB:Hid ((¬ly=3)→([UInt8.ofNat (Rf ly ke st),90,UInt8.ofNat (fr/256),UInt8.ofNat (fr%256)]=[UInt8.ofNat x0,UInt8.ofNat x1,UInt8.ofNat x2,UInt8.ofNat x3]↔x0/4%16=0∧x1=90)):=fun h3=>by
  obtain⟨e1,e2,e3,e4⟩:=HL.o;have hd:=jS r0;rw[←e2,←e3,←e4]at hd;have nA:Rf ly ke st<256:=by unfold Rf;split <;> split <;> omega
  have i1:∀a b:Nat,a<256→b<256→(UInt8.ofNat a=UInt8.ofNat b↔a=b):=fun a b ha hb=>⟨fun h=>by have h:=congrArg UInt8.toNat h;rw[UInt8.toNat_ofNat',UInt8.toNat_ofNat']at h;omega,fun h=>by rw[h]⟩
  have f1:fr/256=x2:=by omega
  have f2:fr%256=x3:=by omega
  rw[f1,f2];simp only[List.cons.injEq,and_true];rw[i1 _ _ nA r0,hd,show(90:UInt8)=UInt8.ofNat 90 from rfl,i1 _ _ Zd r1];exact⟨fun h=>⟨h.1,h.2.symm⟩,fun h=>⟨h.1,h.2.symm⟩⟩
 have hse:(str [UInt8.ofNat x0,UInt8.ofNat x1,UInt8.ofNat x2,UInt8.ofNat x3]).toList.isEmpty=false:=by rw[GR];rfl
 generalize[UInt8.ofNat x0,UInt8.ofNat x1,UInt8.ofNat x2,UInt8.ofNat x3]=lb at *;clear U5;by_cases h3:ly=3
 ·have HX:Hid (X=(S_,1)):=by show _=_;rw[HE.o,ZU (WG (WQ h3))]
  have CP:=Zh (Af (ly:Int) (fr:Int) ke st w3.drew Zo);clear h3 HAB HE HL;have cv0:∀w:World,(convert 30 9 (.slice none 0 0)).run prog w = .ok (.string ⟨#[]⟩) w:=fun w=>by kernel_rfl
  refine RX ?_;refine wp_region_held_drew (S:=(fun w'=>w'.rangeAt K 0 (Qd (ly:Int) ke st (fr:Int))∧Below w3 w3 w')) Zk ?_ (fun XY=>?_)
  ·exact SI.o _ (YE _ _).drew
  refine YA 3 (h:=YA 4 (h:=?_));refine YA 0 (hy:=by intro wS Ud;refine(Xj 81 (.tmp 4) ?_ K 0 ?_ (Qd (ly:Int) ke st (fr:Int)) _ Ud.1 underlying81 rfl Zk).trans ?_;all_goals rfl) (h:=?_);refine YA 5 (hy:=by intro wS Ud;have G9:=HCV.o wS Ud.2;(try dsimp only at Ud);(try simp only[pt]);go_simp;try with_reducible rfl) (h:=?_);refine Rv 1 (h:=fun K hK=>?_);go_simp;refine CP.o.mono ?_;rintro e wA ⟨rfl,bS⟩;have zT:=Zh ((YE w3 w3).drew.trans bS);clear bS;exact Yt3
 have Ry:=HAB.o h3;have hL4:[UInt8.ofNat (Rf ly ke st),90,UInt8.ofNat (fr/256),UInt8.ofNat (fr%256)].length=4:=rfl;have CP:=Zh (wV ly fr ke st w3.drew Zo hfr6);generalize[UInt8.ofNat (Rf ly ke st),90,UInt8.ofNat (fr/256),UInt8.ofNat (fr%256)]=la at *;clear hse HAB HL;by_cases hq:x0/4%16≠0∨x1≠90
 ·have HX:Hid (X=(S_,1)):=by show _=_;rw[HE.o,ZU Zo]
  have WA:¬la=lb:=by rw[Ry];omega
  have nq:((str la).toList==(str lb).toList)=false:=by rw[Wz,ByteArray.toList_eq,ByteArray.toList_eq];exact WA
  clear h3 HE Ry hq WA;refine RX ?_;refine wp_region_held_drew (S:=(fun w'=>w'.rangeAt K 0 (Qd (ly:Int) ke st (fr:Int))∧Below w3 w3 w')) Zk ?_ (fun XY=>?_)
  ·exact SI.o _ (YE _ _).drew
  refine YA 3 (h:=YA 4 (h:=?_));refine YA 0 (hy:=by intro wS Ud;refine(Xj 81 (.tmp 4) ?_ K 0 ?_ (Qd (ly:Int) ke st (fr:Int)) _ Ud.1 underlying81 rfl Zk).trans ?_;all_goals rfl) (h:=?_);refine YA 5 (hy:=by intro wS Ud;have G9:=HCV.o wS Ud.2;(try dsimp only at Ud);(try simp only[pt]);go_simp;try with_reducible rfl) (h:=?_);refine Rv 1 (h:=fun K hK=>?_);go_simp;refine CP.o.mono ?_;rintro e wA ⟨⟨pv,rfl,pK⟩,bS⟩;have zT:=Zh ((YE w3 w3).drew.trans bS);have cv2:=E2 (w:=wA) (v:=pv) (l:=la) (by show XG _ _ _ _;rw[hL4];exact pK.r) (by rw[hL4];decide);clear bS pK;exact Yt3
 ·have HX:Hid (X=(⟨(ly:Nat),ke,st,(fr:Nat)⟩,0)):=by show _=_;rw[HE.o,Z3 Zo]
  have hab2:la=lb:=Ry.2 Zo;subst hab2;clear h3 HE Ry hq;refine RX ?_;refine wp_region_held_drew (S:=(fun w'=>w'.rangeAt K 0 (Qd (ly:Int) ke st (fr:Int))∧Below w3 w3 w')) Zk ?_ (fun XY=>?_)
  ·exact SI.o _ (YE _ _).drew
  refine YA 3 (h:=YA 4 (h:=?_));refine YA 0 (hy:=by intro wS Ud;refine(Xj 81 (.tmp 4) ?_ K 0 ?_ (Qd (ly:Int) ke st (fr:Int)) _ Ud.1 underlying81 rfl Zk).trans ?_;all_goals rfl) (h:=?_);refine YA 5 (hy:=by intro wS Ud;have G9:=HCV.o wS Ud.2;(try dsimp only at Ud);(try simp only[pt]);go_simp;try with_reducible rfl) (h:=?_);refine Rv 1 (h:=fun K hK=>?_);go_simp;refine CP.o.mono ?_;rintro e wA ⟨⟨pv,rfl,pK⟩,bS⟩;have zT:=Zh ((YE w3 w3).drew.trans bS);have cv2:=E2 (w:=wA) (v:=pv) (l:=la) (by show XG _ _ _ _;rw[hL4];exact pK.r) (by rw[hL4];decide);clear bS pK;go_wp2_with fail
  refine hK.out _ _ ?_ (fun XC=>?_)
  ·exact SI.o _ zT.o
  clear hK K;try simp only[pt]
  refine Rv 2 (h:=fun K hK=>?_);go_simp;refine hK.out _ _ ?_ (fun Vq=>?_)
  ·exact SI.o _ zT.o
  clear hK K;try simp only[pt]
  refine YA 6 (h:=?_);refine YHE (h:=?_);refine QP ?_;obtain⟨TS,rM⟩:=Ur.o wA (Qd (ly:Int) ke st (fr:Int)) zT.o;have Uu:=(zT.o.block _ (ZY HK.o)).trans HK.o;go_wp2_with (first|with_reducible refine Zl Uu underlying81 ?_|with_reducible refine Zs TS ?_)
  refine Vr (v:= .tuple (Qo (Qd (ly:Int) ke st (fr:Int)) 0)) ?_ rfl ?_
  ·exact Ux (p:=2) (u:=3) Zr _ _ w 81 (Qd (ly:Int) ke st (fr:Int)) (0,0) _ Zr (setRow_heap _ _ _ _ _ _ TS) underlying81 rfl Zk
  rw[HX.o];exact⟨rfl,rM⟩
def TK(c:List UInt8)(n:Nat):List Int:=(List.range n).map fun(i:Nat)=>((get c ((4*i:Nat):Int) 4:Nat):Int)
def SP(c:List UInt8)(n:Nat):List (Int×Int):=(List.range n).map fun(i:Nat)=>(((get c ((8+4*i:Nat):Int) 2:Nat):Int),((get c (((8+4*i:Nat):Int)+2) 2:Nat):Int))
def blkR(c:List UInt8)(p:Int):nJ:=⟨get c p 4,get c (p+4) 1,get c (p+5) 3,get c (p+8) 4,get c (p+12) 4,get c (p+16) 4,get c (p+20) 4⟩
def U3(c:List UInt8)(P n:Nat):List nJ:=(List.range n).map fun(i:Nat)=>blkR c ((P+24*i:Nat):Int)
def Xi(k n:Nat)(c:List UInt8):Rc:=
 if k=203 then⟨203,0,0,0,0,0,[],TK c n,0,[]⟩
 else if k=205 then⟨205,get c 0 4,0,0,0,0,[],[],get c 4 4,SP c n⟩
 else if k=206 then⟨206,get c 0 4,0,0,0,0,[],[],get c 4 4,[]⟩
 else if k=200 then⟨200,get c 0 4,get c 4 8,get c 12 4,get c 16 4,get c 20 4,U3 c 24 n,[],0,[]⟩
 else⟨201,get c 0 4,0,0,0,0,U3 c 4 n,[],0,[]⟩
structure GI(w w':World)(cs:List Value):Prop where
 Za:Below w w w'
 z:w'.heap[w.heap.size]?=some (.cells X9 173 (0,0))
 Y8:w'.heap[w.heap.size+1]?=some (.cells cs.toArray 173 (0,0))
section
variable {w w1 w2:World} {cs:List Value}
def GI.below(h:GI w w1 cs)(hb:Below w1 w1 w2):GI w w2 cs:=⟨h.Za.trans (hb.mono h.Za.size),(hb.block _ (ZY h.z)).trans h.z,(hb.block _ (ZY h.Y8)).trans h.Y8⟩
def GI.set(h:GI w w1 cs)(j:Nat)(u:Value):GI w (w1.setCell ⟨w.heap.size+1,j,none⟩ u) (cs.set j u):=by
 have h2:=Vu h.Y8 j u;rw[List.setIfInBounds_toArray]at h2;exact⟨((Fr.Z8 Pj h.Za).setCell (p:=⟨w.heap.size+1,j,none⟩) (WQ (JV _)) _).below,(L8 w1 ⟨w.heap.size+1,j,none⟩ u w (by show w.heap.size≠w.heap.size+1;omega)).trans h.z,h2⟩
def GI.grown(h:GI w w1 cs){e:TypeId}{size:Nat}{v:Value}{n:Nat}{xs:List Value}(ho:w1.ownsRow w e size v n xs)(he:173≠e)(hg:w1.grownBy w2 v.ownBlock):GI w w2 cs:=
 ⟨((Fr.Z8 Pj h.Za).grown hg h.Za.size (YG ho)).below,(hg.block _ (ZY h.z) (fun x=>Y0 ho he _ _ _ x.symm h.z)).trans h.z,(hg.block _ (ZY h.Y8) (fun x=>Y0 ho he _ _ _ x.symm h.Y8)).trans h.Y8⟩
def GI.start(w:World)(k:Nat):GI w (((w.alloc (.cells X9 173)).alloc (.cells X9 173)).setRow (w.heap.size+1) (Qe (k:Int) 0 0 0 0 0 none 0 0 none 0 0 0 none 0 0)) (Qe (k:Int) 0 0 0 0 0 none 0 0 none 0 0 0 none 0 0):=by
 have e1:(w.alloc (.cells X9 173)).heap.size=w.heap.size+1:=by show(w.heap.push _).size=_;rw[N9]
 have hz:((w.alloc (.cells X9 173)).alloc (.cells X9 173)).heap[w.heap.size+1]?=some (.cells X9 173 (0,0)):=by
  have h:=Z9 (w.alloc (.cells X9 173)) (.cells X9 173);rw[e1]at h;exact h
 refine⟨Z0 (ZA (Z' w _) (Zq _) _) (JV _) _,?_,setRow_heap _ _ _ _ _ _ hz⟩;rw[setRow_other _ _ _ _ Zo,(Z' (w.alloc (.cells X9 173)) _).block _ (by rw[e1];omega)];exact Z9 w _
end
def Yg{P:Program}{ops:Array Oper}{o:Oper}{a:Act}{w:World}{K:Act→World→Prop}{Q:Exit→Act→World→Prop}{E':Prop}(Lt:o.guard=none){t e:TypeId}{bytes:Nat}(E:Elem P t e 1 bytes)(x:Operand)(ho:o.op = .buildSlice t 1 #[(0,x)])
  (v:Value) (hx:a.eval x=v) (hv:v.cells=#[v])
  (h:K (a.put o.dst (.slice (some ⟨w,0,none⟩) 1 1)) (w.alloc (.cells #[v] e))):if Region.wanted o (yielded ops a.tmps)=true then Oper.wp P o a w K Q else E':=by
 exact Yx59
def Mi(b:List UInt8)(p:Int):get b p 2<65536:=by
 unfold get;split
 ·exact be_lt2 jq
 ·decide
def rH(b:List UInt8)(p:Int):get b p 1<256:=by
 unfold get;split
 ·have:=BN ((b.drop p.toNat).take (1:Int).toNat);have h2:((b.drop p.toNat).take (1:Int).toNat).length≤1:=by rw[SC];omega
  exact Od this (PJ (Nat.pow_le_pow_right Zd h2) Zd)
 ·decide
def rI(b:List UInt8)(p:Int):get b p 3<16777216:=by
 unfold get;split
 ·exact be_lt3 jq
 ·decide
def I5{w:World}{B:Nat}{e:TypeId}{size:Nat}{v:Value}{n:Nat}{xs:List Value}(h:w.ownsRow B e size v n xs){g:Nat}{c:Array Value}{f:Nat×Nat}(hg:w.heap[g]?=some (.cells c 173 f))(he:173≠e)(o:Nat)(u:Value):(w.setCell ⟨g,o,none⟩ u).ownsRow B e size v n xs:=
 XO h fun j hj=>by
  by_cases hjg:j=g
  ·subst hjg;exact absurd hg (Y0 h he _ _ _ hj)
  ·exact L8 w ⟨g,o,none⟩ _ j hjg
def qB(v:Value)(n:Nat)(c:List UInt8)(w:World)(hv:XU w v c)(hn:n≤1000)(h0:n=0) :
  Calls prog 117 (Jb 206 (n:Int) v) w fun e w'=>(∃a,e = .returned a∧SH w' a (Xi 206 n c))∧Below w w w':=by
 have CR:=Zh (fun(p q:Int) (w':World) (h:Below w w w')=>QL v c p q w' (hv.below h));obtain⟨ss,LW⟩:∃x:Nat,x=get c 0 4:=⟨_,rfl⟩;have ib:=Zh (fun(w':World) (h:Below w w w')=>CR.o 0 4 w' h);rw[←LW]at ib;have bss:IntKind.u32.wrap (ss:Int)=(ss:Int):=by have:=WL c 0;rw[Nr];omega
 obtain⟨md,hmd⟩:∃x:Nat,x=get c 4 4:=⟨_,rfl⟩;have Cmd:=Zh (fun(w':World) (h:Below w w w')=>CR.o 4 4 w' h);rw[←hmd]at Cmd;have bmd:IntKind.u32.wrap (md:Int)=(md:Int):=by have:=WL c 4;rw[Nr];omega
 have HX:Hid (Xi 206 n c=⟨206,(ss:Int),0,0,0,0,[],[],(md:Int),[]⟩):=by
  show _=_;unfold Xi;rw[LW,hmd];simp
 generalize Xi 206 n c=X at *;clear LW hmd;have H1:Hid (GI w (((w.alloc (.cells X9 173)).alloc (.cells X9 173)).setRow (w.heap.size+1) Yz6a) Yz6):=GI.start w 206
 have hz:((w.alloc (.cells X9 173)).alloc (.cells X9 173)).heap[w.heap.size+1]?=some (.cells X9 173 (0,0)):=by
  exact oH
 clear hv;go_enter func117,ntmps117;go_upto_region 2 with(with_reducible refine Zs hz ?_)
 clear hz;generalize((w.alloc (.cells X9 173)).alloc (.cells X9 173)).setRow (w.heap.size+1) Yz6a=w1 at *;have z1:=cell_of H1.o.Y8 1;simp only[Ss,R_,Rw]at z1;have f1:=ZP H1.o.Y8 1;go_upto_region 5 with(go_at_call 118;refine(ib.o _ H1.o.Za).mono ?_;rintro e w' ⟨rfl,rfl⟩)
 have H2:Hid (GI w (w1.setCell ⟨w.heap.size+1,1,none⟩ (.int .u32 (ss:Int))) (Qe 206 (ss:Int) 0 0 0 0 none 0 0 none 0 0 0 none 0 0)):=H1.o.set 1 (.int .u32 (ss:Int));clear z1 f1;generalize w1.setCell ⟨w.heap.size+1,1,none⟩ (.int .u32 (ss:Int))=w2 at *;have z2:=cell_of H2.o.Y8 8;simp only[Ss,R_,Rw]at z2;have f2:=ZP H2.o.Y8 8;go_upto_region 14 with(go_at_call 118;refine(Cmd.o _ H2.o.Za).mono ?_;rintro e w' ⟨rfl,rfl⟩)
 have H3:Hid (GI w (w2.setCell ⟨w.heap.size+1,8,none⟩ (.int .u32 (md:Int))) (Qe 206 (ss:Int) 0 0 0 0 none 0 0 none 0 0 (md:Int) none 0 0)):=H2.o.set 8 (.int .u32 (md:Int));clear z2 f2;generalize w2.setCell ⟨w.heap.size+1,8,none⟩ (.int .u32 (md:Int))=w3 at *;subst h0;go_wp2_with fail
 go_loopw [9] (fun s9 w'=>s9 = .int .i64 0∧w'=w3) (fun _ _=>0)
 case atStart=>exact⟨rfl,rfl⟩
 case round=>
  obtain⟨rfl,rfl⟩:=hrel;have TS:=H3.o.z;have Uu:=H3.o.Y8;go_wp2_with (first|with_reducible refine Zl Uu underlying173 ?_|(with_reducible refine Zs (cells:=(Qe 206 (ss:Int) 0 0 0 0 none 0 0 none 0 0 (md:Int) none 0 0)) TS ?_))
  refine Vr (v:= .agg (Qe 206 (ss:Int) 0 0 0 0 none 0 0 none 0 0 (md:Int) none 0 0)) ?_ rfl ?_
  ·exact results_cell_row Zr _ _ w 173 (Qe 206 (ss:Int) 0 0 0 0 none 0 0 none 0 0 (md:Int) none 0 0) (0,0) _ Zr (setRow_heap _ _ _ _ _ _ TS) underlying173 rfl X6
  refine⟨⟨_,rfl,?_⟩,Z0 H3.o.Za (Zq _) _⟩;rw[HX.o];have hr:TW wr ⟨⟨206,(ss:Int),0,0,0,0,[],[],(md:Int),[]⟩,.slice none 0 0,.slice none 0 0,.slice none 0 0⟩:=⟨Row.nil _ _,Row.nil _ _,Row.nil _ _⟩;have OA:=TW.setRow hr TS (Qe 206 (ss:Int) 0 0 0 0 none 0 0 none 0 0 (md:Int) none 0 0);exact⟨_,_,_,rfl,OA.b,OA.g,OA.p⟩

/- Several texts in one: The walks of book.Cut and book.Read. -/
import Derived.Deep.DeepCutAuto
import Derived.Deep.CutBlock
import Derived.Test.YtpdjhlcbcomdkaaGreatDoorV01
import Derived.Test.YtpdjhlcbcomdkaaGreatDoorV02
import Derived.Test.YtpdjhlcbcomdkaaGreatDoorV04
import Derived.Test.YtpdjhlcbcomdkaaGreatDoorV12
import Derived.Test.YtpdjhlcbcomdkaaGreatDoorV16
set_option linter.unusedVariables false
set_option linter.unusedSimpArgs false
set_option linter.unusedSimpArgs false
namespace Go.Proofs.By
open Go.RowKit Go.Proofs.Heap Go.Proofs
open Go.Proofs.Rm (inv_empty slim_empty TurnRow Turn Room RoomAt Inv Slim turnCells elemTurn turns_len turns_one own_le row_new' below_drewN opvCells u32s)
open Go.Proofs.Lab (Tabs)
open Go.Proofs.Mem
theorem elemOp:Elem Tryz.prog 22 32 7 96:=⟨Tryz.underlying22,⟨.agg Yz5a,by kernel_rfl,rfl⟩,by decide⟩
theorem flat_takeB {α:Type} (f:α→List Value) (k:Nat) (hk:∀ x,(f x).length=k):∀ (l:List α) (m:Nat),(l.flatMap f).take (m*k)=(l.take m).flatMap f
 | [],m=>by simp
 | x :: l,0=>by simp
 | x :: l,m+1=>by
  have h:=hk x
  rw [List.flatMap_cons,List.take_succ_cons,List.flatMap_cons,Nat.succ_mul,List.take_append,h,List.take_of_length_le (by omega),show m*k+k-k=m*k by omega,flat_takeB f k hk l m]
theorem OpBsR.take {w:World} {a:Option Addr} {c:Nat} {L:List OpB} (h:OpBsR w (.slice a L.length c) L) {a':Option Addr} {K:Nat} (hK:K≤L.length)
  (hr:∀ w xs,K≤L.length→xs.length=L.length*7→RRow w (.slice a L.length c) L.length xs→RRow w (.slice a' K c) K (xs.take (K*7))):OpBsR w (.slice a' K c) (L.take K):=by
 have hl:(L.take K).length=K:=by rw [List.length_take];omega
 refine ⟨?_,fun y hy=>h.each y (List.mem_of_mem_take hy)⟩
 rw [hl]
 have:=hr w _ hK (flat_length (fun y:OpB=>opvCells y.x) 7 (fun _=>rfl) L) h.row
 rwa [flat_takeB (fun y:OpB=>opvCells y.x) 7 (fun _=>rfl)] at this
theorem OpBsR.form {w:World} {v:Value} {L:List OpB} (h:OpBsR w v L):∃ a c,v = .slice a L.length c∧L.length≤c∧c≤maxLen:=by
 obtain ⟨a,c,h1,h2,h3,_⟩:=h.row
 exact ⟨a,c,h1,h2,h3⟩
theorem Cut_any (v:Value) (L:List OpB) (w:World) (h:OpBsR w v L):Calls Tryz.prog 84 #[v] w fun e w'=>(∃ v',e = .returned v'∧OpBsR w' v' (L.take 256))∧w=w':=by
 obtain ⟨va,vc,rfl,hvc,hmx⟩:=h.form
 obtain ⟨K,hKd⟩:∃ K,K=min L.length 256:=⟨_,rfl⟩
 have hK1:K≤L.length:=by omega
 have hKm:min (L.length:Int) 256=(K:Int):=by omega
 obtain ⟨vs,hsl,-,hslR⟩:=slice_to (P:=Tryz.prog) elemOp va L.length vc K (by omega)
 have HO:Hid (OpBsR w (.slice vs K vc) (L.take 256)):=by
  have h2:=h.take hK1 hslR
  have e:L.take K=L.take 256:=by
   rcases Nat.le_total L.length 256 with h3|h3
   ·rw [hKd,Nat.min_eq_left h3,List.take_length,List.take_of_length_le h3]
   ·rw [hKd,Nat.min_eq_right h3]
  rwa [e] at h2
 clear h hslR hKd
 go_enter Tryz.func84,Tryz.ntmps84
 go_wp2
 go_ret
 exact ⟨⟨_,rfl,HO.out⟩,rfl⟩
def Far (w:World) (S:Nat→Prop):Prop:=∀ j,S j→∃ c t f,w.heap[j]?=some (.cells c t f)∧(t=116∨t=35∨t=97∨t=59)
theorem Far.no {w:World} {S:Nat→Prop} (h:Far w S) {j:Nat} {c:Array Value} {e:TypeId} {f:Nat × Nat} (hj:w.heap[j]?=some (.cells c e f)) (he:e≠116∧e≠35∧e≠97∧e≠59):¬S j:=fun hs=>by
 obtain ⟨c',t,f',h1,h2⟩:=h j hs
 rw [hj] at h1
 injection h1 with h1
 injection h1 with _ h1
 subst h1
 rcases h2 with r|r|r|r
 ·exact he.1 r
 ·exact he.2.1 r
 ·exact he.2.2.1 r
 ·exact he.2.2.2 r
theorem Far.ne {w:World} {S:Nat→Prop} (h:Far w S) {e:TypeId} (he:e≠116∧e≠35∧e≠97∧e≠59):∀ j c fr,S j→w.heap[j]?≠some (.cells c e fr):=fun _ _ _ hs hj=>h.no hj he hs
structure RO (w:World) (g b K:Nat) (R:Room) (ep:Int) (TC:Array Value) (tv:Value) (ts:List Turn) (x:MedV):Prop where
 door:DoorAt w g b R ep
 turns:TurnRow w tv ts
 pk:PktR w x.p x.cv x.ev x.pv
 tk:w.heap[K]?=some (.cells TC 100 (0,0))
section
variable {w w':World} {g b K:Nat} {R:Room} {ep:Int} {TC:Array Value} {tv:Value} {ts:List Turn} {x:MedV}
theorem RO.below (h:RO w g b K R ep TC tv ts x) (hb:Below w.heap.size w w'):RO w' g b K R ep TC tv ts x:=
 ⟨h.door.below hb,Row.below h.turns hb,h.pk.below hb,(hb.block _ (hp_lt h.tk)).trans h.tk⟩
theorem DoorAt.far (h:DoorAt w g b R ep) {S:Nat→Prop} (hf:Fr w.heap.size S w w') (hS:Far w S):DoorAt w' g b R ep:=by
 obtain ⟨c,hc,_⟩:=h.room.cells
 exact ⟨(hf.block g (hp_lt h.blk) (hS.no h.blk (by decide))).trans h.blk,h.room.fr hf (Nat.le_refl _) (hS.no hc (by decide)) (hS.ne (by decide))⟩
theorem RO.far (h:RO w g b K R ep TC tv ts x) {S:Nat→Prop} (hf:Fr w.heap.size S w w') (hS:Far w S):RO w' g b K R ep TC tv ts x:=
 ⟨h.door.far hf hS,Row.fr h.turns hf (Nat.le_refl _) (hS.ne (by decide)),h.pk.frT hf (hS.ne (by decide)) (hS.ne (by decide)),(hf.block _ (hp_lt h.tk) (hS.no h.tk (by decide))).trans h.tk⟩
end
theorem DoorAt.apartB {w:World} {g b:Nat} {R:Room} {ep:Int} (h:DoorAt w g b R ep):∀ j,(j=b∨j=g)→∃ c t f,w.heap[j]?=some (.cells c t f)∧t≠116∧t≠35∧t≠97∧t≠59∧t≠66∧t≠5:=by
 rintro j (rfl|rfl)
 ·obtain ⟨c,hc,_,_⟩:=h.room.cells
  exact ⟨c,_,_,hc,by decide,by decide,by decide,by decide,by decide,by decide⟩
 ·exact ⟨_,_,_,h.blk,by decide,by decide,by decide,by decide,by decide,by decide⟩
theorem exec_load_mid {P:Program} {w:World} {op:Oper} {a:Act} (ty:TypeId) (x:Operand) (ho:op.op = .load ty x) (b o:Nat) (hx:a.eval x = .pointer (some ⟨b,o,none⟩)) (cs:List Value) (d:TypeDesc) (hc:w.rangeAt b o cs)
  (hu:P.underlying ty=some d) (hd:d.isRow=true) (hi:(P.info? ty).map (·.size)=some cs.length):(execOp a.eval op).run P w = .ok (.value (.agg cs.toArray)) w:=by
 unfold execOp
 simp only [ho,hx,Instr.loadAt,Instr.sureAddr,Sem.run_bind,Sem.run_pure,Result.andThen_ok,run_loadVar_mid w b o ty cs d hc hu hd hi]
theorem adm_one (x:Adm):∀ u∈admC4 x,u.oneCell'=true:=by
 intro u hu
 simp only [admC4,List.mem_cons,List.mem_nil_iff,or_false] at hu
 rcases hu with rfl|rfl|rfl|rfl <;> rfl
structure RS (w w':World) (k g b:Nat) (ov:Value) (L:List OpB) (n:Int) (j:Nat) (av mv lv:Value) (M:List MedV) (R:Room) (ep:Int):Prop where
 bel:Below w.heap.size w w'
 book:BookIn w.heap.size w' k #[ov,av,mv,lv] av (admsTo L j) mv M lv (livesTo L n j)
 meds:M.map (fun x=>(x.p,x.d))=medsTo L j
 door:DoorAt w' g b R ep
 inv:Inv R
 slim:Slim R
 bare:R.bare=(runTo L j).1
 eps:ep=(runTo L j).2
 kg:w.heap.size≤k∧w.heap.size≤g∧w.heap.size≤b
theorem medv_one1 {p:Pkt} {d:Dsc} {ca ea pa:Option Addr} {cn cc en ec pn pc:Nat}:∀ u∈[(⟨p,d,.slice ca cn cc,.slice ea en ec,.slice pa pn pc⟩:MedV)].flatMap medvCells,u.oneCell'=true:=by
 intro u hu
 have hu:u∈medCells p d (.slice ca cn cc) (.slice ea en ec) (.slice pa pn pc):=by simpa [medvCells] using hu
 simp only [medCells,List.mem_cons,List.mem_nil_iff,or_false] at hu
 rcases hu with rfl|rfl|rfl|rfl|rfl|rfl|rfl|rfl|rfl|rfl|rfl|rfl|rfl|rfl|rfl <;> rfl
theorem row_atB {α:Type} (f:α→List Value) (k:Nat) (hk:∀ x,(f x).length=k) {w:World} {e:TypeId} {a:Option Addr} {n c:Nat} {l:List α} (h:Row w e (.slice a n c) n (l.flatMap f)) (hl:0<l.length*k):∃ g off,a=some ⟨g,off,none⟩∧∀ (i:Nat) (x:α),l[i]?=some x→∀ j,j<k→w.cell? ⟨g,off+i*k+j,none⟩=(f x)[j]?:=by
 have hfl:=flat_length f k hk l
 obtain ⟨g,off,cap,h1,h2,h3,h4,h5⟩:=Row.open h (by rw [hfl];exact hl)
 injection h1 with e1 _ _
 refine ⟨g,off,e1,fun i x hx j hj=>?_⟩
 have hi:i<l.length:=(List.getElem?_eq_some_iff.1 hx).1
 have hlt:i*k+j<l.length*k:=by
  have h6:(i+1)*k≤l.length*k:=Nat.mul_le_mul_right _ hi
  rw [Nat.succ_mul] at h6
  omega
 rw [Nat.add_assoc,h5 (i*k+j) (by rw [hfl];exact hlt)]
 exact flat_at f k hk l i j x hx hj
set_option maxRecDepth 100000 in
set_option maxHeartbeats 16000000 in
theorem Read_any (v:Value) (L:List OpB) (w:World) (hT:Tabs w) (h:OpBsR w v L) (hL:L.length≤256) :
  Calls Tryz.prog 53 #[v] w fun e w'=>(∃ k g b ov av mv lv M R ep,e = .returned (.pointer (some ⟨k,0,none⟩))∧OpBsR w' ov L∧RS w w' k g b ov L L.length L.length av mv lv M R ep):=by
 have CC:Hid (Calls Tryz.prog 84 #[v] w fun e w'=>(∃ v',e = .returned v'∧OpBsR w' v' L)∧w=w'):=by
  have h2:=Cut_any v L w h
  rwa [List.take_of_length_le hL] at h2
 have HT:Hid (∀ w',Below w.heap.size w w'→Tabs w'):=fun w' h=>Utf8Tabs_below hT h
 have CN:=Lib.hid DoorNew_any
 clear hT h
 go_enter Tryz.func53,Tryz.ntmps53
 go_wp2_with (first|(go_at_call 84;refine CC.out.mono ?_;rintro e w1 ⟨⟨v',rfl,ho⟩,rfl⟩;obtain ⟨va,vc,hv,hvc,hmx⟩:=OpBsR.form ho;subst hv;have HO:=Lib.hid ho;clear ho)|(go_at_call 40;refine (CN.out _).mono ?_;rintro e w2 ⟨⟨g,b,rfl,hd,hg,hb⟩,hb2⟩;have hbk:=(hb2.block w.heap.size Yo11).trans (heap_new w (.cells #[.slice va L.length vc,.slice none 0 0,.slice none 0 0,.slice none 0 0] 116));have k0:=cell_of hbk 0;simp only [List.getElem?_toArray,List.getElem?_cons_zero] at k0;have HD:=Lib.hid hd;have HB2:Hid (Below w.heap.size w w2):=(below_alloc w _).trans (hb2.mono Yo21);have HG:Hid (w.heap.size≤g):=Nat.le_trans Yo21 hg;have HBL:Hid (w.heap.size≤b):=Nat.le_trans Yo21 hb;clear hd hb2 hg hb))
 have HS0:Hid (RS w w2 w.heap.size g b (.slice va L.length vc) L L.length 0 (.slice none 0 0) (.slice none 0 0) (.slice none 0 0) [] Rm.empty 0):=
  ⟨HB2.out,⟨hbk,World.ownsRow_nil _ _ _ _,World.ownsRow_nil _ _ _ _,fun _ h=>(by cases h),World.ownsRow_nil _ _ _ _⟩,rfl,HD.out,inv_empty,slim_empty,rfl,rfl,⟨Nat.le_refl _,HG.out,HBL.out⟩⟩
 clear hbk k0 CC CN HD HB2
 go_loopw [20] (fun s20 w'=>∃ (j:Nat) (av mv lv:Value) (M:List MedV) (R:Room) (ep:Int),j≤L.length∧s20 = .int .i64 (j:Int)∧RS w w' w.heap.size g b (.slice va L.length vc) L L.length j av mv lv M R ep) (fun s20 _=>L.length-(intOf s20).toNat)
 case atStart=>exact ⟨0,_,_,_,_,_,_,by omega,rfl,HS0.out⟩
 case round=>
  obtain ⟨j,av,mv,lv,M,R,ep,hj,rfl,hrs⟩:=hrel
  have HRS:=Lib.hid hrs
  clear HS0
  by_cases hjl:j<L.length
  ·have hOr:=HO.out.below hrs.bel
   obtain ⟨g',off',cap',e1,-,-,-,hat⟩:=Rm.row_atR (fun y:OpB=>opvCells y.x) 7 (fun _=>rfl) (by omega) hOr.row (by omega)
   cases e1
   have hy:L[j]?=some L[j]:=List.getElem?_eq_getElem hjl
   have hat:=hat j _ hy
   have hea:=hOr.each L[j] (List.getElem_mem hjl)
   have HST:=Lib.hid (fun sv=>run_step hy hrs.bare hrs.eps sv)
   have hbd:=run_bound L j
   rw [←hrs.eps] at hbd
   generalize L[j]=y at *
   obtain ⟨⟨⟨kd,p,s,q,nm,ss⟩,sa,sc,ba,bl,bc⟩,bb⟩:=y
   dsimp only at hea HST
   obtain ⟨hss,hbb,hnm⟩:=hea
   have HA1:=Lib.hid (admsTo_succ L j)
   have HM1:=Lib.hid (medsTo_succ L j)
   have HL1:Hid (livesTo L L.length (j+1)=livesOf L.length j (livesTo L L.length j) (takenAt L j).turns):=rfl
   have HTL:=Lib.hid (takenAt_len L j)
   have HLL:=Lib.hid (livesTo_len L L.length j)
   have HML:Hid (M.length=j):=by
    show _=_
    have h1:=congrArg List.length hrs.meds
    rwa [List.length_map,medsTo_len] at h1
   generalize takenAt L j=T at *
   have hrg:wr.rangeAt g' (off'+j*7) [.int .i64 kd,.int .i64 p,.int .i64 s,.int .i64 q,.string (str nm),.slice sa ss.length sc,.slice ba bl bc]:=fun m v hm=>(hat m Yo18).trans hm
   have hjI:(j:Int)<(L.length:Int):=Int.ofNat_lt.2 hjl
   have hz:=heap_new wr (.cells Yz5a 32)
   have hx3:=setRow_heap _ _ _ #[.int .i64 kd,.int .i64 p,.int .i64 s,.int .i64 q,.string (str nm),.slice sa ss.length sc,.slice ba bl bc] _ _ hz
   have HB3:Hid (Below wr.heap.size wr ((wr.alloc (.cells Yz5a 32)).setRow wr.heap.size #[.int .i64 kd,.int .i64 p,.int .i64 s,.int .i64 q,.string (str nm),.slice sa ss.length sc,.slice ba bl bc])):=below_setRow (below_alloc wr _) (Nat.le_refl _) _
   have CT:Hid (Calls Tryz.prog 44 #[.pointer (some ⟨g,0,none⟩),.agg #[.int .i64 kd,.int .i64 p,.int .i64 s,.int .i64 q,.string (str nm),.slice sa ss.length sc,.slice ba bl bc]] ((wr.alloc (.cells Yz5a 32)).setRow wr.heap.size #[.int .i64 kd,.int .i64 p,.int .i64 s,.int .i64 q,.string (str nm),.slice sa ss.length sc,.slice ba bl bc]) (TakePost g b R ep ⟨kd,p,s,q,nm,ss⟩ bb ((wr.alloc (.cells Yz5a 32)).setRow wr.heap.size #[.int .i64 kd,.int .i64 p,.int .i64 s,.int .i64 q,.string (str nm),.slice sa ss.length sc,.slice ba bl bc]))):=
    Take_any g b R ep kd p s q nm ss sa ba sc bl bc bb _ (hrs.door.below HB3.out) hrs.inv (Utf8Tabs_below (HT.out _ hrs.bel) HB3.out) hbd.1 (by omega) hnm (hss.below HB3.out) (fun hk w1 hw1=>datagram_any g b R ep kd p s q (str nm) sa ba ss.length sc bl bc bb w1 ((hrs.door.below HB3.out).below hw1) hrs.inv hrs.slim hbd.1 (by omega) ((RRow.below hbb HB3.out).below hw1))
   have HBK3:=Lib.hid (hrs.book.below HB3.out)
   have HBL3:Hid (Below w.heap.size w ((wr.alloc (.cells Yz5a 32)).setRow wr.heap.size #[.int .i64 kd,.int .i64 p,.int .i64 s,.int .i64 q,.string (str nm),.slice sa ss.length sc,.slice ba bl bc])):=hrs.bel.trans (HB3.out.mono hrs.bel.size)
   have HD3:=Lib.hid (hrs.door.below HB3.out)
   have HTO:=Lib.hid (take_ok hrs.inv hrs.slim ep ⟨kd,p,s,q,nm,ss⟩ bb)
   clear hrs hat hOr hss hbb
   go_upto_region 6 with (first|(with_reducible refine load_at 32 (.tmp 23) rfl ?_;refine wpList_load_mid rfl 32 (.tmp 23) rfl g' (off'+j*7) rfl [.int .i64 kd,.int .i64 p,.int .i64 s,.int .i64 q,.string (str nm),.slice sa ss.length sc,.slice ba bl bc] _ hrg Tryz.underlying32 rfl Yo3 ?_)|(with_reducible refine store_at 32 (.tmp 6) (.tmp 24) rfl ?_;refine store_rowTo2 rfl 32 (.tmp 6) (.tmp 24) rfl rfl wr.heap.size #[.int .i64 kd,.int .i64 p,.int .i64 s,.int .i64 q,.string (str nm),.slice sa ss.length sc,.slice ba bl bc] rfl rfl 32 Yz5a hz Yo3 Yo3 Yo3 ?_))
   clear hz hrg
   generalize ((wr.alloc (.cells Yz5a 32)).setRow wr.heap.size #[.int .i64 kd,.int .i64 p,.int .i64 s,.int .i64 q,.string (str nm),.slice sa ss.length sc,.slice ba bl bc])=w3 at *
   go_upto_region 7 with (first|(with_reducible refine load_at 32 (.tmp 6) rfl ?_;refine load_rowTo2 rfl 32 (.tmp 6) rfl wr.heap.size rfl 32 #[.int .i64 kd,.int .i64 p,.int .i64 s,.int .i64 q,.string (str nm),.slice sa ss.length sc,.slice ba bl bc] (0,0) _ hx3 Tryz.underlying32 rfl Yo3 ?_)|(go_at_call 44;refine CT.out.mono ?_;rintro e w4 ⟨sv,⟨cs,rfl,htk⟩,hd4,hf4⟩;obtain ⟨st1,st2,st3⟩:=HST.out sv;obtain ⟨ok1,ok2,-⟩:=HTO.out sv;rw [st1] at htk;have HD4:=Lib.hid hd4;have HF4:=Lib.hid hf4;have HOK1:=Lib.hid ok1;have HOK2:=Lib.hid ok2;have HST2:=Lib.hid st2;have HST3:=Lib.hid st3;obtain ⟨cv,ev,pv,iv,tv,rfl,hpk,hits,htr⟩:=htk.ex;obtain ⟨⟨ca,cc,hcv⟩,⟨ea,ec,hev⟩,⟨pa,pc,hpv⟩⟩:=hpk.form;obtain ⟨ia,ic,hiv⟩:=ItmsRow.form hits;obtain ⟨ta,tc,htv⟩:=Row.form htr;subst hcv;subst hev;subst hpv;subst hiv;subst htv;have HPK:=Lib.hid hpk;have HTR:=Lib.hid htr;have hz7:=heap_new w4 (.cells Yz2a 100);clear htk hd4 hf4 ok1 ok2 st1 st2 st3 hpk hits htr)|(with_reducible refine store_at 100 (.tmp 7) (.tmp 27) rfl ?_;refine store_rowTo2 rfl 100 (.tmp 7) (.tmp 27) rfl rfl w4.heap.size #[.int .i64 T.adm.kind,.int .i64 T.adm.source,.int .i64 T.adm.epoch,.int .i64 T.adm.err,.bool T.pkt.marker,.int .i64 T.pkt.type,.int .u16 T.pkt.seq,.int .u32 T.pkt.time,.int .u32 T.pkt.ssrc,.slice ca T.pkt.csrc.length cc,.bool T.pkt.hasExt,.int .u16 T.pkt.profile,.slice ea T.pkt.ext.length ec,.slice pa T.pkt.payload.length pc,.int .i64 T.pkt.pad,.int .i64 T.dsc.layer,.bool T.dsc.key,.bool T.dsc.start,.int .u16 T.dsc.frame,.slice ia T.items.length ic,.slice ta T.turns.length tc,.int .i64 T.unknown] rfl rfl 100 Yz2a hz7 Yo3 Yo3 Yo3 ?_))
   generalize take R ep ⟨kd,p,s,q,nm,ss⟩ bb sv=TT at *
   obtain ⟨⟨T',R'⟩,ep'⟩:=TT
   dsimp only at HD4 HOK1 HOK2 HST2 HST3
   have hb45:Below w4.heap.size w4 ((w4.alloc (.cells Yz2a 100)).setRow w4.heap.size #[.int .i64 T.adm.kind,.int .i64 T.adm.source,.int .i64 T.adm.epoch,.int .i64 T.adm.err,.bool T.pkt.marker,.int .i64 T.pkt.type,.int .u16 T.pkt.seq,.int .u32 T.pkt.time,.int .u32 T.pkt.ssrc,.slice ca T.pkt.csrc.length cc,.bool T.pkt.hasExt,.int .u16 T.pkt.profile,.slice ea T.pkt.ext.length ec,.slice pa T.pkt.payload.length pc,.int .i64 T.pkt.pad,.int .i64 T.dsc.layer,.bool T.dsc.key,.bool T.dsc.start,.int .u16 T.dsc.frame,.slice ia T.items.length ic,.slice ta T.turns.length tc,.int .i64 T.unknown]):=below_setRow (below_alloc w4 _) (Nat.le_refl _) _
   have HC:Hid (BookIn w.heap.size ((w4.alloc (.cells Yz2a 100)).setRow w4.heap.size #[.int .i64 T.adm.kind,.int .i64 T.adm.source,.int .i64 T.adm.epoch,.int .i64 T.adm.err,.bool T.pkt.marker,.int .i64 T.pkt.type,.int .u16 T.pkt.seq,.int .u32 T.pkt.time,.int .u32 T.pkt.ssrc,.slice ca T.pkt.csrc.length cc,.bool T.pkt.hasExt,.int .u16 T.pkt.profile,.slice ea T.pkt.ext.length ec,.slice pa T.pkt.payload.length pc,.int .i64 T.pkt.pad,.int .i64 T.dsc.layer,.bool T.dsc.key,.bool T.dsc.start,.int .u16 T.dsc.frame,.slice ia T.items.length ic,.slice ta T.turns.length tc,.int .i64 T.unknown]) w.heap.size #[.slice (some ⟨g',off',none⟩) L.length vc,av,mv,lv] av (admsTo L j) mv M lv (livesTo L L.length j)):=(HBK3.out.frA HF4.out HD3.out.apartB).below hb45
   have HR:Hid (RO ((w4.alloc (.cells Yz2a 100)).setRow w4.heap.size #[.int .i64 T.adm.kind,.int .i64 T.adm.source,.int .i64 T.adm.epoch,.int .i64 T.adm.err,.bool T.pkt.marker,.int .i64 T.pkt.type,.int .u16 T.pkt.seq,.int .u32 T.pkt.time,.int .u32 T.pkt.ssrc,.slice ca T.pkt.csrc.length cc,.bool T.pkt.hasExt,.int .u16 T.pkt.profile,.slice ea T.pkt.ext.length ec,.slice pa T.pkt.payload.length pc,.int .i64 T.pkt.pad,.int .i64 T.dsc.layer,.bool T.dsc.key,.bool T.dsc.start,.int .u16 T.dsc.frame,.slice ia T.items.length ic,.slice ta T.turns.length tc,.int .i64 T.unknown]) g b w4.heap.size R' ep' #[.int .i64 T.adm.kind,.int .i64 T.adm.source,.int .i64 T.adm.epoch,.int .i64 T.adm.err,.bool T.pkt.marker,.int .i64 T.pkt.type,.int .u16 T.pkt.seq,.int .u32 T.pkt.time,.int .u32 T.pkt.ssrc,.slice ca T.pkt.csrc.length cc,.bool T.pkt.hasExt,.int .u16 T.pkt.profile,.slice ea T.pkt.ext.length ec,.slice pa T.pkt.payload.length pc,.int .i64 T.pkt.pad,.int .i64 T.dsc.layer,.bool T.dsc.key,.bool T.dsc.start,.int .u16 T.dsc.frame,.slice ia T.items.length ic,.slice ta T.turns.length tc,.int .i64 T.unknown] (.slice ta T.turns.length tc) T.turns ⟨T.pkt,T.dsc,.slice ca T.pkt.csrc.length cc,.slice ea T.pkt.ext.length ec,.slice pa T.pkt.payload.length pc⟩):=⟨HD4.out.below hb45,Row.below HTR.out hb45,HPK.out.below hb45,setRow_heap _ _ _ _ _ _ hz7⟩
   have HGE:Hid (w.heap.size≤g∧w.heap.size≤b):=HRS.out.kg.2
   have HBL:Hid (Below w.heap.size w ((w4.alloc (.cells Yz2a 100)).setRow w4.heap.size #[.int .i64 T.adm.kind,.int .i64 T.adm.source,.int .i64 T.adm.epoch,.int .i64 T.adm.err,.bool T.pkt.marker,.int .i64 T.pkt.type,.int .u16 T.pkt.seq,.int .u32 T.pkt.time,.int .u32 T.pkt.ssrc,.slice ca T.pkt.csrc.length cc,.bool T.pkt.hasExt,.int .u16 T.pkt.profile,.slice ea T.pkt.ext.length ec,.slice pa T.pkt.payload.length pc,.int .i64 T.pkt.pad,.int .i64 T.dsc.layer,.bool T.dsc.key,.bool T.dsc.start,.int .u16 T.dsc.frame,.slice ia T.items.length ic,.slice ta T.turns.length tc,.int .i64 T.unknown])):=(((Fr.of_below NoB HBL3.out).trans ⟨HF4.out.os,HF4.out.tape,HF4.out.output,HF4.out.size,fun k hk _=>HF4.out.block k (Nat.lt_of_lt_of_le hk HBL3.out.size) (by have:=HGE.out;omega)⟩).below).trans (hb45.mono (Nat.le_trans HBL3.out.size HF4.out.size))
   clear hb45 hz7 HBK3 HBL3 HD3 HD4 HF4 HPK HTR CT HST HTO hx3 HB3
   generalize ((w4.alloc (.cells Yz2a 100)).setRow w4.heap.size #[.int .i64 T.adm.kind,.int .i64 T.adm.source,.int .i64 T.adm.epoch,.int .i64 T.adm.err,.bool T.pkt.marker,.int .i64 T.pkt.type,.int .u16 T.pkt.seq,.int .u32 T.pkt.time,.int .u32 T.pkt.ssrc,.slice ca T.pkt.csrc.length cc,.bool T.pkt.hasExt,.int .u16 T.pkt.profile,.slice ea T.pkt.ext.length ec,.slice pa T.pkt.payload.length pc,.int .i64 T.pkt.pad,.int .i64 T.dsc.layer,.bool T.dsc.key,.bool T.dsc.start,.int .u16 T.dsc.frame,.slice ia T.items.length ic,.slice ta T.turns.length tc,.int .i64 T.unknown])=w5 at *
   generalize w4.heap.size=K at *
   have HC:=Lib.hid (HC.out.below (Below.refl _ _).drew)
   have HR:=Lib.hid (HR.out.below (Below.refl _ _).drew)
   have HBL:=Lib.hid HBL.out.drew
   have KEEP:Hid (∀ (w':World) c3,w'.heap[w.heap.size]?=some (.cells #[.slice (some ⟨g',off',none⟩) L.length vc,av,mv,c3] 116 (0,0))→w'.heap[K]?=some (.cells #[.int .i64 T.adm.kind,.int .i64 T.adm.source,.int .i64 T.adm.epoch,.int .i64 T.adm.err,.bool T.pkt.marker,.int .i64 T.pkt.type,.int .u16 T.pkt.seq,.int .u32 T.pkt.time,.int .u32 T.pkt.ssrc,.slice ca T.pkt.csrc.length cc,.bool T.pkt.hasExt,.int .u16 T.pkt.profile,.slice ea T.pkt.ext.length ec,.slice pa T.pkt.payload.length pc,.int .i64 T.pkt.pad,.int .i64 T.dsc.layer,.bool T.dsc.key,.bool T.dsc.start,.int .u16 T.dsc.frame,.slice ia T.items.length ic,.slice ta T.turns.length tc,.int .i64 T.unknown] 100 (0,0))→w'.cell? ⟨w.heap.size,1,none⟩=some av∧w'.cell? ⟨w.heap.size,2,none⟩=some mv∧w'.rangeAt K 0 [.int .i64 T.adm.kind,.int .i64 T.adm.source,.int .i64 T.adm.epoch,.int .i64 T.adm.err]∧w'.rangeAt K 4 [.bool T.pkt.marker,.int .i64 T.pkt.type,.int .u16 T.pkt.seq,.int .u32 T.pkt.time,.int .u32 T.pkt.ssrc,.slice ca T.pkt.csrc.length cc,.bool T.pkt.hasExt,.int .u16 T.pkt.profile,.slice ea T.pkt.ext.length ec,.slice pa T.pkt.payload.length pc,.int .i64 T.pkt.pad,.int .i64 T.dsc.layer,.bool T.dsc.key,.bool T.dsc.start,.int .u16 T.dsc.frame]):=fun w' c3 h1 h2=>
    ⟨by rw [cell_of h1 1];rfl,by rw [cell_of h1 2];rfl,fun m v hm=>by
     have h:=(List.getElem?_eq_some_iff.1 hm).1
     have h:m<4:=by simpa using h
     rw [cell_of h2 (0+m),Nat.zero_add]
     rcases m with _|_|_|_|m
     ·exact hm
     ·exact hm
     ·exact hm
     ·exact hm
     ·omega,fun m v hm=>by
     have h:=(List.getElem?_eq_some_iff.1 hm).1
     have h:m<15:=by simpa using h
     rw [cell_of h2 (4+m)]
     rcases m with _|_|_|_|_|_|_|_|_|_|_|_|_|_|_|m
     all_goals first|exact hm|omega⟩
   go_upto_region 7 with fail
   go_cut [] (fun wx=>∃ (na:Option Addr) (nc:Nat) (ma:Option Addr) (mc:Nat),BookIn w.heap.size wx w.heap.size #[.slice (some ⟨g',off',none⟩) L.length vc,.slice na (j+1) nc,.slice ma (j+1) mc,lv] (.slice na (j+1) nc) (admsTo L j++[T.adm]) (.slice ma (j+1) mc) (M++[(⟨T.pkt,T.dsc,.slice ca T.pkt.csrc.length cc,.slice ea T.pkt.ext.length ec,.slice pa T.pkt.payload.length pc⟩:MedV)]) lv (livesTo L L.length j)∧RO wx g b K R' ep' #[.int .i64 T.adm.kind,.int .i64 T.adm.source,.int .i64 T.adm.epoch,.int .i64 T.adm.err,.bool T.pkt.marker,.int .i64 T.pkt.type,.int .u16 T.pkt.seq,.int .u32 T.pkt.time,.int .u32 T.pkt.ssrc,.slice ca T.pkt.csrc.length cc,.bool T.pkt.hasExt,.int .u16 T.pkt.profile,.slice ea T.pkt.ext.length ec,.slice pa T.pkt.payload.length pc,.int .i64 T.pkt.pad,.int .i64 T.dsc.layer,.bool T.dsc.key,.bool T.dsc.start,.int .u16 T.dsc.frame,.slice ia T.items.length ic,.slice ta T.turns.length tc,.int .i64 T.unknown] (.slice ta T.turns.length tc) T.turns ⟨T.pkt,T.dsc,.slice ca T.pkt.csrc.length cc,.slice ea T.pkt.ext.length ec,.slice pa T.pkt.payload.length pc⟩∧Below w.heap.size w wx)
   case first=>
    refine wp_region_noPanic ?_
    refine AnyT.region_start (d:=20) (S:=(fun w'=>w'.cell? ⟨w.heap.size,1,none⟩=some av∧w'.cell? ⟨w.heap.size,2,none⟩=some mv∧w'.rangeAt K 0 [.int .i64 T.adm.kind,.int .i64 T.adm.source,.int .i64 T.adm.epoch,.int .i64 T.adm.err]∧w'.rangeAt K 4 [.bool T.pkt.marker,.int .i64 T.pkt.type,.int .u16 T.pkt.seq,.int .u32 T.pkt.time,.int .u32 T.pkt.ssrc,.slice ca T.pkt.csrc.length cc,.bool T.pkt.hasExt,.int .u16 T.pkt.profile,.slice ea T.pkt.ext.length ec,.slice pa T.pkt.payload.length pc,.int .i64 T.pkt.pad,.int .i64 T.dsc.layer,.bool T.dsc.key,.bool T.dsc.start,.int .u16 T.dsc.frame])) Yo3 ?_ (fun _=>?_)
    ·(try dsimp only)
     exact KEEP.out _ _ HC.out.blk HR.out.tk
    refine YP 0 (h:=YP 1 (h:=YP 2 (h:=YP 3 (h:=YP 4 (h:=YP 6 (h:=YP 10 (h:=YP 11 (h:=YP 12 (h:=YP 14 (h:=YK 5 (h:=?_)))))))))))
    refine AnyT.till_take (i:=7) (v:=?_) rfl Yo3 Yo3 Yo3 Yo3 (fun _ _ _ h=>h) (Or.inl ⟨by rfl,?_⟩) Yo25 ?_
    rotate_left
    ·intro w hSw
     (try dsimp only at hSw)
     refine (exec_load_mid 35 (.tmp 34) ?_ K 0 ?_ [.int .i64 T.adm.kind,.int .i64 T.adm.source,.int .i64 T.adm.epoch,.int .i64 T.adm.err] _ hSw.2.2.1 Tryz.underlying35 rfl Yo3).trans ?_
     all_goals rfl
    try simp only [AnyT.pt]
    refine YK 13 (h:=?_)
    refine AnyT.till_take (i:=15) (v:=?_) rfl Yo3 Yo3 Yo3 Yo3 (fun _ _ _ h=>h) (Or.inl ⟨by rfl,?_⟩) Yo25 ?_
    rotate_left
    ·intro w hSw
     (try dsimp only at hSw)
     refine (exec_load_mid 97 (.tmp 42) ?_ K 4 ?_ [.bool T.pkt.marker,.int .i64 T.pkt.type,.int .u16 T.pkt.seq,.int .u32 T.pkt.time,.int .u32 T.pkt.ssrc,.slice ca T.pkt.csrc.length cc,.bool T.pkt.hasExt,.int .u16 T.pkt.profile,.slice ea T.pkt.ext.length ec,.slice pa T.pkt.payload.length pc,.int .i64 T.pkt.pad,.int .i64 T.dsc.layer,.bool T.dsc.key,.bool T.dsc.start,.int .u16 T.dsc.frame] _ hSw.2.2.2 Tryz.underlying97 rfl Yo3).trans ?_
     all_goals rfl
    try simp only [AnyT.pt]
    refine AnyT.till_ready (rs:=[8,16]) Yo3 (by simp) ?_
    refine AnyT.each_cons (i:=8) rfl (fun K hK=>?_) ?_
    ·skip
     refine step_slice1 (by rfl) elemAdm (.tmp 35) (by rfl) #[.int .i64 T.adm.kind,.int .i64 T.adm.source,.int .i64 T.adm.epoch,.int .i64 T.adm.err] (by rfl) (by rfl) (by decide) ?_
     have HR8:Hid (Row (w5.drew.alloc (.cells #[.int .i64 T.adm.kind,.int .i64 T.adm.source,.int .i64 T.adm.epoch,.int .i64 T.adm.err] 35)) 35 (.slice (some ⟨w5.drew.heap.size,0,none⟩) 1 1) 1 ([T.adm].flatMap admC4)):=rowNew w5.drew 35 1 ([T.adm].flatMap admC4) (by decide)
     have hal:=below_alloc w5.drew (.cells #[.int .i64 T.adm.kind,.int .i64 T.adm.source,.int .i64 T.adm.epoch,.int .i64 T.adm.err] 35)
     have HC:=Lib.hid (HC.out.below hal)
     have HR:=Lib.hid (HR.out.below hal)
     have HBL:=Lib.hid (HBL.out.trans (hal.mono HBL.out.size))
     clear hal
     refine AnyT.go_on hK _ _ ?_ (fun _=>?_)
     ·(try dsimp only)
      exact KEEP.out _ _ HC.out.blk HR.out.tk
     clear hK K
     try simp only [AnyT.pt]
     refine AnyT.till_ready (rs:=[9,16]) Yo3 (by simp) ?_
     refine AnyT.each_cons (i:=9) rfl (fun K hK=>?_) ?_
     ·skip
      refine step_app (by rfl) (.tmp 33) (.tmp 36) 37 (by rfl) w.heap.size elemAdm av (admsTo L j).length ((admsTo L j).flatMap admC4) (by rfl) HC.out.adm _ 1 ([T.adm].flatMap admC4) (by rfl) HR8.out rfl (flat_one fun x _=>adm_one x) (by rw [admsTo_len];omega) (by rw [admsTo_len];omega) ?_ ?_
      ·exact HBL.out.size
      intro v9 w6 HO9 HG9
      have HA6:Hid (w6.ownsRow w.heap.size 35 4 v9 (admsTo L j++[T.adm]).length ((admsTo L j++[T.adm]).flatMap admC4)):=(by have h:=HO9.out;rw [List.length_append,List.flatMap_append];exact h)
      obtain ⟨na,nc,hnv,-⟩:=Row.of_owns HA6.out
      rw [show (admsTo L j++[T.adm]).length=j+1 by rw [List.length_append,admsTo_len];rfl] at hnv
      subst hnv
      have HFA:Hid (Far (w5.drew.alloc (.cells #[.int .i64 T.adm.kind,.int .i64 T.adm.source,.int .i64 T.adm.epoch,.int .i64 T.adm.err] 35)) (fun i=>av.ownBlock=some i)):=fun i hi=>(by obtain ⟨cu,hc⟩:=owns_blk HC.out.adm i hi;exact ⟨cu,_,_,hc,Or.inr (Or.inl rfl)⟩)
      have HR:=Lib.hid (HR.out.far (fr_grown HG9.out) HFA.out)
      have HBL:Hid (Below w.heap.size w w6):=((Fr.of_below NoB HBL.out).grown HG9.out HBL.out.size (own_le HC.out.adm)).below
      have HC:=Lib.hid (HC.out.growA HG9.out HA6.out)
      refine AnyT.go_on hK _ _ ?_ (fun _=>?_)
      ·(try dsimp only)
       exact KEEP.out _ _ HC.out.blk HR.out.tk
      clear hK K
      try simp only [AnyT.pt]
      refine YR 16 (h:=fun K hK=>?_)
      refine step_slice1 (by rfl) elemMed (.tmp 43) (by rfl) #[.bool T.pkt.marker,.int .i64 T.pkt.type,.int .u16 T.pkt.seq,.int .u32 T.pkt.time,.int .u32 T.pkt.ssrc,.slice ca T.pkt.csrc.length cc,.bool T.pkt.hasExt,.int .u16 T.pkt.profile,.slice ea T.pkt.ext.length ec,.slice pa T.pkt.payload.length pc,.int .i64 T.pkt.pad,.int .i64 T.dsc.layer,.bool T.dsc.key,.bool T.dsc.start,.int .u16 T.dsc.frame] (by rfl) (by rfl) (by decide) ?_
      have HR16:Hid (Row (w6.alloc (.cells #[.bool T.pkt.marker,.int .i64 T.pkt.type,.int .u16 T.pkt.seq,.int .u32 T.pkt.time,.int .u32 T.pkt.ssrc,.slice ca T.pkt.csrc.length cc,.bool T.pkt.hasExt,.int .u16 T.pkt.profile,.slice ea T.pkt.ext.length ec,.slice pa T.pkt.payload.length pc,.int .i64 T.pkt.pad,.int .i64 T.dsc.layer,.bool T.dsc.key,.bool T.dsc.start,.int .u16 T.dsc.frame] 97)) 97 (.slice (some ⟨w6.heap.size,0,none⟩) 1 1) 1 ([(⟨T.pkt,T.dsc,.slice ca T.pkt.csrc.length cc,.slice ea T.pkt.ext.length ec,.slice pa T.pkt.payload.length pc⟩:MedV)].flatMap medvCells)):=rowNew w6 97 1 ([(⟨T.pkt,T.dsc,.slice ca T.pkt.csrc.length cc,.slice ea T.pkt.ext.length ec,.slice pa T.pkt.payload.length pc⟩:MedV)].flatMap medvCells) (by decide)
      have hal:=below_alloc w6 (.cells #[.bool T.pkt.marker,.int .i64 T.pkt.type,.int .u16 T.pkt.seq,.int .u32 T.pkt.time,.int .u32 T.pkt.ssrc,.slice ca T.pkt.csrc.length cc,.bool T.pkt.hasExt,.int .u16 T.pkt.profile,.slice ea T.pkt.ext.length ec,.slice pa T.pkt.payload.length pc,.int .i64 T.pkt.pad,.int .i64 T.dsc.layer,.bool T.dsc.key,.bool T.dsc.start,.int .u16 T.dsc.frame] 97)
      have HC:=Lib.hid (HC.out.below hal)
      have HR:=Lib.hid (HR.out.below hal)
      have HBL:=Lib.hid (HBL.out.trans (hal.mono HBL.out.size))
      clear hal
      refine AnyT.go_on hK _ _ ?_ (fun _=>?_)
      ·(try dsimp only)
       exact KEEP.out _ _ HC.out.blk HR.out.tk
      clear hK K
      try simp only [AnyT.pt]
      refine YR 17 (h:=fun K hK=>?_)
      refine step_app (by rfl) (.tmp 41) (.tmp 44) 114 (by rfl) w.heap.size elemMed mv M.length (M.flatMap medvCells) (by rfl) HC.out.med _ 1 ([(⟨T.pkt,T.dsc,.slice ca T.pkt.csrc.length cc,.slice ea T.pkt.ext.length ec,.slice pa T.pkt.payload.length pc⟩:MedV)].flatMap medvCells) (by rfl) HR16.out rfl medv_one1 (by rw [HML.out];omega) (by rw [HML.out];omega) ?_ ?_
      ·exact HBL.out.size
      intro v17 w7 HO17 HG17
      have HM7:Hid (w7.ownsRow w.heap.size 97 15 v17 (M++[(⟨T.pkt,T.dsc,.slice ca T.pkt.csrc.length cc,.slice ea T.pkt.ext.length ec,.slice pa T.pkt.payload.length pc⟩:MedV)]).length ((M++[(⟨T.pkt,T.dsc,.slice ca T.pkt.csrc.length cc,.slice ea T.pkt.ext.length ec,.slice pa T.pkt.payload.length pc⟩:MedV)]).flatMap medvCells)):=(by have h:=HO17.out;rw [List.length_append,List.flatMap_append];exact h)
      obtain ⟨ma,mc,hmv,-⟩:=Row.of_owns HM7.out
      rw [show (M++[(⟨T.pkt,T.dsc,.slice ca T.pkt.csrc.length cc,.slice ea T.pkt.ext.length ec,.slice pa T.pkt.payload.length pc⟩:MedV)]).length=j+1 by rw [List.length_append,HML.out];rfl] at hmv
      subst hmv
      have HEA:Hid (∀ x∈M++[(⟨T.pkt,T.dsc,.slice ca T.pkt.csrc.length cc,.slice ea T.pkt.ext.length ec,.slice pa T.pkt.payload.length pc⟩:MedV)],PktR w7 x.p x.cv x.ev x.pv):=fun x hx=>Yo12
      have HFM:Hid (Far (w6.alloc (.cells #[.bool T.pkt.marker,.int .i64 T.pkt.type,.int .u16 T.pkt.seq,.int .u32 T.pkt.time,.int .u32 T.pkt.ssrc,.slice ca T.pkt.csrc.length cc,.bool T.pkt.hasExt,.int .u16 T.pkt.profile,.slice ea T.pkt.ext.length ec,.slice pa T.pkt.payload.length pc,.int .i64 T.pkt.pad,.int .i64 T.dsc.layer,.bool T.dsc.key,.bool T.dsc.start,.int .u16 T.dsc.frame] 97)) (fun i=>mv.ownBlock=some i)):=fun i hi=>(by obtain ⟨cu,hc⟩:=owns_blk HC.out.med i hi;exact ⟨cu,_,_,hc,Or.inr (Or.inr (Or.inl rfl))⟩)
      have HR:=Lib.hid (HR.out.far (fr_grown HG17.out) HFM.out)
      have HBL:Hid (Below w.heap.size w w7):=((Fr.of_below NoB HBL.out).grown HG17.out HBL.out.size (own_le HC.out.med)).below
      have HC:=Lib.hid (HC.out.growM HG17.out HM7.out HEA.out)
      obtain ⟨b0,b1,b2,b3,b4⟩:=HC.out.cells
      have b41:=b4 1
      have b42:=b4 2
      refine AnyT.go_on hK _ _ ?_ (fun _=>?_)
      ·(try dsimp only)
       exact KEEP.out _ _ HC.out.blk HR.out.tk
      clear hK K
      try simp only [AnyT.pt]
      refine YP 18 (h:=YP 19 (h:=?_))
      refine YR 20 (h:=fun K hK=>?_)
      go_simp
      have HFK:Hid (Far w7 (· = w.heap.size)):=fun i hi=>Yo19
      have HR:=Lib.hid (HR.out.far (w':=w7.setCell ⟨w.heap.size,1,none⟩ (.slice na (j+1) nc)) ((Fr.refl _ _ _).setAt _ _) HFK.out)
      have HBL:Hid (Below w.heap.size w (w7.setCell ⟨w.heap.size,1,none⟩ (.slice na (j+1) nc))):=((Fr.of_below NoB HBL.out).setCell (p:=⟨w.heap.size,1,none⟩) (Or.inl (Nat.le_refl _)) _).below
      have HC:=Lib.hid (HC.out.setK 1 (.slice na (j+1) nc))
      obtain ⟨d0,d1,d2,d3,d4⟩:=HC.out.cells
      have d42:=d4 2
      refine AnyT.go_past hK _ _ Yo3 ?_
      clear hK K
      try simp only [AnyT.pt]
      refine YP 21 (h:=YP 22 (h:=?_))
      refine YR 23 (h:=fun K hK=>?_)
      go_simp
      have HFK:Hid (Far (w7.setCell ⟨w.heap.size,1,none⟩ (.slice na (j+1) nc)) (· = w.heap.size)):=fun i hi=>Yo19
      have HR:=Lib.hid (HR.out.far (w':=(w7.setCell ⟨w.heap.size,1,none⟩ (.slice na (j+1) nc)).setCell ⟨w.heap.size,2,none⟩ (.slice ma (j+1) mc)) ((Fr.refl _ _ _).setAt _ _) HFK.out)
      have HBL:Hid (Below w.heap.size w ((w7.setCell ⟨w.heap.size,1,none⟩ (.slice na (j+1) nc)).setCell ⟨w.heap.size,2,none⟩ (.slice ma (j+1) mc))):=((Fr.of_below NoB HBL.out).setCell (p:=⟨w.heap.size,2,none⟩) (Or.inl (Nat.le_refl _)) _).below
      have HC:=Lib.hid (HC.out.setK 2 (.slice ma (j+1) mc))
      refine AnyT.go_past hK _ _ Yo3 ?_
      clear hK K
      try simp only [AnyT.pt]
      refine AnyT.till_done Yo3 ?_ _
      refine NoPanic.normal ?_
      go_wp2_with fail
      go_meet
      exact ⟨na,nc,ma,mc,HC.out,HR.out,HBL.out⟩
     refine AnyT.each_cons (i:=16) rfl (fun K hK=>?_) AnyT.each_nil
     refine step_slice1 (by rfl) elemMed (.tmp 43) (by rfl) #[.bool T.pkt.marker,.int .i64 T.pkt.type,.int .u16 T.pkt.seq,.int .u32 T.pkt.time,.int .u32 T.pkt.ssrc,.slice ca T.pkt.csrc.length cc,.bool T.pkt.hasExt,.int .u16 T.pkt.profile,.slice ea T.pkt.ext.length ec,.slice pa T.pkt.payload.length pc,.int .i64 T.pkt.pad,.int .i64 T.dsc.layer,.bool T.dsc.key,.bool T.dsc.start,.int .u16 T.dsc.frame] (by rfl) (by rfl) (by decide) ?_
     have HR16:Hid (Row ((w5.drew.alloc (.cells #[.int .i64 T.adm.kind,.int .i64 T.adm.source,.int .i64 T.adm.epoch,.int .i64 T.adm.err] 35)).alloc (.cells #[.bool T.pkt.marker,.int .i64 T.pkt.type,.int .u16 T.pkt.seq,.int .u32 T.pkt.time,.int .u32 T.pkt.ssrc,.slice ca T.pkt.csrc.length cc,.bool T.pkt.hasExt,.int .u16 T.pkt.profile,.slice ea T.pkt.ext.length ec,.slice pa T.pkt.payload.length pc,.int .i64 T.pkt.pad,.int .i64 T.dsc.layer,.bool T.dsc.key,.bool T.dsc.start,.int .u16 T.dsc.frame] 97)) 97 (.slice (some ⟨(w5.drew.alloc (.cells #[.int .i64 T.adm.kind,.int .i64 T.adm.source,.int .i64 T.adm.epoch,.int .i64 T.adm.err] 35)).heap.size,0,none⟩) 1 1) 1 ([(⟨T.pkt,T.dsc,.slice ca T.pkt.csrc.length cc,.slice ea T.pkt.ext.length ec,.slice pa T.pkt.payload.length pc⟩:MedV)].flatMap medvCells)):=rowNew (w5.drew.alloc (.cells #[.int .i64 T.adm.kind,.int .i64 T.adm.source,.int .i64 T.adm.epoch,.int .i64 T.adm.err] 35)) 97 1 ([(⟨T.pkt,T.dsc,.slice ca T.pkt.csrc.length cc,.slice ea T.pkt.ext.length ec,.slice pa T.pkt.payload.length pc⟩:MedV)].flatMap medvCells) (by decide)
     have hal:=below_alloc (w5.drew.alloc (.cells #[.int .i64 T.adm.kind,.int .i64 T.adm.source,.int .i64 T.adm.epoch,.int .i64 T.adm.err] 35)) (.cells #[.bool T.pkt.marker,.int .i64 T.pkt.type,.int .u16 T.pkt.seq,.int .u32 T.pkt.time,.int .u32 T.pkt.ssrc,.slice ca T.pkt.csrc.length cc,.bool T.pkt.hasExt,.int .u16 T.pkt.profile,.slice ea T.pkt.ext.length ec,.slice pa T.pkt.payload.length pc,.int .i64 T.pkt.pad,.int .i64 T.dsc.layer,.bool T.dsc.key,.bool T.dsc.start,.int .u16 T.dsc.frame] 97)
     have HC:=Lib.hid (HC.out.below hal)
     have HR:=Lib.hid (HR.out.below hal)
     have HBL:=Lib.hid (HBL.out.trans (hal.mono HBL.out.size))
     have HR8:=Lib.hid (Row.below HR8.out hal)
     clear hal
     refine AnyT.go_on hK _ _ ?_ (fun _=>?_)
     ·(try dsimp only)
      exact KEEP.out _ _ HC.out.blk HR.out.tk
     clear hK K
     try simp only [AnyT.pt]
     refine YR 9 (h:=fun K hK=>?_)
     refine step_app (by rfl) (.tmp 33) (.tmp 36) 37 (by rfl) w.heap.size elemAdm av (admsTo L j).length ((admsTo L j).flatMap admC4) (by rfl) HC.out.adm _ 1 ([T.adm].flatMap admC4) (by rfl) HR8.out rfl (flat_one fun x _=>adm_one x) (by rw [admsTo_len];omega) (by rw [admsTo_len];omega) ?_ ?_
     ·exact HBL.out.size
     intro v9 w6 HO9 HG9
     have HA6:Hid (w6.ownsRow w.heap.size 35 4 v9 (admsTo L j++[T.adm]).length ((admsTo L j++[T.adm]).flatMap admC4)):=(by have h:=HO9.out;rw [List.length_append,List.flatMap_append];exact h)
     obtain ⟨na,nc,hnv,-⟩:=Row.of_owns HA6.out
     rw [show (admsTo L j++[T.adm]).length=j+1 by rw [List.length_append,admsTo_len];rfl] at hnv
     subst hnv
     have HFA:Hid (Far ((w5.drew.alloc (.cells #[.int .i64 T.adm.kind,.int .i64 T.adm.source,.int .i64 T.adm.epoch,.int .i64 T.adm.err] 35)).alloc (.cells #[.bool T.pkt.marker,.int .i64 T.pkt.type,.int .u16 T.pkt.seq,.int .u32 T.pkt.time,.int .u32 T.pkt.ssrc,.slice ca T.pkt.csrc.length cc,.bool T.pkt.hasExt,.int .u16 T.pkt.profile,.slice ea T.pkt.ext.length ec,.slice pa T.pkt.payload.length pc,.int .i64 T.pkt.pad,.int .i64 T.dsc.layer,.bool T.dsc.key,.bool T.dsc.start,.int .u16 T.dsc.frame] 97)) (fun i=>av.ownBlock=some i)):=fun i hi=>(by obtain ⟨cu,hc⟩:=owns_blk HC.out.adm i hi;exact ⟨cu,_,_,hc,Or.inr (Or.inl rfl)⟩)
     exact Yx13
    refine AnyT.each_cons (i:=16) rfl (fun K hK=>?_) AnyT.each_nil
    refine step_slice1 (by rfl) elemMed (.tmp 43) (by rfl) #[.bool T.pkt.marker,.int .i64 T.pkt.type,.int .u16 T.pkt.seq,.int .u32 T.pkt.time,.int .u32 T.pkt.ssrc,.slice ca T.pkt.csrc.length cc,.bool T.pkt.hasExt,.int .u16 T.pkt.profile,.slice ea T.pkt.ext.length ec,.slice pa T.pkt.payload.length pc,.int .i64 T.pkt.pad,.int .i64 T.dsc.layer,.bool T.dsc.key,.bool T.dsc.start,.int .u16 T.dsc.frame] (by rfl) (by rfl) (by decide) ?_
    have HR16:Hid (Row (w5.drew.alloc (.cells #[.bool T.pkt.marker,.int .i64 T.pkt.type,.int .u16 T.pkt.seq,.int .u32 T.pkt.time,.int .u32 T.pkt.ssrc,.slice ca T.pkt.csrc.length cc,.bool T.pkt.hasExt,.int .u16 T.pkt.profile,.slice ea T.pkt.ext.length ec,.slice pa T.pkt.payload.length pc,.int .i64 T.pkt.pad,.int .i64 T.dsc.layer,.bool T.dsc.key,.bool T.dsc.start,.int .u16 T.dsc.frame] 97)) 97 (.slice (some ⟨w5.drew.heap.size,0,none⟩) 1 1) 1 ([(⟨T.pkt,T.dsc,.slice ca T.pkt.csrc.length cc,.slice ea T.pkt.ext.length ec,.slice pa T.pkt.payload.length pc⟩:MedV)].flatMap medvCells)):=rowNew w5.drew 97 1 ([(⟨T.pkt,T.dsc,.slice ca T.pkt.csrc.length cc,.slice ea T.pkt.ext.length ec,.slice pa T.pkt.payload.length pc⟩:MedV)].flatMap medvCells) (by decide)
    have hal:=below_alloc w5.drew (.cells #[.bool T.pkt.marker,.int .i64 T.pkt.type,.int .u16 T.pkt.seq,.int .u32 T.pkt.time,.int .u32 T.pkt.ssrc,.slice ca T.pkt.csrc.length cc,.bool T.pkt.hasExt,.int .u16 T.pkt.profile,.slice ea T.pkt.ext.length ec,.slice pa T.pkt.payload.length pc,.int .i64 T.pkt.pad,.int .i64 T.dsc.layer,.bool T.dsc.key,.bool T.dsc.start,.int .u16 T.dsc.frame] 97)
    have HC:=Lib.hid (HC.out.below hal)
    have HR:=Lib.hid (HR.out.below hal)
    have HBL:=Lib.hid (HBL.out.trans (hal.mono HBL.out.size))
    clear hal
    refine AnyT.go_on hK _ _ ?_ (fun _=>?_)
    ·(try dsimp only)
     exact KEEP.out _ _ HC.out.blk HR.out.tk
    clear hK K
    try simp only [AnyT.pt]
    refine YR 8 (h:=fun K hK=>?_)
    refine step_slice1 (by rfl) elemAdm (.tmp 35) (by rfl) #[.int .i64 T.adm.kind,.int .i64 T.adm.source,.int .i64 T.adm.epoch,.int .i64 T.adm.err] (by rfl) (by rfl) (by decide) ?_
    have HR8:Hid (Row ((w5.drew.alloc (.cells #[.bool T.pkt.marker,.int .i64 T.pkt.type,.int .u16 T.pkt.seq,.int .u32 T.pkt.time,.int .u32 T.pkt.ssrc,.slice ca T.pkt.csrc.length cc,.bool T.pkt.hasExt,.int .u16 T.pkt.profile,.slice ea T.pkt.ext.length ec,.slice pa T.pkt.payload.length pc,.int .i64 T.pkt.pad,.int .i64 T.dsc.layer,.bool T.dsc.key,.bool T.dsc.start,.int .u16 T.dsc.frame] 97)).alloc (.cells #[.int .i64 T.adm.kind,.int .i64 T.adm.source,.int .i64 T.adm.epoch,.int .i64 T.adm.err] 35)) 35 (.slice (some ⟨(w5.drew.alloc (.cells #[.bool T.pkt.marker,.int .i64 T.pkt.type,.int .u16 T.pkt.seq,.int .u32 T.pkt.time,.int .u32 T.pkt.ssrc,.slice ca T.pkt.csrc.length cc,.bool T.pkt.hasExt,.int .u16 T.pkt.profile,.slice ea T.pkt.ext.length ec,.slice pa T.pkt.payload.length pc,.int .i64 T.pkt.pad,.int .i64 T.dsc.layer,.bool T.dsc.key,.bool T.dsc.start,.int .u16 T.dsc.frame] 97)).heap.size,0,none⟩) 1 1) 1 ([T.adm].flatMap admC4)):=rowNew (w5.drew.alloc (.cells #[.bool T.pkt.marker,.int .i64 T.pkt.type,.int .u16 T.pkt.seq,.int .u32 T.pkt.time,.int .u32 T.pkt.ssrc,.slice ca T.pkt.csrc.length cc,.bool T.pkt.hasExt,.int .u16 T.pkt.profile,.slice ea T.pkt.ext.length ec,.slice pa T.pkt.payload.length pc,.int .i64 T.pkt.pad,.int .i64 T.dsc.layer,.bool T.dsc.key,.bool T.dsc.start,.int .u16 T.dsc.frame] 97)) 35 1 ([T.adm].flatMap admC4) (by decide)
    have hal:=below_alloc (w5.drew.alloc (.cells #[.bool T.pkt.marker,.int .i64 T.pkt.type,.int .u16 T.pkt.seq,.int .u32 T.pkt.time,.int .u32 T.pkt.ssrc,.slice ca T.pkt.csrc.length cc,.bool T.pkt.hasExt,.int .u16 T.pkt.profile,.slice ea T.pkt.ext.length ec,.slice pa T.pkt.payload.length pc,.int .i64 T.pkt.pad,.int .i64 T.dsc.layer,.bool T.dsc.key,.bool T.dsc.start,.int .u16 T.dsc.frame] 97)) (.cells #[.int .i64 T.adm.kind,.int .i64 T.adm.source,.int .i64 T.adm.epoch,.int .i64 T.adm.err] 35)
    have HC:=Lib.hid (HC.out.below hal)
    have HR:=Lib.hid (HR.out.below hal)
    have HBL:=Lib.hid (HBL.out.trans (hal.mono HBL.out.size))
    have HR16:=Lib.hid (Row.below HR16.out hal)
    clear hal
    refine AnyT.go_on hK _ _ ?_ (fun _=>?_)
    ·(try dsimp only)
     exact KEEP.out _ _ HC.out.blk HR.out.tk
    clear hK K
    try simp only [AnyT.pt]
    refine YR 9 (h:=fun K hK=>?_)
    refine step_app (by rfl) (.tmp 33) (.tmp 36) 37 (by rfl) w.heap.size elemAdm av (admsTo L j).length ((admsTo L j).flatMap admC4) (by rfl) HC.out.adm _ 1 ([T.adm].flatMap admC4) (by rfl) HR8.out rfl (flat_one fun x _=>adm_one x) (by rw [admsTo_len];omega) (by rw [admsTo_len];omega) ?_ ?_
    ·exact HBL.out.size
    intro v9 w6 HO9 HG9
    have HA6:Hid (w6.ownsRow w.heap.size 35 4 v9 (admsTo L j++[T.adm]).length ((admsTo L j++[T.adm]).flatMap admC4)):=(by have h:=HO9.out;rw [List.length_append,List.flatMap_append];exact h)
    obtain ⟨na,nc,hnv,-⟩:=Row.of_owns HA6.out
    rw [show (admsTo L j++[T.adm]).length=j+1 by rw [List.length_append,admsTo_len];rfl] at hnv
    subst hnv
    have HFA:Hid (Far ((w5.drew.alloc (.cells #[.bool T.pkt.marker,.int .i64 T.pkt.type,.int .u16 T.pkt.seq,.int .u32 T.pkt.time,.int .u32 T.pkt.ssrc,.slice ca T.pkt.csrc.length cc,.bool T.pkt.hasExt,.int .u16 T.pkt.profile,.slice ea T.pkt.ext.length ec,.slice pa T.pkt.payload.length pc,.int .i64 T.pkt.pad,.int .i64 T.dsc.layer,.bool T.dsc.key,.bool T.dsc.start,.int .u16 T.dsc.frame] 97)).alloc (.cells #[.int .i64 T.adm.kind,.int .i64 T.adm.source,.int .i64 T.adm.epoch,.int .i64 T.adm.err] 35)) (fun i=>av.ownBlock=some i)):=fun i hi=>(by obtain ⟨cu,hc⟩:=owns_blk HC.out.adm i hi;exact ⟨cu,_,_,hc,Or.inr (Or.inl rfl)⟩)
    exact Yx13
   case rest=>
    obtain ⟨w9,rfl⟩:∃ W:World,W=wc:=⟨_,rfl⟩
    obtain ⟨na,nc,ma,mc,hbk9,hro9,hbel9⟩:=hcut
    have HC:=Lib.hid hbk9
    have HR:=Lib.hid hro9
    have HBL:=Lib.hid hbel9
    have k20:=cell_of hro9.tk 20
    simp only [List.getElem?_toArray,List.getElem?_cons_zero,List.getElem?_cons_succ] at k20
    clear hbk9 hro9 hbel9 KEEP
    go_wp2_with fail
    go_loopw [53] (fun s53 w'=>∃ (i:Nat) (lv':Value),i≤T.turns.length∧s53 = .int .i64 (i:Int)∧BookIn w.heap.size w' w.heap.size #[.slice (some ⟨g',off',none⟩) L.length vc,.slice na (j+1) nc,.slice ma (j+1) mc,lv'] (.slice na (j+1) nc) (admsTo L j++[T.adm]) (.slice ma (j+1) mc) (M++[(⟨T.pkt,T.dsc,.slice ca T.pkt.csrc.length cc,.slice ea T.pkt.ext.length ec,.slice pa T.pkt.payload.length pc⟩:MedV)]) lv' (livesOf L.length j (livesTo L L.length j) (T.turns.take i))∧RO w' g b K R' ep' #[.int .i64 T.adm.kind,.int .i64 T.adm.source,.int .i64 T.adm.epoch,.int .i64 T.adm.err,.bool T.pkt.marker,.int .i64 T.pkt.type,.int .u16 T.pkt.seq,.int .u32 T.pkt.time,.int .u32 T.pkt.ssrc,.slice ca T.pkt.csrc.length cc,.bool T.pkt.hasExt,.int .u16 T.pkt.profile,.slice ea T.pkt.ext.length ec,.slice pa T.pkt.payload.length pc,.int .i64 T.pkt.pad,.int .i64 T.dsc.layer,.bool T.dsc.key,.bool T.dsc.start,.int .u16 T.dsc.frame,.slice ia T.items.length ic,.slice ta T.turns.length tc,.int .i64 T.unknown] (.slice ta T.turns.length tc) T.turns ⟨T.pkt,T.dsc,.slice ca T.pkt.csrc.length cc,.slice ea T.pkt.ext.length ec,.slice pa T.pkt.payload.length pc⟩∧Below w.heap.size w w') (fun s53 _=>T.turns.length-(intOf s53).toNat)
    case atStart=>exact ⟨0,lv,by omega,rfl,HC.out,HR.out,HBL.out⟩
    case round=>
     obtain ⟨i,lv',hi,rfl,hbk,hro,hbel⟩:=hrel
     have HC2:=Lib.hid hbk
     have HR2:=Lib.hid hro
     have HBL2:=Lib.hid hbel
     clear HC HR HBL k20
     by_cases hil:i<T.turns.length
     ·obtain ⟨g5,off5,e5,hat⟩:=row_atB turnCells 5 (fun _=>rfl) hro.turns (by omega)
      cases e5
      have ht:T.turns[i]?=some T.turns[i]:=List.getElem?_eq_getElem hil
      have hat:=hat i _ ht
      have HTK:=Lib.hid (take_snocM ht)
      generalize T.turns[i]=t at *
      have HSN:=Lib.hid (livesOf_snoc L.length j (livesTo L L.length j) (T.turns.take i) t)
      have hlen:=livesOf_len L.length j (T.turns.take i) (livesTo L L.length j)
      rw [List.length_take] at hlen
      have hlen2:=HLL.out
      have hlen3:=HTL.out
      have hrg:wr.rangeAt g5 (off5+i*5) [.int .i64 t.kind,.int .i64 t.peer,.int .i64 t.source,.int .i64 t.layer,.int .u32 t.ssrc]:=fun m v hm=>(hat m Yo18).trans hm
      have hiI:(i:Int)<(T.turns.length:Int):=Int.ofNat_lt.2 hil
      have hz:=heap_new wr (.cells #[.int .i64 0,.int .i64 0,.int .i64 0,.int .i64 0,.int .u32 0] 158)
      have hx3:=setRow_heap _ _ _ #[.int .i64 t.kind,.int .i64 t.peer,.int .i64 t.source,.int .i64 t.layer,.int .u32 t.ssrc] _ _ hz
      have HB3:Hid (Below wr.heap.size wr ((wr.alloc (.cells #[.int .i64 0,.int .i64 0,.int .i64 0,.int .i64 0,.int .u32 0] 158)).setRow wr.heap.size #[.int .i64 t.kind,.int .i64 t.peer,.int .i64 t.source,.int .i64 t.layer,.int .u32 t.ssrc])):=below_setRow (below_alloc wr _) (Nat.le_refl _) _
      have HC3:=Lib.hid (HC2.out.below HB3.out)
      have HR3:=Lib.hid (HR2.out.below HB3.out)
      have HBL3:=Lib.hid (HBL2.out.trans (HB3.out.mono HBL2.out.size))
      clear hbk hro hbel hat HC2 HR2 HB3
      go_upto_region 11 with (first|(with_reducible refine load_at 158 (.tmp 55) rfl ?_;refine wpList_load_mid rfl 158 (.tmp 55) rfl g5 (off5+i*5) rfl [.int .i64 t.kind,.int .i64 t.peer,.int .i64 t.source,.int .i64 t.layer,.int .u32 t.ssrc] _ hrg Tryz.underlying158 rfl Yo3 ?_)|(with_reducible refine store_at 158 (.tmp 9) (.tmp 56) rfl ?_;refine store_rowTo2 rfl 158 (.tmp 9) (.tmp 56) rfl rfl wr.heap.size #[.int .i64 t.kind,.int .i64 t.peer,.int .i64 t.source,.int .i64 t.layer,.int .u32 t.ssrc] rfl rfl 158 #[.int .i64 0,.int .i64 0,.int .i64 0,.int .i64 0,.int .u32 0] hz Yo3 Yo3 Yo3 ?_))
      clear hz hrg
      generalize ((wr.alloc (.cells #[.int .i64 0,.int .i64 0,.int .i64 0,.int .i64 0,.int .u32 0] 158)).setRow wr.heap.size #[.int .i64 t.kind,.int .i64 t.peer,.int .i64 t.source,.int .i64 t.layer,.int .u32 t.ssrc])=w10 at *
      have CB:=Lib.hid (Bturn_any w.heap.size w.heap.size _ _ _ _ _ _ _ _ _ (j:Int) t w10 HC3.out HBL3.out.size (by omega))
      go_wp2_with (first|(with_reducible refine load_at 158 (.tmp 9) rfl ?_;refine load_rowTo2 rfl 158 (.tmp 9) rfl wr.heap.size rfl 158 #[.int .i64 t.kind,.int .i64 t.peer,.int .i64 t.source,.int .i64 t.layer,.int .u32 t.ssrc] (0,0) _ hx3 Tryz.underlying158 rfl Yo3 ?_)|(go_at_call 85;refine CB.out.mono ?_;rintro e w11 ⟨rfl,lv2,hbk2,hf2⟩;have HBK2:=Lib.hid hbk2;have HF2:=Lib.hid hf2;clear hbk2 hf2))
      have hfar:Far w10 (fun m=>m=w.heap.size∨lv'.ownBlock=some m):=fun m hm=>by
       rcases hm with rfl|hm
       ·exact ⟨_,_,_,HC3.out.blk,Or.inl rfl⟩
       ·obtain ⟨cu,hc⟩:=owns_blk HC3.out.liv m hm
        exact ⟨cu,_,_,hc,Or.inr (Or.inr (Or.inr rfl))⟩
      have HR4:=Lib.hid (HR3.out.far HF2.out hfar)
      have hbf:Below w.heap.size w10 w11:=(HF2.out.mono HBL3.out.size (S':=NoB) (fun m hm hs=>by
       rcases hs with rfl|hs
       ·exact absurd hm (Nat.lt_irrefl _)
       ·have:=own_le HC3.out.liv m hs;omega)).below
      have HBL4:=Lib.hid (HBL3.out.trans hbf)
      clear hfar hbf CB
      go_roundw
      case rel=>exact ⟨i+1,lv2,by omega,by go_num,by rw [HTK.out,HSN.out];exact HBK2.out,HR4.out,HBL4.out⟩
      case measure=>simp [intOf];omega
     ·have hT:T.turns.take i=T.turns:=List.take_of_length_le (by omega)
      rw [hT] at HC2
      clear hbk hro hbel hT
      go_wp2
      go_roundw
      case rel=>
       refine ⟨j+1,.slice na (j+1) nc,.slice ma (j+1) mc,lv',M++[(⟨T.pkt,T.dsc,.slice ca T.pkt.csrc.length cc,.slice ea T.pkt.ext.length ec,.slice pa T.pkt.payload.length pc⟩:MedV)],R',ep',by omega,by go_num,⟨HBL2.out,?_,?_,HR2.out.door,HOK1.out,HOK2.out,HST2.out,HST3.out,HRS.out.kg⟩⟩
       ·rw [HA1.out,HL1.out];exact HC2.out
       ·rw [HM1.out,List.map_append,HRS.out.meds];rfl
      case measure=>simp [intOf];omega
  ·have hjj:j=L.length:=by omega
   subst hjj
   have HOE:=Lib.hid (HO.out.below HRS.out.bel)
   clear hrs
   go_wp2
   go_ret
   exact ⟨_,g,b,_,av,mv,lv,M,R,ep,rfl,HOE.out,HRS.out⟩
end Go.Proofs.By

/- Several texts in one: A book in memory; the walk of its turn. The argument of a law that is a slice of operations, opened with its bytes. -/
import Derived.Deep.QuietTactic
import Derived.BigQuiet
import Derived.Deep.DeepCutAuto
import Derived.Deep.CutBlock
import Derived.Test.YtpdjhlcbcomdkaaGreatDoorV01
import Derived.Test.YtpdjhlcbcomdkaaGreatDoorV02
import Derived.Test.YtpdjhlcbcomdkaaGreatDoorV11
import Derived.Test.YtpdjhlcbcomdkaaGreatDoorV12
import Derived.Test.YtpdjhlcbcomdkaaGreatDoorV15
set_option linter.unusedVariables false
set_option linter.unusedSimpArgs false
set_option linter.unusedSimpArgs false
namespace Go.Proofs.By
open Go.RowKit Go.Proofs.Heap Go.Proofs
open Go.Proofs.Rm (TurnRow Turn Room RoomAt turnCells elemTurn turns_len turns_one own_le row_new' below_drewN)
def admC4 (a:Adm):List Value:=[.int .i64 a.kind,.int .i64 a.source,.int .i64 a.epoch,.int .i64 a.err]
def lifeCells (x:Life):List Value:=[.int .i64 x.peer,.int .i64 x.source,.int .i64 x.bgn,.int .i64 x.fin]
structure MedV where
 p:Pkt
 d:Dsc
 cv:Value
 ev:Value
 pv:Value
def medvCells (x:MedV):List Value:=medCells x.p x.d x.cv x.ev x.pv
theorem elemAdm:Elem Tryz.prog 37 35 4 32:=⟨Tryz.underlying37,⟨.agg #[.int .i64 0,.int .i64 0,.int .i64 0,.int .i64 0],by kernel_rfl,rfl⟩,by decide⟩
theorem elemLife:Elem Tryz.prog 39 59 4 32:=⟨Tryz.underlying39,⟨.agg #[.int .i64 0,.int .i64 0,.int .i64 0,.int .i64 0],by kernel_rfl,rfl⟩,by decide⟩
theorem elemMed:Elem Tryz.prog 114 97 15 136:=⟨Tryz.underlying114,⟨.agg Yz4a,by kernel_rfl,rfl⟩,by decide⟩
theorem owns_blk {w:World} {base:Nat} {e:TypeId} {size:Nat} {v:Value} {n:Nat} {xs:List Value} (h:w.ownsRow base e size v n xs):∀ k,v.ownBlock=some k→∃ cur,w.heap[k]?=some (.cells cur e (0,0)):=by
 intro k hk
 obtain ⟨_,h⟩:=h
 rcases h with ⟨rfl,_⟩|⟨g,cap,cur,rfl,hg,hh,_⟩
 ·cases hk
 ·have hk:some g=some k:=hk
  cases hk
  exact ⟨cur,hh⟩
theorem owns_other {w w':World} {b1 b2:Nat} {e1 e2:TypeId} {s1 s2:Nat} {v1 v2:Value} {n1 n2:Nat} {x1 x2:List Value} (h1:w.ownsRow b1 e1 s1 v1 n1 x1) (h2:w.ownsRow b2 e2 s2 v2 n2 x2) (he:e1≠e2) (hg:w.grownBy w' v2.ownBlock):w'.ownsRow b1 e1 s1 v1 n1 x1:=
 owns_block h1 fun k hk=>by
  obtain ⟨cur,hc⟩:=owns_blk h1 k hk
  exact hg.block k (hp_lt hc) (fun e=>owns_typ h2 he _ _ _ e.symm hc)
structure BookIn (B:Nat) (w:World) (k:Nat) (cs:Array Value) (av:Value) (A:List Adm) (mv:Value) (M:List MedV) (lv:Value) (LS:List Life):Prop where
 blk:w.heap[k]?=some (.cells cs 116 (0,0))
 adm:w.ownsRow B 35 4 av A.length (A.flatMap admC4)
 med:w.ownsRow B 97 15 mv M.length (M.flatMap medvCells)
 each:∀ x∈M,PktR w x.p x.cv x.ev x.pv
 liv:w.ownsRow B 59 4 lv LS.length (LS.flatMap lifeCells)
section
variable {B:Nat} {w w':World} {k:Nat} {cs:Array Value} {av:Value} {A:List Adm} {mv:Value} {M:List MedV} {lv:Value} {LS:List Life}
theorem BookIn.below (h:BookIn B w k cs av A mv M lv LS) (hb:Below w.heap.size w w'):BookIn B w' k cs av A mv M lv LS:=
 ⟨(hb.block _ (hp_lt h.blk)).trans h.blk,owns_bel h.adm hb,owns_bel h.med hb,fun x hx=>(h.each x hx).below hb,owns_bel h.liv hb⟩
theorem PktR.frT {p:Pkt} {cv ev pv:Value} {S:Nat→Prop} (h:PktR w p cv ev pv) (hf:Fr w.heap.size S w w') (h1:∀ k c fr,S k→w.heap[k]?≠some (.cells c 66 fr)) (h2:∀ k c fr,S k→w.heap[k]?≠some (.cells c 5 fr)):PktR w' p cv ev pv:=
 ⟨Row.fr h.c hf (Nat.le_refl _) h1,Row.fr h.e hf (Nat.le_refl _) h2,Row.fr h.p hf (Nat.le_refl _) h2⟩
theorem BookIn.frA (h:BookIn B w k cs av A mv M lv LS) {S:Nat→Prop} (hf:Fr w.heap.size S w w') (hS:∀ j,S j→∃ c t f,w.heap[j]?=some (.cells c t f)∧t≠116∧t≠35∧t≠97∧t≠59∧t≠66∧t≠5):BookIn B w' k cs av A mv M lv LS:=by
 have hn:∀ {j c e f},w.heap[j]?=some (.cells c e f)→(e=116∨e=35∨e=97∨e=59∨e=66∨e=5)→¬S j:=fun {j c e f} hj he hs=>by
  obtain ⟨c',t,f',h1,q1,q2,q3,q4,q5,q6⟩:=hS j hs
  rw [hj] at h1
  injection h1 with h1
  injection h1 with _ h1
  subst h1
  rcases he with r|r|r|r|r|r
  ·exact q1 r
  ·exact q2 r
  ·exact q3 r
  ·exact q4 r
  ·exact q5 r
  ·exact q6 r
 refine ⟨(hf.block _ (hp_lt h.blk) (hn h.blk (by simp))).trans h.blk,owns_block h.adm fun j hj=>?_,owns_block h.med fun j hj=>?_,fun x hx=>(h.each x hx).frT hf (fun j c f hs hj=>hn hj (by simp) hs) (fun j c f hs hj=>hn hj (by simp) hs),owns_block h.liv fun j hj=>?_⟩
 ·obtain ⟨cur,hc⟩:=owns_blk h.adm j hj
  exact hf.block _ (hp_lt hc) (hn hc (by simp))
 ·obtain ⟨cur,hc⟩:=owns_blk h.med j hj
  exact hf.block _ (hp_lt hc) (hn hc (by simp))
 ·obtain ⟨cur,hc⟩:=owns_blk h.liv j hj
  exact hf.block _ (hp_lt hc) (hn hc (by simp))
theorem BookIn.setK (h:BookIn B w k cs av A mv M lv LS) (o:Nat) (u:Value):BookIn B (w.setCell ⟨k,o,none⟩ u) k (cs.setIfInBounds o u) av A mv M lv LS:=by
 have hf:Fr w.heap.size (· = k) w (w.setCell ⟨k,o,none⟩ u):=(Fr.refl _ _ _).setAt _ _
 have hne:∀ e,116≠e→∀ j c fr,j=k→w.heap[j]?≠some (.cells c e fr):=by
  intro e he j c fr hj hc
  rw [hj,h.blk] at hc
  injection hc with hc
  injection hc with _ hc
  exact he hc
 have hb:∀ {v e s n xs},w.ownsRow B e s v n xs→116≠e→∀ j,v.ownBlock=some j→(w.setCell ⟨k,o,none⟩ u).heap[j]?=w.heap[j]?:=fun {v e s n xs} ho he j hj=>by
  obtain ⟨cur,hc⟩:=owns_blk ho j hj
  exact RowKit.Below.heap_setCell w ⟨k,o,none⟩ _ j (fun e2=>hne e he j _ _ e2 hc)
 exact ⟨hp_set h.blk o u,owns_block h.adm (hb h.adm (by decide)),owns_block h.med (hb h.med (by decide)),fun x hx=>(h.each x hx).frT hf (hne _ (by decide)) (hne _ (by decide)),owns_block h.liv (hb h.liv (by decide))⟩
theorem BookIn.growL (h:BookIn B w k cs av A mv M lv LS) (hg:w.grownBy w' lv.ownBlock) {lv':Value} {LS':List Life} (ho:w'.ownsRow B 59 4 lv' LS'.length (LS'.flatMap lifeCells)):BookIn B w' k cs av A mv M lv' LS':=
 ⟨(hg.block _ (hp_lt h.blk) (fun e=>owns_typ h.liv (by decide) _ _ _ e.symm h.blk)).trans h.blk,owns_other h.adm h.liv (by decide) hg,owns_other h.med h.liv (by decide) hg,fun x hx=>(h.each x hx).frT (fr_grown hg) (owns_typ h.liv (by decide)) (owns_typ h.liv (by decide)),ho⟩
theorem BookIn.growA (h:BookIn B w k cs av A mv M lv LS) (hg:w.grownBy w' av.ownBlock) {av':Value} {A':List Adm} (ho:w'.ownsRow B 35 4 av' A'.length (A'.flatMap admC4)):BookIn B w' k cs av' A' mv M lv LS:=
 ⟨(hg.block _ (hp_lt h.blk) (fun e=>owns_typ h.adm (by decide) _ _ _ e.symm h.blk)).trans h.blk,ho,owns_other h.med h.adm (by decide) hg,fun x hx=>(h.each x hx).frT (fr_grown hg) (owns_typ h.adm (by decide)) (owns_typ h.adm (by decide)),owns_other h.liv h.adm (by decide) hg⟩
theorem BookIn.growM (h:BookIn B w k cs av A mv M lv LS) (hg:w.grownBy w' mv.ownBlock) {mv':Value} {M':List MedV} (ho:w'.ownsRow B 97 15 mv' M'.length (M'.flatMap medvCells)) (he:∀ x∈M',PktR w' x.p x.cv x.ev x.pv):BookIn B w' k cs av A mv' M' lv LS:=
 ⟨(hg.block _ (hp_lt h.blk) (fun e=>owns_typ h.med (by decide) _ _ _ e.symm h.blk)).trans h.blk,owns_other h.adm h.med (by decide) hg,ho,he,owns_other h.liv h.med (by decide) hg⟩
theorem life_set (at':Int):∀ (Q:List Life) (m:Nat) (_:m<Q.length),(Q.flatMap lifeCells).set (m*4+3) (.int .i64 at')=(Q.set m {Q.getD m noLife with fin:=at'}).flatMap lifeCells
 | [],m,hm=>by simp at hm
 | x :: Q,0,_=>by simp [lifeCells]
 | x :: Q,m+1,hm=>by
  have ih:=life_set at' Q m (by simpa using hm)
  rw [List.flatMap_cons,List.set_append_right _ _ (by show 4≤_;omega),List.set_cons_succ,List.flatMap_cons]
  have:(m+1)*4+3-(lifeCells x).length=m*4+3:=by show _-4=_;omega
  rw [this,ih]
  rfl
theorem BookIn.setL (h:BookIn B w k cs av A mv M lv LS) {g c m:Nat} (hv:lv = .slice (some ⟨g,0,none⟩) LS.length c) (hm:m<LS.length) (at':Int):BookIn B (w.setCell ⟨g,m*4+3,none⟩ (.int .i64 at')) k cs av A mv M lv (LS.set m {LS.getD m noLife with fin:=at'}):=by
 have hl:=h.liv
 obtain ⟨cur,hc⟩:=owns_blk hl g (by rw [hv];rfl)
 have hf:Fr w.heap.size (· = g) w (w.setCell ⟨g,m*4+3,none⟩ (.int .i64 at')):=(Fr.refl _ _ _).setAt _ _
 have hne:∀ e,59≠e→∀ j c fr,j=g→w.heap[j]?≠some (.cells c e fr):=by
  intro e he j c fr hj hx
  rw [hj,hc] at hx
  injection hx with hx
  injection hx with _ hx
  exact he hx
 have hb:∀ {v e s n xs},w.ownsRow B e s v n xs→59≠e→∀ j,v.ownBlock=some j→(w.setCell ⟨g,m*4+3,none⟩ (.int .i64 at')).heap[j]?=w.heap[j]?:=fun {v e s n xs} ho he j hj=>by
  obtain ⟨cu,hcu⟩:=owns_blk ho j hj
  exact RowKit.Below.heap_setCell w ⟨g,m*4+3,none⟩ _ j (fun e2=>hne e he j _ _ e2 hcu)
 refine ⟨(RowKit.Below.heap_setCell w ⟨g,m*4+3,none⟩ _ k (fun e2=>hne _ (by decide) k _ _ e2 h.blk)).trans h.blk,owns_block h.adm (hb h.adm (by decide)),owns_block h.med (hb h.med (by decide)),fun x hx=>(h.each x hx).frT hf (hne _ (by decide)) (hne _ (by decide)),?_⟩
 rw [hv] at hl ⊢
 have h2:=owns_setI hl (by omega) (m*4+3) (.int .i64 at')
 rw [life_set at' LS m hm] at h2
 rw [List.length_set]
 exact h2
theorem BookIn.cells {oa:Option Addr} {n oc:Nat} {c1 c2 c3:Value} (h:BookIn B w k #[.slice oa n oc,c1,c2,c3] av A mv M lv LS):w.cell? ⟨k,0,none⟩=some (.slice oa n oc)∧w.cell? ⟨k,1,none⟩=some c1∧w.cell? ⟨k,2,none⟩=some c2∧w.cell? ⟨k,3,none⟩=some c3∧(∀ j,w.frozen? ⟨k,j,none⟩=false):=
 ⟨cell_of h.blk 0,cell_of h.blk 1,cell_of h.blk 2,cell_of h.blk 3,frozen_of h.blk⟩
end
theorem life_at {w:World} {g n c:Nat} {l:List Life} {B:Nat} (h:w.ownsRow B 59 4 (.slice (some ⟨g,0,none⟩) n c) n (l.flatMap lifeCells)) {m:Nat} (hm:m<l.length):w.cell? ⟨g,m*4,none⟩=some (.int .i64 (l.getD m noLife).peer)∧w.cell? ⟨g,m*4+1,none⟩=some (.int .i64 (l.getD m noLife).source)∧w.cell? ⟨g,m*4+3,none⟩=some (.int .i64 (l.getD m noLife).fin):=by
 have hfl:=flat_length lifeCells 4 (fun _=>rfl) l
 obtain ⟨g',off,cap,h1,h2,h3,h4,h5⟩:=Row.open (Row.of_owns h) (by rw [hfl];omega)
 injection h1 with e1 _ _
 cases e1
 have hx:l[m]?=some (l.getD m noLife):=by rw [List.getD_eq_getElem?_getD,List.getElem?_eq_getElem hm];rfl
 have hj:∀ j,j<4→w.cell? ⟨g,m*4+j,none⟩=(lifeCells (l.getD m noLife))[j]?:=fun j hj=>by
  have h6:=h5 (m*4+j) (by rw [hfl];omega)
  rw [Nat.zero_add] at h6
  rw [h6]
  exact flat_at lifeCells 4 (fun _=>rfl) l m j _ hx hj
 exact ⟨hj 0 (by omega),hj 1 (by omega),hj 3 (by omega)⟩
theorem life_one (x:Life):∀ u∈lifeCells x,u.oneCell'=true:=by
 intro u hu
 simp only [lifeCells,List.mem_cons,List.mem_nil_iff,or_false] at hu
 rcases hu with rfl|rfl|rfl|rfl <;> rfl
set_option maxRecDepth 100000 in
set_option maxHeartbeats 4000000 in
theorem Bturn_any (B k:Nat) (oa:Option Addr) (n oc:Nat) (av mv:Value) (A:List Adm) (M:List MedV) (lv:Value) (LS:List Life) (at':Int) (t:Turn) (w:World)
  (h:BookIn B w k #[.slice oa n oc,av,mv,lv] av A mv M lv LS) (hB:B≤w.heap.size) (hl:LS.length≤100000000) :
  Calls Tryz.prog 85 #[.pointer (some ⟨k,0,none⟩),.int .i64 at',.agg #[.int .i64 t.kind,.int .i64 t.peer,.int .i64 t.source,.int .i64 t.layer,.int .u32 t.ssrc]] w fun e w'=>e = .returned (.tuple #[]) ∧
   ∃ lv',BookIn B w' k #[.slice oa n oc,av,mv,lv'] av A mv M lv' (lifeTurn n at' LS t)∧Fr w.heap.size (fun j=>j=k∨lv.ownBlock=some j) w w':=by
 have HX:Hid (lifeTurn n at' LS t=if t.kind=1 then LS++[⟨t.peer,t.source,at',n⟩] else if t.kind=2 then endGo t.peer t.source at' LS LS.length else LS):=rfl
 have HB1:Hid (Below w.heap.size w (w.alloc (.cells #[.int .i64 t.kind,.int .i64 t.peer,.int .i64 t.source,.int .i64 t.layer,.int .u32 t.ssrc] 158))):=below_alloc w _
 have hz:=heap_new w (.cells #[.int .i64 t.kind,.int .i64 t.peer,.int .i64 t.source,.int .i64 t.layer,.int .u32 t.ssrc] 158)
 have H1:=Lib.hid (h.below HB1.out)
 obtain ⟨la,lc,hlv,-⟩:=Row.of_owns h.liv
 have HL:=Lib.hid h.liv
 subst hlv
 clear h
 by_cases k1:t.kind=1
 ·have HX1:Hid (lifeTurn n at' LS t=LS++[⟨t.peer,t.source,at',n⟩]):=by show _=_;rw [HX.out,if_pos k1]
  clear HX
  generalize lifeTurn n at' LS t=X at *
  obtain ⟨tk,tp,ts,ty,tx⟩:=t
  dsimp only at k1 HB1 hz H1 HX1 ⊢
  subst k1
  go_enter Tryz.func85,Tryz.ntmps85
  go_upto_region 3 with fail
  have hz1:=hz
  have hls:=hp_lt hz
  generalize (w.alloc (.cells #[.int .i64 1,.int .i64 tp,.int .i64 ts,.int .i64 ty,.int .u32 tx] 158))=w1 at *
  have H1d:=Lib.hid (H1.out.below (Below.refl _ _).drew)
  have hzd:=((Below.refl w1.heap.size w1).drew.block _ hls).trans hz
  have KEEP:Hid (∀ w':World,w'.heap[k]?=some (.cells #[.slice oa n oc,av,mv,.slice la LS.length lc] 116 (0,0))→w'.heap[w.heap.size]?=some (.cells #[.int .i64 1,.int .i64 tp,.int .i64 ts,.int .i64 ty,.int .u32 tx] 158 (0,0))→w'.cell? ⟨k,0,none⟩=some (.slice oa n oc)∧w'.cell? ⟨k,3,none⟩=some (.slice la LS.length lc)∧w'.cell? ⟨w.heap.size,1,none⟩=some (.int .i64 tp)∧w'.cell? ⟨w.heap.size,2,none⟩=some (.int .i64 ts)):=fun w' h1 h2=>
   ⟨by rw [cell_of h1 0];rfl,by rw [cell_of h1 3];rfl,by rw [cell_of h2 1];rfl,by rw [cell_of h2 2];rfl⟩
  refine wp_region_noPanic ?_
  refine AnyT.region_start (d:=20) (S:=(fun w'=>w'.cell? ⟨k,0,none⟩=some (.slice oa n oc)∧w'.cell? ⟨k,3,none⟩=some (.slice la LS.length lc)∧w'.cell? ⟨w.heap.size,1,none⟩=some (.int .i64 tp)∧w'.cell? ⟨w.heap.size,2,none⟩=some (.int .i64 ts))) Yo3 ?_ (fun _=>?_)
  ·(try dsimp only)
   exact KEEP.out _ H1d.out.blk hzd
  refine YK 0 (h:=YK 1 (h:=YK 2 (h:=YK 3 (h:=YK 4 (h:=YK 5 (h:=YK 6 (h:=YK 7 (h:=YK 8 (h:=YK 9 (h:=YK 10 (h:=YK 11 (h:=YK 12 (h:=YK 13 (h:=YK 14 (h:=YK 15 (h:=?_))))))))))))))))
  refine YR 16 (h:=fun K hK=>?_)
  refine step_slice1 (by rfl) elemLife (.tmp 27) (by rfl) #[.int .i64 tp,.int .i64 ts,.int .i64 at',.int .i64 (n:Int)] (by rfl) (by rfl) (by decide) ?_
  have H2:=Lib.hid (H1d.out.below (below_alloc w1.drew (.cells #[.int .i64 tp,.int .i64 ts,.int .i64 at',.int .i64 (n:Int)] 59)))
  have hz2:=((below_alloc w1.drew (.cells #[.int .i64 tp,.int .i64 ts,.int .i64 at',.int .i64 (n:Int)] 59)).block _ (hp_lt hzd)).trans hzd
  refine AnyT.go_on hK _ _ ?_ (fun _=>?_)
  ·exact Yx119
  clear hK K
  try simp only [AnyT.pt]
  refine YR 17 (h:=fun K hK=>?_)
  refine step_app (by rfl) (.tmp 16) (.tmp 28) 39 (by rfl) B elemLife (.slice la LS.length lc) LS.length (LS.flatMap lifeCells) (by rfl) H2.out.liv (.slice (some ⟨w1.drew.heap.size,0,none⟩) 1 1) 1 ([(⟨tp,ts,at',(n:Int)⟩:Life)].flatMap lifeCells) (by rfl) (row_new' _ _ 1 _ ([(⟨tp,ts,at',(n:Int)⟩:Life)].flatMap lifeCells) (by decide) rfl) rfl (flat_one fun x _=>life_one x) (by omega) (by omega) ?_ ?_
  ·show B≤(w1.drew.heap.push _).size;rw [Array.size_push];have:=HB1.out.size;show B≤w1.heap.size+1;omega
  intro v' w6 HO HG
  have HO2:Hid (w6.ownsRow B 59 4 v' (LS++[(⟨tp,ts,at',(n:Int)⟩:Life)]).length ((LS++[(⟨tp,ts,at',(n:Int)⟩:Life)]).flatMap lifeCells)):=Yo33
  obtain ⟨na,nc,hnv,-⟩:=Row.of_owns HO2.out
  subst hnv
  have H3:=Lib.hid (H2.out.growL HG.out HO2.out)
  obtain ⟨q0,q1,q2,q3,q4⟩:=H3.out.cells
  have q43:=q4 3
  have hz3:=(HG.out.block _ (hp_lt hz2) (fun e=>owns_typ H2.out.liv (by decide) _ _ _ e.symm hz2)).trans hz2
  refine AnyT.go_on hK _ _ ?_ (fun _=>?_)
  ·exact Yx119
  clear hK K
  try simp only [AnyT.pt]
  refine YR 18 (h:=fun K hK=>?_)
  go_simp
  refine AnyT.go_on hK _ _ ?_ (fun _=>?_)
  ·exact Yx119
  clear hK K
  try simp only [AnyT.pt]
  refine YK 19 (h:=?_)
  refine YR 20 (h:=fun K hK=>?_)
  go_simp
  refine AnyT.go_past hK _ _ Yo3 ?_
  clear hK K
  try simp only [AnyT.pt]
  refine AnyT.till_done Yo3 ?_ _
  refine NoPanic.normal ?_
  go_wp2_with fail
  first|refine bodyPost_end (results_none (by rfl) _ _ _) rfl ?_|refine bodyPost_ret (results_none (by rfl) _ _ _) rfl ?_
  have hln:(LS++[(⟨tp,ts,at',(n:Int)⟩:Life)]).length=LS.length+1:=by simp
  have h3:=H3.out.setK 3 (.slice na (LS.length+1) nc)
  rw [hln] at h3
  refine ⟨rfl,.slice na (LS.length+1) nc,by rw [HX1.out];exact h3,?_⟩
  have f1:Fr w.heap.size (fun j=>j=k∨(Value.slice la LS.length lc).ownBlock=some j) w w1.drew:=Fr.of_below _ HB1.out.drew
  have f2:=(f1.alloc HB1.out.size (.cells #[.int .i64 tp,.int .i64 ts,.int .i64 at',.int .i64 (n:Int)] 59))
  have f3:Fr w.heap.size (fun j=>j=k∨(Value.slice la LS.length lc).ownBlock=some j) w w6:=f2.trans ((fr_grown HG.out).mono f2.size (fun _ _ h=>Or.inr h))
  exact f3.setCell (p:=⟨k,3,none⟩) (Or.inr (Or.inl rfl)) _
 by_cases k2:t.kind=2
 rotate_left
 ·have HX1:Hid (lifeTurn n at' LS t=LS):=by show _=_;rw [HX.out,if_neg k1,if_neg k2]
  clear HX
  generalize lifeTurn n at' LS t=X at *
  have e1:(t.kind == 1)=false:=by rw [beq_eq_false_iff_ne];exact k1
  have e2:(t.kind == 2)=false:=by rw [beq_eq_false_iff_ne];exact k2
  go_enter Tryz.func85,Tryz.ntmps85
  go_wp2_with fail
  first|refine bodyPost_end (results_none (by rfl) _ _ _) rfl ?_|refine bodyPost_ret (results_none (by rfl) _ _ _) rfl ?_
  exact ⟨rfl,_,by rw [HX1.out];exact H1.out,Fr.of_below _ HB1.out⟩
 have HX1:Hid (lifeTurn n at' LS t=endGo t.peer t.source at' LS LS.length):=by show _=_;rw [HX.out,if_neg k1,if_pos k2]
 clear HX
 generalize lifeTurn n at' LS t=X at *
 obtain ⟨tk,tp,ts,ty,tx⟩:=t
 dsimp only at k1 k2 HB1 hz H1 HX1 ⊢
 subst k2
 clear k1
 have hcs:=H1.out.cells
 obtain ⟨q0,q1,q2,q3,q4⟩:=hcs
 have hw5:IntKind.i64.wrap ((LS.length:Int)-1)=(LS.length:Int)-1:=IntWalk.i64_in _ (by omega)
 go_enter Tryz.func85,Tryz.ntmps85
 go_wp2_with fail
 go_loopw [6] (fun s6 w'=>∃ m:Nat,m≤LS.length∧s6 = .int .i64 ((m:Int)-1)∧Hid (endGo tp ts at' LS LS.length=endGo tp ts at' LS m)∧Below w.heap.size w w'∧Below (w.alloc (.cells #[.int .i64 2,.int .i64 tp,.int .i64 ts,.int .i64 ty,.int .u32 tx] 158)).heap.size (w.alloc (.cells #[.int .i64 2,.int .i64 tp,.int .i64 ts,.int .i64 ty,.int .u32 tx] 158)) w') (fun s6 _=>(intOf s6+1).toNat)
 case atStart=>exact ⟨LS.length,Nat.le_refl _,rfl,rfl,HB1.out,Below.refl _ _⟩
 case round=>
  obtain ⟨m,hm,rfl,HE,hbel,hbel2⟩:=hrel
  have HBEL:=Lib.hid hbel
  have HBEL2:=Lib.hid hbel2
  have HR:=Lib.hid (H1.out.below hbel2)
  have hzr:=(hbel2.block _ (hp_lt hz)).trans hz
  have t1:wr.cell? ⟨w.heap.size,1,none⟩=some (.int .i64 tp):=by rw [cell_of hzr 1];rfl
  have t2:wr.cell? ⟨w.heap.size,2,none⟩=some (.int .i64 ts):=by rw [cell_of hzr 2];rfl
  obtain ⟨r0,r1,r2,r3,r4⟩:=HR.out.cells
  have HL2:=Lib.hid (owns_bel HL.out (HBEL.out))
  clear hbel hbel2 q0 q1 q2 q3 q4
  cases m with
  | zero=>
   have HX2:Hid (X=LS):=by show _=_;rw [HX1.out,HE.out];rfl
   clear HE HX1
   go_wp2
   first|refine bodyPost_end (results_none (by rfl) _ _ _) rfl ?_|refine bodyPost_ret (results_none (by rfl) _ _ _) rfl ?_
   exact ⟨rfl,_,by rw [HX2.out];exact HR.out,Fr.of_below _ HBEL.out⟩
  | succ q=>
   have hq1:((q+1:Nat):Int)-1=(q:Int):=by omega
   rw [hq1]
   have hqI:(q:Int)<(LS.length:Int):=by omega
   obtain ⟨g,c9,cur,e9,-,hgh⟩:=owns_someI HL2.out (by omega)
   cases e9
   obtain ⟨y0,y1,y3⟩:=life_at HL2.out (m:=q) (by omega)
   have fz:wr.frozen? ⟨g,q*4+3,none⟩=false:=frozen_of hgh _
   have HQ:=Lib.hid (fun (w':World) (hb:Below wr.heap.size wr w')=>(HR.out.below hb).setL rfl (m:=q) (by omega) at')
   have HE2:Hid (endGo tp ts at' LS (q+1)=if (LS.getD q noLife).peer=tp∧(LS.getD q noLife).source=ts then LS.set q {LS.getD q noLife with fin:=at'} else endGo tp ts at' LS q):=rfl
   have hqw:IntKind.i64.wrap ((q:Int)-1)=(q:Int)-1:=IntWalk.i64_in _ (by omega)
   generalize (LS.getD q noLife).peer=lp at *
   generalize (LS.getD q noLife).source=ls at *
   by_cases hp:lp=tp
   ·by_cases hs:ls=ts
    ·have HX2:Hid (X=LS.set q {LS.getD q noLife with fin:=at'}):=by show _=_;rw [HX1.out,HE.out,HE2.out,if_pos ⟨hp,hs⟩]
     subst hp;subst hs
     clear HE HE2 HX1
     go_upto_region 9 with fail
     go_quiet (fail)
     go_wp2
     first|refine bodyPost_end (results_none (by rfl) _ _ _) rfl ?_|refine bodyPost_ret (results_none (by rfl) _ _ _) rfl ?_
     exact ⟨rfl,⟨_,by rw [HX2.out];exact HQ.out _ (below_drewN (Below.refl _ _) _)⟩,(Fr.of_below _ (below_drewN HBEL.out _)).setCell (p:=⟨g,q*4+3,none⟩) (Or.inr (Or.inr rfl)) _⟩
    ·have HE3:Hid (endGo tp ts at' LS LS.length=endGo tp ts at' LS q):=by show _=_;rw [HE.out,HE2.out,if_neg (fun h=>hs h.2)]
     have e1:(ls == ts)=false:=by rw [beq_eq_false_iff_ne];exact hs
     subst hp
     exact Yx135
   ·have HE3:Hid (endGo tp ts at' LS LS.length=endGo tp ts at' LS q):=by show _=_;rw [HE.out,HE2.out,if_neg (fun h=>hp h.1)]
    have e1:(lp == tp)=false:=by rw [beq_eq_false_iff_ne];exact hp
    exact Yx135
end Go.Proofs.By
set_option linter.unusedSimpArgs false
namespace Go.Proofs.By
open Go.RowKit Go.WideShapes Go.ChangeShapes Go.Proofs.Heap Go.Proofs.Mem Go.Deep
open Go.Proofs.Rm (OpV opvCells u32s u32s_length trod_u32s spot_none add_none seven weights_all Op)
structure OpBsR (w:World) (v:Value) (L:List OpB):Prop where
 row:RRow w v L.length (L.flatMap fun y=>opvCells y.x)
 each:∀ y∈L,RRow w (.slice y.x.sa y.x.o.ssrcs.length y.x.sc) y.x.o.ssrcs.length (u32s y.x.o.ssrcs)∧BRow w (.slice y.x.ba y.x.bl y.x.bc) y.b∧y.x.o.name.length<9223372036854775807
theorem OpBsR.below {w w':World} {v:Value} {L:List OpB} (h:OpBsR w v L) (hb:Below w.heap.size w w'):OpBsR w' v L:=⟨h.row.below hb,fun y hy=>⟨(h.each y hy).1.below hb,(h.each y hy).2.1.below hb,(h.each y hy).2.2⟩⟩
section
variable {H:Type} {enc:TypeId × Value→H} {W:World} {base:Nat} {sp:Nat→Bool} {held:Bool}
theorem u8_range {z:Int} (h:(Lit.int .u8 z).wf=true):0≤z∧z<256:=by
 have h:=(Bool.and_eq_true _ _).mp h
 have h1:=of_decide_eq_true h.1
 have h2:=of_decide_eq_true h.2
 have e1:IntKind.min .u8=0:=by decide
 have e2:IntKind.max .u8=255:=by decide
 omega
theorem trod_u8s {fuel:Nat} {v:Value} {x:DataW H × List MemPlace} (h:DataW.trod enc Tryz.prog W base sp held fuel 30 [v]=some x):∃ (l:List UInt8) (a:Option Addr) (n c:Nat),v = .slice a n c∧BRow W (.slice a n c) l:=by
 rcases open_slice1 Tryz.underlying30 Yo3 h with ⟨hc,_⟩|⟨a,len,cap,m,n,V,D,Pl,hcs,hb,hl,hm,hmm,_,hx⟩
 ·exact ⟨[],none,0,0,by simpa using hc,RRow.nil _⟩
 ·have hlm:len≤m:=by rw [hmm];split <;> omega
  have hv:v = .slice (some a) len cap:=by simpa using hcs
  have key:∀ i,i<len→∃ z:UInt8,W.cell? (a.add i)=some (.int .u8 (z.toNat:Int))∧V i = .int .u8 (z.toNat:Int):=by
   intro i hi
   obtain ⟨h1,h2⟩:=hx i (by omega)
   obtain ⟨z,hz,_,hwf⟩:=DataW.trod_int Tryz.underlying5 h2
   obtain ⟨r0,r1⟩:=u8_range hwf
   have hz:V i = .int .u8 z:=by simpa using hz
   have e:((UInt8.ofNat z.toNat).toNat:Int)=z:=by
    rw [UInt8.toNat_ofNat']
    omega
   exact ⟨UInt8.ofNat z.toNat,by rw [h1,hz,e],by rw [hz,e]⟩
  let l:List UInt8:=(List.range len).map fun i=>match V i with | .int _ z=>UInt8.ofNat z.toNat|_=>0
  have hll:l.length=len:=by simp [l]
  refine ⟨l,some a,len,cap,hv,some a,cap,by rw [hll],by rw [hll];exact hl,hm,(fun h=>by cases h),?_⟩
  by_cases h0:len=0
  ·exact Or.inl (List.eq_nil_of_length_eq_zero (by rw [bys_length,hll];exact h0))
  ·obtain ⟨z0,hz0,_⟩:=key 0 (by omega)
   have hz0':W.cell? a=some (.int .u8 (z0.toNat:Int)):=by unfold Addr.add at hz0;simpa using hz0
   have ha:=spot_none hz0'
   refine Or.inr ⟨a.block,a.off,by rw [←ha],World.block_lt_of_cell? W a hz0',fun j hj=>?_⟩
   rw [bys_length,hll] at hj
   obtain ⟨z,hz,hV⟩:=key j hj
   rw [←add_none ha,hz]
   have hlj:l[j]?=some z:=by
    have e:UInt8.ofNat z.toNat=z:=by simp
    simp [l,hj,hV]
   simp only [bys,List.getElem?_map,hlj,Option.map_some]
set_option maxRecDepth 100000 in
theorem trod_opB {fuel:Nat} {cs:List Value} {x:DataW H × List MemPlace} (h:DataW.trod enc Tryz.prog W base sp held fuel 32 cs=some x) :
  ∃ y:OpB,cs=opvCells y.x∧(RRow W (.slice y.x.sa y.x.o.ssrcs.length y.x.sc) y.x.o.ssrcs.length (u32s y.x.o.ssrcs)∧BRow W (.slice y.x.ba y.x.bl y.x.bc) y.b)∧y.x.o.name.length∈x.1.weights Tryz.prog 32:=by
 obtain ⟨xs,n,_,hxx,hlen,hxl,hf⟩:=DataW.trod_struct Tryz.underlying32 h
 have hC:Tryz.prog.cellsOf 32=7:=by kernel_rfl
 have k1:Tryz.prog.cellsOf 3=1:=by kernel_rfl
 have k2:Tryz.prog.cellsOf 9=1:=by kernel_rfl
 have k3:Tryz.prog.cellsOf 29=1:=by kernel_rfl
 have k4:Tryz.prog.cellsOf 30=1:=by kernel_rfl
 rw [hC] at hlen
 obtain ⟨c0,c1,c2,c3,c4,c5,c6,rfl⟩:∃ c0 c1 c2 c3 c4 c5 c6,cs=[c0,c1,c2,c3,c4,c5,c6]:=seven hlen
 clear h hC
 have hx:∀ j,j<7→∃ y,xs[j]?=some y:=fun j hj=>⟨xs[j]'(by rw [hxl];exact hj),List.getElem?_eq_getElem _⟩
 obtain ⟨y0,e0⟩:=hx 0 (by omega)
 obtain ⟨y1,e1⟩:=hx 1 (by omega)
 obtain ⟨y2,e2⟩:=hx 2 (by omega)
 obtain ⟨y3,e3⟩:=hx 3 (by omega)
 obtain ⟨y4,e4⟩:=hx 4 (by omega)
 obtain ⟨y5,e5⟩:=hx 5 (by omega)
 obtain ⟨y6,e6⟩:=hx 6 (by omega)
 have h0:DataW.trod enc Tryz.prog W base sp held n 3 (([c0,c1,c2,c3,c4,c5,c6].drop 0).take (Tryz.prog.cellsOf 3))=some y0:=(hf 0 _ rfl).trans e0
 have h1:DataW.trod enc Tryz.prog W base sp held n 3 (([c0,c1,c2,c3,c4,c5,c6].drop 1).take (Tryz.prog.cellsOf 3))=some y1:=(hf 1 _ rfl).trans e1
 have h2:DataW.trod enc Tryz.prog W base sp held n 3 (([c0,c1,c2,c3,c4,c5,c6].drop 2).take (Tryz.prog.cellsOf 3))=some y2:=(hf 2 _ rfl).trans e2
 have h3:DataW.trod enc Tryz.prog W base sp held n 3 (([c0,c1,c2,c3,c4,c5,c6].drop 3).take (Tryz.prog.cellsOf 3))=some y3:=(hf 3 _ rfl).trans e3
 have h4:DataW.trod enc Tryz.prog W base sp held n 9 (([c0,c1,c2,c3,c4,c5,c6].drop 4).take (Tryz.prog.cellsOf 9))=some y4:=(hf 4 _ rfl).trans e4
 have h5:DataW.trod enc Tryz.prog W base sp held n 29 (([c0,c1,c2,c3,c4,c5,c6].drop 5).take (Tryz.prog.cellsOf 29))=some y5:=(hf 5 _ rfl).trans e5
 have h6:DataW.trod enc Tryz.prog W base sp held n 30 (([c0,c1,c2,c3,c4,c5,c6].drop 6).take (Tryz.prog.cellsOf 30))=some y6:=(hf 6 _ rfl).trans e6
 rw [k1] at h0 h1 h2 h3
 rw [k2] at h4
 rw [k3] at h5
 rw [k4] at h6
 obtain ⟨z0,g0,_⟩:=DataW.trod_int Tryz.underlying3 h0
 obtain ⟨z1,g1,_⟩:=DataW.trod_int Tryz.underlying3 h1
 obtain ⟨z2,g2,_⟩:=DataW.trod_int Tryz.underlying3 h2
 obtain ⟨z3,g3,_⟩:=DataW.trod_int Tryz.underlying3 h3
 obtain ⟨s4,g4,gy4,hs4⟩:=DataW.trod_string Tryz.underlying9 h4
 obtain ⟨l5,a5,n5,g5,hr5⟩:=trod_u32s (v:=c5) h5
 obtain ⟨b6,a6,l6,n6,g6,hr6⟩:=trod_u8s (v:=c6) h6
 have g0:c0 = .int .i64 z0:=by simpa using g0
 have g1:c1 = .int .i64 z1:=by simpa using g1
 have g2:c2 = .int .i64 z2:=by simpa using g2
 have g3:c3 = .int .i64 z3:=by simpa using g3
 have g4:c4 = .string s4:=by simpa using g4
 refine ⟨⟨⟨⟨z0,z1,z2,z3,s4.data.toList,l5⟩,a5,n5,a6,l6,n6⟩,b6⟩,?_,⟨hr5,hr6⟩,?_⟩
 ·rw [g0,g1,g2,g3,g4,g5,g6];simp only [opvCells,str_eq]
 ·exact Yx97
theorem open_opBs {t:TypeId} {v:Value} {d:DataW H} {ps:List MemPlace} (ht:Tryz.prog.underlying t=some (.slice 32)) (hcl:v.cells=#[v]) (h:DataW.Trod enc Tryz.prog W base sp held t v d ps) (hz:∀ n∈d.weights Tryz.prog t,n≤reachBytes):∃ l,OpBsR W v l:=by
 obtain ⟨fuel,h⟩:=h
 rw [hcl] at h
 have hC:Tryz.prog.cellsOf 32=7:=by kernel_rfl
 rcases open_slice ht h with ⟨hc,_⟩|⟨a,len,cap,m,n,D,Pl,hcs,hb,hl,hm,hmm,hdx,hx⟩
 ·have:v = .slice none 0 0:=by simpa using hc
  subst this
  exact ⟨[],RRow.nil _,fun x hx=>by simp at hx⟩
 ·have hlm:len≤m:=by rw [hmm];split <;> omega
  have hv:v = .slice (some a) len cap:=by simpa using hcs
  subst hv
  have key:∀ i,∃ y:OpB,i<len→(∀ j,j<7→W.cell? ((a.add (i*7)).add j)=(opvCells y.x)[j]?)∧(RRow W (.slice y.x.sa y.x.o.ssrcs.length y.x.sc) y.x.o.ssrcs.length (u32s y.x.o.ssrcs)∧BRow W (.slice y.x.ba y.x.bl y.x.bc) y.b∧y.x.o.name.length<9223372036854775807):=by
   intro i
   by_cases hi:i<len
   ·obtain ⟨cs',h1,h2⟩:=hx i (by omega)
    rw [hC] at h1
    obtain ⟨_,hcl',hat⟩:=World.cells?_some h1
    obtain ⟨y,hy,⟨hr,hr2⟩,hn⟩:=trod_opB h2
    have hn2:y.x.o.name.length<9223372036854775807:=by
     have hd:d = .slice ((List.range len).map D) ((List.range (m-len)).map fun j=>D (len+j)):=by injection hdx
     have:=hz y.x.o.name.length (by
      rw [hd]
      unfold DataW.weights
      rw [ht]
      refine List.mem_cons_of_mem _ (List.mem_append.2 (Or.inl (weights_all (List.mem_map.2 ⟨i,by simpa using hi,rfl⟩) _ hn))))
     have:=Nat.lt_of_le_of_lt this reachBytes_lt
     omega
    refine ⟨y,fun _=>⟨fun j hj=>?_,hr,hr2,hn2⟩⟩
    have:=hat j hj
    rw [←hy,this]
   ·exact ⟨⟨⟨⟨0,0,0,0,[],[]⟩,none,0,none,0,0⟩,[]⟩,fun h=>absurd h hi⟩
  obtain ⟨Y,hY⟩:=Classical.axiomOfChoice key
  let l:List OpB:=(List.range len).map Y
  have hll:l.length=len:=by simp [l]
  refine ⟨l,⟨some a,cap,by rw [hll],by rw [hll];exact hl,hm,(fun h=>by cases h),?_⟩,?_⟩
  ·by_cases h0:len=0
   ·exact Or.inl (by rw [List.eq_nil_of_length_eq_zero (hll.trans h0)];rfl)
   ·have hz:=(hY 0 (by omega)).1 0 (by omega)
    have hz0:W.cell? a=some (.int .i64 (Y 0).x.o.kind):=by simpa [Addr.add,opvCells] using hz
    have ha:=spot_none hz0
    refine Or.inr ⟨a.block,a.off,by rw [←ha],World.block_lt_of_cell? W a hz0,fun j hj=>?_⟩
    have hfl:(l.flatMap fun y=>opvCells y.x).length=len*7:=by rw [flat_length (fun y:OpB=>opvCells y.x) 7 (fun _=>rfl),hll]
    rw [hfl] at hj
    have hi:j / 7<len:=by omega
    have hli:l[j / 7]?=some (Y (j / 7)):=by simp [l,hi]
    have:=flat_at (fun y:OpB=>opvCells y.x) 7 (fun _=>rfl) l (j / 7) (j % 7) _ hli (by omega)
    exact Yx112
  ·intro x hx
   obtain ⟨i,hi,rfl⟩:=List.mem_map.1 hx
   exact (hY i (by simpa using hi)).2
end
end Go.Proofs.By

/-
  Part 5 of the base of the proofs: a logic of our own over the calculus, the contracts of the functions
-/
import Derived.Test.YtbeekjoeaigngaaGreatSnD
set_option linter.unusedVariables false
namespace Go.FL
open Go Go.Proofs
def Sp (proto:Itm) (xs:List Itm) : Arr:=.mk [((min xs.length 4096:Nat) : Int)] (if xs.length=0 then [proto] else xs.take 4096)
abbrev Abf (xs:List Itm) (n:Nat) : Al:=[.box [.own 3 (Is [((n:Nat) : Int)]),.own 83 (Its (xs.take n))]]
theorem XO : 0<AK Tryz.prog 83:=by rw [S9];decide
set_option maxRecDepth 10000 in
set_option maxHeartbeats 4000000 in
theorem UG {proto:Itm} {xs:List Itm} {f:FuncId} {caps:List DV} (hcall:∀ args w,(callFunc f args).run Tryz.prog w=.ok (.enter f args) w) (hit:ItG Tryz.prog f caps (itY xs) 4096) :
  Fn Tryz.prog 76 [Yl proto,.fn f [] caps] (.d (.ag [.sl (Is (Sp proto xs).shape),.sl (Its (Sp proto xs).items)])):=by
 refine Fn.ofMA (rs:=[.cell 4 25]) (nt:=37) Tryz.func76 rfl rfl rfl (by simp) rfl ?_;refine .seqA ?_;refine .region ?_;refine vk (vbx (cs:=[.i .u8 proto.kind,.b proto.num.1,.sl (L proto.num.2.1),.sl (L proto.num.2.2),.i .i32 proto.char,.sl (Ars proto.box)])) ?_;refine vk (van (Ai BC) BY) ?_;refine .nil ?_
 show AWM _ _ _ _ _ _
 refine .seqA ?_;refine .region ?_;refine vk (Ih (ds':=Is [0]) rfl (IB [0]) LI) ?_;refine bdo FC BC rfl ?_
 refine al ?_ (Ai BC) (fun w I μ=>P8 w I μ)
 refine st2 (c0:=.nl) (c1:=.nl) rfl ?_ Ap
 refine .nil ?_
 show AWM _ _ _ _ _ _
 refine .gh (Gh.keep [1,2,4,5] rfl) ?_;refine .gh (Gh.nlOwnC (id:=0) (off:=1) 83 XO) ?_;refine .seq rfl ?_;refine .seqA ?_;refine .region ?_;refine vk (Aa) ?_;refine .nil ?_
 show AWM _ _ _ _ _ _
 refine .block ?_
 refine AWM.rangeFuncG (ps:=[10]) (f:=f) (caps:=caps) (ys:=itY xs) (m:=4096) (e1:=.exit 0) rfl rfl rfl hcall hit (fun ds hd=>?_) (fun p hp=>?_) rfl (fun k H=>H=Abf xs (min k 4096)) rfl (.inl ⟨0,rfl⟩) (fun l k ds H hk hkm hH=>?_) (fun H hH=>?_)
 ·simp only [itY,List.mem_map] at hd
  obtain ⟨x,_,rfl⟩:=hd;rfl
 ·simp only [List.mem_cons,List.not_mem_nil,or_false] at hp;subst hp;rfl
 ·subst hH
  simp only [itY,List.getElem?_map,Option.map_eq_some_iff] at hk
  obtain ⟨x,hx,rfl⟩:=hk
  rw [Nat.min_eq_left hkm]
  refine .region ?_;refine vk (van (Ai CE) CK) ?_
  refine stn ?_ AI (by decide)
  refine .nil ?_
  show AW _ _ _ _ _ _
  refine .block ?_;refine .seq ?_;refine .seq ?_;refine .region ?_;refine vk (Fo BW) ?_
  refine Sc (cs:=[.own 3 (Is [((k:Nat):Int)]),.own 83 (Its (xs.take k))]) rfl rfl ?_ E9
  refine ixr (len:=1) (xs:=Is [((k:Nat):Int)]) 0 rfl (by decide) ?_ JB (by decide)
  refine lde (xs:=Is [((k:Nat):Int)]) (.i .i64 ((k:Nat):Int)) ⟨_,rfl,rfl⟩ ?_ Dl
  refine vk (vbi) ?_;refine rn ?_
  by_cases hm:((k:Nat):Int)=4096
  ·refine cnt (dT hm) ?_
   refine .exit ?_
   have hk4:k=4096:=by omega
   subst hk4
   exact ⟨rfl,rfl⟩
  refine cnf (dF hm) ?_
  have hlt:k<4096:=by omega
  have hkl:k<xs.length:=(lS.1 hx).1
  refine .skip ?_
  show AW _ _ _ _ _ _
  refine .gh (Gh.keep [5,6] rfl) ?_;refine .seq ?_;refine .region ?_;refine vk (Fo BG) ?_
  refine Sc (cs:=[.own 3 (Is [((k:Nat):Int)]),.own 83 (Its (xs.take k))]) rfl rfl ?_ Ek
  refine vk (Eh Bl AI) ?_;refine vk (Ih (Hy x) (F9 [x]) Gt) ?_
  have hap:ap? 1466015503701 (xs.take k) [x]=some (xs.take (k+1)):=by
   rw [ap?,if_pos (by simp;omega),List.take_add_one,hx];rfl
  refine XI Nh hap rfl rfl Qb ?_ Lk Bi Gt
  refine RL.gh (Gh.keep [5,6,20] rfl) ?_;refine vk (Fo BG) ?_
  refine Qo (cs:=[.own 3 (Is [((k:Nat):Int)]),.un]) (c:=.un) rfl rfl ?_ Oz
  refine rn ?_;refine .gh (Gh.keep [5] rfl) ?_;refine .region ?_;refine vk (Fo BW) ?_
  refine Sc (cs:=[.own 3 (Is [((k:Nat):Int)]),.own 83 (Its (xs.take (k+1)))]) rfl rfl ?_ E9
  refine ixr (len:=1) (xs:=Is [((k:Nat):Int)]) 0 rfl (by decide) ?_ JB (by decide)
  refine lde (xs:=Is [((k:Nat):Int)]) (.i .i64 ((k:Nat):Int)) ⟨_,rfl,rfl⟩ ?_ Dl
  refine vk (vbi) ?_
  refine ixr (len:=1) (xs:=Is [((k:Nat):Int)]) 0 rfl (by decide) ?_ JB (by decide)
  refine ste (xs:=Is [((k:Nat):Int)]) ⟨_,rfl,rfl⟩ ?_ Mj (hn:=fun _ _ _=>Nat.zero_le _)
  refine .nil ?_
  have hw:IntKind.wrap .i64 ((k:Int)+1)=((k+1:Nat):Int):=by simp only [IntKind.wrap,IntKind.bits,IntKind.signed];simp;omega
  refine ⟨by rw [if_pos hlt],?_⟩
  rw [Nat.min_eq_left (by omega:k+1≤4096)]
  show [HO.box [AV.own _ [.i .i64 (IntKind.wrap .i64 ((k:Int)+1))],_]]=_
  rw [hw];rfl
 ·have hlen:(itY xs).length=xs.length:=by simp [itY]
  rw [hlen] at hH ⊢
  have hn:min (min (4096+1) xs.length) 4096=min xs.length 4096:=by omega
  rw [hn] at hH
  subst hH
  by_cases hb:4096<xs.length
  case' pos=>rw [if_pos hb]
  case' neg=>rw [if_neg hb]
  all_goals
   show AWM _ _ _ _ _ _
   refine .lift ?_;refine .gh (Gh.keep [2,4,5] rfl) ?_;refine .seq ?_;refine .seq ?_;refine .region ?_;refine vk (Fo BW) ?_
   refine Sc (cs:=[.own 3 (Is [((min xs.length 4096:Nat):Int)]),.own 83 (Its (xs.take (min xs.length 4096)))]) rfl rfl ?_ E9
   refine ixr (len:=1) (xs:=Is [((min xs.length 4096:Nat):Int)]) 0 rfl (by decide) ?_ JB (by decide)
   refine lde (xs:=Is [((min xs.length 4096:Nat):Int)]) (.i .i64 ((min xs.length 4096:Nat):Int)) ⟨_,rfl,rfl⟩ ?_ Dl
   refine vk (vbi) ?_;refine rn ?_;refine .gh (Gh.keep [2,4,5,32] rfl) ?_
   by_cases h0:((min xs.length 4096:Nat):Int)=0
   ·have hx0:xs.length=0:=by omega
    refine cnt (dT h0) ?_;refine .region ?_;refine vk (Aj Bl AI) ?_;refine vk (Ih (Hy proto) (F9 [proto]) Gt) ?_;refine vk (Fo BG) ?_
    refine Qo (cs:=[.own 3 (Is [((min xs.length 4096:Nat):Int)]),.own 83 (Its (xs.take (min xs.length 4096)))]) (c:=.own 83 (Its (xs.take (min xs.length 4096)))) rfl rfl ?_ Oz
    refine .nil ?_
    show AW _ _ _ _ _ _
    refine .gh (Gh.keep [4,5] rfl) ?_;refine .seq ?_;refine .region ?_;refine fz (p:=.c 0 0) ?_;refine fz (p:=.c 0 1) ?_;refine vk (JC (cs:=[.d (.sl (Is [((min xs.length 4096:Nat):Int)])),.d (.sl (Its [proto]))]) (ds:=[.sl (Is [((min xs.length 4096:Nat):Int)]),.sl (Its [proto])]) rfl AP Ap) ?_
    refine stn ?_ Ap (by decide)
    refine rn ?_;refine .ret ?_
    exact ⟨.inr rfl,.inl ⟨_,⟨.inr rfl,AP,Ap,(by decide:(0:Nat)<2)⟩,by simp only [Sp,if_pos hx0];rfl⟩⟩
   ·have hx0:¬xs.length=0:=by omega
    refine cnf (dF h0) ?_;refine .skip ?_
    show AW _ _ _ _ _ _
    refine .gh (Gh.keep [4,5] rfl) ?_;refine .seq ?_;refine .region ?_;refine fz (p:=.c 0 0) ?_;refine fz (p:=.c 0 1) ?_;refine vk (JC (cs:=[.d (.sl (Is [((min xs.length 4096:Nat):Int)])),.d (.sl (Its (xs.take (min xs.length 4096))))]) (ds:=[.sl (Is [((min xs.length 4096:Nat):Int)]),.sl (Its (xs.take (min xs.length 4096)))]) rfl AP Ap) ?_
    refine stn ?_ Ap (by decide)
    refine rn ?_;refine .ret ?_
    have ht:xs.take (min xs.length 4096)=xs.take 4096:=by
     rcases Nat.le_total xs.length 4096 with h|h
     ·rw [Nat.min_eq_left h,List.take_of_length_le (Nat.le_refl _),List.take_of_length_le h]
     ·rw [Nat.min_eq_right h]
    exact ⟨.inr rfl,.inl ⟨_,⟨.inr rfl,AP,Ap,(by decide:(0:Nat)<2)⟩,by simp only [Sp,if_neg hx0,ht];rfl⟩⟩
def N0 (l:List Int) : Option Arr:=if l.length≤9223372036854775806 then (JM l).bind fun xs=>(B6 0).bind fun q=>(Dw q).bind fun p=>some (Sp p xs) else none
theorem J1 {l:List Int} {r:Arr} (h:N0 l=some r) : Fn Tryz.prog 30 [.sl (Is l)] (.d (.ag [.sl (Is r.shape),.sl (Its r.items)])):=by
 obtain ⟨hl,h⟩:=BV h
 obtain ⟨xs,hxs,h⟩:=bnd h
 obtain ⟨q,hq,h⟩:=bnd h
 obtain ⟨p,hp,h⟩:=bnd h
 cases h
 refine Fn.ofC (rs:=[.cell 2 25]) (nt:=7) Tryz.func30 rfl rfl rfl (by simp) rfl ?_;refine .seq ?_;refine .region ?_;refine vk (XL) ?_;refine vk (van (Ai BC) BY) ?_;refine rn ?_;refine .seq ?_;refine .region ?_;refine vk (Ae (BD hq) Tryz.call72) ?_;refine vk (Ae (EO hp) Tryz.call71) ?_;refine vk (VJ) ?_;refine vk (Ae (UG (proto:=p) Tryz.call77 (Wd hxs hl 4096)) Tryz.call76) ?_
 refine stn ?_ Ap (by decide)
 refine rn ?_;refine .ret ?_
 exact ⟨_,⟨.inr rfl,AP,Ap,(by decide:(0:Nat)<2)⟩,rfl⟩
mutual
def tyI : Itm→Itm
 | .mk k _ _ b=>if k=1 then .mk 1 (ofQ 0) 0 [] else if k=2 then .mk 2 (false,[],[]) 32 [] else .mk 3 (false,[],[]) 0 (tyBs b)
def tyA : Arr→Arr
 | .mk s i=>.mk s (tyIs i)
def tyIs : List Itm→List Itm
 | []=>[]
 | x::xs=>tyI x::tyIs xs
def tyBs : List Arr→List Arr
 | []=>[]
 | a::_=>[tyA a]
end
def Aav (xs:List Itm) : List Int:=xs.map fun x=>((1+cI x:Nat) : Int)
def SE (z:Int) : Prop:=-9223372036854775808≤z∧z≤9223372036854775807
theorem Ip {z:Int} (h:SE z) : AB (z:Rat):=Vq h.1 (by have:=h.2;omega)
theorem Pk : SE 0:=by unfold SE;omega
end Go.FL
namespace Go.FL
open Go Go.RowKit
def FnN (P:Program) (f:FuncId) (args:List DV) (r:AV) : Prop :=
 ∀ (w:World) (I:Nat→Prop) (vs:List Value),(∀ b,I b→b<w.heap.size)→RepAll w I args vs →
  CallsIn (om none) 0 P f (Value.slice none 0 0::vs).toArray w fun e w'=>∃ v I' bs,e=.returned v∧Below w.heap.size w w'∧(∀ b,I b→I' b) ∧
   (∀ b,I' b→b<w'.heap.size∧(b<w.heap.size→I b))∧ARep P w' I' [] r v bs∧bs.Nodup∧∀ b∈bs,w.heap.size≤b∧b<w'.heap.size∧¬I' b
section
variable {P:Program} {H:Al}
def Z4 (P:Program) (f:FuncId) (e:TypeId) (M:Nat) : Prop:=∀ (n:Nat) (w:World),n≤M →
 Calls P f #[.slice none 0 0,.int .i64 n] w fun x w'=>(x=.returned (.slice none 0 0)∧w'=w) ∨
  (∃ (cap:Nat) (cells:Array Value),0<cap∧cap≤maxLen∧cells.size=cap * AK P e∧x=.returned (.slice (some ⟨w.heap.size,0,none⟩) 0 cap)∧w'=w.drew.alloc (.cells cells e))
theorem FnN.grow {f e M:Nat} (hsz:0<AK P e) (h:Z4 P f e M) {n:Nat} (hn:n≤M) : FnN P f [.i .i64 n] (.own e []):=by
 intro w I vs hI ha
 have hvs:vs=[.int .i64 n]:=by
  cases ha with
  | cons h1 ha=>cases ha;cases h1;rfl
 subst hvs
 rw [Yf]
 refine callsIn_wide.2 ((h n w hn).mono fun x w' hx=>?_)
 rcases hx with ⟨rfl,rfl⟩|⟨cap,cells,h0,hm,hc,rfl,rfl⟩
 ·refine ⟨_,I,[],rfl,Below.refl _ _,fun _ h=>h,fun b hb=>⟨hI b hb,fun _=>hb⟩,?_,nN,nofun⟩
  exact .own e [] (.slice none 0 0) [] hsz (.inl ⟨none,rfl,rfl,rfl⟩) (.nil _)
 ·have hlt:w.heap.size<(w.drew.alloc (.cells cells e)).heap.size:=(Array.getElem?_eq_some_iff.1 (heap_alloc_new w.drew (.cells cells e))).1
  have ho:OwnR (w.drew.alloc (.cells cells e)) e (AK P e) (.slice (some ⟨w.heap.size,0,none⟩) 0 cap) 0 []:=by
   refine .inr ⟨⟨by simp,.inr ⟨w.heap.size,cap,cells,rfl,Nat.zero_le _,heap_alloc_new w.drew _,Nat.zero_le _,hm,hc,by simp⟩⟩,w.heap.size,cap,rfl,h0⟩
  refine ⟨_,I,[w.heap.size],rfl,?_,fun _ h=>h,fun b hb=>⟨Nat.lt_trans (hI b hb) hlt,fun _=>hb⟩,?_,by simp,fun b hb=>?_⟩
  ·exact ((Below.refl _ w).drew).alloc (Nat.le_refl _) _
  ·have:[w.heap.size]=BR (.slice (some ⟨w.heap.size,0,none⟩) 0 cap):=by simp [BR,Nat.pos_iff_ne_zero.1 h0]
   rw [this]
   exact .own e [] _ [] hsz ho (.nil _)
  ·rw [List.mem_singleton] at hb
   subst hb
   exact ⟨Nat.le_refl _,hlt,fun hi=>by have:=hI _ hi;omega⟩
end
section
variable {P:Program} {C:Cx} {o:Oper} {ops:Array Oper} {Q:Exit→Env→Al→Prop} {env:Env} {H:Al} {k:Nat} {l:List Oper}
end
end Go.FL
namespace Go.FL
open Go Go.RowKit
section
variable {P:Program} {C:Cx} {X:Snap} {o:Oper} {ops:Array Oper} {Q:Exit→Env→Al→Prop} {env env':Env} {H H':Al} {a:Act} {w w':World} {I I':Nat→Prop} {μ μ':List Nat} {O O':Nat→Option Loc}
 {K:Env→Al→Prop} {k:Nat} {l:List Oper}
theorem Aah {ty:Nat} (ho:o.op=.makeMap ty none:=by rfl) : VOK P C o env H (.om [] []) :=
 .val (by simp [ho]) fun X a w I μ O _ _ _ hs =>
  ⟨.map (some w.heap.size),w.alloc (.map #[] 0),I,[w.heap.size],by simp [execOp,ho,Instr.makeMap,newObj,Sem.run],Be _,fun b hi=>hi,fun b hi=>⟨nL (hs.ilt b hi) (Be _).size,fun _=>hi⟩,
   ARep.om [] [] [] [] w.heap.size #[] 0 (heap_alloc_new w _) .nil .nil (List.Perm.refl _) rfl,by simp,fun b hb=>by
    simp at hb;subst hb
    exact ⟨Nat.le_refl _,by simp,fun hi=>by have:=hs.ilt _ hi;omega⟩⟩
def freshK (q:IntKind) (z:Int) (ks:List DV) : Prop:=∀ k∈ks,∃ z',k=.i q z'∧z'≠z
theorem TP {α β:Type} : ∀ {ks:List α} {vs:List β} {x:α},ks.length=vs.length→x∈ks→∃ v,(x,v)∈ks.zip vs
 | k::ks,v::vs,x,hl,h=>by
  rcases List.mem_cons.1 h with rfl|h
  ·exact ⟨v,by simp⟩
  ·obtain ⟨u,hu⟩:=TP (ks:=ks) (vs:=vs) (by simpa using hl) h
   exact ⟨u,by simp [hu]⟩
theorem LN {q:IntKind} {z:Int} {ty:TypeDesc} (hty:ty=.int q) : ∀ {es:List MapEntry} {ks:List DV} (n:Nat),RepAll w I ks (es.map MapEntry.key)→freshK q z ks→Instr.findNow ty (.int q z) es n=some none
 | [],_,n,_,_=>rfl
 | e::es,ks,n,hk,hf=>by
  subst hty
  cases hk with
  | @cons c _ cs _ h t =>
   obtain ⟨z',rfl,hz⟩:=hf c (by simp)
   have he:e.key=.int q z':=by
    generalize e.key=u at h
    cases h;rfl
   have hs:Instr.sameNow (.int q) (.int q z) e.key=some false:=by
    rw [he];simp [Instr.sameNow];exact fun h=>hz h.symm
   simp only [Instr.findNow,hs]
   exact LN rfl (n+1) t fun k hk=>hf k (by simp [hk])
theorem Pn {q:IntKind} {z:Int} {ty:TypeDesc} (hty:ty=.int q) {d:DV} : ∀ {es:List MapEntry} {ks vs:List DV} (n:Nat),RepAll w I ks (es.map MapEntry.key)→RepAll w I vs (es.map MapEntry.val) →
  (∀ k∈ks,∃ z',k=.i q z')→(.i q z,d)∈ks.zip vs→(∀ d',(.i q z,d')∈ks.zip vs→d'=d)→∃ i v,Instr.findNow ty (.int q z) es n=some (some (i,v))∧Rep w I d v
 | [],_,_,n,hk,_,_,hm,_=>by cases hk;simp at hm
 | e::es,ks,vs,n,hk,hv,hi,hm,hu=>by
  subst hty
  cases hk with
  | @cons c _ cs _ h t =>
   cases hv with
   | @cons c2 _ cs2 _ h2 t2 =>
    obtain ⟨z',rfl⟩:=hi c (by simp)
    have he:e.key=.int q z':=by
     generalize e.key=u at h
     cases h;rfl
    by_cases hz:z=z'
    ·subst hz
     have hs:Instr.sameNow (.int q) (.int q z) e.key=some true:=by rw [he];simp [Instr.sameNow]
     refine ⟨n,e.val,by simp only [Instr.findNow,hs],?_⟩
     have:=hu c2 (by simp)
     subst this;exact h2
    ·have hs:Instr.sameNow (.int q) (.int q z) e.key=some false:=by rw [he];simp [Instr.sameNow];exact hz
     simp only [Instr.findNow,hs]
     refine Pn rfl (n+1) t t2 (fun k hk=>hi k (by simp [hk])) ?_ (fun d' hd=>hu d' (by simp [hd]))
     simp only [List.zip_cons_cons,List.mem_cons,Prod.mk.injEq,DV.i.injEq,true_and] at hm
     rcases hm with ⟨h3,_⟩|hm
     ·exact absurd h3 hz
     ·exact hm
theorem Mf {kt:TypeId} {q:IntKind} {z:Int} (hk:P.underlying kt=some (.int q)) (b:Bool) (n:Nat) : (Instr.checkKey b (n+1) kt (.int q z)).run P w=.ok () w:=by
 unfold Instr.checkKey
 simp [run_underlying hk]
theorem JK {kt:TypeId} {q:IntKind} {z:Int} {es:List MapEntry} {r:Option (Nat×Value)} (hk:P.underlying kt=some (.int q)) (hf:Instr.findNow (.int q) (.int q z) es 0=some r) : (Instr.findKey kt (.int q z) es).run P w=.ok r w:=by
 simp [Instr.findKey,run_underlying hk,hf]
theorem P1 {r:Nat} {es:Array MapEntry} {c:Nat} (hh:w.heap[r]?=some (.map es c)) : (getObj r).run P w=.ok (.map es c) w:=by
 simp [getObj,Sem.run,hh]
theorem SF {ty kt et:TypeId} {q:IntKind} {r:Nat} {es:Array MapEntry} {clock:Nat} {z:Int} {v:Value} (hu:P.underlying ty=some (.map kt et)) (hk:P.underlying kt=some (.int q)) (hh:w.heap[r]?=some (.map es clock)) (hf:Instr.findNow (.int q) (.int q z) es.toList 0=some none) :
  (Instr.mapUpdate ty (.map (some r)) (.int q z) v).run P w=.ok () {w with heap:=w.heap.setIfInBounds r (.map (es.push {key:=.int q z,val:=v,born:=clock}) (clock+1))}:=by
 have h1:=Mf (w:=w) (z:=z) hk false 9999
 have h2:=JK (w:=w) (z:=z) hk hf
 have h3:=P1 (P:=P) hh
 unfold Instr.mapUpdate
 simp only [run_underlying hu,Sem.run_bind,Result.andThen_ok,h1,h2,h3]
 simp [setObj,Sem.run,hh]
theorem N3 {ty kt et:TypeId} {q:IntKind} {r:Nat} {es:Array MapEntry} {clock:Nat} {z:Int} {i:Nat} {v:Value} (hu:P.underlying ty=some (.map kt et)) (hk:P.underlying kt=some (.int q)) (hh:w.heap[r]?=some (.map es clock)) (hf:Instr.findNow (.int q) (.int q z) es.toList 0=some (some (i,v))) :
  (Instr.lookup ty (.map (some r)) (.int q z) false).run P w=.ok v w:=by
 have h1:=Mf (w:=w) (z:=z) hk es.isEmpty 9999
 have h2:=JK (w:=w) (z:=z) hk hf
 have h3:=P1 (P:=P) hh
 unfold Instr.lookup
 simp only [run_underlying hu,Sem.run_bind,Sem.run_pure,Result.andThen_ok,h1,h2,h3]
 rfl
theorem MS {ty kt et:TypeId} {q:IntKind} {r:Nat} {es:Array MapEntry} {clock:Nat} {z:Int} {v:Value} (hu:P.underlying ty=some (.map kt et)) (hk:P.underlying kt=some (.int q)) (hz:(zeroValue et).run P w=.ok v w) (hh:w.heap[r]?=some (.map es clock)) (hf:Instr.findNow (.int q) (.int q z) es.toList 0=some none) :
  (Instr.lookup ty (.map (some r)) (.int q z) false).run P w=.ok v w:=by
 have h1:=Mf (w:=w) (z:=z) hk es.isEmpty 9999
 have h2:=JK (w:=w) (z:=z) hk hf
 have h3:=P1 (P:=P) hh
 unfold Instr.lookup
 simp only [run_underlying hu,Sem.run_bind,Sem.run_pure,Result.andThen_ok,h1,h2,h3,hz]
 rfl
theorem Mg {ks vs ks' vs':List DV} (hp:(ks'.zip vs').Perm (ks.zip vs)) (hl:ks'.length=vs'.length) {k:DV} (h:k∈ks') : k∈ks:=by
 obtain ⟨v,hv⟩:=TP hl h
 exact (List.of_mem_zip (hp.mem_iff.1 hv)).1
theorem Sim.om_inv (hs:Sim P X env H a w I μ O) {t:Nat} {ks vs:List DV} (hg:get env t=.om ks vs) :
  ∃ blk es c ks' vs',a.tmps.getD t undef=.map (some blk)∧w.heap[blk]?=some (.map es c)∧RepAll w I ks' (es.toList.map MapEntry.key)∧RepAll w I vs' (es.toList.map MapEntry.val)∧(ks'.zip vs').Perm (ks.zip vs)∧ks.length=vs.length∧O blk=some (.t t):=by
 have:=hs.envr t
 rw [hg] at this
 obtain ⟨bs,h1,h2,h3⟩:=this.plain rfl
 generalize a.tmps.getD t undef=v at h1
 cases h1 with
 | om _ _ ks' vs' blk es c hh hk hv hp hl=>exact ⟨blk,es,c,ks',vs',rfl,hh,hk,hv,hp,hl,h3 blk (by simp)⟩
theorem Sim.ins (hs:Sim P X env H a w I μ O) {t:Nat} {ks vs:List DV} (hg:get env t=.om ks vs) {ty kt et:TypeId} {q:IntKind} {z:Int} {d:DV} {v:Value} (hu:P.underlying ty=some (.map kt et)) (hk:P.underlying kt=some (.int q)) (hf:freshK q z ks) (hv:Rep w I d v) :
  ∃ w',(Instr.mapUpdate ty (a.tmps.getD t undef) (.int q z) v).run P w=.ok () w'∧Sim P X ((t,.om (ks++[.i q z]) (vs++[d]))::env) H a w' I μ O:=by
 obtain ⟨blk,es,c,ks',vs',h1,h2,h3,h4,h5,h6,hO⟩:=hs.om_inv hg
 have hl':ks'.length=vs'.length:=by rw [h3.length,h4.length,List.length_map,List.length_map]
 have hfn:=LN (q:=q) (z:=z) rfl 0 h3 fun k hk=>hf k (Mg h5 hl' hk)
 have hlt:blk<w.heap.size:=(hs.own blk _ hO).1
 refine ⟨{w with heap:=w.heap.setIfInBounds blk (.map (es.push {key:=.int q z,val:=v,born:=c}) (c+1))},by rw [h1];exact SF hu hk h2 hfn,?_⟩
 have hoth:∀ b,b≠blk→(w.heap.setIfInBounds blk (.map (es.push {key:=.int q z,val:=v,born:=c}) (c+1)))[b]?=w.heap[b]?:=fun b hb=>by
  rw [Array.getElem?_setIfInBounds,if_neg (Ne.symm hb)]
 obtain ⟨n1,_,_⟩:=hs.other_blk hO
 refine hs.blkSet (w':={w with heap:=w.heap.setIfInBounds blk (.map (es.push {key:=.int q z,val:=v,born:=c}) (c+1))}) (av:=.om (ks++[.i q z]) (vs++[d])) hO (by rw [hg];rfl) rfl hoth (by simp) rfl rfl rfl ?_
 rw [h1]
 have hI:∀ b,I b→(w.heap.setIfInBounds blk (.map (es.push {key:=.int q z,val:=v,born:=c}) (c+1)))[b]?=w.heap[b]?:=fun b hi=>hoth b (n1 b hi)
 refine .om _ _ (ks'++[.i q z]) (vs'++[d]) blk (es.push {key:=.int q z,val:=v,born:=c}) (c+1) ?_ ?_ ?_ ?_ (by simp [h6])
 ·show (w.heap.setIfInBounds blk _)[blk]?=_
  rw [Array.getElem?_setIfInBounds,if_pos rfl,if_pos hlt]
 ·rw [Array.toList_push,List.map_append]
  exact (h3.keep hI fun _ h=>h).append (.cons (.i _ _) .nil)
 ·rw [Array.toList_push,List.map_append]
  exact (h4.keep hI fun _ h=>h).append (.cons (hv.keep hI fun _ h=>h) .nil)
 ·rw [List.zip_append hl',List.zip_append h6]
  exact List.Perm.append h5 (List.Perm.refl _)
theorem OF {m:Nat} {x y:Operand} {ty kt et:TypeId} {q:IntKind} {z:Int} {ks vs:List DV} {d:DV} (hu:P.underlying ty=some (.map kt et)) (hk:P.underlying kt=some (.int q)) (hf:freshK q z ks) (h:RL P C ops Q (k+1) l ((m,.om (ks++[.i q z]) (vs++[d]))::env) H) (hg:grd ops env o true=true:=by rfl)
  (ho:o.op=.insert ty (.tmp m) x y:=by rfl) (hm:get env m=.om ks vs:=by rfl) (hx:Bp (lk env x)=some (.i q z):=by rfl) (hy:Bp (lk env y)=some d:=by rfl) (hd:o.dst=none:=by rfl):RL P C ops Q k (o::l) env H:=by
 refine .go hg (.done (by simp [ho]) hd (fun X a w I μ O _ _ _ hs=>?_) h)
 have h1:=hs.deep (x:=x) hx
 have h2:=hs.deep (x:=y) hy
 generalize hev:a.eval x=u at h1
 cases h1
 obtain ⟨w',r1,r2⟩:=hs.ins hm hu hk hf h2
 have he:a.eval (.tmp m)=a.tmps.getD m undef:=rfl
 exact ⟨w',I,μ,O,by simp only [execOp,ho,hev,he,r1,Sem.run_bind,Result.andThen_ok,Sem.run_pure],r2⟩
theorem Gh.omf {t:Nat} {ks vs:List DV} (hg:get env t=.om ks vs) : Gh P C env H ((t,.d (.mp ks vs))::env) H:=fun X a w I μ O _ _ _ hs=>by
 obtain ⟨blk,es,c,ks',vs',h1,h2,h3,h4,h5,h6,hO⟩:=hs.om_inv hg
 obtain ⟨n1,n2,n3⟩:=hs.other_blk hO
 refine ⟨_,_,⟨hs.toMem.frz [blk] (fun b hm=>by simp at hm;subst hm;exact (hs.own b _ hO).1) (fun b hm hk=>by simp at hm;exact n2 b hk hm) H rfl ?_,fun s=>?_,hs.nt,hs.dfs⟩⟩
 ·intro id ob ho
  obtain ⟨bb,bs,k1,k2,k3,k4⟩:=hs.heap id ob ho
  refine ⟨bb,bs,k1,k2.mono fun _ h=>.inl h,fun hn=>⟨(k3 hn).1,fun b hb=>?_⟩,k4⟩
  have:b∉[blk]:=by simpa using n3 id ob bb bs ho k1 k3 k4 b hb
  simp only [this,if_false]
  exact (k3 hn).2 b hb
 ·by_cases hst:t=s
  ·subst hst
   rw [show get ((t,.d (.mp ks vs))::env) t=.d (.mp ks vs) by simp [get]]
   refine .of (bs:=[]) ?_ nN (by simp)
   rw [h1]
   exact .d (.mp ks vs ks' vs' blk es c (.inr (by simp)) h2 (h3.keep (fun _ _=>rfl) fun _ h=>.inl h) (h4.keep (fun _ _=>rfl) fun _ h=>.inl h) h5 h6)
  ·rw [show get ((t,.d (.mp ks vs))::env) s=get env s by simp [get,hst]]
   have key:∀ p e xs,AZ env H p=.own e xs→AZ ((t,AV.d (.mp ks vs))::env) H p=.own e xs:=by
    intro p e' xs hp
    cases p with
    | t r =>
     have hr':t≠r:=fun h=>by subst h;simp only [AZ] at hp;rw [hg] at hp;cases hp
     simp only [AZ,get,if_neg hr'];exact hp
    | c id off=>exact hp
   have ht:=hs.envr s
   cases hgs:get env s with
   | ref p off len =>
    rw [hgs] at ht
    obtain ⟨e',xs,A,n,c,g1,g2,g3,g4⟩:=ht
    exact ⟨e',xs,A,n,c,key p e' xs g1,g2,g3,g4⟩
   | ep p i k =>
    rw [hgs] at ht
    obtain ⟨e',xs,b,n,c,g1,g2,g3,g4,g5⟩:=ht
    exact ⟨e',xs,b,n,c,key p e' xs g1,g2,g3,g4,g5⟩
   | _ =>
    rw [hgs] at ht
    obtain ⟨bs,g1,g2,g3⟩:=ht.plain rfl
    refine .of (g1.keep (fun _ h=>.inl h) (fun _ _=>rfl) (fun _ _ h=>h) fun _ _=>rfl) g2 fun b hb=>?_
    have:b∉[blk]:=fun hm=>by
     simp at hm;subst hm
     have:=g3 b hb;rw [hO] at this;simp at this;exact hst this
    simp only [this,if_false]
    exact g3 b hb
theorem Aax {x y:Operand} {ty kt et:TypeId} {q:IntKind} {z:Int} {ks vs:List DV} {d:DV} (hu:P.underlying ty=some (.map kt et)) (hk:P.underlying kt=some (.int q)) (hi:∀ k∈ks,∃ z',k=.i q z') (hm:(.i q z,d)∈ks.zip vs) (hq:∀ d',(.i q z,d')∈ks.zip vs→d'=d)
  (ho:o.op=.lookup ty x y false:=by rfl) (hx:Bp (lk env x)=some (.mp ks vs):=by rfl) (hy:Bp (lk env y)=some (.i q z):=by rfl):VOK P C o env H (.d d) :=
 .pv ⟨by simp [ho],fun X a w I μ O _ hs=>by
  have h1:=hs.deep (x:=x) hx
  have h2:=hs.deep (x:=y) hy
  generalize hev:a.eval x=u at h1
  generalize hev2:a.eval y=u2 at h2
  cases h2
  cases h1 with
  | mp _ _ ks' vs' r es c hI hh h3 h4 hp hl =>
   have hl':ks'.length=vs'.length:=by rw [h3.length,h4.length,List.length_map,List.length_map]
   obtain ⟨i,v,e1,e2⟩:=Pn (q:=q) (z:=z) (d:=d) rfl 0 h3 h4 (fun k hk=>hi k (Mg hp hl' hk)) (hp.mem_iff.2 hm) fun d' hd=>hq d' (hp.mem_iff.1 hd)
   exact ⟨v,by simp only [execOp,ho,hev,hev2,N3 hu hk hh e1,Sem.run_bind,Result.andThen_ok,Sem.run_pure],.of_rep e2⟩⟩
theorem Aa0 {x y:Operand} {ty kt et:TypeId} {q:IntKind} {z:Int} {ks vs:List DV} {d:DV} {zv:Value} (hu:P.underlying ty=some (.map kt et)) (hk:P.underlying kt=some (.int q)) (hz:∀ w,(zeroValue et).run P w=.ok zv w) (hd:∀ w I,Rep w I d zv) (hf:freshK q z ks)
  (ho:o.op=.lookup ty x y false:=by rfl) (hx:Bp (lk env x)=some (.mp ks vs):=by rfl) (hy:Bp (lk env y)=some (.i q z):=by rfl):VOK P C o env H (.d d) :=
 .pv ⟨by simp [ho],fun X a w I μ O _ hs=>by
  have h1:=hs.deep (x:=x) hx
  have h2:=hs.deep (x:=y) hy
  generalize hev:a.eval x=u at h1
  generalize hev2:a.eval y=u2 at h2
  cases h2
  cases h1 with
  | mp _ _ ks' vs' r es c hI hh h3 h4 hp hl =>
   have hl':ks'.length=vs'.length:=by rw [h3.length,h4.length,List.length_map,List.length_map]
   have e1:=LN (q:=q) (z:=z) rfl 0 h3 fun k hk=>hf k (Mg hp hl' hk)
   exact ⟨zv,by simp only [execOp,ho,hev,hev2,MS hu hk (hz w) hh e1,Sem.run_bind,Result.andThen_ok,Sem.run_pure],.of_rep (hd w I)⟩⟩
end
end Go.FL
namespace Go.FL
open Go Go.RowKit
section
variable {P:Program} {C:Cx} {X:Snap} {o:Oper} {ops:Array Oper} {Q:Exit→Env→Al→Prop} {env env':Env} {H H':Al} {a:Act} {w w':World} {I I':Nat→Prop} {μ μ':List Nat} {O O':Nat→Option Loc}
 {K:Env→Al→Prop} {k:Nat} {l:List Oper}
def GG (P:Program) (t:TypeId) : Bool:=match P.underlying t with
 | some (.func ..)=>true
 | _=>false
theorem UX {t:TypeId} (hu:GG P t=true) (f:Go.Fn) (fs cs:Array Value) : (Op.equal t (.func f fs cs) .nilFunc).run P w=.ok false w:=by
 unfold GG at hu
 split at hu
 ·rename_i h
  have e:Op.equal t (.func f fs cs) .nilFunc=Op.equalIn (9999+1) t (.func f fs cs) .nilFunc:=rfl
  rw [e]
  unfold Op.equalIn
  simp only [run_underlying h,Sem.run_bind,Result.andThen_ok,Sem.run_pure]
 ·cases hu
theorem Vf {t:TypeId} (hu:GG P t=true) : (Op.equal t .nilFunc .nilFunc).run P w=.ok true w:=by
 unfold GG at hu
 split at hu
 ·rename_i h
  have e:Op.equal t .nilFunc .nilFunc=Op.equalIn (9999+1) t .nilFunc .nilFunc:=rfl
  rw [e]
  unfold Op.equalIn
  simp only [run_underlying h,Sem.run_bind,Result.andThen_ok,Sem.run_pure]
 ·cases hu
theorem Aa8 {xt yt:TypeId} {x y:Operand} {f:FuncId} {fs cs:List DV} (hu:GG P xt=true) (ho:o.op=.binOp .eql xt x y yt:=by rfl) (hx:Bp (lk env x)=some (.fn f fs cs):=by rfl) (hy:Bp (lk env y)=some .nf:=by rfl) : VOK P C o env H (.d (.b false)):=by
 refine .same (by simp [ho]) fun X a w I μ O _ hs=>⟨.bool false,?_,.b _⟩
 have h1:=hs.deep hx
 have h2:=hs.deep hy
 generalize hev:a.eval x=v1 at h1
 generalize hev2:a.eval y=v2 at h2
 cases h1;cases h2
 simp [execOp,ho,hev,hev2,binOp,eqGuard,UX hu]
theorem Zj {xt yt:TypeId} {x y:Operand} (hu:GG P xt=true) (ho:o.op=.binOp .eql xt x y yt:=by rfl) (hx:Bp (lk env x)=some .nf:=by rfl) (hy:Bp (lk env y)=some .nf:=by rfl) : VOK P C o env H (.d (.b true)):=by
 refine .same (by simp [ho]) fun X a w I μ O _ hs=>⟨.bool true,?_,.b _⟩
 have h1:=hs.deep hx
 have h2:=hs.deep hy
 generalize hev:a.eval x=v1 at h1
 generalize hev2:a.eval y=v2 at h2
 cases h1;cases h2
 simp [execOp,ho,hev,hev2,binOp,eqGuard,Vf hu]
end
end Go.FL
namespace Go.FL
open Go Go.RowKit
theorem Fg {α β:Type} {f g:α→Option β} : ∀ {l:List α},(∀ x∈l,f x=g x)→l.filterMap f=l.filterMap g
 | [],_=>rfl
 | x::l,h=>by
  rw [List.filterMap_cons,List.filterMap_cons,h x (by simp),Fg fun y hy=>h y (by simp [hy])]
theorem Kn {α:Type} {f g:Nat→Option α} {i:Nat} {p:α} (hf:f i=none) (hg:g i=some p) (he:∀ j,j≠i→g j=f j) : ∀ {l:List Nat},l.Nodup→i∈l→(l.filterMap g).Perm (l.filterMap f++[p])
 | x::l,hn,hm=>by
  obtain ⟨hx,hn⟩:=List.nodup_cons.1 hn
  by_cases h:x=i
  ·subst h
   rw [List.filterMap_cons_some hg,List.filterMap_cons_none hf]
   have:l.filterMap g=l.filterMap f:=Fg fun j hj=>he j fun e=>hx (e▸hj)
   rw [this]
   exact (List.perm_append_singleton p _).symm
  ·have hm':i∈l:=by
    rcases List.mem_cons.1 hm with h2|h2
    ·exact absurd h2.symm h
    ·exact h2
   have ih:=Kn hf hg he hn hm'
   cases hfx:f x with
   | none=>rw [List.filterMap_cons_none hfx,List.filterMap_cons_none (by rw [he x h,hfx])];exact ih
   | some y=>rw [List.filterMap_cons_some hfx,List.filterMap_cons_some (by rw [he x h,hfx]:g x=some y),List.cons_append];exact ih.cons y
def prs (iv:List (Option (Int×DV))) (L:Array Bool) : List (Int×DV):=(List.range iv.length).filterMap fun i=>if L.getD i false=true then (iv[i]?).join else none
def omP (q:IntKind) (ps:List (Int×DV)) : AV:=.om (ps.map fun p=>.i q p.1) (ps.map (·.2))
theorem Ly (q:IntKind) : ∀ (ps:List (Int×DV)),(ps.map fun p=>DV.i q p.1).zip (ps.map (·.2))=ps.map fun p=>(DV.i q p.1,p.2)
 | []=>rfl
 | p::ps=>by simp [Ly q ps]
theorem TI {iv:List (Option (Int×DV))} {L:Array Bool} {p:Int×DV} (h:p∈prs iv L) : ∃ j,L.getD j false=true∧iv[j]?=some (some p):=by
 obtain ⟨j,_,hj⟩:=List.mem_filterMap.1 h
 split at hj
 ·rename_i hl
  refine ⟨j,hl,?_⟩
  cases hx:iv[j]? with
  | none=>rw [hx] at hj;cases hj
  | some y=>rw [hx] at hj;simp at hj;rw [hj]
 ·cases hj
theorem RY {iv:List (Option (Int×DV))} {L:Array Bool} {i:Nat} (hi:i<L.size) (h:iv[i]?=some none) : prs iv (L.setIfInBounds i true)=prs iv L:=by
 unfold prs
 refine Fg fun j _=>?_
 rw [Aq hi]
 by_cases hij:i=j
 ·subst hij;rw [if_pos rfl,h];simp
 ·rw [if_neg hij]
theorem Xp {iv:List (Option (Int×DV))} {L:Array Bool} {i:Nat} {p:Int×DV} (hi:i<L.size) (hl:L.getD i false=false) (h:iv[i]?=some (some p)) : (prs iv (L.setIfInBounds i true)).Perm (prs iv L++[p]):=by
 unfold prs
 refine Kn (i:=i) ?_ ?_ (fun j hj=>?_) List.nodup_range (List.mem_range.2 (lS.1 h).1)
 ·rw [hl];rfl
 ·rw [Aq hi,if_pos rfl,if_pos rfl,h];rfl
 ·rw [Aq hi,if_neg (Ne.symm hj)]
theorem Xz {iv:List (Option (Int×DV))} {L:Array Bool} (h:∀ j,j<iv.length→L.getD j false=true) : prs iv L=iv.filterMap id:=by
 have:∀ (iv:List (Option (Int×DV))),(List.range iv.length).filterMap (fun i=>(iv[i]?).join)=iv.filterMap id:=by
  intro iv
  induction iv with
  | nil=>rfl
  | cons x xs ih =>
   rw [List.length_cons,List.range_succ_eq_map]
   cases x with
   | none=>simp only [List.filterMap_cons,List.filterMap_map];exact ih
   | some y=>simp only [List.filterMap_cons,List.filterMap_map];exact congrArg _ ih
 rw [← this iv]
 unfold prs
 exact Fg fun j hj=>by rw [if_pos (h j (List.mem_range.1 hj))]
section
variable {P:Program} {C:Cx} {X:Snap} {o:Oper} {ops:Array Oper} {Q:Exit→Env→Al→Prop} {env env' envi:Env} {H H':Al} {a:Act} {w w':World} {I I':Nat→Prop} {μ μ':List Nat} {O O':Nat→Option Loc}
 {K:Env→Al→Prop} {k:Nat} {l:List Oper} {av:AV}
theorem Sim.om_perm (hs:Sim P X env H a w I μ O) {t:Nat} {ks vs ks2 vs2:List DV} (hg:get env t=.om ks vs) (hp:(ks.zip vs).Perm (ks2.zip vs2)) (hl:ks2.length=vs2.length) : Sim P X ((t,.om ks2 vs2)::env) H a w I μ O:=by
 obtain ⟨blk,es,c,ks',vs',h1,h2,h3,h4,h5,h6,hO⟩:=hs.om_inv hg
 refine hs.blkSet (w':=w) (av:=.om ks2 vs2) hO (by rw [hg];rfl) rfl (fun _ _=>rfl) rfl rfl rfl rfl ?_
 rw [h1]
 exact .om _ _ ks' vs' blk es c h2 h3 h4 (h5.trans hp) hl
def HN : Nat:=1000000000
def Lg (ops:Array Oper) (m:Nat) : Bool :=
 ((List.range ops.size).all fun i=>match ops[i]? with
  | some o=>o.after.all (fun e=>!Region.binds .any e||decide (e.on<i))&&(match o.op with|.select ..=>false|_=>true)&&(o.looksAt ops).all (fun t=>decide (t<HN)) &&
   (if i<m then (List.range m).all fun j=>match ops[j]? with
     | some oj=>match oj.dst with
      | some t=>!(o.looksAt ops).contains t||(decide (j<i)&&Fk ops i j)
      | none=>true
     | none=>false
    else (List.range i).all fun j=>Ir ops i i j)
  | none=>false)&&decide (m≤ops.size)
theorem FB {m:Nat} (h:Lg ops m=true) {i:Nat} {o:Oper} (ho:ops[i]?=some o) :
  (∀ e∈o.after,Region.binds .any e=true→e.on<i)∧(∀ t∈o.looksAt ops,t<HN) ∧
  (i<m→∀ j,j<m→∀ oj t,ops[j]?=some oj→oj.dst=some t→t∈o.looksAt ops→j<i∧Fk ops i j=true)∧(¬i<m→∀ j,j<i→Ir ops i i j=true):=by
 unfold Lg at h
 rw [Bool.and_eq_true] at h
 have hi:i<ops.size:=(Array.getElem?_eq_some_iff.1 ho).1
 have:=List.all_eq_true.1 h.1 i (List.mem_range.2 hi)
 rw [ho] at this
 simp only [Bool.and_eq_true] at this
 obtain ⟨⟨⟨h1,_⟩,h4⟩,h3⟩:=this
 refine ⟨fun e he hb=>?_,fun t ht=>?_,fun him j hj oj t hoj htj hm=>?_,fun him j hj=>?_⟩
 ·obtain ⟨k,hk,rfl⟩:=Array.mem_iff_getElem.1 he
  have:=Array.all_eq_true.1 h1 k hk
  rw [hb] at this
  simpa using this
 ·simpa using List.all_eq_true.1 h4 t ht
 ·rw [if_pos him] at h3
  have:=List.all_eq_true.1 h3 j (List.mem_range.2 hj)
  rw [hoj] at this
  simp only [htj] at this
  have hc:(o.looksAt ops).contains t=true:=List.contains_iff_mem.2 hm
  rw [hc] at this
  simpa using this
 ·rw [if_neg him] at h3
  exact List.all_eq_true.1 h3 j (List.mem_range.2 hj)
def Jp (tm i0:Nat) (q:IntKind) (tv:List (Nat×AV)) (iv:List (Option (Int×DV))) (env0:Env) (L:Array Bool) : Env :=
 (if L.getD i0 false=true then [(tm,omP q (prs iv L))] else [])++Dd tv env0 L
theorem FT {tm i0:Nat} {q:IntKind} {tv:List (Nat×AV)} {iv:List (Option (Int×DV))} {env0:Env} {L:Array Bool} {s:Nat} (h:s≠tm) : get (Jp tm i0 q tv iv env0 L) s=get (Dd tv env0 L) s:=by
 unfold Jp
 split
 ·simp [get,Ne.symm h]
 ·rfl
theorem Kc {tm i0:Nat} {q:IntKind} {tv:List (Nat×AV)} {iv:List (Option (Int×DV))} {env0:Env} {L:Array Bool} (h:L.getD i0 false=true) : get (Jp tm i0 q tv iv env0 L) tm=omP q (prs iv L):=by
 unfold Jp
 rw [if_pos h];simp [get]
theorem JN {tm i0:Nat} {q:IntKind} {tv:List (Nat×AV)} {iv:List (Option (Int×DV))} {env0:Env} {L:Array Bool} (h:L.getD i0 false=false) : Jp tm i0 q tv iv env0 L=Dd tv env0 L:=by
 unfold Jp
 rw [h];rfl
def Wf (P:Program) (C:Cx) (ops:Array Oper) (H:Al) (env0 vals:Env) (tm i0 ty:Nat) (q:IntKind) (i:Nat) (o:Oper) (t:Nat) (v:AV) : Option (Int×DV)→Prop
 | none=>QU P C ops H env0 vals o t v∧tm∉o.looksAt ops∧t<HN∧(i≠i0→t≠tm)∧(i=i0→t=tm∧v=.om [] [])
 | some (z,d)=>o.dst=none∧o.guard=none∧v=.un∧t=HN+i∧get env0 t=.un∧Fk ops i i0=true∧∃ x y,o.op=.insert ty (.tmp tm) x y∧(∀ e,lk e x=.d (.i q z)) ∧
   ((∀ e,lk e y=.d d)∨∃ s,y=.tmp s∧s≠tm∧s∈o.looksAt ops∧get (A9 (o.looksAt ops) vals++env0) s=.d d)
theorem Aao {m i0 tm ty kt et:Nat} {q:IntKind} {env0:Env} {tv:List (Nat×AV)} {iv:List (Option (Int×DV))} (hu:P.underlying ty=some (.map kt et)) (hkt:P.underlying kt=some (.int q)) (hok:Lg ops m=true) (hlen:tv.length=m) (hiv:iv.length=m) (hi0:i0<m) (htmd:tm<HN)
  (htab:∀ (i:Nat) o,i<m→ops[i]?=some o→∃ t v p,tv[i]?=some (t,v)∧iv[i]?=some p∧Wf P C ops H env0 (tv.take i).reverse tm i0 ty q i o t v p)
  (hi0n:iv[i0]?=some none) (hkeys:∀ (i j:Nat) p p',iv[i]?=some (some p)→iv[j]?=some (some p')→i≠j→p.1≠p'.1)
  (hsuf:RL P C ops Q m (ops.toList.drop m) ((tm,omP q (iv.filterMap id))::(tv.reverse++env0)) H) (n1:X.nt=C.nt) (n2:X.n0=C.n0) (n3:X.ne=C.ne) (hle:m≤ops.size) :
  ∀ (fuel:Nat) (L:Array Bool) (a:Act) (w:World) (I:Nat→Prop) (O:Nat→Option Loc),L.size=ops.size→UQ ops L→(∀ j,m≤j→L.getD j false=false) →
   (List.range m).countP (fun i=>!L.getD i false)+(ops.size-m)≤fuel→Sim P X (Jp tm i0 q tv iv env0 L) H a w I μ O→wpAnyIn (om C.ro) 0 P .any ops (Post P X Q) fuel L a w:=by
 have hone:∀ i,i<m→∃ o t v p,ops[i]?=some o∧tv[i]?=some (t,v)∧iv[i]?=some p∧Wf P C ops H env0 (tv.take i).reverse tm i0 ty q i o t v p:=fun i hi=>by
  obtain ⟨t,v,p,h1,h2,h3⟩:=htab i _ hi (Array.getElem?_eq_getElem (by omega))
  exact ⟨_,t,v,p,Array.getElem?_eq_getElem (by omega),h1,h2,h3⟩
 -- temporaries of the table: an entry's is a number that none bears
 have htn:∀ {i o t v p},Wf P C ops H env0 (tv.take i).reverse tm i0 ty q i o t v p→(p=none∧t<HN∧get env0 t=.un∧(∀ x∈(tv.take i).reverse,x.1≠t)∧o.dst=some t)∨((∃ zd,p=some zd)∧t=HN+i∧get env0 t=.un∧o.dst=none):=by
  intro i o t v p h
  cases p with
  | none=>exact .inl ⟨rfl,h.2.2.1,h.1.2.2.1,h.1.2.2.2.1,h.1.1⟩
  | some zd=>exact .inr ⟨⟨zd,rfl⟩,h.2.2.2.1,h.2.2.2.2.1,h.1⟩
 have hdist:∀ (i j t:Nat) v u,tv[i]?=some (t,v)→tv[j]?=some (t,u)→i=j:=by
  have lt:∀ (i j t:Nat) v u,tv[i]?=some (t,v)→tv[j]?=some (t,u)→¬i<j:=fun i j t v u hi hj hij=>by
   have hjm:j<m:=by have:=(lS.1 hj).1;omega
   obtain ⟨o,t',v',p,_,k1,_,k2⟩:=hone j hjm
   rw [hj] at k1;cases k1
   obtain ⟨o3,t3,v3,p3,_,k3,_,k4⟩:=hone i (by omega)
   rw [hi] at k3;cases k3
   rcases htn k2 with ⟨_,d1,_,d2,_⟩|⟨_,d1,_,_⟩
   ·refine d2 (t,v) ?_ rfl
    rw [List.mem_reverse]
    exact List.mem_of_getElem? (by rw [List.getElem?_take_of_lt hij];exact hi)
   ·rcases htn k4 with ⟨_,d3,_,_,_⟩|⟨_,d3,_,_⟩<;>omega
  intro i j t v u hi hj
  have h1:=lt i j t v u hi hj
  have h2:=lt j i t u v hj hi
  omega
 have hpre:∀ {e:Env},(∀ x,x∈e↔x∈tv)→∀ t,(∃ i v,tv[i]?=some (t,v)∧get (e++env0) t=v)∨((∀ (i:Nat) v,tv[i]?≠some (t,v))∧get (e++env0) t=get env0 t):=fun {e} he t=>by
  rw [Bf]
  by_cases hc:(e.map (·.1)).contains t=true
  ·obtain ⟨x,hx,rfl⟩:=List.mem_map.1 (List.contains_iff_mem.1 hc)
   obtain ⟨i,hi⟩:=List.getElem?_of_mem ((he x).1 hx)
   refine .inl ⟨i,x.2,hi,?_⟩
   rw [if_pos hc]
   refine Dn hx fun u hu=>?_
   obtain ⟨j,hj⟩:=List.getElem?_of_mem ((he _).1 hu)
   have:=hdist i j x.1 x.2 u hi hj
   subst this
   rw [hi] at hj
   simp only [Option.some.injEq] at hj
   rw [hj]
  ·refine .inr ⟨fun i v hi=>hc (List.contains_iff_mem.2 (List.mem_map.2 ⟨(t,v),(he _).2 (List.mem_of_getElem? hi),rfl⟩)),by rw [if_neg hc]⟩
 have h0tm:get env0 tm=.un:=by
  obtain ⟨o,t,v,p,_,_,k2,k3⟩:=hone i0 hi0
  rw [hi0n] at k2;cases k2
  have:=k3.2.2.2.2 rfl
  rw [← this.1];exact k3.1.2.2.1
 have fin:∀ (fuel:Nat) (L:Array Bool) (a:Act) (w:World) (I:Nat→Prop) (O:Nat→Option Loc),L.size=ops.size→(∀ j,m≤j→L.getD j false=false)→(∀ j,j<m→L.getD j false=true)→ops.size-m≤fuel →
   Sim P X (Jp tm i0 q tv iv env0 L) H a w I μ O→wpAnyIn (om C.ro) 0 P .any ops (Post P X Q) fuel L a w:=by
  intro fuel L a w I O hL hup hall hf hs
  refine V7 (fun i o ho=>(FB hok ho).1) (fun i o ho hm=>(FB hok ho).2.2.2 (by omega)) (ops.size-m) m fuel L a w (Nat.le_refl _) (by omega) hf hL (fun j hj=>⟨fun h=>?_,hall j⟩) ?_
  ·rcases Nat.lt_or_ge j m with hx|hx
   ·exact hx
   ·rw [hup j hx] at h;cases h
  have hs':=hs.same (env':=(tm,omP q (iv.filterMap id))::(tv.reverse++env0)) fun t=>by
   by_cases htt:t=tm
   ·subst htt
    rw [Kc (hall i0 hi0),Xz fun j hj=>hall j (by omega)];simp [get]
   ·rw [FT htt]
    simp only [get,if_neg (Ne.symm htt)]
    rcases hpre (e:=tv.reverse) (fun x=>List.mem_reverse) t with ⟨i,v,h1,h2⟩|⟨h1,h2⟩
    ·rw [h2,Bu hdist (hall i (by have:=(lS.1 h1).1;omega)) h1]
    ·rw [h2,Bj fun i v _=>h1 i v]
  have:=hsuf rfl X a w I μ O n1 n2 n3 hs'
  rw [List.length_drop,Array.length_toList] at this
  exact this
 intro fuel
 induction fuel with
 | zero =>
  intro L a w I O hL hD hup hf hs
  refine fin 0 L a w I O hL hup (fun j hj=>?_) (by omega) hs
  cases hv:L.getD j false with
  | true=>rfl
  | false =>
   have:0<(List.range m).countP (fun i=>!L.getD i false):=List.countP_pos_iff.2 ⟨j,List.mem_range.2 hj,by rw [hv];rfl⟩
   omega
 | succ fuel ih =>
  intro L a w I O hL hD hup hf hs
  by_cases hall:∀ j,j<m→L.getD j false=true
  ·exact fin _ L a w I O hL hup hall (by omega) hs
  have hex:∃ j,j<m∧L.getD j false=false:=by
   apply Classical.byContradiction
   intro hno
   refine hall fun j hj=>?_
   cases hv:L.getD j false with
   | true=>rfl
   | false=>exact absurd ⟨j,hj,hv⟩ hno
  obtain ⟨j0,⟨hj0,hj1⟩,hmin⟩:∃ j,(j<m∧L.getD j false=false)∧∀ k,k<j→L.getD k false=true:=by
   obtain ⟨j,hj⟩:=hex
   induction j using Nat.strongRecOn with
   | ind j ihj =>
    by_cases hk:∃ k,k<j∧L.getD k false=false
    ·obtain ⟨k,hk1,hk2⟩:=hk
     exact ihj k hk1 ⟨by omega,hk2⟩
    ·refine ⟨j,hj,fun k hk1=>?_⟩
     cases hv:L.getD k false with
     | true=>rfl
     | false=>exact absurd ⟨k,hk1,hv⟩ hk
  have hr0:j0∈Region.ready .any ops L:=mem_ready.2 ⟨by rw [Cl (by omega)];exact hj1,_,Array.getElem?_eq_getElem (by omega),fun e he hb=>hmin _ ((FB hok (Array.getElem?_eq_getElem (by omega))).1 e he hb)⟩
  refine ⟨fun h0=>(by rw [h0] at hr0;cases hr0),fun i hi=>?_⟩
  obtain ⟨h1,o,ho,h2⟩:=mem_ready.1 hi
  have hlt:=(Array.getElem?_eq_some_iff.1 ho).1
  rw [Cl (by omega)] at h1
  have him:i<m:=by
   rcases Nat.lt_or_ge i m with hx|hx
   ·exact hx
   ·have:=FA hD _ _ _ ((FB hok ho).2.2.2 (by omega) j0 (by omega)) fun o' ho' e he hb=>by rw [ho] at ho';cases ho';exact h2 e he hb
    rw [hj1] at this;cases this
  obtain ⟨o',t,v,p,ho',htv,hpv,hmo⟩:=hone i him
  rw [ho] at ho';cases ho'
  -- the operations behind: what is counted
  have hnext:(∀ s,s≠t→get (Dd tv env0 (L.setIfInBounds i true)) s=get (Dd tv env0 L) s)∧get (Dd tv env0 (L.setIfInBounds i true)) t=v ∧
    ∀ a' w' I' O',Sim P X (Jp tm i0 q tv iv env0 (L.setIfInBounds i true)) H a' w' I' μ O'→wpAnyIn (om C.ro) 0 P .any ops (Post P X Q) fuel (L.setIfInBounds i true) a' w':=by
   refine ⟨fun s hts=>?_,Bu hdist (by rw [Aq (by omega),if_pos rfl]) htv,fun a' w' I' O' hs'=>?_⟩
   ·by_cases hex:∃ (j:Nat) (u:AV),L.getD j false=true∧tv[j]?=some (s,u)
    ·obtain ⟨j,u,hj1,hj2⟩:=hex
     rw [Bu hdist hj1 hj2]
     exact Bu hdist (by rw [Aq (by omega)];split<;>first|rfl|exact hj1) hj2
    ·rw [Bj fun j u hl hj=>hex ⟨j,u,hl,hj⟩]
     refine Bj fun j u hl hj=>?_
     rw [Aq (by omega)] at hl
     split at hl
     ·rename_i hij;subst hij
      rw [htv] at hj;cases hj;exact hts rfl
     ·exact hex ⟨j,u,hl,hj⟩
   ·refine ih _ a' w' I' O' (by simpa using hL) (fun k ok hk hok' e he hb=>?_) (fun j hj=>?_) ?_ hs'
    ·rw [Aq (by omega)] at hk ⊢
     split at hk
     ·rename_i hik;subst hik
      rw [ho] at hok';cases hok'
      split
      ·rfl
      ·exact h2 e he hb
     ·split
      ·rfl
      ·exact hD k ok hk hok' e he hb
    ·rw [Aq (by omega),if_neg (by omega)];exact hup j hj
    ·have:=IV (fun i=>!L.getD i false) (fun k=>!(L.setIfInBounds i true).getD k false) i (by simp only [h1];rfl) (by simp only [Aq (by omega:i<L.size),if_true];rfl)
      (fun j hj=>by simp only [Aq (by omega:i<L.size)];rw [if_neg (Ne.symm hj)]) (List.range m) (List.mem_range.2 him) List.nodup_range
     omega
  obtain ⟨hsame,hat,hgo⟩:=hnext
  -- what it looks at is known
  have hdir:∀ (j s:Nat) u,tv[j]?=some (s,u)→s∈o.looksAt ops→L.getD j false=true:=fun j s u hj hm=>by
   have hjm:j<m:=by have:=(lS.1 hj).1;omega
   obtain ⟨oj',tj',vj',pj',r1,r2,_,r3⟩:=hone j hjm
   rw [hj] at r2;cases r2
   have hsd:=(FB hok ho).2.1 s hm
   rcases htn r3 with ⟨_,_,_,_,hdst⟩|⟨_,hd2,_,_⟩
   ·obtain ⟨o2,ho2,e,he,hb,rfl⟩:=D6 ((FB hok ho).2.2.1 him j hjm oj' s r1 hdst hm).2
    rw [ho] at ho2;cases ho2
    exact h2 e he hb
   ·have hlt2:s<HN:=hsd
    exact absurd hlt2 (by omega)
  have hleL:∀ s,get (A9 (o.looksAt ops) (tv.take i).reverse++env0) s=.un∨get (A9 (o.looksAt ops) (tv.take i).reverse++env0) s=get (Dd tv env0 L) s:=fun s=>by
   rw [Bf]
   split
   ·rename_i hc
    obtain ⟨x,hx,rfl⟩:=List.mem_map.1 (List.contains_iff_mem.1 hc)
    have hx':=List.mem_filter.1 hx
    have hin:=List.mem_reverse.1 hx'.1
    obtain ⟨j,hj⟩:=List.getElem?_of_mem (List.mem_of_mem_take hin)
    have hlk:x.1∈o.looksAt ops:=List.contains_iff_mem.1 hx'.2
    refine .inr ?_
    rw [Bu hdist (hdir j x.1 x.2 hj hlk) hj]
    refine Dn hx fun u hu=>?_
    have hu':=List.mem_reverse.1 (List.mem_filter.1 hu).1
    obtain ⟨j',hj'⟩:=List.getElem?_of_mem (List.mem_of_mem_take hu')
    have:=hdist j j' x.1 x.2 u hj hj'
    subst this
    rw [hj] at hj'
    simp only [Option.some.injEq] at hj'
    rw [hj']
   ·by_cases hex:∃ (j:Nat) (u:AV),tv[j]?=some (s,u)
    ·obtain ⟨j,u,hj⟩:=hex
     have hjm:j<m:=by have:=(lS.1 hj).1;omega
     obtain ⟨oj,tj,vj,pj,_,r2,_,r3⟩:=hone j hjm
     rw [hj] at r2;cases r2
     rcases htn r3 with ⟨_,_,hz,_⟩|⟨_,_,hz,_⟩<;>exact .inl hz
    ·exact .inr (Bj fun j u _ hj=>hex ⟨j,u,hj⟩).symm
  have htL:get (Dd tv env0 L) t=.un:=by
   rw [Bj fun j u hl hj=>by
    have:=hdist i j t v u htv hj
    subst this;rw [h1] at hl;cases hl]
   rcases htn hmo with ⟨_,_,hz,_⟩|⟨_,_,hz,_⟩<;>exact hz
  unfold wpOpIn
  simp only [ho]
  cases p with
  | none =>
   obtain ⟨⟨hd,htok,h0t,hnt,hself,hrk,hrun⟩,hntm,htd,hne0,heq0⟩:=hmo
   have hle1:∀ s,get (A9 (o.looksAt ops) (tv.take i).reverse++env0) s=.un∨get (A9 (o.looksAt ops) (tv.take i).reverse++env0) s=get (Jp tm i0 q tv iv env0 L) s:=fun s=>by
    by_cases hst:s=tm
    ·subst hst
     left
     rw [Bf,if_neg]
     ·exact h0tm
     ·intro hc
      obtain ⟨x,hx,hx2⟩:=List.mem_map.1 (List.contains_iff_mem.1 hc)
      have:=(List.mem_filter.1 hx).2
      rw [hx2] at this
      exact hntm (List.contains_iff_mem.1 this)
    ·rw [FT hst];exact hleL s
   have hkn:∀ s,Ao (get (A9 (o.looksAt ops) (tv.take i).reverse++env0) s)=true→get (A9 (o.looksAt ops) (tv.take i).reverse++env0) s=get (Jp tm i0 q tv iv env0 L) s:=fun s hs=>by
    rcases hle1 s with h|h
    ·rw [h] at hs;cases hs
    ·exact h
   have hle2:∀ s r off len,get (A9 (o.looksAt ops) (tv.take i).reverse++env0) s=.ref (.t r) off len→get (A9 (o.looksAt ops) (tv.take i).reverse++env0) r=get (Jp tm i0 q tv iv env0 L) r:=fun s r off len h=>by
    have:=List.all_eq_true.1 hrk _ (ES h (by simp))
    exact hkn r (by simpa using this)
   have hle3:∀ s r x y,get (A9 (o.looksAt ops) (tv.take i).reverse++env0) s=.ep (.t r) x y→get (A9 (o.looksAt ops) (tv.take i).reverse++env0) r=get (Jp tm i0 q tv iv env0 L) r:=fun s r x y h=>by
    have:=List.all_eq_true.1 hrk _ (ES h (by simp))
    exact hkn r (by simpa using this)
   have htM:get (Jp tm i0 q tv iv env0 L) t=.un:=by
    by_cases hi:i=i0
    ·subst hi;rw [JN h1];exact htL
    ·rw [FT (hne0 hi)];exact htL
   have hsi:=hs.less hle1 hle2 hle3
   have hstep:∀ a' w' I' O',Sim P X ((t,v)::Jp tm i0 q tv iv env0 L) H a' w' I' μ O'→wpAnyIn (om C.ro) 0 P .any ops (Post P X Q) fuel (L.setIfInBounds i true) a' w':=fun a' w' I' O' hs'=>by
    refine hgo a' w' I' O' (hs'.same fun s=>?_)
    by_cases hi:i=i0
    ·subst hi
     obtain ⟨rfl,rfl⟩:=heq0 rfl
     have hnil:prs iv (L.setIfInBounds i true)=[]:=by
      rw [RY (by omega) hpv]
      apply List.eq_nil_iff_forall_not_mem.2
      intro x hx
      obtain ⟨j,hj1,hj2⟩:=TI hx
      have hjm:j<m:=by have:=(lS.1 hj2).1;omega
      obtain ⟨oj,tj,vj,pj,r1,_,r2,r3⟩:=hone j hjm
      rw [hj2] at r2;cases r2
      obtain ⟨o2,ho2,e,he,hb,hee⟩:=D6 r3.2.2.2.2.2.1
      rw [r1] at ho2;cases ho2
      have:=hD j _ hj1 r1 e he hb
      rw [hee] at this
      rw [h1] at this;cases this
     by_cases hst:s=t
     ·subst hst
      rw [Kc (by rw [Aq (by omega),if_pos rfl]),hnil]
      simp [get,omP]
     ·rw [FT hst,JN h1]
      simp only [get,if_neg (Ne.symm hst)]
      exact hsame s hst
    ·have hl0:(L.setIfInBounds i true).getD i0 false=L.getD i0 false:=by rw [Aq (by omega),if_neg hi]
     by_cases hst:s=t
     ·subst hst
      rw [FT (hne0 hi),hat];simp [get]
     ·simp only [get,if_neg (Ne.symm hst)]
      by_cases hsm:s=tm
      ·subst hsm
       cases hx:L.getD i0 false with
       | true=>rw [Kc (by rw [hl0,hx]),Kc hx,RY (by omega) hpv]
       | false=>rw [JN (by rw [hl0,hx]),JN hx];exact hsame s hst
      ·rw [FT hsm,FT hsm];exact hsame s hst
   rcases hrun with ⟨hg,hv⟩|⟨hg,hv⟩
   ·rw [if_pos (FI hsi hg)]
    refine hv.step hd htok hle1 hle2 hle3 (by rw [htM];rfl) (fun p hp e=>?_) n1 n2 n3 hs hstep
    subst e
    rcases hp with ⟨off,len,rfl⟩|⟨x,y,rfl⟩<;>simp [GE] at hself
   ·have:=FI hsi hg
    rw [if_neg (by rw [this];simp)]
    refine ⟨fun _ _=>trivial,?_⟩
    rw [hd]
    rcases hv with rfl|rfl
    ·have hp:=hs.put_un t (by rw [n1];exact htok) undef
     rw [Am (by rw [htM];rfl)] at hp
     exact hstep _ _ _ _ hp
    ·have hp:=hs.put_hand (t:=t) (by rw [n1];exact htok) (av:=.tup []) (v:=undef) ⟨[],.tup .nil,nN,by simp⟩
     rw [Am (by rw [htM];rfl)] at hp
     exact hstep _ _ _ _ hp
  | some zd =>
   obtain ⟨z,d⟩:=zd
   obtain ⟨hd,hgn,rfl,htd,h0t,hdi,x,y,hop,hx,hy⟩:=hmo
   have hi0L:L.getD i0 false=true:=by
    obtain ⟨o2,ho2,e,he,hb,rfl⟩:=D6 hdi
    rw [ho] at ho2;cases ho2
    exact h2 e he hb
   have hne:i≠i0:=fun h=>by subst h;rw [h1] at hi0L;cases hi0L
   have htt:t≠tm:=by omega
   have hy':lk (Jp tm i0 q tv iv env0 L) y=.d d:=by
    rcases hy with hy|⟨s,rfl,hs1,_,hs2⟩
    ·exact hy _
    ·show get _ s=_
     rw [FT hs1]
     rcases hleL s with h|h
     ·rw [h] at hs2;cases hs2
     ·rw [← h];exact hs2
   have hfr:freshK q z ((prs iv L).map fun p=>DV.i q p.1):=fun k hk=>by
    obtain ⟨p,hp,rfl⟩:=List.mem_map.1 hk
    obtain ⟨j,hj1,hj2⟩:=TI hp
    exact ⟨p.1,rfl,hkeys j i p (z,d) hj2 hpv fun e=>by subst e;rw [h1] at hj1;cases hj1⟩
   have r1:=hs.deep (x:=x) (v:=.i q z) (by rw [hx];rfl)
   have r2:=hs.deep (x:=y) (v:=d) (by rw [hy'];rfl)
   generalize hev:a.eval x=u at r1
   cases r1
   obtain ⟨w',k1,k2⟩:=hs.ins (Kc hi0L) hu hkt hfr r2
   have hw:Region.wanted o (yielded ops a.tmps)=true:=by unfold Region.wanted;rw [hgn]
   rw [if_pos hw]
   refine ⟨fun _ _=>trivial,?_⟩
   have he:a.eval (.tmp tm)=a.tmps.getD tm undef:=rfl
   have hrun:(execOp a.eval o).run P w=.ok .skip w':=by simp only [execOp,hop,hev,he,k1,Sem.run_bind,Result.andThen_ok,Sem.run_pure]
   rw [Oper.semAt_eq _ _ _ (by simp [hop]),hrun,Oper.uponIn_skip,hd]
   have hpp:=Xp (by omega) h1 hpv
   have k3:=k2.om_perm (t:=tm) (ks2:=(prs iv (L.setIfInBounds i true)).map fun p=>DV.i q p.1) (vs2:=(prs iv (L.setIfInBounds i true)).map (·.2)) (by simp [get];exact ⟨rfl,rfl⟩) (by
    rw [Ly,List.zip_append (by simp),Ly]
    have:=(hpp.map fun p=>(DV.i q p.1,p.2)).symm
    rw [List.map_append] at this
    exact this) (by simp)
   refine hgo _ _ _ _ (k3.same fun s=>?_)
   by_cases hsm:s=tm
   ·subst hsm
    rw [Kc (by rw [Aq (by omega),if_neg hne];exact hi0L)]
    simp [get,omP]
   ·rw [FT hsm]
    simp only [get,if_neg (Ne.symm hsm)]
    rw [FT hsm]
    by_cases hst:s=t
    ·subst hst;rw [hat,htL]
    ·exact hsame s hst
end
end Go.FL
namespace Go.FL
open Go Go.RowKit
section
variable {P:Program} {C:Cx} {X:Snap} {o:Oper} {ops:Array Oper} {Q:Exit→Env→Al→Prop} {env env' envi env0 vals:Env} {H H':Al} {a:Act} {w w':World} {I I':Nat→Prop} {μ μ':List Nat} {O O':Nat→Option Loc}
 {k:Nat} {l:List Oper} {av v:AV} {t tm i0 ty n:Nat} {q:IntKind} {ps qs:List (Int×DV)}
inductive DLM (P:Program) (C:Cx) (ops:Array Oper) (H:Al) (env0:Env) (tm i0 ty:Nat) (q:IntKind) : Nat→Env→List (Int×DV)→List Oper→Env→List (Int×DV)→Prop
 | nil (n:Nat) (vals:Env) (ps:List (Int×DV)):DLM P C ops H env0 tm i0 ty q n vals ps [] vals ps
 | run {n:Nat} {vals fin:Env} {ps qs:List (Int×DV)} {o:Oper} {t:Nat} {v:AV} {l:List Oper} (hi:n≠i0) (hd:o.dst=some t) (ht:okT C.nt t) (h0:P5 (get env0 t)=true) (hn:(vals.map (·.1)).contains t=false) (hs:GE t v=true)
   (hg:grd ops (A9 (o.looksAt ops) vals++env0) o true=true) (hv:VOK P C o (A9 (o.looksAt ops) vals++env0) H v) (hr:Cv (A9 (o.looksAt ops) vals++env0)=true) (hl:(o.looksAt ops).contains tm=false) (htd:t<HN) (htm:t≠tm)
   (h:DLM P C ops H env0 tm i0 ty q (n+1) ((t,v)::vals) ps l fin qs):DLM P C ops H env0 tm i0 ty q n vals ps (o::l) fin qs
 | mk {vals fin:Env} {ps qs:List (Int×DV)} {o:Oper} {l:List Oper} (hd:o.dst=some tm) (ht:okT C.nt tm) (h0:P5 (get env0 tm)=true) (hn:(vals.map (·.1)).contains tm=false)
   (hg:grd ops (A9 (o.looksAt ops) vals++env0) o true=true) (hv:VOK P C o (A9 (o.looksAt ops) vals++env0) H (.om [] [])) (hr:Cv (A9 (o.looksAt ops) vals++env0)=true) (hl:(o.looksAt ops).contains tm=false) (htd:tm<HN)
   (h:DLM P C ops H env0 tm i0 ty q (i0+1) ((tm,.om [] [])::vals) ps l fin qs):DLM P C ops H env0 tm i0 ty q i0 vals ps (o::l) fin qs
 | ins {n:Nat} {vals fin:Env} {ps qs:List (Int×DV)} {o:Oper} {l:List Oper} {x y:Operand} {z:Int} {d:DV} (hi:n≠i0) (hd:o.dst=none) (hgn:o.guard=none) (hop:o.op=.insert ty (.tmp tm) x y) (hx:∀ e,lk e x=.d (.i q z))
   (hy:(∀ e,lk e y=.d d)∨∃ s,y=.tmp s∧s≠tm∧s∈o.looksAt ops∧get (A9 (o.looksAt ops) vals++env0) s=.d d) (hdi:Fk ops n i0=true) (h0:get env0 (HN+n)=.un)
   (h:DLM P C ops H env0 tm i0 ty q (n+1) ((HN+n,.un)::vals) (ps++[(z,d)]) l fin qs):DLM P C ops H env0 tm i0 ty q n vals ps (o::l) fin qs
theorem DLM.table {n:Nat} {vals fin:Env} {ps qs:List (Int×DV)} {l:List Oper} (h:DLM P C ops H env0 tm i0 ty q n vals ps l fin qs) : ∃ (tv:List (Nat×AV)) (iv:List (Option (Int×DV))),tv.length=l.length∧iv.length=l.length∧fin=tv.reverse++vals∧qs=ps++iv.filterMap id ∧
  ∀ (i:Nat) o,l[i]?=some o→∃ t v p,tv[i]?=some (t,v)∧iv[i]?=some p∧(n+i=i0→p=none)∧Wf P C ops H env0 ((tv.take i).reverse++vals) tm i0 ty q (n+i) o t v p:=by
 induction h with
 | nil n vals ps=>exact ⟨[],[],rfl,rfl,rfl,by simp,fun i o h=>by simp at h⟩
 | @run n vals fin ps qs o t v l hi hd ht h0 hn hs hg hv hr hl htd htm h ih =>
  obtain ⟨tv,iv,k1,k2,k3,k4,k5⟩:=ih
  refine ⟨(t,v)::tv,none::iv,by simp [k1],by simp [k2],by rw [k3];simp,by rw [k4];simp,fun i o' hio=>?_⟩
  cases i with
  | zero =>
   simp at hio;subst hio
   refine ⟨t,v,none,rfl,rfl,fun _=>rfl,⟨hd,ht,Nl h0,fun x hx e=>?_,hs,hr,.inl ⟨hg,hv⟩⟩,fun hm=>?_,htd,fun _=>htm,fun e=>absurd e hi⟩
   ·subst e
    have:(vals.map (·.1)).contains x.1=true:=List.contains_iff_mem.2 (List.mem_map_of_mem hx)
    rw [hn] at this;cases this
   ·have:=List.contains_iff_mem.2 hm
    rw [hl] at this;cases this
  | succ i =>
   obtain ⟨t',v',p',m1,m2,m3,m4⟩:=k5 i o' (by simpa using hio)
   have e:n+(i+1)=n+1+i:=by omega
   refine ⟨t',v',p',by simpa using m1,by simpa using m2,by rw [e];exact m3,?_⟩
   rw [e];simpa using m4
 | @mk vals fin ps qs o l hd ht h0 hn hg hv hr hl htd h ih =>
  obtain ⟨tv,iv,k1,k2,k3,k4,k5⟩:=ih
  refine ⟨(tm,.om [] [])::tv,none::iv,by simp [k1],by simp [k2],by rw [k3];simp,by rw [k4];simp,fun i o' hio=>?_⟩
  cases i with
  | zero =>
   simp at hio;subst hio
   refine ⟨tm,.om [] [],none,rfl,rfl,fun _=>rfl,⟨hd,ht,Nl h0,fun x hx e=>?_,rfl,hr,.inl ⟨hg,hv⟩⟩,fun hm=>?_,htd,fun e=>absurd rfl e,fun _=>⟨rfl,rfl⟩⟩
   ·subst e
    have:(vals.map (·.1)).contains x.1=true:=List.contains_iff_mem.2 (List.mem_map_of_mem hx)
    rw [hn] at this;cases this
   ·have:=List.contains_iff_mem.2 hm
    rw [hl] at this;cases this
  | succ i =>
   obtain ⟨t',v',p',m1,m2,m3,m4⟩:=k5 i o' (by simpa using hio)
   have e:i0+(i+1)=i0+1+i:=by omega
   refine ⟨t',v',p',by simpa using m1,by simpa using m2,by rw [e];exact m3,?_⟩
   rw [e];simpa using m4
 | @ins n vals fin ps qs o l x y z d hi hd hgn hop hx hy hdi h0 h ih =>
  obtain ⟨tv,iv,k1,k2,k3,k4,k5⟩:=ih
  refine ⟨(HN+n,.un)::tv,some (z,d)::iv,by simp [k1],by simp [k2],by rw [k3];simp,by rw [k4];simp,fun i o' hio=>?_⟩
  cases i with
  | zero =>
   simp at hio;subst hio
   exact ⟨HN+n,.un,some (z,d),rfl,rfl,fun e=>absurd e hi,hd,hgn,rfl,rfl,h0,hdi,x,y,hop,hx,hy⟩
  | succ i =>
   obtain ⟨t',v',p',m1,m2,m3,m4⟩:=k5 i o' (by simpa using hio)
   have e:n+(i+1)=n+1+i:=by omega
   refine ⟨t',v',p',by simpa using m1,by simpa using m2,by rw [e];exact m3,?_⟩
   rw [e];simpa using m4
theorem Qw : ∀ {iv:List (Option (Int×DV))},((iv.filterMap id).map (·.1)).Nodup→∀ (i j:Nat) p p',iv[i]?=some (some p)→iv[j]?=some (some p')→i<j→p.1≠p'.1
 | [],_,i,j,p,p',h1,_,_=>by simp at h1
 | x::iv,hn,i,j,p,p',h1,h2,hij=>by
  cases j with
  | zero=>omega
  | succ j =>
   have h2':iv[j]?=some (some p'):=by simpa using h2
   cases i with
   | zero =>
    simp at h1;subst h1
    simp only [List.filterMap_cons,id_eq,List.map_cons,List.nodup_cons] at hn
    intro e
    refine hn.1 (List.mem_map.2 ⟨p',List.mem_filterMap.2 ⟨some p',List.mem_of_getElem? h2',rfl⟩,e.symm⟩)
   | succ i =>
    refine Qw (iv:=iv) ?_ i j p p' (by simpa using h1) h2' (by omega)
    cases x with
    | none=>simpa using hn
    | some y =>
     simp only [List.filterMap_cons,id_eq,List.map_cons,List.nodup_cons] at hn
     exact hn.2
def DKM (P:Program) (C:Cx) (ops:Array Oper) (H:Al) (env0:Env) (tm i0 ty:Nat) (q:IntKind) (n:Nat) (vals:Env) (ps:List (Int×DV)) (l:List Oper) (K:Env→List (Int×DV)→Prop) : Prop :=
 ∃ fin qs,DLM P C ops H env0 tm i0 ty q n vals ps l fin qs∧(qs.map (·.1)).Nodup∧K fin qs
theorem AW.drawnM {id:Nat} (m tm i0:Nat) {ty kt et:Nat} {q:IntKind} (hu:P.underlying ty=some (.map kt et)) (hkt:P.underlying kt=some (.int q)) (hm:P.follows .mixedOrders=true) (hok:Lg ops m=true)
  (h:DKM P C ops H env0 tm i0 ty q 0 [] [] (ops.toList.take m) fun fin ps=>RL P C ops Q m (ops.toList.drop m) ((tm,omP q ps)::(fin++env0)) H) (hi0:i0<m:=by decide) (htm:Nat.blt tm HN=true:=by rfl):AW P C (.region id ops true) Q env0 H:=fun X a w I μ O n1 n2 n3 hs=>by
 obtain ⟨fin,qs,hD,hnd,hsuf⟩:=h
 obtain ⟨tv,iv,k1,k2,k3,k4,k5⟩:=hD.table
 have hle:m≤ops.size:=by unfold Lg at hok;rw [Bool.and_eq_true] at hok;simpa using hok.2
 have hlen:tv.length=m:=by rw [k1];simp;omega
 have hlen2:iv.length=m:=by rw [k2];simp;omega
 refine wpIn_region_any hm ?_
 have hz:∀ j,(Array.replicate ops.size false).getD j false=false:=fun j=>by
  simp only [Array.getD_eq_getD_getElem?,Array.getElem?_replicate]
  split<;>rfl
 have hs':Sim P X (Jp tm i0 q tv iv env0 (Array.replicate ops.size false)) H a {w with drawn:=w.drawn+1} I μ O:=by
  rw [JN (hz i0)]
  exact (hs.grow (w':={w with drawn:=w.drawn+1}) ⟨rfl,rfl,rfl,Nat.le_refl _,fun _ _=>rfl⟩).same fun t=>Bj fun i v h=>by
   rw [hz] at h;cases h
 rw [List.nil_append] at k4
 rw [List.append_nil] at k3
 subst k3 k4
 have htab:∀ (i:Nat) o,i<m→ops[i]?=some o→∃ t v p,tv[i]?=some (t,v)∧iv[i]?=some p∧(i=i0→p=none)∧Wf P C ops H env0 (tv.take i).reverse tm i0 ty q i o t v p:=fun i o hi ho=>by
  obtain ⟨t,v,p,m1,m2,m3,m4⟩:=k5 i o (by rw [List.getElem?_take_of_lt hi];simpa using ho)
  rw [Nat.zero_add,List.append_nil] at m4
  rw [Nat.zero_add] at m3
  exact ⟨t,v,p,m1,m2,m3,m4⟩
 refine Aao hu hkt hok hlen hlen2 hi0 (Nat.blt_eq▸htm) (fun i o hi ho=>?_) ?_ (fun i j p p' h1 h2 hij=>?_) hsuf n1 n2 n3 hle ops.size _ a _ I O (by simp) (fun i o h=>by rw [hz] at h;cases h) (fun j _=>hz j) ?_ hs'
 ·obtain ⟨t,v,p,m1,m2,_,m4⟩:=htab i o hi ho
  exact ⟨t,v,p,m1,m2,m4⟩
 ·obtain ⟨t,v,p,m1,m2,m3,m4⟩:=htab i0 _ hi0 (Array.getElem?_eq_getElem (by omega))
  rw [m2,m3 rfl]
 ·rcases Nat.lt_or_gt_of_ne hij with h|h
  ·exact Qw hnd i j p p' h1 h2 h
  ·exact fun e=>Qw hnd j i p' p h2 h1 h e.symm
 ·have:(List.range m).countP (fun i=>!(Array.replicate ops.size false).getD i false)≤m:=by
   have:=List.countP_le_length (p:=fun i=>!(Array.replicate ops.size false).getD i false) (l:=List.range m)
   simpa using this
  omega
theorem dvM {K:Env→List (Int×DV)→Prop} (hv:VOK P C o (A9 (o.looksAt ops) vals++env0) H v) (h:DKM P C ops H env0 tm i0 ty q (n+1) ((t,v)::vals) ps l K) (hd:o.dst=some t:=by rfl) (hg:grd ops (A9 (o.looksAt ops) vals++env0) o true=true:=by rfl) (h0:P5 (get env0 t)=true:=by rfl)
  (hn:(vals.map (·.1)).contains t=false:=by rfl) (hs:GE t v=true:=by rfl) (hr:Cv (A9 (o.looksAt ops) vals++env0)=true:=by rfl) (hl:(o.looksAt ops).contains tm=false:=by rfl) (htd:Nat.blt t HN=true:=by rfl) (htm:t≠tm:=by decide) (hi:n≠i0:=by decide) (ht:okT C.nt t:=by rfl) :
  DKM P C ops H env0 tm i0 ty q n vals ps (o::l) K:=by
 obtain ⟨fin,qs,h1,h2,h3⟩:=h
 exact ⟨fin,qs,.run hi hd ht h0 hn hs hg hv hr hl (Nat.blt_eq▸htd) htm h1,h2,h3⟩
theorem Aa3 {K:Env→List (Int×DV)→Prop} (h:DKM P C ops H env0 tm i0 ty q (i0+1) ((tm,.om [] [])::vals) ps l K) {ty':Nat} (ho:o.op=.makeMap ty' none:=by rfl) (hd:o.dst=some tm:=by rfl) (hg:grd ops (A9 (o.looksAt ops) vals++env0) o true=true:=by rfl) (h0:P5 (get env0 tm)=true:=by rfl)
  (hn:(vals.map (·.1)).contains tm=false:=by rfl) (hr:Cv (A9 (o.looksAt ops) vals++env0)=true:=by rfl) (hl:(o.looksAt ops).contains tm=false:=by rfl) (htd:Nat.blt tm HN=true:=by rfl) (ht:okT C.nt tm:=by rfl) :
  DKM P C ops H env0 tm i0 ty q i0 vals ps (o::l) K:=by
 obtain ⟨fin,qs,h1,h2,h3⟩:=h
 exact ⟨fin,qs,.mk hd ht h0 hn hg (Aah ho) hr hl (Nat.blt_eq▸htd) h1,h2,h3⟩
theorem Ti {K:Env→List (Int×DV)→Prop} {x y:Operand} {z:Int} {d:DV} (h:DKM P C ops H env0 tm i0 ty q (n+1) ((HN+n,.un)::vals) (ps++[(z,d)]) l K) (hop:o.op=.insert ty (.tmp tm) x y:=by rfl) (hx:∀ e,lk e x=.d (.i q z):=by intro e;rfl) (hy:∀ e,lk e y=.d d:=by intro e;rfl) (hd:o.dst=none:=by rfl)
  (hgn:o.guard=none:=by rfl) (hdi:Fk ops n i0=true:=by kernel_rfl) (h0:get env0 (HN+n)=.un:=by rfl) (hi:n≠i0:=by decide):DKM P C ops H env0 tm i0 ty q n vals ps (o::l) K:=by
 obtain ⟨fin,qs,h1,h2,h3⟩:=h
 exact ⟨fin,qs,.ins hi hd hgn hop hx (.inl hy) hdi h0 h1,h2,h3⟩
theorem MV {K:Env→List (Int×DV)→Prop} {x:Operand} {s:Nat} {z:Int} {d:DV} (h:DKM P C ops H env0 tm i0 ty q (n+1) ((HN+n,.un)::vals) (ps++[(z,d)]) l K) (hop:o.op=.insert ty (.tmp tm) x (.tmp s):=by rfl) (hy:get (A9 (o.looksAt ops) vals++env0) s=.d d:=by rfl) (hs:(o.looksAt ops).contains s=true:=by rfl) (hst:s≠tm:=by decide)
  (hx:∀ e,lk e x=.d (.i q z):=by intro e;rfl) (hd:o.dst=none:=by rfl) (hgn:o.guard=none:=by rfl) (hdi:Fk ops n i0=true:=by kernel_rfl) (h0:get env0 (HN+n)=.un:=by rfl) (hi:n≠i0:=by decide):DKM P C ops H env0 tm i0 ty q n vals ps (o::l) K:=by
 obtain ⟨fin,qs,h1,h2,h3⟩:=h
 exact ⟨fin,qs,.ins hi hd hgn hop hx (.inr ⟨s,rfl,hst,List.contains_iff_mem.1 hs,hy⟩) hdi h0 h1,h2,h3⟩
theorem dzM {K:Env→List (Int×DV)→Prop} (hnd:(ps.map (·.1)).Nodup) (h:K vals ps) : DKM P C ops H env0 tm i0 ty q n vals ps [] K:=⟨vals,ps,.nil n vals ps,hnd,h⟩
end
end Go.FL
namespace Go.FL
open Go Go.RowKit
def VM {α β:Type} (T:List (Int×FW α β)) : List (Int×DV):=T.map fun p=>(p.1,p.2.dv)
def Yd {α β:Type} (q:IntKind) (T:List (Int×FW α β)) : DV:=.mp ((VM T).map fun p=>.i q p.1) ((VM T).map (·.2))
def Ew {α β:Type} (T:List (Int×FW α β)) (z:Int) : Option (FW α β):=(T.find? fun p=>decide (p.1=z)).map (·.2)
def SR {α β:Type} (x:Option α) (a:β) (f:α→β) : β:=match x with
 | none=>a
 | some y=>f y
theorem QF {α β:Type} {x:Option α} {a r:β} {f:α→β} (e:x=none) (h:SR x a f=r) : a=r:=by subst e;exact h
theorem Qu {α β:Type} {x:Option α} {y:α} {a r:β} {f:α→β} (e:x=some y) (h:SR x a f=r) : f y=r:=by subst e;exact h
theorem Nj {α β:Type} {T:List (Int×FW α β)} {z:Int} {f:FW α β} (h:Ew T z=some f) : (z,f)∈T:=by
 unfold Ew at h
 simp only [Option.map_eq_some_iff] at h
 obtain ⟨p,hp,rfl⟩:=h
 have h1:=List.find?_some hp
 have h2:=List.mem_of_find?_eq_some hp
 have:p.1=z:=by simpa using h1
 rw [← this];exact h2
theorem QS {α β:Type} {T:List (Int×FW α β)} {z:Int} (h:Ew T z=none) : ∀ p∈T,p.1≠z:=fun p hp=>by
 unfold Ew at h
 rw [Option.map_eq_none_iff,List.find?_eq_none] at h
 simpa using h p hp
theorem TQ {α β:Type} (q:IntKind) (T:List (Int×FW α β)) : ((VM T).map fun p=>DV.i q p.1).zip ((VM T).map (·.2))=T.map fun p=>(DV.i q p.1,p.2.dv):=by
 rw [Ly];unfold VM;rw [List.map_map];rfl
theorem Pw {α β:Type} : ∀ {T:List (Int×FW α β)},(T.map (·.1)).Nodup→∀ {z f g},(z,f)∈T→(z,g)∈T→f=g
 | p::T,hn,z,f,g,h1,h2=>by
  rw [List.map_cons,List.nodup_cons] at hn
  rcases List.mem_cons.1 h1 with e1|h1<;>rcases List.mem_cons.1 h2 with e2|h2
  ·rw [← e1] at e2;cases e2;rfl
  ·exact absurd (List.mem_map.2 ⟨_,h2,by rw [← e1]⟩) hn.1
  ·exact absurd (List.mem_map.2 ⟨_,h1,by rw [← e2]⟩) hn.1
  ·exact Pw hn.2 h1 h2
section
variable {P:Program} {C:Cx} {o:Oper} {ops:Array Oper} {Q:Exit→Env→Al→Prop} {env:Env} {H:Al} {k:Nat} {l:List Oper}
theorem Ww {α β:Type} {T:List (Int×FW α β)} {z:Int} {f:FW α β} {x y:Operand} {ty kt et:TypeId} {q:IntKind} (hnd:(T.map (·.1)).Nodup) (hu:P.underlying ty=some (.map kt et)) (hk:P.underlying kt=some (.int q)) (h:Ew T z=some f)
  (ho:o.op=.lookup ty x y false:=by rfl) (hx:Bp (lk env x)=some (Yd q T):=by rfl) (hy:Bp (lk env y)=some (.i q z):=by rfl):VOK P C o env H (.d f.dv):=by
 refine Aax (q:=q) (z:=z) hu hk (fun k hk=>?_) ?_ (fun d' hd=>?_) ho hx hy
 ·obtain ⟨p,_,rfl⟩:=List.mem_map.1 hk;exact ⟨_,rfl⟩
 ·rw [TQ];exact List.mem_map.2 ⟨_,Nj h,rfl⟩
 ·rw [TQ] at hd
  obtain ⟨p,hp,e⟩:=List.mem_map.1 hd
  simp only [Prod.mk.injEq,DV.i.injEq,true_and] at e
  obtain ⟨e1,rfl⟩:=e
  have:(z,p.2)∈T:=by rw [← e1];exact hp
  rw [Pw hnd this (Nj h)]
theorem V1 {α β:Type} {T:List (Int×FW α β)} {z:Int} {x y:Operand} {ty kt et:TypeId} {q:IntKind} (hu:P.underlying ty=some (.map kt et)) (hk:P.underlying kt=some (.int q)) (hz:∀ w,(zeroValue et).run P w=.ok .nilFunc w) (h:Ew T z=none)
  (ho:o.op=.lookup ty x y false:=by rfl) (hx:Bp (lk env x)=some (Yd q T):=by rfl) (hy:Bp (lk env y)=some (.i q z):=by rfl):VOK P C o env H (.d .nf):=by
 refine Aa0 (q:=q) (z:=z) hu hk hz (fun _ _=>.nf) (fun k hk=>?_) ho hx hy
 obtain ⟨p,hp,rfl⟩:=List.mem_map.1 hk
 obtain ⟨p',hp',rfl⟩:=List.mem_map.1 hp
 exact ⟨_,rfl,QS h p' hp'⟩
theorem ZS {xt yt:TypeId} {x y:Operand} {d:DV} (hu:GG P xt=true) (hf:∃ f fs cs,d=.fn f fs cs) (ho:o.op=.binOp .eql xt x y yt:=by rfl) (hx:Bp (lk env x)=some d:=by rfl) (hy:Bp (lk env y)=some .nf:=by rfl) : VOK P C o env H (.d (.b false)):=by
 obtain ⟨f,fs,cs,rfl⟩:=hf
 exact Aa8 hu ho hx hy
end
end Go.FL
namespace Go.FL
open Go Go.Proofs
section
variable {P:Program} {C:Cx} {o:Oper} {ops:Array Oper} {Q:Exit→Env→Al→Prop} {env:Env} {H:Al} {k:Nat} {l:List Oper}
theorem asu {x:Operand} {t:Nat} (h:RL P C ops Q (k+1) l ((t,.un)::env) H) (hg:grd ops env o true=true:=by rfl) (ho:o.op=.assign x:=by rfl) (hd:o.dst=some t:=by rfl) (hf:Ao (get env t)=false:=by rfl) (ht:okT C.nt t:=by rfl) : RL P C ops Q k (o::l) env H:=by
 rw [← Am hf] at h
 exact .go hg (.pure (by simp [ho]) hd ht (fun X a w I μ O _ hs=>⟨a.eval x,by simp [execOp,ho],[],.un _,nN,by simp⟩) h)
theorem freshK.nil {q:IntKind} {z:Int} : freshK q z []:=nofun
theorem freshK.snoc {q:IntKind} {z z':Int} {ks:List DV} (h:freshK q z ks) (hz:z'≠z) : freshK q z (ks++[.i q z']):=fun k hk=>by
 rcases List.mem_append.1 hk with h1|h1
 ·exact h k h1
 ·rw [List.mem_singleton] at h1
  exact ⟨z',h1,hz⟩
end
theorem gkR : Tryz.prog.underlying 21=some (.int .i32):=by kernel_rfl
def isF (d:DV) : Prop:=∃ f fs cs,d=.fn f fs cs
theorem I4 : Tryz.prog.underlying 61=some (.map 21 60):=by kernel_rfl
theorem So : Tryz.prog.underlying 95=some (.map 21 73):=by kernel_rfl
def YP : List (Int×DV):=[(43,.fn 78 [] []),(45,.fn 79 [] []),(8968,.fn 80 [] []),(8970,.fn 81 [] []),(124,.fn 82 [] []),(33,.fn 83 [] []),(42,.fn 84 [] []),(215,.fn 85 [] []),(247,.fn 87 [] []),(126,.fn 89 [] [])]
theorem X8 : Fn Tryz.prog 31 [] (.d (.mp (YP.map fun p=>.i .i32 p.1) (YP.map (·.2)))):=by
 refine Fn.o1 0 3 Tryz.func31 ?_;refine .sr ?_;refine asu ?_;refine rn ?_;refine .sr ?_;refine vk (Aah) ?_;refine OF I4 gkR freshK.nil ?_;refine OF I4 gkR (freshK.snoc (z:=45) (z':=43) freshK.nil (by decide)) ?_;refine OF I4 gkR (freshK.snoc (z:=8968) (z':=45) (freshK.snoc (z:=8968) (z':=43) freshK.nil (by decide)) (by decide)) ?_;refine OF I4 gkR (freshK.snoc (z:=8970) (z':=8968) (freshK.snoc (z:=8970) (z':=45) (freshK.snoc (z:=8970) (z':=43) freshK.nil (by decide)) (by decide)) (by decide)) ?_;refine OF I4 gkR (freshK.snoc (z:=124) (z':=8970) (freshK.snoc (z:=124) (z':=8968) (freshK.snoc (z:=124) (z':=45) (freshK.snoc (z:=124) (z':=43) freshK.nil (by decide)) (by decide)) (by decide)) (by decide)) ?_;refine OF I4 gkR (freshK.snoc (z:=33) (z':=124) (freshK.snoc (z:=33) (z':=8970) (freshK.snoc (z:=33) (z':=8968) (freshK.snoc (z:=33) (z':=45) (freshK.snoc (z:=33) (z':=43) freshK.nil (by decide)) (by decide)) (by decide)) (by decide)) (by decide)) ?_;refine OF I4 gkR (freshK.snoc (z:=42) (z':=33) (freshK.snoc (z:=42) (z':=124) (freshK.snoc (z:=42) (z':=8970) (freshK.snoc (z:=42) (z':=8968) (freshK.snoc (z:=42) (z':=45) (freshK.snoc (z:=42) (z':=43) freshK.nil (by decide)) (by decide)) (by decide)) (by decide)) (by decide)) (by decide)) ?_;refine OF I4 gkR (freshK.snoc (z:=215) (z':=42) (freshK.snoc (z:=215) (z':=33) (freshK.snoc (z:=215) (z':=124) (freshK.snoc (z:=215) (z':=8970) (freshK.snoc (z:=215) (z':=8968) (freshK.snoc (z:=215) (z':=45) (freshK.snoc (z:=215) (z':=43) freshK.nil (by decide)) (by decide)) (by decide)) (by decide)) (by decide)) (by decide)) (by decide)) ?_;refine OF I4 gkR (freshK.snoc (z:=247) (z':=215) (freshK.snoc (z:=247) (z':=42) (freshK.snoc (z:=247) (z':=33) (freshK.snoc (z:=247) (z':=124) (freshK.snoc (z:=247) (z':=8970) (freshK.snoc (z:=247) (z':=8968) (freshK.snoc (z:=247) (z':=45) (freshK.snoc (z:=247) (z':=43) freshK.nil (by decide)) (by decide)) (by decide)) (by decide)) (by decide)) (by decide)) (by decide)) (by decide)) ?_;refine OF I4 gkR (freshK.snoc (z:=126) (z':=247) (freshK.snoc (z:=126) (z':=215) (freshK.snoc (z:=126) (z':=42) (freshK.snoc (z:=126) (z':=33) (freshK.snoc (z:=126) (z':=124) (freshK.snoc (z:=126) (z':=8970) (freshK.snoc (z:=126) (z':=8968) (freshK.snoc (z:=126) (z':=45) (freshK.snoc (z:=126) (z':=43) freshK.nil (by decide)) (by decide)) (by decide)) (by decide)) (by decide)) (by decide)) (by decide)) (by decide)) (by decide)) ?_;refine RL.gh (Gh.omf (t:=1) rfl) ?_;refine RL.gh (Gh.keep [1] rfl) ?_;refine vk (Aa) ?_;refine asd ?_;refine rn ?_;refine .ret ?_
 exact ⟨rfl,rfl⟩
theorem Og {z:Int} : Fn Tryz.prog 140 [.i .i64 z] (.d (.fn 210 [] [.ptr [.i .i64 z]])):=by
 refine Fn.o1 2 4 Tryz.func140 ?_;refine .sr ?_;refine vk (XL) ?_;refine asd ?_;refine rn ?_;refine .sr ?_;refine vk (VJ) ?_;refine asd ?_;refine rn ?_;refine .ret ?_
 exact ⟨rfl,rfl⟩
theorem Ed {c:RT} {f:Nat} : Fn Tryz.prog 141 [.ag [.b c.1,.sl (L c.2.1),.sl (L c.2.2)],.fn f [] []] (.d (.fn 212 [] [.ptr [.fn f [] []],.ptr [.b c.1,.sl (L c.2.1),.sl (L c.2.2)]])):=by
 refine Fn.o1 4 6 Tryz.func141 ?_;refine .sr ?_;refine vk (vbx) ?_;refine vk (XL) ?_;refine asd ?_;refine rn ?_;refine .sr ?_;refine vk (VJ) ?_;refine asd ?_;refine rn ?_;refine .ret ?_
 exact ⟨rfl,rfl⟩
theorem IM {f:Nat} : Fn Tryz.prog 148 [.fn f [] []] (.d (.fn 214 [] [.ptr [.fn f [] []]])):=by
 refine Fn.o1 2 4 Tryz.func148 ?_;refine .sr ?_;refine vk (XL) ?_;refine asd ?_;refine rn ?_;refine .sr ?_;refine vk (VJ) ?_;refine asd ?_;refine rn ?_;refine .ret ?_
 exact ⟨rfl,rfl⟩
def YS (c:RT) : List (Int×DV):=[(43,.fn 132 [] []),(215,.fn 134 [] []),(45,.fn 136 [] []),(247,.fn 88 [] []),(124,.fn 137 [] []),(42,.fn 138 [] []),(33,.fn 139 [] []),(8968,.fn 210 [] [.ptr [.i .i64 1]]),(8970,.fn 210 [] [.ptr [.i .i64 (-1)]]),(60,.fn 212 [] [.ptr [.fn 142 [] []],.ptr [.b c.1,.sl (L c.2.1),.sl (L c.2.2)]]),(8804,.fn 212 [] [.ptr [.fn 143 [] []],.ptr [.b c.1,.sl (L c.2.1),.sl (L c.2.2)]]),(61,.fn 212 [] [.ptr [.fn 144 [] []],.ptr [.b c.1,.sl (L c.2.1),.sl (L c.2.2)]]),(8805,.fn 212 [] [.ptr [.fn 145 [] []],.ptr [.b c.1,.sl (L c.2.1),.sl (L c.2.2)]]),(62,.fn 212 [] [.ptr [.fn 146 [] []],.ptr [.b c.1,.sl (L c.2.1),.sl (L c.2.2)]]),(8800,.fn 212 [] [.ptr [.fn 147 [] []],.ptr [.b c.1,.sl (L c.2.1),.sl (L c.2.2)]]),(8743,.fn 214 [] [.ptr [.fn 149 [] []]]),(8744,.fn 214 [] [.ptr [.fn 150 [] []]]),(9074,.fn 214 [] [.ptr [.fn 151 [] []]]),(9073,.fn 214 [] [.ptr [.fn 152 [] []]])]
theorem XM {c:RT} : Fn Tryz.prog 59 [.ag [.b c.1,.sl (L c.2.1),.sl (L c.2.2)]] (.d (.mp ((YS c).map fun p=>.i .i32 p.1) ((YS c).map (·.2)))):=by
 refine Fn.o1 2 23 Tryz.func59 ?_;refine .sr ?_;refine vk (vbx) ?_;refine asu ?_;refine rn ?_;refine .gh (Gh.keep [1] rfl) ?_;refine .seq ?_;refine AW.drawnM 38 3 0 So gkR A4 (by kernel_rfl) ?_;refine Aa3 ?_;refine Ti ?_;refine Ti ?_;refine Ti ?_;refine Ti ?_;refine Ti ?_;refine Ti ?_;refine Ti ?_;refine dvM (Ae Og Tryz.call140) ?_;refine MV ?_;refine dvM (Ae Og Tryz.call140) ?_;refine MV ?_;refine dvM (Aj Af Ad) ?_;refine dvM (Ae Ed Tryz.call141) ?_;refine MV ?_;refine dvM (Aj Af Ad) ?_;refine dvM (Ae Ed Tryz.call141) ?_;refine MV ?_;refine dvM (Aj Af Ad) ?_;refine dvM (Ae Ed Tryz.call141) ?_;refine MV ?_;refine dvM (Aj Af Ad) ?_;refine dvM (Ae Ed Tryz.call141) ?_;refine MV ?_;refine dvM (Aj Af Ad) ?_;refine dvM (Ae Ed Tryz.call141) ?_;refine MV ?_;refine dvM (Aj Af Ad) ?_;refine dvM (Ae Ed Tryz.call141) ?_;refine MV ?_;refine dvM (Ae IM Tryz.call148) ?_;refine MV ?_;refine dvM (Ae IM Tryz.call148) ?_;refine MV ?_;refine dvM (Ae IM Tryz.call148) ?_;refine MV ?_;refine dvM (Ae IM Tryz.call148) ?_;refine MV ?_;refine dzM (by show List.Nodup [(43:Int),(215:Int),(45:Int),(247:Int),(124:Int),(42:Int),(33:Int),(8968:Int),(8970:Int),(60:Int),(8804:Int),(61:Int),(8805:Int),(62:Int),(8800:Int),(8743:Int),(8744:Int),(9074:Int),(9073:Int)];decide) ?_;refine RL.gh (Gh.omf (t:=3) rfl) ?_;refine RL.gh (Gh.keep [3] rfl) ?_;refine vk (Aa) ?_;refine asd ?_;refine rn ?_;refine .ret ?_
 exact ⟨rfl,rfl⟩
abbrev HQ : Type:=FW (RT) (RT×Int)
abbrev Kg (f:HQ) : Prop:=f.OK Tryz.prog (fun x=>[.ag [.b x.1,.sl (L x.2.1),.sl (L x.2.2)]]) (fun r=>.tup [.d (.ag [.b r.1.1,.sl (L r.1.2.1),.sl (L r.1.2.2)]),.d (.i .i64 r.2)])
abbrev Aw : Type:=FW (RT×RT) (RT×Int)
abbrev Bo (f:Aw) : Prop:=f.OK Tryz.prog (fun x=>[.ag [.b x.1.1,.sl (L x.1.2.1),.sl (L x.1.2.2)],.ag [.b x.2.1,.sl (L x.2.2.1),.sl (L x.2.2.2)]]) (fun r=>.tup [.d (.ag [.b r.1.1,.sl (L r.1.2.1),.sl (L r.1.2.2)]),.d (.i .i64 r.2)])
abbrev Dq : Type:=FW (Bool×Bool) (Bool)
abbrev KK (f:Dq) : Prop:=f.OK Tryz.prog (fun x=>[.b x.1,.b x.2]) (fun r=>.d (.b r))
abbrev CQ : Type:=FW (Int) (Itm×Int)
abbrev KX (f:CQ) : Prop:=f.OK Tryz.prog (fun x=>[.i .i64 x]) (fun r=>.tup [.d (.ag [.i .u8 r.1.kind,.b r.1.num.1,.sl (L r.1.num.2.1),.sl (L r.1.num.2.2),.i .i32 r.1.char,.sl (Ars r.1.box)]),.d (.i .i64 r.2)])
theorem TT : B7 Tryz.prog 34=some true:=by kernel_rfl
theorem QW : AK Tryz.prog 34=5:=by kernel_rfl
theorem LJ : Bx Tryz.prog 34 1=some (1,3):=by kernel_rfl
theorem Z7 : CM Tryz.prog 34=some [(0,1),(1,3),(4,1)]:=by kernel_rfl
theorem YL : (Tryz.prog.info? 34).bind (·.zero)=some (.agg #[.int .i64 0,.bool false,.slice none 0 0,.slice none 0 0,.int .i64 0]):=by kernel_rfl
theorem Y0 (w:World) (I:Nat→Prop) : RepAll w I [.i .i64 0,.b false,.sl [],.sl [],.i .i64 0] (Value.agg #[.int .i64 0,.bool false,.slice none 0 0,.slice none 0 0,.int .i64 0]).cells.toList:=.cons (.i _ _) (.cons (.b _) (.cons (.sl0 _ _) (.cons (.sl0 _ _) (.cons (.i _ _) (.nil)))))
theorem Pm : B7 Tryz.prog 75=some true:=by kernel_rfl
theorem Jg : AK Tryz.prog 75=2:=by kernel_rfl
theorem Yk : Bx Tryz.prog 75 0=some (0,1):=by kernel_rfl
theorem P3 : Bx Tryz.prog 75 1=some (1,1):=by kernel_rfl
theorem Vn : CM Tryz.prog 75=some [(0,1),(1,1)]:=by kernel_rfl
theorem O6 : (Tryz.prog.info? 75).bind (·.zero)=some (.agg #[.nilFunc,.int .i32 0]):=by kernel_rfl
theorem PF (w:World) (I:Nat→Prop) : RepAll w I [.nf,.i .i32 0] (Value.agg #[.nilFunc,.int .i32 0]).cells.toList:=.cons .nf (.cons (.i _ _) .nil)
theorem HD : GG Tryz.prog 60=true:=by kernel_rfl
theorem KH : B7 Tryz.prog 73=some false:=by kernel_rfl
theorem CY : GG Tryz.prog 73=true:=by kernel_rfl
theorem M4 : B7 Tryz.prog 141=some false:=by kernel_rfl
theorem Ja : B7 Tryz.prog 143=some false:=by kernel_rfl
theorem QZ {a:List Nat} (h:Ok a) (hl:a.length≤1000) {n most:Nat} (hn:n<9223372036854775808) (hm:most≤1000) : Fn Tryz.prog 155 [.sl (L a),.i .i64 (n:Int),.i .i64 (most:Int)]
  (.tup [.d (.sl (L (Ac (pwV (val a) n most)))),.d (.b (decide (Fi (val a) n most)))]):=by
 have one:Ac 1=[1]:=GZ (n:=1) (by decide) (by decide)
 refine Fn.of (rs:=[.tmp 6,.tmp 7]) (nt:=49) Tryz.func155 rfl rfl rfl (by simp) rfl ?_;refine .sr ?_;refine asn ?_;refine asd ?_;refine rn ?_;refine .seq ?_;refine .sr ?_;refine mvd ?_;refine bi ?_;refine rn ?_
 rw [dF (show ¬(n:Int)<0 by omega)]
 refine AS ?_;refine .skip ?_
 show AW _ _ _ _ _ _
 refine .sr ?_
 refine bsl ?_ ?_ e32
 ·simp [DV.flat,DV.cells,DV.leaf]
 refine aso ?_;refine rn ?_;refine .sr ?_;refine mvd ?_
 refine cl (xs:=[.sl (L a)]) ?_ (Bv h (by omega)) Tryz.call117
 refine aso ?_;refine rn ?_;refine .gh (Gh.frz (p:=.t 8) rfl (fun _ _ h=>by cases h)) ?_;refine .gh (Gh.frz (p:=.t 9) rfl (fun _ _ h=>by cases h)) ?_;refine .gh (Gh.keep [1,2,6,7,8,9] rfl) ?_
 have hdl:(Ac (val a)).length≤1000:=nT (A8 h) hl
 generalize val a=V at *
 clear h hl
 have hdz:=DB (n:=V)
 refine .mid (fun e H'=>H'=[]∧∃ p m:Nat,(m≠0→V≠0)∧p=(if V=0∧0<n then 0 else 1)∧m=(if V=0∧0<n then 0 else n)∧e=[(1,.d (.i .i64 (m:Int))),(2,.d (.i .i64 (most:Int))),(6,.nl),(7,.d (.b false)),(8,.d (.sl (L (Ac p)))),(9,.d (.sl (L (Ac V))))]) ?_ ?_
 ·refine .sr ?_
  refine mvd ?_
  refine ln ?_ (Ax _) l32
  refine bi ?_;refine mvd ?_
  by_cases hV:V=0
  ·subst hV
   rw [Ar]
   refine mvd ?_;refine bi ?_;refine pkd ?_;refine rn ?_
   by_cases hn0:0<n
   ·rw [dT (show (0:Int)<(n:Int) by omega)]
    refine AR ?_;refine .sr ?_;refine asn ?_;refine rn ?_;refine .region ?_;refine asd ?_;refine RL.gh (Gh.nlD (t:=8) rfl) ?_;refine RL.gh (Gh.keep [1,2,6,7,8,9] rfl) ?_;refine .nil ?_
    exact ⟨rfl,0,0,fun h=>absurd rfl h,by simp [hn0],by simp [hn0],by rw [Ar];rfl⟩
   ·rw [dF (show ¬(0:Int)<(n:Int) by omega)]
    refine AS ?_;refine .gh (Gh.keep [1,2,6,7,8,9] rfl) ?_;refine .skip ?_
    exact ⟨rfl,1,n,fun h=>absurd (by omega) h,by simp [hn0],by simp [hn0],by rw [one];rfl⟩
  ·have hp:=K5 (show 0<V by omega)
   rw [dF (show ¬(((L (Ac V)).length:Nat):Int)=0 by rw [Ab];omega)]
   refine gf ?_;refine gf ?_;refine pkd ?_;refine rn ?_;refine AS ?_;refine .gh (Gh.keep [1,2,6,7,8,9] rfl) ?_;refine .skip ?_
   exact ⟨rfl,1,n,fun _=>hV,by simp [hV],by simp [hV],by rw [one];rfl⟩
 rintro _ _ ⟨rfl,p,m,hmV,hp,hm',rfl⟩
 have hpm:V ^ n=p * V ^ m∧(V≠0→p≠0)∧p≤1∧m<9223372036854775808∧(V=1→p=1):=by
  rw [hp,hm']
  by_cases hc:V=0∧0<n
  ·rw [if_pos hc,if_pos hc,hc.1]
   exact ⟨by rw [Nat.zero_pow hc.2],by simp,by simp,by simp,by simp⟩
  ·rw [if_neg hc,if_neg hc]
   exact ⟨by simp,by simp,by simp,hn,by simp⟩
 clear hp hm'
 obtain ⟨q1,q2,q3,q4,q5⟩:=hpm
 have lp:(Ac p).length≤1000:=by
  have:=Cc q3
  rw [one] at this;simp at this;omega
 refine .mid (fun e H'=>H'=[]∧∃ p m:Nat,(m≠0→V≠0)∧V ^ n=p * V ^ m∧(V≠0→p≠0)∧m<9223372036854775808∧(Ac p).length≤1000∧e=[(1,.d (.i .i64 (m:Int))),(2,.d (.i .i64 (most:Int))),(6,.nl),(7,.d (.b false)),(8,.d (.sl (L (Ac p)))),(9,.d (.sl (L (Ac V))))]) ?_ ?_
 ·refine .sr ?_
  refine mvd ?_
  refine ln ?_ (Ax _) l32
  refine bi ?_;refine mvd ?_
  by_cases hl1:(Ac V).length=1
  ·obtain ⟨x,hx⟩:=List.length_eq_one_iff.1 hl1
   have hvx:V=x:=by
    have:=Ag V
    rw [hx] at this;simp [val] at this;omega
   rw [dT (show (((L (Ac V)).length:Nat):Int)=1 by rw [Ab];omega)]
   have hx0:(Ac V)[0]?=some V:=by rw [hx,← hvx];rfl
   refine mvd ?_
   refine ix 0 ?_ rfl (CA hx0) rfl s32
   refine ldp ?_ a32
   refine bi ?_;refine pkd ?_;refine rn ?_
   by_cases h1:V=1
   ·rw [dT (show (V:Int)=1 by omega)]
    refine AR ?_;refine .region ?_;refine asd ?_;refine RL.gh (Gh.keep [1,2,6,7,8,9] rfl) ?_;refine .nil ?_
    exact ⟨rfl,p,0,by simp,by rw [q1,h1];simp,q2,by decide,lp,rfl⟩
   ·rw [dF (show ¬(V:Int)=1 by omega)]
    refine AS ?_;refine .gh (Gh.keep [1,2,6,7,8,9] rfl) ?_;refine .skip ?_
    exact ⟨rfl,p,m,hmV,q1,q2,q4,lp,rfl⟩
  ·rw [dF (show ¬(((L (Ac V)).length:Nat):Int)=1 by rw [Ab];omega)]
   refine gf ?_;refine gf ?_;refine gf ?_;refine gf ?_;refine pkd ?_;refine rn ?_;refine AS ?_;refine .gh (Gh.keep [1,2,6,7,8,9] rfl) ?_;refine .skip ?_
   exact ⟨rfl,p,m,hmV,q1,q2,q4,lp,rfl⟩
 clear q1 q2 q3 q4 q5 lp hmV
 clear p m
 rintro _ _ ⟨rfl,p,m,w1,w2,w3,w4,w5,rfl⟩
 refine .mid (fun e H'=>H'=[]∧∃ p,(Fi V n most↔(Ac p).length≤most)∧(Fi V n most→p=V ^ n)∧e=[(2,.d (.i .i64 (most:Int))),(8,.d (.sl (L (Ac p))))]) ?_ ?_
 ·refine .block ?_
  refine .loop (.gh (Gh.keep [1,2,8,9] rfl) ?_)
  refine AL.ind (σ:=Nat×Nat) (m:=fun s=>s.2) (e:=fun s=>[(1,.d (.i .i64 (s.2:Int))),(2,.d (.i .i64 (most:Int))),(8,.d (.sl (L (Ac s.1)))),(9,.d (.sl (L (Ac V))))]) (h:=fun _=>[])
   (I:=fun s=>(s.2≠0→V≠0)∧V ^ n=s.1 * V ^ s.2∧(V≠0→s.1≠0)∧s.2<9223372036854775808∧(Ac s.1).length≤3000) ?_ (p,m) ⟨w1,w2,w3,w4,by dsimp only;omega⟩
  clear w1 w2 w3 w4 w5
  clear p m
  rintro ⟨p,m⟩ ⟨w1,w2,w3,w4,w5⟩ ih
  dsimp only at w1 w2 w3 w4 w5 ih ⊢
  refine .seq ?_;refine .sr ?_;refine mvd ?_;refine bi ?_;refine mvd ?_
  by_cases hm0:m=0
  ·subst hm0
   refine gf ?_;refine gf ?_;refine gf ?_;refine gf ?_;refine pkd ?_;refine rn ?_;refine AS ?_;refine .gh (Gh.keep [2,8] rfl) ?_;refine .exit ?_
   have hpe:p=V ^ n:=by rw [w2];simp
   exact ⟨rfl,p,by unfold Fi;rw [← hpe],fun _=>hpe,rfl⟩
  ·rw [dT (show (0:Int)<(m:Int) by omega)]
   refine mvd ?_
   refine ln ?_ (Ax _) l32
   refine mvd ?_;refine bi ?_;refine pkd ?_;refine rn ?_
   have hV:=w1 hm0
   by_cases hbig:(Ac p).length≤most
   ·rw [dT (show (((L (Ac p)).length:Nat):Int)≤(most:Int) by rw [Ab];omega)]
    refine AR ?_;refine .skip ?_
    show AW _ _ _ _ _ _
    refine .seq ?_;refine .block ?_;refine .region ?_;refine mvd ?_;refine mvd ?_
    refine cl (xs:=[.sl (L (Ac p)),.sl (L (Ac V))]) ?_ (VY (An p) (An V) (by omega) (by omega)) Tryz.call126
    rw [Ag,Ag]
    refine aso ?_;refine RL.gh (Gh.frz (p:=.t 8) rfl (fun _ _ h=>by cases h)) ?_;refine .nil ?_
    show AW _ _ _ _ _ _
    refine .region ?_;refine mvd ?_;refine su ((m-1:Nat):Int) ?_ ?_
    ·omega
    refine asd ?_;refine rn ?_;refine .gh (Gh.keep [1,2,8,9] rfl) ?_
    have hpl:(Ac (p * V)).length≤2000:=by
     have h1:=A5 (An p)
     have h2:=A5 (An V)
     rw [Ag] at h1 h2
     have:=Bh (n:=p * V) (k:=(Ac p).length+(Ac V).length) (by rw [Nat.pow_add];exact Nat.mul_lt_mul'' h1 h2)
     omega
    refine ih (p * V,m-1) ⟨fun _=>hV,?_,fun _=>Nat.mul_ne_zero (w3 hV) hV,by dsimp only;omega,by dsimp only;omega⟩ (by dsimp only;omega)
    dsimp only
    rw [w2,Nat.mul_assoc,← Nat.pow_succ',show (m-1).succ=m by omega]
   ·rw [dF (show ¬(((L (Ac p)).length:Nat):Int)≤(most:Int) by rw [Ab];omega)]
    refine AS ?_;refine .gh (Gh.keep [2,8] rfl) ?_;refine .exit ?_
    have hle:p≤V ^ n:=by rw [w2];exact Nat.le_mul_of_pos_right _ (Nat.pow_pos (by omega))
    have hno:¬Fi V n most:=fun h=>by
     have:=Cc hle
     unfold Fi at h;omega
    exact ⟨rfl,p,⟨fun h=>absurd h hno,fun h=>absurd h hbig⟩,fun h=>absurd h hno,rfl⟩
 rintro _ _ ⟨rfl,p,hp1,hp2,rfl⟩
 refine .seq ?_;refine .sr ?_;refine mvd ?_
 refine ln ?_ (Ax _) l32
 refine mvd ?_;refine bi ?_;refine rn ?_
 by_cases hf:Fi V n most
 ·have:=hp1.1 hf
  have hpe:=hp2 hf
  rw [dF (show ¬(most:Int)<((L (Ac p)).length:Nat) by rw [Ab];omega)]
  refine AS ?_;refine .skip ?_
  show AW _ _ _ _ _ _
  refine .sr ?_;refine mvd ?_;refine asd ?_;refine asd ?_;refine rn ?_;refine .ret ?_
  exact ⟨by decide,by rw [dT hf,pwV,if_pos hf,← hpe];rfl,rfl,rfl⟩
 ·have hno:¬(Ac p).length≤most:=fun h=>hf (hp1.2 h)
  rw [dT (show (most:Int)<((L (Ac p)).length:Nat) by rw [Ab];omega)]
  refine AR ?_;refine .sr ?_;refine asn ?_;refine asd ?_;refine rn ?_;refine .gh (Gh.nlD (t:=6) rfl) ?_;refine .ret ?_
  exact ⟨by decide,by rw [dF hf,pwV,if_neg hf,Ar];rfl,rfl,rfl⟩
def Lr (a:List Nat) (n:Int) (m:Int) : Option (List Nat×Bool):=if (okL 1000 a&&decide (0≤n∧n<9223372036854775808∧0≤m∧m≤1000))=true then some ((Ac (pwV (val a) n.toNat m.toNat),decide (Fi (val a) n.toNat m.toNat))) else none
theorem NC {a:List Nat} {n:Int} {m:Int} {r:List Nat×Bool} (h:Lr a n m=some r) : Fn Tryz.prog 155 [.sl (L a),.i .i64 n,.i .i64 m] (.tup [.d (.sl (L r.1)),.d (.b r.2)]):=by
 obtain ⟨hc,h⟩:=BV h
 cases h
 rw [Bool.and_eq_true,decide_eq_true_eq] at hc
 obtain ⟨h1,h2⟩:=Bd.1 hc.1
 have:=QZ h1 (by omega) (n:=n.toNat) (most:=m.toNat) (by omega) (by omega)
 rw [Int.toNat_of_nonneg (by omega),Int.toNat_of_nonneg (by omega)] at this
 exact this
def Cb (a0:RT) : Nat→RT→Int→(List Nat)→(List Nat)→Option (RT×Int)
 | 0,_,_,_,_=>none
 | k+1,s5,s6,s7,s8=>((CN s8 a0.2.1).bind fun x9=>(if x9≤0 then ((JA ([s7,s8])).bind fun x10=>(if 32<((List.length x10:Nat):Int) then (some ((false,[],[]),8)) else (Dp.bind fun x11=>((S4 ([s8,x11])).bind fun x12=>(Cb a0 k s5 s6 x10 x12))))) else (Dp.bind fun x13=>(some ((false,s7,x13),0)))))
def EJ (a0:RT) : Option (RT×Int):=((C9 a0).bind fun x1=>(if x1=true then ((DW a0).bind fun x2=>(if x2=true then (Dp.bind fun x3=>(Dp.bind fun x4=>(Cb a0 Cm (false,[],[]) 0 x3 x4))) else (some ((false,[],[]),3)))) else (some ((false,[],[]),22))))
theorem LV {a0:RT} {r:RT×Int} (h:EJ a0=some r) :
  Fn Tryz.prog 83 [.ag [.b a0.1,.sl (L a0.2.1),.sl (L a0.2.2)]] (.tup [.d (.ag [.b r.1.1,.sl (L r.1.2.1),.sl (L r.1.2.2)]),.d (.i .i64 r.2)]):=by
 unfold EJ at h
 refine Fn.ofC (rs:=[.cell 2 32,.tmp 3]) (nt:=38) Tryz.func83 rfl rfl rfl (by simp) rfl ?_;refine .sr ?_;refine vk (vbx) ?_;refine vk (van (Ai AG) AH) ?_;refine ar [1,2,3] ?_;refine .seq ?_;refine .block ?_;refine .sr ?_;refine vk (Aj Af Ad) ?_
 obtain ⟨x1,g1,h⟩:=bnd h
 refine vk (Ae (Ch g1) Tryz.call45) ?_;refine vk (vnt) ?_;refine ar [1,2,3,6] ?_
 rcases brc h with ⟨hc,h⟩|⟨hc,h⟩
 ·refine cnf (ntf hc) ?_
  refine .sr ?_;refine vk (Aj Af Ad) ?_
  obtain ⟨x2,g2,h⟩:=bnd h
  refine vk (Ae (GS g2) Tryz.call163) ?_;refine vk (vnt) ?_;refine ar [1,2,3,11] ?_
  rcases brc h with ⟨hc,h⟩|⟨hc,h⟩
  ·refine cnf (ntf hc) ?_
   refine .skip ?_
   show AW _ _ _ _ _ _
   refine .sr ?_
   obtain ⟨x3,g3,h⟩:=bnd h
   refine vk ((Ae (Ca g3) Tryz.call121).deep) ?_;refine ar [1,2,3,4] ?_;refine .seq ?_;refine .sr ?_
   obtain ⟨x4,g4,h⟩:=bnd h
   refine vk ((Ae (Ca g4) Tryz.call121).deep) ?_;refine ar [1,2,3,4,5] ?_;refine .block ?_
   refine .loop (.gk [1,2,3,4,5] ?_)
   refine AL.ind (σ:=Nat×RT×Int×(List Nat)×(List Nat)) (m:=fun p=>p.1) (e:=fun p=>[(1,.d (.ptr [.b a0.1,.sl (L a0.2.1),.sl (L a0.2.2)])),(2,.nb [.b p.2.1.1,.sl (L p.2.1.2.1),.sl (L p.2.1.2.2)]),(3,.d (.i .i64 p.2.2.1)),(4,.d (.sl (L p.2.2.2.1))),(5,.d (.sl (L p.2.2.2.2)))]) (h:=fun p=>[]) (I:=fun p=>Cb a0 p.1 p.2.1 p.2.2.1 p.2.2.2.1 p.2.2.2.2=some r) ?_ (Cm,(false,[],[]),0,x3,x4) h
   rintro ⟨k,s5,s6,s7,s8⟩ h ih
   dsimp only at h ih ⊢
   rcases k with _|k
   ·rw [Cb] at h;cases h
   rw [Cb] at h
   refine .seq ?_;refine .sr ?_;refine vk (Aa) ?_;refine vk (vfa AA) ?_;refine vk (Ak AQ) ?_
   obtain ⟨x9,g9,h⟩:=bnd h
   refine vk (Ae (CR g9) Tryz.call164) ?_;refine vk (vbi) ?_;refine rk [1,2,3,4,5,22] ?_
   rcases brc h with ⟨hc,h⟩|⟨hc,h⟩
   ·refine cnt (dT hc) ?_
    refine .skip ?_
    show AW _ _ _ _ _ _
    refine .seq ?_;refine .block ?_;refine .sr ?_;refine vk (Aa) ?_;refine vk (Aa) ?_;refine vk ((Fr (GC [s7,s8]) PQ).deep) ?_
    obtain ⟨x10,g10,h⟩:=bnd h
    refine vk (Ae (MC g10) Tryz.call166) ?_;refine ar [1,2,3,4,5] ?_;refine .sr ?_;refine vk (Aa) ?_;refine vk (A7 (Ab _) (Ax _) B0) ?_;refine vk (vbi) ?_;refine rk [1,2,3,4,5,33] ?_
    rcases brc h with ⟨hc,h⟩|⟨hc,h⟩
    ·refine cnt (dT hc) ?_
     refine .sr ?_;refine vk (vbd Bq AG AH) ?_
     refine stn ?_ Ad (by decide)
     refine ar [1,2,3,4,5] ?_;refine .ret ?_
     cases h
     exact ⟨_,_,⟨.inr rfl,Af,Ad,p3⟩,rfl,rfl⟩
    refine cnf (dF hc) ?_;refine .skip ?_
    show AW _ _ _ _ _ _
    refine .region ?_;refine vk (Aa) ?_
    obtain ⟨x11,g11,h⟩:=bnd h
    refine vk ((Ae (Ca g11) Tryz.call121).deep) ?_;refine vk ((Fr (GC [s8,x11]) PQ).deep) ?_
    obtain ⟨x12,g12,h⟩:=bnd h
    refine vk (Ae (Nb g12) Tryz.call165) ?_;refine asd ?_;refine .nil ?_;refine AL.gk [1,2,3,4,5] ?_
    exact ih (k,s5,s6,x10,x12) h (Nat.lt_succ_self _)
   refine cnf (dF hc) ?_;refine .exit ?_
   show AW _ _ _ _ _ _
   refine .sr ?_;refine vk (Aa) ?_
   obtain ⟨x13,g13,h⟩:=bnd h
   refine vk ((Ae (Ca g13) Tryz.call121).deep) ?_;refine vk (vbd Bq AG AH) ?_
   refine stn ?_ Ad (by decide)
   refine ar [2,3] ?_;refine .ret ?_
   cases h
   exact ⟨_,_,⟨.inr rfl,Af,Ad,p3⟩,rfl,rfl⟩
  refine cnt (ntt (bf hc)) ?_;refine .sr ?_;refine vk (vbd Bq AG AH) ?_
  refine stn ?_ Ad (by decide)
  refine ar [1,2,3] ?_;refine .ret ?_
  cases h
  exact ⟨_,_,⟨.inr rfl,Af,Ad,p3⟩,rfl,rfl⟩
 refine cnt (ntt (bf hc)) ?_;refine .sr ?_;refine vk (vbd Bq AG AH) ?_
 refine stn ?_ Ad (by decide)
 refine ar [1,2,3] ?_;refine .ret ?_
 cases h
 exact ⟨_,_,⟨.inr rfl,Af,Ad,p3⟩,rfl,rfl⟩
def EA (a0:RT) (a1:RT) : Option (RT×Int):=((AJ a0).bind fun x1=>(Option.bind ((if x1=true then ((AJ a1).bind fun x3=>(some (!x3))) else (some true)) : Option (Bool)) fun (z1:Bool)=>(if z1=true then (some ((false,[],[]),22)) else (if ((List.length a0.2.1:Nat) : Int)=0 then ((Dm a1).bind fun x4=>(some (x4,0))) else ((Fz a1 a0).bind fun x5=>(if x5.2=0 then ((D2 x5.1).bind fun x6=>(if x6.2=0 then ((Fa a0 x6.1).bind fun x7=>(if x7.2=0 then ((Ej x7.1).bind fun x8=>((FF a1 x8).bind fun x9=>(some (x9.1,x9.2)))) else (some ((false,[],[]),x7.2)))) else (some ((false,[],[]),x6.2)))) else (some ((false,[],[]),x5.2))))))))
theorem L0 {a0:RT} {a1:RT} {r:RT×Int} (h:EA a0 a1=some r) :
  Fn Tryz.prog 66 [.ag [.b a0.1,.sl (L a0.2.1),.sl (L a0.2.2)],.ag [.b a1.1,.sl (L a1.2.1),.sl (L a1.2.2)]] (.tup [.d (.ag [.b r.1.1,.sl (L r.1.2.1),.sl (L r.1.2.2)]),.d (.i .i64 r.2)]):=by
 unfold EA at h
 refine Fn.ofC (rs:=[.cell 4 32,.tmp 5]) (nt:=59) Tryz.func66 rfl rfl rfl (by simp) rfl ?_;refine .sr ?_;refine vk (vbx) ?_;refine vk (vbx) ?_;refine vk (van (Ai AG) AH) ?_;refine ar [2,3,4,5] ?_;refine .seq ?_;refine .seq ?_
 obtain ⟨x1,g1,h⟩:=bnd h
 obtain ⟨z1,hz,h⟩:=bnd h
 refine AW.mr (σ:=Unit) (fun _=>True) (fun _=>[(2,.d (.ptr [.b a0.1,.sl (L a0.2.1),.sl (L a0.2.2)])),(3,.d (.ptr [.b a1.1,.sl (L a1.2.1),.sl (L a1.2.2)])),(4,.nb [.b false,.sl (L []),.sl (L [])]),(5,.d (.i .i64 0)),(16,.d (.b z1))]) (fun _=>[]) ?_ ?_
 ·skip
  refine .region ?_;refine vk (Aj Af Ad) ?_;refine vk (Ae (AC g1) Tryz.call19) ?_;refine vk (vnt) ?_
  rcases brc hz with ⟨hc,hz⟩|⟨hc,hz⟩
  ·have hb0:(!x1)=false:=(ntf hc)
   refine vk (VOK.lit (Aa) hb0) ?_;refine vk (Aj Af Ad) ?_
   obtain ⟨x3,g3,hz⟩:=bnd hz
   refine vk (Ae (AC g3) Tryz.call19) ?_;refine vk (vnt) ?_;refine vk (Ah) ?_;refine RL.gk [2,3,4,5,16] ?_;refine .nil ?_
   cases hz
   exact jr () trivial
  have hb0:(!x1)=true:=(ntt (bf hc))
  refine vk (VOK.lit (Aa) hb0) ?_;refine gf ?_;refine gf ?_;refine gf ?_;refine vk (Ah) ?_;refine RL.gk [2,3,4,5,16] ?_;refine .nil ?_
  cases hz
  exact jr () trivial
 rintro _ _
 rcases brc h with ⟨hc,h⟩|⟨hc,h⟩
 ·refine cnt hc ?_
  refine .sr ?_;refine vk (vbd Bq AG AH) ?_
  refine stn ?_ Ad (by decide)
  refine ar [2,3,4,5] ?_;refine .ret ?_
  cases h
  exact ⟨_,_,⟨.inr rfl,Af,Ad,p3⟩,rfl,rfl⟩
 refine cnf (bf hc) ?_;refine .skip ?_
 show AW _ _ _ _ _ _
 refine .seq ?_;refine .sr ?_;refine vk (vfa AA) ?_;refine vk (Ak AQ) ?_;refine vk (A7 (Ab _) (Ax _) B0) ?_;refine vk (vbi) ?_;refine rk [2,3,4,5,21] ?_
 rcases brc h with ⟨hc,h⟩|⟨hc,h⟩
 ·refine cnt (dT hc) ?_
  refine .sr ?_;refine vk (Aj Af Ad) ?_
  obtain ⟨x4,g4,h⟩:=bnd h
  refine vk (Ae (Gr g4) Tryz.call129) ?_
  refine stn ?_ Ad (by decide)
  refine ar [2,3,4,5] ?_;refine .ret ?_
  cases h
  exact ⟨_,_,⟨.inr rfl,Af,Ad,p3⟩,rfl,rfl⟩
 refine cnf (dF hc) ?_;refine .skip ?_
 show AW _ _ _ _ _ _
 refine .sr ?_;refine vk (Aj Af Ad) ?_;refine vk (Aj Af Ad) ?_
 obtain ⟨x5,g5,h⟩:=bnd h
 refine vk (VOK.tupd (vs:=[.ag [.b x5.1.1,.sl (L x5.1.2.1),.sl (L x5.1.2.2)],.i .i64 x5.2]) (Ae (IR g5) Tryz.call51)) ?_;refine vk (Aa) ?_;refine vk (vex) ?_;refine vk (vex) ?_;refine vk (van (Ai AG) AH) ?_
 refine stn ?_ Ad (by decide)
 refine ar [2,3,4,5,6,7] ?_;refine .seq ?_;refine .sr ?_;refine vk (Aa) ?_;refine vk (vbi) ?_;refine rk [2,3,4,5,6,7,31] ?_
 rcases brc h with ⟨hc,h⟩|⟨hc,h⟩
 ·refine cnf (ntf (dT hc)) ?_
  refine .skip ?_
  show AW _ _ _ _ _ _
  refine .sr ?_;refine vk (Eh Af Ad) ?_
  obtain ⟨x6,g6,h⟩:=bnd h
  refine vk (VOK.tupd (vs:=[.ag [.b x6.1.1,.sl (L x6.1.2.1),.sl (L x6.1.2.2)],.i .i64 x6.2]) (Ae (GV g6) Tryz.call53)) ?_;refine vk (Aa) ?_;refine vk (vex) ?_;refine vk (vex) ?_
  refine stn ?_ Ad (by decide)
  refine ar [2,3,4,5,6,7] ?_;refine .seq ?_;refine .sr ?_;refine vk (Aa) ?_;refine vk (vbi) ?_;refine rk [2,3,4,5,6,7,40] ?_
  rcases brc h with ⟨hc,h⟩|⟨hc,h⟩
  ·refine cnf (ntf (dT hc)) ?_
   refine .skip ?_
   show AW _ _ _ _ _ _
   refine .sr ?_;refine vk (Aj Af Ad) ?_;refine vk (Eh Af Ad) ?_
   obtain ⟨x7,g7,h⟩:=bnd h
   refine vk (VOK.tupd (vs:=[.ag [.b x7.1.1,.sl (L x7.1.2.1),.sl (L x7.1.2.2)],.i .i64 x7.2]) (Ae (Jz g7) Tryz.call64)) ?_;refine vk (Aa) ?_;refine vk (vex) ?_;refine vk (vex) ?_;refine vk (van (Ai AG) AH) ?_
   refine stn ?_ Ad (by decide)
   refine ar [3,4,5,7,8] ?_;refine .seq ?_;refine .sr ?_;refine vk (Aa) ?_;refine vk (vbi) ?_;refine rk [3,4,5,7,8,50] ?_
   rcases brc h with ⟨hc,h⟩|⟨hc,h⟩
   ·refine cnf (ntf (dT hc)) ?_
    refine .skip ?_
    show AW _ _ _ _ _ _
    refine .seq ?_;refine .drawn 6 A4 (by kernel_rfl) ?_;refine dv (Aj Af Ad) ?_;refine dv (Eh Af Ad) ?_
    obtain ⟨x8,g8,h⟩:=bnd h
    refine dv (Ae (Fm g8) Tryz.call123) ?_
    obtain ⟨x9,g9,h⟩:=bnd h
    refine dv (VOK.tupd (vs:=[.ag [.b x9.1.1,.sl (L x9.1.2.1),.sl (L x9.1.2.2)],.i .i64 x9.2]) (Ae (Ix g9) Tryz.call62)) ?_;refine dv (vex) ?_;refine dv (vex) ?_;refine dz ?_
    refine stn ?_ Ad (by decide)
    refine ar [4,5] ?_;refine .ret ?_
    cases h
    exact ⟨_,_,⟨.inr rfl,Af,Ad,p3⟩,rfl,rfl⟩
   refine cnt (ntt (dF hc)) ?_;refine .sr ?_;refine vk (vbd Bq AG AH) ?_;refine vk (Aa) ?_
   refine stn ?_ Ad (by decide)
   refine ar [3,4,5,8] ?_;refine .ret ?_
   cases h
   exact ⟨_,_,⟨.inr rfl,Af,Ad,p3⟩,rfl,rfl⟩
  refine cnt (ntt (dF hc)) ?_;refine .sr ?_;refine vk (vbd Bq AG AH) ?_;refine vk (Aa) ?_
  refine stn ?_ Ad (by decide)
  refine ar [2,3,4,5,6] ?_;refine .ret ?_
  cases h
  exact ⟨_,_,⟨.inr rfl,Af,Ad,p3⟩,rfl,rfl⟩
 refine cnt (ntt (dF hc)) ?_;refine .sr ?_;refine vk (vbd Bq AG AH) ?_;refine vk (Aa) ?_
 refine stn ?_ Ad (by decide)
 refine ar [2,3,4,5,6] ?_;refine .ret ?_
 cases h
 exact ⟨_,_,⟨.inr rfl,Af,Ad,p3⟩,rfl,rfl⟩
def Ge (a0:RT) (a1:RT) : Option (RT×Int):=((AJ a0).bind fun x1=>(Option.bind ((if x1=true then ((AJ a1).bind fun x3=>(some (!x3))) else (some true)) : Option (Bool)) fun (z1:Bool)=>(if z1=true then (some ((false,[],[]),22)) else ((D3 a1).bind fun x4=>(if x4=true then (if ((List.length a1.2.1:Nat) : Int)=0 then ((Ci 1).bind fun x5=>(some (x5,0))) else (if ((decide (((List.length a0.2.1:Nat) : Int)=0))&&a1.1)=true then (some ((false,[],[]),3)) else (if ((List.length a0.2.1:Nat) : Int)=0 then (Hd.bind fun x6=>(some (x6,0))) else ((rd? a1.2.1 0).bind fun x7=>(BE.bind fun x8=>((NM a0.2.1 x8).bind fun x9=>(Option.bind ((if x9=true then (BE.bind fun x11=>((NM a0.2.2 x11).bind fun x12=>(some x12))) else (some false)) : Option (Bool)) fun (z8:Bool)=>(if z8=true then (BE.bind fun x13=>(BE.bind fun x14=>(some (((a0.1&&(decide ((bits .and .u32 ((x7:Nat) : Int) 1)=1))),x13,x14),0)))) else ((Ht a1.2.1).bind fun x15=>(if ((!x15.2)||(decide (1024<x15.1)))=true then (some ((false,[],[]),8)) else ((Lr a0.2.1 x15.1 32).bind fun x16=>((Lr a0.2.2 x15.1 32).bind fun x17=>(if ((!x16.2)||(!x17.2))=true then (some ((false,[],[]),8)) else (if a1.1=true then (some (((a0.1&&(decide ((bits .and .u32 ((x7:Nat) : Int) 1)=1))),x17.1,x16.1),0)) else (some (((a0.1&&(decide ((bits .and .u32 ((x7:Nat) : Int) 1)=1))),x16.1,x17.1),0)))))))))))))))) else (some ((false,[],[]),3)))))))
set_option maxHeartbeats 4000000 in
theorem Oj {a0:RT} {a1:RT} {r:RT×Int} (h:Ge a0 a1=some r) :
  Fn Tryz.prog 67 [.ag [.b a0.1,.sl (L a0.2.1),.sl (L a0.2.2)],.ag [.b a1.1,.sl (L a1.2.1),.sl (L a1.2.2)]] (.tup [.d (.ag [.b r.1.1,.sl (L r.1.2.1),.sl (L r.1.2.2)]),.d (.i .i64 r.2)]):=by
 unfold Ge at h
 refine Fn.ofC (rs:=[.cell 4 32,.tmp 5]) (nt:=118) Tryz.func67 rfl rfl rfl (by simp) rfl ?_;refine .sr ?_;refine vk (vbx) ?_;refine vk (vbx) ?_;refine vk (van (Ai AG) AH) ?_;refine ar [2,3,4,5] ?_;refine .seq ?_;refine .block ?_;refine .seq ?_
 obtain ⟨x1,g1,h⟩:=bnd h
 obtain ⟨z1,hz,h⟩:=bnd h
 refine AW.mr (σ:=Unit) (fun _=>True) (fun _=>[(2,.d (.ptr [.b a0.1,.sl (L a0.2.1),.sl (L a0.2.2)])),(3,.d (.ptr [.b a1.1,.sl (L a1.2.1),.sl (L a1.2.2)])),(4,.nb [.b false,.sl (L []),.sl (L [])]),(5,.d (.i .i64 0)),(14,.d (.b z1))]) (fun _=>[]) ?_ ?_
 ·skip
  refine .region ?_;refine vk (Aj Af Ad) ?_;refine vk (Ae (AC g1) Tryz.call19) ?_;refine vk (vnt) ?_
  rcases brc hz with ⟨hc,hz⟩|⟨hc,hz⟩
  ·have hb0:(!x1)=false:=(ntf hc)
   refine vk (VOK.lit (Aa) hb0) ?_;refine vk (Aj Af Ad) ?_
   obtain ⟨x3,g3,hz⟩:=bnd hz
   refine vk (Ae (AC g3) Tryz.call19) ?_;refine vk (vnt) ?_;refine vk (Ah) ?_;refine asd ?_;refine RL.gk [2,3,4,5,14] ?_;refine .nil ?_
   cases hz
   exact jr () trivial
  have hb0:(!x1)=true:=(ntt (bf hc))
  refine vk (VOK.lit (Aa) hb0) ?_;refine gf ?_;refine gf ?_;refine gf ?_;refine vk (Ah) ?_;refine asd ?_;refine RL.gk [2,3,4,5,14] ?_;refine .nil ?_
  cases hz
  exact jr () trivial
 rintro _ _
 rcases brc h with ⟨hc,h⟩|⟨hc,h⟩
 ·refine cnt hc ?_
  refine .sr ?_;refine vk (vbd Bq AG AH) ?_
  refine stn ?_ Ad (by decide)
  refine ar [2,3,4,5] ?_;refine .ret ?_
  cases h
  exact ⟨_,_,⟨.inr rfl,Af,Ad,p3⟩,rfl,rfl⟩
 refine cnf (bf hc) ?_;refine .sr ?_;refine vk (Aj Af Ad) ?_
 obtain ⟨x4,g4,h⟩:=bnd h
 refine vk (Ae (Jo g4) Tryz.call154) ?_;refine vk (vnt) ?_;refine ar [2,3,4,5,24] ?_
 rcases brc h with ⟨hc,h⟩|⟨hc,h⟩
 ·refine cnf (ntf hc) ?_
  refine .sr ?_;refine vk (vfa AA) ?_;refine vk (Ak AQ) ?_;refine vk (A7 (Ab _) (Ax _) B0) ?_;refine vk (vbi) ?_;refine ar [2,3,4,5,29] ?_
  rcases brc h with ⟨hc,h⟩|⟨hc,h⟩
  ·refine cnt (dT hc) ?_
   refine .sr ?_
   obtain ⟨x5,g5,h⟩:=bnd h
   refine vk (Ae (CH g5) Tryz.call49) ?_
   refine stn ?_ Ad (by decide)
   refine ar [2,3,4,5] ?_;refine .ret ?_
   cases h
   exact ⟨_,_,⟨.inr rfl,Af,Ad,p3⟩,rfl,rfl⟩
  refine cnf (dF hc) ?_;refine .seq ?_;refine AW.mr (σ:=Unit) (fun _=>True) (fun _=>[(2,.d (.ptr [.b a0.1,.sl (L a0.2.1),.sl (L a0.2.2)])),(3,.d (.ptr [.b a1.1,.sl (L a1.2.1),.sl (L a1.2.2)])),(4,.nb [.b false,.sl (L []),.sl (L [])]),(5,.d (.i .i64 0)),(35,.d (.b ((decide (((List.length a0.2.1:Nat):Int)=0))&&a1.1)))]) (fun _=>[]) ?_ ?_
  ·skip
   refine .region ?_;refine vk (vfa AA) ?_;refine vk (Ak AQ) ?_;refine vk (A7 (Ab _) (Ax _) B0) ?_;refine vk (vbi) ?_
   by_cases hc:((List.length a0.2.1:Nat):Int)=0
   ·have hb0:(decide (((List.length a0.2.1:Nat):Int)=0))=true:=(dT hc)
    refine vk (VOK.lit (Aa) hb0) ?_;refine vk (vfa AT) ?_;refine vk (Ak AD) ?_;refine vk (Ah) ?_;refine asd ?_;refine RL.gk [2,3,4,5,35] ?_;refine .nil ?_
    exact jr () trivial (by simp only [hb0];rfl)
   have hb0:(decide (((List.length a0.2.1:Nat):Int)=0))=false:=(dF hc)
   refine vk (VOK.lit (Aa) hb0) ?_;refine gf ?_;refine gf ?_;refine vk (Ah) ?_;refine asd ?_;refine RL.gk [2,3,4,5,35] ?_;refine .nil ?_
   exact jr () trivial (by simp only [hb0];rfl)
  rintro _ _
  rcases brc h with ⟨hc,h⟩|⟨hc,h⟩
  ·refine cnt hc ?_
   refine .sr ?_;refine vk (vbd Bq AG AH) ?_
   refine stn ?_ Ad (by decide)
   refine ar [2,3,4,5] ?_;refine .ret ?_
   cases h
   exact ⟨_,_,⟨.inr rfl,Af,Ad,p3⟩,rfl,rfl⟩
  refine cnf (bf hc) ?_;refine .sr ?_;refine vk (vfa AA) ?_;refine vk (Ak AQ) ?_;refine vk (A7 (Ab _) (Ax _) B0) ?_;refine vk (vbi) ?_;refine ar [2,3,4,5,45] ?_
  rcases brc h with ⟨hc,h⟩|⟨hc,h⟩
  ·refine cnt (dT hc) ?_
   refine .sr ?_
   obtain ⟨x6,g6,h⟩:=bnd h
   refine vk (Ae (Gf g6) Tryz.call33) ?_
   refine stn ?_ Ad (by decide)
   refine ar [2,3,4,5] ?_;refine .ret ?_
   cases h
   exact ⟨_,_,⟨.inr rfl,Af,Ad,p3⟩,rfl,rfl⟩
  refine cnf (dF hc) ?_;refine .skip ?_
  show AW _ _ _ _ _ _
  refine .sr ?_;refine vk (vfa AA) ?_;refine vk (Ak AQ) ?_
  obtain ⟨x7,g7,h⟩:=bnd h
  obtain ⟨n7,p07,q7⟩:=BA g7
  refine vk (vix n7 p07 (CA q7) rfl Aas) ?_;refine vk (Ak Pi) ?_;refine vk (vbi) ?_;refine vk (vbi) ?_;refine ar [2,3,4,5,6] ?_;refine .seq ?_;refine AW.mr (σ:=Unit) (fun _=>True) (fun _=>[(2,.d (.ptr [.b a0.1,.sl (L a0.2.1),.sl (L a0.2.2)])),(3,.d (.ptr [.b a1.1,.sl (L a1.2.1),.sl (L a1.2.2)])),(4,.nb [.b false,.sl (L []),.sl (L [])]),(5,.d (.i .i64 0)),(7,.d (.b (a0.1&&(decide ((bits .and .u32 ((x7:Nat):Int) 1)=1)))))]) (fun _=>[]) ?_ ?_
  ·skip
   refine .region ?_;refine vk (vfa AT) ?_;refine vk (Ak AD) ?_
   by_cases hc:a0.1=true
   ·have hb0:a0.1=true:=hc
    refine vk (VOK.lit (Aa) hb0) ?_;refine vk (Aa) ?_;refine vk (Ah) ?_;refine asd ?_;refine RL.gk [2,3,4,5,7] ?_;refine .nil ?_
    exact jr () trivial (by simp only [hb0];rfl)
   have hb0:a0.1=false:=(bf hc)
   refine vk (VOK.lit (Aa) hb0) ?_;refine gf ?_;refine vk (Ah) ?_;refine asd ?_;refine RL.gk [2,3,4,5,7] ?_;refine .nil ?_
   exact jr () trivial (by simp only [hb0];rfl)
  rintro _ _
  refine .seq ?_;refine .seq ?_
  obtain ⟨x8,g8,h⟩:=bnd h
  obtain ⟨x9,g9,h⟩:=bnd h
  obtain ⟨z8,hz,h⟩:=bnd h
  refine AW.mr (σ:=Unit) (fun _=>True) (fun _=>[(2,.d (.ptr [.b a0.1,.sl (L a0.2.1),.sl (L a0.2.2)])),(3,.d (.ptr [.b a1.1,.sl (L a1.2.1),.sl (L a1.2.2)])),(4,.nb [.b false,.sl (L []),.sl (L [])]),(5,.d (.i .i64 0)),(7,.d (.b (a0.1&&(decide ((bits .and .u32 ((x7:Nat):Int) 1)=1))))),(71,.d (.b z8))]) (fun _=>[]) ?_ ?_
  ·skip
   refine .drawn 10 A4 (by kernel_rfl) ?_;refine dv (vfa AA) ?_;refine dv (Ak AQ) ?_;refine dv ((Ae (Bk g8) Tryz.call44).deep) ?_;refine dv (Ae (PO g9) Tryz.call58) ?_
   rcases brc hz with ⟨hc,hz⟩|⟨hc,hz⟩
   ·have hb0:x9=true:=hc
    refine dv (VOK.lit (Aa) hb0) ?_;refine dv (vfa Bg) ?_;refine dv (Ak AQ) ?_
    obtain ⟨x11,g11,hz⟩:=bnd hz
    refine dv ((Ae (Bk g11) Tryz.call44).deep) ?_
    obtain ⟨x12,g12,hz⟩:=bnd hz
    refine dv (Ae (PO g12) Tryz.call58) ?_;refine dv (Ah) ?_;refine dz ?_;refine RL.gk [2,3,4,5,7,71] ?_;refine .nil ?_
    cases hz
    exact jr () trivial
   have hb0:x9=false:=(bf hc)
   refine dv (VOK.lit (Aa) hb0) ?_;refine dgf ?_;refine dgf ?_;refine dgf ?_;refine dgf ?_;refine dv (Ah) ?_;refine dz ?_;refine RL.gk [2,3,4,5,7,71] ?_;refine .nil ?_
   cases hz
   exact jr () trivial
  rintro _ _
  rcases brc h with ⟨hc,h⟩|⟨hc,h⟩
  ·refine cnt hc ?_
   refine .sr ?_;refine vk (Aa) ?_
   obtain ⟨x13,g13,h⟩:=bnd h
   refine vk ((Ae (Bk g13) Tryz.call44).deep) ?_
   obtain ⟨x14,g14,h⟩:=bnd h
   refine vk ((Ae (Bk g14) Tryz.call44).deep) ?_;refine vk (vbd Bq AG AH) ?_
   refine stn ?_ Ad (by decide)
   refine ar [2,3,4,5,7] ?_;refine .ret ?_
   cases h
   exact ⟨_,_,⟨.inr rfl,Af,Ad,p3⟩,rfl,rfl⟩
  refine cnf (bf hc) ?_;refine .skip ?_
  show AW _ _ _ _ _ _
  refine .sr ?_;refine vk (vfa AA) ?_;refine vk (Ak AQ) ?_
  obtain ⟨x15,g15,h⟩:=bnd h
  refine vk (VOK.tupd (vs:=[.i .i64 x15.1,.b x15.2]) (Ae (NN g15) Tryz.call131)) ?_;refine vk (Aa) ?_;refine vk (vex) ?_;refine vk (vex) ?_;refine asd ?_;refine ar [2,3,4,5,7,8,9] ?_;refine .seq ?_;refine .seq ?_;refine AW.mr (σ:=Unit) (fun _=>True) (fun _=>[(2,.d (.ptr [.b a0.1,.sl (L a0.2.1),.sl (L a0.2.2)])),(3,.d (.ptr [.b a1.1,.sl (L a1.2.1),.sl (L a1.2.2)])),(4,.nb [.b false,.sl (L []),.sl (L [])]),(5,.d (.i .i64 0)),(7,.d (.b (a0.1&&(decide ((bits .and .u32 ((x7:Nat):Int) 1)=1))))),(8,.d (.i .i64 x15.1)),(87,.d (.b ((!x15.2)||(decide (1024<x15.1)))))]) (fun _=>[]) ?_ ?_
  ·skip
   refine .region ?_;refine vk (Aa) ?_;refine vk (vnt) ?_
   by_cases hc:x15.2=true
   ·have hb0:(!x15.2)=false:=(ntf hc)
    refine vk (VOK.lit (Aa) hb0) ?_;refine vk (Aa) ?_;refine vk (vbi) ?_;refine vk (Ah) ?_;refine RL.gk [2,3,4,5,7,8,87] ?_;refine .nil ?_
    exact jr () trivial (by simp only [hb0];rfl)
   have hb0:(!x15.2)=true:=(ntt (bf hc))
   refine vk (VOK.lit (Aa) hb0) ?_;refine gf ?_;refine gf ?_;refine vk (Ah) ?_;refine RL.gk [2,3,4,5,7,8,87] ?_;refine .nil ?_
   exact jr () trivial (by simp only [hb0];rfl)
  rintro _ _
  rcases brc h with ⟨hc,h⟩|⟨hc,h⟩
  ·refine cnt hc ?_
   refine .sr ?_;refine vk (vbd Bq AG AH) ?_
   refine stn ?_ Ad (by decide)
   refine ar [2,3,4,5,7,8] ?_;refine .ret ?_
   cases h
   exact ⟨_,_,⟨.inr rfl,Af,Ad,p3⟩,rfl,rfl⟩
  refine cnf (bf hc) ?_;refine .skip ?_
  show AW _ _ _ _ _ _
  refine .sr ?_;refine vk (vfa AA) ?_;refine vk (Ak AQ) ?_;refine vk (Aa) ?_
  obtain ⟨x16,g16,h⟩:=bnd h
  refine vk (VOK.tupd (vs:=[.sl (L x16.1),.b x16.2]) (Ae (NC g16) Tryz.call155)) ?_;refine vk (Aa) ?_;refine vk (vex) ?_;refine vk (vex) ?_;refine asd ?_;refine ar [2,3,4,5,7,8,10,11] ?_;refine .sr ?_;refine vk (vfa Bg) ?_;refine vk (Ak AQ) ?_;refine vk (Aa) ?_
  obtain ⟨x17,g17,h⟩:=bnd h
  refine vk (VOK.tupd (vs:=[.sl (L x17.1),.b x17.2]) (Ae (NC g17) Tryz.call155)) ?_;refine vk (Aa) ?_;refine vk (vex) ?_;refine vk (vex) ?_;refine asd ?_;refine ar [3,4,5,7,10,11,12,13] ?_;refine .seq ?_;refine .seq ?_;refine AW.mr (σ:=Unit) (fun _=>True) (fun _=>[(3,.d (.ptr [.b a1.1,.sl (L a1.2.1),.sl (L a1.2.2)])),(4,.nb [.b false,.sl (L []),.sl (L [])]),(5,.d (.i .i64 0)),(7,.d (.b (a0.1&&(decide ((bits .and .u32 ((x7:Nat):Int) 1)=1))))),(10,.d (.sl (L x16.1))),(12,.d (.sl (L x17.1))),(108,.d (.b ((!x16.2)||(!x17.2))))]) (fun _=>[]) ?_ ?_
  ·skip
   refine .region ?_;refine vk (Aa) ?_;refine vk (vnt) ?_
   by_cases hc:x16.2=true
   ·have hb0:(!x16.2)=false:=(ntf hc)
    refine vk (VOK.lit (Aa) hb0) ?_;refine vk (Aa) ?_;refine vk (vnt) ?_;refine vk (Ah) ?_;refine RL.gk [3,4,5,7,10,12,108] ?_;refine .nil ?_
    exact jr () trivial (by simp only [hb0];rfl)
   have hb0:(!x16.2)=true:=(ntt (bf hc))
   refine vk (VOK.lit (Aa) hb0) ?_;refine gf ?_;refine gf ?_;refine vk (Ah) ?_;refine RL.gk [3,4,5,7,10,12,108] ?_;refine .nil ?_
   exact jr () trivial (by simp only [hb0];rfl)
  rintro _ _
  rcases brc h with ⟨hc,h⟩|⟨hc,h⟩
  ·refine cnt hc ?_
   refine .sr ?_;refine vk (vbd Bq AG AH) ?_
   refine stn ?_ Ad (by decide)
   refine ar [3,4,5,7,10,12] ?_;refine .ret ?_
   cases h
   exact ⟨_,_,⟨.inr rfl,Af,Ad,p3⟩,rfl,rfl⟩
  refine cnf (bf hc) ?_;refine .skip ?_
  show AW _ _ _ _ _ _
  refine .seq ?_;refine .sr ?_;refine vk (vfa AT) ?_;refine vk (Ak AD) ?_;refine rk [4,5,7,10,12,111] ?_
  rcases brc h with ⟨hc,h⟩|⟨hc,h⟩
  ·refine cnt hc ?_
   refine .region ?_;refine vk (Aa) ?_;refine vk (Aa) ?_;refine asd ?_;refine ar [4,5,7,10,12] ?_;refine .sr ?_;refine vk (Aa) ?_;refine vk (Aa) ?_;refine vk (Aa) ?_;refine vk (vbd Bq AG AH) ?_
   refine stn ?_ Ad (by decide)
   refine ar [4,5] ?_;refine .ret ?_
   cases h
   exact ⟨_,_,⟨.inr rfl,Af,Ad,p3⟩,rfl,rfl⟩
  refine cnf (bf hc) ?_;refine .skip ?_
  show AW _ _ _ _ _ _
  refine .sr ?_;refine vk (Aa) ?_;refine vk (Aa) ?_;refine vk (Aa) ?_;refine vk (vbd Bq AG AH) ?_
  refine stn ?_ Ad (by decide)
  refine ar [4,5] ?_;refine .ret ?_
  cases h
  exact ⟨_,_,⟨.inr rfl,Af,Ad,p3⟩,rfl,rfl⟩
 refine cnt (ntt (bf hc)) ?_;refine .sr ?_;refine vk (vbd Bq AG AH) ?_
 refine stn ?_ Ad (by decide)
 refine ar [2,3,4,5] ?_;refine .ret ?_
 cases h
 exact ⟨_,_,⟨.inr rfl,Af,Ad,p3⟩,rfl,rfl⟩
def DP (a0:RT) : Option (Bool):=((D3 a0).bind fun x1=>(some ((x1&&(!a0.1)))))
theorem GT {a0:RT} {r:Bool} (h:DP a0=some r) :
  Fn Tryz.prog 130 [.ag [.b a0.1,.sl (L a0.2.1),.sl (L a0.2.2)]] (.d (.b r)):=by
 unfold DP at h
 refine Fn.o1 2 10 Tryz.func130 ?_;refine .sr ?_;refine vk (vbx) ?_;refine ar [1,2] ?_;refine .seq ?_
 obtain ⟨x1,g1,h⟩:=bnd h
 refine AW.mr (σ:=Unit) (fun _=>True) (fun _=>[(2,.d (.b (x1&&(!a0.1))))]) (fun _=>[]) ?_ ?_
 ·skip
  refine .region ?_;refine vk (Aj Af Ad) ?_;refine vk (Ae (Jo g1) Tryz.call154) ?_
  by_cases hc:x1=true
  ·have hb0:x1=true:=hc
   refine vk (VOK.lit (Aa) hb0) ?_;refine vk (vfa AT) ?_;refine vk (Ak AD) ?_;refine vk (vnt) ?_;refine vk (Ah) ?_;refine asd ?_;refine RL.gk [2] ?_;refine .nil ?_
   exact jr () trivial (by simp only [hb0];rfl)
  have hb0:x1=false:=(bf hc)
  refine vk (VOK.lit (Aa) hb0) ?_;refine gf ?_;refine gf ?_;refine gf ?_;refine vk (Ah) ?_;refine asd ?_;refine RL.gk [2] ?_;refine .nil ?_
  exact jr () trivial (by simp only [hb0];rfl)
 rintro _ _
 refine .ret ?_
 cases h
 exact ⟨rfl,rfl⟩
def Bz (x3:Int×Bool) : Nat→(List Nat)→Int→Option (RT×Int)
 | 0,_,_=>none
 | k+1,s5,s6=>(if s6≤x3.1 then ((RN (IntKind.wrap .u64 s6)).bind fun x7=>((BJ s5 x7).bind fun x8=>(Bz x3 k x8 (w64 (s6+1))))) else (BE.bind fun x9=>((Cn false s5 x9).bind fun x10=>(some (x10.1,x10.2)))))
def Dz (a0:RT) : Option (RT×Int):=((AJ a0).bind fun x1=>(if x1=true then ((DP a0).bind fun x2=>(if x2=true then ((Ht a0.2.1).bind fun x3=>(if ((!x3.2)||(decide (1000<x3.1)))=true then (some ((false,[],[]),8)) else (BE.bind fun x4=>(Bz x3 Cm x4 2)))) else (some ((false,[],[]),3)))) else (some ((false,[],[]),22))))
theorem KG {a0:RT} {r:RT×Int} (h:Dz a0=some r) :
  Fn Tryz.prog 55 [.ag [.b a0.1,.sl (L a0.2.1),.sl (L a0.2.2)]] (.tup [.d (.ag [.b r.1.1,.sl (L r.1.2.1),.sl (L r.1.2.2)]),.d (.i .i64 r.2)]):=by
 unfold Dz at h
 refine Fn.ofC (rs:=[.cell 2 32,.tmp 3]) (nt:=45) Tryz.func55 rfl rfl rfl (by simp) rfl ?_;refine .sr ?_;refine vk (vbx) ?_;refine vk (van (Ai AG) AH) ?_;refine ar [1,2,3] ?_;refine .seq ?_;refine .sr ?_;refine vk (Aj Af Ad) ?_
 obtain ⟨x1,g1,h⟩:=bnd h
 refine vk (Ae (AC g1) Tryz.call19) ?_;refine vk (vnt) ?_;refine rk [1,2,3,10] ?_
 rcases brc h with ⟨hc,h⟩|⟨hc,h⟩
 ·refine cnf (ntf hc) ?_
  refine .skip ?_
  show AW _ _ _ _ _ _
  refine .seq ?_;refine .sr ?_;refine vk (Aj Af Ad) ?_
  obtain ⟨x2,g2,h⟩:=bnd h
  refine vk (Ae (GT g2) Tryz.call130) ?_;refine vk (vnt) ?_;refine rk [1,2,3,14] ?_
  rcases brc h with ⟨hc,h⟩|⟨hc,h⟩
  ·refine cnf (ntf hc) ?_
   refine .skip ?_
   show AW _ _ _ _ _ _
   refine .sr ?_;refine vk (vfa AA) ?_;refine vk (Ak AQ) ?_
   obtain ⟨x3,g3,h⟩:=bnd h
   refine vk (VOK.tupd (vs:=[.i .i64 x3.1,.b x3.2]) (Ae (NN g3) Tryz.call131)) ?_;refine vk (Aa) ?_;refine vk (vex) ?_;refine vk (vex) ?_;refine asd ?_;refine ar [2,3,4,5] ?_;refine .seq ?_;refine .seq ?_;refine AW.mr (σ:=Unit) (fun _=>True) (fun _=>[(2,.nb [.b false,.sl (L []),.sl (L [])]),(3,.d (.i .i64 0)),(4,.d (.i .i64 x3.1)),(27,.d (.b ((!x3.2)||(decide (1000<x3.1)))))]) (fun _=>[]) ?_ ?_
   ·skip
    refine .region ?_;refine vk (Aa) ?_;refine vk (vnt) ?_
    by_cases hc:x3.2=true
    ·have hb0:(!x3.2)=false:=(ntf hc)
     refine vk (VOK.lit (Aa) hb0) ?_;refine vk (Aa) ?_;refine vk (vbi) ?_;refine vk (Ah) ?_;refine RL.gk [2,3,4,27] ?_;refine .nil ?_
     exact jr () trivial (by simp only [hb0];rfl)
    have hb0:(!x3.2)=true:=(ntt (bf hc))
    refine vk (VOK.lit (Aa) hb0) ?_;refine gf ?_;refine gf ?_;refine vk (Ah) ?_;refine RL.gk [2,3,4,27] ?_;refine .nil ?_
    exact jr () trivial (by simp only [hb0];rfl)
   rintro _ _
   rcases brc h with ⟨hc,h⟩|⟨hc,h⟩
   ·refine cnt hc ?_
    refine .sr ?_;refine vk (vbd Bq AG AH) ?_
    refine stn ?_ Ad (by decide)
    refine ar [2,3,4] ?_;refine .ret ?_
    cases h
    exact ⟨_,_,⟨.inr rfl,Af,Ad,p3⟩,rfl,rfl⟩
   refine cnf (bf hc) ?_;refine .skip ?_
   show AW _ _ _ _ _ _
   refine .sr ?_
   obtain ⟨x4,g4,h⟩:=bnd h
   refine vk ((Ae (Bk g4) Tryz.call44).deep) ?_;refine ar [2,3,4,6] ?_;refine .seq ?_;refine .sr ?_;refine ar [2,3,4,6,7] ?_;refine .block ?_
   refine .loop (.gk [2,3,4,6,7] ?_)
   refine AL.ind (σ:=Nat×(List Nat)×Int) (m:=fun p=>p.1) (e:=fun p=>[(2,.nb [.b false,.sl (L []),.sl (L [])]),(3,.d (.i .i64 0)),(4,.d (.i .i64 x3.1)),(6,.d (.sl (L p.2.1))),(7,.d (.i .i64 p.2.2))]) (h:=fun p=>[]) (I:=fun p=>Bz x3 p.1 p.2.1 p.2.2=some r) ?_ (Cm,x4,2) h
   rintro ⟨k,s5,s6⟩ h ih
   dsimp only at h ih ⊢
   rcases k with _|k
   ·rw [Bz] at h;cases h
   rw [Bz] at h
   refine .seq ?_;refine .sr ?_;refine vk (Aa) ?_;refine vk (Aa) ?_;refine vk (vbi) ?_;refine rk [2,3,4,6,7,32] ?_
   rcases brc h with ⟨hc,h⟩|⟨hc,h⟩
   ·refine cnt (dT hc) ?_
    refine .skip ?_
    show AW _ _ _ _ _ _
    refine .seq ?_;refine .block ?_;refine .region ?_;refine vk (Aa) ?_;refine vk (Aa) ?_;refine vk (vcv Xr OV) ?_
    obtain ⟨x7,g7,h⟩:=bnd h
    refine vk ((Ae (Qc g7) Tryz.call124).deep) ?_
    obtain ⟨x8,g8,h⟩:=bnd h
    refine vk ((Ae (Bn g8) Tryz.call126).deep) ?_;refine asd ?_;refine .nil ?_
    show AW _ _ _ _ _ _
    refine .gk [2,3,4,6,7] ?_;refine .region ?_;refine vk (Aa) ?_;refine vk (vbi) ?_;refine asd ?_;refine .nil ?_;refine AL.gk [2,3,4,6,7] ?_
    exact ih (k,x8,(w64 (s6+1))) h (Nat.lt_succ_self _)
   refine cnf (dF hc) ?_;refine .exit ?_
   show AW _ _ _ _ _ _
   refine .sr ?_;refine vk (Aa) ?_
   obtain ⟨x9,g9,h⟩:=bnd h
   refine vk ((Ae (Bk g9) Tryz.call44).deep) ?_
   obtain ⟨x10,g10,h⟩:=bnd h
   refine vk (VOK.tupd (vs:=[.ag [.b x10.1.1,.sl (L x10.1.2.1),.sl (L x10.1.2.2)],.i .i64 x10.2]) (Ae (Dg g10) Tryz.call125)) ?_;refine vk (vex) ?_;refine vk (vex) ?_
   refine stn ?_ Ad (by decide)
   refine ar [2,3] ?_;refine .ret ?_
   cases h
   exact ⟨_,_,⟨.inr rfl,Af,Ad,p3⟩,rfl,rfl⟩
  refine cnt (ntt (bf hc)) ?_;refine .sr ?_;refine vk (vbd Bq AG AH) ?_
  refine stn ?_ Ad (by decide)
  refine ar [1,2,3] ?_;refine .ret ?_
  cases h
  exact ⟨_,_,⟨.inr rfl,Af,Ad,p3⟩,rfl,rfl⟩
 refine cnt (ntt (bf hc)) ?_;refine .sr ?_;refine vk (vbd Bq AG AH) ?_
 refine stn ?_ Ad (by decide)
 refine ar [1,2,3] ?_;refine .ret ?_
 cases h
 exact ⟨_,_,⟨.inr rfl,Af,Ad,p3⟩,rfl,rfl⟩
def BX (x7:(List Nat)×Bool) (K0:RT→Int→(List Nat)→Option (RT×Int)) : Nat→RT→Int→(List Nat)→(List Nat)→(List Nat)→Option (RT×Int)
 | 0,_,_,_,_,_=>none
 | k+1,s13,s14,s15,s16,s17=>((Cw s16 x7.1).bind fun x18=>(if x18<0 then (BE.bind fun x19=>((Ol s16 x19).bind fun x20=>((BJ s15 s17).bind fun x21=>((HZ x21 x20).bind fun x22=>(BE.bind fun x23=>((Hr s17 x23).bind fun x24=>(if 32<((List.length x22.1:Nat):Int) then (some ((false,[],[]),8)) else (BX x7 K0 k s13 s14 x22.1 x20 x24.1)))))))) else (K0 s13 s14 s15)))
def AY (a0:RT) (K2:RT→Int→(List Nat)→Option (RT×Int)) : Nat→RT→Int→(List Nat)→(List Nat)→(List Nat)→Option (RT×Int)
 | 0,_,_,_,_,_=>none
 | k+1,s31,s32,s33,s34,s35=>((Cw s34 a0.2.1).bind fun x36=>(if x36<0 then (BE.bind fun x37=>((Ol s34 x37).bind fun x38=>((BJ s33 s35).bind fun x39=>((HZ x39 x38).bind fun x40=>(BE.bind fun x41=>((Hr s35 x41).bind fun x42=>(if 32<((List.length x40.1:Nat):Int) then (some ((false,[],[]),8)) else (AY a0 K2 k s31 s32 x40.1 x38 x42.1)))))))) else (K2 s31 s32 s33)))
def D7 (a0:RT) (a1:RT) : Option (RT×Int):=((AJ a0).bind fun x1=>(Option.bind ((if x1=true then ((AJ a1).bind fun x3=>(some (!x3))) else (some true)) : Option (Bool)) fun (z1:Bool)=>(if z1=true then (some ((false,[],[]),22)) else ((DP a0).bind fun x4=>(Option.bind ((if x4=true then ((DP a1).bind fun x6=>(some (!x6))) else (some true)) : Option (Bool)) fun (z4:Bool)=>(if z4=true then (some ((false,[],[]),3)) else ((Hr a1.2.1 a0.2.1).bind fun x7=>(if x7.2=true then ((Cw x7.1 a0.2.1).bind fun x8=>(if x8<0 then (BE.bind fun x9=>(jn (fun (z10:RT) (z11:Int) (z12:(List Nat))=>(BE.bind fun x25=>((Cn false z12 x25).bind fun x26=>(some (x26.1,x26.2))))) fun K0=>(BX x7 K0 Cm (false,[],[]) 0 x9 [] a1.2.1))) else (BE.bind fun x27=>(jn (fun (z28:RT) (z29:Int) (z30:(List Nat))=>(BE.bind fun x43=>((Cn false z30 x43).bind fun x44=>(some (x44.1,x44.2))))) fun K2=>(AY a0 K2 Cm (false,[],[]) 0 x27 [] a1.2.1))))) else (Hd.bind fun x45=>(some (x45,0)))))))))))
set_option maxHeartbeats 4000000 in
theorem Le {a0:RT} {a1:RT} {r:RT×Int} (h:D7 a0 a1=some r) :
  Fn Tryz.prog 68 [.ag [.b a0.1,.sl (L a0.2.1),.sl (L a0.2.2)],.ag [.b a1.1,.sl (L a1.2.1),.sl (L a1.2.2)]] (.tup [.d (.ag [.b r.1.1,.sl (L r.1.2.1),.sl (L r.1.2.2)]),.d (.i .i64 r.2)]):=by
 unfold D7 at h
 refine Fn.ofC (rs:=[.cell 4 32,.tmp 5]) (nt:=82) Tryz.func68 rfl rfl rfl (by simp) rfl ?_;refine .sr ?_;refine vk (vbx) ?_;refine vk (vbx) ?_;refine vk (van (Ai AG) AH) ?_;refine ar [2,3,4,5] ?_;refine .seq ?_;refine .seq ?_
 obtain ⟨x1,g1,h⟩:=bnd h
 obtain ⟨z1,hz,h⟩:=bnd h
 refine AW.mr (σ:=Unit) (fun _=>True) (fun _=>[(2,.d (.ptr [.b a0.1,.sl (L a0.2.1),.sl (L a0.2.2)])),(3,.d (.ptr [.b a1.1,.sl (L a1.2.1),.sl (L a1.2.2)])),(4,.nb [.b false,.sl (L []),.sl (L [])]),(5,.d (.i .i64 0)),(19,.d (.b z1))]) (fun _=>[]) ?_ ?_
 ·skip
  refine .region ?_;refine vk (Aj Af Ad) ?_;refine vk (Ae (AC g1) Tryz.call19) ?_;refine vk (vnt) ?_
  rcases brc hz with ⟨hc,hz⟩|⟨hc,hz⟩
  ·have hb0:(!x1)=false:=(ntf hc)
   refine vk (VOK.lit (Aa) hb0) ?_;refine vk (Aj Af Ad) ?_
   obtain ⟨x3,g3,hz⟩:=bnd hz
   refine vk (Ae (AC g3) Tryz.call19) ?_;refine vk (vnt) ?_;refine vk (Ah) ?_;refine RL.gk [2,3,4,5,19] ?_;refine .nil ?_
   cases hz
   exact jr () trivial
  have hb0:(!x1)=true:=(ntt (bf hc))
  refine vk (VOK.lit (Aa) hb0) ?_;refine gf ?_;refine gf ?_;refine gf ?_;refine vk (Ah) ?_;refine RL.gk [2,3,4,5,19] ?_;refine .nil ?_
  cases hz
  exact jr () trivial
 rintro _ _
 rcases brc h with ⟨hc,h⟩|⟨hc,h⟩
 ·refine cnt hc ?_
  refine .sr ?_;refine vk (vbd Bq AG AH) ?_
  refine stn ?_ Ad (by decide)
  refine ar [2,3,4,5] ?_;refine .ret ?_
  cases h
  exact ⟨_,_,⟨.inr rfl,Af,Ad,p3⟩,rfl,rfl⟩
 refine cnf (bf hc) ?_;refine .skip ?_
 show AW _ _ _ _ _ _
 refine .seq ?_;refine .seq ?_
 obtain ⟨x4,g4,h⟩:=bnd h
 obtain ⟨z4,hz,h⟩:=bnd h
 refine AW.mr (σ:=Unit) (fun _=>True) (fun _=>[(2,.d (.ptr [.b a0.1,.sl (L a0.2.1),.sl (L a0.2.2)])),(3,.d (.ptr [.b a1.1,.sl (L a1.2.1),.sl (L a1.2.2)])),(4,.nb [.b false,.sl (L []),.sl (L [])]),(5,.d (.i .i64 0)),(28,.d (.b z4))]) (fun _=>[]) ?_ ?_
 ·skip
  refine .region ?_;refine vk (Aj Af Ad) ?_;refine vk (Ae (GT g4) Tryz.call130) ?_;refine vk (vnt) ?_
  rcases brc hz with ⟨hc,hz⟩|⟨hc,hz⟩
  ·have hb0:(!x4)=false:=(ntf hc)
   refine vk (VOK.lit (Aa) hb0) ?_;refine vk (Aj Af Ad) ?_
   obtain ⟨x6,g6,hz⟩:=bnd hz
   refine vk (Ae (GT g6) Tryz.call130) ?_;refine vk (vnt) ?_;refine vk (Ah) ?_;refine RL.gk [2,3,4,5,28] ?_;refine .nil ?_
   cases hz
   exact jr () trivial
  have hb0:(!x4)=true:=(ntt (bf hc))
  refine vk (VOK.lit (Aa) hb0) ?_;refine gf ?_;refine gf ?_;refine gf ?_;refine vk (Ah) ?_;refine RL.gk [2,3,4,5,28] ?_;refine .nil ?_
  cases hz
  exact jr () trivial
 rintro _ _
 rcases brc h with ⟨hc,h⟩|⟨hc,h⟩
 ·refine cnt hc ?_
  refine .sr ?_;refine vk (vbd Bq AG AH) ?_
  refine stn ?_ Ad (by decide)
  refine ar [2,3,4,5] ?_;refine .ret ?_
  cases h
  exact ⟨_,_,⟨.inr rfl,Af,Ad,p3⟩,rfl,rfl⟩
 refine cnf (bf hc) ?_;refine .skip ?_
 show AW _ _ _ _ _ _
 refine .sr ?_;refine vk (vfa AA) ?_;refine vk (Ak AQ) ?_;refine vk (vfa AA) ?_;refine vk (Ak AQ) ?_
 obtain ⟨x7,g7,h⟩:=bnd h
 refine vk (VOK.tupd (vs:=[.sl (L x7.1),.b x7.2]) (Ae (Hf g7) Tryz.call156)) ?_;refine vk (Aa) ?_;refine vk (vex) ?_;refine vk (vex) ?_;refine asd ?_;refine ar [2,3,4,5,6,7] ?_;refine .seq ?_;refine .sr ?_;refine vk (Aa) ?_;refine vk (vnt) ?_;refine rk [2,3,4,5,6,39] ?_
 rcases brc h with ⟨hc,h⟩|⟨hc,h⟩
 ·refine cnf (ntf hc) ?_
  refine .skip ?_
  show AW _ _ _ _ _ _
  refine .sr ?_;refine vk (vfa AA) ?_;refine vk (Ak AQ) ?_;refine ar [3,4,5,6,8] ?_;refine .seq ?_;refine .sr ?_;refine vk (Aa) ?_;refine vk (Aa) ?_
  obtain ⟨x8,g8,h⟩:=bnd h
  refine vk (Ae (CO g8) Tryz.call42) ?_;refine vk (vbi) ?_;refine rk [3,4,5,6,8,46] ?_
  rcases brc h with ⟨hc,h⟩|⟨hc,h⟩
  ·refine cnt (dT hc) ?_
   refine .region ?_;refine vk (Aa) ?_;refine ar [3,4,5,8] ?_;refine .sr ?_
   obtain ⟨x9,g9,h⟩:=bnd h
   refine vk ((Ae (Bk g9) Tryz.call44).deep) ?_;refine asd ?_;refine asn ?_;refine rk [3,4,5,8,9,10] ?_;refine .sr ?_;refine vk (vfa AA) ?_;refine vk (Ak AQ) ?_;refine ar [4,5,8,9,10,11] ?_
   obtain ⟨K0,hK0,h⟩:=Du h
   refine AW.mj (σ:=RT×Int×(List Nat)) (fun p=>K0 p.1 p.2.1 p.2.2=some r) (fun p=>[(4,.nb [.b p.1.1,.sl (L p.1.2.1),.sl (L p.1.2.2)]),(5,.d (.i .i64 p.2.1)),(9,.d (.sl (L p.2.2)))]) (fun p=>[]) ?_ ?_
   ·skip
    refine .block ?_;refine .gh (Gh.nlD (t:=10) rfl) ?_
    refine .loop (.gk [4,5,8,9,10,11] ?_)
    refine AL.ind (σ:=Nat×RT×Int×(List Nat)×(List Nat)×(List Nat)) (m:=fun p=>p.1) (e:=fun p=>[(4,.nb [.b p.2.1.1,.sl (L p.2.1.2.1),.sl (L p.2.1.2.2)]),(5,.d (.i .i64 p.2.2.1)),(8,.d (.sl (L x7.1))),(9,.d (.sl (L p.2.2.2.1))),(10,.d (.sl (L p.2.2.2.2.1))),(11,.d (.sl (L p.2.2.2.2.2)))]) (h:=fun p=>[]) (I:=fun p=>BX x7 K0 p.1 p.2.1 p.2.2.1 p.2.2.2.1 p.2.2.2.2.1 p.2.2.2.2.2=some r) ?_ (Cm,(false,[],[]),0,x9,[],a1.2.1) h
    rintro ⟨k,s13,s14,s15,s16,s17⟩ h ih
    dsimp only at h ih ⊢
    rcases k with _|k
    ·rw [BX] at h;cases h
    rw [BX] at h
    refine .seq ?_;refine .sr ?_;refine vk (Aa) ?_;refine vk (Aa) ?_
    obtain ⟨x18,g18,h⟩:=bnd h
    refine vk (Ae (CO g18) Tryz.call42) ?_;refine vk (vbi) ?_;refine rk [4,5,8,9,10,11,54] ?_
    rcases brc h with ⟨hc,h⟩|⟨hc,h⟩
    ·refine cnt (dT hc) ?_
     refine .skip ?_
     show AW _ _ _ _ _ _
     refine .block ?_;refine .sr ?_;refine vk (Aa) ?_
     obtain ⟨x19,g19,h⟩:=bnd h
     refine vk ((Ae (Bk g19) Tryz.call44).deep) ?_
     obtain ⟨x20,g20,h⟩:=bnd h
     refine vk ((Ae (LC g20) Tryz.call128).deep) ?_;refine ar [4,5,8,9,10,11] ?_;refine .sr ?_;refine vk (Aa) ?_;refine vk (Aa) ?_
     obtain ⟨x21,g21,h⟩:=bnd h
     refine vk ((Ae (Bn g21) Tryz.call126).deep) ?_;refine vk (Aa) ?_
     obtain ⟨x22,g22,h⟩:=bnd h
     refine vk (VOK.tupd (vs:=[.sl (L x22.1),.sl (L x22.2.1),.b x22.2.2]) (Ae (JD g22) Tryz.call127)) ?_;refine vk (Aa) ?_;refine vk (vex) ?_;refine vk (vex) ?_;refine vk (vex) ?_;refine ar [4,5,8,9,10,11] ?_;refine .sr ?_;refine vk (Aa) ?_
     obtain ⟨x23,g23,h⟩:=bnd h
     refine vk ((Ae (Bk g23) Tryz.call44).deep) ?_
     obtain ⟨x24,g24,h⟩:=bnd h
     refine vk (VOK.tupd (vs:=[.sl (L x24.1),.b x24.2]) (Ae (Hf g24) Tryz.call156)) ?_;refine vk (Aa) ?_;refine vk (vex) ?_;refine vk (vex) ?_;refine ar [4,5,8,9,10,11] ?_;refine .sr ?_;refine vk (Aa) ?_;refine vk (A7 (Ab _) (Ax _) B0) ?_;refine vk (vbi) ?_;refine rk [4,5,8,9,10,11,75] ?_
     rcases brc h with ⟨hc,h⟩|⟨hc,h⟩
     ·refine cnt (dT hc) ?_
      refine .sr ?_;refine vk (vbd Bq AG AH) ?_
      refine stn ?_ Ad (by decide)
      refine ar [4,5,8,9,10,11] ?_;refine .ret ?_
      cases h
      exact ⟨_,_,⟨.inr rfl,Af,Ad,p3⟩,rfl,rfl⟩
     refine cnf (dF hc) ?_;refine .gk [4,5,8,9,10,11] ?_;refine .skip ?_
     exact ih (k,s13,s14,x22.1,x20,x24.1) h (Nat.lt_succ_self _)
    refine cnf (dF hc) ?_;refine .gk [4,5,9] ?_;refine .exit ?_
    exact jr (s13,s14,s15) h
   rintro ⟨z10,z11,z12⟩ h
   try dsimp only at h ⊢
   subst hK0
   refine .sr ?_;refine vk (Aa) ?_
   obtain ⟨x25,g25,h⟩:=bnd h
   refine vk ((Ae (Bk g25) Tryz.call44).deep) ?_
   obtain ⟨x26,g26,h⟩:=bnd h
   refine vk (VOK.tupd (vs:=[.ag [.b x26.1.1,.sl (L x26.1.2.1),.sl (L x26.1.2.2)],.i .i64 x26.2]) (Ae (Dg g26) Tryz.call125)) ?_;refine vk (vex) ?_;refine vk (vex) ?_
   refine stn ?_ Ad (by decide)
   refine ar [4,5] ?_;refine .ret ?_
   cases h
   exact ⟨_,_,⟨.inr rfl,Af,Ad,p3⟩,rfl,rfl⟩
  refine cnf (dF hc) ?_;refine .skip ?_
  show AW _ _ _ _ _ _
  refine .sr ?_
  obtain ⟨x27,g27,h⟩:=bnd h
  refine vk ((Ae (Bk g27) Tryz.call44).deep) ?_;refine asd ?_;refine asn ?_;refine rk [3,4,5,8,9,10] ?_;refine .sr ?_;refine vk (vfa AA) ?_;refine vk (Ak AQ) ?_;refine ar [4,5,8,9,10,11] ?_
  obtain ⟨K2,hK2,h⟩:=Du h
  refine AW.mj (σ:=RT×Int×(List Nat)) (fun p=>K2 p.1 p.2.1 p.2.2=some r) (fun p=>[(4,.nb [.b p.1.1,.sl (L p.1.2.1),.sl (L p.1.2.2)]),(5,.d (.i .i64 p.2.1)),(9,.d (.sl (L p.2.2)))]) (fun p=>[]) ?_ ?_
  ·skip
   refine .block ?_;refine .gh (Gh.nlD (t:=10) rfl) ?_
   refine .loop (.gk [4,5,8,9,10,11] ?_)
   refine AL.ind (σ:=Nat×RT×Int×(List Nat)×(List Nat)×(List Nat)) (m:=fun p=>p.1) (e:=fun p=>[(4,.nb [.b p.2.1.1,.sl (L p.2.1.2.1),.sl (L p.2.1.2.2)]),(5,.d (.i .i64 p.2.2.1)),(8,.d (.sl (L a0.2.1))),(9,.d (.sl (L p.2.2.2.1))),(10,.d (.sl (L p.2.2.2.2.1))),(11,.d (.sl (L p.2.2.2.2.2)))]) (h:=fun p=>[]) (I:=fun p=>AY a0 K2 p.1 p.2.1 p.2.2.1 p.2.2.2.1 p.2.2.2.2.1 p.2.2.2.2.2=some r) ?_ (Cm,(false,[],[]),0,x27,[],a1.2.1) h
   rintro ⟨k,s31,s32,s33,s34,s35⟩ h ih
   dsimp only at h ih ⊢
   rcases k with _|k
   ·rw [AY] at h;cases h
   rw [AY] at h
   refine .seq ?_;refine .sr ?_;refine vk (Aa) ?_;refine vk (Aa) ?_
   obtain ⟨x36,g36,h⟩:=bnd h
   refine vk (Ae (CO g36) Tryz.call42) ?_;refine vk (vbi) ?_;refine rk [4,5,8,9,10,11,54] ?_
   rcases brc h with ⟨hc,h⟩|⟨hc,h⟩
   ·refine cnt (dT hc) ?_
    refine .skip ?_
    show AW _ _ _ _ _ _
    refine .block ?_;refine .sr ?_;refine vk (Aa) ?_
    obtain ⟨x37,g37,h⟩:=bnd h
    refine vk ((Ae (Bk g37) Tryz.call44).deep) ?_
    obtain ⟨x38,g38,h⟩:=bnd h
    refine vk ((Ae (LC g38) Tryz.call128).deep) ?_;refine ar [4,5,8,9,10,11] ?_;refine .sr ?_;refine vk (Aa) ?_;refine vk (Aa) ?_
    obtain ⟨x39,g39,h⟩:=bnd h
    refine vk ((Ae (Bn g39) Tryz.call126).deep) ?_;refine vk (Aa) ?_
    obtain ⟨x40,g40,h⟩:=bnd h
    refine vk (VOK.tupd (vs:=[.sl (L x40.1),.sl (L x40.2.1),.b x40.2.2]) (Ae (JD g40) Tryz.call127)) ?_;refine vk (Aa) ?_;refine vk (vex) ?_;refine vk (vex) ?_;refine vk (vex) ?_;refine ar [4,5,8,9,10,11] ?_;refine .sr ?_;refine vk (Aa) ?_
    obtain ⟨x41,g41,h⟩:=bnd h
    refine vk ((Ae (Bk g41) Tryz.call44).deep) ?_
    obtain ⟨x42,g42,h⟩:=bnd h
    refine vk (VOK.tupd (vs:=[.sl (L x42.1),.b x42.2]) (Ae (Hf g42) Tryz.call156)) ?_;refine vk (Aa) ?_;refine vk (vex) ?_;refine vk (vex) ?_;refine ar [4,5,8,9,10,11] ?_;refine .sr ?_;refine vk (Aa) ?_;refine vk (A7 (Ab _) (Ax _) B0) ?_;refine vk (vbi) ?_;refine rk [4,5,8,9,10,11,75] ?_
    rcases brc h with ⟨hc,h⟩|⟨hc,h⟩
    ·refine cnt (dT hc) ?_
     refine .sr ?_;refine vk (vbd Bq AG AH) ?_
     refine stn ?_ Ad (by decide)
     refine ar [4,5,8,9,10,11] ?_;refine .ret ?_
     cases h
     exact ⟨_,_,⟨.inr rfl,Af,Ad,p3⟩,rfl,rfl⟩
    refine cnf (dF hc) ?_;refine .gk [4,5,8,9,10,11] ?_;refine .skip ?_
    exact ih (k,s31,s32,x40.1,x38,x42.1) h (Nat.lt_succ_self _)
   refine cnf (dF hc) ?_;refine .gk [4,5,9] ?_;refine .exit ?_
   exact jr (s31,s32,s33) h
  rintro ⟨z28,z29,z30⟩ h
  try dsimp only at h ⊢
  subst hK2
  refine .sr ?_;refine vk (Aa) ?_
  obtain ⟨x43,g43,h⟩:=bnd h
  refine vk ((Ae (Bk g43) Tryz.call44).deep) ?_
  obtain ⟨x44,g44,h⟩:=bnd h
  refine vk (VOK.tupd (vs:=[.ag [.b x44.1.1,.sl (L x44.1.2.1),.sl (L x44.1.2.2)],.i .i64 x44.2]) (Ae (Dg g44) Tryz.call125)) ?_;refine vk (vex) ?_;refine vk (vex) ?_
  refine stn ?_ Ad (by decide)
  refine ar [4,5] ?_;refine .ret ?_
  cases h
  exact ⟨_,_,⟨.inr rfl,Af,Ad,p3⟩,rfl,rfl⟩
 refine cnt (ntt (bf hc)) ?_;refine .sr ?_
 obtain ⟨x45,g45,h⟩:=bnd h
 refine vk (Ae (Gf g45) Tryz.call33) ?_
 refine stn ?_ Ad (by decide)
 refine ar [2,3,4,5,6] ?_;refine .ret ?_
 cases h
 exact ⟨_,_,⟨.inr rfl,Af,Ad,p3⟩,rfl,rfl⟩
def Bt (a0:Bool) : Option (RT):=(if a0=true then ((B6 1).bind fun x1=>(some (x1))) else ((B6 0).bind fun x2=>(some (x2))))
theorem EQ {a0:Bool} {r:RT} (h:Bt a0=some r) :
  Fn Tryz.prog 91 [.b a0] (.d (.ag [.b r.1,.sl (L r.2.1),.sl (L r.2.2)])):=by
 unfold Bt at h
 refine Fn.ofC (rs:=[.cell 2 32]) (nt:=6) Tryz.func91 rfl rfl rfl (by simp) rfl ?_;refine .sr ?_;refine vk (van (Ai AG) AH) ?_;refine rk [0,2] ?_;refine .seq ?_;refine .sr ?_;refine vk (Aa) ?_;refine rk [2,3] ?_
 rcases brc h with ⟨hc,h⟩|⟨hc,h⟩
 ·refine cnt hc ?_
  refine .sr ?_
  obtain ⟨x1,g1,h⟩:=bnd h
  refine vk (Ae (BD g1) Tryz.call72) ?_
  refine stn ?_ Ad (by decide)
  refine rk [2] ?_;refine .ret ?_
  cases h
  exact ⟨_,⟨.inr rfl,Af,Ad,p3⟩,rfl⟩
 refine cnf (bf hc) ?_;refine .skip ?_
 show AW _ _ _ _ _ _
 refine .sr ?_
 obtain ⟨x2,g2,h⟩:=bnd h
 refine vk (Ae (BD g2) Tryz.call72) ?_
 refine stn ?_ Ad (by decide)
 refine rk [2] ?_;refine .ret ?_
 cases h
 exact ⟨_,⟨.inr rfl,Af,Ad,p3⟩,rfl⟩
def EU (a0:RT) : Option (Bool×Bool):=((JG a0).bind fun x1=>(some ((decide (x1.1=1)),(x1.2&&((decide (x1.1=0))||(decide (x1.1=1)))))))
theorem HL {a0:RT} {r:Bool×Bool} (h:EU a0=some r) :
  Fn Tryz.prog 90 [.ag [.b a0.1,.sl (L a0.2.1),.sl (L a0.2.2)]] (.tup [.d (.b r.1),.d (.b r.2)]):=by
 unfold EU at h
 refine Fn.of (rs:=[.tmp 2,.tmp 3]) (nt:=22) Tryz.func90 rfl rfl rfl (by simp) rfl ?_;refine .sr ?_;refine vk (vbx) ?_;refine asd ?_;refine ar [1,2,3] ?_;refine .sr ?_;refine vk (Aj Af Ad) ?_
 obtain ⟨x1,g1,h⟩:=bnd h
 refine vk (VOK.tupd (vs:=[.i .i64 x1.1,.b x1.2]) (Ae (RE g1) Tryz.call171)) ?_;refine vk (Aa) ?_;refine vk (vex) ?_;refine vk (vex) ?_;refine asd ?_;refine ar [2,3,4,5] ?_;refine .seq ?_;refine AW.mr (σ:=Unit) (fun _=>True) (fun _=>[(2,.d (.b (decide (x1.1=1)))),(3,.d (.b (x1.2&&((decide (x1.1=0))||(decide (x1.1=1))))))]) (fun _=>[]) ?_ ?_
 ·skip
  refine .region ?_;refine vk (Aa) ?_;refine vk (vbi) ?_;refine vk (Aa) ?_
  by_cases hc:x1.2=true
  ·have hb0:x1.2=true:=hc
   refine vk (VOK.lit (Aa) hb0) ?_;refine vk (Aa) ?_;refine vk (vbi) ?_
   by_cases hc:x1.1=0
   ·have hb1:(decide (x1.1=0))=true:=(dT hc)
    refine vk (VOK.lit (Aa) hb1) ?_;refine gf ?_;refine gf ?_;refine vk (Ah) ?_;refine vk (Ah) ?_;refine asd ?_;refine asd ?_;refine RL.gk [2,3] ?_;refine .nil ?_
    exact jr () trivial (by simp only [hb0,hb1];rfl)
   have hb1:(decide (x1.1=0))=false:=(dF hc)
   refine vk (VOK.lit (Aa) hb1) ?_;refine vk (Aa) ?_;refine vk (vbi) ?_;refine vk (Ah) ?_;refine vk (Ah) ?_;refine asd ?_;refine asd ?_;refine RL.gk [2,3] ?_;refine .nil ?_
   exact jr () trivial (by simp only [hb0,hb1];rfl)
  have hb0:x1.2=false:=(bf hc)
  refine vk (VOK.lit (Aa) hb0) ?_;refine gf ?_;refine gf ?_;refine gfu ?_;refine gf ?_;refine gf ?_;refine gf ?_;refine vk (Ah) ?_;refine asd ?_;refine asd ?_;refine RL.gk [2,3] ?_;refine .nil ?_
  exact jr () trivial (by simp only [hb0];rfl)
 rintro _ _
 refine .ret ?_
 cases h
 exact ⟨by decide,rfl,rfl,rfl⟩
def DN (a0:RT) : Option (RT×Int):=((My ([a0])).bind fun x1=>(some (x1.1,x1.2)))
theorem GP {a0:RT} {r:RT×Int} (h:DN a0=some r) :
  Fn Tryz.prog 78 [.ag [.b a0.1,.sl (L a0.2.1),.sl (L a0.2.2)]] (.tup [.d (.ag [.b r.1.1,.sl (L r.1.2.1),.sl (L r.1.2.2)]),.d (.i .i64 r.2)]):=by
 unfold DN at h
 refine Fn.ofC (rs:=[.cell 2 32,.tmp 3]) (nt:=9) Tryz.func78 rfl rfl rfl (by simp) rfl ?_;refine .sr ?_;refine vk (vbx) ?_;refine vk (van (Ai AG) AH) ?_;refine ar [1,2,3] ?_;refine .sr ?_;refine vk (Aj Af Ad) ?_;refine vk ((Fr (Dy [a0]) Gj).deep) ?_
 obtain ⟨x1,g1,h⟩:=bnd h
 refine vk (VOK.tupd (vs:=[.ag [.b x1.1.1,.sl (L x1.1.2.1),.sl (L x1.1.2.2)],.i .i64 x1.2]) (Ae (O0 g1) Tryz.call133)) ?_;refine vk (vex) ?_;refine vk (vex) ?_
 refine stn ?_ Ad (by decide)
 refine ar [2,3] ?_;refine .ret ?_
 cases h
 exact ⟨_,_,⟨.inr rfl,Af,Ad,p3⟩,rfl,rfl⟩
def Gc (a0:RT) : Option (RT×Int):=((D5 a0).bind fun x1=>(if x1=0 then ((B6 1).bind fun x2=>(some (x2,0))) else (some ((false,[],[]),3))))
theorem NH {a0:RT} {r:RT×Int} (h:Gc a0=some r) :
  Fn Tryz.prog 84 [.ag [.b a0.1,.sl (L a0.2.1),.sl (L a0.2.2)]] (.tup [.d (.ag [.b r.1.1,.sl (L r.1.2.1),.sl (L r.1.2.2)]),.d (.i .i64 r.2)]):=by
 unfold Gc at h
 refine Fn.ofC (rs:=[.cell 2 32,.tmp 3]) (nt:=9) Tryz.func84 rfl rfl rfl (by simp) rfl ?_;refine .sr ?_;refine vk (vbx) ?_;refine vk (van (Ai AG) AH) ?_;refine ar [1,2,3] ?_;refine .seq ?_;refine .sr ?_;refine vk (Aj Af Ad) ?_
 obtain ⟨x1,g1,h⟩:=bnd h
 refine vk (Ae (F7 g1) Tryz.call86) ?_;refine vk (vbi) ?_;refine rk [2,3,6] ?_
 rcases brc h with ⟨hc,h⟩|⟨hc,h⟩
 ·refine cnf (ntf (dT hc)) ?_
  refine .skip ?_
  show AW _ _ _ _ _ _
  refine .sr ?_
  obtain ⟨x2,g2,h⟩:=bnd h
  refine vk (Ae (BD g2) Tryz.call72) ?_
  refine stn ?_ Ad (by decide)
  refine ar [2,3] ?_;refine .ret ?_
  cases h
  exact ⟨_,_,⟨.inr rfl,Af,Ad,p3⟩,rfl,rfl⟩
 refine cnt (ntt (dF hc)) ?_;refine .sr ?_;refine vk (vbd Bq AG AH) ?_
 refine stn ?_ Ad (by decide)
 refine ar [2,3] ?_;refine .ret ?_
 cases h
 exact ⟨_,_,⟨.inr rfl,Af,Ad,p3⟩,rfl,rfl⟩
def Ez (a0:RT) : Option (RT×Int):=((D5 a0).bind fun x1=>((B6 x1).bind fun x2=>(some (x2,0))))
theorem LP {a0:RT} {r:RT×Int} (h:Ez a0=some r) :
  Fn Tryz.prog 85 [.ag [.b a0.1,.sl (L a0.2.1),.sl (L a0.2.2)]] (.tup [.d (.ag [.b r.1.1,.sl (L r.1.2.1),.sl (L r.1.2.2)]),.d (.i .i64 r.2)]):=by
 unfold Ez at h
 refine Fn.ofC (rs:=[.cell 2 32,.tmp 3]) (nt:=7) Tryz.func85 rfl rfl rfl (by simp) rfl ?_;refine .sr ?_;refine vk (vbx) ?_;refine vk (van (Ai AG) AH) ?_;refine ar [1,2,3] ?_;refine .sr ?_;refine vk (Aj Af Ad) ?_
 obtain ⟨x1,g1,h⟩:=bnd h
 refine vk (Ae (F7 g1) Tryz.call86) ?_
 obtain ⟨x2,g2,h⟩:=bnd h
 refine vk (Ae (BD g2) Tryz.call72) ?_
 refine stn ?_ Ad (by decide)
 refine ar [2,3] ?_;refine .ret ?_
 cases h
 exact ⟨_,_,⟨.inr rfl,Af,Ad,p3⟩,rfl,rfl⟩
def Et (a0:RT) : Option (RT×Int):=((D5 a0).bind fun x1=>(if x1=0 then (some ((false,[],[]),3)) else ((B6 1).bind fun x2=>((Iu x2 a0).bind fun x3=>(some (x3.1,x3.2))))))
theorem Mo {a0:RT} {r:RT×Int} (h:Et a0=some r) :
  Fn Tryz.prog 87 [.ag [.b a0.1,.sl (L a0.2.1),.sl (L a0.2.2)]] (.tup [.d (.ag [.b r.1.1,.sl (L r.1.2.1),.sl (L r.1.2.2)]),.d (.i .i64 r.2)]):=by
 unfold Et at h
 refine Fn.ofC (rs:=[.cell 2 32,.tmp 3]) (nt:=13) Tryz.func87 rfl rfl rfl (by simp) rfl ?_;refine .sr ?_;refine vk (vbx) ?_;refine vk (van (Ai AG) AH) ?_;refine ar [1,2,3] ?_;refine .seq ?_;refine .sr ?_;refine vk (Aj Af Ad) ?_
 obtain ⟨x1,g1,h⟩:=bnd h
 refine vk (Ae (F7 g1) Tryz.call86) ?_;refine vk (vbi) ?_;refine rk [1,2,3,6] ?_
 rcases brc h with ⟨hc,h⟩|⟨hc,h⟩
 ·refine cnt (dT hc) ?_
  refine .sr ?_;refine vk (vbd Bq AG AH) ?_
  refine stn ?_ Ad (by decide)
  refine ar [1,2,3] ?_;refine .ret ?_
  cases h
  exact ⟨_,_,⟨.inr rfl,Af,Ad,p3⟩,rfl,rfl⟩
 refine cnf (dF hc) ?_;refine .skip ?_
 show AW _ _ _ _ _ _
 refine .seq ?_;refine .drawn 5 A4 (by kernel_rfl) ?_
 obtain ⟨x2,g2,h⟩:=bnd h
 refine dv (Ae (BD g2) Tryz.call72) ?_;refine dv (Aj Af Ad) ?_
 obtain ⟨x3,g3,h⟩:=bnd h
 refine dv (VOK.tupd (vs:=[.ag [.b x3.1.1,.sl (L x3.1.2.1),.sl (L x3.1.2.2)],.i .i64 x3.2]) (Ae (KL g3) Tryz.call88)) ?_;refine dv (vex) ?_;refine dv (vex) ?_;refine dz ?_
 refine stn ?_ Ad (by decide)
 refine ar [2,3] ?_;refine .ret ?_
 cases h
 exact ⟨_,_,⟨.inr rfl,Af,Ad,p3⟩,rfl,rfl⟩
def Ep (a0:RT) : Option (RT×Int):=((EU a0).bind fun x1=>(if x1.2=true then ((Bt (!x1.1)).bind fun x2=>(some (x2,0))) else (some ((false,[],[]),3))))
theorem Md {a0:RT} {r:RT×Int} (h:Ep a0=some r) :
  Fn Tryz.prog 89 [.ag [.b a0.1,.sl (L a0.2.1),.sl (L a0.2.2)]] (.tup [.d (.ag [.b r.1.1,.sl (L r.1.2.1),.sl (L r.1.2.2)]),.d (.i .i64 r.2)]):=by
 unfold Ep at h
 refine Fn.ofC (rs:=[.cell 2 32,.tmp 3]) (nt:=17) Tryz.func89 rfl rfl rfl (by simp) rfl ?_;refine .sr ?_;refine vk (vbx) ?_;refine vk (van (Ai AG) AH) ?_;refine ar [1,2,3] ?_;refine .sr ?_;refine vk (Aj Af Ad) ?_
 obtain ⟨x1,g1,h⟩:=bnd h
 refine vk (VOK.tupd (vs:=[.b x1.1,.b x1.2]) (Ae (HL g1) Tryz.call90)) ?_;refine vk (Aa) ?_;refine vk (vex) ?_;refine vk (vex) ?_;refine asd ?_;refine ar [2,3,4,5] ?_;refine .seq ?_;refine .sr ?_;refine vk (Aa) ?_;refine vk (vnt) ?_;refine rk [2,3,4,12] ?_
 rcases brc h with ⟨hc,h⟩|⟨hc,h⟩
 ·refine cnf (ntf hc) ?_
  refine .skip ?_
  show AW _ _ _ _ _ _
  refine .sr ?_;refine vk (Aa) ?_;refine vk (vnt) ?_
  obtain ⟨x2,g2,h⟩:=bnd h
  refine vk (Ae (EQ g2) Tryz.call91) ?_
  refine stn ?_ Ad (by decide)
  refine ar [2,3] ?_;refine .ret ?_
  cases h
  exact ⟨_,_,⟨.inr rfl,Af,Ad,p3⟩,rfl,rfl⟩
 refine cnt (ntt (bf hc)) ?_;refine .sr ?_;refine vk (vbd Bq AG AH) ?_
 refine stn ?_ Ad (by decide)
 refine ar [2,3,4] ?_;refine .ret ?_
 cases h
 exact ⟨_,_,⟨.inr rfl,Af,Ad,p3⟩,rfl,rfl⟩
def Ex (a0:RT) (a1:RT) : Option (RT×Int):=((My ([a0,a1])).bind fun x1=>(some (x1.1,x1.2)))
theorem Mw {a0:RT} {a1:RT} {r:RT×Int} (h:Ex a0 a1=some r) :
  Fn Tryz.prog 132 [.ag [.b a0.1,.sl (L a0.2.1),.sl (L a0.2.2)],.ag [.b a1.1,.sl (L a1.2.1),.sl (L a1.2.2)]] (.tup [.d (.ag [.b r.1.1,.sl (L r.1.2.1),.sl (L r.1.2.2)]),.d (.i .i64 r.2)]):=by
 unfold Ex at h
 refine Fn.ofC (rs:=[.cell 4 32,.tmp 5]) (nt:=12) Tryz.func132 rfl rfl rfl (by simp) rfl ?_;refine .sr ?_;refine vk (vbx) ?_;refine vk (vbx) ?_;refine vk (van (Ai AG) AH) ?_;refine ar [2,3,4,5] ?_;refine .sr ?_;refine vk (Aj Af Ad) ?_;refine vk (Aj Af Ad) ?_;refine vk ((Fr (Dy [a0,a1]) Gj).deep) ?_
 obtain ⟨x1,g1,h⟩:=bnd h
 refine vk (VOK.tupd (vs:=[.ag [.b x1.1.1,.sl (L x1.1.2.1),.sl (L x1.1.2.2)],.i .i64 x1.2]) (Ae (O0 g1) Tryz.call133)) ?_;refine vk (vex) ?_;refine vk (vex) ?_
 refine stn ?_ Ad (by decide)
 refine ar [4,5] ?_;refine .ret ?_
 cases h
 exact ⟨_,_,⟨.inr rfl,Af,Ad,p3⟩,rfl,rfl⟩
def Ey (a0:RT) (a1:RT) : Option (RT×Int):=((KE ([a0,a1])).bind fun x1=>(some (x1.1,x1.2)))
theorem L2 {a0:RT} {a1:RT} {r:RT×Int} (h:Ey a0 a1=some r) :
  Fn Tryz.prog 134 [.ag [.b a0.1,.sl (L a0.2.1),.sl (L a0.2.2)],.ag [.b a1.1,.sl (L a1.2.1),.sl (L a1.2.2)]] (.tup [.d (.ag [.b r.1.1,.sl (L r.1.2.1),.sl (L r.1.2.2)]),.d (.i .i64 r.2)]):=by
 unfold Ey at h
 refine Fn.ofC (rs:=[.cell 4 32,.tmp 5]) (nt:=12) Tryz.func134 rfl rfl rfl (by simp) rfl ?_;refine .sr ?_;refine vk (vbx) ?_;refine vk (vbx) ?_;refine vk (van (Ai AG) AH) ?_;refine ar [2,3,4,5] ?_;refine .sr ?_;refine vk (Aj Af Ad) ?_;refine vk (Aj Af Ad) ?_;refine vk ((Fr (Dy [a0,a1]) Gj).deep) ?_
 obtain ⟨x1,g1,h⟩:=bnd h
 refine vk (VOK.tupd (vs:=[.ag [.b x1.1.1,.sl (L x1.1.2.1),.sl (L x1.1.2.2)],.i .i64 x1.2]) (Ae (L9 g1) Tryz.call135)) ?_;refine vk (vex) ?_;refine vk (vex) ?_
 refine stn ?_ Ad (by decide)
 refine ar [4,5] ?_;refine .ret ?_
 cases h
 exact ⟨_,_,⟨.inr rfl,Af,Ad,p3⟩,rfl,rfl⟩
def HI (a0:Int) : Option (Bool):=(some ((decide (a0<0))))
theorem Mx {a0:Int} {r:Bool} (h:HI a0=some r) :
  Fn Tryz.prog 142 [.i .i64 a0] (.d (.b r)):=by
 unfold HI at h
 refine Fn.o1 2 5 Tryz.func142 ?_;refine .sr ?_;refine ar [0,2] ?_;refine .sr ?_;refine vk (Aa) ?_;refine vk (vbi) ?_;refine ar [2] ?_;refine .ret ?_
 cases h
 exact ⟨rfl,rfl⟩
def HT (a0:Int) : Option (Bool):=(some ((decide (a0≤0))))
theorem L8 {a0:Int} {r:Bool} (h:HT a0=some r) :
  Fn Tryz.prog 143 [.i .i64 a0] (.d (.b r)):=by
 unfold HT at h
 refine Fn.o1 2 5 Tryz.func143 ?_;refine .sr ?_;refine ar [0,2] ?_;refine .sr ?_;refine vk (Aa) ?_;refine vk (vbi) ?_;refine ar [2] ?_;refine .ret ?_
 cases h
 exact ⟨rfl,rfl⟩
def HU (a0:Int) : Option (Bool):=(some ((decide (a0=0))))
theorem L4 {a0:Int} {r:Bool} (h:HU a0=some r) :
  Fn Tryz.prog 144 [.i .i64 a0] (.d (.b r)):=by
 unfold HU at h
 refine Fn.o1 2 5 Tryz.func144 ?_;refine .sr ?_;refine ar [0,2] ?_;refine .sr ?_;refine vk (Aa) ?_;refine vk (vbi) ?_;refine ar [2] ?_;refine .ret ?_
 cases h
 exact ⟨rfl,rfl⟩
def HS (a0:Int) : Option (Bool):=(some ((decide (0≤a0))))
theorem LU {a0:Int} {r:Bool} (h:HS a0=some r) :
  Fn Tryz.prog 145 [.i .i64 a0] (.d (.b r)):=by
 unfold HS at h
 refine Fn.o1 2 5 Tryz.func145 ?_;refine .sr ?_;refine ar [0,2] ?_;refine .sr ?_;refine vk (Aa) ?_;refine vk (vbi) ?_;refine ar [2] ?_;refine .ret ?_
 cases h
 exact ⟨rfl,rfl⟩
def HE (a0:Int) : Option (Bool):=(some ((decide (0<a0))))
theorem L7 {a0:Int} {r:Bool} (h:HE a0=some r) :
  Fn Tryz.prog 146 [.i .i64 a0] (.d (.b r)):=by
 unfold HE at h
 refine Fn.o1 2 5 Tryz.func146 ?_;refine .sr ?_;refine ar [0,2] ?_;refine .sr ?_;refine vk (Aa) ?_;refine vk (vbi) ?_;refine ar [2] ?_;refine .ret ?_
 cases h
 exact ⟨rfl,rfl⟩
def HK (a0:Int) : Option (Bool):=(some ((!(decide (a0=0)))))
theorem Ml {a0:Int} {r:Bool} (h:HK a0=some r) :
  Fn Tryz.prog 147 [.i .i64 a0] (.d (.b r)):=by
 unfold HK at h
 refine Fn.o1 2 5 Tryz.func147 ?_;refine .sr ?_;refine ar [0,2] ?_;refine .sr ?_;refine vk (Aa) ?_;refine vk (vbi) ?_;refine ar [2] ?_;refine .ret ?_
 cases h
 exact ⟨rfl,rfl⟩
def HH (a0:Bool) (a1:Bool) : Option (Bool):=(some ((a0&&a1)))
theorem L1 {a0:Bool} {a1:Bool} {r:Bool} (h:HH a0 a1=some r) :
  Fn Tryz.prog 149 [.b a0,.b a1] (.d (.b r)):=by
 unfold HH at h
 refine Fn.o1 4 9 Tryz.func149 ?_;refine .sr ?_;refine ar [0,1,4] ?_;refine .seq ?_;refine AW.mr (σ:=Unit) (fun _=>True) (fun _=>[(4,.d (.b (a0&&a1)))]) (fun _=>[]) ?_ ?_
 ·skip
  refine .region ?_;refine vk (Aa) ?_
  by_cases hc:a0=true
  ·have hb0:a0=true:=hc
   refine vk (VOK.lit (Aa) hb0) ?_;refine vk (Aa) ?_;refine vk (Ah) ?_;refine asd ?_;refine RL.gk [4] ?_;refine .nil ?_
   exact jr () trivial (by simp only [hb0];rfl)
  have hb0:a0=false:=(bf hc)
  refine vk (VOK.lit (Aa) hb0) ?_;refine gf ?_;refine vk (Ah) ?_;refine asd ?_;refine RL.gk [4] ?_;refine .nil ?_
  exact jr () trivial (by simp only [hb0];rfl)
 rintro _ _
 refine .ret ?_
 cases h
 exact ⟨rfl,rfl⟩
def GR (a0:Bool) (a1:Bool) : Option (Bool):=(some ((a0||a1)))
theorem KU {a0:Bool} {a1:Bool} {r:Bool} (h:GR a0 a1=some r) :
  Fn Tryz.prog 150 [.b a0,.b a1] (.d (.b r)):=by
 unfold GR at h
 refine Fn.o1 4 9 Tryz.func150 ?_;refine .sr ?_;refine ar [0,1,4] ?_;refine .seq ?_;refine AW.mr (σ:=Unit) (fun _=>True) (fun _=>[(4,.d (.b (a0||a1)))]) (fun _=>[]) ?_ ?_
 ·skip
  refine .region ?_;refine vk (Aa) ?_
  by_cases hc:a0=true
  ·have hb0:a0=true:=hc
   refine vk (VOK.lit (Aa) hb0) ?_;refine gf ?_;refine vk (Ah) ?_;refine asd ?_;refine RL.gk [4] ?_;refine .nil ?_
   exact jr () trivial (by simp only [hb0];rfl)
  have hb0:a0=false:=(bf hc)
  refine vk (VOK.lit (Aa) hb0) ?_;refine vk (Aa) ?_;refine vk (Ah) ?_;refine asd ?_;refine RL.gk [4] ?_;refine .nil ?_
  exact jr () trivial (by simp only [hb0];rfl)
 rintro _ _
 refine .ret ?_
 cases h
 exact ⟨rfl,rfl⟩
def Hh (a0:Bool) (a1:Bool) : Option (Bool):=(some ((!a0||(!a1))))
theorem Lu {a0:Bool} {a1:Bool} {r:Bool} (h:Hh a0 a1=some r) :
  Fn Tryz.prog 151 [.b a0,.b a1] (.d (.b r)):=by
 unfold Hh at h
 refine Fn.o1 4 10 Tryz.func151 ?_;refine .sr ?_;refine ar [0,1,4] ?_;refine .seq ?_;refine AW.mr (σ:=Unit) (fun _=>True) (fun _=>[(4,.d (.b (!a0||(!a1))))]) (fun _=>[]) ?_ ?_
 ·skip
  refine .region ?_;refine vk (Aa) ?_
  by_cases hc:a0=true
  ·have hb0:a0=true:=hc
   refine vk (VOK.lit (Aa) hb0) ?_;refine vk (Aa) ?_;refine vk (Ah) ?_;refine vk (vnt) ?_;refine asd ?_;refine RL.gk [4] ?_;refine .nil ?_
   exact jr () trivial (by simp only [hb0];rfl)
  have hb0:a0=false:=(bf hc)
  refine vk (VOK.lit (Aa) hb0) ?_;refine gf ?_;refine vk (Ah) ?_;refine vk (vnt) ?_;refine asd ?_;refine RL.gk [4] ?_;refine .nil ?_
  exact jr () trivial (by simp only [hb0];rfl)
 rintro _ _
 refine .ret ?_
 cases h
 exact ⟨rfl,rfl⟩
def GO (a0:Bool) (a1:Bool) : Option (Bool):=(some ((!a0&&(!a1))))
theorem K9 {a0:Bool} {a1:Bool} {r:Bool} (h:GO a0 a1=some r) :
  Fn Tryz.prog 152 [.b a0,.b a1] (.d (.b r)):=by
 unfold GO at h
 refine Fn.o1 4 10 Tryz.func152 ?_;refine .sr ?_;refine ar [0,1,4] ?_;refine .seq ?_;refine AW.mr (σ:=Unit) (fun _=>True) (fun _=>[(4,.d (.b (!a0&&(!a1))))]) (fun _=>[]) ?_ ?_
 ·skip
  refine .region ?_;refine vk (Aa) ?_
  by_cases hc:a0=true
  ·have hb0:a0=true:=hc
   refine vk (VOK.lit (Aa) hb0) ?_;refine gf ?_;refine vk (Ah) ?_;refine vk (vnt) ?_;refine asd ?_;refine RL.gk [4] ?_;refine .nil ?_
   exact jr () trivial (by simp only [hb0];rfl)
  have hb0:a0=false:=(bf hc)
  refine vk (VOK.lit (Aa) hb0) ?_;refine vk (Aa) ?_;refine vk (Ah) ?_;refine vk (vnt) ?_;refine asd ?_;refine RL.gk [4] ?_;refine .nil ?_
  exact jr () trivial (by simp only [hb0];rfl)
 rintro _ _
 refine .ret ?_
 cases h
 exact ⟨rfl,rfl⟩
def Cy (a0:RT) (a1:RT) (c0:Int) : Option (RT×Int):=((Dh a0 a1).bind fun x1=>(if (w64 (c0 * x1))<0 then ((DN a1).bind fun x2=>(some (x2.1,x2.2))) else ((DN a0).bind fun x3=>(some (x3.1,x3.2)))))
theorem Gw {a0:RT} {a1:RT} {c0:Int} {r:RT×Int} (h:Cy a0 a1 c0=some r) :
  Fn Tryz.prog 210 [.ag [.b a0.1,.sl (L a0.2.1),.sl (L a0.2.2)],.ag [.b a1.1,.sl (L a1.2.1),.sl (L a1.2.2)],.ptr [.i .i64 c0]] (.tup [.d (.ag [.b r.1.1,.sl (L r.1.2.1),.sl (L r.1.2.2)]),.d (.i .i64 r.2)]):=by
 unfold Cy at h
 refine Fn.ofC (rs:=[.cell 5 32,.tmp 6]) (nt:=21) Tryz.func210 rfl rfl rfl (by simp) rfl ?_;refine .sr ?_;refine vk (vbx) ?_;refine vk (vbx) ?_;refine vk (van (Ai AG) AH) ?_;refine ar [2,3,4,5,6] ?_;refine .seq ?_;refine .seq ?_;refine .drawn 6 A4 (by kernel_rfl) ?_;refine dv (Ak Dl) ?_;refine dv (Aj Af Ad) ?_;refine dv (Aj Af Ad) ?_
 obtain ⟨x1,g1,h⟩:=bnd h
 refine dv (Ae (G0 g1) Tryz.call211) ?_;refine dv (vbi) ?_;refine dv (vbi) ?_;refine dz ?_;refine rk [3,4,5,6,12] ?_
 rcases brc h with ⟨hc,h⟩|⟨hc,h⟩
 ·refine cnt (dT hc) ?_
  refine .sr ?_;refine vk (Aj Af Ad) ?_
  obtain ⟨x2,g2,h⟩:=bnd h
  refine vk (VOK.tupd (vs:=[.ag [.b x2.1.1,.sl (L x2.1.2.1),.sl (L x2.1.2.2)],.i .i64 x2.2]) (Ae (GP g2) Tryz.call78)) ?_;refine vk (vex) ?_;refine vk (vex) ?_
  refine stn ?_ Ad (by decide)
  refine ar [3,5,6] ?_;refine .ret ?_
  cases h
  exact ⟨_,_,⟨.inr rfl,Af,Ad,p3⟩,rfl,rfl⟩
 refine cnf (dF hc) ?_;refine .skip ?_
 show AW _ _ _ _ _ _
 refine .sr ?_;refine vk (Aj Af Ad) ?_
 obtain ⟨x3,g3,h⟩:=bnd h
 refine vk (VOK.tupd (vs:=[.ag [.b x3.1.1,.sl (L x3.1.2.1),.sl (L x3.1.2.2)],.i .i64 x3.2]) (Ae (GP g3) Tryz.call78)) ?_;refine vk (vex) ?_;refine vk (vex) ?_
 refine stn ?_ Ad (by decide)
 refine ar [5,6] ?_;refine .ret ?_
 cases h
 exact ⟨_,_,⟨.inr rfl,Af,Ad,p3⟩,rfl,rfl⟩
def A6 (a0:RT) (a1:RT) (c0:BH) (c1:RT) : Option (RT×Int):=((Fj c1 a0 a1).bind fun x1=>((c0.g x1).bind fun x2=>((Bt x2).bind fun x3=>(some (x3,0)))))
theorem BF {a0:RT} {a1:RT} {c0:BH} {c1:RT} (oc0:II c0) {r:RT×Int} (h:A6 a0 a1 c0 c1=some r) :
  Fn Tryz.prog 212 [.ag [.b a0.1,.sl (L a0.2.1),.sl (L a0.2.2)],.ag [.b a1.1,.sl (L a1.2.1),.sl (L a1.2.2)],.ptr [c0.dv],.ptr [.b c1.1,.sl (L c1.2.1),.sl (L c1.2.2)]] (.tup [.d (.ag [.b r.1.1,.sl (L r.1.2.1),.sl (L r.1.2.2)]),.d (.i .i64 r.2)]):=by
 unfold A6 at h
 refine Fn.ofC (rs:=[.cell 6 32,.tmp 7]) (nt:=15) Tryz.func212 rfl rfl rfl (by simp) rfl ?_;refine .sr ?_;refine vk (vbx) ?_;refine vk (vbx) ?_;refine vk (van (Ai AG) AH) ?_;refine ar [2,3,4,5,6,7] ?_;refine .seq ?_;refine .drawn 7 A4 (by kernel_rfl) ?_;refine dv (Ak M4) ?_;refine dv (Aj Af Ad) ?_;refine dv (Aj Af Ad) ?_;refine dv (Aj Af Ad) ?_
 obtain ⟨x1,g1,h⟩:=bnd h
 refine dv (Ae (MR g1) Tryz.call213) ?_
 obtain ⟨x2,g2,h⟩:=bnd h
 refine dv (N4 (oc0 _ _ g2)) ?_
 obtain ⟨x3,g3,h⟩:=bnd h
 refine dv (Ae (EQ g3) Tryz.call91) ?_;refine dz ?_
 refine stn ?_ Ad (by decide)
 refine ar [6,7] ?_;refine .ret ?_
 cases h
 exact ⟨_,_,⟨.inr rfl,Af,Ad,p3⟩,rfl,rfl⟩
def BO (a0:RT) (a1:RT) (c0:Dq) : Option (RT×Int):=((EU a0).bind fun x1=>((EU a1).bind fun x2=>(if ((!x1.2)||(!x2.2))=true then (some ((false,[],[]),3)) else ((c0.g (x1.1,x2.1)).bind fun x3=>((Bt x3).bind fun x4=>(some (x4,0)))))))
theorem CX {a0:RT} {a1:RT} {c0:Dq} (oc0:KK c0) {r:RT×Int} (h:BO a0 a1 c0=some r) :
  Fn Tryz.prog 214 [.ag [.b a0.1,.sl (L a0.2.1),.sl (L a0.2.2)],.ag [.b a1.1,.sl (L a1.2.1),.sl (L a1.2.2)],.ptr [c0.dv]] (.tup [.d (.ag [.b r.1.1,.sl (L r.1.2.1),.sl (L r.1.2.2)]),.d (.i .i64 r.2)]):=by
 unfold BO at h
 refine Fn.ofC (rs:=[.cell 5 32,.tmp 6]) (nt:=33) Tryz.func214 rfl rfl rfl (by simp) rfl ?_;refine .sr ?_;refine vk (vbx) ?_;refine vk (vbx) ?_;refine vk (van (Ai AG) AH) ?_;refine ar [2,3,4,5,6] ?_;refine .sr ?_;refine vk (Aj Af Ad) ?_
 obtain ⟨x1,g1,h⟩:=bnd h
 refine vk (VOK.tupd (vs:=[.b x1.1,.b x1.2]) (Ae (HL g1) Tryz.call90)) ?_;refine vk (Aa) ?_;refine vk (vex) ?_;refine vk (vex) ?_;refine asd ?_;refine ar [2,4,5,6,7,8] ?_;refine .sr ?_;refine vk (Aj Af Ad) ?_
 obtain ⟨x2,g2,h⟩:=bnd h
 refine vk (VOK.tupd (vs:=[.b x2.1,.b x2.2]) (Ae (HL g2) Tryz.call90)) ?_;refine vk (Aa) ?_;refine vk (vex) ?_;refine vk (vex) ?_;refine asd ?_;refine ar [2,5,6,7,8,9,10] ?_;refine .seq ?_;refine .seq ?_;refine AW.mr (σ:=Unit) (fun _=>True) (fun _=>[(2,.d (.ptr [c0.dv])),(5,.nb [.b false,.sl (L []),.sl (L [])]),(6,.d (.i .i64 0)),(7,.d (.b x1.1)),(9,.d (.b x2.1)),(26,.d (.b ((!x1.2)||(!x2.2))))]) (fun _=>[]) ?_ ?_
 ·skip
  refine .region ?_;refine vk (Aa) ?_;refine vk (vnt) ?_
  by_cases hc:x1.2=true
  ·have hb0:(!x1.2)=false:=(ntf hc)
   refine vk (VOK.lit (Aa) hb0) ?_;refine vk (Aa) ?_;refine vk (vnt) ?_;refine vk (Ah) ?_;refine RL.gk [2,5,6,7,9,26] ?_;refine .nil ?_
   exact jr () trivial (by simp only [hb0];rfl)
  have hb0:(!x1.2)=true:=(ntt (bf hc))
  refine vk (VOK.lit (Aa) hb0) ?_;refine gf ?_;refine gf ?_;refine vk (Ah) ?_;refine RL.gk [2,5,6,7,9,26] ?_;refine .nil ?_
  exact jr () trivial (by simp only [hb0];rfl)
 rintro _ _
 rcases brc h with ⟨hc,h⟩|⟨hc,h⟩
 ·refine cnt hc ?_
  refine .sr ?_;refine vk (vbd Bq AG AH) ?_
  refine stn ?_ Ad (by decide)
  refine ar [2,5,6,7,9] ?_;refine .ret ?_
  cases h
  exact ⟨_,_,⟨.inr rfl,Af,Ad,p3⟩,rfl,rfl⟩
 refine cnf (bf hc) ?_;refine .skip ?_
 show AW _ _ _ _ _ _
 refine .sr ?_;refine vk (Ak Ja) ?_;refine vk (Aa) ?_;refine vk (Aa) ?_
 obtain ⟨x3,g3,h⟩:=bnd h
 refine vk (N4 (oc0 _ _ g3)) ?_
 obtain ⟨x4,g4,h⟩:=bnd h
 refine vk (Ae (EQ g4) Tryz.call91) ?_
 refine stn ?_ Ad (by decide)
 refine ar [5,6] ?_;refine .ret ?_
 cases h
 exact ⟨_,_,⟨.inr rfl,Af,Ad,p3⟩,rfl,rfl⟩
def EG (a0:RT) : Option (Itm):=(some ((Itm.mk 1 a0 0 [])))
theorem FH {a0:RT} {r:Itm} (h:EG a0=some r) :
  Fn Tryz.prog 94 [.ag [.b a0.1,.sl (L a0.2.1),.sl (L a0.2.2)]] (.d (.ag [.i .u8 r.kind,.b r.num.1,.sl (L r.num.2.1),.sl (L r.num.2.2),.i .i32 r.char,.sl (Ars r.box)])):=by
 unfold EG at h
 refine Fn.ofC (rs:=[.cell 2 83]) (nt:=5) Tryz.func94 rfl rfl rfl (by simp) rfl ?_;refine .sr ?_;refine vk (vbx) ?_;refine vk (van (Ai CE) CK) ?_;refine rk [1,2] ?_;refine .sr ?_;refine vk (Aj Af Ad) ?_;refine vk (vbd Jb CE CK) ?_
 refine stn ?_ AI (by decide)
 refine rk [2] ?_;refine .ret ?_
 cases h
 exact ⟨_,⟨.inr rfl,Bl,AI,p6⟩,rfl⟩
def Gm (a0:Arr) (a1:Arr) : Option ((List Int)×Int):=((EZ a0.shape).bind fun x1=>((EZ a1.shape).bind fun x2=>((CP a0.shape a1.shape).bind fun x3=>(if x3=true then (some (a0.shape,0)) else (if ((decide (x1.1=1))&&((!(decide (x2.1=1)))||(decide (((List.length a0.shape:Nat) : Int)<((List.length a1.shape:Nat) : Int)))))=true then (some (a1.shape,0)) else (if x2.1=1 then (some (a0.shape,0)) else (if ((List.length a0.shape:Nat) : Int)=((List.length a1.shape:Nat) : Int) then (some ([],5)) else (some ([],4)))))))))
theorem Ku {a0:Arr} {a1:Arr} {r:(List Int)×Int} (h:Gm a0 a1=some r) :
  Fn Tryz.prog 114 [.ag [.sl (Is a0.shape),.sl (Its a0.items)],.ag [.sl (Is a1.shape),.sl (Its a1.items)]] (.tup [.d (.sl (Is r.1)),.d (.i .i64 r.2)]):=by
 unfold Gm at h
 refine Fn.of (rs:=[.tmp 4,.tmp 5]) (nt:=61) Tryz.func114 rfl rfl rfl (by simp) rfl ?_;refine .sr ?_;refine vk (vbx) ?_;refine vk (vbx) ?_;refine asn ?_;refine ar [2,3,4,5] ?_;refine .sr ?_;refine vk (vfa BW) ?_;refine vk (Ak E9) ?_
 obtain ⟨x1,g1,h⟩:=bnd h
 refine vk (VOK.tupd (vs:=[.i .i64 x1.1,.i .i64 x1.2]) (Ae (EE g1) Tryz.call98)) ?_;refine vk (Aa) ?_;refine vk (vex) ?_;refine vk (vex) ?_;refine asd ?_;refine ar [2,3,4,5,6] ?_;refine .sr ?_;refine vk (vfa BW) ?_;refine vk (Ak E9) ?_
 obtain ⟨x2,g2,h⟩:=bnd h
 refine vk (VOK.tupd (vs:=[.i .i64 x2.1,.i .i64 x2.2]) (Ae (EE g2) Tryz.call98)) ?_;refine vk (Aa) ?_;refine vk (vex) ?_;refine vk (vex) ?_;refine asd ?_;refine ar [2,3,4,5,6,8] ?_;refine .seq ?_;refine .block ?_;refine .sr ?_;refine vk (vfa BW) ?_;refine vk (Ak E9) ?_;refine vk (vfa BW) ?_;refine vk (Ak E9) ?_
 obtain ⟨x3,g3,h⟩:=bnd h
 refine vk (Ae (E2 g3) Tryz.call109) ?_;refine ar [2,3,4,5,6,8,22] ?_
 rcases brc h with ⟨hc,h⟩|⟨hc,h⟩
 ·refine cnt hc ?_
  refine .sr ?_;refine vk (vfa BW) ?_;refine vk (Ak E9) ?_;refine asd ?_;refine ar [4,5] ?_;refine .ret ?_
  cases h
  exact ⟨by decide,rfl,rfl,rfl⟩
 refine cnf (bf hc) ?_;refine .seq ?_;refine AW.mr (σ:=Unit) (fun _=>True) (fun _=>[(2,.d (.ptr [.sl (Is a0.shape),.sl (Its a0.items)])),(3,.d (.ptr [.sl (Is a1.shape),.sl (Its a1.items)])),(4,.nl),(5,.d (.i .i64 0)),(8,.d (.i .i64 x2.1)),(30,.d (.b ((decide (x1.1=1))&&((!(decide (x2.1=1)))||(decide (((List.length a0.shape:Nat):Int)<((List.length a1.shape:Nat):Int)))))))]) (fun _=>[]) ?_ ?_
 ·skip
  refine .region ?_;refine vk (Aa) ?_;refine vk (vbi) ?_
  by_cases hc:x1.1=1
  ·have hb0:(decide (x1.1=1))=true:=(dT hc)
   refine vk (VOK.lit (Aa) hb0) ?_;refine vk (Aa) ?_;refine vk (vbi) ?_
   by_cases hc:x2.1=1
   ·have hb1:(!(decide (x2.1=1)))=false:=(ntf (dT hc))
    refine vk (VOK.lit (Aa) hb1) ?_;refine vk (vfa BW) ?_;refine vk (Ak E9) ?_;refine vk (A7 (BZ _) (HC _) Hm) ?_;refine vk (vfa BW) ?_;refine vk (Ak E9) ?_;refine vk (A7 (BZ _) (HC _) Hm) ?_;refine vk (vbi) ?_;refine vk (Ah) ?_;refine vk (Ah) ?_;refine asd ?_;refine RL.gk [2,3,4,5,8,30] ?_;refine .nil ?_
    exact jr () trivial (by simp only [hb0,hb1];rfl)
   have hb1:(!(decide (x2.1=1)))=true:=(ntt (dF hc))
   refine vk (VOK.lit (Aa) hb1) ?_;refine gf ?_;refine gf ?_;refine gf ?_;refine gf ?_;refine gf ?_;refine gf ?_;refine gf ?_;refine vk (Ah) ?_;refine vk (Ah) ?_;refine asd ?_;refine RL.gk [2,3,4,5,8,30] ?_;refine .nil ?_
   exact jr () trivial (by simp only [hb0,hb1];rfl)
  have hb0:(decide (x1.1=1))=false:=(dF hc)
  refine vk (VOK.lit (Aa) hb0) ?_;refine gf ?_;refine gf ?_;refine gfu ?_;refine gf ?_;refine gf ?_;refine gf ?_;refine gf ?_;refine gf ?_;refine gf ?_;refine gf ?_;refine gf ?_;refine vk (Ah) ?_;refine asd ?_;refine RL.gk [2,3,4,5,8,30] ?_;refine .nil ?_
  exact jr () trivial (by simp only [hb0];rfl)
 rintro _ _
 rcases brc h with ⟨hc,h⟩|⟨hc,h⟩
 ·refine cnt hc ?_
  refine .sr ?_;refine vk (vfa BW) ?_;refine vk (Ak E9) ?_;refine asd ?_;refine ar [4,5] ?_;refine .ret ?_
  cases h
  exact ⟨by decide,rfl,rfl,rfl⟩
 refine cnf (bf hc) ?_;refine .sr ?_;refine vk (Aa) ?_;refine vk (vbi) ?_;refine ar [2,3,4,5,48] ?_
 rcases brc h with ⟨hc,h⟩|⟨hc,h⟩
 ·refine cnt (dT hc) ?_
  refine .sr ?_;refine vk (vfa BW) ?_;refine vk (Ak E9) ?_;refine asd ?_;refine ar [4,5] ?_;refine .ret ?_
  cases h
  exact ⟨by decide,rfl,rfl,rfl⟩
 refine cnf (dF hc) ?_;refine .sr ?_;refine vk (vfa BW) ?_;refine vk (Ak E9) ?_;refine vk (A7 (BZ _) (HC _) Hm) ?_;refine vk (vfa BW) ?_;refine vk (Ak E9) ?_;refine vk (A7 (BZ _) (HC _) Hm) ?_;refine vk (vbi) ?_;refine ar [4,5,53] ?_
 rcases brc h with ⟨hc,h⟩|⟨hc,h⟩
 ·refine cnf (ntf (dT hc)) ?_
  refine .skip ?_
  show AW _ _ _ _ _ _
  refine .sr ?_;refine asn ?_;refine ar [4,5] ?_;refine .gh (Gh.nlD (t:=4) rfl) ?_;refine .ret ?_
  cases h
  exact ⟨by decide,rfl,rfl,rfl⟩
 refine cnt (ntt (dF hc)) ?_;refine .sr ?_;refine asn ?_;refine ar [4,5] ?_;refine .gh (Gh.nlD (t:=4) rfl) ?_;refine .ret ?_
 cases h
 exact ⟨by decide,rfl,rfl,rfl⟩
def Kp : List (Int×HQ):=[(43,⟨.fn 78 [] [],fun x=>DN x⟩),(45,⟨.fn 79 [] [],fun x=>LH x⟩),(8968,⟨.fn 80 [] [],fun x=>JO x⟩),(8970,⟨.fn 81 [] [],fun x=>GL x⟩),(124,⟨.fn 82 [] [],fun x=>Lv x⟩),(33,⟨.fn 83 [] [],fun x=>EJ x⟩),(42,⟨.fn 84 [] [],fun x=>Gc x⟩),(215,⟨.fn 85 [] [],fun x=>Ez x⟩),(247,⟨.fn 87 [] [],fun x=>Et x⟩),(126,⟨.fn 89 [] [],fun x=>Ep x⟩)]
theorem VE : (Kp.map (·.1)).Nodup:=by show List.Nodup [(43:Int),(45:Int),(8968:Int),(8970:Int),(124:Int),(33:Int),(42:Int),(215:Int),(247:Int),(126:Int)];decide
theorem U2 : ∀ p∈Kp,Kg p.2∧isF p.2.dv:=by
 intro p hp
 simp only [Kp,List.mem_cons,List.not_mem_nil,or_false] at hp
 rcases hp with rfl|rfl|rfl|rfl|rfl|rfl|rfl|rfl|rfl|rfl
 ·exact ⟨Cr Tryz.call78 (fun _ _ h=>GP h),_,_,_,rfl⟩
 ·exact ⟨Cr Tryz.call79 (fun _ _ h=>S5 h),_,_,_,rfl⟩
 ·exact ⟨Cr Tryz.call80 (fun _ _ h=>Rm h),_,_,_,rfl⟩
 ·exact ⟨Cr Tryz.call81 (fun _ _ h=>Lf h),_,_,_,rfl⟩
 ·exact ⟨Cr Tryz.call82 (fun _ _ h=>SZ h),_,_,_,rfl⟩
 ·exact ⟨Cr Tryz.call83 (fun _ _ h=>LV h),_,_,_,rfl⟩
 ·exact ⟨Cr Tryz.call84 (fun _ _ h=>NH h),_,_,_,rfl⟩
 ·exact ⟨Cr Tryz.call85 (fun _ _ h=>LP h),_,_,_,rfl⟩
 ·exact ⟨Cr Tryz.call87 (fun _ _ h=>Mo h),_,_,_,rfl⟩
 ·exact ⟨Cr Tryz.call89 (fun _ _ h=>Md h),_,_,_,rfl⟩
theorem VK {z:Int} {f:HQ} (h:Ew Kp z=some f) : Kg f∧isF f.dv:=U2 _ (Nj h)
theorem VW : Fn Tryz.prog 31 [] (.d (Yd .i32 Kp)):=X8
def Ig (c:RT) : List (Int×Aw):=[(43,⟨.fn 132 [] [],fun x=>Ex x.1 x.2⟩),(215,⟨.fn 134 [] [],fun x=>Ey x.1 x.2⟩),(45,⟨.fn 136 [] [],fun x=>Gx x.1 x.2⟩),(247,⟨.fn 88 [] [],fun x=>Iu x.1 x.2⟩),(124,⟨.fn 137 [] [],fun x=>FY x.1 x.2⟩),(42,⟨.fn 138 [] [],fun x=>HY x.1 x.2⟩),(33,⟨.fn 139 [] [],fun x=>Fq x.1 x.2⟩),(8968,⟨.fn 210 [] [.ptr [.i .i64 1]],fun x=>Cy x.1 x.2 1⟩),(8970,⟨.fn 210 [] [.ptr [.i .i64 (-1)]],fun x=>Cy x.1 x.2 (-1)⟩),(60,⟨.fn 212 [] [.ptr [.fn 142 [] []],.ptr [.b c.1,.sl (L c.2.1),.sl (L c.2.2)]],fun x=>A6 x.1 x.2 ⟨.fn 142 [] [],fun y=>HI y⟩ c⟩),(8804,⟨.fn 212 [] [.ptr [.fn 143 [] []],.ptr [.b c.1,.sl (L c.2.1),.sl (L c.2.2)]],fun x=>A6 x.1 x.2 ⟨.fn 143 [] [],fun y=>HT y⟩ c⟩),(61,⟨.fn 212 [] [.ptr [.fn 144 [] []],.ptr [.b c.1,.sl (L c.2.1),.sl (L c.2.2)]],fun x=>A6 x.1 x.2 ⟨.fn 144 [] [],fun y=>HU y⟩ c⟩),(8805,⟨.fn 212 [] [.ptr [.fn 145 [] []],.ptr [.b c.1,.sl (L c.2.1),.sl (L c.2.2)]],fun x=>A6 x.1 x.2 ⟨.fn 145 [] [],fun y=>HS y⟩ c⟩),(62,⟨.fn 212 [] [.ptr [.fn 146 [] []],.ptr [.b c.1,.sl (L c.2.1),.sl (L c.2.2)]],fun x=>A6 x.1 x.2 ⟨.fn 146 [] [],fun y=>HE y⟩ c⟩),(8800,⟨.fn 212 [] [.ptr [.fn 147 [] []],.ptr [.b c.1,.sl (L c.2.1),.sl (L c.2.2)]],fun x=>A6 x.1 x.2 ⟨.fn 147 [] [],fun y=>HK y⟩ c⟩),(8743,⟨.fn 214 [] [.ptr [.fn 149 [] []]],fun x=>BO x.1 x.2 ⟨.fn 149 [] [],fun y=>HH y.1 y.2⟩⟩),(8744,⟨.fn 214 [] [.ptr [.fn 150 [] []]],fun x=>BO x.1 x.2 ⟨.fn 150 [] [],fun y=>GR y.1 y.2⟩⟩),(9074,⟨.fn 214 [] [.ptr [.fn 151 [] []]],fun x=>BO x.1 x.2 ⟨.fn 151 [] [],fun y=>Hh y.1 y.2⟩⟩),(9073,⟨.fn 214 [] [.ptr [.fn 152 [] []]],fun x=>BO x.1 x.2 ⟨.fn 152 [] [],fun y=>GO y.1 y.2⟩⟩)]
theorem Ra (c:RT) : ((Ig c).map (·.1)).Nodup:=by show List.Nodup [(43:Int),(215:Int),(45:Int),(247:Int),(124:Int),(42:Int),(33:Int),(8968:Int),(8970:Int),(60:Int),(8804:Int),(61:Int),(8805:Int),(62:Int),(8800:Int),(8743:Int),(8744:Int),(9074:Int),(9073:Int)];decide
theorem U6 (c:RT) : ∀ p∈Ig c,Bo p.2∧isF p.2.dv:=by
 intro p hp
 simp only [Ig,List.mem_cons,List.not_mem_nil,or_false] at hp
 rcases hp with rfl|rfl|rfl|rfl|rfl|rfl|rfl|rfl|rfl|rfl|rfl|rfl|rfl|rfl|rfl|rfl|rfl|rfl|rfl
 ·exact ⟨Cr Tryz.call132 (fun _ _ h=>Mw h),_,_,_,rfl⟩
 ·exact ⟨Cr Tryz.call134 (fun _ _ h=>L2 h),_,_,_,rfl⟩
 ·exact ⟨Cr Tryz.call136 (fun _ _ h=>G6 h),_,_,_,rfl⟩
 ·exact ⟨Cr Tryz.call88 (fun _ _ h=>KL h),_,_,_,rfl⟩
 ·exact ⟨Cr Tryz.call137 (fun _ _ h=>Ou h),_,_,_,rfl⟩
 ·exact ⟨Cr Tryz.call138 (fun _ _ h=>Qh h),_,_,_,rfl⟩
 ·exact ⟨Cr Tryz.call139 (fun _ _ h=>MZ h),_,_,_,rfl⟩
 ·exact ⟨Cr Tryz.call210 (fun _ _ h=>Gw h),_,_,_,rfl⟩
 ·exact ⟨Cr Tryz.call210 (fun _ _ h=>Gw h),_,_,_,rfl⟩
 ·exact ⟨Cr Tryz.call212 (fun _ _ h=>BF (Cr Tryz.call142 (fun _ _ h=>Mx h)) h),_,_,_,rfl⟩
 ·exact ⟨Cr Tryz.call212 (fun _ _ h=>BF (Cr Tryz.call143 (fun _ _ h=>L8 h)) h),_,_,_,rfl⟩
 ·exact ⟨Cr Tryz.call212 (fun _ _ h=>BF (Cr Tryz.call144 (fun _ _ h=>L4 h)) h),_,_,_,rfl⟩
 ·exact ⟨Cr Tryz.call212 (fun _ _ h=>BF (Cr Tryz.call145 (fun _ _ h=>LU h)) h),_,_,_,rfl⟩
 ·exact ⟨Cr Tryz.call212 (fun _ _ h=>BF (Cr Tryz.call146 (fun _ _ h=>L7 h)) h),_,_,_,rfl⟩
 ·exact ⟨Cr Tryz.call212 (fun _ _ h=>BF (Cr Tryz.call147 (fun _ _ h=>Ml h)) h),_,_,_,rfl⟩
 ·exact ⟨Cr Tryz.call214 (fun _ _ h=>CX (Cr Tryz.call149 (fun _ _ h=>L1 h)) h),_,_,_,rfl⟩
 ·exact ⟨Cr Tryz.call214 (fun _ _ h=>CX (Cr Tryz.call150 (fun _ _ h=>KU h)) h),_,_,_,rfl⟩
 ·exact ⟨Cr Tryz.call214 (fun _ _ h=>CX (Cr Tryz.call151 (fun _ _ h=>Lu h)) h),_,_,_,rfl⟩
 ·exact ⟨Cr Tryz.call214 (fun _ _ h=>CX (Cr Tryz.call152 (fun _ _ h=>K9 h)) h),_,_,_,rfl⟩
theorem Ns {c:RT} {z:Int} {f:Aw} (h:Ew (Ig c) z=some f) : Bo f∧isF f.dv:=U6 c _ (Nj h)
theorem Ri {c:RT} : Fn Tryz.prog 59 [.ag [.b c.1,.sl (L c.2.1),.sl (L c.2.2)]] (.d (Yd .i32 (Ig c))):=XM
theorem Aac : ∀ w,(zeroValue 60).run Tryz.prog w=.ok .nilFunc w:=Ai (by kernel_rfl)
theorem YH : ∀ w,(zeroValue 73).run Tryz.prog w=.ok .nilFunc w:=Ai (by kernel_rfl)
def EV (a0:(Int×RT×Int)) (a1:Int) (a2:RT) : Option (RT×Int):=(SR (Ew Kp a1) (some ((false,[],[]),23)) fun f1=>((C9 a2).bind fun x2=>(if x2=true then ((f1.g a2).bind fun x3=>(some (x3.1,x3.2))) else (some ((false,[],[]),22)))))
theorem ON {a0:(Int×RT×Int)} {a1:Int} {a2:RT} {r:RT×Int} (h:EV a0 a1 a2=some r) :
  Fn Tryz.prog 21 [.ag [.i .i64 a0.1,.b a0.2.1.1,.sl (L a0.2.1.2.1),.sl (L a0.2.1.2.2),.i .i64 a0.2.2],.i .i32 a1,.ag [.b a2.1,.sl (L a2.2.1),.sl (L a2.2.2)]] (.tup [.d (.ag [.b r.1.1,.sl (L r.1.2.1),.sl (L r.1.2.2)]),.d (.i .i64 r.2)]):=by
 unfold EV at h
 refine Fn.ofC (rs:=[.cell 6 32,.tmp 7]) (nt:=26) Tryz.func21 rfl rfl rfl (by simp) rfl ?_;refine .sr ?_;refine vk (vbx) ?_;refine vk (vbx) ?_;refine vk (van (Ai AG) AH) ?_;refine ar [1,5,6,7] ?_;refine .sr ?_;refine vk (Ae VW Tryz.call31) ?_;refine vk (Aa) ?_
 rcases hmf1:(Ew Kp a1) with _|f1
 ·replace h:=QF hmf1 h
  refine vk (V1 I4 gkR Aac hmf1) ?_;refine ar [5,6,7,8] ?_;refine .seq ?_;refine .block ?_;refine .sr ?_;refine vk (Aa) ?_;refine vk (Zj HD) ?_;refine ar [5,6,7,8,12] ?_;refine AR ?_;refine .sr ?_;refine vk (vbd Bq AG AH) ?_
  refine stn ?_ Ad (by decide)
  refine ar [5,6,7,8] ?_;refine .ret ?_
  cases h
  exact ⟨_,_,⟨.inr rfl,Af,Ad,p3⟩,rfl,rfl⟩
 replace h:=Qu hmf1 h
 obtain ⟨of1,isf1⟩:=VK hmf1
 refine vk (Ww VE I4 gkR hmf1) ?_;refine ar [5,6,7,8] ?_;refine .seq ?_;refine .block ?_;refine .sr ?_;refine vk (Aa) ?_;refine vk (ZS HD isf1) ?_;refine ar [5,6,7,8,12] ?_;refine AS ?_;refine .sr ?_;refine vk (Aj Af Ad) ?_
 obtain ⟨x2,g2,h⟩:=bnd h
 refine vk (Ae (Ch g2) Tryz.call45) ?_;refine vk (vnt) ?_;refine ar [5,6,7,8,16] ?_
 rcases brc h with ⟨hc,h⟩|⟨hc,h⟩
 ·refine cnf (ntf hc) ?_
  refine .skip ?_
  show AW _ _ _ _ _ _
  refine .sr ?_;refine vk (Aa) ?_;refine vk (Aj Af Ad) ?_
  obtain ⟨x3,g3,h⟩:=bnd h
  refine vk (VOK.tupd (vs:=[.ag [.b x3.1.1,.sl (L x3.1.2.1),.sl (L x3.1.2.2)],.i .i64 x3.2]) (N4 (of1 _ _ g3))) ?_;refine vk (vex) ?_;refine vk (vex) ?_
  refine stn ?_ Ad (by decide)
  refine ar [6,7] ?_;refine .ret ?_
  cases h
  exact ⟨_,_,⟨.inr rfl,Af,Ad,p3⟩,rfl,rfl⟩
 refine cnt (ntt (bf hc)) ?_;refine .sr ?_;refine vk (vbd Bq AG AH) ?_
 refine stn ?_ Ad (by decide)
 refine ar [5,6,7,8] ?_;refine .ret ?_
 cases h
 exact ⟨_,_,⟨.inr rfl,Af,Ad,p3⟩,rfl,rfl⟩
def DS (a0:(Int×RT×Int)) (a1:Int) (a2:RT) (a3:RT) : Option (RT×Int):=(SR (Ew (Ig a0.2.1) a1) (some ((false,[],[]),23)) fun f1=>((C9 a0.2.1).bind fun x2=>(Option.bind ((if x2=true then ((C9 a2).bind fun x4=>(if x4=true then ((C9 a3).bind fun x5=>(some (!x5))) else (some true))) else (some true)) : Option (Bool)) fun (z2:Bool)=>(if z2=true then (some ((false,[],[]),22)) else ((f1.g (a2,a3)).bind fun x6=>(some (x6.1,x6.2)))))))
theorem OO {a0:(Int×RT×Int)} {a1:Int} {a2:RT} {a3:RT} {r:RT×Int} (h:DS a0 a1 a2 a3=some r) :
  Fn Tryz.prog 24 [.ag [.i .i64 a0.1,.b a0.2.1.1,.sl (L a0.2.1.2.1),.sl (L a0.2.1.2.2),.i .i64 a0.2.2],.i .i32 a1,.ag [.b a2.1,.sl (L a2.2.1),.sl (L a2.2.2)],.ag [.b a3.1,.sl (L a3.2.1),.sl (L a3.2.2)]] (.tup [.d (.ag [.b r.1.1,.sl (L r.1.2.1),.sl (L r.1.2.2)]),.d (.i .i64 r.2)]):=by
 unfold DS at h
 refine Fn.ofC (rs:=[.cell 8 32,.tmp 9]) (nt:=42) Tryz.func24 rfl rfl rfl (by simp) rfl ?_;refine .sr ?_;refine vk (vbx) ?_;refine vk (vbx) ?_;refine vk (vbx) ?_;refine vk (van (Ai AG) AH) ?_;refine ar [1,4,6,7,8,9] ?_;refine .sr ?_;refine vk (vfa LJ) ?_;refine vk (Aj Af Ad) ?_;refine vk (Ae Ri Tryz.call59) ?_;refine vk (Aa) ?_
 rcases hmf1:(Ew (Ig a0.2.1) a1) with _|f1
 ·replace h:=QF hmf1 h
  refine vk (V1 So gkR YH hmf1) ?_;refine ar [4,6,7,8,9,10] ?_;refine .seq ?_;refine .block ?_;refine .sr ?_;refine vk (Aa) ?_;refine vk (Zj CY) ?_;refine ar [4,6,7,8,9,10,16] ?_;refine AR ?_;refine .sr ?_;refine vk (vbd Bq AG AH) ?_
  refine stn ?_ Ad (by decide)
  refine ar [6,7,8,9,10] ?_;refine .ret ?_
  cases h
  exact ⟨_,_,⟨.inr rfl,Af,Ad,p3⟩,rfl,rfl⟩
 replace h:=Qu hmf1 h
 obtain ⟨of1,isf1⟩:=Ns hmf1
 refine vk (Ww (Ra _) So gkR hmf1) ?_;refine ar [4,6,7,8,9,10] ?_;refine .seq ?_;refine .block ?_;refine .sr ?_;refine vk (Aa) ?_;refine vk (ZS CY isf1) ?_;refine ar [4,6,7,8,9,10,16] ?_;refine AS ?_;refine .seq ?_
 obtain ⟨x2,g2,h⟩:=bnd h
 obtain ⟨z2,hz,h⟩:=bnd h
 refine AW.mr (σ:=Unit) (fun _=>True) (fun _=>[(6,.d (.ptr [.b a2.1,.sl (L a2.2.1),.sl (L a2.2.2)])),(7,.d (.ptr [.b a3.1,.sl (L a3.2.1),.sl (L a3.2.2)])),(8,.nb [.b false,.sl (L []),.sl (L [])]),(9,.d (.i .i64 0)),(10,.d (f1.dv)),(20,.d (.b z2))]) (fun _=>[]) ?_ ?_
 ·skip
  refine .region ?_;refine vk (vfa LJ) ?_;refine vk (Aj Af Ad) ?_;refine vk (Ae (Ch g2) Tryz.call45) ?_;refine vk (vnt) ?_
  rcases brc hz with ⟨hc,hz⟩|⟨hc,hz⟩
  ·have hb0:(!x2)=false:=(ntf hc)
   refine vk (VOK.lit (Aa) hb0) ?_;refine vk (Aj Af Ad) ?_
   obtain ⟨x4,g4,hz⟩:=bnd hz
   refine vk (Ae (Ch g4) Tryz.call45) ?_;refine vk (vnt) ?_;refine vk (Ah) ?_
   rcases brc hz with ⟨hc,hz⟩|⟨hc,hz⟩
   ·have hb1:(!x4)=false:=(ntf hc)
    refine vk (VOK.lit (Aa) hb1) ?_;refine vk (Aj Af Ad) ?_
    obtain ⟨x5,g5,hz⟩:=bnd hz
    refine vk (Ae (Ch g5) Tryz.call45) ?_;refine vk (vnt) ?_;refine vk (Ah) ?_;refine asd ?_;refine RL.gk [6,7,8,9,10,20] ?_;refine .nil ?_
    cases hz
    exact jr () trivial
   have hb1:(!x4)=true:=(ntt (bf hc))
   refine vk (VOK.lit (Aa) hb1) ?_;refine gf ?_;refine gf ?_;refine gf ?_;refine vk (Ah) ?_;refine asd ?_;refine RL.gk [6,7,8,9,10,20] ?_;refine .nil ?_
   cases hz
   exact jr () trivial
  have hb0:(!x2)=true:=(ntt (bf hc))
  refine vk (VOK.lit (Aa) hb0) ?_;refine gf ?_;refine gf ?_;refine gf ?_;refine vk (Ah) ?_;refine vk (Aa) ?_;refine gf ?_;refine gf ?_;refine gf ?_;refine vk (Ah) ?_;refine asd ?_;refine RL.gk [6,7,8,9,10,20] ?_;refine .nil ?_
  cases hz
  exact jr () trivial
 rintro _ _
 rcases brc h with ⟨hc,h⟩|⟨hc,h⟩
 ·refine cnt hc ?_
  refine .sr ?_;refine vk (vbd Bq AG AH) ?_
  refine stn ?_ Ad (by decide)
  refine ar [6,7,8,9,10] ?_;refine .ret ?_
  cases h
  exact ⟨_,_,⟨.inr rfl,Af,Ad,p3⟩,rfl,rfl⟩
 refine cnf (bf hc) ?_;refine .skip ?_
 show AW _ _ _ _ _ _
 refine .sr ?_;refine vk (Aa) ?_;refine vk (Aj Af Ad) ?_;refine vk (Aj Af Ad) ?_
 obtain ⟨x6,g6,h⟩:=bnd h
 refine vk (VOK.tupd (vs:=[.ag [.b x6.1.1,.sl (L x6.1.2.1),.sl (L x6.1.2.2)],.i .i64 x6.2]) (N4 (of1 _ _ g6))) ?_;refine vk (vex) ?_;refine vk (vex) ?_
 refine stn ?_ Ad (by decide)
 refine ar [8,9] ?_;refine .ret ?_
 cases h
 exact ⟨_,_,⟨.inr rfl,Af,Ad,p3⟩,rfl,rfl⟩
end Go.FL
namespace Go.FL
open Go Go.RowKit
section
variable {P:Program} {C:Cx} {X:Snap} {o:Oper} {ops:Array Oper} {Q:Exit→Env→Al→Prop} {env env':Env} {H H':Al} {a:Act} {w w':World} {I I':Nat→Prop} {μ μ':List Nat} {O O':Nat→Option Loc}
 {K:Env→Al→Prop} {k:Nat} {l:List Oper}
theorem SO {s t ty e sz by_:Nat} {hi:Operand} {ah:Option AO} {xs:List DV} {h:Int} (ho:o.op=.slice ty (.tmp s) none (some hi) none) (hfh:CJ (some hi) ah=true) (hd:o.dst=some t) (ht:okT C.nt t) (hty:CG P ty=some (e,sz,by_)) (hv:get env s=.own e xs)
  (hh:F4 env xs.length ah=some h) (h0:0≤h) (h1:h≤xs.length) (hK:K (put (put env s .un) t (.own e (xs.take h.toNat))) H):OpOK P C o env H K :=
 .val (by simp [ho]) hd ht (fun X a w I μ O _ _ _ hs=>by
  obtain ⟨inf,s1,s2,s3,_,s5⟩:=DO hty
  have b1:=hs.bound (x:=none) (ax:=none) rfl (dflt:=0) (n:=0) rfl
  have b2:=hs.bound hfh hh
  obtain ⟨q1,q2⟩:=hs.take s (by rw [hv];rfl)
  rw [hv] at q2
  have hform:∃ A c,a.tmps.getD s undef=.slice A xs.length c∧xs.length≤c∧A.map (·.add 0)=A:=by
   obtain ⟨bs,k1,_,_⟩:=q2
   generalize a.tmps.getD s undef=v at k1
   cases k1 with
   | own _ _ _ vs hsz hown hr =>
    rcases hown with ⟨A,rfl,hn,_⟩|⟨hr2,g,cap,rfl,hc⟩
    ·refine ⟨A,0,by rw [hn],by omega,?_⟩
     cases A<;>simp [Addr.add]
    ·refine ⟨some ⟨g,0,none⟩,cap,rfl,?_,by simp [Addr.add]⟩
     rcases hr2.2 with ⟨h2,h3⟩|⟨g',cap',cur,h2,_,_,h5,_⟩
     ·omega
     ·simp only [Value.slice.injEq] at h2
      omega
  obtain ⟨A,c,hval,hcap,hA⟩:=hform
  have e1:h≤(c:Int):=by omega
  have hb:=GU (P:=P) (w:=w) (isS:=true) (len:=xs.length) (cap:=c) (Int.le_refl 0) h0 b1 (b2.imp (fun ⟨x,y⟩=>⟨x,y,rfl⟩) fun h=>h) (m:=(c:Int)) (mx:=none) (.inl ⟨rfl,rfl⟩) e1 (Int.le_refl _)
  have hev:a.eval (.tmp s)=.slice A xs.length c:=hval
  refine ⟨.slice A h.toNat c,w,I,μ,_,?_,q1,?_⟩
  ·have hr:=QM s1 s2 hb (A:=A)
   simp only [Option.map_none,Option.map_some] at hr
   simp only [execOp,ho,hev,Sem.run_bind,Option.map_none,Option.map_some,hr,Result.andThen_ok,Sem.run_pure]
   have e2:(if (c:Int).toNat=(0:Int).toNat then A else A.map (·.add ((0:Int).toNat * inf.size)))=A:=by
    split
    ·rfl
    ·simpa using hA
   rw [e2];simp
  ·rw [hval] at q2
   exact q2.prefix_ (by omega)) hK
theorem slo {s t ty e sz by_:Nat} {hi:Operand} {xs:List DV} {z:Int} (k':Nat) (hz:z=k') (hle:k'≤xs.length) (h:RL P C ops Q (k+1) l ((t,.own e (xs.take k'))::(s,.un)::env) H) (hty:CG P ty=some (e,sz,by_)) (hg:grd ops env o true=true:=by rfl)
  (ho:o.op=.slice ty (.tmp s) none (some hi) none:=by rfl) (hv:get env s=.own e xs:=by rfl) (hh:F4 env xs.length (some (Eg hi))=some z:=by rfl) (hfh:CJ (some hi) (some (Eg hi))=true:=by rfl) (hd:o.dst=some t:=by rfl)
  (hf:Ao (get env t)=false:=by rfl) (hr:Dr s env=false:=by rfl) (ht:okT C.nt t:=by rfl):RL P C ops Q k (o::l) env H:=by
 subst hz
 have hst:=FK hv hf
 refine .go hg (SO ho hfh hd ht hty hv hh (by omega) (by omega) ?_)
 rw [Int.toNat_natCast]
 refine RL.gh (Gh.same fun r=>?_) h
 have h1:Ao (get (put env s .un) t)=false:=by rw [CC hr];simp [get,hst,hf]
 rw [Am h1]
 simp only [get]
 split
 ·rfl
 ·have:=CC (v:=.un) hr r
  simp only [get] at this
  exact this.symm
end
end Go.FL
namespace Go.FL
open Go Go.Proofs
def C1 (a1:CQ) (x1:Int×Int) (K0:Arr→Int→(List Itm)→Option (Arr×Int)) : Nat→Arr→Int→(List Itm)→Int→Option (Arr×Int)
 | 0,_,_,_,_=>none
 | k+1,s8,s9,s10,s11=>(if s11<x1.1 then ((a1.g s11).bind fun x12=>(if x12.2=0 then ((ap? 1466015503701 s10 [x12.1]).bind fun x13=>(C1 a1 x1 K0 k s8 s9 x13 (w64 (s11+1)))) else (some ((Arr.mk [] []),x12.2)))) else (K0 s8 s9 s10))
def HM (a0:(List Int)) (a1:CQ) : Option (Arr×Int):=((EZ a0).bind fun x1=>((B6 0).bind fun x2=>((EG x2).bind fun x3=>((Q8 (0≤(if (w64 (1-(if 1<x1.1 then 1 else x1.1)))<1 then (w64 (1-(if 1<x1.1 then 1 else x1.1))) else 1)∧(if (w64 (1-(if 1<x1.1 then 1 else x1.1)))<1 then (w64 (1-(if 1<x1.1 then 1 else x1.1))) else 1)≤((List.length [x3] : Nat) : Int))).bind fun x4=>(jn (fun (z5:Arr) (z6:Int) (z7:(List Itm))=>((Kz a0 z7).bind fun x14=>(some (x14.1,x14.2)))) fun K0=>(C1 a1 x1 K0 Cm (Arr.mk [] []) 0 (List.take (Int.toNat (if (w64 (1-(if 1<x1.1 then 1 else x1.1)))<1 then (w64 (1-(if 1<x1.1 then 1 else x1.1))) else 1)) ([x3])) 0))))))
theorem LZ {a0:(List Int)} {a1:CQ} (oa1:KX a1) {r:Arr×Int} (h:HM a0 a1=some r) :
  Fn Tryz.prog 92 [.sl (Is a0),a1.dv] (.tup [.d (.ag [.sl (Is r.1.shape),.sl (Its r.1.items)]),.d (.i .i64 r.2)]):=by
 unfold HM at h
 refine Fn.ofC (rs:=[.cell 4 25,.tmp 5]) (nt:=49) Tryz.func92 rfl rfl rfl (by simp) rfl ?_;refine .sr ?_;refine vk (van (Ai BC) BY) ?_;refine ar [0,1,4,5] ?_;refine .sr ?_;refine vk (Aa) ?_
 obtain ⟨x1,g1,h⟩:=bnd h
 refine vk (VOK.tupd (vs:=[.i .i64 x1.1,.i .i64 x1.2]) (Ae (EE g1) Tryz.call98)) ?_;refine vk (Aa) ?_;refine vk (vex) ?_;refine vk (vex) ?_;refine asd ?_;refine ar [0,1,4,5,6] ?_;refine .sr ?_
 obtain ⟨x2,g2,h⟩:=bnd h
 refine vk (Ae (BD g2) Tryz.call72) ?_
 obtain ⟨x3,g3,h⟩:=bnd h
 refine vk (Ae (FH g3) Tryz.call94) ?_;refine vk (Ih (Hy x3) (F9 [x3]) Gt) ?_;refine vk (Aa) ?_;refine vk (vmn) ?_;refine vk (vbi) ?_;refine vk (vmn) ?_
 obtain ⟨x4,g4,h⟩:=bnd h
 have ghx4:=Mk g4
 refine slo (xs:=Its [x3]) (z:=(if (w64 (1-(if 1<x1.1 then 1 else x1.1)))<1 then (w64 (1-(if 1<x1.1 then 1 else x1.1))) else 1)) (Int.toNat (if (w64 (1-(if 1<x1.1 then 1 else x1.1)))<1 then (w64 (1-(if 1<x1.1 then 1 else x1.1))) else 1)) (by omega) (by rw [Bi];omega) ?_ Fw
 rw [Zs]
 refine aso ?_;refine rk [0,1,4,5,6,8] ?_;refine .seq ?_;refine .sr ?_;refine vk (Aa) ?_;refine vk (Aa) ?_;refine rk [0,1,4,5,8,25,26] ?_
 obtain ⟨K0,hK0,h⟩:=Du h
 refine AW.mr (σ:=Arr×Int×(List Itm)) (fun p=>K0 p.1 p.2.1 p.2.2=some r) (fun p=>[(0,.d (.sl (Is a0))),(4,.nb [.sl (Is p.1.shape),.sl (Its p.1.items)]),(5,.d (.i .i64 p.2.1)),(8,.own 83 (Its p.2.2))]) (fun p=>[]) ?_ ?_
 ·skip
  refine .block ?_
  refine .loop (.gk [0,1,4,5,8,25,26] ?_)
  refine AL.ind (σ:=Nat×Arr×Int×(List Itm)×Int) (m:=fun p=>p.1) (e:=fun p=>[(0,.d (.sl (Is a0))),(1,.d (a1.dv)),(4,.nb [.sl (Is p.2.1.shape),.sl (Its p.2.1.items)]),(5,.d (.i .i64 p.2.2.1)),(8,.own 83 (Its p.2.2.2.1)),(25,.d (.i .i64 x1.1)),(26,.d (.i .i64 p.2.2.2.2))]) (h:=fun p=>[]) (I:=fun p=>C1 a1 x1 K0 p.1 p.2.1 p.2.2.1 p.2.2.2.1 p.2.2.2.2=some r) ?_ (Cm,(Arr.mk [] []),0,(List.take (Int.toNat (if (w64 (1-(if 1<x1.1 then 1 else x1.1)))<1 then (w64 (1-(if 1<x1.1 then 1 else x1.1))) else 1)) ([x3])),0) h
  rintro ⟨k,s8,s9,s10,s11⟩ h ih
  dsimp only at h ih ⊢
  rcases k with _|k
  ·rw [C1] at h;cases h
  rw [C1] at h
  refine .sr ?_;refine vk (vbi) ?_;refine rk [0,1,4,5,8,25,26,27] ?_;refine .seq ?_
  rcases brc h with ⟨hc,h⟩|⟨hc,h⟩
  ·refine cnt (dT hc) ?_
   refine .skip ?_
   show AW _ _ _ _ _ _
   refine .seq ?_;refine .block ?_;refine .sr ?_;refine vk (Aa) ?_;refine ar [0,1,4,5,8,9,25,26] ?_;refine .sr ?_;refine vk (Aa) ?_;refine vk (Aa) ?_
   obtain ⟨x12,g12,h⟩:=bnd h
   refine vk (VOK.tupd (vs:=[.ag [.i .u8 x12.1.kind,.b x12.1.num.1,.sl (L x12.1.num.2.1),.sl (L x12.1.num.2.2),.i .i32 x12.1.char,.sl (Ars x12.1.box)],.i .i64 x12.2]) (N4 (oa1 _ _ g12))) ?_;refine vk (Aa) ?_;refine vk (vex) ?_;refine vk (vex) ?_;refine vk (van (Ai CE) CK) ?_
   refine stn ?_ AI (by decide)
   refine ar [0,1,4,5,8,10,11,25,26] ?_;refine .seq ?_;refine .sr ?_;refine vk (Aa) ?_;refine vk (vbi) ?_;refine rk [0,1,4,5,8,10,11,25,26,36] ?_
   rcases brc h with ⟨hc,h⟩|⟨hc,h⟩
   ·refine cnf (ntf (dT hc)) ?_
    refine .skip ?_
    show AW _ _ _ _ _ _
    refine .region ?_;refine mvo ?_;refine vk (Eh Bl AI) ?_;refine vk ((Ih (Hy x12.1) (F9 [x12.1]) Gt).deep) ?_
    obtain ⟨x13,g13,h⟩:=bnd h
    refine Aab Nh g13 Qb ?_ Lk Bi Gt
    refine aso ?_;refine .nil ?_
    show AW _ _ _ _ _ _
    refine .gk [0,1,4,5,8,25,26] ?_;refine .region ?_;refine vk (vbi) ?_;refine vk (Aa) ?_;refine .nil ?_;refine AL.gk [0,1,4,5,8,25,26] ?_
    exact ih (k,s8,s9,x13,(w64 (s11+1))) h (Nat.lt_succ_self _)
   refine cnt (ntt (dF hc)) ?_;refine .sr ?_;refine vk (vbd FC BC BY) ?_;refine vk (Aa) ?_
   refine stn ?_ Ap (by decide)
   refine ar [0,1,4,5,8,10,25,26] ?_;refine .ret ?_
   cases h
   exact ⟨_,_,⟨.inr rfl,AP,Ap,p2⟩,rfl,rfl⟩
  refine cnf (dF hc) ?_;refine .gk [0,4,5,8] ?_;refine .exit ?_
  exact jr (s8,s9,s10) h
 rintro ⟨z5,z6,z7⟩ h
 try dsimp only at h ⊢
 subst hK0
 show AW _ _ _ _ _ _
 refine .sr ?_;refine vk (Aa) ?_;refine fz (p:=.t 8) ?_;refine vk (Aa) ?_
 obtain ⟨x14,g14,h⟩:=bnd h
 refine vk (VOK.tupd (vs:=[.ag [.sl (Is x14.1.shape),.sl (Its x14.1.items)],.i .i64 x14.2]) (Ae (OQ g14) Tryz.call99)) ?_;refine vk (vex) ?_;refine vk (vex) ?_
 refine stn ?_ Ap (by decide)
 refine ar [4,5] ?_;refine .ret ?_
 cases h
 exact ⟨_,_,⟨.inr rfl,AP,Ap,p2⟩,rfl,rfl⟩
def N9 (rc_scalar_pair_through:(Aw×Int)→Arr→Arr→Option (Arr×Int)) (a0:(Aw×Int)) (a1:Itm) (a2:Itm) : Option (Itm×Int):=(if ((decide (a1.kind=3))||(decide (a2.kind=3)))=true then ((IN a1).bind fun x1=>((IN a2).bind fun x2=>((rc_scalar_pair_through a0 x1 x2).bind fun x3=>((HG x3.1).bind fun x4=>(some (x4,x3.2)))))) else (if ((decide (a1.kind=1))&&(decide (a2.kind=1)))=true then ((a0.1.g (a1.num,a2.num)).bind fun x5=>((EG x5.1).bind fun x6=>(some (x6,x5.2)))) else (if ((decide (a0.2=61))||(decide (a0.2=8800)))=true then ((Bt (((decide (a1.kind=a2.kind))&&(decide (a1.char=a2.char))) == (decide (a0.2=61)))).bind fun x7=>((EG x7).bind fun x8=>(some (x8,0)))) else (some ((Itm.mk 0 (false,[],[]) 0 []),3)))))
theorem RB {rc_scalar_pair_through:(Aw×Int)→Arr→Arr→Option (Arr×Int)} (orc_scalar_pair_through:∀ x0 x1 x2 r,Bo x0.1→rc_scalar_pair_through x0 x1 x2=some r→Fn Tryz.prog 39 [.ag [x0.1.dv,.i .i32 x0.2],.ag [.sl (Is x1.shape),.sl (Its x1.items)],.ag [.sl (Is x2.shape),.sl (Its x2.items)]] (.tup [.d (.ag [.sl (Is r.1.shape),.sl (Its r.1.items)]),.d (.i .i64 r.2)])) {a0:(Aw×Int)} {a1:Itm} {a2:Itm} (oa0:Bo a0.1) {r:Itm×Int} (h:N9 rc_scalar_pair_through a0 a1 a2=some r) :
  Fn Tryz.prog 116 [.ag [a0.1.dv,.i .i32 a0.2],.ag [.i .u8 a1.kind,.b a1.num.1,.sl (L a1.num.2.1),.sl (L a1.num.2.2),.i .i32 a1.char,.sl (Ars a1.box)],.ag [.i .u8 a2.kind,.b a2.num.1,.sl (L a2.num.2.1),.sl (L a2.num.2.2),.i .i32 a2.char,.sl (Ars a2.box)]] (.tup [.d (.ag [.i .u8 r.1.kind,.b r.1.num.1,.sl (L r.1.num.2.1),.sl (L r.1.num.2.2),.i .i32 r.1.char,.sl (Ars r.1.box)]),.d (.i .i64 r.2)]):=by
 unfold N9 at h
 refine Fn.ofC (rs:=[.cell 6 83,.tmp 7]) (nt:=85) Tryz.func116 rfl rfl rfl (by simp) rfl ?_;refine .sr ?_;refine vk (vbx) ?_;refine vk (vbx) ?_;refine vk (vbx) ?_;refine vk (van (Ai CE) CK) ?_;refine ar [3,4,5,6,7] ?_;refine .seq ?_;refine .block ?_;refine .seq ?_;refine AW.mr (σ:=Unit) (fun _=>True) (fun _=>[(3,.d (.ptr [a0.1.dv,.i .i32 a0.2])),(4,.d (.ptr [.i .u8 a1.kind,.b a1.num.1,.sl (L a1.num.2.1),.sl (L a1.num.2.2),.i .i32 a1.char,.sl (Ars a1.box)])),(5,.d (.ptr [.i .u8 a2.kind,.b a2.num.1,.sl (L a2.num.2.1),.sl (L a2.num.2.2),.i .i32 a2.char,.sl (Ars a2.box)])),(6,.nb [.i .u8 0,.b false,.sl (L []),.sl (L []),.i .i32 0,.sl (Ars [])]),(7,.d (.i .i64 0)),(13,.d (.b ((decide (a1.kind=3))||(decide (a2.kind=3)))))]) (fun _=>[]) ?_ ?_
 ·skip
  refine .region ?_;refine vk (vfa C6) ?_;refine vk (Ak BN) ?_;refine vk (vbi) ?_
  by_cases hc:a1.kind=3
  ·have hb0:(decide (a1.kind=3))=true:=(dT hc)
   refine vk (VOK.lit (Aa) hb0) ?_;refine gf ?_;refine gf ?_;refine gf ?_;refine vk (Ah) ?_;refine asd ?_;refine RL.gk [3,4,5,6,7,13] ?_;refine .nil ?_
   exact jr () trivial (by simp only [hb0];rfl)
  have hb0:(decide (a1.kind=3))=false:=(dF hc)
  refine vk (VOK.lit (Aa) hb0) ?_;refine vk (vfa C6) ?_;refine vk (Ak BN) ?_;refine vk (vbi) ?_;refine vk (Ah) ?_;refine asd ?_;refine RL.gk [3,4,5,6,7,13] ?_;refine .nil ?_
  exact jr () trivial (by simp only [hb0];rfl)
 rintro _ _
 rcases brc h with ⟨hc,h⟩|⟨hc,h⟩
 ·refine cnt hc ?_
  refine .seq ?_
  obtain ⟨x1,g1,h⟩:=bnd h
  obtain ⟨x2,g2,h⟩:=bnd h
  obtain ⟨x3,g3,h⟩:=bnd h
  refine .drawnF 10 [8] [(8,.nb [.sl (Is x3.1.shape),.sl (Its x3.1.items)])] [] A4 (by kernel_rfl) rfl ?_;refine dv (Aj Pm Jg) ?_;refine dv (Aj Bl AI) ?_;refine dv (Ae (Ko g1) Tryz.call194) ?_;refine dv (Aj Bl AI) ?_;refine dv (Ae (Ko g2) Tryz.call194) ?_;refine dv (VOK.tupd (vs:=[.ag [.sl (Is x3.1.shape),.sl (Its x3.1.items)],.i .i64 x3.2]) (Ae (orc_scalar_pair_through _ _ _ _ oa0 g3) Tryz.call39)) ?_;refine dv (Aa) ?_;refine dv (vex) ?_;refine dv (vex) ?_;refine dv (van (Ai BC) BY) ?_;refine dz ?_
  refine ⟨?_,?_,?_⟩
  ·intro k hk
   simp only [List.mem_cons,List.not_mem_nil,or_false] at hk
   subst hk
   exact ⟨_,_,_,rfl,rfl,rfl,rfl,rfl,rfl,vex⟩
  ·intro om e hom hge
   cases hom
   exact S0 (cs:=[.sl (Is []),.sl (Its [])]) (cs':=[.sl (Is x3.1.shape),.sl (Its x3.1.items)]) Ap (by decide) rfl ((hge 8 (fun k hk v hv=>by
     simp only [List.mem_cons,List.not_mem_nil,or_false] at hk
     subst hk;exact (by decide:¬(some 30=some 8)) (congrArg (Option.map Prod.fst) hv))).trans rfl) ((congrArg Bp (hge 29 (fun k hk v hv=>by
     simp only [List.mem_cons,List.not_mem_nil,or_false] at hk
     subst hk;exact (by decide:¬(some 30=some 29)) (congrArg (Option.map Prod.fst) hv)))).trans rfl) rfl rfl rfl rfl ⟨rfl,rfl⟩
  refine ar [6,7,8,9] ?_;refine .sr ?_;refine vk (Eh AP Ap) ?_
  obtain ⟨x4,g4,h⟩:=bnd h
  refine vk (Ae (Mp g4) Tryz.call95) ?_;refine vk (Aa) ?_
  refine stn ?_ AI (by decide)
  refine ar [6,7] ?_;refine .ret ?_
  cases h
  exact ⟨_,_,⟨.inr rfl,Bl,AI,p6⟩,rfl,rfl⟩
 refine cnf (bf hc) ?_;refine .seq ?_;refine AW.mr (σ:=Unit) (fun _=>True) (fun _=>[(3,.d (.ptr [a0.1.dv,.i .i32 a0.2])),(4,.d (.ptr [.i .u8 a1.kind,.b a1.num.1,.sl (L a1.num.2.1),.sl (L a1.num.2.2),.i .i32 a1.char,.sl (Ars a1.box)])),(5,.d (.ptr [.i .u8 a2.kind,.b a2.num.1,.sl (L a2.num.2.1),.sl (L a2.num.2.2),.i .i32 a2.char,.sl (Ars a2.box)])),(6,.nb [.i .u8 0,.b false,.sl (L []),.sl (L []),.i .i32 0,.sl (Ars [])]),(7,.d (.i .i64 0)),(34,.d (.b ((decide (a1.kind=1))&&(decide (a2.kind=1)))))]) (fun _=>[]) ?_ ?_
 ·skip
  refine .region ?_;refine vk (vfa C6) ?_;refine vk (Ak BN) ?_;refine vk (vbi) ?_
  by_cases hc:a1.kind=1
  ·have hb0:(decide (a1.kind=1))=true:=(dT hc)
   refine vk (VOK.lit (Aa) hb0) ?_;refine vk (vfa C6) ?_;refine vk (Ak BN) ?_;refine vk (vbi) ?_;refine vk (Ah) ?_;refine asd ?_;refine RL.gk [3,4,5,6,7,34] ?_;refine .nil ?_
   exact jr () trivial (by simp only [hb0];rfl)
  have hb0:(decide (a1.kind=1))=false:=(dF hc)
  refine vk (VOK.lit (Aa) hb0) ?_;refine gf ?_;refine gf ?_;refine gf ?_;refine vk (Ah) ?_;refine asd ?_;refine RL.gk [3,4,5,6,7,34] ?_;refine .nil ?_
  exact jr () trivial (by simp only [hb0];rfl)
 rintro _ _
 rcases brc h with ⟨hc,h⟩|⟨hc,h⟩
 ·refine cnt hc ?_
  refine .sr ?_;refine vk (vfa Yk) ?_;refine vk (Ak KH) ?_;refine vk (vfa C8) ?_;refine vk (Aj Af Ad) ?_;refine vk (vfa C8) ?_;refine vk (Aj Af Ad) ?_
  obtain ⟨x5,g5,h⟩:=bnd h
  refine vk (VOK.tupd (vs:=[.ag [.b x5.1.1,.sl (L x5.1.2.1),.sl (L x5.1.2.2)],.i .i64 x5.2]) (N4 (oa0 _ _ g5))) ?_;refine vk (Aa) ?_;refine vk (vex) ?_;refine vk (vex) ?_;refine vk (van (Ai AG) AH) ?_
  refine stn ?_ Ad (by decide)
  refine ar [6,7,10,11] ?_;refine .sr ?_;refine vk (Eh Af Ad) ?_
  obtain ⟨x6,g6,h⟩:=bnd h
  refine vk (Ae (FH g6) Tryz.call94) ?_;refine vk (Aa) ?_
  refine stn ?_ AI (by decide)
  refine ar [6,7] ?_;refine .ret ?_
  cases h
  exact ⟨_,_,⟨.inr rfl,Bl,AI,p6⟩,rfl,rfl⟩
 refine cnf (bf hc) ?_;refine .seq ?_;refine AW.mr (σ:=Unit) (fun _=>True) (fun _=>[(3,.d (.ptr [a0.1.dv,.i .i32 a0.2])),(4,.d (.ptr [.i .u8 a1.kind,.b a1.num.1,.sl (L a1.num.2.1),.sl (L a1.num.2.2),.i .i32 a1.char,.sl (Ars a1.box)])),(5,.d (.ptr [.i .u8 a2.kind,.b a2.num.1,.sl (L a2.num.2.1),.sl (L a2.num.2.2),.i .i32 a2.char,.sl (Ars a2.box)])),(6,.nb [.i .u8 0,.b false,.sl (L []),.sl (L []),.i .i32 0,.sl (Ars [])]),(7,.d (.i .i64 0)),(56,.d (.b ((decide (a0.2=61))||(decide (a0.2=8800)))))]) (fun _=>[]) ?_ ?_
 ·skip
  refine .region ?_;refine vk (vfa P3) ?_;refine vk (Ak DQ) ?_;refine vk (vbi) ?_
  by_cases hc:a0.2=61
  ·have hb0:(decide (a0.2=61))=true:=(dT hc)
   refine vk (VOK.lit (Aa) hb0) ?_;refine gf ?_;refine gf ?_;refine gf ?_;refine vk (Ah) ?_;refine asd ?_;refine RL.gk [3,4,5,6,7,56] ?_;refine .nil ?_
   exact jr () trivial (by simp only [hb0];rfl)
  have hb0:(decide (a0.2=61))=false:=(dF hc)
  refine vk (VOK.lit (Aa) hb0) ?_;refine vk (vfa P3) ?_;refine vk (Ak DQ) ?_;refine vk (vbi) ?_;refine vk (Ah) ?_;refine asd ?_;refine RL.gk [3,4,5,6,7,56] ?_;refine .nil ?_
  exact jr () trivial (by simp only [hb0];rfl)
 rintro _ _
 rcases brc h with ⟨hc,h⟩|⟨hc,h⟩
 ·refine cnt hc ?_
  refine .seq ?_;refine AW.mr (σ:=Unit) (fun _=>True) (fun _=>[(3,.d (.ptr [a0.1.dv,.i .i32 a0.2])),(6,.nb [.i .u8 0,.b false,.sl (L []),.sl (L []),.i .i32 0,.sl (Ars [])]),(7,.d (.i .i64 0)),(12,.d (.b ((decide (a1.kind=a2.kind))&&(decide (a1.char=a2.char)))))]) (fun _=>[]) ?_ ?_
  ·skip
   refine .region ?_;refine vk (vfa C6) ?_;refine vk (Ak BN) ?_;refine vk (vfa C6) ?_;refine vk (Ak BN) ?_;refine vk (vbi) ?_
   by_cases hc:a1.kind=a2.kind
   ·have hb0:(decide (a1.kind=a2.kind))=true:=(dT hc)
    refine vk (VOK.lit (Aa) hb0) ?_;refine vk (vfa Ga) ?_;refine vk (Ak DQ) ?_;refine vk (vfa Ga) ?_;refine vk (Ak DQ) ?_;refine vk (vbi) ?_;refine vk (Ah) ?_;refine asd ?_;refine RL.gk [3,6,7,12] ?_;refine .nil ?_
    exact jr () trivial (by simp only [hb0];rfl)
   have hb0:(decide (a1.kind=a2.kind))=false:=(dF hc)
   refine vk (VOK.lit (Aa) hb0) ?_;refine gf ?_;refine gf ?_;refine gf ?_;refine gf ?_;refine gf ?_;refine vk (Ah) ?_;refine asd ?_;refine RL.gk [3,6,7,12] ?_;refine .nil ?_
   exact jr () trivial (by simp only [hb0];rfl)
  rintro _ _
  refine .sr ?_;refine vk (Aa) ?_;refine vk (vfa P3) ?_;refine vk (Ak DQ) ?_;refine vk (vbi) ?_;refine vk (U9 (.inl rfl) bo) ?_
  obtain ⟨x7,g7,h⟩:=bnd h
  refine vk (Ae (EQ g7) Tryz.call91) ?_
  obtain ⟨x8,g8,h⟩:=bnd h
  refine vk (Ae (FH g8) Tryz.call94) ?_
  refine stn ?_ AI (by decide)
  refine ar [6,7] ?_;refine .ret ?_
  cases h
  exact ⟨_,_,⟨.inr rfl,Bl,AI,p6⟩,rfl,rfl⟩
 refine cnf (bf hc) ?_;refine .skip ?_
 show AW _ _ _ _ _ _
 refine .sr ?_;refine vk (vbd Jb CE CK) ?_
 refine stn ?_ AI (by decide)
 refine ar [6,7] ?_;refine .ret ?_
 cases h
 exact ⟨_,_,⟨.inr rfl,Bl,AI,p6⟩,rfl,rfl⟩
def Qa (rc_scalar_pair_through:(Aw×Int)→Arr→Arr→Option (Arr×Int)) (a0:Int) (c0:(Aw×Int)) (c1:Arr) (c2:Arr) : Option (Itm×Int):=((Q8 (((List.length c1.items:Nat) : Int)≠0)).bind fun x1=>((rd? c1.items (Int.tmod a0 ((List.length c1.items:Nat) : Int))).bind fun x2=>((Q8 (((List.length c2.items:Nat) : Int)≠0)).bind fun x3=>((rd? c2.items (Int.tmod a0 ((List.length c2.items:Nat) : Int))).bind fun x4=>((N9 rc_scalar_pair_through c0 x2 x4).bind fun x5=>(some (x5.1,x5.2)))))))
theorem Tk {rc_scalar_pair_through:(Aw×Int)→Arr→Arr→Option (Arr×Int)} (orc_scalar_pair_through:∀ x0 x1 x2 r,Bo x0.1→rc_scalar_pair_through x0 x1 x2=some r→Fn Tryz.prog 39 [.ag [x0.1.dv,.i .i32 x0.2],.ag [.sl (Is x1.shape),.sl (Its x1.items)],.ag [.sl (Is x2.shape),.sl (Its x2.items)]] (.tup [.d (.ag [.sl (Is r.1.shape),.sl (Its r.1.items)]),.d (.i .i64 r.2)])) {a0:Int} {c0:(Aw×Int)} {c1:Arr} {c2:Arr} (oc0:Bo c0.1) {r:Itm×Int} (h:Qa rc_scalar_pair_through a0 c0 c1 c2=some r) :
  Fn Tryz.prog 115 [.i .i64 a0,.ptr [c0.1.dv,.i .i32 c0.2],.ptr [.sl (Is c1.shape),.sl (Its c1.items)],.ptr [.sl (Is c2.shape),.sl (Its c2.items)]] (.tup [.d (.ag [.i .u8 r.1.kind,.b r.1.num.1,.sl (L r.1.num.2.1),.sl (L r.1.num.2.2),.i .i32 r.1.char,.sl (Ars r.1.box)]),.d (.i .i64 r.2)]):=by
 unfold Qa at h
 refine Fn.ofC (rs:=[.cell 5 83,.tmp 6]) (nt:=29) Tryz.func115 rfl rfl rfl (by simp) rfl ?_;refine .sr ?_;refine vk (van (Ai CE) CK) ?_;refine ar [0,1,2,3,5,6] ?_;refine .seq ?_;refine .drawn 22 A4 (by kernel_rfl) ?_;refine dv (Aj Pm Jg) ?_;refine dv (vfa BG) ?_;refine dv (Ak Ek) ?_;refine dv (Aa) ?_;refine dv (vfa BG) ?_;refine dv (Ak Ek) ?_;refine dv (A7 (Bi _) (EY _) ET) ?_
 obtain ⟨x1,g1,h⟩:=bnd h
 refine dv (SW (Mk g1)) ?_
 obtain ⟨x2,g2,h⟩:=bnd h
 obtain ⟨n2,p02,q2⟩:=BA g2
 refine dv (vix n2 p02 (Gl q2) rfl Fw) ?_;refine dv (Aj Bl AI) ?_;refine dv (vfa BG) ?_;refine dv (Ak Ek) ?_;refine dv (Aa) ?_;refine dv (vfa BG) ?_;refine dv (Ak Ek) ?_;refine dv (A7 (Bi _) (EY _) ET) ?_
 obtain ⟨x3,g3,h⟩:=bnd h
 refine dv (SW (Mk g3)) ?_
 obtain ⟨x4,g4,h⟩:=bnd h
 obtain ⟨n4,p04,q4⟩:=BA g4
 refine dv (vix n4 p04 (Gl q4) rfl Fw) ?_;refine dv (Aj Bl AI) ?_
 obtain ⟨x5,g5,h⟩:=bnd h
 refine dv (VOK.tupd (vs:=[.ag [.i .u8 x5.1.kind,.b x5.1.num.1,.sl (L x5.1.num.2.1),.sl (L x5.1.num.2.2),.i .i32 x5.1.char,.sl (Ars x5.1.box)],.i .i64 x5.2]) (Ae (RB orc_scalar_pair_through oc0 g5) Tryz.call116)) ?_;refine dv (vex) ?_;refine dv (vex) ?_;refine dz ?_
 refine stn ?_ AI (by decide)
 refine ar [5,6] ?_;refine .ret ?_
 cases h
 exact ⟨_,_,⟨.inr rfl,Bl,AI,p6⟩,rfl,rfl⟩
def Nk (rc_scalar_pair_through:(Aw×Int)→Arr→Arr→Option (Arr×Int)) (a0:(Aw×Int)) (a1:Arr) (a2:Arr) : Option (Arr×Int):=((Gm a1 a2).bind fun x1=>(if x1.2=0 then ((HM x1.1 (⟨.fn 115 [] [.ptr [a0.1.dv,.i .i32 a0.2],.ptr [.sl (Is a1.shape),.sl (Its a1.items)],.ptr [.sl (Is a2.shape),.sl (Its a2.items)]],fun x=>Qa rc_scalar_pair_through x a0 a1 a2⟩ : CQ)).bind fun x2=>(some (x2.1,x2.2))) else (some ((Arr.mk [] []),x1.2))))
theorem S8 {rc_scalar_pair_through:(Aw×Int)→Arr→Arr→Option (Arr×Int)} (orc_scalar_pair_through:∀ x0 x1 x2 r,Bo x0.1→rc_scalar_pair_through x0 x1 x2=some r→Fn Tryz.prog 39 [.ag [x0.1.dv,.i .i32 x0.2],.ag [.sl (Is x1.shape),.sl (Its x1.items)],.ag [.sl (Is x2.shape),.sl (Its x2.items)]] (.tup [.d (.ag [.sl (Is r.1.shape),.sl (Its r.1.items)]),.d (.i .i64 r.2)])) {a0:(Aw×Int)} {a1:Arr} {a2:Arr} (oa0:Bo a0.1) {r:Arr×Int} (h:Nk rc_scalar_pair_through a0 a1 a2=some r) :
  Fn Tryz.prog 39 [.ag [a0.1.dv,.i .i32 a0.2],.ag [.sl (Is a1.shape),.sl (Its a1.items)],.ag [.sl (Is a2.shape),.sl (Its a2.items)]] (.tup [.d (.ag [.sl (Is r.1.shape),.sl (Its r.1.items)]),.d (.i .i64 r.2)]):=by
 unfold Nk at h
 refine Fn.ofC (rs:=[.cell 6 25,.tmp 7]) (nt:=25) Tryz.func39 rfl rfl rfl (by simp) rfl ?_;refine .sr ?_;refine vk (vbx) ?_;refine vk (vbx) ?_;refine vk (vbx) ?_;refine vk (van (Ai BC) BY) ?_;refine ar [3,4,5,6,7] ?_;refine .sr ?_;refine vk (Aj AP Ap) ?_;refine vk (Aj AP Ap) ?_
 obtain ⟨x1,g1,h⟩:=bnd h
 refine vk (VOK.tupd (vs:=[.sl (Is x1.1),.i .i64 x1.2]) (Ae (Ku g1) Tryz.call114)) ?_;refine vk (Aa) ?_;refine vk (vex) ?_;refine vk (vex) ?_;refine asd ?_;refine ar [3,4,5,6,7,8,9] ?_;refine .seq ?_;refine .sr ?_;refine vk (Aa) ?_;refine vk (vbi) ?_;refine rk [3,4,5,6,7,8,9,17] ?_
 rcases brc h with ⟨hc,h⟩|⟨hc,h⟩
 ·refine cnf (ntf (dT hc)) ?_
  refine .skip ?_
  show AW _ _ _ _ _ _
  refine .sr ?_;refine vk (Aa) ?_;refine vk (VJ) ?_
  obtain ⟨x2,g2,h⟩:=bnd h
  refine vk (VOK.tupd (vs:=[.ag [.sl (Is x2.1.shape),.sl (Its x2.1.items)],.i .i64 x2.2]) (Ae (LZ (Cr Tryz.call115 (fun _ _ h=>Tk orc_scalar_pair_through oa0 h)) g2) Tryz.call92)) ?_;refine vk (vex) ?_;refine vk (vex) ?_
  refine stn ?_ Ap (by decide)
  refine ar [6,7] ?_;refine .ret ?_
  cases h
  exact ⟨_,_,⟨.inr rfl,AP,Ap,p2⟩,rfl,rfl⟩
 refine cnt (ntt (dF hc)) ?_;refine .sr ?_;refine vk (vbd FC BC BY) ?_;refine vk (Aa) ?_
 refine stn ?_ Ap (by decide)
 refine ar [3,4,5,6,7,8] ?_;refine .ret ?_
 cases h
 exact ⟨_,_,⟨.inr rfl,AP,Ap,p2⟩,rfl,rfl⟩
def LA : Nat→(Aw×Int)→Arr→Arr→Option (Arr×Int)
 | 0,_,_,_=>none
 | k+1,a0,a1,a2=>Nk (LA k) a0 a1 a2
theorem MD : ∀ (k:Nat) (a0:(Aw×Int)) (a1:Arr) (a2:Arr) (r:Arr×Int),Bo a0.1→LA k a0 a1 a2=some r→Fn Tryz.prog 39 [.ag [a0.1.dv,.i .i32 a0.2],.ag [.sl (Is a1.shape),.sl (Its a1.items)],.ag [.sl (Is a2.shape),.sl (Its a2.items)]] (.tup [.d (.ag [.sl (Is r.1.shape),.sl (Its r.1.items)]),.d (.i .i64 r.2)])
 | 0,_,_,_,_,_,h=>by cases h
 | k+1,a0,a1,a2,_,oa0,h=>S8 (MD k) oa0 (show Nk (LA k) a0 a1 a2=some _ from h)
def SJ (a0:(Aw×Int)) (a1:Arr) (a2:Arr) : Option (Arr×Int):=LA (a1.size+a2.size+1) a0 a1 a2
theorem Uu {a0:(Aw×Int)} {a1:Arr} {a2:Arr} (oa0:Bo a0.1) {r:Arr×Int} (h:SJ a0 a1 a2=some r) : Fn Tryz.prog 39 [.ag [a0.1.dv,.i .i32 a0.2],.ag [.sl (Is a1.shape),.sl (Its a1.items)],.ag [.sl (Is a2.shape),.sl (Its a2.items)]] (.tup [.d (.ag [.sl (Is r.1.shape),.sl (Its r.1.items)]),.d (.i .i64 r.2)]):=MD _ a0 a1 a2 r oa0 h
def Aa4 {α β:Type} : Option (FW α β)→DV
 | none=>.nf
 | some f=>f.dv
def Ii (a0:(Int×RT×Int)) (a1:Int) (a2:Arr) (a3:Arr) : Option ((Option Aw×Int)×Int):=(SR (Ew (Ig a0.2.1) a1) (some ((none,0),23)) fun f1=>((C9 a0.2.1).bind fun x2=>(Option.bind ((if x2=true then ((Di a2).bind fun x4=>(if x4=true then ((Di a3).bind fun x5=>(some (!x5))) else (some true))) else (some true)) : Option (Bool)) fun (z2:Bool)=>(if z2=true then (some ((none,0),22)) else (some ((some f1,a1),0))))))
theorem Lx {a0:(Int×RT×Int)} {a1:Int} {a2:Arr} {a3:Arr} {r:(Option Aw×Int)×Int} (h:Ii a0 a1 a2 a3=some r) :
  Fn Tryz.prog 38 [.ag [.i .i64 a0.1,.b a0.2.1.1,.sl (L a0.2.1.2.1),.sl (L a0.2.1.2.2),.i .i64 a0.2.2],.i .i32 a1,.ag [.sl (Is a2.shape),.sl (Its a2.items)],.ag [.sl (Is a3.shape),.sl (Its a3.items)]] (.tup [.d (.ag [Aa4 r.1.1,.i .i32 r.1.2]),.d (.i .i64 r.2)]):=by
 unfold Ii at h
 refine Fn.ofC (rs:=[.cell 8 75,.tmp 9]) (nt:=39) Tryz.func38 rfl rfl rfl (by simp) rfl ?_;refine .sr ?_;refine vk (vbx) ?_;refine vk (vbx) ?_;refine vk (vbx) ?_;refine vk (van (Ai O6) PF) ?_;refine ar [1,4,6,7,8,9] ?_;refine .sr ?_;refine vk (vfa LJ) ?_;refine vk (Aj Af Ad) ?_;refine vk (Ae Ri Tryz.call59) ?_;refine vk (Aa) ?_
 rcases hmf1:(Ew (Ig a0.2.1) a1) with _|f1
 ·replace h:=QF hmf1 h
  refine vk (V1 So gkR YH hmf1) ?_;refine ar [1,4,6,7,8,9,10] ?_;refine .seq ?_;refine .block ?_;refine .sr ?_;refine vk (Aa) ?_;refine vk (Zj CY) ?_;refine ar [1,4,6,7,8,9,10,16] ?_;refine AR ?_;refine .sr ?_;refine vk (vbd Vn O6 PF) ?_
  refine stn ?_ Jg (by decide)
  refine ar [1,8,9,10] ?_;refine .ret ?_
  cases h
  exact ⟨_,_,⟨.inr rfl,Pm,Jg,p2⟩,rfl,rfl⟩
 replace h:=Qu hmf1 h
 obtain ⟨of1,isf1⟩:=Ns hmf1
 refine vk (Ww (Ra _) So gkR hmf1) ?_;refine ar [1,4,6,7,8,9,10] ?_;refine .seq ?_;refine .block ?_;refine .sr ?_;refine vk (Aa) ?_;refine vk (ZS CY isf1) ?_;refine ar [1,4,6,7,8,9,10,16] ?_;refine AS ?_;refine .seq ?_
 obtain ⟨x2,g2,h⟩:=bnd h
 obtain ⟨z2,hz,h⟩:=bnd h
 refine AW.mr (σ:=Unit) (fun _=>True) (fun _=>[(1,.d (.i .i32 a1)),(8,.nb [.nf,.i .i32 0]),(9,.d (.i .i64 0)),(10,.d (f1.dv)),(20,.d (.b z2))]) (fun _=>[]) ?_ ?_
 ·skip
  refine .region ?_;refine vk (vfa LJ) ?_;refine vk (Aj Af Ad) ?_;refine vk (Ae (Ch g2) Tryz.call45) ?_;refine vk (vnt) ?_
  rcases brc hz with ⟨hc,hz⟩|⟨hc,hz⟩
  ·have hb0:(!x2)=false:=(ntf hc)
   refine vk (VOK.lit (Aa) hb0) ?_;refine vk (Aj AP Ap) ?_
   obtain ⟨x4,g4,hz⟩:=bnd hz
   refine vk (Ae (CZ g4) Tryz.call13) ?_;refine vk (vnt) ?_;refine vk (Ah) ?_
   rcases brc hz with ⟨hc,hz⟩|⟨hc,hz⟩
   ·have hb1:(!x4)=false:=(ntf hc)
    refine vk (VOK.lit (Aa) hb1) ?_;refine vk (Aj AP Ap) ?_
    obtain ⟨x5,g5,hz⟩:=bnd hz
    refine vk (Ae (CZ g5) Tryz.call13) ?_;refine vk (vnt) ?_;refine vk (Ah) ?_;refine asd ?_;refine RL.gk [1,8,9,10,20] ?_;refine .nil ?_
    cases hz
    exact jr () trivial
   have hb1:(!x4)=true:=(ntt (bf hc))
   refine vk (VOK.lit (Aa) hb1) ?_;refine gf ?_;refine gf ?_;refine gf ?_;refine vk (Ah) ?_;refine asd ?_;refine RL.gk [1,8,9,10,20] ?_;refine .nil ?_
   cases hz
   exact jr () trivial
  have hb0:(!x2)=true:=(ntt (bf hc))
  refine vk (VOK.lit (Aa) hb0) ?_;refine gf ?_;refine gf ?_;refine gf ?_;refine vk (Ah) ?_;refine vk (Aa) ?_;refine gf ?_;refine gf ?_;refine gf ?_;refine vk (Ah) ?_;refine asd ?_;refine RL.gk [1,8,9,10,20] ?_;refine .nil ?_
  cases hz
  exact jr () trivial
 rintro _ _
 rcases brc h with ⟨hc,h⟩|⟨hc,h⟩
 ·refine cnt hc ?_
  refine .sr ?_;refine vk (vbd Vn O6 PF) ?_
  refine stn ?_ Jg (by decide)
  refine ar [1,8,9,10] ?_;refine .ret ?_
  cases h
  exact ⟨_,_,⟨.inr rfl,Pm,Jg,p2⟩,rfl,rfl⟩
 refine cnf (bf hc) ?_;refine .skip ?_
 show AW _ _ _ _ _ _
 refine .sr ?_;refine vk (Aa) ?_;refine vk (Aa) ?_;refine vk (vbd Vn O6 PF) ?_
 refine stn ?_ Jg (by decide)
 refine ar [8,9] ?_;refine .ret ?_
 cases h
 exact ⟨_,_,⟨.inr rfl,Pm,Jg,p2⟩,rfl,rfl⟩
theorem Qk {a0:(Int×RT×Int)} {a1:Int} {a2:Arr} {a3:Arr} {r:(Option Aw×Int)×Int} (h:Ii a0 a1 a2 a3=some r) : ∀ p,r.1.1=some p→Bo p:=by
 unfold Ii at h
 rcases hmf1:(Ew (Ig a0.2.1) a1) with _|f1
 ·replace h:=QF hmf1 h
  cases h;intro p hp;cases hp
 ·replace h:=Qu hmf1 h
  obtain ⟨x2,g2,h⟩:=bnd h
  obtain ⟨z2,hz,h⟩:=bnd h
  by_cases hc:z2=true
  ·replace h:=YI hc h
   cases h;intro p hp;cases hp
  ·replace h:=YR hc h
   cases h;intro p hp;cases hp
   exact (Ns hmf1).1
def FQ (a0:(Int×RT×Int)) (a1:Int) (a2:Arr) (a3:Arr) : Option (Arr×Int):=((Ii a0 a1 a2 a3).bind fun x1=>(if x1.2=0 then (SR x1.1.1 none fun p=>((SJ (p,x1.1.2) a2 a3).bind fun x2=>(some (x2.1,x2.2)))) else (some ((Arr.mk [] []),x1.2))))
theorem Il {a0:(Int×RT×Int)} {a1:Int} {a2:Arr} {a3:Arr} {r:Arr×Int} (h:FQ a0 a1 a2 a3=some r) :
  Fn Tryz.prog 15 [.ag [.i .i64 a0.1,.b a0.2.1.1,.sl (L a0.2.1.2.1),.sl (L a0.2.1.2.2),.i .i64 a0.2.2],.i .i32 a1,.ag [.sl (Is a2.shape),.sl (Its a2.items)],.ag [.sl (Is a3.shape),.sl (Its a3.items)]] (.tup [.d (.ag [.sl (Is r.1.shape),.sl (Its r.1.items)]),.d (.i .i64 r.2)]):=by
 unfold FQ at h
 refine Fn.ofC (rs:=[.cell 8 25,.tmp 9]) (nt:=30) Tryz.func15 rfl rfl rfl (by simp) rfl ?_;refine .sr ?_;refine vk (vbx) ?_;refine vk (vbx) ?_;refine vk (vbx) ?_;refine vk (van (Ai BC) BY) ?_;refine ar [1,4,6,7,8,9] ?_;refine .sr ?_;refine vk (Aj TT QW) ?_;refine vk (Aa) ?_;refine vk (Aj AP Ap) ?_;refine vk (Aj AP Ap) ?_
 obtain ⟨x1,g1,h⟩:=bnd h
 obtain ⟨⟨po,z⟩,e⟩:=x1
 rcases po with _|p
 ·skip
  refine vk (VOK.tupd (vs:=[.ag [DV.nf,.i .i32 z],.i .i64 e]) (Ae (Lx g1) Tryz.call38)) ?_;refine vk (Aa) ?_;refine vk (vex) ?_;refine vk (vex) ?_;refine vk (van (Ai O6) PF) ?_
  refine stn ?_ Jg (by decide)
  refine ar [6,7,8,9,10,11] ?_;refine .seq ?_;refine .sr ?_;refine vk (Aa) ?_;refine vk (vbi) ?_;refine rk [6,7,8,9,10,11,21] ?_
  rcases brc h with ⟨hc,h⟩|⟨hc,h⟩
  ·exact nomatch (show (none:Option (Arr×Int))=some r from h)
  refine cnt (ntt (dF hc)) ?_;refine .sr ?_;refine vk (vbd FC BC BY) ?_;refine vk (Aa) ?_
  refine stn ?_ Ap (by decide)
  refine ar [6,7,8,9,10] ?_;refine .ret ?_
  cases h
  exact ⟨_,_,⟨.inr rfl,AP,Ap,p2⟩,rfl,rfl⟩
 refine vk (VOK.tupd (vs:=[.ag [p.dv,.i .i32 z],.i .i64 e]) (Ae (Lx g1) Tryz.call38)) ?_;refine vk (Aa) ?_;refine vk (vex) ?_;refine vk (vex) ?_;refine vk (van (Ai O6) PF) ?_
 refine stn ?_ Jg (by decide)
 refine ar [6,7,8,9,10,11] ?_;refine .seq ?_;refine .sr ?_;refine vk (Aa) ?_;refine vk (vbi) ?_;refine rk [6,7,8,9,10,11,21] ?_
 rcases brc h with ⟨hc,h⟩|⟨hc,h⟩
 ·replace h:((SJ (p,z) a2 a3).bind fun x2=>(some (x2.1,x2.2)))=some r:=h
  refine cnf (ntf (dT hc)) ?_;refine .skip ?_
  show AW _ _ _ _ _ _
  refine .sr ?_;refine vk (Eh Pm Jg) ?_;refine vk (Aj AP Ap) ?_;refine vk (Aj AP Ap) ?_
  obtain ⟨x2,g2,h⟩:=bnd h
  refine vk (VOK.tupd (vs:=[.ag [.sl (Is x2.1.shape),.sl (Its x2.1.items)],.i .i64 x2.2]) (Ae (Uu (Qk g1 p rfl) g2) Tryz.call39)) ?_;refine vk (vex) ?_;refine vk (vex) ?_
  refine stn ?_ Ap (by decide)
  refine ar [8,9] ?_;refine .ret ?_
  cases h
  exact ⟨_,_,⟨.inr rfl,AP,Ap,p2⟩,rfl,rfl⟩
 refine cnt (ntt (dF hc)) ?_;refine .sr ?_;refine vk (vbd FC BC BY) ?_;refine vk (Aa) ?_
 refine stn ?_ Ap (by decide)
 refine ar [6,7,8,9,10] ?_;refine .ret ?_
 cases h
 exact ⟨_,_,⟨.inr rfl,AP,Ap,p2⟩,rfl,rfl⟩
def Kd : Option ((Int×RT×Int)):=(Hd.bind fun x1=>(some ((1,x1,0))))
theorem LD {r:(Int×RT×Int)} (h:Kd=some r) :
  Fn Tryz.prog 16 [] (.d (.ag [.i .i64 r.1,.b r.2.1.1,.sl (L r.2.1.2.1),.sl (L r.2.1.2.2),.i .i64 r.2.2])):=by
 unfold Kd at h
 refine Fn.ofC (rs:=[.cell 0 34]) (nt:=3) Tryz.func16 rfl rfl rfl (by simp) rfl ?_;refine .sr ?_;refine vk (van (Ai YL) Y0) ?_;refine rk [0] ?_;refine .sr ?_
 obtain ⟨x1,g1,h⟩:=bnd h
 refine vk (Ae (Gf g1) Tryz.call33) ?_;refine vk (vbd Z7 YL Y0) ?_
 refine stn ?_ QW (by decide)
 refine rk [0] ?_;refine .ret ?_
 cases h
 exact ⟨_,⟨.inr rfl,TT,QW,(by decide:(0:Nat)<5)⟩,rfl⟩
def IH : Option (Bool):=(Kd.bind fun x1=>((N0 ([1,2])).bind fun x2=>((Mv 10).bind fun x3=>((FQ x1 43 x2 x3).bind fun x4=>(Kd.bind fun x5=>((N0 ([1,2])).bind fun x6=>((N0 ([1,2,3])).bind fun x7=>((FQ x5 43 x6 x7).bind fun x8=>(Option.bind ((if x4.2=0 then ((N0 ([11,12])).bind fun x10=>((Jw x4.1 x10).bind fun x11=>(if x11=true then (some (decide (x8.2=5))) else (some false)))) else (some false)) : Option (Bool)) fun (z9:Bool)=>(some (z9)))))))))))
theorem OC {r:Bool} (h:IH=some r) :
  Fn Tryz.prog 17 [] (.d (.b r)):=by
 unfold IH at h
 refine Fn.o1 0 34 Tryz.func17 ?_;refine .sr ?_;refine ar [0] ?_;refine .sr ?_
 obtain ⟨x1,g1,h⟩:=bnd h
 refine vk (Ae (LD g1) Tryz.call16) ?_;refine vk ((Fr (IB [1,2]) LI).deep) ?_
 obtain ⟨x2,g2,h⟩:=bnd h
 refine vk (Ae (J1 g2) Tryz.call30) ?_
 obtain ⟨x3,g3,h⟩:=bnd h
 refine vk (Ae (Qf g3) Tryz.call26) ?_
 obtain ⟨x4,g4,h⟩:=bnd h
 refine vk (VOK.tupd (vs:=[.ag [.sl (Is x4.1.shape),.sl (Its x4.1.items)],.i .i64 x4.2]) (Ae (Il g4) Tryz.call15)) ?_;refine vk (Aa) ?_;refine vk (vex) ?_;refine vk (vex) ?_;refine vk (van (Ai BC) BY) ?_
 refine stn ?_ Ap (by decide)
 refine ar [0,1,2] ?_;refine .sr ?_
 obtain ⟨x5,g5,h⟩:=bnd h
 refine vk (Ae (LD g5) Tryz.call16) ?_;refine vk ((Fr (IB [1,2]) LI).deep) ?_
 obtain ⟨x6,g6,h⟩:=bnd h
 refine vk (Ae (J1 g6) Tryz.call30) ?_;refine vk ((Fr (IB [1,2,3]) LI).deep) ?_
 obtain ⟨x7,g7,h⟩:=bnd h
 refine vk (Ae (J1 g7) Tryz.call30) ?_
 obtain ⟨x8,g8,h⟩:=bnd h
 refine vk (VOK.tupd (vs:=[.ag [.sl (Is x8.1.shape),.sl (Its x8.1.items)],.i .i64 x8.2]) (Ae (Il g8) Tryz.call15)) ?_;refine vk (Aa) ?_;refine vk (vex) ?_;refine vk (vex) ?_;refine vk (van (Ai BC) BY) ?_
 refine stn ?_ Ap (by decide)
 refine ar [0,1,2,4] ?_;refine .seq ?_
 obtain ⟨z9,hz,h⟩:=bnd h
 refine AW.mr (σ:=Unit) (fun _=>True) (fun _=>[(0,.d (.b z9))]) (fun _=>[]) ?_ ?_
 ·skip
  refine .drawn 12 A4 (by kernel_rfl) ?_;refine dv (Aa) ?_;refine dv (vbi) ?_
  rcases brc hz with ⟨hc,hz⟩|⟨hc,hz⟩
  ·have hb0:(decide (x4.2=0))=true:=(dT hc)
   refine dv (VOK.lit (Aa) hb0) ?_;refine dv (Eh AP Ap) ?_;refine dv ((Fr (IB [11,12]) LI).deep) ?_
   obtain ⟨x10,g10,hz⟩:=bnd hz
   refine dv (Ae (J1 g10) Tryz.call30) ?_
   obtain ⟨x11,g11,hz⟩:=bnd hz
   refine dv (Ae (NV g11) Tryz.call14) ?_;refine dv (Ah) ?_
   rcases brc hz with ⟨hc,hz⟩|⟨hc,hz⟩
   ·have hb1:x11=true:=hc
    refine dv (VOK.lit (Aa) hb1) ?_;refine dv (Aa) ?_;refine dv (vbi) ?_;refine dv (Ah) ?_;refine dz ?_;refine asd ?_;refine RL.gk [0] ?_;refine .nil ?_
    cases hz
    exact jr () trivial
   have hb1:x11=false:=(bf hc)
   refine dv (VOK.lit (Aa) hb1) ?_;refine dgf ?_;refine dgf ?_;refine dv (Ah) ?_;refine dz ?_;refine asd ?_;refine RL.gk [0] ?_;refine .nil ?_
   cases hz
   exact jr () trivial
  have hb0:(decide (x4.2=0))=false:=(dF hc)
  refine dv (VOK.lit (Aa) hb0) ?_;refine dgf ?_;refine dgf ?_;refine dgf ?_;refine dgf ?_;refine dv (Ah) ?_;refine dv (Aa) ?_;refine dgf ?_;refine dgf ?_;refine dv (Ah) ?_;refine dz ?_;refine asd ?_;refine RL.gk [0] ?_;refine .nil ?_
  cases hz
  exact jr () trivial
 rintro _ _
 refine .ret ?_
 cases h
 exact ⟨rfl,rfl⟩
theorem Z5 : IH=some true:=by kernel_rfl
theorem J8 {α β:Type} {y:α} {a:β} {f:α→β} : SR (some y) a f=f y:=rfl
theorem ZG : AB (0:Rat):=Ip (z:=0) Pk
theorem RP (b:Bool) : ∃ r,Bt b=some r∧AM r=true:=by
 cases b
 ·exact ⟨ofQ ((0:Int):Rat),by unfold Bt;rw [if_neg (by decide),Ef (by omega) (by omega)];rfl,Ba (Ip Pk)⟩
 ·exact ⟨ofQ ((1:Int):Rat),by unfold Bt;rw [if_pos rfl,Ef (by omega) (by omega)];rfl,Ba (Ip (z:=1) (by unfold SE;omega))⟩
theorem ZJ {p q:Rat} (hp:AB p) (hq:AB q) : Ex (ofQ p) (ofQ q)=some (Fd (p+q)):=by
 unfold Ex;rw [ZZ hp hq];rfl
theorem ZD {p q:Rat} (hp:AB p) (hq:AB q) : Ey (ofQ p) (ofQ q)=some (Fd (p * q)):=by
 unfold Ey;rw [VS hp hq];rfl
theorem Ts {p:Rat} (hp:AB p) : DN (ofQ p)=some (ofQ p,0):=by
 unfold DN
 have:=YN (ps:=[p]) (by simpa using hp) (by simp)
 rw [show [p].map ofQ=[ofQ p] from rfl] at this
 rw [this]
 unfold KR KR
 rw [Rat.zero_add,if_pos hp];rfl
theorem WB {p:Rat} (hp:AB p) : AB (-p):=by
 unfold AB at *
 rw [Rat.neg_num,Rat.neg_den,Int.natAbs_neg];exact hp
theorem Ss {ls:List (List Nat)} (h:ls.all (okL 40000)=true) (hl:ls.length≤10) : JA ls=some (Ac (EF ls 1)):=if_pos (by rw [h,Bool.true_and];exact dT hl)
theorem Yg {n:Nat} (h:n<4294967296) : (Ac n).length≤1:=Bh (k:=1) (by simpa using h)
def DY (a0:RT) (a1:RT) (a2:RT) : Option (Int):=((AJ a0).bind fun x1=>(Option.bind ((if x1=true then ((AJ a1).bind fun x3=>(if x3=true then ((AJ a2).bind fun x4=>(some (!x4))) else (some true))) else (some true)) : Option (Bool)) fun (z1:Bool)=>(if z1=true then (some (0)) else ((BJ a1.2.1 a2.2.2).bind fun x5=>((BJ a2.2.1 a1.2.2).bind fun x6=>((Cq x5 a1.1 x6 (!a2.1)).bind fun x7=>((BJ a1.2.2 a2.2.2).bind fun x8=>((BJ a1.2.1 a2.2.2).bind fun x9=>((BJ a2.2.1 a1.2.2).bind fun x10=>((Cw x9 x10).bind fun x11=>(if x11<0 then ((BJ x7.1 a0.2.2).bind fun x12=>((BJ x12 a2.2.2).bind fun x13=>((BJ a0.2.1 a2.2.1).bind fun x14=>((BJ x14 x8).bind fun x15=>(Option.bind ((if a0.1=true then (if ((List.length x7.1:Nat) : Int)=0 then (if ((List.length a2.2.1:Nat) : Int)=0 then (some true) else (if a0.1=true then (if ((List.length x13:Nat) : Int)=0 then (some (decide (((List.length x15:Nat) : Int)=0))) else (some false)) else (some false))) else (if a0.1=true then (if ((List.length x13:Nat) : Int)=0 then (some (decide (((List.length x15:Nat) : Int)=0))) else (some false)) else (some false))) else ((Cw x13 x15).bind fun x17=>(if x17≤0 then (some true) else (if ((List.length x7.1:Nat) : Int)=0 then (if ((List.length a2.2.1:Nat) : Int)=0 then (some true) else (if a0.1=true then (if ((List.length x13:Nat) : Int)=0 then (some (decide (((List.length x15:Nat) : Int)=0))) else (some false)) else (some false))) else (if a0.1=true then (if ((List.length x13:Nat) : Int)=0 then (some (decide (((List.length x15:Nat) : Int)=0))) else (some false)) else (some false)))))) : Option (Bool)) fun (z16:Bool)=>(if z16=true then (some (0)) else ((Cu a1 a2).bind fun x18=>(some (x18))))))))) else ((BJ x7.1 a0.2.2).bind fun x19=>((BJ x19 a1.2.2).bind fun x20=>((BJ a0.2.1 a1.2.1).bind fun x21=>((BJ x21 x8).bind fun x22=>(Option.bind ((if a0.1=true then (if ((List.length x7.1:Nat) : Int)=0 then (if ((List.length a1.2.1:Nat) : Int)=0 then (some true) else (if a0.1=true then (if ((List.length x20:Nat) : Int)=0 then (some (decide (((List.length x22:Nat) : Int)=0))) else (some false)) else (some false))) else (if a0.1=true then (if ((List.length x20:Nat) : Int)=0 then (some (decide (((List.length x22:Nat) : Int)=0))) else (some false)) else (some false))) else ((Cw x20 x22).bind fun x24=>(if x24≤0 then (some true) else (if ((List.length x7.1:Nat) : Int)=0 then (if ((List.length a1.2.1:Nat) : Int)=0 then (some true) else (if a0.1=true then (if ((List.length x20:Nat) : Int)=0 then (some (decide (((List.length x22:Nat) : Int)=0))) else (some false)) else (some false))) else (if a0.1=true then (if ((List.length x20:Nat) : Int)=0 then (some (decide (((List.length x22:Nat) : Int)=0))) else (some false)) else (some false)))))) : Option (Bool)) fun (z23:Bool)=>(if z23=true then (some (0)) else ((Cu a1 a2).bind fun x25=>(some (x25))))))))))))))))))))
set_option maxHeartbeats 4000000 in
theorem Lh {a0:RT} {a1:RT} {a2:RT} {r:Int} (h:DY a0 a1 a2=some r) :
  Fn Tryz.prog 61 [.ag [.b a0.1,.sl (L a0.2.1),.sl (L a0.2.2)],.ag [.b a1.1,.sl (L a1.2.1),.sl (L a1.2.2)],.ag [.b a2.1,.sl (L a2.2.1),.sl (L a2.2.2)]] (.d (.i .i64 r)):=by
 unfold DY at h
 refine Fn.o1 6 119 Tryz.func61 ?_;refine .sr ?_;refine vk (vbx) ?_;refine vk (vbx) ?_;refine vk (vbx) ?_;refine ar [3,4,5,6] ?_;refine .seq ?_;refine .seq ?_
 obtain ⟨x1,g1,h⟩:=bnd h
 obtain ⟨z1,hz,h⟩:=bnd h
 refine AW.mr (σ:=Unit) (fun _=>True) (fun _=>[(3,.d (.ptr [.b a0.1,.sl (L a0.2.1),.sl (L a0.2.2)])),(4,.d (.ptr [.b a1.1,.sl (L a1.2.1),.sl (L a1.2.2)])),(5,.d (.ptr [.b a2.1,.sl (L a2.2.1),.sl (L a2.2.2)])),(6,.d (.i .i64 0)),(26,.d (.b z1))]) (fun _=>[]) ?_ ?_
 ·skip
  refine .region ?_;refine vk (Aj Af Ad) ?_;refine vk (Ae (AC g1) Tryz.call19) ?_;refine vk (vnt) ?_
  rcases brc hz with ⟨hc,hz⟩|⟨hc,hz⟩
  ·have hb0:(!x1)=false:=(ntf hc)
   refine vk (VOK.lit (Aa) hb0) ?_;refine vk (Aj Af Ad) ?_
   obtain ⟨x3,g3,hz⟩:=bnd hz
   refine vk (Ae (AC g3) Tryz.call19) ?_;refine vk (vnt) ?_;refine vk (Ah) ?_
   rcases brc hz with ⟨hc,hz⟩|⟨hc,hz⟩
   ·have hb1:(!x3)=false:=(ntf hc)
    refine vk (VOK.lit (Aa) hb1) ?_;refine vk (Aj Af Ad) ?_
    obtain ⟨x4,g4,hz⟩:=bnd hz
    refine vk (Ae (AC g4) Tryz.call19) ?_;refine vk (vnt) ?_;refine vk (Ah) ?_;refine RL.gk [3,4,5,6,26] ?_;refine .nil ?_
    cases hz
    exact jr () trivial
   have hb1:(!x3)=true:=(ntt (bf hc))
   refine vk (VOK.lit (Aa) hb1) ?_;refine gf ?_;refine gf ?_;refine gf ?_;refine vk (Ah) ?_;refine RL.gk [3,4,5,6,26] ?_;refine .nil ?_
   cases hz
   exact jr () trivial
  have hb0:(!x1)=true:=(ntt (bf hc))
  refine vk (VOK.lit (Aa) hb0) ?_;refine gf ?_;refine gf ?_;refine gf ?_;refine vk (Ah) ?_;refine vk (Aa) ?_;refine gf ?_;refine gf ?_;refine gf ?_;refine vk (Ah) ?_;refine RL.gk [3,4,5,6,26] ?_;refine .nil ?_
  cases hz
  exact jr () trivial
 rintro _ _
 rcases brc h with ⟨hc,h⟩|⟨hc,h⟩
 ·refine cnt hc ?_
  refine .sr ?_;refine ar [3,4,5,6] ?_;refine .ret ?_
  cases h
  exact ⟨rfl,rfl⟩
 refine cnf (bf hc) ?_;refine .skip ?_
 show AW _ _ _ _ _ _
 refine .seq ?_
 obtain ⟨x5,g5,h⟩:=bnd h
 obtain ⟨x6,g6,h⟩:=bnd h
 obtain ⟨x7,g7,h⟩:=bnd h
 refine .drawnF 19 [18] [(7,.d (.sl (L x7.1)))] [] A4 (by kernel_rfl) rfl ?_;refine dv (vfa AA) ?_;refine dv (Ak AQ) ?_;refine dv (vfa Bg) ?_;refine dv (Ak AQ) ?_;refine dv ((Ae (Bn g5) Tryz.call126).deep) ?_;refine dv (vfa AT) ?_;refine dv (Ak AD) ?_;refine dv (vfa AA) ?_;refine dv (Ak AQ) ?_;refine dv (vfa Bg) ?_;refine dv (Ak AQ) ?_;refine dv ((Ae (Bn g6) Tryz.call126).deep) ?_;refine dv (vfa AT) ?_;refine dv (Ak AD) ?_;refine dv (vnt) ?_;refine dv (VOK.tupd (vs:=[.sl (L x7.1),.b x7.2]) (Ae (Gi g7) Tryz.call153)) ?_;refine dv (Aa) ?_;refine dv (vex) ?_;refine dv (vex) ?_;refine dz ?_
 refine ⟨?_,?_,?_⟩
 ·intro k hk
  simp only [List.mem_cons,List.not_mem_nil,or_false] at hk
  subst hk
  exact ⟨_,_,_,rfl,rfl,rfl,rfl,rfl,rfl,vex⟩
 ·intro om e hom hge
  cases hom
  exact Kr rfl ((hge 44 (fun k hk v hv=>by
    simp only [List.mem_cons,List.not_mem_nil,or_false] at hk
    subst hk;exact (by decide:¬(some 45=some 44)) (congrArg (Option.map Prod.fst) hv))).trans rfl) rfl ((congrArg Ao (hge 7 (fun k hk v hv=>by
    simp only [List.mem_cons,List.not_mem_nil,or_false] at hk
    subst hk;exact (by decide:¬(some 45=some 7)) (congrArg (Option.map Prod.fst) hv)))).trans rfl) rfl ⟨rfl,rfl⟩
 refine ar [3,4,5,6,7] ?_;refine .sr ?_;refine vk (vfa Bg) ?_;refine vk (Ak AQ) ?_;refine vk (vfa Bg) ?_;refine vk (Ak AQ) ?_
 obtain ⟨x8,g8,h⟩:=bnd h
 refine vk ((Ae (Bn g8) Tryz.call126).deep) ?_;refine ar [3,4,5,6,7,9] ?_;refine .seq ?_;refine .drawnF 4 [2,3] [(10,.d (.sl (L a1.2.1)))] [] A4 (by kernel_rfl) rfl ?_;refine dv (vfa AA) ?_;refine dv (Ak AQ) ?_;refine dv (vfa Bg) ?_;refine dv (Ak AQ) ?_;refine dz ?_
 refine ⟨?_,?_,?_⟩
 ·intro k hk
  simp only [List.mem_cons,List.not_mem_nil,or_false] at hk
  rcases hk with rfl|rfl
  ·exact ⟨_,_,_,rfl,rfl,rfl,rfl,rfl,rfl,(vfa Bg)⟩
  ·exact ⟨_,_,_,rfl,rfl,rfl,rfl,rfl,rfl,(Ak AQ)⟩
 ·intro om e hom hge
  cases hom
  exact Kr rfl ((hge 52 (fun k hk v hv=>by
    simp only [List.mem_cons,List.not_mem_nil,or_false] at hk
    rcases hk with rfl|rfl
    ·exact (by decide:¬(some 53=some 52)) (congrArg (Option.map Prod.fst) hv)
    ·exact (by decide:¬(some 54=some 52)) (congrArg (Option.map Prod.fst) hv))).trans rfl) rfl ((congrArg Ao (hge 10 (fun k hk v hv=>by
    simp only [List.mem_cons,List.not_mem_nil,or_false] at hk
    rcases hk with rfl|rfl
    ·exact (by decide:¬(some 53=some 10)) (congrArg (Option.map Prod.fst) hv)
    ·exact (by decide:¬(some 54=some 10)) (congrArg (Option.map Prod.fst) hv)))).trans rfl) rfl ⟨rfl,rfl⟩
 refine ar [3,4,5,6,7,9,10,11] ?_;refine .seq ?_;refine .seq ?_;refine .drawn 12 A4 (by kernel_rfl) ?_;refine dv (vfa AA) ?_;refine dv (Ak AQ) ?_;refine dv (vfa Bg) ?_;refine dv (Ak AQ) ?_
 obtain ⟨x9,g9,h⟩:=bnd h
 refine dv ((Ae (Bn g9) Tryz.call126).deep) ?_;refine dv (vfa AA) ?_;refine dv (Ak AQ) ?_;refine dv (vfa Bg) ?_;refine dv (Ak AQ) ?_
 obtain ⟨x10,g10,h⟩:=bnd h
 refine dv ((Ae (Bn g10) Tryz.call126).deep) ?_
 obtain ⟨x11,g11,h⟩:=bnd h
 refine dv (Ae (CO g11) Tryz.call42) ?_;refine dv (vbi) ?_;refine dz ?_;refine rk [3,4,5,6,7,9,10,11,66] ?_
 rcases brc h with ⟨hc,h⟩|⟨hc,h⟩
 ·refine cnt (dT hc) ?_
  refine .drawnF 4 [2,3] [(10,.d (.sl (L a2.2.1)))] [] A4 (by kernel_rfl) rfl ?_;refine dv (vfa AA) ?_;refine dv (Ak AQ) ?_;refine dv (vfa Bg) ?_;refine dv (Ak AQ) ?_;refine dz ?_
  refine ⟨?_,?_,?_⟩
  ·intro k hk
   simp only [List.mem_cons,List.not_mem_nil,or_false] at hk
   rcases hk with rfl|rfl
   ·exact ⟨_,_,_,rfl,rfl,rfl,rfl,rfl,rfl,(vfa Bg)⟩
   ·exact ⟨_,_,_,rfl,rfl,rfl,rfl,rfl,rfl,(Ak AQ)⟩
  ·intro om e hom hge
   cases hom
   exact Kr rfl ((hge 68 (fun k hk v hv=>by
     simp only [List.mem_cons,List.not_mem_nil,or_false] at hk
     rcases hk with rfl|rfl
     ·exact (by decide:¬(some 69=some 68)) (congrArg (Option.map Prod.fst) hv)
     ·exact (by decide:¬(some 70=some 68)) (congrArg (Option.map Prod.fst) hv))).trans rfl) rfl ((congrArg Ao (hge 10 (fun k hk v hv=>by
     simp only [List.mem_cons,List.not_mem_nil,or_false] at hk
     rcases hk with rfl|rfl
     ·exact (by decide:¬(some 69=some 10)) (congrArg (Option.map Prod.fst) hv)
     ·exact (by decide:¬(some 70=some 10)) (congrArg (Option.map Prod.fst) hv)))).trans rfl) rfl ⟨rfl,rfl⟩
  refine ar [3,4,5,6,7,9,10,11] ?_;refine .sr ?_;refine vk (Aa) ?_;refine vk (vfa Bg) ?_;refine vk (Ak AQ) ?_
  obtain ⟨x12,g12,h⟩:=bnd h
  refine vk ((Ae (Bn g12) Tryz.call126).deep) ?_;refine vk (Aa) ?_
  obtain ⟨x13,g13,h⟩:=bnd h
  refine vk ((Ae (Bn g13) Tryz.call126).deep) ?_;refine ar [3,4,5,6,7,9,10,12] ?_;refine .sr ?_;refine vk (vfa AA) ?_;refine vk (Ak AQ) ?_;refine vk (Aa) ?_
  obtain ⟨x14,g14,h⟩:=bnd h
  refine vk ((Ae (Bn g14) Tryz.call126).deep) ?_;refine vk (Aa) ?_
  obtain ⟨x15,g15,h⟩:=bnd h
  refine vk ((Ae (Bn g15) Tryz.call126).deep) ?_;refine ar [3,4,5,6,7,10,12,13] ?_;refine .seq ?_;refine .seq ?_
  obtain ⟨z16,hz,h⟩:=bnd h
  refine AW.mr (σ:=Unit) (fun _=>True) (fun _=>[(4,.d (.ptr [.b a1.1,.sl (L a1.2.1),.sl (L a1.2.2)])),(5,.d (.ptr [.b a2.1,.sl (L a2.2.1),.sl (L a2.2.2)])),(6,.d (.i .i64 0)),(115,.d (.b z16))]) (fun _=>[]) ?_ ?_
  ·skip
   refine .region ?_;refine vk (vfa AT) ?_;refine vk (Ak AD) ?_;refine vk (vnt) ?_
   rcases brc hz with ⟨hc,hz⟩|⟨hc,hz⟩
   ·have hb0:(!a0.1)=false:=(ntf hc)
    refine vk (VOK.lit (Aa) hb0) ?_;refine gf ?_;refine gf ?_;refine gf ?_;refine gf ?_;refine vk (Ah) ?_;refine vk (Aa) ?_;refine vk (Aa) ?_;refine vk (A7 (Ab _) (Ax _) B0) ?_;refine vk (vbi) ?_
    rcases brc hz with ⟨hc,hz⟩|⟨hc,hz⟩
    ·have hb1:(decide (((List.length x7.1:Nat):Int)=0))=true:=(dT hc)
     refine vk (VOK.lit (Aa) hb1) ?_;refine vk (Aa) ?_;refine vk (A7 (Ab _) (Ax _) B0) ?_;refine vk (vbi) ?_;refine vk (Ah) ?_;refine vk (Ah) ?_
     rcases brc hz with ⟨hc,hz⟩|⟨hc,hz⟩
     ·have hb2:(decide (((List.length a2.2.1:Nat):Int)=0))=true:=(dT hc)
      refine vk (VOK.lit (Aa) hb2) ?_;refine gf ?_;refine gf ?_;refine gfu ?_;refine gf ?_;refine gf ?_;refine gf ?_;refine gf ?_;refine gfu ?_;refine gf ?_;refine gf ?_;refine gf ?_;refine gf ?_;refine vk (Ah) ?_;refine RL.gk [4,5,6,115] ?_;refine .nil ?_
      cases hz
      exact jr () trivial
     have hb2:(decide (((List.length a2.2.1:Nat):Int)=0))=false:=(dF hc)
     refine vk (VOK.lit (Aa) hb2) ?_;refine vk (vfa AT) ?_;refine vk (Ak AD) ?_
     rcases brc hz with ⟨hc,hz⟩|⟨hc,hz⟩
     ·have hb3:a0.1=true:=hc
      refine vk (VOK.lit (Aa) hb3) ?_;refine vk (Aa) ?_;refine vk (A7 (Ab _) (Ax _) B0) ?_;refine vk (vbi) ?_;refine vk (Ah) ?_
      rcases brc hz with ⟨hc,hz⟩|⟨hc,hz⟩
      ·have hb4:(decide (((List.length x13:Nat):Int)=0))=true:=(dT hc)
       refine vk (VOK.lit (Aa) hb4) ?_;refine vk (Aa) ?_;refine vk (A7 (Ab _) (Ax _) B0) ?_;refine vk (vbi) ?_;refine vk (Ah) ?_;refine vk (Ah) ?_;refine RL.gk [4,5,6,115] ?_;refine .nil ?_
       cases hz
       exact jr () trivial
      have hb4:(decide (((List.length x13:Nat):Int)=0))=false:=(dF hc)
      refine vk (VOK.lit (Aa) hb4) ?_;refine gf ?_;refine gf ?_;refine gf ?_;refine vk (Ah) ?_;refine vk (Ah) ?_;refine RL.gk [4,5,6,115] ?_;refine .nil ?_
      cases hz
      exact jr () trivial
     have hb3:a0.1=false:=(bf hc)
     refine vk (VOK.lit (Aa) hb3) ?_;refine gf ?_;refine gf ?_;refine gf ?_;refine vk (Ah) ?_;refine vk (Aa) ?_;refine gf ?_;refine gf ?_;refine gf ?_;refine vk (Ah) ?_;refine vk (Ah) ?_;refine RL.gk [4,5,6,115] ?_;refine .nil ?_
     cases hz
     exact jr () trivial
    have hb1:(decide (((List.length x7.1:Nat):Int)=0))=false:=(dF hc)
    refine vk (VOK.lit (Aa) hb1) ?_;refine gf ?_;refine gf ?_;refine gf ?_;refine vk (Ah) ?_;refine vk (Ah) ?_;refine vk (Aa) ?_;refine vk (vfa AT) ?_;refine vk (Ak AD) ?_
    rcases brc hz with ⟨hc,hz⟩|⟨hc,hz⟩
    ·have hb2:a0.1=true:=hc
     refine vk (VOK.lit (Aa) hb2) ?_;refine vk (Aa) ?_;refine vk (A7 (Ab _) (Ax _) B0) ?_;refine vk (vbi) ?_;refine vk (Ah) ?_
     rcases brc hz with ⟨hc,hz⟩|⟨hc,hz⟩
     ·have hb3:(decide (((List.length x13:Nat):Int)=0))=true:=(dT hc)
      refine vk (VOK.lit (Aa) hb3) ?_;refine vk (Aa) ?_;refine vk (A7 (Ab _) (Ax _) B0) ?_;refine vk (vbi) ?_;refine vk (Ah) ?_;refine vk (Ah) ?_;refine RL.gk [4,5,6,115] ?_;refine .nil ?_
      cases hz
      exact jr () trivial
     have hb3:(decide (((List.length x13:Nat):Int)=0))=false:=(dF hc)
     refine vk (VOK.lit (Aa) hb3) ?_;refine gf ?_;refine gf ?_;refine gf ?_;refine vk (Ah) ?_;refine vk (Ah) ?_;refine RL.gk [4,5,6,115] ?_;refine .nil ?_
     cases hz
     exact jr () trivial
    have hb2:a0.1=false:=(bf hc)
    refine vk (VOK.lit (Aa) hb2) ?_;refine gf ?_;refine gf ?_;refine gf ?_;refine vk (Ah) ?_;refine vk (Aa) ?_;refine gf ?_;refine gf ?_;refine gf ?_;refine vk (Ah) ?_;refine vk (Ah) ?_;refine RL.gk [4,5,6,115] ?_;refine .nil ?_
    cases hz
    exact jr () trivial
   have hb0:(!a0.1)=true:=(ntt (bf hc))
   refine vk (VOK.lit (Aa) hb0) ?_;refine vk (Aa) ?_;refine vk (Aa) ?_
   obtain ⟨x17,g17,hz⟩:=bnd hz
   refine vk (Ae (CO g17) Tryz.call42) ?_;refine vk (vbi) ?_;refine vk (Ah) ?_
   rcases brc hz with ⟨hc,hz⟩|⟨hc,hz⟩
   ·have hb1:(decide (x17≤0))=true:=(dT hc)
    refine vk (VOK.lit (Aa) hb1) ?_;refine gf ?_;refine gf ?_;refine gf ?_;refine gfu ?_;refine gf ?_;refine gf ?_;refine gf ?_;refine gf ?_;refine vk (Ah) ?_;refine vk (Aa) ?_;refine gf ?_;refine gf ?_;refine gfu ?_;refine gf ?_;refine gf ?_;refine gf ?_;refine gf ?_;refine gfu ?_;refine gf ?_;refine gf ?_;refine gf ?_;refine gf ?_;refine vk (Ah) ?_;refine RL.gk [4,5,6,115] ?_;refine .nil ?_
    cases hz
    exact jr () trivial
   have hb1:(decide (x17≤0))=false:=(dF hc)
   refine vk (VOK.lit (Aa) hb1) ?_;refine vk (Aa) ?_;refine vk (A7 (Ab _) (Ax _) B0) ?_;refine vk (vbi) ?_
   rcases brc hz with ⟨hc,hz⟩|⟨hc,hz⟩
   ·have hb2:(decide (((List.length x7.1:Nat):Int)=0))=true:=(dT hc)
    refine vk (VOK.lit (Aa) hb2) ?_;refine vk (Aa) ?_;refine vk (A7 (Ab _) (Ax _) B0) ?_;refine vk (vbi) ?_;refine vk (Ah) ?_;refine vk (Ah) ?_
    rcases brc hz with ⟨hc,hz⟩|⟨hc,hz⟩
    ·have hb3:(decide (((List.length a2.2.1:Nat):Int)=0))=true:=(dT hc)
     refine vk (VOK.lit (Aa) hb3) ?_;refine gf ?_;refine gf ?_;refine gfu ?_;refine gf ?_;refine gf ?_;refine gf ?_;refine gf ?_;refine gfu ?_;refine gf ?_;refine gf ?_;refine gf ?_;refine gf ?_;refine vk (Ah) ?_;refine RL.gk [4,5,6,115] ?_;refine .nil ?_
     cases hz
     exact jr () trivial
    have hb3:(decide (((List.length a2.2.1:Nat):Int)=0))=false:=(dF hc)
    refine vk (VOK.lit (Aa) hb3) ?_;refine vk (vfa AT) ?_;refine vk (Ak AD) ?_
    rcases brc hz with ⟨hc,hz⟩|⟨hc,hz⟩
    ·have hb4:a0.1=true:=hc
     refine vk (VOK.lit (Aa) hb4) ?_;refine vk (Aa) ?_;refine vk (A7 (Ab _) (Ax _) B0) ?_;refine vk (vbi) ?_;refine vk (Ah) ?_
     rcases brc hz with ⟨hc,hz⟩|⟨hc,hz⟩
     ·have hb5:(decide (((List.length x13:Nat):Int)=0))=true:=(dT hc)
      refine vk (VOK.lit (Aa) hb5) ?_;refine vk (Aa) ?_;refine vk (A7 (Ab _) (Ax _) B0) ?_;refine vk (vbi) ?_;refine vk (Ah) ?_;refine vk (Ah) ?_;refine RL.gk [4,5,6,115] ?_;refine .nil ?_
      cases hz
      exact jr () trivial
     have hb5:(decide (((List.length x13:Nat):Int)=0))=false:=(dF hc)
     refine vk (VOK.lit (Aa) hb5) ?_;refine gf ?_;refine gf ?_;refine gf ?_;refine vk (Ah) ?_;refine vk (Ah) ?_;refine RL.gk [4,5,6,115] ?_;refine .nil ?_
     cases hz
     exact jr () trivial
    have hb4:a0.1=false:=(bf hc)
    refine vk (VOK.lit (Aa) hb4) ?_;refine gf ?_;refine gf ?_;refine gf ?_;refine vk (Ah) ?_;refine vk (Aa) ?_;refine gf ?_;refine gf ?_;refine gf ?_;refine vk (Ah) ?_;refine vk (Ah) ?_;refine RL.gk [4,5,6,115] ?_;refine .nil ?_
    cases hz
    exact jr () trivial
   have hb2:(decide (((List.length x7.1:Nat):Int)=0))=false:=(dF hc)
   refine vk (VOK.lit (Aa) hb2) ?_;refine gf ?_;refine gf ?_;refine gf ?_;refine vk (Ah) ?_;refine vk (Ah) ?_;refine vk (Aa) ?_;refine vk (vfa AT) ?_;refine vk (Ak AD) ?_
   rcases brc hz with ⟨hc,hz⟩|⟨hc,hz⟩
   ·have hb3:a0.1=true:=hc
    refine vk (VOK.lit (Aa) hb3) ?_;refine vk (Aa) ?_;refine vk (A7 (Ab _) (Ax _) B0) ?_;refine vk (vbi) ?_;refine vk (Ah) ?_
    rcases brc hz with ⟨hc,hz⟩|⟨hc,hz⟩
    ·have hb4:(decide (((List.length x13:Nat):Int)=0))=true:=(dT hc)
     refine vk (VOK.lit (Aa) hb4) ?_;refine vk (Aa) ?_;refine vk (A7 (Ab _) (Ax _) B0) ?_;refine vk (vbi) ?_;refine vk (Ah) ?_;refine vk (Ah) ?_;refine RL.gk [4,5,6,115] ?_;refine .nil ?_
     cases hz
     exact jr () trivial
    have hb4:(decide (((List.length x13:Nat):Int)=0))=false:=(dF hc)
    refine vk (VOK.lit (Aa) hb4) ?_;refine gf ?_;refine gf ?_;refine gf ?_;refine vk (Ah) ?_;refine vk (Ah) ?_;refine RL.gk [4,5,6,115] ?_;refine .nil ?_
    cases hz
    exact jr () trivial
   have hb3:a0.1=false:=(bf hc)
   refine vk (VOK.lit (Aa) hb3) ?_;refine gf ?_;refine gf ?_;refine gf ?_;refine vk (Ah) ?_;refine vk (Aa) ?_;refine gf ?_;refine gf ?_;refine gf ?_;refine vk (Ah) ?_;refine vk (Ah) ?_;refine RL.gk [4,5,6,115] ?_;refine .nil ?_
   cases hz
   exact jr () trivial
  rintro _ _
  rcases brc h with ⟨hc,h⟩|⟨hc,h⟩
  ·refine cnt hc ?_
   refine .sr ?_;refine ar [4,5,6] ?_;refine .ret ?_
   cases h
   exact ⟨rfl,rfl⟩
  refine cnf (bf hc) ?_;refine .skip ?_
  show AW _ _ _ _ _ _
  refine .sr ?_;refine vk (Aj Af Ad) ?_;refine vk (Aj Af Ad) ?_
  obtain ⟨x18,g18,h⟩:=bnd h
  refine vk (Ae (Eb g18) Tryz.call65) ?_;refine ar [6] ?_;refine .ret ?_
  cases h
  exact ⟨rfl,rfl⟩
 refine cnf (dF hc) ?_;refine .skip ?_
 show AW _ _ _ _ _ _
 refine .sr ?_;refine vk (Aa) ?_;refine vk (vfa Bg) ?_;refine vk (Ak AQ) ?_
 obtain ⟨x19,g19,h⟩:=bnd h
 refine vk ((Ae (Bn g19) Tryz.call126).deep) ?_;refine vk (Aa) ?_
 obtain ⟨x20,g20,h⟩:=bnd h
 refine vk ((Ae (Bn g20) Tryz.call126).deep) ?_;refine ar [3,4,5,6,7,9,10,12] ?_;refine .sr ?_;refine vk (vfa AA) ?_;refine vk (Ak AQ) ?_;refine vk (Aa) ?_
 obtain ⟨x21,g21,h⟩:=bnd h
 refine vk ((Ae (Bn g21) Tryz.call126).deep) ?_;refine vk (Aa) ?_
 obtain ⟨x22,g22,h⟩:=bnd h
 refine vk ((Ae (Bn g22) Tryz.call126).deep) ?_;refine ar [3,4,5,6,7,10,12,13] ?_;refine .seq ?_;refine .seq ?_
 obtain ⟨z23,hz,h⟩:=bnd h
 refine AW.mr (σ:=Unit) (fun _=>True) (fun _=>[(4,.d (.ptr [.b a1.1,.sl (L a1.2.1),.sl (L a1.2.2)])),(5,.d (.ptr [.b a2.1,.sl (L a2.2.1),.sl (L a2.2.2)])),(6,.d (.i .i64 0)),(115,.d (.b z23))]) (fun _=>[]) ?_ ?_
 ·skip
  refine .region ?_;refine vk (vfa AT) ?_;refine vk (Ak AD) ?_;refine vk (vnt) ?_
  rcases brc hz with ⟨hc,hz⟩|⟨hc,hz⟩
  ·have hb0:(!a0.1)=false:=(ntf hc)
   refine vk (VOK.lit (Aa) hb0) ?_;refine gf ?_;refine gf ?_;refine gf ?_;refine gf ?_;refine vk (Ah) ?_;refine vk (Aa) ?_;refine vk (Aa) ?_;refine vk (A7 (Ab _) (Ax _) B0) ?_;refine vk (vbi) ?_
   rcases brc hz with ⟨hc,hz⟩|⟨hc,hz⟩
   ·have hb1:(decide (((List.length x7.1:Nat):Int)=0))=true:=(dT hc)
    refine vk (VOK.lit (Aa) hb1) ?_;refine vk (Aa) ?_;refine vk (A7 (Ab _) (Ax _) B0) ?_;refine vk (vbi) ?_;refine vk (Ah) ?_;refine vk (Ah) ?_
    rcases brc hz with ⟨hc,hz⟩|⟨hc,hz⟩
    ·have hb2:(decide (((List.length a1.2.1:Nat):Int)=0))=true:=(dT hc)
     refine vk (VOK.lit (Aa) hb2) ?_;refine gf ?_;refine gf ?_;refine gfu ?_;refine gf ?_;refine gf ?_;refine gf ?_;refine gf ?_;refine gfu ?_;refine gf ?_;refine gf ?_;refine gf ?_;refine gf ?_;refine vk (Ah) ?_;refine RL.gk [4,5,6,115] ?_;refine .nil ?_
     cases hz
     exact jr () trivial
    have hb2:(decide (((List.length a1.2.1:Nat):Int)=0))=false:=(dF hc)
    refine vk (VOK.lit (Aa) hb2) ?_;refine vk (vfa AT) ?_;refine vk (Ak AD) ?_
    rcases brc hz with ⟨hc,hz⟩|⟨hc,hz⟩
    ·have hb3:a0.1=true:=hc
     refine vk (VOK.lit (Aa) hb3) ?_;refine vk (Aa) ?_;refine vk (A7 (Ab _) (Ax _) B0) ?_;refine vk (vbi) ?_;refine vk (Ah) ?_
     rcases brc hz with ⟨hc,hz⟩|⟨hc,hz⟩
     ·have hb4:(decide (((List.length x20:Nat):Int)=0))=true:=(dT hc)
      refine vk (VOK.lit (Aa) hb4) ?_;refine vk (Aa) ?_;refine vk (A7 (Ab _) (Ax _) B0) ?_;refine vk (vbi) ?_;refine vk (Ah) ?_;refine vk (Ah) ?_;refine RL.gk [4,5,6,115] ?_;refine .nil ?_
      cases hz
      exact jr () trivial
     have hb4:(decide (((List.length x20:Nat):Int)=0))=false:=(dF hc)
     refine vk (VOK.lit (Aa) hb4) ?_;refine gf ?_;refine gf ?_;refine gf ?_;refine vk (Ah) ?_;refine vk (Ah) ?_;refine RL.gk [4,5,6,115] ?_;refine .nil ?_
     cases hz
     exact jr () trivial
    have hb3:a0.1=false:=(bf hc)
    refine vk (VOK.lit (Aa) hb3) ?_;refine gf ?_;refine gf ?_;refine gf ?_;refine vk (Ah) ?_;refine vk (Aa) ?_;refine gf ?_;refine gf ?_;refine gf ?_;refine vk (Ah) ?_;refine vk (Ah) ?_;refine RL.gk [4,5,6,115] ?_;refine .nil ?_
    cases hz
    exact jr () trivial
   have hb1:(decide (((List.length x7.1:Nat):Int)=0))=false:=(dF hc)
   refine vk (VOK.lit (Aa) hb1) ?_;refine gf ?_;refine gf ?_;refine gf ?_;refine vk (Ah) ?_;refine vk (Ah) ?_;refine vk (Aa) ?_;refine vk (vfa AT) ?_;refine vk (Ak AD) ?_
   rcases brc hz with ⟨hc,hz⟩|⟨hc,hz⟩
   ·have hb2:a0.1=true:=hc
    refine vk (VOK.lit (Aa) hb2) ?_;refine vk (Aa) ?_;refine vk (A7 (Ab _) (Ax _) B0) ?_;refine vk (vbi) ?_;refine vk (Ah) ?_
    rcases brc hz with ⟨hc,hz⟩|⟨hc,hz⟩
    ·have hb3:(decide (((List.length x20:Nat):Int)=0))=true:=(dT hc)
     refine vk (VOK.lit (Aa) hb3) ?_;refine vk (Aa) ?_;refine vk (A7 (Ab _) (Ax _) B0) ?_;refine vk (vbi) ?_;refine vk (Ah) ?_;refine vk (Ah) ?_;refine RL.gk [4,5,6,115] ?_;refine .nil ?_
     cases hz
     exact jr () trivial
    have hb3:(decide (((List.length x20:Nat):Int)=0))=false:=(dF hc)
    refine vk (VOK.lit (Aa) hb3) ?_;refine gf ?_;refine gf ?_;refine gf ?_;refine vk (Ah) ?_;refine vk (Ah) ?_;refine RL.gk [4,5,6,115] ?_;refine .nil ?_
    cases hz
    exact jr () trivial
   have hb2:a0.1=false:=(bf hc)
   refine vk (VOK.lit (Aa) hb2) ?_;refine gf ?_;refine gf ?_;refine gf ?_;refine vk (Ah) ?_;refine vk (Aa) ?_;refine gf ?_;refine gf ?_;refine gf ?_;refine vk (Ah) ?_;refine vk (Ah) ?_;refine RL.gk [4,5,6,115] ?_;refine .nil ?_
   cases hz
   exact jr () trivial
  have hb0:(!a0.1)=true:=(ntt (bf hc))
  refine vk (VOK.lit (Aa) hb0) ?_;refine vk (Aa) ?_;refine vk (Aa) ?_
  obtain ⟨x24,g24,hz⟩:=bnd hz
  refine vk (Ae (CO g24) Tryz.call42) ?_;refine vk (vbi) ?_;refine vk (Ah) ?_
  rcases brc hz with ⟨hc,hz⟩|⟨hc,hz⟩
  ·have hb1:(decide (x24≤0))=true:=(dT hc)
   refine vk (VOK.lit (Aa) hb1) ?_;refine gf ?_;refine gf ?_;refine gf ?_;refine gfu ?_;refine gf ?_;refine gf ?_;refine gf ?_;refine gf ?_;refine vk (Ah) ?_;refine vk (Aa) ?_;refine gf ?_;refine gf ?_;refine gfu ?_;refine gf ?_;refine gf ?_;refine gf ?_;refine gf ?_;refine gfu ?_;refine gf ?_;refine gf ?_;refine gf ?_;refine gf ?_;refine vk (Ah) ?_;refine RL.gk [4,5,6,115] ?_;refine .nil ?_
   cases hz
   exact jr () trivial
  have hb1:(decide (x24≤0))=false:=(dF hc)
  refine vk (VOK.lit (Aa) hb1) ?_;refine vk (Aa) ?_;refine vk (A7 (Ab _) (Ax _) B0) ?_;refine vk (vbi) ?_
  rcases brc hz with ⟨hc,hz⟩|⟨hc,hz⟩
  ·have hb2:(decide (((List.length x7.1:Nat):Int)=0))=true:=(dT hc)
   refine vk (VOK.lit (Aa) hb2) ?_;refine vk (Aa) ?_;refine vk (A7 (Ab _) (Ax _) B0) ?_;refine vk (vbi) ?_;refine vk (Ah) ?_;refine vk (Ah) ?_
   rcases brc hz with ⟨hc,hz⟩|⟨hc,hz⟩
   ·have hb3:(decide (((List.length a1.2.1:Nat):Int)=0))=true:=(dT hc)
    refine vk (VOK.lit (Aa) hb3) ?_;refine gf ?_;refine gf ?_;refine gfu ?_;refine gf ?_;refine gf ?_;refine gf ?_;refine gf ?_;refine gfu ?_;refine gf ?_;refine gf ?_;refine gf ?_;refine gf ?_;refine vk (Ah) ?_;refine RL.gk [4,5,6,115] ?_;refine .nil ?_
    cases hz
    exact jr () trivial
   have hb3:(decide (((List.length a1.2.1:Nat):Int)=0))=false:=(dF hc)
   refine vk (VOK.lit (Aa) hb3) ?_;refine vk (vfa AT) ?_;refine vk (Ak AD) ?_
   rcases brc hz with ⟨hc,hz⟩|⟨hc,hz⟩
   ·have hb4:a0.1=true:=hc
    refine vk (VOK.lit (Aa) hb4) ?_;refine vk (Aa) ?_;refine vk (A7 (Ab _) (Ax _) B0) ?_;refine vk (vbi) ?_;refine vk (Ah) ?_
    rcases brc hz with ⟨hc,hz⟩|⟨hc,hz⟩
    ·have hb5:(decide (((List.length x20:Nat):Int)=0))=true:=(dT hc)
     refine vk (VOK.lit (Aa) hb5) ?_;refine vk (Aa) ?_;refine vk (A7 (Ab _) (Ax _) B0) ?_;refine vk (vbi) ?_;refine vk (Ah) ?_;refine vk (Ah) ?_;refine RL.gk [4,5,6,115] ?_;refine .nil ?_
     cases hz
     exact jr () trivial
    have hb5:(decide (((List.length x20:Nat):Int)=0))=false:=(dF hc)
    refine vk (VOK.lit (Aa) hb5) ?_;refine gf ?_;refine gf ?_;refine gf ?_;refine vk (Ah) ?_;refine vk (Ah) ?_;refine RL.gk [4,5,6,115] ?_;refine .nil ?_
    cases hz
    exact jr () trivial
   have hb4:a0.1=false:=(bf hc)
   refine vk (VOK.lit (Aa) hb4) ?_;refine gf ?_;refine gf ?_;refine gf ?_;refine vk (Ah) ?_;refine vk (Aa) ?_;refine gf ?_;refine gf ?_;refine gf ?_;refine vk (Ah) ?_;refine vk (Ah) ?_;refine RL.gk [4,5,6,115] ?_;refine .nil ?_
   cases hz
   exact jr () trivial
  have hb2:(decide (((List.length x7.1:Nat):Int)=0))=false:=(dF hc)
  refine vk (VOK.lit (Aa) hb2) ?_;refine gf ?_;refine gf ?_;refine gf ?_;refine vk (Ah) ?_;refine vk (Ah) ?_;refine vk (Aa) ?_;refine vk (vfa AT) ?_;refine vk (Ak AD) ?_
  rcases brc hz with ⟨hc,hz⟩|⟨hc,hz⟩
  ·have hb3:a0.1=true:=hc
   refine vk (VOK.lit (Aa) hb3) ?_;refine vk (Aa) ?_;refine vk (A7 (Ab _) (Ax _) B0) ?_;refine vk (vbi) ?_;refine vk (Ah) ?_
   rcases brc hz with ⟨hc,hz⟩|⟨hc,hz⟩
   ·have hb4:(decide (((List.length x20:Nat):Int)=0))=true:=(dT hc)
    refine vk (VOK.lit (Aa) hb4) ?_;refine vk (Aa) ?_;refine vk (A7 (Ab _) (Ax _) B0) ?_;refine vk (vbi) ?_;refine vk (Ah) ?_;refine vk (Ah) ?_;refine RL.gk [4,5,6,115] ?_;refine .nil ?_
    cases hz
    exact jr () trivial
   have hb4:(decide (((List.length x20:Nat):Int)=0))=false:=(dF hc)
   refine vk (VOK.lit (Aa) hb4) ?_;refine gf ?_;refine gf ?_;refine gf ?_;refine vk (Ah) ?_;refine vk (Ah) ?_;refine RL.gk [4,5,6,115] ?_;refine .nil ?_
   cases hz
   exact jr () trivial
  have hb3:a0.1=false:=(bf hc)
  refine vk (VOK.lit (Aa) hb3) ?_;refine gf ?_;refine gf ?_;refine gf ?_;refine vk (Ah) ?_;refine vk (Aa) ?_;refine gf ?_;refine gf ?_;refine gf ?_;refine vk (Ah) ?_;refine vk (Ah) ?_;refine RL.gk [4,5,6,115] ?_;refine .nil ?_
  cases hz
  exact jr () trivial
 rintro _ _
 rcases brc h with ⟨hc,h⟩|⟨hc,h⟩
 ·refine cnt hc ?_
  refine .sr ?_;refine ar [4,5,6] ?_;refine .ret ?_
  cases h
  exact ⟨rfl,rfl⟩
 refine cnf (bf hc) ?_;refine .skip ?_
 show AW _ _ _ _ _ _
 refine .sr ?_;refine vk (Aj Af Ad) ?_;refine vk (Aj Af Ad) ?_
 obtain ⟨x25,g25,h⟩:=bnd h
 refine vk (Ae (Eb g25) Tryz.call65) ?_;refine ar [6] ?_;refine .ret ?_
 cases h
 exact ⟨rfl,rfl⟩
theorem F3 {a:RT} (ha:Dc a=true) : Ds a=some a:=by
 obtain ⟨_,_,h1,h2⟩:=Lj.1 ha
 unfold Ds
 rw [YW (by simp;omega),oB,YW (by simp;omega)];rfl
def D0 (a0:Int) (a1:ByteArray) (K0:Bool→Option (Bool)) : Nat→Bool→Nat→Option (Bool)
 | 0,_,_=>none
 | k+1,s2,s3=>(if s3<ByteArray.size a1 then (if (W4 a1 s3)=a0 then (some (true)) else (D0 a0 a1 K0 k s2 (HX a1 s3))) else (K0 s2))
def H0 (a0:Int) (a1:ByteArray) : Option (Bool):=(jn (fun (z1:Bool)=>(some (false))) fun K0=>(D0 a0 a1 K0 Cm false 0))
theorem MO {a0:Int} {a1:ByteArray} {r:Bool} (h:H0 a0 a1=some r) :
  Fn Tryz.prog 122 [.i .i32 a0,.s a1] (.d (.b r)):=by
 unfold H0 at h
 refine Fn.o1 4 15 Tryz.func122 ?_;refine .sr ?_;refine ar [0,1,4] ?_;refine .seq ?_;refine .sr ?_;refine vk (Aa) ?_;refine vk (Abg st) ?_;refine rk [0,4,8] ?_
 obtain ⟨K0,hK0,h⟩:=Du h
 refine AW.mr (σ:=Bool) (fun p=>K0 p=some r) (fun p=>[(4,.d (.b p))]) (fun p=>[]) ?_ ?_
 ·skip
  refine .block ?_
  refine .loop (.gk [0,4,8] ?_)
  refine AL.ind (σ:=Nat×Bool×Nat) (m:=fun p=>p.1) (e:=fun p=>[(0,.d (.i .i32 a0)),(4,.d (.b p.2.1)),(8,.it a1 p.2.2)]) (h:=fun p=>[]) (I:=fun p=>D0 a0 a1 K0 p.1 p.2.1 p.2.2=some r) ?_ (Cm,false,0) h
  rintro ⟨k,s2,s3⟩ h ih
  dsimp only at h ih ⊢
  rcases k with _|k
  ·rw [D0] at h;cases h
  rw [D0] at h
  refine .sr ?_
  rcases brc h with ⟨hc,h⟩|⟨hc,h⟩
  ·refine nxt ?_ hc
   refine vk (vex) ?_;refine rk [0,4,8,9,10] ?_;refine .seq ?_;refine AR ?_;refine .skip ?_
   show AW _ _ _ _ _ _
   refine .block ?_;refine .sr ?_;refine vk (vex) ?_;refine ar [0,4,6,8] ?_;refine .sr ?_;refine vk (Aa) ?_;refine vk (Aa) ?_;refine vk (vbi) ?_;refine rk [0,4,8,14] ?_
   rcases brc h with ⟨hc,h⟩|⟨hc,h⟩
   ·refine cnt (dT hc) ?_
    refine .sr ?_;refine ar [0,4,8] ?_;refine .ret ?_
    cases h
    exact ⟨rfl,rfl⟩
   refine cnf (dF hc) ?_;refine .gk [0,4,8] ?_;refine .skip ?_
   exact ih (k,s2,(HX a1 s3)) h (Nat.lt_succ_self _)
  refine nxe ?_ hc
  refine vk (vex) ?_;refine rk [0,4,8,9,10] ?_;refine .seq ?_;refine AS ?_;refine .gk [4] ?_;refine .exit ?_
  exact jr (s2) h
 rintro z1 h
 try dsimp only at h ⊢
 subst hK0
 show AW _ _ _ _ _ _
 refine .sr ?_;refine ar [4] ?_;refine .ret ?_
 cases h
 exact ⟨rfl,rfl⟩
def DC (a0:Int) : Option (Bool):=((H0 a0 (⟨#[43,45,195,151,195,183,226,140,136,226,140,138,124,42,33,126]⟩ : ByteArray)).bind fun x1=>(some (x1)))
theorem KJ {a0:Int} {r:Bool} (h:DC a0=some r) :
  Fn Tryz.prog 46 [.i .i32 a0] (.d (.b r)):=by
 unfold DC at h
 refine Fn.o1 2 5 Tryz.func46 ?_;refine .sr ?_;refine ar [0,2] ?_;refine .sr ?_;refine vk (Aa) ?_
 obtain ⟨x1,g1,h⟩:=bnd h
 refine vk (Ae (MO g1) Tryz.call122) ?_;refine ar [2] ?_;refine .ret ?_
 cases h
 exact ⟨rfl,rfl⟩
def D1 (a0:Int) : Option (Bool):=((H0 a0 (⟨#[43,45,195,151,195,183,226,140,136,226,140,138,124,42,33,60,226,137,164,61,226,137,165,62,226,137,160,226,136,167,226,136,168,226,141,178,226,141,177]⟩ : ByteArray)).bind fun x1=>(some (x1)))
theorem Li {a0:Int} {r:Bool} (h:D1 a0=some r) :
  Fn Tryz.prog 60 [.i .i32 a0] (.d (.b r)):=by
 unfold D1 at h
 refine Fn.o1 2 5 Tryz.func60 ?_;refine .sr ?_;refine ar [0,2] ?_;refine .sr ?_;refine vk (Aa) ?_
 obtain ⟨x1,g1,h⟩:=bnd h
 refine vk (Ae (MO g1) Tryz.call122) ?_;refine ar [2] ?_;refine .ret ?_
 cases h
 exact ⟨rfl,rfl⟩
def A3 (a0:Bool) : Option (RT):=(if a0=true then ((Ci 1).bind fun x1=>(some (x1))) else (Hd.bind fun x2=>(some (x2))))
theorem A0 {a0:Bool} {r:RT} (h:A3 a0=some r) :
  Fn Tryz.prog 57 [.b a0] (.d (.ag [.b r.1,.sl (L r.2.1),.sl (L r.2.2)])):=by
 unfold A3 at h
 refine Fn.ofC (rs:=[.cell 2 32]) (nt:=6) Tryz.func57 rfl rfl rfl (by simp) rfl ?_;refine .sr ?_;refine vk (van (Ai AG) AH) ?_;refine rk [0,2] ?_;refine .seq ?_;refine .sr ?_;refine vk (Aa) ?_;refine rk [2,3] ?_
 rcases brc h with ⟨hc,h⟩|⟨hc,h⟩
 ·refine cnt hc ?_
  refine .sr ?_
  obtain ⟨x1,g1,h⟩:=bnd h
  refine vk (Ae (CH g1) Tryz.call49) ?_
  refine stn ?_ Ad (by decide)
  refine rk [2] ?_;refine .ret ?_
  cases h
  exact ⟨_,⟨.inr rfl,Af,Ad,p3⟩,rfl⟩
 refine cnf (bf hc) ?_;refine .skip ?_
 show AW _ _ _ _ _ _
 refine .sr ?_
 obtain ⟨x2,g2,h⟩:=bnd h
 refine vk (Ae (Gf g2) Tryz.call33) ?_
 refine stn ?_ Ad (by decide)
 refine rk [2] ?_;refine .ret ?_
 cases h
 exact ⟨_,⟨.inr rfl,Af,Ad,p3⟩,rfl⟩
def DU (a0:RT) : Option (Bool):=(Hd.bind fun x1=>((FZ a0 x1).bind fun x2=>(Option.bind ((if x2=true then (some true) else ((Ci 1).bind fun x4=>((FZ a0 x4).bind fun x5=>(some x5)))) : Option (Bool)) fun (z1:Bool)=>(some (z1)))))
theorem Hb {a0:RT} {r:Bool} (h:DU a0=some r) :
  Fn Tryz.prog 56 [.ag [.b a0.1,.sl (L a0.2.1),.sl (L a0.2.2)]] (.d (.b r)):=by
 unfold DU at h
 refine Fn.o1 2 11 Tryz.func56 ?_;refine .sr ?_;refine vk (vbx) ?_;refine ar [1,2] ?_;refine .seq ?_
 obtain ⟨x1,g1,h⟩:=bnd h
 obtain ⟨x2,g2,h⟩:=bnd h
 obtain ⟨z1,hz,h⟩:=bnd h
 refine AW.mr (σ:=Unit) (fun _=>True) (fun _=>[(2,.d (.b z1))]) (fun _=>[]) ?_ ?_
 ·skip
  refine .drawn 8 A4 (by kernel_rfl) ?_;refine dv (Aj Af Ad) ?_;refine dv (Ae (Gf g1) Tryz.call33) ?_;refine dv (Ae (Hx g2) Tryz.call23) ?_
  rcases brc hz with ⟨hc,hz⟩|⟨hc,hz⟩
  ·have hb0:x2=true:=hc
   refine dv (VOK.lit (Aa) hb0) ?_;refine dgf ?_;refine dgf ?_;refine dgf ?_;refine dv (Ah) ?_;refine dz ?_;refine asd ?_;refine RL.gk [2] ?_;refine .nil ?_
   cases hz
   exact jr () trivial
  have hb0:x2=false:=(bf hc)
  refine dv (VOK.lit (Aa) hb0) ?_;refine dv (Aj Af Ad) ?_
  obtain ⟨x4,g4,hz⟩:=bnd hz
  refine dv (Ae (CH g4) Tryz.call49) ?_
  obtain ⟨x5,g5,hz⟩:=bnd hz
  refine dv (Ae (Hx g5) Tryz.call23) ?_;refine dv (Ah) ?_;refine dz ?_;refine asd ?_;refine RL.gk [2] ?_;refine .nil ?_
  cases hz
  exact jr () trivial
 rintro _ _
 refine .ret ?_
 cases h
 exact ⟨rfl,rfl⟩
def G7 (a0:Int) (a1:RT) (a2:RT) : Option (RT×Int):=((DU a1).bind fun x1=>(Option.bind ((if x1=true then ((DU a2).bind fun x3=>(some (!x3))) else (some true)) : Option (Bool)) fun (z1:Bool)=>(if z1=true then (some ((false,[],[]),3)) else (if a0=8743 then (Option.bind ((if 0<((List.length a1.2.1:Nat) : Int) then ((A3 (decide (0<((List.length a2.2.1:Nat) : Int)))).bind fun x5=>(some x5)) else ((A3 false).bind fun x6=>(some x6))) : Option (RT)) fun (z4:RT)=>(some (z4,0))) else (if a0=8744 then (Option.bind ((if 0<((List.length a1.2.1:Nat) : Int) then ((A3 true).bind fun x8=>(some x8)) else ((A3 (decide (0<((List.length a2.2.1:Nat) : Int)))).bind fun x9=>(some x9))) : Option (RT)) fun (z7:RT)=>(some (z7,0))) else (if a0=9074 then (Option.bind ((if 0<((List.length a1.2.1:Nat) : Int) then ((A3 (!(decide (0<((List.length a2.2.1:Nat) : Int))))).bind fun x11=>(some x11)) else ((A3 true).bind fun x12=>(some x12))) : Option (RT)) fun (z10:RT)=>(some (z10,0))) else (Option.bind ((if 0<((List.length a1.2.1:Nat) : Int) then ((A3 false).bind fun x14=>(some x14)) else ((A3 (!(decide (0<((List.length a2.2.1:Nat) : Int))))).bind fun x15=>(some x15))) : Option (RT)) fun (z13:RT)=>(some (z13,0)))))))))
theorem OE {a0:Int} {a1:RT} {a2:RT} {r:RT×Int} (h:G7 a0 a1 a2=some r) :
  Fn Tryz.prog 69 [.i .i32 a0,.ag [.b a1.1,.sl (L a1.2.1),.sl (L a1.2.2)],.ag [.b a2.1,.sl (L a2.2.1),.sl (L a2.2.2)]] (.tup [.d (.ag [.b r.1.1,.sl (L r.1.2.1),.sl (L r.1.2.2)]),.d (.i .i64 r.2)]):=by
 unfold G7 at h
 refine Fn.ofC (rs:=[.cell 6 32,.tmp 7]) (nt:=56) Tryz.func69 rfl rfl rfl (by simp) rfl ?_;refine .sr ?_;refine vk (vbx) ?_;refine vk (vbx) ?_;refine vk (van (Ai AG) AH) ?_;refine ar [0,4,5,6,7] ?_;refine .seq ?_;refine .seq ?_
 obtain ⟨x1,g1,h⟩:=bnd h
 obtain ⟨z1,hz,h⟩:=bnd h
 refine AW.mr (σ:=Unit) (fun _=>True) (fun _=>[(0,.d (.i .i32 a0)),(4,.d (.ptr [.b a1.1,.sl (L a1.2.1),.sl (L a1.2.2)])),(5,.d (.ptr [.b a2.1,.sl (L a2.2.1),.sl (L a2.2.2)])),(6,.nb [.b false,.sl (L []),.sl (L [])]),(7,.d (.i .i64 0)),(17,.d (.b z1))]) (fun _=>[]) ?_ ?_
 ·skip
  refine .region ?_;refine vk (Aj Af Ad) ?_;refine vk (Ae (Hb g1) Tryz.call56) ?_;refine vk (vnt) ?_
  rcases brc hz with ⟨hc,hz⟩|⟨hc,hz⟩
  ·have hb0:(!x1)=false:=(ntf hc)
   refine vk (VOK.lit (Aa) hb0) ?_;refine vk (Aj Af Ad) ?_
   obtain ⟨x3,g3,hz⟩:=bnd hz
   refine vk (Ae (Hb g3) Tryz.call56) ?_;refine vk (vnt) ?_;refine vk (Ah) ?_;refine RL.gk [0,4,5,6,7,17] ?_;refine .nil ?_
   cases hz
   exact jr () trivial
  have hb0:(!x1)=true:=(ntt (bf hc))
  refine vk (VOK.lit (Aa) hb0) ?_;refine gf ?_;refine gf ?_;refine gf ?_;refine vk (Ah) ?_;refine RL.gk [0,4,5,6,7,17] ?_;refine .nil ?_
  cases hz
  exact jr () trivial
 rintro _ _
 rcases brc h with ⟨hc,h⟩|⟨hc,h⟩
 ·refine cnt hc ?_
  refine .sr ?_;refine vk (vbd Bq AG AH) ?_
  refine stn ?_ Ad (by decide)
  refine ar [0,4,5,6,7] ?_;refine .ret ?_
  cases h
  exact ⟨_,_,⟨.inr rfl,Af,Ad,p3⟩,rfl,rfl⟩
 refine cnf (bf hc) ?_;refine .skip ?_
 show AW _ _ _ _ _ _
 refine .seq ?_;refine .drawnF 8 [4,5,6,7] [(8,.d (.b (decide (0<((List.length a1.2.1:Nat):Int)))))] [] A4 (by kernel_rfl) rfl ?_;refine dv (vfa AA) ?_;refine dv (Ak AQ) ?_;refine dv (A7 (Ab _) (Ax _) B0) ?_;refine dv (vbi) ?_;refine dv (vfa AA) ?_;refine dv (Ak AQ) ?_;refine dv (A7 (Ab _) (Ax _) B0) ?_;refine dv (vbi) ?_;refine dz ?_
 refine ⟨?_,?_,?_⟩
 ·intro k hk
  simp only [List.mem_cons,List.not_mem_nil,or_false] at hk
  rcases hk with rfl|rfl|rfl|rfl
  ·exact ⟨_,_,_,rfl,rfl,rfl,rfl,rfl,rfl,(vfa AA)⟩
  ·exact ⟨_,_,_,rfl,rfl,rfl,rfl,rfl,rfl,(Ak AQ)⟩
  ·exact ⟨_,_,_,rfl,rfl,rfl,rfl,rfl,rfl,(A7 (Ab _) (Ax _) B0)⟩
  ·exact ⟨_,_,_,rfl,rfl,rfl,rfl,rfl,rfl,vbi⟩
 ·intro om e hom hge
  cases hom
  exact Kr rfl ((hge 22 (fun k hk v hv=>by
    simp only [List.mem_cons,List.not_mem_nil,or_false] at hk
    rcases hk with rfl|rfl|rfl|rfl
    ·exact (by decide:¬(some 23=some 22)) (congrArg (Option.map Prod.fst) hv)
    ·exact (by decide:¬(some 24=some 22)) (congrArg (Option.map Prod.fst) hv)
    ·exact (by decide:¬(some 25=some 22)) (congrArg (Option.map Prod.fst) hv)
    ·exact (by decide:¬(some 26=some 22)) (congrArg (Option.map Prod.fst) hv))).trans rfl) rfl ((congrArg Ao (hge 8 (fun k hk v hv=>by
    simp only [List.mem_cons,List.not_mem_nil,or_false] at hk
    rcases hk with rfl|rfl|rfl|rfl
    ·exact (by decide:¬(some 23=some 8)) (congrArg (Option.map Prod.fst) hv)
    ·exact (by decide:¬(some 24=some 8)) (congrArg (Option.map Prod.fst) hv)
    ·exact (by decide:¬(some 25=some 8)) (congrArg (Option.map Prod.fst) hv)
    ·exact (by decide:¬(some 26=some 8)) (congrArg (Option.map Prod.fst) hv)))).trans rfl) rfl ⟨rfl,rfl⟩
 refine ar [0,6,7,8,9] ?_;refine .seq ?_;refine .sr ?_;refine vk (Aa) ?_;refine rk [6,7,8,9,27] ?_;refine .block ?_;refine .sr ?_;refine vk (vbi) ?_;refine ar [6,7,8,9,27,28] ?_
 rcases brc h with ⟨hc,h⟩|⟨hc,h⟩
 ·refine cnt (dT hc) ?_
  refine .seq ?_
  obtain ⟨z4,hz,h⟩:=bnd h
  refine AW.mr (σ:=Unit) (fun _=>True) (fun _=>[(6,.nb [.b z4.1,.sl (L z4.2.1),.sl (L z4.2.2)]),(7,.d (.i .i64 0)),(8,.d (.b (decide (0<((List.length a1.2.1:Nat):Int))))),(9,.d (.b (decide (0<((List.length a2.2.1:Nat):Int)))))]) (fun _=>[]) ?_ ?_
  ·skip
   refine .region ?_;refine vk (Aa) ?_
   rcases brc hz with ⟨hc,hz⟩|⟨hc,hz⟩
   ·have hb0:(decide (0<((List.length a1.2.1:Nat):Int)))=true:=(dT hc)
    refine vk (VOK.lit (Aa) hb0) ?_;refine vk (Aa) ?_;refine vk (Ah) ?_
    obtain ⟨x5,g5,hz⟩:=bnd hz
    refine vk (Ae (A0 g5) Tryz.call57) ?_
    refine stn ?_ Ad (by decide)
    refine asd ?_;refine RL.gk [6,7,8,9] ?_;refine .nil ?_
    cases hz
    exact jr () trivial
   have hb0:(decide (0<((List.length a1.2.1:Nat):Int)))=false:=(dF hc)
   refine vk (VOK.lit (Aa) hb0) ?_;refine gf ?_;refine vk (Ah) ?_
   obtain ⟨x6,g6,hz⟩:=bnd hz
   refine vk (Ae (A0 g6) Tryz.call57) ?_
   refine stn ?_ Ad (by decide)
   refine asd ?_;refine RL.gk [6,7,8,9] ?_;refine .nil ?_
   cases hz
   exact jr () trivial
  rintro _ _
  refine .ret ?_
  cases h
  exact ⟨_,_,⟨.inr rfl,Af,Ad,p3⟩,rfl,rfl⟩
 refine cnf (dF hc) ?_;refine .sr ?_;refine vk (vbi) ?_;refine ar [6,7,8,9,27,35] ?_
 rcases brc h with ⟨hc,h⟩|⟨hc,h⟩
 ·refine cnt (dT hc) ?_
  refine .seq ?_
  obtain ⟨z7,hz,h⟩:=bnd h
  refine AW.mr (σ:=Unit) (fun _=>True) (fun _=>[(6,.nb [.b z7.1,.sl (L z7.2.1),.sl (L z7.2.2)]),(7,.d (.i .i64 0)),(8,.d (.b (decide (0<((List.length a1.2.1:Nat):Int))))),(9,.d (.b (decide (0<((List.length a2.2.1:Nat):Int)))))]) (fun _=>[]) ?_ ?_
  ·skip
   refine .region ?_;refine vk (Aa) ?_
   rcases brc hz with ⟨hc,hz⟩|⟨hc,hz⟩
   ·have hb0:(decide (0<((List.length a1.2.1:Nat):Int)))=true:=(dT hc)
    refine vk (VOK.lit (Aa) hb0) ?_;refine gf ?_;refine vk (Ah) ?_
    obtain ⟨x8,g8,hz⟩:=bnd hz
    refine vk (Ae (A0 g8) Tryz.call57) ?_
    refine stn ?_ Ad (by decide)
    refine asd ?_;refine RL.gk [6,7,8,9] ?_;refine .nil ?_
    cases hz
    exact jr () trivial
   have hb0:(decide (0<((List.length a1.2.1:Nat):Int)))=false:=(dF hc)
   refine vk (VOK.lit (Aa) hb0) ?_;refine vk (Aa) ?_;refine vk (Ah) ?_
   obtain ⟨x9,g9,hz⟩:=bnd hz
   refine vk (Ae (A0 g9) Tryz.call57) ?_
   refine stn ?_ Ad (by decide)
   refine asd ?_;refine RL.gk [6,7,8,9] ?_;refine .nil ?_
   cases hz
   exact jr () trivial
  rintro _ _
  refine .ret ?_
  cases h
  exact ⟨_,_,⟨.inr rfl,Af,Ad,p3⟩,rfl,rfl⟩
 refine cnf (dF hc) ?_;refine .sr ?_;refine vk (vbi) ?_;refine ar [6,7,8,9,42] ?_
 rcases brc h with ⟨hc,h⟩|⟨hc,h⟩
 ·refine cnt (dT hc) ?_
  refine .seq ?_
  obtain ⟨z10,hz,h⟩:=bnd h
  refine AW.mr (σ:=Unit) (fun _=>True) (fun _=>[(6,.nb [.b z10.1,.sl (L z10.2.1),.sl (L z10.2.2)]),(7,.d (.i .i64 0)),(8,.d (.b (decide (0<((List.length a1.2.1:Nat):Int))))),(9,.d (.b (decide (0<((List.length a2.2.1:Nat):Int)))))]) (fun _=>[]) ?_ ?_
  ·skip
   refine .region ?_;refine vk (Aa) ?_
   rcases brc hz with ⟨hc,hz⟩|⟨hc,hz⟩
   ·have hb0:(decide (0<((List.length a1.2.1:Nat):Int)))=true:=(dT hc)
    refine vk (VOK.lit (Aa) hb0) ?_;refine vk (Aa) ?_;refine vk (Ah) ?_;refine vk (vnt) ?_
    obtain ⟨x11,g11,hz⟩:=bnd hz
    refine vk (Ae (A0 g11) Tryz.call57) ?_
    refine stn ?_ Ad (by decide)
    refine asd ?_;refine RL.gk [6,7,8,9] ?_;refine .nil ?_
    cases hz
    exact jr () trivial
   have hb0:(decide (0<((List.length a1.2.1:Nat):Int)))=false:=(dF hc)
   refine vk (VOK.lit (Aa) hb0) ?_;refine gf ?_;refine vk (Ah) ?_;refine vk (vnt) ?_
   obtain ⟨x12,g12,hz⟩:=bnd hz
   refine vk (Ae (A0 g12) Tryz.call57) ?_
   refine stn ?_ Ad (by decide)
   refine asd ?_;refine RL.gk [6,7,8,9] ?_;refine .nil ?_
   cases hz
   exact jr () trivial
  rintro _ _
  refine .ret ?_
  cases h
  exact ⟨_,_,⟨.inr rfl,Af,Ad,p3⟩,rfl,rfl⟩
 refine cnf (dF hc) ?_;refine .skip ?_
 show AW _ _ _ _ _ _
 refine .seq ?_
 obtain ⟨z13,hz,h⟩:=bnd h
 refine AW.mr (σ:=Unit) (fun _=>True) (fun _=>[(6,.nb [.b z13.1,.sl (L z13.2.1),.sl (L z13.2.2)]),(7,.d (.i .i64 0))]) (fun _=>[]) ?_ ?_
 ·skip
  refine .region ?_;refine vk (Aa) ?_
  rcases brc hz with ⟨hc,hz⟩|⟨hc,hz⟩
  ·have hb0:(decide (0<((List.length a1.2.1:Nat):Int)))=true:=(dT hc)
   refine vk (VOK.lit (Aa) hb0) ?_;refine gf ?_;refine vk (Ah) ?_;refine vk (vnt) ?_
   obtain ⟨x14,g14,hz⟩:=bnd hz
   refine vk (Ae (A0 g14) Tryz.call57) ?_
   refine stn ?_ Ad (by decide)
   refine asd ?_;refine RL.gk [6,7] ?_;refine .nil ?_
   cases hz
   exact jr () trivial
  have hb0:(decide (0<((List.length a1.2.1:Nat):Int)))=false:=(dF hc)
  refine vk (VOK.lit (Aa) hb0) ?_;refine vk (Aa) ?_;refine vk (Ah) ?_;refine vk (vnt) ?_
  obtain ⟨x15,g15,hz⟩:=bnd hz
  refine vk (Ae (A0 g15) Tryz.call57) ?_
  refine stn ?_ Ad (by decide)
  refine asd ?_;refine RL.gk [6,7] ?_;refine .nil ?_
  cases hz
  exact jr () trivial
 rintro _ _
 refine .ret ?_
 cases h
 exact ⟨_,_,⟨.inr rfl,Af,Ad,p3⟩,rfl,rfl⟩
def E7 (a0:Int) (a1:RT) : Option (RT×Int):=((DC a0).bind fun x1=>(if x1=true then ((AJ a1).bind fun x2=>(if x2=true then (if a0=43 then ((Ds a1).bind fun x3=>(some (x3,0))) else (if a0=45 then ((Iq a1).bind fun x4=>(some (x4.1,x4.2))) else (if a0=215 then ((FG a1).bind fun x5=>((Ci x5).bind fun x6=>(some (x6,0)))) else (if a0=247 then (if ((List.length a1.2.1:Nat) : Int)=0 then (some ((false,[],[]),3)) else ((Ci 1).bind fun x7=>((Fz x7 a1).bind fun x8=>(some (x8.1,x8.2))))) else (if a0=8968 then ((GX a1).bind fun x9=>(some (x9.1,x9.2))) else (if a0=8970 then ((D2 a1).bind fun x10=>(some (x10.1,x10.2))) else (if a0=124 then ((H8 a1).bind fun x11=>(some (x11.1,x11.2))) else (if a0=33 then ((Dz a1).bind fun x12=>(some (x12.1,x12.2))) else (if a0=42 then (if 0<((List.length a1.2.1:Nat) : Int) then (some ((false,[],[]),3)) else ((Ci 1).bind fun x13=>(some (x13,0)))) else ((DU a1).bind fun x14=>(if x14=true then ((A3 (decide (((List.length a1.2.1:Nat) : Int)=0))).bind fun x15=>(some (x15,0))) else (some ((false,[],[]),3))))))))))))) else (some ((false,[],[]),22)))) else (some ((false,[],[]),23))))
set_option maxHeartbeats 4000000 in
theorem Qm {a0:Int} {a1:RT} {r:RT×Int} (h:E7 a0 a1=some r) :
  Fn Tryz.prog 22 [.i .i32 a0,.ag [.b a1.1,.sl (L a1.2.1),.sl (L a1.2.2)]] (.tup [.d (.ag [.b r.1.1,.sl (L r.1.2.1),.sl (L r.1.2.2)]),.d (.i .i64 r.2)]):=by
 unfold E7 at h
 refine Fn.ofC (rs:=[.cell 4 32,.tmp 5]) (nt:=83) Tryz.func22 rfl rfl rfl (by simp) rfl ?_;refine .sr ?_;refine vk (vbx) ?_;refine vk (van (Ai AG) AH) ?_;refine ar [0,3,4,5] ?_;refine .seq ?_;refine .sr ?_;refine vk (Aa) ?_
 obtain ⟨x1,g1,h⟩:=bnd h
 refine vk (Ae (KJ g1) Tryz.call46) ?_;refine vk (vnt) ?_;refine rk [0,3,4,5,8] ?_
 rcases brc h with ⟨hc,h⟩|⟨hc,h⟩
 ·refine cnf (ntf hc) ?_
  refine .skip ?_
  show AW _ _ _ _ _ _
  refine .seq ?_;refine .sr ?_;refine vk (Aj Af Ad) ?_
  obtain ⟨x2,g2,h⟩:=bnd h
  refine vk (Ae (AC g2) Tryz.call19) ?_;refine vk (vnt) ?_;refine rk [0,3,4,5,12] ?_
  rcases brc h with ⟨hc,h⟩|⟨hc,h⟩
  ·refine cnf (ntf hc) ?_
   refine .skip ?_
   show AW _ _ _ _ _ _
   refine .seq ?_;refine .sr ?_;refine vk (Aa) ?_;refine rk [3,4,5,14] ?_;refine .block ?_;refine .sr ?_;refine vk (vbi) ?_;refine ar [3,4,5,14,15] ?_
   rcases brc h with ⟨hc,h⟩|⟨hc,h⟩
   ·refine cnt (dT hc) ?_
    refine .sr ?_;refine vk (Aj Af Ad) ?_
    obtain ⟨x3,g3,h⟩:=bnd h
    refine vk (Ae (Em g3) Tryz.call47) ?_
    refine stn ?_ Ad (by decide)
    refine ar [3,4,5] ?_;refine .ret ?_
    cases h
    exact ⟨_,_,⟨.inr rfl,Af,Ad,p3⟩,rfl,rfl⟩
   refine cnf (dF hc) ?_;refine .sr ?_;refine vk (vbi) ?_;refine ar [3,4,5,14,19] ?_
   rcases brc h with ⟨hc,h⟩|⟨hc,h⟩
   ·refine cnt (dT hc) ?_
    refine .sr ?_;refine vk (Aj Af Ad) ?_
    obtain ⟨x4,g4,h⟩:=bnd h
    refine vk (VOK.tupd (vs:=[.ag [.b x4.1.1,.sl (L x4.1.2.1),.sl (L x4.1.2.2)],.i .i64 x4.2]) (Ae (PU g4) Tryz.call48)) ?_;refine vk (vex) ?_;refine vk (vex) ?_
    refine stn ?_ Ad (by decide)
    refine ar [3,4,5] ?_;refine .ret ?_
    cases h
    exact ⟨_,_,⟨.inr rfl,Af,Ad,p3⟩,rfl,rfl⟩
   refine cnf (dF hc) ?_;refine .sr ?_;refine vk (vbi) ?_;refine ar [3,4,5,14,25] ?_
   rcases brc h with ⟨hc,h⟩|⟨hc,h⟩
   ·refine cnt (dT hc) ?_
    refine .sr ?_;refine vk (Aj Af Ad) ?_
    obtain ⟨x5,g5,h⟩:=bnd h
    refine vk (Ae (OS g5) Tryz.call50) ?_
    obtain ⟨x6,g6,h⟩:=bnd h
    refine vk (Ae (CH g6) Tryz.call49) ?_
    refine stn ?_ Ad (by decide)
    refine ar [3,4,5] ?_;refine .ret ?_
    cases h
    exact ⟨_,_,⟨.inr rfl,Af,Ad,p3⟩,rfl,rfl⟩
   refine cnf (dF hc) ?_;refine .sr ?_;refine vk (vbi) ?_;refine ar [3,4,5,14,30] ?_
   rcases brc h with ⟨hc,h⟩|⟨hc,h⟩
   ·refine cnt (dT hc) ?_
    refine .seq ?_;refine .sr ?_;refine vk (vfa AA) ?_;refine vk (Ak AQ) ?_;refine vk (A7 (Ab _) (Ax _) B0) ?_;refine vk (vbi) ?_;refine rk [3,4,5,35] ?_
    rcases brc h with ⟨hc,h⟩|⟨hc,h⟩
    ·refine cnt (dT hc) ?_
     refine .sr ?_;refine vk (vbd Bq AG AH) ?_
     refine stn ?_ Ad (by decide)
     refine ar [3,4,5] ?_;refine .ret ?_
     cases h
     exact ⟨_,_,⟨.inr rfl,Af,Ad,p3⟩,rfl,rfl⟩
    refine cnf (dF hc) ?_;refine .skip ?_
    show AW _ _ _ _ _ _
    refine .seq ?_;refine .drawn 5 A4 (by kernel_rfl) ?_
    obtain ⟨x7,g7,h⟩:=bnd h
    refine dv (Ae (CH g7) Tryz.call49) ?_;refine dv (Aj Af Ad) ?_
    obtain ⟨x8,g8,h⟩:=bnd h
    refine dv (VOK.tupd (vs:=[.ag [.b x8.1.1,.sl (L x8.1.2.1),.sl (L x8.1.2.2)],.i .i64 x8.2]) (Ae (IR g8) Tryz.call51)) ?_;refine dv (vex) ?_;refine dv (vex) ?_;refine dz ?_
    refine stn ?_ Ad (by decide)
    refine ar [3,4,5] ?_;refine .ret ?_
    cases h
    exact ⟨_,_,⟨.inr rfl,Af,Ad,p3⟩,rfl,rfl⟩
   refine cnf (dF hc) ?_;refine .sr ?_;refine vk (vbi) ?_;refine ar [3,4,5,14,42] ?_
   rcases brc h with ⟨hc,h⟩|⟨hc,h⟩
   ·refine cnt (dT hc) ?_
    refine .sr ?_;refine vk (Aj Af Ad) ?_
    obtain ⟨x9,g9,h⟩:=bnd h
    refine vk (VOK.tupd (vs:=[.ag [.b x9.1.1,.sl (L x9.1.2.1),.sl (L x9.1.2.2)],.i .i64 x9.2]) (Ae (OH g9) Tryz.call52)) ?_;refine vk (vex) ?_;refine vk (vex) ?_
    refine stn ?_ Ad (by decide)
    refine ar [3,4,5] ?_;refine .ret ?_
    cases h
    exact ⟨_,_,⟨.inr rfl,Af,Ad,p3⟩,rfl,rfl⟩
   refine cnf (dF hc) ?_;refine .sr ?_;refine vk (vbi) ?_;refine ar [3,4,5,14,48] ?_
   rcases brc h with ⟨hc,h⟩|⟨hc,h⟩
   ·refine cnt (dT hc) ?_
    refine .sr ?_;refine vk (Aj Af Ad) ?_
    obtain ⟨x10,g10,h⟩:=bnd h
    refine vk (VOK.tupd (vs:=[.ag [.b x10.1.1,.sl (L x10.1.2.1),.sl (L x10.1.2.2)],.i .i64 x10.2]) (Ae (GV g10) Tryz.call53)) ?_;refine vk (vex) ?_;refine vk (vex) ?_
    refine stn ?_ Ad (by decide)
    refine ar [3,4,5] ?_;refine .ret ?_
    cases h
    exact ⟨_,_,⟨.inr rfl,Af,Ad,p3⟩,rfl,rfl⟩
   refine cnf (dF hc) ?_;refine .sr ?_;refine vk (vbi) ?_;refine ar [3,4,5,14,54] ?_
   rcases brc h with ⟨hc,h⟩|⟨hc,h⟩
   ·refine cnt (dT hc) ?_
    refine .sr ?_;refine vk (Aj Af Ad) ?_
    obtain ⟨x11,g11,h⟩:=bnd h
    refine vk (VOK.tupd (vs:=[.ag [.b x11.1.1,.sl (L x11.1.2.1),.sl (L x11.1.2.2)],.i .i64 x11.2]) (Ae (Qi g11) Tryz.call54)) ?_;refine vk (vex) ?_;refine vk (vex) ?_
    refine stn ?_ Ad (by decide)
    refine ar [3,4,5] ?_;refine .ret ?_
    cases h
    exact ⟨_,_,⟨.inr rfl,Af,Ad,p3⟩,rfl,rfl⟩
   refine cnf (dF hc) ?_;refine .sr ?_;refine vk (vbi) ?_;refine ar [3,4,5,14,60] ?_
   rcases brc h with ⟨hc,h⟩|⟨hc,h⟩
   ·refine cnt (dT hc) ?_
    refine .sr ?_;refine vk (Aj Af Ad) ?_
    obtain ⟨x12,g12,h⟩:=bnd h
    refine vk (VOK.tupd (vs:=[.ag [.b x12.1.1,.sl (L x12.1.2.1),.sl (L x12.1.2.2)],.i .i64 x12.2]) (Ae (KG g12) Tryz.call55)) ?_;refine vk (vex) ?_;refine vk (vex) ?_
    refine stn ?_ Ad (by decide)
    refine ar [3,4,5] ?_;refine .ret ?_
    cases h
    exact ⟨_,_,⟨.inr rfl,Af,Ad,p3⟩,rfl,rfl⟩
   refine cnf (dF hc) ?_;refine .sr ?_;refine vk (vbi) ?_;refine ar [3,4,5,66] ?_
   rcases brc h with ⟨hc,h⟩|⟨hc,h⟩
   ·refine cnt (dT hc) ?_
    refine .seq ?_;refine .sr ?_;refine vk (vfa AA) ?_;refine vk (Ak AQ) ?_;refine vk (A7 (Ab _) (Ax _) B0) ?_;refine vk (vbi) ?_;refine rk [3,4,5,71] ?_
    rcases brc h with ⟨hc,h⟩|⟨hc,h⟩
    ·refine cnt (dT hc) ?_
     refine .sr ?_;refine vk (vbd Bq AG AH) ?_
     refine stn ?_ Ad (by decide)
     refine ar [3,4,5] ?_;refine .ret ?_
     cases h
     exact ⟨_,_,⟨.inr rfl,Af,Ad,p3⟩,rfl,rfl⟩
    refine cnf (dF hc) ?_;refine .skip ?_
    show AW _ _ _ _ _ _
    refine .sr ?_
    obtain ⟨x13,g13,h⟩:=bnd h
    refine vk (Ae (CH g13) Tryz.call49) ?_
    refine stn ?_ Ad (by decide)
    refine ar [3,4,5] ?_;refine .ret ?_
    cases h
    exact ⟨_,_,⟨.inr rfl,Af,Ad,p3⟩,rfl,rfl⟩
   refine cnf (dF hc) ?_;refine .skip ?_
   show AW _ _ _ _ _ _
   refine .seq ?_;refine .sr ?_;refine vk (Aj Af Ad) ?_
   obtain ⟨x14,g14,h⟩:=bnd h
   refine vk (Ae (Hb g14) Tryz.call56) ?_;refine vk (vnt) ?_;refine rk [3,4,5,76] ?_
   rcases brc h with ⟨hc,h⟩|⟨hc,h⟩
   ·refine cnf (ntf hc) ?_
    refine .skip ?_
    show AW _ _ _ _ _ _
    refine .sr ?_;refine vk (vfa AA) ?_;refine vk (Ak AQ) ?_;refine vk (A7 (Ab _) (Ax _) B0) ?_;refine vk (vbi) ?_
    obtain ⟨x15,g15,h⟩:=bnd h
    refine vk (Ae (A0 g15) Tryz.call57) ?_
    refine stn ?_ Ad (by decide)
    refine ar [4,5] ?_;refine .ret ?_
    cases h
    exact ⟨_,_,⟨.inr rfl,Af,Ad,p3⟩,rfl,rfl⟩
   refine cnt (ntt (bf hc)) ?_;refine .sr ?_;refine vk (vbd Bq AG AH) ?_
   refine stn ?_ Ad (by decide)
   refine ar [3,4,5] ?_;refine .ret ?_
   cases h
   exact ⟨_,_,⟨.inr rfl,Af,Ad,p3⟩,rfl,rfl⟩
  refine cnt (ntt (bf hc)) ?_;refine .sr ?_;refine vk (vbd Bq AG AH) ?_
  refine stn ?_ Ad (by decide)
  refine ar [0,3,4,5] ?_;refine .ret ?_
  cases h
  exact ⟨_,_,⟨.inr rfl,Af,Ad,p3⟩,rfl,rfl⟩
 refine cnt (ntt (bf hc)) ?_;refine .sr ?_;refine vk (vbd Bq AG AH) ?_
 refine stn ?_ Ad (by decide)
 refine ar [0,3,4,5] ?_;refine .ret ?_
 cases h
 exact ⟨_,_,⟨.inr rfl,Af,Ad,p3⟩,rfl,rfl⟩
def Ec (a0:RT) (a1:Int) (a2:RT) (a3:RT) : Option (RT×Int):=((D1 a1).bind fun x1=>(if x1=true then ((AJ a0).bind fun x2=>(Option.bind ((if x2=true then ((AJ a2).bind fun x4=>(if x4=true then ((AJ a3).bind fun x5=>(some (!x5))) else (some true))) else (some true)) : Option (Bool)) fun (z2:Bool)=>(if z2=true then (some ((false,[],[]),22)) else ((DY a0 a2 a3).bind fun x6=>(if a1=43 then ((FF a2 a3).bind fun x7=>(some (x7.1,x7.2))) else (if a1=45 then ((H6 a2 a3).bind fun x8=>(some (x8.1,x8.2))) else (if a1=215 then ((Fa a2 a3).bind fun x9=>(some (x9.1,x9.2))) else (if a1=247 then ((Fz a2 a3).bind fun x10=>(some (x10.1,x10.2))) else (if a1=8968 then ((Cu a2 a3).bind fun x11=>(if x11<0 then ((Ds a3).bind fun x12=>(some (x12,0))) else ((Ds a2).bind fun x13=>(some (x13,0))))) else (if a1=8970 then ((Cu a2 a3).bind fun x14=>(if 0<x14 then ((Ds a3).bind fun x15=>(some (x15,0))) else ((Ds a2).bind fun x16=>(some (x16,0))))) else (if a1=124 then ((EA a2 a3).bind fun x17=>(some (x17.1,x17.2))) else (if a1=42 then ((Ge a2 a3).bind fun x18=>(some (x18.1,x18.2))) else (if a1=33 then ((D7 a2 a3).bind fun x19=>(some (x19.1,x19.2))) else (if a1=60 then ((A3 (decide (x6<0))).bind fun x20=>(some (x20,0))) else (if a1=8804 then ((A3 (decide (x6≤0))).bind fun x21=>(some (x21,0))) else (if a1=61 then ((A3 (decide (x6=0))).bind fun x22=>(some (x22,0))) else (if a1=8805 then ((A3 (decide (0≤x6))).bind fun x23=>(some (x23,0))) else (if a1=62 then ((A3 (decide (0<x6))).bind fun x24=>(some (x24,0))) else (if a1=8800 then ((A3 (!(decide (x6=0)))).bind fun x25=>(some (x25,0))) else ((G7 a1 a2 a3).bind fun x26=>(some (x26.1,x26.2)))))))))))))))))))))) else (some ((false,[],[]),23))))
set_option maxHeartbeats 4000000 in
theorem P0 {a0:RT} {a1:Int} {a2:RT} {a3:RT} {r:RT×Int} (h:Ec a0 a1 a2 a3=some r) :
  Fn Tryz.prog 25 [.ag [.b a0.1,.sl (L a0.2.1),.sl (L a0.2.2)],.i .i32 a1,.ag [.b a2.1,.sl (L a2.2.1),.sl (L a2.2.2)],.ag [.b a3.1,.sl (L a3.2.1),.sl (L a3.2.2)]] (.tup [.d (.ag [.b r.1.1,.sl (L r.1.2.1),.sl (L r.1.2.2)]),.d (.i .i64 r.2)]):=by
 unfold Ec at h
 refine Fn.ofC (rs:=[.cell 8 32,.tmp 9]) (nt:=139) Tryz.func25 rfl rfl rfl (by simp) rfl ?_;refine .sr ?_;refine vk (vbx) ?_;refine vk (vbx) ?_;refine vk (vbx) ?_;refine vk (van (Ai AG) AH) ?_;refine ar [1,4,6,7,8,9] ?_;refine .seq ?_;refine .sr ?_;refine vk (Aa) ?_
 obtain ⟨x1,g1,h⟩:=bnd h
 refine vk (Ae (Li g1) Tryz.call60) ?_;refine vk (vnt) ?_;refine rk [1,4,6,7,8,9,13] ?_
 rcases brc h with ⟨hc,h⟩|⟨hc,h⟩
 ·refine cnf (ntf hc) ?_
  refine .skip ?_
  show AW _ _ _ _ _ _
  refine .seq ?_;refine .seq ?_
  obtain ⟨x2,g2,h⟩:=bnd h
  obtain ⟨z2,hz,h⟩:=bnd h
  refine AW.mr (σ:=Unit) (fun _=>True) (fun _=>[(1,.d (.i .i32 a1)),(4,.d (.ptr [.b a0.1,.sl (L a0.2.1),.sl (L a0.2.2)])),(6,.d (.ptr [.b a2.1,.sl (L a2.2.1),.sl (L a2.2.2)])),(7,.d (.ptr [.b a3.1,.sl (L a3.2.1),.sl (L a3.2.2)])),(8,.nb [.b false,.sl (L []),.sl (L [])]),(9,.d (.i .i64 0)),(27,.d (.b z2))]) (fun _=>[]) ?_ ?_
  ·skip
   refine .region ?_;refine vk (Aj Af Ad) ?_;refine vk (Ae (AC g2) Tryz.call19) ?_;refine vk (vnt) ?_
   rcases brc hz with ⟨hc,hz⟩|⟨hc,hz⟩
   ·have hb0:(!x2)=false:=(ntf hc)
    refine vk (VOK.lit (Aa) hb0) ?_;refine vk (Aj Af Ad) ?_
    obtain ⟨x4,g4,hz⟩:=bnd hz
    refine vk (Ae (AC g4) Tryz.call19) ?_;refine vk (vnt) ?_;refine vk (Ah) ?_
    rcases brc hz with ⟨hc,hz⟩|⟨hc,hz⟩
    ·have hb1:(!x4)=false:=(ntf hc)
     refine vk (VOK.lit (Aa) hb1) ?_;refine vk (Aj Af Ad) ?_
     obtain ⟨x5,g5,hz⟩:=bnd hz
     refine vk (Ae (AC g5) Tryz.call19) ?_;refine vk (vnt) ?_;refine vk (Ah) ?_;refine RL.gk [1,4,6,7,8,9,27] ?_;refine .nil ?_
     cases hz
     exact jr () trivial
    have hb1:(!x4)=true:=(ntt (bf hc))
    refine vk (VOK.lit (Aa) hb1) ?_;refine gf ?_;refine gf ?_;refine gf ?_;refine vk (Ah) ?_;refine RL.gk [1,4,6,7,8,9,27] ?_;refine .nil ?_
    cases hz
    exact jr () trivial
   have hb0:(!x2)=true:=(ntt (bf hc))
   refine vk (VOK.lit (Aa) hb0) ?_;refine gf ?_;refine gf ?_;refine gf ?_;refine vk (Ah) ?_;refine vk (Aa) ?_;refine gf ?_;refine gf ?_;refine gf ?_;refine vk (Ah) ?_;refine RL.gk [1,4,6,7,8,9,27] ?_;refine .nil ?_
   cases hz
   exact jr () trivial
  rintro _ _
  rcases brc h with ⟨hc,h⟩|⟨hc,h⟩
  ·refine cnt hc ?_
   refine .sr ?_;refine vk (vbd Bq AG AH) ?_
   refine stn ?_ Ad (by decide)
   refine ar [1,4,6,7,8,9] ?_;refine .ret ?_
   cases h
   exact ⟨_,_,⟨.inr rfl,Af,Ad,p3⟩,rfl,rfl⟩
  refine cnf (bf hc) ?_;refine .skip ?_
  show AW _ _ _ _ _ _
  refine .sr ?_;refine vk (Aj Af Ad) ?_;refine vk (Aj Af Ad) ?_;refine vk (Aj Af Ad) ?_
  obtain ⟨x6,g6,h⟩:=bnd h
  refine vk (Ae (Lh g6) Tryz.call61) ?_;refine ar [1,6,7,8,9,10] ?_;refine .seq ?_;refine .sr ?_;refine vk (Aa) ?_;refine rk [1,6,7,8,9,10,33] ?_;refine .block ?_;refine .sr ?_;refine vk (vbi) ?_;refine ar [1,6,7,8,9,10,33,34] ?_
  rcases brc h with ⟨hc,h⟩|⟨hc,h⟩
  ·refine cnt (dT hc) ?_
   refine .sr ?_;refine vk (Aj Af Ad) ?_;refine vk (Aj Af Ad) ?_
   obtain ⟨x7,g7,h⟩:=bnd h
   refine vk (VOK.tupd (vs:=[.ag [.b x7.1.1,.sl (L x7.1.2.1),.sl (L x7.1.2.2)],.i .i64 x7.2]) (Ae (Ix g7) Tryz.call62)) ?_;refine vk (vex) ?_;refine vk (vex) ?_
   refine stn ?_ Ad (by decide)
   refine ar [1,6,7,8,9] ?_;refine .ret ?_
   cases h
   exact ⟨_,_,⟨.inr rfl,Af,Ad,p3⟩,rfl,rfl⟩
  refine cnf (dF hc) ?_;refine .sr ?_;refine vk (vbi) ?_;refine ar [1,6,7,8,9,10,33,41] ?_
  rcases brc h with ⟨hc,h⟩|⟨hc,h⟩
  ·refine cnt (dT hc) ?_
   refine .sr ?_;refine vk (Aj Af Ad) ?_;refine vk (Aj Af Ad) ?_
   obtain ⟨x8,g8,h⟩:=bnd h
   refine vk (VOK.tupd (vs:=[.ag [.b x8.1.1,.sl (L x8.1.2.1),.sl (L x8.1.2.2)],.i .i64 x8.2]) (Ae (QG g8) Tryz.call63)) ?_;refine vk (vex) ?_;refine vk (vex) ?_
   refine stn ?_ Ad (by decide)
   refine ar [1,6,7,8,9] ?_;refine .ret ?_
   cases h
   exact ⟨_,_,⟨.inr rfl,Af,Ad,p3⟩,rfl,rfl⟩
  refine cnf (dF hc) ?_;refine .sr ?_;refine vk (vbi) ?_;refine ar [1,6,7,8,9,10,33,48] ?_
  rcases brc h with ⟨hc,h⟩|⟨hc,h⟩
  ·refine cnt (dT hc) ?_
   refine .sr ?_;refine vk (Aj Af Ad) ?_;refine vk (Aj Af Ad) ?_
   obtain ⟨x9,g9,h⟩:=bnd h
   refine vk (VOK.tupd (vs:=[.ag [.b x9.1.1,.sl (L x9.1.2.1),.sl (L x9.1.2.2)],.i .i64 x9.2]) (Ae (Jz g9) Tryz.call64)) ?_;refine vk (vex) ?_;refine vk (vex) ?_
   refine stn ?_ Ad (by decide)
   refine ar [1,6,7,8,9] ?_;refine .ret ?_
   cases h
   exact ⟨_,_,⟨.inr rfl,Af,Ad,p3⟩,rfl,rfl⟩
  refine cnf (dF hc) ?_;refine .sr ?_;refine vk (vbi) ?_;refine ar [1,6,7,8,9,10,33,55] ?_
  rcases brc h with ⟨hc,h⟩|⟨hc,h⟩
  ·refine cnt (dT hc) ?_
   refine .sr ?_;refine vk (Aj Af Ad) ?_;refine vk (Aj Af Ad) ?_
   obtain ⟨x10,g10,h⟩:=bnd h
   refine vk (VOK.tupd (vs:=[.ag [.b x10.1.1,.sl (L x10.1.2.1),.sl (L x10.1.2.2)],.i .i64 x10.2]) (Ae (IR g10) Tryz.call51)) ?_;refine vk (vex) ?_;refine vk (vex) ?_
   refine stn ?_ Ad (by decide)
   refine ar [1,6,7,8,9] ?_;refine .ret ?_
   cases h
   exact ⟨_,_,⟨.inr rfl,Af,Ad,p3⟩,rfl,rfl⟩
  refine cnf (dF hc) ?_;refine .sr ?_;refine vk (vbi) ?_;refine ar [1,6,7,8,9,10,33,62] ?_
  rcases brc h with ⟨hc,h⟩|⟨hc,h⟩
  ·refine cnt (dT hc) ?_
   refine .seq ?_;refine .sr ?_;refine vk (Aj Af Ad) ?_;refine vk (Aj Af Ad) ?_
   obtain ⟨x11,g11,h⟩:=bnd h
   refine vk (Ae (Eb g11) Tryz.call65) ?_;refine vk (vbi) ?_;refine rk [1,6,7,8,9,67] ?_
   rcases brc h with ⟨hc,h⟩|⟨hc,h⟩
   ·refine cnt (dT hc) ?_
    refine .sr ?_;refine vk (Aj Af Ad) ?_
    obtain ⟨x12,g12,h⟩:=bnd h
    refine vk (Ae (Em g12) Tryz.call47) ?_
    refine stn ?_ Ad (by decide)
    refine ar [1,6,7,8,9] ?_;refine .ret ?_
    cases h
    exact ⟨_,_,⟨.inr rfl,Af,Ad,p3⟩,rfl,rfl⟩
   refine cnf (dF hc) ?_;refine .skip ?_
   show AW _ _ _ _ _ _
   refine .sr ?_;refine vk (Aj Af Ad) ?_
   obtain ⟨x13,g13,h⟩:=bnd h
   refine vk (Ae (Em g13) Tryz.call47) ?_
   refine stn ?_ Ad (by decide)
   refine ar [1,6,7,8,9] ?_;refine .ret ?_
   cases h
   exact ⟨_,_,⟨.inr rfl,Af,Ad,p3⟩,rfl,rfl⟩
  refine cnf (dF hc) ?_;refine .sr ?_;refine vk (vbi) ?_;refine ar [1,6,7,8,9,10,33,72] ?_
  rcases brc h with ⟨hc,h⟩|⟨hc,h⟩
  ·refine cnt (dT hc) ?_
   refine .seq ?_;refine .sr ?_;refine vk (Aj Af Ad) ?_;refine vk (Aj Af Ad) ?_
   obtain ⟨x14,g14,h⟩:=bnd h
   refine vk (Ae (Eb g14) Tryz.call65) ?_;refine vk (vbi) ?_;refine rk [1,6,7,8,9,77] ?_
   rcases brc h with ⟨hc,h⟩|⟨hc,h⟩
   ·refine cnt (dT hc) ?_
    refine .sr ?_;refine vk (Aj Af Ad) ?_
    obtain ⟨x15,g15,h⟩:=bnd h
    refine vk (Ae (Em g15) Tryz.call47) ?_
    refine stn ?_ Ad (by decide)
    refine ar [1,6,7,8,9] ?_;refine .ret ?_
    cases h
    exact ⟨_,_,⟨.inr rfl,Af,Ad,p3⟩,rfl,rfl⟩
   refine cnf (dF hc) ?_;refine .skip ?_
   show AW _ _ _ _ _ _
   refine .sr ?_;refine vk (Aj Af Ad) ?_
   obtain ⟨x16,g16,h⟩:=bnd h
   refine vk (Ae (Em g16) Tryz.call47) ?_
   refine stn ?_ Ad (by decide)
   refine ar [1,6,7,8,9] ?_;refine .ret ?_
   cases h
   exact ⟨_,_,⟨.inr rfl,Af,Ad,p3⟩,rfl,rfl⟩
  refine cnf (dF hc) ?_;refine .sr ?_;refine vk (vbi) ?_;refine ar [1,6,7,8,9,10,33,82] ?_
  rcases brc h with ⟨hc,h⟩|⟨hc,h⟩
  ·refine cnt (dT hc) ?_
   refine .sr ?_;refine vk (Aj Af Ad) ?_;refine vk (Aj Af Ad) ?_
   obtain ⟨x17,g17,h⟩:=bnd h
   refine vk (VOK.tupd (vs:=[.ag [.b x17.1.1,.sl (L x17.1.2.1),.sl (L x17.1.2.2)],.i .i64 x17.2]) (Ae (L0 g17) Tryz.call66)) ?_;refine vk (vex) ?_;refine vk (vex) ?_
   refine stn ?_ Ad (by decide)
   refine ar [1,6,7,8,9] ?_;refine .ret ?_
   cases h
   exact ⟨_,_,⟨.inr rfl,Af,Ad,p3⟩,rfl,rfl⟩
  refine cnf (dF hc) ?_;refine .sr ?_;refine vk (vbi) ?_;refine ar [1,6,7,8,9,10,33,89] ?_
  rcases brc h with ⟨hc,h⟩|⟨hc,h⟩
  ·refine cnt (dT hc) ?_
   refine .sr ?_;refine vk (Aj Af Ad) ?_;refine vk (Aj Af Ad) ?_
   obtain ⟨x18,g18,h⟩:=bnd h
   refine vk (VOK.tupd (vs:=[.ag [.b x18.1.1,.sl (L x18.1.2.1),.sl (L x18.1.2.2)],.i .i64 x18.2]) (Ae (Oj g18) Tryz.call67)) ?_;refine vk (vex) ?_;refine vk (vex) ?_
   refine stn ?_ Ad (by decide)
   refine ar [1,6,7,8,9] ?_;refine .ret ?_
   cases h
   exact ⟨_,_,⟨.inr rfl,Af,Ad,p3⟩,rfl,rfl⟩
  refine cnf (dF hc) ?_;refine .sr ?_;refine vk (vbi) ?_;refine ar [1,6,7,8,9,10,33,96] ?_
  rcases brc h with ⟨hc,h⟩|⟨hc,h⟩
  ·refine cnt (dT hc) ?_
   refine .sr ?_;refine vk (Aj Af Ad) ?_;refine vk (Aj Af Ad) ?_
   obtain ⟨x19,g19,h⟩:=bnd h
   refine vk (VOK.tupd (vs:=[.ag [.b x19.1.1,.sl (L x19.1.2.1),.sl (L x19.1.2.2)],.i .i64 x19.2]) (Ae (Le g19) Tryz.call68)) ?_;refine vk (vex) ?_;refine vk (vex) ?_
   refine stn ?_ Ad (by decide)
   refine ar [1,6,7,8,9] ?_;refine .ret ?_
   cases h
   exact ⟨_,_,⟨.inr rfl,Af,Ad,p3⟩,rfl,rfl⟩
  refine cnf (dF hc) ?_;refine .sr ?_;refine vk (vbi) ?_;refine ar [1,6,7,8,9,10,33,103] ?_
  rcases brc h with ⟨hc,h⟩|⟨hc,h⟩
  ·refine cnt (dT hc) ?_
   refine .sr ?_;refine vk (Aa) ?_;refine vk (vbi) ?_
   obtain ⟨x20,g20,h⟩:=bnd h
   refine vk (Ae (A0 g20) Tryz.call57) ?_
   refine stn ?_ Ad (by decide)
   refine ar [1,6,7,8,9] ?_;refine .ret ?_
   cases h
   exact ⟨_,_,⟨.inr rfl,Af,Ad,p3⟩,rfl,rfl⟩
  refine cnf (dF hc) ?_;refine .sr ?_;refine vk (vbi) ?_;refine ar [1,6,7,8,9,10,33,108] ?_
  rcases brc h with ⟨hc,h⟩|⟨hc,h⟩
  ·refine cnt (dT hc) ?_
   refine .sr ?_;refine vk (Aa) ?_;refine vk (vbi) ?_
   obtain ⟨x21,g21,h⟩:=bnd h
   refine vk (Ae (A0 g21) Tryz.call57) ?_
   refine stn ?_ Ad (by decide)
   refine ar [1,6,7,8,9] ?_;refine .ret ?_
   cases h
   exact ⟨_,_,⟨.inr rfl,Af,Ad,p3⟩,rfl,rfl⟩
  refine cnf (dF hc) ?_;refine .sr ?_;refine vk (vbi) ?_;refine ar [1,6,7,8,9,10,33,113] ?_
  rcases brc h with ⟨hc,h⟩|⟨hc,h⟩
  ·refine cnt (dT hc) ?_
   refine .sr ?_;refine vk (Aa) ?_;refine vk (vbi) ?_
   obtain ⟨x22,g22,h⟩:=bnd h
   refine vk (Ae (A0 g22) Tryz.call57) ?_
   refine stn ?_ Ad (by decide)
   refine ar [1,6,7,8,9] ?_;refine .ret ?_
   cases h
   exact ⟨_,_,⟨.inr rfl,Af,Ad,p3⟩,rfl,rfl⟩
  refine cnf (dF hc) ?_;refine .sr ?_;refine vk (vbi) ?_;refine ar [1,6,7,8,9,10,33,118] ?_
  rcases brc h with ⟨hc,h⟩|⟨hc,h⟩
  ·refine cnt (dT hc) ?_
   refine .sr ?_;refine vk (Aa) ?_;refine vk (vbi) ?_
   obtain ⟨x23,g23,h⟩:=bnd h
   refine vk (Ae (A0 g23) Tryz.call57) ?_
   refine stn ?_ Ad (by decide)
   refine ar [1,6,7,8,9] ?_;refine .ret ?_
   cases h
   exact ⟨_,_,⟨.inr rfl,Af,Ad,p3⟩,rfl,rfl⟩
  refine cnf (dF hc) ?_;refine .sr ?_;refine vk (vbi) ?_;refine ar [1,6,7,8,9,10,33,123] ?_
  rcases brc h with ⟨hc,h⟩|⟨hc,h⟩
  ·refine cnt (dT hc) ?_
   refine .sr ?_;refine vk (Aa) ?_;refine vk (vbi) ?_
   obtain ⟨x24,g24,h⟩:=bnd h
   refine vk (Ae (A0 g24) Tryz.call57) ?_
   refine stn ?_ Ad (by decide)
   refine ar [1,6,7,8,9] ?_;refine .ret ?_
   cases h
   exact ⟨_,_,⟨.inr rfl,Af,Ad,p3⟩,rfl,rfl⟩
  refine cnf (dF hc) ?_;refine .sr ?_;refine vk (vbi) ?_;refine ar [1,6,7,8,9,10,128] ?_
  rcases brc h with ⟨hc,h⟩|⟨hc,h⟩
  ·refine cnt (dT hc) ?_
   refine .sr ?_;refine vk (Aa) ?_;refine vk (vbi) ?_
   obtain ⟨x25,g25,h⟩:=bnd h
   refine vk (Ae (A0 g25) Tryz.call57) ?_
   refine stn ?_ Ad (by decide)
   refine ar [1,6,7,8,9] ?_;refine .ret ?_
   cases h
   exact ⟨_,_,⟨.inr rfl,Af,Ad,p3⟩,rfl,rfl⟩
  refine cnf (dF hc) ?_;refine .skip ?_
  show AW _ _ _ _ _ _
  refine .sr ?_;refine vk (Aa) ?_;refine vk (Aj Af Ad) ?_;refine vk (Aj Af Ad) ?_
  obtain ⟨x26,g26,h⟩:=bnd h
  refine vk (VOK.tupd (vs:=[.ag [.b x26.1.1,.sl (L x26.1.2.1),.sl (L x26.1.2.2)],.i .i64 x26.2]) (Ae (OE g26) Tryz.call69)) ?_;refine vk (vex) ?_;refine vk (vex) ?_
  refine stn ?_ Ad (by decide)
  refine ar [8,9] ?_;refine .ret ?_
  cases h
  exact ⟨_,_,⟨.inr rfl,Af,Ad,p3⟩,rfl,rfl⟩
 refine cnt (ntt (bf hc)) ?_;refine .sr ?_;refine vk (vbd Bq AG AH) ?_
 refine stn ?_ Ad (by decide)
 refine ar [1,4,6,7,8,9] ?_;refine .ret ?_
 cases h
 exact ⟨_,_,⟨.inr rfl,Af,Ad,p3⟩,rfl,rfl⟩
end Go.FL
namespace Go.FL
open Go Go.RowKit
section
variable {P:Program} {C:Cx} {o:Oper} {env:Env} {H:Al}
def Y2 (P:Program) (t n e:Nat) : Bool:=match P.underlying t with
 | some (.array m e')=>Nat.beq m n&&Nat.beq e' e
 | _=>false
end
end Go.FL
namespace Go.FL
open Go Go.RowKit Go.ChangeShapes Go.WideShapes Go.ChangeAt
section
variable {H:Type}
def OpF (enc:TypeId×Value→H) (P:Program) (W:World) (n:Nat) (t:TypeId) {α:Type} (F:α→List DV) (Q:α→Prop) : Prop :=
 ∀ (fuel:Nat) (cs:List Value) (x:DataW H×List MemPlace),fuel≤n→DataW.trod enc P W 0 (fun _=>true) true fuel t cs=some x→(∀ m∈DataW.weights P t x.1,m≤reachBytes) →
  ∃ a,Q a∧RepAll W (fun b=>b<W.heap.size) (F a) cs∧∀ u∈cs,u.oneCell'=true
variable {enc:TypeId×Value→H} {P:Program} {W:World}
theorem OpF.mono {n m t:Nat} {α:Type} {F:α→List DV} {Q:α→Prop} (h:OpF enc P W n t F Q) (hm:m≤n) : OpF enc P W m t F Q:=fun fuel cs x hf=>h fuel cs x (by omega)
theorem OpF.map {n t:Nat} {α β:Type} {F:α→List DV} {Q:α→Prop} {G:β→List DV} {R:β→Prop} (h:OpF enc P W n t F Q) (f:∀ a,Q a→∃ b,R b∧F a=G b) : OpF enc P W n t G R:=fun fuel cs x hf h1 h2=>by
 obtain ⟨a,q,r,c⟩:=h fuel cs x hf h1 h2
 obtain ⟨b,rb,e⟩:=f a q
 exact ⟨b,rb,e▸r,c⟩
theorem Sv {n t:Nat} {k:IntKind} (ht:P.underlying t=some (.int k)) : OpF enc P W n t (fun z:Int=>[.i k z]) (fun z=>(Lit.int k z).wf=true):=fun fuel cs x _ h _=>by
 obtain ⟨z,rfl,_,hw⟩:=DataW.trod_int ht h
 exact ⟨z,hw,.cons (.i _ _) .nil,by simp [Value.oneCell']⟩
theorem XV {n t:Nat} (ht:P.underlying t=some .bool) : OpF enc P W n t (fun z:Bool=>[.b z]) (fun _=>True):=fun fuel cs x _ h _=>by
 obtain ⟨z,rfl,_⟩:=DataW.trod_bool ht h
 exact ⟨z,trivial,.cons (.b _) .nil,by simp [Value.oneCell']⟩
theorem Hi {e:TypeId} : ∀ {ds:List (DataW H)} {d:DataW H},d∈ds→∀ q∈DataW.weights P e d,q∈DataW.weightsAll P e ds
 | d::ds,d',hd,q,hq=>by
  rw [DataW.weightsAll,List.mem_append]
  rcases List.mem_cons.1 hd with rfl|hd
  ·exact .inl hq
  ·exact .inr (Hi hd q hq)
theorem WP {n t e sz:Nat} {α:Type} {F:α→List DV} {Q:α→Prop} (D:α→DV) (ht:P.underlying t=some (.slice e)) (hs:P.cellsOf e=sz) (h0:0<sz) (hD:∀ a,(D a).cells=F a) (h:OpF enc P W n e F Q) :
  OpF enc P W (n+1) t (fun xs:List α=>[.sl (xs.map D)]) (fun xs=>(∀ x∈xs,Q x)∧xs.length * P.bytesOf e≤reachBytes):=by
 intro fuel cs x hf hx hw
 rcases DataW.trod_slice ht hx with ⟨rfl,rfl⟩|⟨a,len,cap,elems,rest,m,rfl,rfl,rfl,hb,hl,hm,hlen,hel,_,_⟩
 ·exact ⟨[],⟨by simp,by simp⟩,.cons (.sl0 _ _) .nil,by simp [Value.oneCell']⟩
 ·simp only [DataW.weights,ht] at hw
  have hroom:(elems.length+rest.length) * P.bytesOf e≤reachBytes:=by
   have:=hw ((elems.length+rest.length) * P.bytesOf e) (by simp)
   exact this
  have each:∀ i,i<len→∃ vs y,W.cells? 0 (a.add (i * P.cellsOf e)) (P.cellsOf e)=some vs∧DataW.trod enc P W 0 (fun _=>true) true m e vs=some y∧∀ q∈DataW.weights P e y.1,q≤reachBytes:=by
   intro i hi
   have h1:=hel i hi
   rw [lG (show i<elems.length by omega)] at h1
   obtain ⟨vs,h2,h3⟩:=Option.bind_eq_some_iff.1 h1
   refine ⟨vs,_,h2,h3,fun q hq=>hw q ?_⟩
   simp only [List.mem_cons,List.mem_append]
   exact .inr (.inl (Hi (d:=(elems[i]'(by omega)).1) (List.mem_map_of_mem (List.getElem_mem _)) q hq))
  by_cases hlen0:len=0
  ·subst hlen0
   exact ⟨[],⟨by simp,by simp⟩,.cons (.sl0 _ _) .nil,by simp [Value.oneCell']⟩
  ·obtain ⟨b,off,spot⟩:=a
   have hspot:spot=none:=by
    obtain ⟨vs,y,h1,_,_⟩:=each 0 (by omega)
    obtain ⟨_,k2,k3⟩:=World.cells?_some h1
    have h4:=k3 0 (by omega)
    rw [lG (show 0<vs.length by omega)] at h4
    simpa [Addr.add] using World.cell?_spot h4
   subst hspot
   have build:∀ j,j≤len→∃ (xs:List α) (vs:List Value),xs.length=j∧(∀ x∈xs,Q x)∧Has W b off vs∧RepRows W (fun b=>b<W.heap.size) sz (xs.map D) vs:=by
    intro j
    induction j with
    | zero=>exact fun _=>⟨[],[],rfl,by simp,fun j u hj=>by simp at hj,.nil _⟩
    | succ j ih =>
     intro hj
     obtain ⟨xs,vs,k1,k2,k3,k4⟩:=ih (by omega)
     obtain ⟨us,y,g1,g2,g3⟩:=each j (by omega)
     obtain ⟨_,g4,g5⟩:=World.cells?_some g1
     obtain ⟨x,q1,q2,q3⟩:=h m us y (by omega) g2 g3
     have hvl:=k4.length
     rw [List.length_map,k1] at hvl
     refine ⟨xs++[x],vs++us,by simp [k1],?_,?_,?_⟩
     ·intro z hz
      rcases List.mem_append.1 hz with hz|hz
      ·exact k2 z hz
      ·simp at hz;subst hz;exact q1
     ·intro i u hi
      rw [List.getElem?_append] at hi
      split at hi
      ·exact k3 i u hi
      ·rename_i hge
       have:=g5 (i-vs.length) (by have:=(lS.1 hi).1;omega)
       rw [hi] at this
       rw [← this,hs]
       have e1:off+i=off+j * sz+(i-vs.length):=by omega
       rw [e1,add_plain,add_plain]
     ·rw [List.map_append]
      refine k4.append ?_
      have:=RepRows.cons (sz:=sz) (x:=D x) (xs:=[]) (us:=us) (vs:=[]) (by omega) q3 (by rw [hD];exact q2) (.nil sz)
      simpa using this
   obtain ⟨xs,vs,k1,k2,k3,k4⟩:=build len (Nat.le_refl _)
   have hne:xs≠[]:=fun h=>by subst h;simp at k1;omega
   have hlt:b<W.heap.size:=by
    obtain ⟨us,y,g1,_,_⟩:=each 0 (by omega)
    have:=World.cells?_block g1 (by omega)
    rwa [add_plain] at this
   refine ⟨xs,⟨k2,nT (Nat.mul_le_mul_right _ (by omega)) hroom⟩,.cons ?_ .nil,by simp [Value.oneCell']⟩
   have:=Rep.sl (w:=W) (I:=fun b=>b<W.heap.size) (xs.map D) b off sz cap vs (by simpa using hne) (by rw [List.length_map,k1];exact hl) hlt h0 k3 k4
   rwa [List.length_map,k1] at this
def fTO (P:Program) (t:TypeId) : Option (List (TypeId×Nat)):=match P.underlying t with
 | some (.struct fs)=>some (fs.toList.map fun f=>(f.type,f.offset))
 | _=>none
theorem Wx {t:Nat} {l:List (TypeId×Nat)} (h:fTO P t=some l) : ∃ fs,P.underlying t=some (.struct fs)∧fs.toList.map (fun f=>(f.type,f.offset))=l:=by
 unfold fTO at h
 split at h
 ·rename_i fs hu;exact ⟨fs,hu,oI h⟩
 ·cases h
theorem Nu {α0 α1 α2:Type} {t n:Nat} {T0 s0:Nat} {F0:α0→List DV} {Q0:α0→Prop} {T1 s1:Nat} {F1:α1→List DV} {Q1:α1→Prop} {T2 s2:Nat} {F2:α2→List DV} {Q2:α2→Prop} (ht:fTO P t=some [(T0,0),(T1,s0),(T2,s0+s1)]) (hc:P.cellsOf t=s0+s1+s2) (z0:P.cellsOf T0=s0) (h0:OpF enc P W n T0 F0 Q0) (z1:P.cellsOf T1=s1) (h1:OpF enc P W n T1 F1 Q1) (z2:P.cellsOf T2=s2) (h2:OpF enc P W n T2 F2 Q2) :
  OpF enc P W (n+1) t (fun a:α0×α1×α2=>F0 a.1++(F1 a.2.1++(F2 a.2.2))) (fun a=>Q0 a.1∧Q1 a.2.1∧Q2 a.2.2):=by
 intro fuel cs x hf h hw
 obtain ⟨fs,hu,hfs⟩:=Wx ht
 obtain ⟨xs,m,rfl,rfl,hl,hlen,hfield⟩:=DataW.trod_struct hu h
 have hsz:fs.size=3:=by have:=congrArg List.length hfs;simpa using this
 have hm:m≤n:=by omega
 have each:∀ (i T off:Nat),[(T0,0),(T1,s0),(T2,s0+s1)][i]?=some (T,off)→∃ y,DataW.trod enc P W 0 (fun _=>true) true m T ((cs.drop off).take (P.cellsOf T))=some y∧∀ q∈DataW.weights P T y.1,q≤reachBytes:=by
  intro i T off hi
  rw [← hfs] at hi
  obtain ⟨f,hf1,hf2⟩:∃ f,fs[i]?=some f∧(f.type,f.offset)=(T,off):=by
   rw [List.getElem?_map,Option.map_eq_some_iff] at hi
   obtain ⟨f,h1,h2⟩:=hi
   exact ⟨f,by simpa using h1,h2⟩
  cases hf2
  have hi2:i<xs.length:=by have:=(Array.getElem?_eq_some_iff.1 hf1).1;omega
  refine ⟨xs[i],by rw [hfield i f hf1,lG hi2],fun q hq=>hw q ?_⟩
  simp only [DataW.weights,hu]
  exact DataW.weights_mem_each (j:=i) (by simp [hf1]) (by simp [hi2]) q hq
 obtain ⟨y0,e0,w0⟩:=each 0 T0 (0) rfl
 obtain ⟨a0,q0,r0,c0⟩:=h0 m _ y0 hm e0 w0
 rw [z0] at r0 c0
 obtain ⟨y1,e1,w1⟩:=each 1 T1 (s0) rfl
 obtain ⟨a1,q1,r1,c1⟩:=h1 m _ y1 hm e1 w1
 rw [z1] at r1 c1
 obtain ⟨y2,e2,w2⟩:=each 2 T2 (s0+s1) rfl
 obtain ⟨a2,q2,r2,c2⟩:=h2 m _ y2 hm e2 w2
 rw [z2] at r2 c2
 have hcs:cs=(cs.drop (0)).take s0++((cs.drop (s0)).take s1++(cs.drop (s0+s1)).take s2):=by
  have hl2:cs.length=s0+s1+s2:=by rw [hl,hc]
  clear each hfield h
  apply List.ext_getElem?
  intro j
  simp only [List.getElem?_append,List.getElem?_take,List.getElem?_drop,List.length_take,List.length_drop]
  repeat' split
  all_goals first|(congr 1;omega)|(rw [List.getElem?_eq_none (by omega)])
 refine ⟨(a0,a1,a2),⟨q0,q1,q2⟩,?_,?_⟩
 ·rw [hcs];exact (r0.append (r1.append r2))
 ·intro u hu2
  rw [hcs] at hu2
  simp only [List.mem_append] at hu2
  rcases hu2 with hu2|hu2|hu2
  ·exact c0 u hu2
  ·exact c1 u hu2
  ·exact c2 u hu2
theorem TX {t:TypeId} {v:Value} {d:DataW H} {ps:List MemPlace} {α:Type} {F:α→List DV} {Q:α→Prop} (h:∀ n,OpF enc P W n t F Q) (hv:∃ cs,v=.agg cs)
  (hd:DataW.Trod enc P W 0 (fun _=>true) true t v d ps) (hw:∀ m∈DataW.weights P t d,m≤reachBytes):∃ a,Q a∧Rep W (fun b=>b<W.heap.size) (.ag (F a)) v:=by
 obtain ⟨cs,rfl⟩:=hv
 obtain ⟨fuel,hf⟩:=hd
 obtain ⟨a,q,r,_⟩:=h fuel fuel _ _ (Nat.le_refl _) hf hw
 have:=Rep.ag _ _ r
 exact ⟨a,q,by simpa [Value.cells] using this⟩
end
end Go.FL
namespace Go.FL
open Go Go.RowKit
section
variable {P:Program} {C:Cx} {o:Oper} {env:Env} {H:Al}
theorem Vk {x i:Operand} {ty e n sz:Nat} {cs ds:List DV} {k:IntKind} {z:Int} (hty:Y2 P ty n e=true) (hsz:AK P e=sz) (hs0:0<sz) (hz:0≤z∧z<(n:Int)) (hds:cs.drop (z.toNat * sz)=ds) (ho:o.op=.indexAddr ty x i:=by rfl)
  (hv:lk env x=.d (.ptr cs):=by rfl) (hi:lk env i=.d (.i k z):=by rfl):VOK P C o env H (.d (.ptr ds)):=by
 obtain ⟨h1,h2⟩:=Ay hv (by simp)
 obtain ⟨h3,h4⟩:=Ay hi (by simp)
 refine .pv ⟨by simp [ho],fun X a w I μ O _ hs=>?_⟩
 obtain ⟨b,p,vs,he,g1,g2,g3⟩:=hs.dp h1 h2
 have hni:=hs.look_i h3 h4
 subst hds
 refine ⟨.pointer (some ⟨b,p+z.toNat * sz,none⟩),?_,.of_rep (.ptr _ _ _ _ g1 (g2.drop (z.toNat * sz)) (g3.drop (z.toNat * sz)))⟩
 unfold Y2 at hty
 split at hty
 ·rename_i m e' hu
  rw [Bool.and_eq_true] at hty
  have e1:=Nat.eq_of_beq_eq_true hty.1
  have e2:=Nat.eq_of_beq_eq_true hty.2
  subst e1;subst e2
  have ea:P.arrayLen ty=m:=by simp [Program.arrayLen,hu]
  have ee:P.elem ty=e':=by simp [Program.elem,hu]
  have hs1:(sizeOf e').run P w=.ok sz w:=by
   obtain ⟨inf,i1,i2⟩:=Im (P:=P) (t:=e') (by omega)
   rw [Dk i1]
   congr 1;omega
  simp only [execOp,ho,he,hni,Sem.run_bind]
  rw [run_indexAt_array w ty ⟨b,p,none⟩ k z (by rw [ea,ee];exact hu),ea,ee,if_pos hz,hs1]
  simp [Addr.add]
 ·cases hty
end
section
variable {H:Type} {enc:TypeId×Value→H} {P:Program} {W:World}
theorem UV {α:Type} {t e n sz:Nat} {F:α→List DV} {Q:α→Prop} (ht:P.underlying t=some (.array 2 e)) (hc:P.cellsOf t=sz+sz) (he:P.cellsOf e=sz) (h:OpF enc P W n e F Q) :
  OpF enc P W (n+1) t (fun a:α×α=>F a.1++F a.2) (fun a=>Q a.1∧Q a.2):=by
 intro fuel cs x hf hx hw
 obtain ⟨xs,m,rfl,rfl,hlen,hl,hel⟩:=DataW.trod_array ht hx
 simp only [DataW.weights,ht] at hw
 have each:∀ i,i<2→∃ y,DataW.trod enc P W 0 (fun _=>true) true m e ((cs.drop (i * sz)).take sz)=some y∧∀ q∈DataW.weights P e y.1,q≤reachBytes:=by
  intro i hi
  have h1:=hel i hi
  rw [he,lG (show i<xs.length by omega)] at h1
  exact ⟨_,h1,fun q hq=>hw q (Hi (d:=(xs[i]'(by omega)).1) (List.mem_map_of_mem (List.getElem_mem _)) q hq)⟩
 obtain ⟨y0,e0,w0⟩:=each 0 (by omega)
 obtain ⟨y1,e1,w1⟩:=each 1 (by omega)
 obtain ⟨a0,q0,r0,c0⟩:=h m _ y0 (by omega) e0 w0
 obtain ⟨a1,q1,r1,c1⟩:=h m _ y1 (by omega) e1 w1
 have hcs:cs=(cs.drop (0 * sz)).take sz++(cs.drop (1 * sz)).take sz:=by
  rw [Nat.zero_mul,Nat.one_mul,List.drop_zero]
  have:(cs.drop sz).take sz=cs.drop sz:=List.take_of_length_le (by rw [List.length_drop];omega)
  rw [this,List.take_append_drop]
 refine ⟨(a0,a1),⟨q0,q1⟩,?_,?_⟩
 ·rw [hcs];exact r0.append r1
 ·intro u hu
  rw [hcs] at hu
  rcases List.mem_append.1 hu with hu|hu
  ·exact c0 u hu
  ·exact c1 u hu
end
end Go.FL
namespace Go.FL
open Go Go.Proofs
theorem Io : Y2 Tryz.prog 46 2 32=true:=by kernel_rfl
section
variable {H:Type} {enc:TypeId×Value→H} {W:World}
theorem Ve {n:Nat} : OpF enc Tryz.prog W (n+1) 30 (fun a:List Nat=>[.sl (L a)]) (fun a=>okL 35184372087808 a=true):=by
 refine (WP (α:=Int) (F:=fun z=>[.i .u32 z]) (sz:=1) (fun z=>.i .u32 z) (by kernel_rfl:Tryz.prog.underlying 30=some (.slice 121)) (by kernel_rfl) (by decide) (fun _=>rfl) (Sv (by kernel_rfl))).map fun zs hz=>?_
 obtain ⟨a,h1,h2⟩:=Rq zs hz.1
 refine ⟨a,Bd.2 ⟨h1,?_⟩,by rw [← h2]⟩
 have h3:=hz.2
 rw [show Tryz.prog.bytesOf 121=4 by kernel_rfl,show reachBytes=140737488351232 by decide] at h3
 have:=congrArg List.length h2
 rw [List.length_map,Ab] at this
 omega
theorem R9 (n:Nat) : OpF enc Tryz.prog W n 30 (fun a:List Nat=>[.sl (L a)]) (fun a=>okL 35184372087808 a=true):=Ve.mono (Nat.le_succ n)
theorem Wt (n:Nat) : OpF enc Tryz.prog W n 32 (fun r:RT=>[.b r.1,.sl (L r.2.1),.sl (L r.2.2)]) (fun r=>Dc r=true):=by
 refine OpF.mono (n:=n+1) ((Nu (t:=32) (T0:=4) (T1:=30) (T2:=30) (s0:=1) (s1:=1) (s2:=1) (by kernel_rfl) (by kernel_rfl) (by kernel_rfl) (XV (by kernel_rfl)) (by kernel_rfl) (R9 n) (by kernel_rfl) (R9 n)).map fun r hr=>?_) (Nat.le_succ n)
 exact ⟨r,by rw [Dc,hr.2.1,hr.2.2];rfl,rfl⟩
end
theorem PZ {P:Program} {w:World} {r:Reach} {base:Nat} {t:TypeId} {v:Value} {n:Nat} {e:TypeId} (ht:P.underlying t=some (.array n e)) (h:Value.okWide P w r base t v) : ∃ cs,v=.agg cs∧cs.size=P.cellsOf t:=by
 simp only [Value.okWide,ht] at h
 obtain ⟨cs,h1,h2,_⟩:=h
 exact ⟨cs,h1,h2⟩
section
variable {H:Type} {enc:TypeId×Value→H} {W:World}
theorem Yc (n:Nat) : OpF enc Tryz.prog W n 46 (fun l:RT×RT=>[.b l.1.1,.sl (L l.1.2.1),.sl (L l.1.2.2),.b l.2.1,.sl (L l.2.2.1),.sl (L l.2.2.2)]) (fun l=>Dc l.1=true∧Dc l.2=true) :=
 OpF.mono (n:=n+1) (UV (e:=32) (sz:=3) (by kernel_rfl) (by kernel_rfl) (by kernel_rfl) (Wt n)) (Nat.le_succ n)
theorem Y8 (n:Nat) : OpF enc Tryz.prog W n 34 (fun r:Int×RT×Int=>[.i .i64 r.1,.b r.2.1.1,.sl (L r.2.1.2.1),.sl (L r.2.1.2.2),.i .i64 r.2.2]) (fun r=>((Lit.int .i64 r.1).wf=true)∧Dc r.2.1=true∧(Lit.int .i64 r.2.2).wf=true):=by
 refine OpF.mono (n:=n+1) ((Nu (t:=34) (T0:=3) (T1:=32) (T2:=3) (s0:=1) (s1:=3) (s2:=1) (by kernel_rfl) (by kernel_rfl) (by kernel_rfl) (Sv (by kernel_rfl:Tryz.prog.underlying 3=some (.int .i64))) (by kernel_rfl) (Wt n) (by kernel_rfl) (Sv (by kernel_rfl:Tryz.prog.underlying 3=some (.int .i64)))).map fun r hr=>?_) (Nat.le_succ n)
 exact ⟨r,hr,rfl⟩
end
end Go.FL

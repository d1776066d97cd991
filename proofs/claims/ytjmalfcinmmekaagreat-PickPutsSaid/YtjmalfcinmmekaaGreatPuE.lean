/-
  Part 5 of the base of the proofs: a logic of our own over the calculus, the contracts of the functions
-/
import Derived.Test.YtjmalfcinmmekaaGreatPuD
set_option linter.unusedVariables false
namespace Go.FL
open Go Go.Proofs
def vec (xs:List Itm) : Arr:=.mk [(xs.length:Int)] xs
def VR (xs:List Itm) : Prop:=xs≠[]∧xs.length≤4096∧(∀ x∈xs,okI x)∧Bc (vec xs)
theorem JS {n:Int} {xs:List Itm} : AK (.mk [n] xs)=false:=by unfold AK;rfl
theorem V2 {xs ys:List Itm} (h:ys.Sublist xs) : cIs ys≤cIs xs:=by
 induction h with
 | slnil=>exact Nat.le_refl _
 | cons a _ ih=>simp only [cIs];omega
 | cons_cons a _ ih=>simp only [cIs];omega
theorem Vj {xs ys:List Itm} (h:∀ x∈ys,x∈xs) : dIs ys≤dIs xs:=Xq fun x hx=>Ji (h x hx)
theorem VR.ok {xs:List Itm} (h:VR xs) : okAr (vec xs):=by
 obtain ⟨_,h2,h3,_⟩:=h
 rw [BN]
 refine ⟨fun z hz=>?_,by show [(xs.length:Int)].length≤_;simp,by show xs.length≤_;omega,h3⟩
 have hz':z∈[(xs.length:Int)]:=hz
 rw [List.mem_singleton] at hz'
 omega
theorem VR.items {xs:List Itm} (h:VR xs) : ∀ x∈xs,okI x∧CK x:=fun x hx=>GM h.ok h.2.2.2 (x:=x) hx
theorem VR.sz {xs:List Itm} (h:VR xs) : szP (vec xs).shape=((xs.length:Int),0):=Kv h.2.1
theorem VR.pos {xs:List Itm} (h:VR xs) : 0<xs.length:=List.length_pos_iff.2 h.1
theorem UT {n:Nat} (h:n≤4096) : ∀ z∈[(n:Int)],-9223372036854775808≤z∧z≤9223372036854775807:=fun z hz=>by
 rw [List.mem_singleton] at hz;omega
theorem VR.make {xs:List Itm} (h:VR xs) : AT [(xs.length:Int)] xs=some (vec xs,0):=by
 obtain ⟨h1,h2,h3,h4⟩:=h
 have hs:=Kv h2
 have hp:=List.length_pos_iff.2 h1
 have hc:¬(xs=[]∨¬∀ x∈xs,CK x):=fun q=>q.elim h1 fun q=>q fun x hx=>(VR.items ⟨h1,h2,h3,h4⟩ x hx).2
 rw [HV (UT h2) (by simp) (by omega) h3,hs,if_neg (fun q=>q rfl),if_neg hc,F5 rfl (by omega),if_pos (show Bc (Arr.mk [(xs.length:Int)] xs) from h4)];rfl
theorem SF {xs:List Itm} {a:Arr} (hx:∀ x∈xs,okI x) (hl:xs.length≤1466015503701) (h:AT [(xs.length:Int)] xs=some (a,0)) : VR xs∧a=vec xs:=by
 rw [HV (fun z hz=>by rw [List.mem_singleton] at hz;omega) (by simp) hl hx] at h
 by_cases h0:(szP [(xs.length:Int)]).2=0
 rotate_left
 ·rw [if_pos h0] at h
  exact absurd (congrArg Prod.snd (oI h)) h0
 have hd:=(VX h0).1 _ (List.mem_singleton.2 rfl)
 have hs:=Kv (n:=xs.length) (by omega)
 rw [if_neg (fun q=>q h0)] at h
 by_cases hc:xs=[]∨¬∀ x∈xs,CK x
 ·rw [if_pos hc] at h
  exact absurd (congrArg Prod.snd (oI h)) (by show ¬(22:Int)=0;decide)
 rw [if_neg hc,hs] at h
 have h1:xs≠[]:=fun e=>hc (.inl e)
 have hp:=List.length_pos_iff.2 h1
 rw [F5 rfl (by omega)] at h
 by_cases hr:Bc (.mk [(xs.length:Int)] xs)
 ·rw [if_pos hr] at h
  exact ⟨⟨h1,by omega,hx,hr⟩,(congrArg Prod.fst (oI h)).symm⟩
 ·rw [if_neg hr] at h
  exact absurd (congrArg Prod.snd (oI h)) (by show ¬(8:Int)=0;decide)
theorem VR.of {xs:List Itm} (h1:xs≠[]) (h2:xs.length≤4096) (h3:∀ x∈xs,okI x∧rI x=true) (hd:dIs xs≤15) (hc:xs.length+cIs xs≤16384) : VR xs:=by
 refine ⟨h1,h2,fun x hx=>(h3 x hx).1,?_,?_,?_⟩
 ·rw [I8]
  show (decide ((szP [(xs.length:Int)]).2=0)&&(decide ((xs.length:Int)=if (szP [(xs.length:Int)]).1<1 then 1 else (szP [(xs.length:Int)]).1)&&rIs xs))=true
  have hp:=List.length_pos_iff.2 h1
  rw [Kv h2,Fr.2 fun x hx=>(h3 x hx).2,if_neg (by show ¬(xs.length:Int)<1;omega)]
  simp
 ·rw [Hm]
  show (if AK (.mk [(xs.length:Int)] xs)=true then 0 else 1+dIs xs)≤16
  rw [JS,if_neg (by decide)];omega
 ·rw [Ip];exact hc
theorem VR.parts {xs:List Itm} (h:VR xs) : dIs xs≤15∧xs.length+cIs xs≤16384:=by
 obtain ⟨_,_,_,_,h2,h3⟩:=h
 rw [Hm] at h2
 have h2':(if AK (.mk [(xs.length:Int)] xs)=true then 0 else 1+dIs xs)≤16:=h2
 rw [JS,if_neg (by decide)] at h2'
 rw [Ip] at h3
 have h3':xs.length+cIs xs≤16384:=h3
 omega
theorem VR.sub {xs ys:List Itm} (h:VR xs) (hs:ys.Sublist xs) (hn:ys≠[]) : VR ys:=by
 obtain ⟨p1,p2⟩:=h.parts
 have hl:=hs.length_le
 have hc:=V2 hs
 have h2:=h.2.1
 exact .of hn (by omega) (fun x hx=>⟨(h.items x (hs.subset hx)).1,(h.items x (hs.subset hx)).2.1⟩) (nT (Vj fun x hx=>hs.subset hx) p1) (by omega)
theorem VR.zero {xs:List Itm} (h:VR xs) : AT [0] [tyI (xs.headD default)]=some (.mk [0] [tyI (xs.headD default)],0)∧okAr (.mk [0] [tyI (xs.headD default)])∧Bc (.mk [0] [tyI (xs.headD default)]):=by
 obtain ⟨p1,p2⟩:=h.parts
 obtain ⟨x,ys,rfl⟩:=List.exists_cons_of_ne_nil h.1
 obtain ⟨ox,rx⟩:=h.items x (by simp)
 obtain ⟨t1,t2,t3,t4,t5,t6⟩:=Sb ox rx.1
 have hI:okI (tyI x)∧CK (tyI x):=⟨t6,t1,t2▸rx.2.1,t3▸rx.2.2⟩
 have hsz:szP [0]=(0,0):=rfl
 have hmk:Ck (szP [0]).1 [tyI x]=[tyI x]:=by
  rw [hsz];show [tyI (tyI x)]=_;rw [t4]
 have hd:dI x≤15:=nT (Ji (List.mem_cons_self ..)) p1
 have hcx:1+cI x≤16384:=by
  have:cIs (x::ys)=cI x+cIs ys:=rfl
  rw [this,List.length_cons] at p2;omega
 have hR:Bc (.mk [0] [tyI x]):=by
  refine ⟨?_,?_,?_⟩
  ·rw [I8,Fy,Em,hsz,Fr.2 (by simpa using t1)];rfl
  ·rw [Hm,JS,if_neg (by decide),Em,dIs,dIs,Nat.max_zero,t2];omega
  ·rw [Ip,Em];simp only [cIs,List.length_singleton];omega
 have hc:¬([tyI x]=[]∨¬∀ y∈[tyI x],CK y):=fun q=>q.elim (fun e=>by cases e) fun q=>q fun y hy=>by rw [List.mem_singleton] at hy;subst hy;exact hI.2
 refine ⟨?_,?_,hR⟩
 ·show AT [0] [tyI x]=some (.mk [0] [tyI x],0)
  rw [HV (fun z hz=>by rw [List.mem_singleton] at hz;omega) (by simp) (by simp) (fun y hy=>by rw [List.mem_singleton] at hy;subst hy;exact hI.1),hmk,if_neg (by rw [hsz];exact fun q=>q rfl),if_neg hc,if_pos hR]
 ·show okAr (.mk [0] [tyI x])
  rw [BN]
  exact ⟨fun z hz=>by rw [Fy,List.mem_singleton] at hz;omega,by simp [Fy],by simp [Em],fun y hy=>by rw [Em,List.mem_singleton] at hy;subst hy;exact hI.1⟩
theorem Pr {z:Int} (hz:I6 z) : okAr (.mk [] [Fh z])∧Bc (.mk [] [Fh z]):=⟨OU (Wr hz),(PB (Rr hz) rfl (by show (1:Int)≠3;decide)).1⟩
theorem Pf {z:Int} (h:I6 z) : ME (.mk [] [Fh z])=some ([z],true):=by
 obtain ⟨on,rn⟩:=Pr h
 unfold ME Y4
 rw [Hg on,oB,dT rn,if_pos rfl,if_pos (by simp [Fy]),Mo on,Fy,Ka,if_neg (by rintro (q|q);exact absurd q (by decide);exact q rn),Em,oB,if_pos (by simp)]
 have:=Oi (l:=[z]) (s:=[]) (by simpa using h) (by simp)
 rw [List.map_singleton] at this
 rw [this];rfl
theorem QA {z:Int} (h:I6 z) : G8 (.mk [] [Fh z])=some ([z],0):=by
 unfold G8
 rw [Fy,if_neg (by simp),Pf h];rfl
theorem Rq {z n:Int} {xs:List Itm} (h:I6 z) : HN (.mk [] [Fh z]) (.mk [n] xs)=some ([z],.mk [n] xs,0):=by
 unfold HN
 rw [QA h,oB,BW,if_pos rfl,Fy]
 rfl
theorem Tk {n:Nat} {xs:List Itm} {z:Nat} (hL:n≤4096) (hz:z≤1000) (K:List Int→Int→Option (Arr×Int)) (k:Nat) :
  DH ([(z:Int)],.mk [(n:Int)] xs,0) [1] K (k+2) [0] 0 0=K [((n-min z n:Nat):Int)] ((min z n:Nat):Int):=by
 rw [DH,if_pos (by simp),BW,Mx,oB,Fy,Mx,oB,if_pos (by omega),Mx,oB,Mx,oB]
 have e:(if (n:Int)<(z:Int) then (n:Int) else (z:Int))=((min z n:Nat):Int):=by
  by_cases q:(n:Int)<(z:Int)
  ·rw [if_pos q];omega
  ·rw [if_neg q];omega
 have a1:w64 (1 * ((min z n:Nat):Int))=((min z n:Nat):Int):=by rw [Int.one_mul];exact CN (by omega) (by omega)
 have a2:w64 (0+((min z n:Nat):Int))=((min z n:Nat):Int):=by rw [Int.zero_add];exact CN (by omega) (by omega)
 have a3:w64 ((n:Int)-((min z n:Nat):Int))=((n-min z n:Nat):Int):=by rw [CN (by omega) (by omega)];omega
 have a4:w64 (0+1)=1:=CN (by omega) (by omega)
 rw [e,a1,a2,a3,a4]
 show DH _ [1] K (k+1) _ 1 _=_
 rw [DH,if_neg (by simp)]
 rfl
theorem RV {n:Nat} {xs:List Itm} {z:Nat} (hL:n≤4096) (hz:z≤1000) : JK (.mk [] [Fh z]) (.mk [(n:Int)] xs) =
  EI (.mk [(n:Int)] xs) [((n-min z n:Nat):Int)] ⟨.fn 221 [] [.ptr [.i .i64 ((min z n:Nat):Int)],.ptr [.sl (Is [1])]],fun x=>Im x ((min z n:Nat):Int) [1]⟩:=by
 have hF:Az=999999999999998+2:=rfl
 unfold JK
 rw [Rq ⟨by omega,by omega⟩,oB,if_pos rfl,YK (by simp),oB,Nd (by simp [Fy]),oB,BW,hF]
 have hst:(Mu (Arr.mk [(n:Int)] xs).shape).1=[1]:=rfl
 simp only [hst]
 have:=Tk (n:=n) (xs:=xs) (z:=z) hL hz (fun z4 z5=>(EI (.mk [(n:Int)] xs) z4 ⟨.fn 221 [] [.ptr [.i .i64 z5],.ptr [.sl (Is [1])]],fun x=>Im x z5 [1]⟩).bind fun x16=>some (x16.1,x16.2)) 999999999999998
 refine Eq.trans this ?_
 generalize EI _ _ _=m
 cases m<;>rfl
theorem YA {p:Itm} (o:okAr (.mk [0] [p])) (r:Bc (.mk [0] [p])) {z:Nat} (hz:z≤1000) : JK (.mk [] [Fh z]) (.mk [0] [p])=some (.mk [0] [tyI p],0):=by
 have:=RV (n:=0) (xs:=[p]) (z:=z) (by omega) hz
 rw [show ((0:Nat):Int)=0 from rfl] at this
 rw [this]
 have hm:0-min z 0=0:=by omega
 rw [hm]
 refine (RE (VT o r) (by simp) rfl).trans ?_
 exact T9 o r rfl (fun z hz=>by rw [List.mem_singleton] at hz;omega) (by simp) rfl (.inr rfl)
end Go.FL
namespace Go.FL
open Go Go.RowKit
def M0 : AV→Bool
 | .ref (.c _ _) _ _=>false
 | .ep (.c _ _) _ _=>false
 | av=>noBp av
section
variable {P:Program} {C:Cx} {X:Snap} {o:Oper} {ops:Array Oper} {Q:Exit→Env→Ac→Prop} {env env':Env} {H H':Ac} {a:Act} {w w':World} {I I':Nat→Prop} {μ μ':List Nat} {O O':Nat→Option Loc}
 {K:Env→Ac→Prop} {k:Nat} {l:List Oper}
theorem PI {p:AV→Bool} (hu:p .un=true) : ∀ {env:Env},(env.all fun x=>p x.2)=true→∀ t,p (get env t)=true
 | [],_,_=>hu
 | (s,v)::r,h,t=>by
  simp only [List.all_cons,Bool.and_eq_true] at h
  simp only [get]
  split
  ·exact h.1
  ·exact PI hu h.2 t
theorem Gh2.drop (hb:(env.all fun x=>M0 x.2)=true) (hne:C.ne=0) : Gh2 P C env H env []:=fun X a w I μ O _ h2 h3 hs=>by
 have hne':X.ne=0:=h3.trans hne
 refine ⟨I,[],O,{
  prot:=hs.prot,kO:=hs.kO,kI:=hs.kI,mono:=hs.mono,os:=hs.os,tape:=hs.tape,output:=hs.output,size:=hs.size,own:=hs.own,ilt:=hs.ilt
  μlen:=rfl
  μpre:=fun i b hi _=>by omega
  nle:=by simp [hne']
  heap:=fun id ob ho=>by simp at ho
  klt:=hs.klt
  n0le:=hs.n0le
  envr:=fun s=>?_
  nt:=hs.nt
  dfs:=hs.dfs}⟩
 have hp:=PI (p:=M0) rfl hb s
 have ht:=hs.envr s
 have plain:∀ av,get env s=av→noBp av=true→A8 av=false→TRep P env [] a w I [] O s av:=by
  intro av hav hn hr
  rw [hav] at ht
  obtain ⟨bs,g1,g2,g3⟩:=ht.plain hr
  exact .of (g1.noBp (μ':=[]) hn) g2 g3
 cases hgs:get env s with
 | ref p off len =>
  rw [hgs] at hp
  cases p with
  | c _ _=>simp [M0] at hp
  | t r =>
   rw [hgs] at ht
   obtain ⟨e',xs,A,n,c,g1,g2,g3,g4⟩:=ht
   exact ⟨e',xs,A,n,c,g1,g2,g3,g4⟩
 | ep p i k =>
  rw [hgs] at hp
  cases p with
  | c _ _=>simp [M0] at hp
  | t r =>
   rw [hgs] at ht
   obtain ⟨e',xs,b,n,c,g1,g2,g3,g4,g5⟩:=ht
   exact ⟨e',xs,b,n,c,g1,g2,g3,g4,g5⟩
 | _ =>
  rw [hgs] at hp
  exact plain _ hgs hp rfl
theorem L2 {c:Call} {f t s t0:Nat} {avs:List AV} {r:AV} {xa:List Operand} {e:TypeId} {xs:List DV} (xs':List DV) (h:RL P C ops Q (k+1) l ((t,r)::(t0,.own e xs')::(s,.un)::env) []) (hfn:FnG P f (.own e xs::avs) H r [.own e xs'] H)
  (hcall:∀ args w,(callFunc f args).run P w=.ok (.enter f args) w) (hg:grd ops env o true=true:=by rfl) (ho:o.op=.call c:=by rfl) (hc:c.callee=.value (.func f):=by rfl) (hx:c.args.toList=.tmp s::xa:=by rfl)
  (hv:get env s=.ref (.t t0) 0 xs.length:=by rfl) (hp:get env t0=.own e xs:=by rfl) (ha:argsA ((t0,.un)::env) xa=some avs:=by rfl) (hcr:BQ env=false:=by rfl) (hr:Ds t0 ((s,.un)::env.filter fun x=>x.1 != s)=false:=by rfl) (hd:o.dst=some t:=by rfl)
  (hf:Ao (get env t)=false:=by rfl) (hst:s≠t0:=by decide) (htt:t≠t0:=by decide) (ht:okT C.nt t:=by rfl) (h0:C.n0=0:=by rfl) (hne:C.ne=0:=by rfl) (hb:(((t,r)::(t0,.own e xs')::(s,.un)::env).all fun x=>M0 x.2)=true:=by rfl):RL P C ops Q k (o::l) env H :=
 YV xs' (fun _=>RL.gh2 (Gh2.drop hb hne) h) hfn hcall hg ho hc hx hv hp ha hcr hr hd hf hst htt ht h0
theorem Xu {e:TypeId} {xs:List DV} (hH:H=[]) (h0:get env 0=.own e xs) : XZ [] (.tup []) [.own e xs] [] .ret env H :=
 ⟨⟨[],by rw [hH];rfl⟩,rfl,fun i c hi=>by
  cases i with
  | zero=>simp at hi;subst hi;exact ⟨h0,rfl,by simp⟩
  | succ i=>simp at hi⟩
theorem No {e:TypeId} {xs:List DV} (hH:H=[]) (h0:get env 0=.own e xs) : XZ [] (.tup []) [.own e xs] [] .normal env H:=Xu (env:=env) hH h0
end
end Go.FL
namespace Go.FL
open Go Go.RowKit
section
variable {P:Program} {C:Cx} {X:Snap} {o:Oper} {ops:Array Oper} {Q:Exit→Env→Ac→Prop} {env env':Env} {H H':Ac} {a:Act} {w w':World} {I I':Nat→Prop} {μ μ':List Nat} {O O':Nat→Option Loc}
 {K:Env→Ac→Prop} {k:Nat} {l:List Oper}
theorem UB {p:Pl} {e:TypeId} {xs:List DV} (hp:AJ env H p=.own e xs) (v:AV) : AJ (Ha p v env) (H9 p v H) p=v:=by
 cases p with
 | t n=>simp [AJ,Ha,get]
 | c id off =>
  simp only [AJ] at hp
  cases hH:H[id]? with
  | none=>rw [hH] at hp;cases hp
  | some ob =>
   cases ob with
   | box cs =>
    rw [hH] at hp
    replace hp:cs.getD off .un=.own e xs:=hp
    have hlt:off<cs.length:=by
     rw [lD] at hp
     cases hx:cs[off]? with
     | none=>simp [hx] at hp
     | some y=>exact (lS.1 hx).1
    have hlt':id<H.length:=(lS.1 hH).1
    have h2:H9 (.c id off) v H=H.set id (.box (cs.set off v)):=by simp [H9,Ee,hH]
    have h3:(H.set id (.box (cs.set off v)))[id]?=some (.box (cs.set off v)):=by simp [hlt']
    rw [h2]
    simp only [AJ,h3]
    show (cs.set off v).getD off .un=v
    rw [lD,List.getElem?_set_self hlt];rfl
theorem TY (p:Pl) (v v':AV) (H:Ac) : H9 p v (H9 p v' H)=H9 p v H:=by
 cases p with
 | t n=>rfl
 | c id off =>
  simp only [H9,Ee]
  cases hH:H[id]? with
  | none=>simp [hH]
  | some ob =>
   cases ob with
   | box cs =>
    have hlt':id<H.length:=(lS.1 hH).1
    simp [hlt']
theorem Tp (p:Pl) (v v':AV) (env:Env) (s:Nat) : get (Ha p v env) s=get (Ha p v (Ha p v' env)) s:=by
 cases p with
 | t n =>
  simp only [Ha,get]
  split<;>rfl
 | c id off=>rfl
theorem Wp {p:Pl} {v:AV} (hp:AJ env H p=v) (hv:v≠.un) : H9 p v H=H:=by
 cases p with
 | t n=>rfl
 | c id off =>
  simp only [AJ] at hp
  cases hH:H[id]? with
  | none=>rw [hH] at hp;exact absurd hp.symm hv
  | some ob =>
   cases ob with
   | box cs =>
    rw [hH] at hp
    replace hp:cs.getD off .un=v:=hp
    simp only [H9,Ee,hH]
    have:cs.set off v=cs:=by
     refine List.set_same _ _ ?_
     rw [lD] at hp
     cases hx:cs[off]? with
     | none=>simp [hx] at hp;exact absurd hp.symm hv
     | some y=>simp [hx] at hp;rw [hp]
    rw [this,List.set_same _ _ hH]
theorem QD {p:Pl} {v:AV} (hp:AJ env H p=v) (s:Nat) : get (Ha p v env) s=get env s:=by
 cases p with
 | t n =>
  simp only [Ha,get]
  split
  ·rename_i h;subst h;exact hp.symm
  ·rfl
 | c id off=>rfl
theorem Sim.storeA {p:Pl} {i r:Nat} {e:TypeId} {addr:Addr} (ha:a.tmps.getD r undef=.pointer (some addr)) (hn:∀ id off,p=.c id off→X.n0≤id) : ∀ (us:List Value) (k:Nat) (ds zs:List DV) (env:Env) (H:Ac) (w:World) (xs:List DV),Sim P X env H a w I μ O →
  AJ env H p=.own e xs→get env r=.ep p i 0→xs[i]?=some (.ag zs)→zs.length=AB P e→k+us.length≤zs.length→RepAll w I ds us→(∀ u∈us,u.oneCell'=true) →
  ∃ w',(storeCells addr us k).run P w=.ok () w'∧Sim P X (Ha p (.own e (xs.set i (.ag (zs.take k++ds++zs.drop (k+us.length))))) env) (H9 p (.own e (xs.set i (.ag (zs.take k++ds++zs.drop (k+us.length))))) H) a w' I μ O
 | [],k,ds,zs,env,H,w,xs,hs,hp,hv,hx,hl,hk,hr,h1=>by
  cases hr
  have e1:xs.set i (.ag (zs.take k++[]++zs.drop (k+([]:List Value).length)))=xs:=by
   rw [List.append_nil,List.length_nil,Nat.add_zero,List.take_append_drop,List.set_same _ _ hx]
  rw [e1,Wp hp (by simp)]
  exact ⟨w,rfl,hs.same fun s=>QD hp s⟩
 | u::us,k,ds,zs,env,H,w,xs,hs,hp,hv,hx,hl,hk,hr,h1=>by
  cases hr with
  | @cons d _ ds _ hd ht =>
   rw [List.length_cons] at hk
   have he0:LC P env H a w μ p i 0 (.pointer (some addr)):=by
    have:=hs.envr r
    rw [hv] at this
    rwa [← ha]
   obtain ⟨e',ys,b,n,c,g1,g2,g3,g4,g5⟩:=he0
   have hye:AV.own e xs=.own e' ys:=hp.symm.trans g1
   cases hye
   simp only [Value.pointer.injEq,Option.some.injEq,Nat.add_zero] at g5
   subst g5
   have hek:LC P env H a w μ p i k (.pointer (some ⟨b,i * AB P e+k,none⟩)):=⟨e,xs,b,n,c,g1,g2,g3,by omega,rfl⟩
   have hu:=h1 u (by simp)
   obtain ⟨b',off,q1,⟨u0,q2⟩,q3,q4⟩:=hs.storeE hp hn hek (x':=.ag (zs.set k d)) (x0:=d) hx rfl hd hu
   simp only [Value.pointer.injEq,Option.some.injEq,Addr.mk.injEq,and_true] at q1
   obtain ⟨rfl,rfl⟩:=q1
   have hIb:¬I b:=by
    obtain ⟨v,bs,m1,m2,m3,m4⟩:=hs.at_place hp
    rw [g2] at m1;cases m1
    have hc0:¬c=0:=by have:=E4 m2;omega
    have hb:b∈bs:=by rw [m3];simp [BD,hc0]
    obtain ⟨k1,k2,k3⟩:=m4 b hb
    cases p with
    | t n=>exact (hs.own b _ (k2 n rfl)).2
    | c id off=>exact (hs.own b _ ((k3 id off rfl).1 (hn id off rfl))).2
   have hst:(store ((⟨b,i * AB P e,none⟩:Addr).add k) u).run P w=.ok () (w.setCell ⟨b,i * AB P e+k,none⟩ u):=by
    have hadd:(⟨b,i * AB P e,none⟩:Addr).add k=⟨b,i * AB P e+k,none⟩:=by unfold Addr.add;split<;>simp_all
    rw [hadd,run_store P w _ u _ hu,q2]
    simp [q3]
   have hkl:k<zs.length:=by omega
   have hset:(xs.set i (.ag (zs.set k d)))[i]?=some (.ag (zs.set k d)):=by
    have:i<xs.length:=(lS.1 hx).1
    simp [this]
   have hv':get (Ha p (.own e (xs.set i (.ag (zs.set k d)))) env) r=.ep p i 0:=by
    cases p with
    | t n =>
     have:n≠r:=fun h=>by
      subst h
      simp only [AJ] at hp
      rw [hp] at hv;cases hv
     simp only [Ha,get,if_neg this];exact hv
    | c id off=>exact hv
   obtain ⟨w2,z1,z2⟩:=Sim.storeA ha hn us (k+1) ds (zs.set k d) _ _ _ _ q4 (UB hp _) hv' hset (by simpa using hl) (by simp;omega)
    (ht.keep (fun b' hb'=>heap_setCell_other w ⟨b,i * AB P e+k,none⟩ b' u fun e=>hIb (by rw [← (show b'=b from e)];exact hb')) fun _ h=>h) fun u hu=>h1 u (by simp [hu])
   refine ⟨w2,?_,?_⟩
   ·simp only [storeCells,Sem.run_bind,hst,Result.andThen_ok,z1]
   ·have e1:(zs.set k d).take (k+1)++ds++(zs.set k d).drop (k+1+us.length)=zs.take k++d::ds++zs.drop (k+(u::us).length):=by
     have t1:(zs.set k d).take (k+1)=zs.take k++[d]:=by
      rw [List.take_add_one,List.getElem?_set_self (by omega),List.take_set_of_le (Nat.le_refl k)];rfl
     have t2:(zs.set k d).drop (k+1+us.length)=zs.drop (k+1+us.length):=by
      rw [List.drop_set_of_lt (by omega)]
     rw [t1,t2,List.length_cons,show k+(us.length+1)=k+1+us.length by omega];simp
    rw [e1,List.set_set,TY] at z2
    exact z2.same fun s=>Tp _ _ _ _ _
theorem Yw {α:Type} {F:List α→List DV} {ds zs:List DV} {us:List α} {n m:Nat} {x:α} {y:Operand} {r ty e:Nat} {p:Pl} (hset:(F us).set n (.ag ds)=F (us.set n x)) (hm:m=n) (hx:(F us)[0+n]?=some (.ag zs)) (hl:zs.length=ds.length)
  (h:RL P C ops Q (k+1) l (Ha p (.own e (F (us.set m x))) env) (H9 p (.own e (F (us.set m x))) H)) (hsz:AB P ty=ds.length) (hsz2:AB P e=ds.length) (h0:0<ds.length)
  (hg:grd ops env o true=true:=by rfl) (ho:o.op=.store ty (.tmp r) y:=by rfl) (hv:get env r=.ep p (0+n) 0:=by rfl) (hp:AJ env H p=.own e (F us):=by rfl) (hy:lk env y=.d (.ag ds):=by rfl) (h1:ds.all DV.leaf=true:=by rfl) (hd:o.dst=none:=by rfl)
  (hn:∀ id off,p=.c id off→C.n0≤id:=by (intro _ _ h;cases h<;>decide)):RL P C ops Q k (o::l) env H:=by
 subst hm
 refine .go hg (.done (by simp [ho]) hd (fun X a w I μ O _ g2 _ hs=>?_) h)
 have hr:=hs.deep (x:=y) (v:=.ag ds) (by rw [hy];rfl)
 generalize hev:a.eval y=u at hr
 cases hr with
 | ag _ vs hr =>
  have he:=hs.envr r
  rw [hv] at he
  obtain ⟨e',ys,b,n',c,g1,g2',g3,g4,g5⟩:=he
  have hye:AV.own e (F us)=.own e' ys:=hp.symm.trans g1
  cases hye
  have hvl:vs.length=ds.length:=hr.length.symm
  obtain ⟨w',z1,z2⟩:=Sim.storeA g5 (fun id off h=>by rw [g2];exact hn id off h) vs 0 ds zs env H w (F us) hs hp hv hx (by rw [hl,hsz2]) (by omega) hr (hr.one h1)
  refine ⟨w',I,μ,O,?_,?_⟩
  ·have hx':a.eval (.tmp r)=.pointer (some ⟨b,(0+m) * AB P e+0,none⟩):=g5
   have hs':(sizeOf ty).run P w=.ok vs.length w:=by rw [hvl,← hsz];exact GK (by omega)
   have z1':(storeCells ⟨b,m * AB P e,none⟩ vs).run P w=.ok () w':=by simpa using z1
   have hsv:(storeVar ty ⟨b,(0+m) * AB P e+0,none⟩ (.agg vs.toArray)).run P w=.ok () w':=by
    simp [storeVar,hs',Value.cells,z1']
   simp only [execOp,ho,hx',hev,Instr.storeAt,Instr.sureAddr,Sem.run_bind,Sem.run_pure,Result.andThen_ok,hsv]
  ·have e1:zs.take 0++ds++zs.drop (0+vs.length)=ds:=by
    rw [Nat.zero_add,List.drop_of_length_le (by omega)];simp
   rw [e1,Nat.zero_add,hset] at z2
   exact z2
end
end Go.FL
namespace Go.FL
open Go Go.RowKit
section
variable {P:Program} {C:Cx} {X:Snap} {o:Oper} {ops:Array Oper} {Q:Exit→Env→Ac→Prop} {env env' envi:Env} {H H' H1:Ac} {a:Act} {w w':World} {I I':Nat→Prop} {μ μ':List Nat} {O O':Nat→Option Loc}
 {K:Env→Ac→Prop} {k:Nat} {l:List Oper} {av:AV}
def Mj (ops:Array Oper) (m:Nat) : Bool :=
 ((List.range ops.size).all fun i=>match ops[i]? with
  | some o=>o.after.all (fun e=>!Region.binds .any e||decide (e.on<i))&&(match o.op with|.select ..=>false|_=>true) &&
   ((List.range m).all fun j=>match ops[j]? with
     | some oj=>match oj.dst with
      | some t=>!(o.looksAt ops).contains t||(decide (j<i)&&E2 ops i j)
      | none=>false
     | none=>false)&&(decide (i<m)||o.guard.isNone)
  | none=>false)&&decide (m≤ops.size)
theorem Mt {m:Nat} (h:Mj ops m=true) : m≤ops.size∧∀ (i:Nat) o,ops[i]?=some o →
  (∀ e∈o.after,Region.binds .any e=true→e.on<i)∧(∀ j,j<m→∃ oj t,ops[j]?=some oj∧oj.dst=some t∧(t∈o.looksAt ops→j<i∧E2 ops i j=true))∧(m≤i→o.guard=none):=by
 unfold Mj at h
 simp only [Bool.and_eq_true,decide_eq_true_eq] at h
 obtain ⟨h,hm⟩:=h
 refine ⟨hm,fun i o ho=>?_⟩
 have hi:i<ops.size:=(Array.getElem?_eq_some_iff.1 ho).1
 have:=List.all_eq_true.1 h i (List.mem_range.2 hi)
 rw [ho] at this
 simp only [Bool.and_eq_true] at this
 obtain ⟨⟨⟨h1,_⟩,h3⟩,h4⟩:=this
 refine ⟨fun e he hb=>?_,fun j hj=>?_,fun him=>?_⟩
 ·obtain ⟨k,hk,rfl⟩:=Array.mem_iff_getElem.1 he
  have:=Array.all_eq_true.1 h1 k hk
  rw [hb] at this
  simpa using this
 ·have:=List.all_eq_true.1 h3 j (List.mem_range.2 hj)
  split at this
  ·rename_i oj hoj
   split at this
   ·rename_i t ht
    refine ⟨oj,t,hoj,ht,fun hm=>?_⟩
    have hc:(o.looksAt ops).contains t=true:=List.contains_iff_mem.2 hm
    rw [hc] at this
    simpa using this
   ·cases this
  ·cases this
 ·rw [Bool.or_eq_true] at h4
  rcases h4 with h4|h4
  ·have:=of_decide_eq_true h4;omega
  ·simpa using h4
theorem YR {m:Nat} {env0:Env} {tv:List (Nat×AV)} (hok:Mj ops m=true) (hlen:tv.length=m) (hone:∀ i,i<m→∃ o t v,ops[i]?=some o∧tv[i]?=some (t,v)∧NX P C ops H env0 (tv.take i).reverse o t v)
  (hdist:∀ (i j t:Nat) v u,tv[i]?=some (t,v)→tv[j]?=some (t,u)→i=j)
  (hst:∀ i o,m≤i→ops[i]?=some o→∀ e,(∀ (j t:Nat) v,E2 ops i j=true→tv[j]?=some (t,v)→get e t=v)→(∀ t,(∀ (j:Nat) v,tv[j]?≠some (t,v))→get e t=get env0 t)→OpOK P C o e H fun e' H'=>(∀ t,get e' t=get e t)∧H'=H)
  (hfin:RL P C ops Q ops.size [] (tv.reverse++env0) H) (n1:X.nt=C.nt) (n2:X.n0=C.n0) (n3:X.ne=C.ne):∀ (fuel:Nat) (L:Array Bool) (a:Act) (w:World) (I:Nat→Prop) (μ:List Nat) (O:Nat→Option Loc),L.size=ops.size→Sc ops L →
   (List.range ops.size).countP (fun i=>!L.getD i false)≤fuel→Sim P X (Dp tv env0 L) H a w I μ O→wpAnyIn (om C.ro) 0 P .any ops (Post P X Q) fuel L a w:=by
 obtain ⟨hm,hat⟩:=Mt hok
 have fin:∀ (fuel:Nat) (L:Array Bool) (a:Act) (w:World) (I:Nat→Prop) (μ:List Nat) (O:Nat→Option Loc),L.size=ops.size→(∀ j,j<ops.size→L.getD j false=true) →
   Sim P X (Dp tv env0 L) H a w I μ O→wpAnyIn (om C.ro) 0 P .any ops (Post P X Q) fuel L a w:=by
  intro fuel L a w I μ O hL hall hs
  refine wpAnyIn_done ?_ ?_ fuel
  ·apply List.eq_nil_iff_forall_not_mem.2
   intro j hj
   obtain ⟨h1,o,ho,_⟩:=mem_ready.1 hj
   have hlt:=(Array.getElem?_eq_some_iff.1 ho).1
   rw [B3 (by omega),hall j hlt] at h1;cases h1
  ·refine hfin (by simp) X a w I μ O n1 n2 n3 (hs.same (env':=tv.reverse++env0) fun t=>?_)
   by_cases hex:∃ (i:Nat) (v:AV),tv[i]?=some (t,v)
   ·obtain ⟨i,v,hi⟩:=hex
    rw [BM hdist (hall i (by have:=(lS.1 hi).1;omega)) hi]
    have hmem:(t,v)∈tv.reverse:=List.mem_reverse.2 (List.mem_of_getElem? hi)
    rw [Bi,if_pos (List.contains_iff_mem.2 (List.mem_map_of_mem (f:=(·.1)) hmem))]
    refine DT hmem fun u hu=>?_
    obtain ⟨j,hj⟩:=List.getElem?_of_mem (List.mem_reverse.1 hu)
    have:=hdist i j t v u hi hj
    subst this
    rw [hi] at hj;simp only [Option.some.injEq,Prod.mk.injEq,true_and] at hj;exact hj.symm
   ·rw [Bq fun i v _ hi=>hex ⟨i,v,hi⟩,Bi,if_neg]
    intro hc
    obtain ⟨x,hx,rfl⟩:=List.mem_map.1 (List.contains_iff_mem.1 hc)
    obtain ⟨i,hi⟩:=List.getElem?_of_mem (List.mem_reverse.1 hx)
    exact hex ⟨i,x.2,hi⟩
 intro fuel
 induction fuel with
 | zero =>
  intro L a w I μ O hL hD hf hs
  refine fin 0 L a w I μ O hL (fun j hj=>?_) hs
  cases hv:L.getD j false with
  | true=>rfl
  | false =>
   have:0<(List.range ops.size).countP (fun i=>!L.getD i false):=List.countP_pos_iff.2 ⟨j,List.mem_range.2 hj,by rw [hv];rfl⟩
   omega
 | succ fuel ih =>
  intro L a w I μ O hL hD hf hs
  by_cases hall:∀ j,j<ops.size→L.getD j false=true
  ·exact fin _ L a w I μ O hL hall hs
  obtain ⟨j0,⟨hj0,hj1⟩,hmin⟩:∃ j,(j<ops.size∧L.getD j false=false)∧∀ k,k<j→L.getD k false=true:=by
   have hex:∃ j,j<ops.size∧L.getD j false=false:=by
    apply Classical.byContradiction
    intro hno
    refine hall fun j hj=>?_
    cases hv:L.getD j false with
    | true=>rfl
    | false=>exact absurd ⟨j,hj,hv⟩ hno
   obtain ⟨j,hj⟩:=hex
   induction j using Nat.strongRecOn with
   | ind j ihj =>
    by_cases hk:∃ k,k<j∧L.getD k false=false
    ·obtain ⟨k,hk1,hk2⟩:=hk
     exact ihj k hk1 ⟨by omega,hk2⟩
    ·refine ⟨j,hj,fun k hk1=>?_⟩
     cases hv:L.getD k false with
     | true=>rfl
     | false=>exact absurd ⟨k,hk1,hv⟩ hk
  have hr0:j0∈Region.ready .any ops L:=mem_ready.2 ⟨by rw [B3 (by omega)];exact hj1,_,Array.getElem?_eq_getElem (by omega),fun e he hb=>hmin _ ((hat j0 _ (Array.getElem?_eq_getElem (by omega))).1 e he hb)⟩
  refine ⟨fun h0=>(by rw [h0] at hr0;cases hr0),fun i hi=>?_⟩
  obtain ⟨h1,o,ho,h2⟩:=mem_ready.1 hi
  have hlt:=(Array.getElem?_eq_some_iff.1 ho).1
  rw [B3 (by omega)] at h1
  have hD':Sc ops (L.setIfInBounds i true):=fun k ok hk hok' e he hb=>by
   rw [AC (by omega)] at hk ⊢
   split at hk
   ·rename_i hik;subst hik
    rw [ho] at hok';cases hok'
    split
    ·rfl
    ·exact h2 e he hb
   ·split
    ·rfl
    ·exact hD k ok hk hok' e he hb
  have hcount:(List.range ops.size).countP (fun k=>!(L.setIfInBounds i true).getD k false)≤fuel:=by
   have:=Ih (fun i=>!L.getD i false) (fun k=>!(L.setIfInBounds i true).getD k false) i (by simp only [h1];rfl) (by simp only [AC (by omega:i<L.size),if_true];rfl)
    (fun j hj=>by simp only [AC (by omega:i<L.size)];rw [if_neg (Ne.symm hj)]) (List.range ops.size) (List.mem_range.2 hlt) List.nodup_range
   omega
  rcases Nat.lt_or_ge i m with him|him
  ·refine QW (fun i o _ ho=>(hat i o ho).2.1) hlen (by omega) hone hdist n1 n2 n3 hL him hi hs fun a' w' I' O' hs'=>?_
   exact ih _ a' w' I' μ O' (by simpa using hL) hD' hcount hs'
  ·have hg:=(hat i o ho).2.2 him
   unfold wpOpIn
   simp only [ho]
   rw [if_pos (by simp [Region.wanted,hg])]
   refine hst i o him ho (Dp tv env0 L) (fun j t v hd hj=>?_) (fun t ht=>Bq fun j v _ hj=>ht j v hj) X a w I μ O _ _ n1 n2 n3 hs fun env' H' a' w' I' μ' O' hs' hK=>?_
   ·obtain ⟨o2,ho2,e,he,hb,rfl⟩:=FH hd
    rw [ho] at ho2;cases ho2
    exact BM hdist (h2 e he hb) hj
   ·obtain ⟨hK,rfl⟩:=hK
    have heL:Dp tv env0 (L.setIfInBounds i true)=Dp tv env0 L:=by
     have hfm:∀ (l:List Nat),(∀ j∈l,j<m)→l.filterMap (fun j=>if (L.setIfInBounds i true).getD j false=true then tv[j]? else none)=l.filterMap fun j=>if L.getD j false=true then tv[j]? else none:=by
      intro l
      induction l with
      | nil=>intro _;rfl
      | cons x l ihl =>
       intro hx
       have:=hx x (by simp)
       have e1:=AC (L:=L) (i:=i) (j:=x) (by omega)
       rw [if_neg (by omega)] at e1
       simp only [List.filterMap_cons,e1,ihl fun j hj=>hx j (by simp [hj])]
     unfold Dp
     rw [hfm _ fun j hj=>by have:=List.mem_range.1 hj;omega]
    refine ih _ a' w' I' μ' O' (by simpa using hL) hD' hcount ?_
    rw [heL]
    exact hs'.same fun t=>(hK t).symm
theorem AW.drawnI {id:Nat} (m:Nat) {env0:Env} (hm:P.follows .mixedOrders=true) (hok:Mj ops m=true)
  (h:DK P C ops H env0 [] (ops.toList.take m) fun fin =>
   (∀ i o,m≤i→ops[i]?=some o→∀ e,(∀ (j t:Nat) v,E2 ops i j=true→fin.reverse[j]?=some (t,v)→get e t=v)→(∀ t,(∀ (j:Nat) v,fin.reverse[j]?≠some (t,v))→get e t=get env0 t)→OpOK P C o e H fun e' H'=>(∀ t,get e' t=get e t)∧H'=H) ∧
   RL P C ops Q ops.size [] (fin++env0) H):AW P C (.region id ops true) Q env0 H:=fun X a w I μ O n1 n2 n3 hs=>by
 obtain ⟨fin,hDL,hst,hfin⟩:=h
 obtain ⟨tv,k1,k2,k3⟩:=hDL.table
 rw [List.append_nil] at k2
 subst k2
 rw [List.reverse_reverse] at hst
 obtain ⟨hle,_⟩:=Mt hok
 have hlen:tv.length=m:=by rw [k1];simp;omega
 refine wpIn_region_any hm ?_
 have hz:∀ j,(Array.replicate ops.size false).getD j false=false:=fun j=>by
  simp only [Array.getD_eq_getD_getElem?,Array.getElem?_replicate]
  split<;>rfl
 have hs':Sim P X (Dp tv env0 (Array.replicate ops.size false)) H a {w with drawn:=w.drawn+1} I μ O :=
  (hs.grow (w':={w with drawn:=w.drawn+1}) ⟨rfl,rfl,rfl,Nat.le_refl _,fun _ _=>rfl⟩).same fun t=>Bq fun i v h=>by
   rw [hz] at h;cases h
 have hone:∀ i,i<m→∃ o t v,ops[i]?=some o∧tv[i]?=some (t,v)∧NX P C ops H env0 (tv.take i).reverse o t v:=fun i hi=>by
  have ho:ops[i]?=some ops[i]:=Array.getElem?_eq_getElem (by omega)
  obtain ⟨t,v,m1,m2⟩:=k3 i ops[i] (by rw [List.getElem?_take_of_lt hi];simp)
  exact ⟨_,t,v,ho,m1,by simpa using m2⟩
 have hdist:∀ (i j t:Nat) v u,tv[i]?=some (t,v)→tv[j]?=some (t,u)→i=j:=by
  have lt:∀ (i j t:Nat) v u,tv[i]?=some (t,v)→tv[j]?=some (t,u)→¬i<j:=fun i j t v u hi hj hij=>by
   have hjm:j<m:=by have:=(lS.1 hj).1;omega
   obtain ⟨o,t',v',_,k1,k2⟩:=hone j hjm
   rw [hj] at k1;cases k1
   refine k2.2.2.2.1 (t,v) ?_ rfl
   rw [List.mem_reverse]
   exact List.mem_of_getElem? (by rw [List.getElem?_take_of_lt hij];exact hi)
  intro i j t v u hi hj
  have h1:=lt i j t v u hi hj
  have h2:=lt j i t u v hj hi
  omega
 refine YR hok hlen hone hdist hst hfin n1 n2 n3 ops.size _ a _ I μ O (by simp) (fun i o h=>by rw [hz] at h;cases h) ?_ hs'
 have h1:=List.countP_le_length (p:=fun i=>!(Array.replicate ops.size false).getD i false) (l:=List.range ops.size)
 rw [List.length_range] at h1
 omega
theorem Nl {e:Env} {t:Nat} {v:AV} (h:get e t=v) (s:Nat) : get ((t,v)::e) s=get e s:=by
 simp only [get]
 split
 ·rename_i h1;subst h1;exact h.symm
 ·rfl
theorem Oh {l:List (Nat×AV)} {t:Nat} (h:(l.map (·.1)).contains t=false) (j:Nat) (v:AV) : l[j]?≠some (t,v):=fun hj=>by
 have:=List.mem_map_of_mem (f:=(·.1)) (List.mem_of_getElem? hj)
 rw [List.contains_iff_mem.2 this] at h;cases h
end
end Go.FL
namespace Go.FL
open Go Go.RowKit
def TM (T:List (Int×Int)) (z:Int) : Int:=((T.find? fun p=>decide (p.1=z)).map (·.2)).getD 0
section
variable {P:Program} {C:Cx} {o:Oper} {env:Env} {H:Ac}
theorem YQ {T:List (Int×Int)} {z:Int} {x y:Operand} {ty kt et:TypeId} {q q2:IntKind} (hnd:(T.map (·.1)).Nodup) (hu:P.underlying ty=some (.map kt et)) (hk:P.underlying kt=some (.int q)) (hz:∀ w,(zeroValue et).run P w=.ok (.int q2 0) w)
  (ho:o.op=.lookup ty x y false:=by rfl) (hx:Bl (lk env x)=some (.mp (T.map fun p=>.i q p.1) (T.map fun p=>.i q2 p.2)):=by rfl) (hy:Bl (lk env y)=some (.i q z):=by rfl):VOK P C o env H (.d (.i q2 (TM T z))):=by
 have hzip:(T.map fun p=>DV.i q p.1).zip (T.map fun p=>DV.i q2 p.2)=T.map fun p=>(DV.i q p.1,DV.i q2 p.2):=by
  rw [List.zip_map']
 cases hf:T.find? fun p=>decide (p.1=z) with
 | none =>
  have e:TM T z=0:=by simp [TM,hf]
  rw [e]
  refine Zu hu hk hz (fun w I=>.i q2 0) (fun k hk'=>?_) ho hx hy
  obtain ⟨p,hp,rfl⟩:=List.mem_map.1 hk'
  have:=List.find?_eq_none.1 hf p hp
  exact ⟨p.1,rfl,by simpa using this⟩
 | some p =>
  have e:TM T z=p.2:=by simp [TM,hf]
  have hp:=List.mem_of_find?_eq_some hf
  have hpz:p.1=z:=by have:=List.find?_some hf;simpa using this
  rw [e]
  refine Zk hu hk (fun k hk'=>?_) ?_ (fun d' hd'=>?_) ho hx hy
  ·obtain ⟨p',_,rfl⟩:=List.mem_map.1 hk';exact ⟨_,rfl⟩
  ·rw [hzip];exact List.mem_map.2 ⟨p,hp,by rw [hpz]⟩
  ·rw [hzip] at hd'
   obtain ⟨p',hp',e'⟩:=List.mem_map.1 hd'
   simp only [Prod.mk.injEq,DV.i.injEq,true_and] at e'
   obtain ⟨e1,rfl⟩:=e'
   have:p'=p:=by
    obtain ⟨i,hi⟩:=List.getElem?_of_mem hp'
    obtain ⟨j,hj⟩:=List.getElem?_of_mem hp
    have hij:i=j:=by
     refine (List.getElem?_inj (l:=T.map (·.1)) (by rw [List.length_map];exact (lS.1 hi).1) hnd).1 ?_
     rw [List.getElem?_map,List.getElem?_map,hi,hj]
     simp [e1,hpz]
    subst hij
    rw [hi] at hj;exact oI hj
   rw [this]
end
end Go.FL
namespace Go.Proofs
open Go.RowKit Go.FL
set_option maxHeartbeats 4000000 in
set_option maxRecDepth 100000 in
theorem WH (w:World) : Calls Tryz.prog 157 #[.slice none 0 0,.int .i64 0] w fun x w'=>x=.returned (.slice none 0 0)∧w'=w:=by
 go_enter Tryz.func157,Tryz.ntmps157
 go_wp2
 go_ret
 exact ⟨rfl,rfl⟩
set_option maxHeartbeats 4000000 in
set_option maxRecDepth 100000 in
theorem YN : S1 Tryz.prog 157 3 17592186044416:=by
 intro n w hn
 rcases Nat.eq_zero_or_pos n with h0|h0
 ·subst h0
  exact (WH w).mono fun _ _ h=>.inl h
 obtain ⟨i0,i1,i2,i3,i4,i5,i6,i7,i8⟩:=CV DQ
 have hrz:∀ ty,(Builtin.append_ #[24,3] ty #[.slice none 0 0,.int .i64 (n:Int)]).run Tryz.prog w=.ok (.slice (some ⟨w.heap.size,0,none⟩) n (grownCap w n 0 3)) (w.drew.alloc (.cells (Builtin.zeroCells (Value.int .i64 0).cells n++Builtin.zeroCells (Value.int .i64 0).cells (grownCap w n 0 3-n)) 3)):=fun ty =>
  Lib.run_append_nil_zeros w 24 3 ty 3 i0 (.int .i64 0) .i64 .i64 i1 (by kernel_rfl) i2 i3 n h0 (by omega) (by omega) (by rw [i5];omega)
 have hg1:=grownCap_ge w n 0 3
 have hg2:=grownCap_le_maxLen w n 0 3 (by unfold maxLen;omega)
 generalize hG:grownCap w n 0 3=G at *
 have hg3:G≤9223372036854775807:=by unfold maxLen at hg2;omega
 obtain ⟨cells,hcells⟩:∃ cs:Array Value,Builtin.zeroCells (Value.int .i64 0).cells n++Builtin.zeroCells (Value.int .i64 0).cells (G-n)=cs:=⟨_,rfl⟩
 rw [hcells] at hrz
 have hsz:cells.size=G * AB Tryz.prog 3:=by
  rw [← hcells,i8,Array.size_append,size_zeroCells,size_zeroCells,i6];omega
 have h1:¬((n:Int)<0):=by omega
 have h2:(n:Int) > 0:=by omega
 have hfin:0<G∧G≤maxLen∧cells.size=G * AB Tryz.prog 3:=⟨by omega,hg2,hsz⟩
 clear hsz hcells i1 i2 i3 i4 i5 i6 i7 i8 hg2
 have HF:=Lib.hid hfin
 clear hfin
 go_enter Tryz.func157,Tryz.ntmps157
 go_wp2_with (at_builtin;refine Lib.wpList_append_run _ rfl _ _ _ _ rfl _ _ rfl rfl _ _ (hrz _) ?_)
 go_ret
 exact .inr ⟨G,HF.out.1,HF.out.2.1,cells,HF.out.2.2,rfl,rfl⟩
end Go.Proofs
namespace Go.FL
open Go Go.Proofs
theorem Us (w:World) (I:Nat→Prop) : RepAll w I [.i .i64 0] (Value.int .i64 0).cells.toList:=.cons (.i _ _) .nil
theorem Vh {n:Nat} : List.replicate n (.ag [.i .u8 0,.b false,.sl [],.sl [],.i .i32 0,.sl []])=Its (List.replicate n (Itm.mk 0 (false,[],[]) 0 [])):=by rw [Fm,List.map_replicate,Itm.dv_eq];rfl
theorem M7 {xs:List Itm} {n:Nat} {x:Itm} {ds:List DV} (h:DV.ag ds=x.dv) : (Its xs).set n (.ag ds)=Its (xs.set n x):=by rw [h,Fm,Fm,List.map_set]
theorem Fl : Tryz.prog.underlying 89=some (.map 21 3):=by kernel_rfl
theorem Kq : ∀ w,(zeroValue 3).run Tryz.prog w=.ok (.int .i64 0) w:=Al (by kernel_rfl)
abbrev UZ : Int:=((17592186044416:Nat) : Int)
theorem VZ : S1 Tryz.prog 157 3 17592186044416:=YN
def Hp (xs:List (List Arr)) : List DV:=xs.map fun l=>.sl (Ars l)
theorem Je (xs:List (List Arr)) : (Hp xs).length=xs.length:=by simp [Hp]
theorem SW {xs:List (List Arr)} {i:Nat} {x:List Arr} (h:xs[i]?=some x) : (Hp xs)[i]?=some (.sl (Ars x)):=by simp [Hp,h]
theorem Ut (xs:List (List Arr)) : ∀ x∈Hp xs,x.cells.length=1:=fun x hx=>by
 simp only [Hp,List.mem_map] at hx
 obtain ⟨n,_,rfl⟩:=hx;rfl
theorem Pq (xs:List (List Arr)) : ∃ sz,∀ x∈Hp xs,x.cells.length=sz:=⟨1,Ut xs⟩
theorem OG (xs:List (List Arr)) : ∀ d∈Hp xs,d.flat=true∧d.cells.length=1:=fun x hx=>by
 simp only [Hp,List.mem_map] at hx
 obtain ⟨n,_,rfl⟩:=hx
 exact ⟨by simp [DV.flat,DV.cells,DV.leaf],rfl⟩
def IsS (xs:List (List Int)) : List DV:=xs.map fun l=>.sl (Is l)
theorem Gn (xs:List (List Int)) : (IsS xs).length=xs.length:=by simp [IsS]
theorem RP {xs:List (List Int)} {i:Nat} {x:List Int} (h:xs[i]?=some x) : (IsS xs)[i]?=some (.sl (Is x)):=by simp [IsS,h]
theorem O9 (xs:List (List Int)) : ∀ x∈IsS xs,x.cells.length=1:=fun x hx=>by
 simp only [IsS,List.mem_map] at hx
 obtain ⟨n,_,rfl⟩:=hx;rfl
theorem Ul (xs:List (List Int)) : ∃ sz,∀ x∈IsS xs,x.cells.length=sz:=⟨1,O9 xs⟩
theorem SR (xs ys:List (List Int)) : IsS (xs++ys)=IsS xs++IsS ys:=by simp [IsS]
theorem M8 (xs:List (List Int)) : ∀ d∈IsS xs,d.flat=true∧d.cells.length=1:=fun x hx=>by
 simp only [IsS,List.mem_map] at hx
 obtain ⟨n,_,rfl⟩:=hx
 exact ⟨by simp [DV.flat,DV.cells,DV.leaf],rfl⟩
abbrev An : Type:=FW (Int×Int) (Int)
abbrev BH (f:An) : Prop:=f.OK Tryz.prog (fun x=>[.i .i64 x.1,.i .i64 x.2]) (fun r=>.d (.i .i64 r))
abbrev DF : Type:=FW (Itm×Itm) (Int)
abbrev L6 (f:DF) : Prop:=f.OK Tryz.prog (fun x=>[.ag [.i .u8 x.1.kind,.b x.1.num.1,.sl (L x.1.num.2.1),.sl (L x.1.num.2.2),.i .i32 x.1.char,.sl (Ars x.1.box)],.ag [.i .u8 x.2.kind,.b x.2.num.1,.sl (L x.2.num.2.1),.sl (L x.2.num.2.2),.i .i32 x.2.char,.sl (Ars x.2.box)]]) (fun r=>.d (.i .i64 r))
abbrev Cs : Type:=FW ((List Arr)) (Bool)
abbrev Kl (f:Cs) : Prop:=f.OK Tryz.prog (fun x=>[.sl (Ars x)]) (fun r=>.d (.b r))
theorem GX : Tryz.prog.underlying 153=some (.int .u64):=by kernel_rfl
theorem SZ : Cq Tryz.prog 91=some (45,1,24):=by kernel_rfl
theorem Su : B4 Tryz.prog 91=some (45,1,24,.slice none 0 0):=by kernel_rfl
theorem Pz : Tryz.prog.underlying 91=some (.slice (Tryz.prog.elem 91)):=by kernel_rfl
theorem Rz : Cq Tryz.prog 147=some (24,1,24):=by kernel_rfl
theorem Ni : B4 Tryz.prog 147=some (24,1,24,.slice none 0 0):=by kernel_rfl
theorem Sj : Tryz.prog.underlying 147=some (.slice (Tryz.prog.elem 147)):=by kernel_rfl
theorem VG : (5864062014805:Nat) * 24≤140737488355328∧(5864062014805:Nat)≤9223372036854775807:=by decide
def DB (a1:Int) (a2:Int) (a3:Int) : Nat→(List Int)→Int→Option ((List Int))
 | 0,_,_=>none
 | k+1,s1,s2=>(if s2<a3 then ((rd? s1 (w64 (a2+s2))).bind fun x3=>((rd? s1 (w64 (a1+s2))).bind fun x4=>((rd? s1 (w64 (a1+s2))).bind fun x5=>((rd? (List.set s1 (Int.toNat (w64 (a1+s2))) x3) (w64 (a2+s2))).bind fun x6=>(DB a1 a2 a3 k (List.set (List.set s1 (Int.toNat (w64 (a1+s2))) x3) (Int.toNat (w64 (a2+s2))) x4) (w64 (s2+1))))))) else (some s1))
def EX (a0:(List Int)) (a1:Int) (a2:Int) (a3:Int) (a4:An) : Option ((List Int)):=(DB a1 a2 a3 Az a0 0)
theorem FR {a0:(List Int)} {a1:Int} {a2:Int} {a3:Int} {a4:An} (oa4:BH a4) {r:(List Int)} (h:EX a0 a1 a2 a3 a4=some r) :
  FnG Tryz.prog 276 [.own 3 (Is a0),.d (.i .i64 a1),.d (.i .i64 a2),.d (.i .i64 a3),.d (a4.dv)] [] (.tup []) [.own 3 (Is r)] []:=by
 unfold EX at h
 refine FnG.of (rs:=[]) 1 38 Tryz.func276 rfl rfl rfl (by simp) (by simp) (by simp) ?_;refine .sr ?_;refine ar [0,1,2,3,10] ?_;refine .block ?_
 refine .loop (.gk [0,1,2,3,10] ?_)
 refine AL.ind (σ:=Nat×(List Int)×Int) (m:=fun p=>p.1) (e:=fun p=>[(0,.own 3 (Is p.2.1)),(1,.d (.i .i64 a1)),(2,.d (.i .i64 a2)),(3,.d (.i .i64 a3)),(10,.d (.i .i64 p.2.2))]) (h:=fun p=>[]) (I:=fun p=>DB a1 a2 a3 p.1 p.2.1 p.2.2=some r) ?_ (Az,a0,0) h
 rintro ⟨k,s1,s2⟩ h ih
 dsimp only at h ih ⊢
 rcases k with _|k
 ·rw [DB] at h;cases h
 rw [DB] at h
 refine .seq ?_;refine .sr ?_;refine va ?_;refine va ?_;refine vb ?_;refine rk [0,1,2,3,10,13] ?_
 rcases brc h with ⟨hc,h⟩|⟨hc,h⟩
 ·refine cnt (dT hc) ?_
  refine .sk ?_;refine .seq ?_;refine .block ?_
  obtain ⟨x3,g3,h⟩:=bnd h
  obtain ⟨x4,g4,h⟩:=bnd h
  obtain ⟨x5,g5,h⟩:=bnd h
  refine .drawnF 21 [4,5,6,7] [(0,.own 3 ((Is s1).set (Int.toNat (w64 (a1+s2))) (.i .i64 x3)))] [] A2 (by kernel_rfl) rfl ?_;refine dv Ef ?_;refine dv Ad ?_;refine dv Ad ?_;refine dv vbi ?_;refine dv Ef ?_;refine dv Ad ?_;refine dv Ad ?_;refine dv vbi ?_;refine dv Ef ?_;refine dv Ad ?_;refine dv Ad ?_;refine dv vbi ?_
  obtain ⟨n3,p03,q3⟩:=Af g3
  refine dv (FQ (off:=0) (len:=(Is s1).length) n3 p03 (by rw [Ag];exact (lS.1 q3).1) Bj (by decide)) ?_;refine dv (H6 (i:=0+n3) (j:=0) (xs:=Is s1) (.i .i64 x3) ⟨_,by rw [Nat.zero_add];exact Bp q3,rfl⟩ AI) ?_;refine dv Ef ?_;refine dv Ad ?_;refine dv Ad ?_;refine dv vbi ?_
  obtain ⟨n4,p04,q4⟩:=Af g4
  refine dv (FQ (off:=0) (len:=(Is s1).length) n4 p04 (by rw [Ag];exact (lS.1 q4).1) Bj (by decide)) ?_;refine dv (H6 (i:=0+n4) (j:=0) (xs:=Is s1) (.i .i64 x4) ⟨_,by rw [Nat.zero_add];exact Bp q4,rfl⟩ AI) ?_
  obtain ⟨n5,p05,q5⟩:=Af g5
  refine dv (FQ (off:=0) (len:=(Is s1).length) n5 p05 (by rw [Ag];exact (lS.1 q5).1) Bj (by decide)) ?_;refine dz ?_
  refine ⟨?_,?_,?_⟩
  ·intro k hk
   simp only [List.mem_cons,List.not_mem_nil,or_false] at hk
   rcases hk with rfl|rfl|rfl|rfl
   ·exact ⟨_,_,_,rfl,rfl,rfl,rfl,rfl,rfl,(show VOK _ _ _ _ _ (.ref (.t 0) 0 (Is s1).length) from by rw [show (Is s1).length=((Is s1).set (Int.toNat (w64 (a1+s2))) (.i .i64 x3)).length by rw [List.length_set]];exact Ef)⟩
   ·exact ⟨_,_,_,rfl,rfl,rfl,rfl,rfl,rfl,Ad⟩
   ·exact ⟨_,_,_,rfl,rfl,rfl,rfl,rfl,rfl,Ad⟩
   ·exact ⟨_,_,_,rfl,rfl,rfl,rfl,rfl,rfl,vbi⟩
  ·intro om e hom hge
   cases hom
   refine ID (x:=.tmp 36) (y:=.tmp 29) (r:=36) (ay:=.t 29) (p:=.t 0) (i:=0+n5) (k:=0) (v:=.i .i64 x3) (x':=.i .i64 x3) rfl rfl rfl rfl Di ((hge 36 (fun k hk v hv=>by
     simp only [List.mem_cons,List.not_mem_nil,or_false] at hk
     rcases hk with rfl|rfl|rfl|rfl
     ·exact (by decide:¬(some 20=some 36)) (congrArg (Option.map Prod.fst) hv)
     ·exact (by decide:¬(some 21=some 36)) (congrArg (Option.map Prod.fst) hv)
     ·exact (by decide:¬(some 22=some 36)) (congrArg (Option.map Prod.fst) hv)
     ·exact (by decide:¬(some 23=some 36)) (congrArg (Option.map Prod.fst) hv))).trans rfl) ((hge 0 (fun k hk v hv=>by
     simp only [List.mem_cons,List.not_mem_nil,or_false] at hk
     rcases hk with rfl|rfl|rfl|rfl
     ·exact (by decide:¬(some 20=some 0)) (congrArg (Option.map Prod.fst) hv)
     ·exact (by decide:¬(some 21=some 0)) (congrArg (Option.map Prod.fst) hv)
     ·exact (by decide:¬(some 22=some 0)) (congrArg (Option.map Prod.fst) hv)
     ·exact (by decide:¬(some 23=some 0)) (congrArg (Option.map Prod.fst) hv))).trans rfl) (fun _ _ h=>by cases h) ((hge 29 (fun k hk v hv=>by
     simp only [List.mem_cons,List.not_mem_nil,or_false] at hk
     rcases hk with rfl|rfl|rfl|rfl
     ·exact (by decide:¬(some 20=some 29)) (congrArg (Option.map Prod.fst) hv)
     ·exact (by decide:¬(some 21=some 29)) (congrArg (Option.map Prod.fst) hv)
     ·exact (by decide:¬(some 22=some 29)) (congrArg (Option.map Prod.fst) hv)
     ·exact (by decide:¬(some 23=some 29)) (congrArg (Option.map Prod.fst) hv))).trans rfl) rfl ?_ ⟨by rw [show Int.toNat (w64 (a1+s2))=0+n5 from by rw [p05];simp];rfl,rfl⟩
   rw [Nat.zero_add,lD,Bp q5];rfl
  rw [show (Is s1).set (Int.toNat (w64 (a1+s2))) (.i .i64 x3)=Is (List.set s1 (Int.toNat (w64 (a1+s2))) x3) from HQ _ _ _]
  refine RL.gk [0,1,2,3,10,13,16,17,18,19,20,21,22,23,24,25,26,27,29,30,31,32,33,35] ?_
  obtain ⟨x6,g6,h⟩:=bnd h
  obtain ⟨n6,p06,q6⟩:=Af g6
  refine ixr (off:=0) (len:=(Is s1).length) n6 p06 (by rw [Ag];simpa using (lS.1 q6).1) ?_ Bj (by decide)
  refine VP (F:=Is) (D:=fun x=>.i .i64 x) HQ (us:=(List.set s1 (Int.toNat (w64 (a1+s2))) x3)) (n:=n6) (m:=Int.toNat (w64 (a2+s2))) (x:=x4) (by rw [p06];rfl) ⟨_,by rw [Nat.zero_add];exact Bp q6,rfl⟩ ?_ Di
  refine RL.gk [0,1,2,3,10,13,16,17,18,19,20,21,22,23,24,25,26,27,29,30,31,32,33,35] ?_;refine .nil ?_;refine aw ?_;refine .gk [0,1,2,3,10] ?_;refine .region ?_;refine va ?_;refine vb ?_;refine asd ?_;refine .nil ?_;refine AL.gk [0,1,2,3,10] ?_
  exact ih (k,(List.set (List.set s1 (Int.toNat (w64 (a1+s2))) x3) (Int.toNat (w64 (a2+s2))) x4),(w64 (s2+1))) h (Nat.lt_succ_self _)
 refine cnf (dF hc) ?_;refine .exit ?_
 cases h
 exact No rfl rfl
def DG (a1:Int) (a3:An) (K1:(List Int)→Option ((List Int))) : Nat→(List Int)→Int→Option ((List Int))
 | 0,_,_=>none
 | k+1,s4,s5=>(Option.bind ((if a1<s5 then ((rd? s4 s5).bind fun x7=>((rd? s4 (w64 (s5-1))).bind fun x8=>((a3.g (x7,x8)).bind fun x9=>(some (decide (x9<0)))))) else (some false)):Option (Bool)) fun (z6:Bool)=>(if z6=true then ((rd? s4 (w64 (s5-1))).bind fun x10=>((rd? s4 s5).bind fun x11=>((rd? s4 s5).bind fun x12=>((rd? (List.set s4 (Int.toNat s5) x10) (w64 (s5-1))).bind fun x13=>(DG a1 a3 K1 k (List.set (List.set s4 (Int.toNat s5) x10) (Int.toNat (w64 (s5-1))) x11) (w64 (s5-1))))))) else (K1 s4)))
def DE (a1:Int) (a2:Int) (a3:An) : Nat→(List Int)→Int→Option ((List Int))
 | 0,_,_=>none
 | k+1,s1,s2=>(if s2<a2 then (jn (fun (z3:(List Int))=>(DE a1 a2 a3 k z3 (w64 (s2+1)))) fun K1=>(DG a1 a3 K1 Az s1 s2)) else (some s1))
def F8 (a0:(List Int)) (a1:Int) (a2:Int) (a3:An) : Option ((List Int)):=(DE a1 a2 a3 Az a0 (w64 (a1+1)))
theorem Iv {a0:(List Int)} {a1:Int} {a2:Int} {a3:An} (oa3:BH a3) {r:(List Int)} (h:F8 a0 a1 a2 a3=some r) :
  FnG Tryz.prog 228 [.own 3 (Is a0),.d (.i .i64 a1),.d (.i .i64 a2),.d (a3.dv)] [] (.tup []) [.own 3 (Is r)] []:=by
 unfold F8 at h
 refine FnG.of (rs:=[]) 1 53 Tryz.func228 rfl rfl rfl (by simp) (by simp) (by simp) ?_;refine .sr ?_;refine va ?_;refine vb ?_;refine ar [0,1,2,3,8] ?_;refine .block ?_
 refine .loop (.gk [0,1,2,3,8] ?_)
 refine AL.ind (σ:=Nat×(List Int)×Int) (m:=fun p=>p.1) (e:=fun p=>[(0,.own 3 (Is p.2.1)),(1,.d (.i .i64 a1)),(2,.d (.i .i64 a2)),(3,.d (a3.dv)),(8,.d (.i .i64 p.2.2))]) (h:=fun p=>[]) (I:=fun p=>DE a1 a2 a3 p.1 p.2.1 p.2.2=some r) ?_ (Az,a0,(w64 (a1+1))) h
 rintro ⟨k,s1,s2⟩ h ih
 dsimp only at h ih ⊢
 rcases k with _|k
 ·rw [DE] at h;cases h
 rw [DE] at h
 refine .seq ?_;refine .sr ?_;refine va ?_;refine va ?_;refine vb ?_;refine rk [0,1,2,3,8,14] ?_
 rcases brc h with ⟨hc,h⟩|⟨hc,h⟩
 ·refine cnt (dT hc) ?_
  refine .sk ?_
  obtain ⟨K1,hK1,h⟩:=AA h
  refine AW.mj (σ:=(List Int)) (fun p=>K1 p=some r) (fun p=>[(0,.own 3 (Is p)),(1,.d (.i .i64 a1)),(2,.d (.i .i64 a2)),(3,.d (a3.dv)),(8,.d (.i .i64 s2))]) (fun p=>[]) ?_ ?_
  ·skip
   refine .block ?_;refine .sr ?_;refine va ?_;refine ar [0,1,2,3,8,9] ?_;refine .block ?_
   refine .loop (.gk [0,1,2,3,8,9] ?_)
   refine AL.ind (σ:=Nat×(List Int)×Int) (m:=fun p=>p.1) (e:=fun p=>[(0,.own 3 (Is p.2.1)),(1,.d (.i .i64 a1)),(2,.d (.i .i64 a2)),(3,.d (a3.dv)),(8,.d (.i .i64 s2)),(9,.d (.i .i64 p.2.2))]) (h:=fun p=>[]) (I:=fun p=>DG a1 a3 K1 p.1 p.2.1 p.2.2=some r) ?_ (Az,s1,s2) h
   rintro ⟨k,s4,s5⟩ h ih
   dsimp only at h ih ⊢
   rcases k with _|k
   ·rw [DG] at h;cases h
   rw [DG] at h
   refine .seq ?_;refine .seq ?_
   obtain ⟨z6,hz,h⟩:=bnd h
   refine AW.mr (σ:=Unit) (fun _=>True) (fun _=>[(0,.own 3 (Is s4)),(1,.d (.i .i64 a1)),(2,.d (.i .i64 a2)),(3,.d (a3.dv)),(8,.d (.i .i64 s2)),(9,.d (.i .i64 s5)),(34,.d (.b z6))]) (fun _=>[]) ?_ ?_
   ·skip
    refine .drawn 17 A2 (by kernel_rfl) ?_;refine dv Ad ?_;refine dv Ad ?_;refine dv vbi ?_
    rcases brc hz with ⟨hc,hz⟩|⟨hc,hz⟩
    ·have hb0:(decide (a1<s5))=true:=(dT hc)
     refine dv (VOK.lit (Ad) hb0) ?_;refine dv Ad ?_;refine dv Ef ?_;refine dv Ad ?_
     obtain ⟨x7,g7,hz⟩:=bnd hz
     obtain ⟨n7,p07,q7⟩:=Af g7
     refine dv (FQ (off:=0) (len:=(Is s4).length) n7 p07 (by rw [Ag];exact (lS.1 q7).1) Bj (by decide)) ?_;refine dv (H6 (i:=0+n7) (j:=0) (xs:=Is s4) (.i .i64 x7) ⟨_,by rw [Nat.zero_add];exact Bp q7,rfl⟩ AI) ?_;refine dv Ef ?_;refine dv Ad ?_;refine dv vbi ?_
     obtain ⟨x8,g8,hz⟩:=bnd hz
     obtain ⟨n8,p08,q8⟩:=Af g8
     refine dv (FQ (off:=0) (len:=(Is s4).length) n8 p08 (by rw [Ag];exact (lS.1 q8).1) Bj (by decide)) ?_;refine dv (H6 (i:=0+n8) (j:=0) (xs:=Is s4) (.i .i64 x8) ⟨_,by rw [Nat.zero_add];exact Bp q8,rfl⟩ AI) ?_
     obtain ⟨x9,g9,hz⟩:=bnd hz
     refine dv (L7 (oa3 _ _ g9)) ?_;refine dv vbi ?_;refine dv Aj ?_;refine dz ?_;refine RL.gk [0,1,2,3,8,9,34] ?_;refine .nil ?_
     cases hz
     exact jr () trivial
    have hb0:(decide (a1<s5))=false:=(dF hc)
    refine dv (VOK.lit (Ad) hb0) ?_;refine dgf ?_;refine dgf ?_;refine dgf ?_;refine dgf ?_;refine dgf ?_;refine dgf ?_;refine dgf ?_;refine dgf ?_;refine dgf ?_;refine dgf ?_;refine dgf ?_;refine dgf ?_;refine dv Aj ?_;refine dz ?_;refine RL.gk [0,1,2,3,8,9,34] ?_;refine .nil ?_
    cases hz
    exact jr () trivial
   rintro _ _
   rcases brc h with ⟨hc,h⟩|⟨hc,h⟩
   ·refine cnt hc ?_
    refine .sk ?_;refine .seq ?_;refine .block ?_
    obtain ⟨x10,g10,h⟩:=bnd h
    obtain ⟨x11,g11,h⟩:=bnd h
    obtain ⟨x12,g12,h⟩:=bnd h
    refine .drawnF 15 [2,3,4] [(0,.own 3 ((Is s4).set (Int.toNat s5) (.i .i64 x10)))] [] A2 (by kernel_rfl) rfl ?_;refine dv Ef ?_;refine dv Ad ?_;refine dv Ef ?_;refine dv Ad ?_;refine dv vbi ?_;refine dv Ef ?_;refine dv Ad ?_;refine dv vbi ?_
    obtain ⟨n10,p010,q10⟩:=Af g10
    refine dv (FQ (off:=0) (len:=(Is s4).length) n10 p010 (by rw [Ag];exact (lS.1 q10).1) Bj (by decide)) ?_;refine dv (H6 (i:=0+n10) (j:=0) (xs:=Is s4) (.i .i64 x10) ⟨_,by rw [Nat.zero_add];exact Bp q10,rfl⟩ AI) ?_;refine dv Ef ?_;refine dv Ad ?_
    obtain ⟨n11,p011,q11⟩:=Af g11
    refine dv (FQ (off:=0) (len:=(Is s4).length) n11 p011 (by rw [Ag];exact (lS.1 q11).1) Bj (by decide)) ?_;refine dv (H6 (i:=0+n11) (j:=0) (xs:=Is s4) (.i .i64 x11) ⟨_,by rw [Nat.zero_add];exact Bp q11,rfl⟩ AI) ?_
    obtain ⟨n12,p012,q12⟩:=Af g12
    refine dv (FQ (off:=0) (len:=(Is s4).length) n12 p012 (by rw [Ag];exact (lS.1 q12).1) Bj (by decide)) ?_;refine dz ?_
    refine ⟨?_,?_,?_⟩
    ·intro k hk
     simp only [List.mem_cons,List.not_mem_nil,or_false] at hk
     rcases hk with rfl|rfl|rfl
     ·exact ⟨_,_,_,rfl,rfl,rfl,rfl,rfl,rfl,(show VOK _ _ _ _ _ (.ref (.t 0) 0 (Is s4).length) from by rw [show (Is s4).length=((Is s4).set (Int.toNat s5) (.i .i64 x10)).length by rw [List.length_set]];exact Ef)⟩
     ·exact ⟨_,_,_,rfl,rfl,rfl,rfl,rfl,rfl,Ad⟩
     ·exact ⟨_,_,_,rfl,rfl,rfl,rfl,rfl,rfl,vbi⟩
    ·intro om e hom hge
     cases hom
     refine ID (x:=.tmp 51) (y:=.tmp 46) (r:=51) (ay:=.t 46) (p:=.t 0) (i:=0+n12) (k:=0) (v:=.i .i64 x10) (x':=.i .i64 x10) rfl rfl rfl rfl Di ((hge 51 (fun k hk v hv=>by
       simp only [List.mem_cons,List.not_mem_nil,or_false] at hk
       rcases hk with rfl|rfl|rfl
       ·exact (by decide:¬(some 39=some 51)) (congrArg (Option.map Prod.fst) hv)
       ·exact (by decide:¬(some 40=some 51)) (congrArg (Option.map Prod.fst) hv)
       ·exact (by decide:¬(some 41=some 51)) (congrArg (Option.map Prod.fst) hv))).trans rfl) ((hge 0 (fun k hk v hv=>by
       simp only [List.mem_cons,List.not_mem_nil,or_false] at hk
       rcases hk with rfl|rfl|rfl
       ·exact (by decide:¬(some 39=some 0)) (congrArg (Option.map Prod.fst) hv)
       ·exact (by decide:¬(some 40=some 0)) (congrArg (Option.map Prod.fst) hv)
       ·exact (by decide:¬(some 41=some 0)) (congrArg (Option.map Prod.fst) hv))).trans rfl) (fun _ _ h=>by cases h) ((hge 46 (fun k hk v hv=>by
       simp only [List.mem_cons,List.not_mem_nil,or_false] at hk
       rcases hk with rfl|rfl|rfl
       ·exact (by decide:¬(some 39=some 46)) (congrArg (Option.map Prod.fst) hv)
       ·exact (by decide:¬(some 40=some 46)) (congrArg (Option.map Prod.fst) hv)
       ·exact (by decide:¬(some 41=some 46)) (congrArg (Option.map Prod.fst) hv))).trans rfl) rfl ?_ ⟨by rw [show Int.toNat s5=0+n12 from by rw [p012];simp];rfl,rfl⟩
     rw [Nat.zero_add,lD,Bp q12];rfl
    rw [show (Is s4).set (Int.toNat s5) (.i .i64 x10)=Is (List.set s4 (Int.toNat s5) x10) from HQ _ _ _]
    refine RL.gk [0,1,2,3,8,9,34,37,38,39,40,41,42,43,44,46,47,48,50] ?_
    obtain ⟨x13,g13,h⟩:=bnd h
    obtain ⟨n13,p013,q13⟩:=Af g13
    refine ixr (off:=0) (len:=(Is s4).length) n13 p013 (by rw [Ag];simpa using (lS.1 q13).1) ?_ Bj (by decide)
    refine VP (F:=Is) (D:=fun x=>.i .i64 x) HQ (us:=(List.set s4 (Int.toNat s5) x10)) (n:=n13) (m:=Int.toNat (w64 (s5-1))) (x:=x11) (by rw [p013];rfl) ⟨_,by rw [Nat.zero_add];exact Bp q13,rfl⟩ ?_ Di
    refine RL.gk [0,1,2,3,8,9,34,37,38,39,40,41,42,43,44,46,47,48,50] ?_;refine .nil ?_;refine aw ?_;refine .gk [0,1,2,3,8,9] ?_;refine .region ?_;refine va ?_;refine vb ?_;refine asd ?_;refine .nil ?_;refine AL.gk [0,1,2,3,8,9] ?_
    exact ih (k,(List.set (List.set s4 (Int.toNat s5) x10) (Int.toNat (w64 (s5-1))) x11),(w64 (s5-1))) h (Nat.lt_succ_self _)
   refine cnf (bf hc) ?_;refine .gk [0,1,2,3,8] ?_;refine .exit ?_
   exact jr (s4) h
  rintro z3 h
  try dsimp only at h ⊢
  subst hK1
  refine .region ?_;refine va ?_;refine vb ?_;refine asd ?_;refine .nil ?_;refine AL.gk [0,1,2,3,8] ?_
  exact ih (k,z3,(w64 (s2+1))) h (Nat.lt_succ_self _)
 refine cnf (dF hc) ?_;refine .exit ?_
 cases h
 exact No rfl rfl
def D8 (a2:Int) (a4:An) (K0:(List Int)→Int→Option ((List Int))) : Nat→(List Int)→Int→Int→Option ((List Int))
 | 0,_,_,_=>none
 | k+1,s3,s4,s5=>(if s4=s5 then (K0 s3 s4) else (if s5<s4 then ((EX s3 (w64 (a2-s4)) a2 s5 a4).bind fun x6=>(D8 a2 a4 K0 k x6 (w64 (s4-s5)) s5)) else ((EX s3 (w64 (a2-s4)) (w64 ((w64 (a2+s5))-s4)) s4 a4).bind fun x7=>(D8 a2 a4 K0 k x7 s4 (w64 (s5-s4))))))
def KW (a0:(List Int)) (a1:Int) (a2:Int) (a3:Int) (a4:An) : Option ((List Int)):=(jn (fun (z1:(List Int)) (z2:Int)=>((EX z1 (w64 (a2-z2)) a2 z2 a4).bind fun x8=>(some x8))) fun K0=>(D8 a2 a4 K0 Az a0 (w64 (a2-a1)) (w64 (a3-a2))))
theorem Pv {a0:(List Int)} {a1:Int} {a2:Int} {a3:Int} {a4:An} (oa4:BH a4) {r:(List Int)} (h:KW a0 a1 a2 a3 a4=some r) :
  FnG Tryz.prog 260 [.own 3 (Is a0),.d (.i .i64 a1),.d (.i .i64 a2),.d (.i .i64 a3),.d (a4.dv)] [] (.tup []) [.own 3 (Is r)] []:=by
 unfold KW at h
 refine FnG.of (rs:=[]) 1 58 Tryz.func260 rfl rfl rfl (by simp) (by simp) (by simp) ?_;refine .sr ?_;refine va ?_;refine va ?_;refine vb ?_;refine ar [0,2,3,4,10] ?_;refine .sr ?_;refine va ?_;refine va ?_;refine vb ?_;refine ar [0,2,4,10,11] ?_
 obtain ⟨K0,hK0,h⟩:=AA h
 refine AW.mj (σ:=(List Int)×Int) (fun p=>K0 p.1 p.2=some r) (fun p=>[(0,.own 3 (Is p.1)),(2,.d (.i .i64 a2)),(4,.d (a4.dv)),(10,.d (.i .i64 p.2))]) (fun p=>[]) ?_ ?_
 ·skip
  refine .block ?_
  refine .loop (.gk [0,2,4,10,11] ?_)
  refine AL.ind (σ:=Nat×(List Int)×Int×Int) (m:=fun p=>p.1) (e:=fun p=>[(0,.own 3 (Is p.2.1)),(2,.d (.i .i64 a2)),(4,.d (a4.dv)),(10,.d (.i .i64 p.2.2.1)),(11,.d (.i .i64 p.2.2.2))]) (h:=fun p=>[]) (I:=fun p=>D8 a2 a4 K0 p.1 p.2.1 p.2.2.1 p.2.2.2=some r) ?_ (Az,a0,(w64 (a2-a1)),(w64 (a3-a2))) h
  rintro ⟨k,s3,s4,s5⟩ h ih
  dsimp only at h ih ⊢
  rcases k with _|k
  ·rw [D8] at h;cases h
  rw [D8] at h
  refine .seq ?_;refine .sr ?_;refine va ?_;refine va ?_;refine vb ?_;refine rk [0,2,4,10,11,20] ?_
  rcases brc h with ⟨hc,h⟩|⟨hc,h⟩
  ·refine cnf (ntf (dT hc)) ?_
   refine .gk [0,2,4,10] ?_;refine .exit ?_
   exact jr (s3,s4) h
  refine cnt (ntt (dF hc)) ?_;refine .sk ?_;refine .block ?_;refine .sr ?_;refine va ?_;refine va ?_;refine vb ?_;refine rk [0,2,4,10,11,23] ?_
  rcases brc h with ⟨hc,h⟩|⟨hc,h⟩
  ·refine cnt (dT hc) ?_
   refine .sr ?_;refine mvo ?_;refine va ?_;refine va ?_;refine vb ?_;refine va ?_;refine va ?_;refine va ?_
   obtain ⟨x6,g6,h⟩:=bnd h
   refine L2 (Is x6) ?_ (FR oa4 g6) Tryz.call276
   refine RL.gk [0,2,4,10,11,23,25,26,27,28,29,30,31] ?_;refine rk [0,2,4,10,11] ?_;refine .region ?_;refine va ?_;refine va ?_;refine vb ?_;refine asd ?_;refine .nil ?_;refine AL.gk [0,2,4,10,11] ?_
   exact ih (k,x6,(w64 (s4-s5)),s5) h (Nat.lt_succ_self _)
  refine cnf (dF hc) ?_;refine .sr ?_;refine mvo ?_;refine va ?_;refine va ?_;refine vb ?_;refine va ?_;refine va ?_;refine vb ?_;refine va ?_;refine vb ?_;refine va ?_;refine va ?_
  obtain ⟨x7,g7,h⟩:=bnd h
  refine L2 (Is x7) ?_ (FR oa4 g7) Tryz.call276
  refine RL.gk [0,2,4,10,11,23,36,37,38,39,40,41,42,43,44,45,46] ?_;refine rk [0,2,4,10,11] ?_;refine .region ?_;refine va ?_;refine va ?_;refine vb ?_;refine asd ?_;refine .nil ?_;refine AL.gk [0,2,4,10,11] ?_
  exact ih (k,x7,s4,(w64 (s5-s4))) h (Nat.lt_succ_self _)
 rintro ⟨z1,z2⟩ h
 try dsimp only at h ⊢
 subst hK0
 refine .region ?_;refine mvo ?_;refine va ?_;refine va ?_;refine vb ?_;refine va ?_;refine va ?_;refine va ?_
 obtain ⟨x8,g8,h⟩:=bnd h
 refine L2 (Is x8) ?_ (FR oa4 g8) Tryz.call276
 refine RL.gk [0,2,4,10,51,52,53,54,55,56,57] ?_;refine .nil ?_
 cases h
 exact No rfl rfl
def CP (a0:(List Int)) (a1:Int) (a4:An) (K1:Int→Option ((List Int))) : Nat→Int→Int→Option ((List Int))
 | 0,_,_=>none
 | k+1,s2,s3=>(if s2<s3 then ((rd? a0 (IntKind.wrap .i64 ((IntKind.wrap .u64 (w64 (s2+s3))) / 2 ^ min (Int.toNat 1) (IntKind.bits .u64)))).bind fun x4=>((rd? a0 a1).bind fun x5=>((a4.g (x4,x5)).bind fun x6=>(if x6<0 then (CP a0 a1 a4 K1 k (w64 ((IntKind.wrap .i64 ((IntKind.wrap .u64 (w64 (s2+s3))) / 2 ^ min (Int.toNat 1) (IntKind.bits .u64)))+1)) s3) else (CP a0 a1 a4 K1 k s2 (IntKind.wrap .i64 ((IntKind.wrap .u64 (w64 (s2+s3))) / 2 ^ min (Int.toNat 1) (IntKind.bits .u64)))))))) else (K1 s2))
def Dz (z1:Int) (K3:(List Int)→Option ((List Int))) : Nat→(List Int)→Int→Option ((List Int))
 | 0,_,_=>none
 | k+1,s8,s9=>(if s9<(w64 (z1-1)) then ((rd? s8 (w64 (s9+1))).bind fun x10=>((rd? s8 s9).bind fun x11=>((rd? s8 s9).bind fun x12=>((rd? (List.set s8 (Int.toNat s9) x10) (w64 (s9+1))).bind fun x13=>(Dz z1 K3 k (List.set (List.set s8 (Int.toNat s9) x10) (Int.toNat (w64 (s9+1))) x11) (w64 (s9+1))))))) else (K3 s8))
def CQ (a0:(List Int)) (a2:Int) (a4:An) (K6:Int→Option ((List Int))) : Nat→Int→Int→Option ((List Int))
 | 0,_,_=>none
 | k+1,s15,s16=>(if s15<s16 then ((rd? a0 a2).bind fun x17=>((rd? a0 (IntKind.wrap .i64 ((IntKind.wrap .u64 (w64 (s15+s16))) / 2 ^ min (Int.toNat 1) (IntKind.bits .u64)))).bind fun x18=>((a4.g (x17,x18)).bind fun x19=>(if x19<0 then (CQ a0 a2 a4 K6 k s15 (IntKind.wrap .i64 ((IntKind.wrap .u64 (w64 (s15+s16))) / 2 ^ min (Int.toNat 1) (IntKind.bits .u64)))) else (CQ a0 a2 a4 K6 k (w64 ((IntKind.wrap .i64 ((IntKind.wrap .u64 (w64 (s15+s16))) / 2 ^ min (Int.toNat 1) (IntKind.bits .u64)))+1)) s16))))) else (K6 s15))
def Dy (z14:Int) (K8:(List Int)→Option ((List Int))) : Nat→(List Int)→Int→Option ((List Int))
 | 0,_,_=>none
 | k+1,s21,s22=>(if z14<s22 then ((rd? s21 (w64 (s22-1))).bind fun x23=>((rd? s21 s22).bind fun x24=>((rd? s21 s22).bind fun x25=>((rd? (List.set s21 (Int.toNat s22) x23) (w64 (s22-1))).bind fun x26=>(Dy z14 K8 k (List.set (List.set s21 (Int.toNat s22) x23) (Int.toNat (w64 (s22-1))) x24) (w64 (s22-1))))))) else (K8 s21))
def CA (a0:(List Int)) (a1:Int) (a2:Int) (a3:Int) (a4:An) (K11:Int→Option ((List Int))) : Nat→Int→Int→Option ((List Int))
 | 0,_,_=>none
 | k+1,s30,s31=>(if s30<s31 then ((rd? a0 (w64 ((w64 ((w64 ((IntKind.wrap .i64 ((IntKind.wrap .u64 (w64 (a1+a3))) / 2 ^ min (Int.toNat 1) (IntKind.bits .u64)))+a2))-1))-(IntKind.wrap .i64 ((IntKind.wrap .u64 (w64 (s30+s31))) / 2 ^ min (Int.toNat 1) (IntKind.bits .u64)))))).bind fun x32=>((rd? a0 (IntKind.wrap .i64 ((IntKind.wrap .u64 (w64 (s30+s31))) / 2 ^ min (Int.toNat 1) (IntKind.bits .u64)))).bind fun x33=>((a4.g (x32,x33)).bind fun x34=>(if x34<0 then (CA a0 a1 a2 a3 a4 K11 k s30 (IntKind.wrap .i64 ((IntKind.wrap .u64 (w64 (s30+s31))) / 2 ^ min (Int.toNat 1) (IntKind.bits .u64)))) else (CA a0 a1 a2 a3 a4 K11 k (w64 ((IntKind.wrap .i64 ((IntKind.wrap .u64 (w64 (s30+s31))) / 2 ^ min (Int.toNat 1) (IntKind.bits .u64)))+1)) s31))))) else (K11 s30))
def F7 (rc_slices_symMergeCmpFunc_int:(List Int)→Int→Int→Int→An→Option ((List Int))) (a0:(List Int)) (a1:Int) (a2:Int) (a3:Int) (a4:An) : Option ((List Int)):=(jn ((jn ((jn (fun (z27:Int) (z28:Int)=>(jn (fun (z29:Int)=>(jn (fun (z35:(List Int))=>(jn (fun (z37:(List Int))=>(if ((decide ((IntKind.wrap .i64 ((IntKind.wrap .u64 (w64 (a1+a3))) / 2 ^ min (Int.toNat 1) (IntKind.bits .u64)))<(w64 ((w64 ((IntKind.wrap .i64 ((IntKind.wrap .u64 (w64 (a1+a3))) / 2 ^ min (Int.toNat 1) (IntKind.bits .u64)))+a2))-z29))))&&(decide ((w64 ((w64 ((IntKind.wrap .i64 ((IntKind.wrap .u64 (w64 (a1+a3))) / 2 ^ min (Int.toNat 1) (IntKind.bits .u64)))+a2))-z29))<a3)))=true then ((rc_slices_symMergeCmpFunc_int z37 (IntKind.wrap .i64 ((IntKind.wrap .u64 (w64 (a1+a3))) / 2 ^ min (Int.toNat 1) (IntKind.bits .u64))) (w64 ((w64 ((IntKind.wrap .i64 ((IntKind.wrap .u64 (w64 (a1+a3))) / 2 ^ min (Int.toNat 1) (IntKind.bits .u64)))+a2))-z29)) a3 a4).bind fun x39=>(some x39)) else (some z37))) fun K14=>(if ((decide (a1<z29))&&(decide (z29<(IntKind.wrap .i64 ((IntKind.wrap .u64 (w64 (a1+a3))) / 2 ^ min (Int.toNat 1) (IntKind.bits .u64))))))=true then ((rc_slices_symMergeCmpFunc_int z35 a1 z29 (IntKind.wrap .i64 ((IntKind.wrap .u64 (w64 (a1+a3))) / 2 ^ min (Int.toNat 1) (IntKind.bits .u64))) a4).bind fun x38=>(K14 x38)) else (K14 z35)))) fun K13=>(if ((decide (z29<a2))&&(decide (a2<(w64 ((w64 ((IntKind.wrap .i64 ((IntKind.wrap .u64 (w64 (a1+a3))) / 2 ^ min (Int.toNat 1) (IntKind.bits .u64)))+a2))-z29)))))=true then ((KW a0 z29 a2 (w64 ((w64 ((IntKind.wrap .i64 ((IntKind.wrap .u64 (w64 (a1+a3))) / 2 ^ min (Int.toNat 1) (IntKind.bits .u64)))+a2))-z29)) a4).bind fun x36=>(K13 x36)) else (K13 a0)))) fun K11=>(CA a0 a1 a2 a3 a4 K11 Az z27 z28))) fun K10=>(if (IntKind.wrap .i64 ((IntKind.wrap .u64 (w64 (a1+a3))) / 2 ^ min (Int.toNat 1) (IntKind.bits .u64)))<a2 then (K10 (w64 ((w64 ((IntKind.wrap .i64 ((IntKind.wrap .u64 (w64 (a1+a3))) / 2 ^ min (Int.toNat 1) (IntKind.bits .u64)))+a2))-a3)) (IntKind.wrap .i64 ((IntKind.wrap .u64 (w64 (a1+a3))) / 2 ^ min (Int.toNat 1) (IntKind.bits .u64)))) else (K10 a1 a2)))) fun K5=>(if (w64 (a3-a2))=1 then (jn (fun (z14:Int)=>(jn (fun (z20:(List Int))=>(some z20)) fun K8=>(Dy z14 K8 Az a0 a2))) fun K6=>(CQ a0 a2 a4 K6 Az a1 a2)) else (K5)))) fun K0=>(if (w64 (a2-a1))=1 then (jn (fun (z1:Int)=>(jn (fun (z7:(List Int))=>(some z7)) fun K3=>(Dz z1 K3 Az a0 a1))) fun K1=>(CP a0 a1 a4 K1 Az a2 a3)) else (K0)))
set_option maxHeartbeats 4000000 in
theorem L0 {rc_slices_symMergeCmpFunc_int:(List Int)→Int→Int→Int→An→Option ((List Int))} (orc_slices_symMergeCmpFunc_int:∀ x0 x1 x2 x3 x4 r,BH x4→rc_slices_symMergeCmpFunc_int x0 x1 x2 x3 x4=some r→FnG Tryz.prog 229 [.own 3 (Is x0),.d (.i .i64 x1),.d (.i .i64 x2),.d (.i .i64 x3),.d (x4.dv)] [] (.tup []) [.own 3 (Is r)] []) {a0:(List Int)} {a1:Int} {a2:Int} {a3:Int} {a4:An} (oa4:BH a4) {r:(List Int)} (h:F7 rc_slices_symMergeCmpFunc_int a0 a1 a2 a3 a4=some r) :
  FnG Tryz.prog 229 [.own 3 (Is a0),.d (.i .i64 a1),.d (.i .i64 a2),.d (.i .i64 a3),.d (a4.dv)] [] (.tup []) [.own 3 (Is r)] []:=by
 unfold F7 at h
 refine FnG.of (rs:=[]) 1 220 Tryz.func229 rfl rfl rfl (by simp) (by simp) (by simp) ?_;refine .seq ?_;refine .sr ?_;refine va ?_;refine va ?_;refine vb ?_;refine vb ?_;refine rk [0,1,2,3,4,28] ?_
 obtain ⟨K0,hK0,h⟩:=AA h
 refine AW.mr (σ:=Unit) (fun p=>K0=some r) (fun p=>[(0,.own 3 (Is a0)),(1,.d (.i .i64 a1)),(2,.d (.i .i64 a2)),(3,.d (.i .i64 a3)),(4,.d (a4.dv))]) (fun p=>[]) ?_ ?_
 ·skip
  rcases brc h with ⟨hc,h⟩|⟨hc,h⟩
  ·refine cnt (dT hc) ?_
   refine .sr ?_;refine va ?_;refine ar [0,1,2,3,4,10] ?_;refine .sr ?_;refine va ?_;refine ar [0,1,2,3,4,10,11] ?_
   obtain ⟨K1,hK1,h⟩:=AA h
   refine AW.mj (σ:=Int) (fun p=>K1 p=some r) (fun p=>[(0,.own 3 (Is a0)),(1,.d (.i .i64 a1)),(2,.d (.i .i64 a2)),(3,.d (.i .i64 a3)),(4,.d (a4.dv)),(10,.d (.i .i64 p))]) (fun p=>[]) ?_ ?_
   ·skip
    refine .block ?_
    refine .loop (.gk [0,1,2,3,4,10,11] ?_)
    refine AL.ind (σ:=Nat×Int×Int) (m:=fun p=>p.1) (e:=fun p=>[(0,.own 3 (Is a0)),(1,.d (.i .i64 a1)),(2,.d (.i .i64 a2)),(3,.d (.i .i64 a3)),(4,.d (a4.dv)),(10,.d (.i .i64 p.2.1)),(11,.d (.i .i64 p.2.2))]) (h:=fun p=>[]) (I:=fun p=>CP a0 a1 a4 K1 p.1 p.2.1 p.2.2=some r) ?_ (Az,a2,a3) h
    rintro ⟨k,s2,s3⟩ h ih
    dsimp only at h ih ⊢
    rcases k with _|k
    ·rw [CP] at h;cases h
    rw [CP] at h
    refine .seq ?_;refine .sr ?_;refine va ?_;refine va ?_;refine vb ?_;refine rk [0,1,2,3,4,10,11,33] ?_
    rcases brc h with ⟨hc,h⟩|⟨hc,h⟩
    ·refine cnt (dT hc) ?_
     refine .sk ?_;refine .block ?_;refine .sr ?_;refine va ?_;refine va ?_;refine vb ?_;refine vk (vcv H7 GX) ?_;refine vk (Nu (c:=(0:Int)≤1) (by decide)) ?_;refine vk (vcv GX H7) ?_;refine ar [0,1,2,3,4,10,11,12] ?_;refine .seq ?_;refine .drawn 11 A2 (by kernel_rfl) ?_;refine dv Ad ?_;refine dv Ef ?_;refine dv Ad ?_
     obtain ⟨x4,g4,h⟩:=bnd h
     obtain ⟨n4,p04,q4⟩:=Af g4
     refine dv (FQ (off:=0) (len:=(Is a0).length) n4 p04 (by rw [Ag];exact (lS.1 q4).1) Bj (by decide)) ?_;refine dv (H6 (i:=0+n4) (j:=0) (xs:=Is a0) (.i .i64 x4) ⟨_,by rw [Nat.zero_add];exact Bp q4,rfl⟩ AI) ?_;refine dv Ef ?_;refine dv Ad ?_
     obtain ⟨x5,g5,h⟩:=bnd h
     obtain ⟨n5,p05,q5⟩:=Af g5
     refine dv (FQ (off:=0) (len:=(Is a0).length) n5 p05 (by rw [Ag];exact (lS.1 q5).1) Bj (by decide)) ?_;refine dv (H6 (i:=0+n5) (j:=0) (xs:=Is a0) (.i .i64 x5) ⟨_,by rw [Nat.zero_add];exact Bp q5,rfl⟩ AI) ?_
     obtain ⟨x6,g6,h⟩:=bnd h
     refine dv (L7 (oa4 _ _ g6)) ?_;refine dv vbi ?_;refine dz ?_;refine rk [0,1,2,3,4,10,11,12,50] ?_
     rcases brc h with ⟨hc,h⟩|⟨hc,h⟩
     ·refine cnt (dT hc) ?_
      refine .region ?_;refine va ?_;refine vb ?_;refine asd ?_;refine .nil ?_;refine AL.gk [0,1,2,3,4,10,11] ?_
      exact ih (k,(w64 ((IntKind.wrap .i64 ((IntKind.wrap .u64 (w64 (s2+s3))) / 2 ^ min (Int.toNat 1) (IntKind.bits .u64)))+1)),s3) h (Nat.lt_succ_self _)
     refine cnf (dF hc) ?_;refine .region ?_;refine va ?_;refine asd ?_;refine .nil ?_;refine AL.gk [0,1,2,3,4,10,11] ?_
     exact ih (k,s2,(IntKind.wrap .i64 ((IntKind.wrap .u64 (w64 (s2+s3))) / 2 ^ min (Int.toNat 1) (IntKind.bits .u64)))) h (Nat.lt_succ_self _)
    refine cnf (dF hc) ?_;refine .gk [0,1,2,3,4,10] ?_;refine .exit ?_
    exact jr (s2) h
   rintro z1 h
   try dsimp only at h ⊢
   subst hK1
   refine .seq ?_;refine .sr ?_;refine va ?_;refine ar [0,1,2,3,4,10,13] ?_
   obtain ⟨K3,hK3,h⟩:=AA h
   refine AW.mr (σ:=(List Int)) (fun p=>K3 p=some r) (fun p=>[(0,.own 3 (Is p)),(1,.d (.i .i64 a1)),(2,.d (.i .i64 a2)),(3,.d (.i .i64 a3)),(4,.d (a4.dv))]) (fun p=>[]) ?_ ?_
   ·skip
    refine .block ?_
    refine .loop (.gk [0,1,2,3,4,10,13] ?_)
    refine AL.ind (σ:=Nat×(List Int)×Int) (m:=fun p=>p.1) (e:=fun p=>[(0,.own 3 (Is p.2.1)),(1,.d (.i .i64 a1)),(2,.d (.i .i64 a2)),(3,.d (.i .i64 a3)),(4,.d (a4.dv)),(10,.d (.i .i64 z1)),(13,.d (.i .i64 p.2.2))]) (h:=fun p=>[]) (I:=fun p=>Dz z1 K3 p.1 p.2.1 p.2.2=some r) ?_ (Az,a0,a1) h
    rintro ⟨k,s8,s9⟩ h ih
    dsimp only at h ih ⊢
    rcases k with _|k
    ·rw [Dz] at h;cases h
    rw [Dz] at h
    refine .seq ?_;refine .sr ?_;refine va ?_;refine va ?_;refine vb ?_;refine vb ?_;refine rk [0,1,2,3,4,10,13,58] ?_
    rcases brc h with ⟨hc,h⟩|⟨hc,h⟩
    ·refine cnt (dT hc) ?_
     refine .sk ?_;refine .seq ?_;refine .block ?_
     obtain ⟨x10,g10,h⟩:=bnd h
     obtain ⟨x11,g11,h⟩:=bnd h
     obtain ⟨x12,g12,h⟩:=bnd h
     refine .drawnF 15 [2,3,4] [(0,.own 3 ((Is s8).set (Int.toNat s9) (.i .i64 x10)))] [] A2 (by kernel_rfl) rfl ?_;refine dv Ef ?_;refine dv Ad ?_;refine dv Ef ?_;refine dv Ad ?_;refine dv vbi ?_;refine dv Ef ?_;refine dv Ad ?_;refine dv vbi ?_
     obtain ⟨n10,p010,q10⟩:=Af g10
     refine dv (FQ (off:=0) (len:=(Is s8).length) n10 p010 (by rw [Ag];exact (lS.1 q10).1) Bj (by decide)) ?_;refine dv (H6 (i:=0+n10) (j:=0) (xs:=Is s8) (.i .i64 x10) ⟨_,by rw [Nat.zero_add];exact Bp q10,rfl⟩ AI) ?_;refine dv Ef ?_;refine dv Ad ?_
     obtain ⟨n11,p011,q11⟩:=Af g11
     refine dv (FQ (off:=0) (len:=(Is s8).length) n11 p011 (by rw [Ag];exact (lS.1 q11).1) Bj (by decide)) ?_;refine dv (H6 (i:=0+n11) (j:=0) (xs:=Is s8) (.i .i64 x11) ⟨_,by rw [Nat.zero_add];exact Bp q11,rfl⟩ AI) ?_
     obtain ⟨n12,p012,q12⟩:=Af g12
     refine dv (FQ (off:=0) (len:=(Is s8).length) n12 p012 (by rw [Ag];exact (lS.1 q12).1) Bj (by decide)) ?_;refine dz ?_
     refine ⟨?_,?_,?_⟩
     ·intro k hk
      simp only [List.mem_cons,List.not_mem_nil,or_false] at hk
      rcases hk with rfl|rfl|rfl
      ·exact ⟨_,_,_,rfl,rfl,rfl,rfl,rfl,rfl,(show VOK _ _ _ _ _ (.ref (.t 0) 0 (Is s8).length) from by rw [show (Is s8).length=((Is s8).set (Int.toNat s9) (.i .i64 x10)).length by rw [List.length_set]];exact Ef)⟩
      ·exact ⟨_,_,_,rfl,rfl,rfl,rfl,rfl,rfl,Ad⟩
      ·exact ⟨_,_,_,rfl,rfl,rfl,rfl,rfl,rfl,vbi⟩
     ·intro om e hom hge
      cases hom
      refine ID (x:=.tmp 75) (y:=.tmp 70) (r:=75) (ay:=.t 70) (p:=.t 0) (i:=0+n12) (k:=0) (v:=.i .i64 x10) (x':=.i .i64 x10) rfl rfl rfl rfl Di ((hge 75 (fun k hk v hv=>by
        simp only [List.mem_cons,List.not_mem_nil,or_false] at hk
        rcases hk with rfl|rfl|rfl
        ·exact (by decide:¬(some 63=some 75)) (congrArg (Option.map Prod.fst) hv)
        ·exact (by decide:¬(some 64=some 75)) (congrArg (Option.map Prod.fst) hv)
        ·exact (by decide:¬(some 65=some 75)) (congrArg (Option.map Prod.fst) hv))).trans rfl) ((hge 0 (fun k hk v hv=>by
        simp only [List.mem_cons,List.not_mem_nil,or_false] at hk
        rcases hk with rfl|rfl|rfl
        ·exact (by decide:¬(some 63=some 0)) (congrArg (Option.map Prod.fst) hv)
        ·exact (by decide:¬(some 64=some 0)) (congrArg (Option.map Prod.fst) hv)
        ·exact (by decide:¬(some 65=some 0)) (congrArg (Option.map Prod.fst) hv))).trans rfl) (fun _ _ h=>by cases h) ((hge 70 (fun k hk v hv=>by
        simp only [List.mem_cons,List.not_mem_nil,or_false] at hk
        rcases hk with rfl|rfl|rfl
        ·exact (by decide:¬(some 63=some 70)) (congrArg (Option.map Prod.fst) hv)
        ·exact (by decide:¬(some 64=some 70)) (congrArg (Option.map Prod.fst) hv)
        ·exact (by decide:¬(some 65=some 70)) (congrArg (Option.map Prod.fst) hv))).trans rfl) rfl ?_ ⟨by rw [show Int.toNat s9=0+n12 from by rw [p012];simp];rfl,rfl⟩
      rw [Nat.zero_add,lD,Bp q12];rfl
     rw [show (Is s8).set (Int.toNat s9) (.i .i64 x10)=Is (List.set s8 (Int.toNat s9) x10) from HQ _ _ _]
     refine RL.gk [0,1,2,3,4,10,13,58,61,62,63,64,65,66,67,68,70,71,72,74] ?_
     obtain ⟨x13,g13,h⟩:=bnd h
     obtain ⟨n13,p013,q13⟩:=Af g13
     refine ixr (off:=0) (len:=(Is s8).length) n13 p013 (by rw [Ag];simpa using (lS.1 q13).1) ?_ Bj (by decide)
     refine VP (F:=Is) (D:=fun x=>.i .i64 x) HQ (us:=(List.set s8 (Int.toNat s9) x10)) (n:=n13) (m:=Int.toNat (w64 (s9+1))) (x:=x11) (by rw [p013];rfl) ⟨_,by rw [Nat.zero_add];exact Bp q13,rfl⟩ ?_ Di
     refine RL.gk [0,1,2,3,4,10,13,58,61,62,63,64,65,66,67,68,70,71,72,74] ?_;refine .nil ?_;refine aw ?_;refine .gk [0,1,2,3,4,10,13] ?_;refine .region ?_;refine va ?_;refine vb ?_;refine asd ?_;refine .nil ?_;refine AL.gk [0,1,2,3,4,10,13] ?_
     exact ih (k,(List.set (List.set s8 (Int.toNat s9) x10) (Int.toNat (w64 (s9+1))) x11),(w64 (s9+1))) h (Nat.lt_succ_self _)
    refine cnf (dF hc) ?_;refine .gk [0,1,2,3,4] ?_;refine .exit ?_
    exact jr (s8) h
   rintro z7 h
   try dsimp only at h ⊢
   subst hK3
   refine aw ?_;refine .ret ?_
   cases h
   exact Xu rfl rfl
  refine cnf (dF hc) ?_;refine .gk [0,1,2,3,4] ?_;refine .skip ?_
  exact jr () h
 rintro _ h
 subst hK0
 refine aw ?_;refine .seq ?_;refine .sr ?_;refine va ?_;refine va ?_;refine vb ?_;refine vb ?_;refine rk [0,1,2,3,4,80] ?_
 obtain ⟨K5,hK5,h⟩:=AA h
 refine AW.mr (σ:=Unit) (fun p=>K5=some r) (fun p=>[(0,.own 3 (Is a0)),(1,.d (.i .i64 a1)),(2,.d (.i .i64 a2)),(3,.d (.i .i64 a3)),(4,.d (a4.dv))]) (fun p=>[]) ?_ ?_
 ·skip
  rcases brc h with ⟨hc,h⟩|⟨hc,h⟩
  ·refine cnt (dT hc) ?_
   refine .sr ?_;refine va ?_;refine ar [0,1,2,3,4,14] ?_;refine .sr ?_;refine va ?_;refine ar [0,1,2,3,4,14,15] ?_
   obtain ⟨K6,hK6,h⟩:=AA h
   refine AW.mj (σ:=Int) (fun p=>K6 p=some r) (fun p=>[(0,.own 3 (Is a0)),(1,.d (.i .i64 a1)),(2,.d (.i .i64 a2)),(3,.d (.i .i64 a3)),(4,.d (a4.dv)),(14,.d (.i .i64 p))]) (fun p=>[]) ?_ ?_
   ·skip
    refine .block ?_
    refine .loop (.gk [0,1,2,3,4,14,15] ?_)
    refine AL.ind (σ:=Nat×Int×Int) (m:=fun p=>p.1) (e:=fun p=>[(0,.own 3 (Is a0)),(1,.d (.i .i64 a1)),(2,.d (.i .i64 a2)),(3,.d (.i .i64 a3)),(4,.d (a4.dv)),(14,.d (.i .i64 p.2.1)),(15,.d (.i .i64 p.2.2))]) (h:=fun p=>[]) (I:=fun p=>CQ a0 a2 a4 K6 p.1 p.2.1 p.2.2=some r) ?_ (Az,a1,a2) h
    rintro ⟨k,s15,s16⟩ h ih
    dsimp only at h ih ⊢
    rcases k with _|k
    ·rw [CQ] at h;cases h
    rw [CQ] at h
    refine .seq ?_;refine .sr ?_;refine va ?_;refine va ?_;refine vb ?_;refine rk [0,1,2,3,4,14,15,85] ?_
    rcases brc h with ⟨hc,h⟩|⟨hc,h⟩
    ·refine cnt (dT hc) ?_
     refine .sk ?_;refine .block ?_;refine .sr ?_;refine va ?_;refine va ?_;refine vb ?_;refine vk (vcv H7 GX) ?_;refine vk (Nu (c:=(0:Int)≤1) (by decide)) ?_;refine vk (vcv GX H7) ?_;refine ar [0,1,2,3,4,14,15,16] ?_;refine .seq ?_;refine .drawn 12 A2 (by kernel_rfl) ?_;refine dv Ad ?_;refine dv Ef ?_;refine dv Ad ?_
     obtain ⟨x17,g17,h⟩:=bnd h
     obtain ⟨n17,p017,q17⟩:=Af g17
     refine dv (FQ (off:=0) (len:=(Is a0).length) n17 p017 (by rw [Ag];exact (lS.1 q17).1) Bj (by decide)) ?_;refine dv (H6 (i:=0+n17) (j:=0) (xs:=Is a0) (.i .i64 x17) ⟨_,by rw [Nat.zero_add];exact Bp q17,rfl⟩ AI) ?_;refine dv Ef ?_;refine dv Ad ?_
     obtain ⟨x18,g18,h⟩:=bnd h
     obtain ⟨n18,p018,q18⟩:=Af g18
     refine dv (FQ (off:=0) (len:=(Is a0).length) n18 p018 (by rw [Ag];exact (lS.1 q18).1) Bj (by decide)) ?_;refine dv (H6 (i:=0+n18) (j:=0) (xs:=Is a0) (.i .i64 x18) ⟨_,by rw [Nat.zero_add];exact Bp q18,rfl⟩ AI) ?_
     obtain ⟨x19,g19,h⟩:=bnd h
     refine dv (L7 (oa4 _ _ g19)) ?_;refine dv vbi ?_;refine dv vnt ?_;refine dz ?_;refine rk [0,1,2,3,4,14,15,16,103] ?_
     rcases brc h with ⟨hc,h⟩|⟨hc,h⟩
     ·refine cnf (ntf (dT hc)) ?_
      refine .region ?_;refine va ?_;refine asd ?_;refine .nil ?_;refine AL.gk [0,1,2,3,4,14,15] ?_
      exact ih (k,s15,(IntKind.wrap .i64 ((IntKind.wrap .u64 (w64 (s15+s16))) / 2 ^ min (Int.toNat 1) (IntKind.bits .u64)))) h (Nat.lt_succ_self _)
     refine cnt (ntt (dF hc)) ?_;refine .region ?_;refine va ?_;refine vb ?_;refine asd ?_;refine .nil ?_;refine AL.gk [0,1,2,3,4,14,15] ?_
     exact ih (k,(w64 ((IntKind.wrap .i64 ((IntKind.wrap .u64 (w64 (s15+s16))) / 2 ^ min (Int.toNat 1) (IntKind.bits .u64)))+1)),s16) h (Nat.lt_succ_self _)
    refine cnf (dF hc) ?_;refine .gk [0,1,2,3,4,14] ?_;refine .exit ?_
    exact jr (s15) h
   rintro z14 h
   try dsimp only at h ⊢
   subst hK6
   refine .seq ?_;refine .sr ?_;refine va ?_;refine ar [0,1,2,3,4,14,17] ?_
   obtain ⟨K8,hK8,h⟩:=AA h
   refine AW.mr (σ:=(List Int)) (fun p=>K8 p=some r) (fun p=>[(0,.own 3 (Is p)),(1,.d (.i .i64 a1)),(2,.d (.i .i64 a2)),(3,.d (.i .i64 a3)),(4,.d (a4.dv))]) (fun p=>[]) ?_ ?_
   ·skip
    refine .block ?_
    refine .loop (.gk [0,1,2,3,4,14,17] ?_)
    refine AL.ind (σ:=Nat×(List Int)×Int) (m:=fun p=>p.1) (e:=fun p=>[(0,.own 3 (Is p.2.1)),(1,.d (.i .i64 a1)),(2,.d (.i .i64 a2)),(3,.d (.i .i64 a3)),(4,.d (a4.dv)),(14,.d (.i .i64 z14)),(17,.d (.i .i64 p.2.2))]) (h:=fun p=>[]) (I:=fun p=>Dy z14 K8 p.1 p.2.1 p.2.2=some r) ?_ (Az,a0,a2) h
    rintro ⟨k,s21,s22⟩ h ih
    dsimp only at h ih ⊢
    rcases k with _|k
    ·rw [Dy] at h;cases h
    rw [Dy] at h
    refine .seq ?_;refine .sr ?_;refine va ?_;refine va ?_;refine vb ?_;refine rk [0,1,2,3,4,14,17,110] ?_
    rcases brc h with ⟨hc,h⟩|⟨hc,h⟩
    ·refine cnt (dT hc) ?_
     refine .sk ?_;refine .seq ?_;refine .block ?_
     obtain ⟨x23,g23,h⟩:=bnd h
     obtain ⟨x24,g24,h⟩:=bnd h
     obtain ⟨x25,g25,h⟩:=bnd h
     refine .drawnF 15 [2,3,4] [(0,.own 3 ((Is s21).set (Int.toNat s22) (.i .i64 x23)))] [] A2 (by kernel_rfl) rfl ?_;refine dv Ef ?_;refine dv Ad ?_;refine dv Ef ?_;refine dv Ad ?_;refine dv vbi ?_;refine dv Ef ?_;refine dv Ad ?_;refine dv vbi ?_
     obtain ⟨n23,p023,q23⟩:=Af g23
     refine dv (FQ (off:=0) (len:=(Is s21).length) n23 p023 (by rw [Ag];exact (lS.1 q23).1) Bj (by decide)) ?_;refine dv (H6 (i:=0+n23) (j:=0) (xs:=Is s21) (.i .i64 x23) ⟨_,by rw [Nat.zero_add];exact Bp q23,rfl⟩ AI) ?_;refine dv Ef ?_;refine dv Ad ?_
     obtain ⟨n24,p024,q24⟩:=Af g24
     refine dv (FQ (off:=0) (len:=(Is s21).length) n24 p024 (by rw [Ag];exact (lS.1 q24).1) Bj (by decide)) ?_;refine dv (H6 (i:=0+n24) (j:=0) (xs:=Is s21) (.i .i64 x24) ⟨_,by rw [Nat.zero_add];exact Bp q24,rfl⟩ AI) ?_
     obtain ⟨n25,p025,q25⟩:=Af g25
     refine dv (FQ (off:=0) (len:=(Is s21).length) n25 p025 (by rw [Ag];exact (lS.1 q25).1) Bj (by decide)) ?_;refine dz ?_
     refine ⟨?_,?_,?_⟩
     ·intro k hk
      simp only [List.mem_cons,List.not_mem_nil,or_false] at hk
      rcases hk with rfl|rfl|rfl
      ·exact ⟨_,_,_,rfl,rfl,rfl,rfl,rfl,rfl,(show VOK _ _ _ _ _ (.ref (.t 0) 0 (Is s21).length) from by rw [show (Is s21).length=((Is s21).set (Int.toNat s22) (.i .i64 x23)).length by rw [List.length_set]];exact Ef)⟩
      ·exact ⟨_,_,_,rfl,rfl,rfl,rfl,rfl,rfl,Ad⟩
      ·exact ⟨_,_,_,rfl,rfl,rfl,rfl,rfl,rfl,vbi⟩
     ·intro om e hom hge
      cases hom
      refine ID (x:=.tmp 127) (y:=.tmp 122) (r:=127) (ay:=.t 122) (p:=.t 0) (i:=0+n25) (k:=0) (v:=.i .i64 x23) (x':=.i .i64 x23) rfl rfl rfl rfl Di ((hge 127 (fun k hk v hv=>by
        simp only [List.mem_cons,List.not_mem_nil,or_false] at hk
        rcases hk with rfl|rfl|rfl
        ·exact (by decide:¬(some 115=some 127)) (congrArg (Option.map Prod.fst) hv)
        ·exact (by decide:¬(some 116=some 127)) (congrArg (Option.map Prod.fst) hv)
        ·exact (by decide:¬(some 117=some 127)) (congrArg (Option.map Prod.fst) hv))).trans rfl) ((hge 0 (fun k hk v hv=>by
        simp only [List.mem_cons,List.not_mem_nil,or_false] at hk
        rcases hk with rfl|rfl|rfl
        ·exact (by decide:¬(some 115=some 0)) (congrArg (Option.map Prod.fst) hv)
        ·exact (by decide:¬(some 116=some 0)) (congrArg (Option.map Prod.fst) hv)
        ·exact (by decide:¬(some 117=some 0)) (congrArg (Option.map Prod.fst) hv))).trans rfl) (fun _ _ h=>by cases h) ((hge 122 (fun k hk v hv=>by
        simp only [List.mem_cons,List.not_mem_nil,or_false] at hk
        rcases hk with rfl|rfl|rfl
        ·exact (by decide:¬(some 115=some 122)) (congrArg (Option.map Prod.fst) hv)
        ·exact (by decide:¬(some 116=some 122)) (congrArg (Option.map Prod.fst) hv)
        ·exact (by decide:¬(some 117=some 122)) (congrArg (Option.map Prod.fst) hv))).trans rfl) rfl ?_ ⟨by rw [show Int.toNat s22=0+n25 from by rw [p025];simp];rfl,rfl⟩
      rw [Nat.zero_add,lD,Bp q25];rfl
     rw [show (Is s21).set (Int.toNat s22) (.i .i64 x23)=Is (List.set s21 (Int.toNat s22) x23) from HQ _ _ _]
     refine RL.gk [0,1,2,3,4,14,17,110,113,114,115,116,117,118,119,120,122,123,124,126] ?_
     obtain ⟨x26,g26,h⟩:=bnd h
     obtain ⟨n26,p026,q26⟩:=Af g26
     refine ixr (off:=0) (len:=(Is s21).length) n26 p026 (by rw [Ag];simpa using (lS.1 q26).1) ?_ Bj (by decide)
     refine VP (F:=Is) (D:=fun x=>.i .i64 x) HQ (us:=(List.set s21 (Int.toNat s22) x23)) (n:=n26) (m:=Int.toNat (w64 (s22-1))) (x:=x24) (by rw [p026];rfl) ⟨_,by rw [Nat.zero_add];exact Bp q26,rfl⟩ ?_ Di
     refine RL.gk [0,1,2,3,4,14,17,110,113,114,115,116,117,118,119,120,122,123,124,126] ?_;refine .nil ?_;refine aw ?_;refine .gk [0,1,2,3,4,14,17] ?_;refine .region ?_;refine va ?_;refine vb ?_;refine asd ?_;refine .nil ?_;refine AL.gk [0,1,2,3,4,14,17] ?_
     exact ih (k,(List.set (List.set s21 (Int.toNat s22) x23) (Int.toNat (w64 (s22-1))) x24),(w64 (s22-1))) h (Nat.lt_succ_self _)
    refine cnf (dF hc) ?_;refine .gk [0,1,2,3,4] ?_;refine .exit ?_
    exact jr (s21) h
   rintro z20 h
   try dsimp only at h ⊢
   subst hK8
   refine aw ?_;refine .ret ?_
   cases h
   exact Xu rfl rfl
  refine cnf (dF hc) ?_;refine .gk [0,1,2,3,4] ?_;refine .skip ?_
  exact jr () h
 rintro _ h
 subst hK5
 refine aw ?_;refine .sr ?_;refine va ?_;refine va ?_;refine vb ?_;refine vk (vcv H7 GX) ?_;refine vk (Nu (c:=(0:Int)≤1) (by decide)) ?_;refine vk (vcv GX H7) ?_;refine ar [0,1,2,3,4,18] ?_;refine .sr ?_;refine va ?_;refine va ?_;refine vb ?_;refine ar [0,1,2,3,4,18,19] ?_;refine .sr ?_;refine asd ?_;refine ar [0,1,2,3,4,18,19] ?_;refine .seq ?_;refine .sr ?_;refine va ?_;refine va ?_;refine vb ?_;refine rk [0,1,2,3,4,18,19,140] ?_
 obtain ⟨K10,hK10,h⟩:=AA h
 refine AW.mr (σ:=Int×Int) (fun p=>K10 p.1 p.2=some r) (fun p=>[(0,.own 3 (Is a0)),(1,.d (.i .i64 a1)),(2,.d (.i .i64 a2)),(3,.d (.i .i64 a3)),(4,.d (a4.dv)),(18,.d (.i .i64 (IntKind.wrap .i64 ((IntKind.wrap .u64 (w64 (a1+a3))) / 2 ^ min (Int.toNat 1) (IntKind.bits .u64))))),(19,.d (.i .i64 (w64 ((IntKind.wrap .i64 ((IntKind.wrap .u64 (w64 (a1+a3))) / 2 ^ min (Int.toNat 1) (IntKind.bits .u64)))+a2)))),(20,.d (.i .i64 p.1)),(21,.d (.i .i64 p.2))]) (fun p=>[]) ?_ ?_
 ·skip
  rcases brc h with ⟨hc,h⟩|⟨hc,h⟩
  ·refine cnt (dT hc) ?_
   refine .sr ?_;refine va ?_;refine va ?_;refine vb ?_;refine ar [0,1,2,3,4,18,19,20] ?_;refine .region ?_;refine va ?_;refine asd ?_;refine RL.gk [0,1,2,3,4,18,19,20,21] ?_;refine .nil ?_
   exact jr ((w64 ((w64 ((IntKind.wrap .i64 ((IntKind.wrap .u64 (w64 (a1+a3))) / 2 ^ min (Int.toNat 1) (IntKind.bits .u64)))+a2))-a3)),(IntKind.wrap .i64 ((IntKind.wrap .u64 (w64 (a1+a3))) / 2 ^ min (Int.toNat 1) (IntKind.bits .u64)))) h
  refine cnf (dF hc) ?_;refine .sr ?_;refine va ?_;refine ar [0,1,2,3,4,18,19,20] ?_;refine .region ?_;refine va ?_;refine asd ?_;refine RL.gk [0,1,2,3,4,18,19,20,21] ?_;refine .nil ?_
  exact jr (a1,a2) h
 rintro ⟨z27,z28⟩ h
 try dsimp only at h ⊢
 subst hK10
 refine aw ?_;refine .sr ?_;refine va ?_;refine vb ?_;refine ar [0,1,2,3,4,18,19,20,21,22] ?_
 obtain ⟨K11,hK11,h⟩:=AA h
 refine AW.mj (σ:=Int) (fun p=>K11 p=some r) (fun p=>[(0,.own 3 (Is a0)),(1,.d (.i .i64 a1)),(2,.d (.i .i64 a2)),(3,.d (.i .i64 a3)),(4,.d (a4.dv)),(18,.d (.i .i64 (IntKind.wrap .i64 ((IntKind.wrap .u64 (w64 (a1+a3))) / 2 ^ min (Int.toNat 1) (IntKind.bits .u64))))),(19,.d (.i .i64 (w64 ((IntKind.wrap .i64 ((IntKind.wrap .u64 (w64 (a1+a3))) / 2 ^ min (Int.toNat 1) (IntKind.bits .u64)))+a2)))),(20,.d (.i .i64 p))]) (fun p=>[]) ?_ ?_
 ·skip
  refine .block ?_
  refine .loop (.gk [0,1,2,3,4,18,19,20,21,22] ?_)
  refine AL.ind (σ:=Nat×Int×Int) (m:=fun p=>p.1) (e:=fun p=>[(0,.own 3 (Is a0)),(1,.d (.i .i64 a1)),(2,.d (.i .i64 a2)),(3,.d (.i .i64 a3)),(4,.d (a4.dv)),(18,.d (.i .i64 (IntKind.wrap .i64 ((IntKind.wrap .u64 (w64 (a1+a3))) / 2 ^ min (Int.toNat 1) (IntKind.bits .u64))))),(19,.d (.i .i64 (w64 ((IntKind.wrap .i64 ((IntKind.wrap .u64 (w64 (a1+a3))) / 2 ^ min (Int.toNat 1) (IntKind.bits .u64)))+a2)))),(20,.d (.i .i64 p.2.1)),(21,.d (.i .i64 p.2.2)),(22,.d (.i .i64 (w64 ((w64 ((IntKind.wrap .i64 ((IntKind.wrap .u64 (w64 (a1+a3))) / 2 ^ min (Int.toNat 1) (IntKind.bits .u64)))+a2))-1))))]) (h:=fun p=>[]) (I:=fun p=>CA a0 a1 a2 a3 a4 K11 p.1 p.2.1 p.2.2=some r) ?_ (Az,z27,z28) h
  rintro ⟨k,s30,s31⟩ h ih
  dsimp only at h ih ⊢
  rcases k with _|k
  ·rw [CA] at h;cases h
  rw [CA] at h
  refine .seq ?_;refine .sr ?_;refine va ?_;refine va ?_;refine vb ?_;refine rk [0,1,2,3,4,18,19,20,21,22,151] ?_
  rcases brc h with ⟨hc,h⟩|⟨hc,h⟩
  ·refine cnt (dT hc) ?_
   refine .sk ?_;refine .block ?_;refine .sr ?_;refine va ?_;refine va ?_;refine vb ?_;refine vk (vcv H7 GX) ?_;refine vk (Nu (c:=(0:Int)≤1) (by decide)) ?_;refine vk (vcv GX H7) ?_;refine ar [0,1,2,3,4,18,19,20,21,22,23] ?_;refine .seq ?_;refine .drawn 14 A2 (by kernel_rfl) ?_;refine dv Ad ?_;refine dv Ef ?_;refine dv Ad ?_;refine dv Ad ?_;refine dv vbi ?_
   obtain ⟨x32,g32,h⟩:=bnd h
   obtain ⟨n32,p032,q32⟩:=Af g32
   refine dv (FQ (off:=0) (len:=(Is a0).length) n32 p032 (by rw [Ag];exact (lS.1 q32).1) Bj (by decide)) ?_;refine dv (H6 (i:=0+n32) (j:=0) (xs:=Is a0) (.i .i64 x32) ⟨_,by rw [Nat.zero_add];exact Bp q32,rfl⟩ AI) ?_;refine dv Ef ?_;refine dv Ad ?_
   obtain ⟨x33,g33,h⟩:=bnd h
   obtain ⟨n33,p033,q33⟩:=Af g33
   refine dv (FQ (off:=0) (len:=(Is a0).length) n33 p033 (by rw [Ag];exact (lS.1 q33).1) Bj (by decide)) ?_;refine dv (H6 (i:=0+n33) (j:=0) (xs:=Is a0) (.i .i64 x33) ⟨_,by rw [Nat.zero_add];exact Bp q33,rfl⟩ AI) ?_
   obtain ⟨x34,g34,h⟩:=bnd h
   refine dv (L7 (oa4 _ _ g34)) ?_;refine dv vbi ?_;refine dv vnt ?_;refine dz ?_;refine rk [0,1,2,3,4,18,19,20,21,22,23,171] ?_
   rcases brc h with ⟨hc,h⟩|⟨hc,h⟩
   ·refine cnf (ntf (dT hc)) ?_
    refine .region ?_;refine va ?_;refine asd ?_;refine .nil ?_;refine AL.gk [0,1,2,3,4,18,19,20,21,22] ?_
    exact ih (k,s30,(IntKind.wrap .i64 ((IntKind.wrap .u64 (w64 (s30+s31))) / 2 ^ min (Int.toNat 1) (IntKind.bits .u64)))) h (Nat.lt_succ_self _)
   refine cnt (ntt (dF hc)) ?_;refine .region ?_;refine va ?_;refine vb ?_;refine asd ?_;refine .nil ?_;refine AL.gk [0,1,2,3,4,18,19,20,21,22] ?_
   exact ih (k,(w64 ((IntKind.wrap .i64 ((IntKind.wrap .u64 (w64 (s30+s31))) / 2 ^ min (Int.toNat 1) (IntKind.bits .u64)))+1)),s31) h (Nat.lt_succ_self _)
  refine cnf (dF hc) ?_;refine .gk [0,1,2,3,4,18,19,20] ?_;refine .exit ?_
  exact jr (s30) h
 rintro z29 h
 try dsimp only at h ⊢
 subst hK11
 refine .sr ?_;refine va ?_;refine va ?_;refine vb ?_;refine ar [0,1,2,3,4,18,20,24] ?_;refine .seq ?_;refine .seq ?_;refine AW.mr (σ:=Unit) (fun _=>True) (fun _=>[(0,.own 3 (Is a0)),(1,.d (.i .i64 a1)),(2,.d (.i .i64 a2)),(3,.d (.i .i64 a3)),(4,.d (a4.dv)),(18,.d (.i .i64 (IntKind.wrap .i64 ((IntKind.wrap .u64 (w64 (a1+a3))) / 2 ^ min (Int.toNat 1) (IntKind.bits .u64))))),(20,.d (.i .i64 z29)),(24,.d (.i .i64 (w64 ((w64 ((IntKind.wrap .i64 ((IntKind.wrap .u64 (w64 (a1+a3))) / 2 ^ min (Int.toNat 1) (IntKind.bits .u64)))+a2))-z29)))),(185,.d (.b ((decide (z29<a2))&&(decide (a2<(w64 ((w64 ((IntKind.wrap .i64 ((IntKind.wrap .u64 (w64 (a1+a3))) / 2 ^ min (Int.toNat 1) (IntKind.bits .u64)))+a2))-z29)))))))]) (fun _=>[]) ?_ ?_
 ·skip
  refine .region ?_;refine va ?_;refine va ?_;refine vb ?_
  by_cases hc:z29<a2
  ·have hb0:(decide (z29<a2))=true:=(dT hc)
   refine vL hb0 ?_;refine va ?_;refine va ?_;refine vb ?_;refine vk Aj ?_;refine RL.gk [0,1,2,3,4,18,20,24,185] ?_;refine .nil ?_
   exact jr () trivial (by simp only [hb0];rfl)
  have hb0:(decide (z29<a2))=false:=(dF hc)
  refine vL hb0 ?_;refine gf3 ?_;refine vk Aj ?_;refine RL.gk [0,1,2,3,4,18,20,24,185] ?_;refine .nil ?_
  exact jr () trivial (by simp only [hb0];rfl)
 rintro _ _
 obtain ⟨K13,hK13,h⟩:=AA h
 refine AW.mr (σ:=(List Int)) (fun p=>K13 p=some r) (fun p=>[(0,.own 3 (Is p)),(1,.d (.i .i64 a1)),(3,.d (.i .i64 a3)),(4,.d (a4.dv)),(18,.d (.i .i64 (IntKind.wrap .i64 ((IntKind.wrap .u64 (w64 (a1+a3))) / 2 ^ min (Int.toNat 1) (IntKind.bits .u64))))),(20,.d (.i .i64 z29)),(24,.d (.i .i64 (w64 ((w64 ((IntKind.wrap .i64 ((IntKind.wrap .u64 (w64 (a1+a3))) / 2 ^ min (Int.toNat 1) (IntKind.bits .u64)))+a2))-z29))))]) (fun p=>[]) ?_ ?_
 ·skip
  rcases brc h with ⟨hc,h⟩|⟨hc,h⟩
  ·refine cnt hc ?_
   refine .region ?_;refine mvo ?_;refine va ?_;refine va ?_;refine va ?_;refine va ?_
   obtain ⟨x36,g36,h⟩:=bnd h
   refine L2 (Is x36) ?_ (Pv oa4 g36) Tryz.call260
   refine RL.gk [0,1,2,3,4,18,20,24,185,187,188,189,190,191] ?_;refine RL.gk [0,1,3,4,18,20,24] ?_;refine .nil ?_
   exact jr (x36) h
  refine cnf (bf hc) ?_;refine .gk [0,1,3,4,18,20,24] ?_;refine .skip ?_
  exact jr (a0) h
 rintro z35 h
 try dsimp only at h ⊢
 subst hK13
 refine aw ?_;refine .seq ?_;refine .seq ?_;refine AW.mr (σ:=Unit) (fun _=>True) (fun _=>[(0,.own 3 (Is z35)),(1,.d (.i .i64 a1)),(3,.d (.i .i64 a3)),(4,.d (a4.dv)),(18,.d (.i .i64 (IntKind.wrap .i64 ((IntKind.wrap .u64 (w64 (a1+a3))) / 2 ^ min (Int.toNat 1) (IntKind.bits .u64))))),(20,.d (.i .i64 z29)),(24,.d (.i .i64 (w64 ((w64 ((IntKind.wrap .i64 ((IntKind.wrap .u64 (w64 (a1+a3))) / 2 ^ min (Int.toNat 1) (IntKind.bits .u64)))+a2))-z29)))),(199,.d (.b ((decide (a1<z29))&&(decide (z29<(IntKind.wrap .i64 ((IntKind.wrap .u64 (w64 (a1+a3))) / 2 ^ min (Int.toNat 1) (IntKind.bits .u64))))))))]) (fun _=>[]) ?_ ?_
 ·skip
  refine .region ?_;refine va ?_;refine va ?_;refine vb ?_
  by_cases hc:a1<z29
  ·have hb0:(decide (a1<z29))=true:=(dT hc)
   refine vL hb0 ?_;refine va ?_;refine va ?_;refine vb ?_;refine vk Aj ?_;refine RL.gk [0,1,3,4,18,20,24,199] ?_;refine .nil ?_
   exact jr () trivial (by simp only [hb0];rfl)
  have hb0:(decide (a1<z29))=false:=(dF hc)
  refine vL hb0 ?_;refine gf3 ?_;refine vk Aj ?_;refine RL.gk [0,1,3,4,18,20,24,199] ?_;refine .nil ?_
  exact jr () trivial (by simp only [hb0];rfl)
 rintro _ _
 obtain ⟨K14,hK14,h⟩:=AA h
 refine AW.mr (σ:=(List Int)) (fun p=>K14 p=some r) (fun p=>[(0,.own 3 (Is p)),(3,.d (.i .i64 a3)),(4,.d (a4.dv)),(18,.d (.i .i64 (IntKind.wrap .i64 ((IntKind.wrap .u64 (w64 (a1+a3))) / 2 ^ min (Int.toNat 1) (IntKind.bits .u64))))),(24,.d (.i .i64 (w64 ((w64 ((IntKind.wrap .i64 ((IntKind.wrap .u64 (w64 (a1+a3))) / 2 ^ min (Int.toNat 1) (IntKind.bits .u64)))+a2))-z29))))]) (fun p=>[]) ?_ ?_
 ·skip
  rcases brc h with ⟨hc,h⟩|⟨hc,h⟩
  ·refine cnt hc ?_
   refine .region ?_;refine mvo ?_;refine va ?_;refine va ?_;refine va ?_;refine va ?_
   obtain ⟨x38,g38,h⟩:=bnd h
   refine L2 (Is x38) ?_ (orc_slices_symMergeCmpFunc_int _ _ _ _ _ _ oa4 g38) Tryz.call229
   refine RL.gk [0,1,3,4,18,20,24,199,201,202,203,204,205] ?_;refine RL.gk [0,3,4,18,24] ?_;refine .nil ?_
   exact jr (x38) h
  refine cnf (bf hc) ?_;refine .gk [0,3,4,18,24] ?_;refine .skip ?_
  exact jr (z35) h
 rintro z37 h
 try dsimp only at h ⊢
 subst hK14
 refine aw ?_;refine .seq ?_;refine AW.mr (σ:=Unit) (fun _=>True) (fun _=>[(0,.own 3 (Is z37)),(3,.d (.i .i64 a3)),(4,.d (a4.dv)),(18,.d (.i .i64 (IntKind.wrap .i64 ((IntKind.wrap .u64 (w64 (a1+a3))) / 2 ^ min (Int.toNat 1) (IntKind.bits .u64))))),(24,.d (.i .i64 (w64 ((w64 ((IntKind.wrap .i64 ((IntKind.wrap .u64 (w64 (a1+a3))) / 2 ^ min (Int.toNat 1) (IntKind.bits .u64)))+a2))-z29)))),(213,.d (.b ((decide ((IntKind.wrap .i64 ((IntKind.wrap .u64 (w64 (a1+a3))) / 2 ^ min (Int.toNat 1) (IntKind.bits .u64)))<(w64 ((w64 ((IntKind.wrap .i64 ((IntKind.wrap .u64 (w64 (a1+a3))) / 2 ^ min (Int.toNat 1) (IntKind.bits .u64)))+a2))-z29))))&&(decide ((w64 ((w64 ((IntKind.wrap .i64 ((IntKind.wrap .u64 (w64 (a1+a3))) / 2 ^ min (Int.toNat 1) (IntKind.bits .u64)))+a2))-z29))<a3)))))]) (fun _=>[]) ?_ ?_
 ·skip
  refine .region ?_;refine va ?_;refine va ?_;refine vb ?_
  by_cases hc:(IntKind.wrap .i64 ((IntKind.wrap .u64 (w64 (a1+a3))) / 2 ^ min (Int.toNat 1) (IntKind.bits .u64)))<(w64 ((w64 ((IntKind.wrap .i64 ((IntKind.wrap .u64 (w64 (a1+a3))) / 2 ^ min (Int.toNat 1) (IntKind.bits .u64)))+a2))-z29))
  ·have hb0:(decide ((IntKind.wrap .i64 ((IntKind.wrap .u64 (w64 (a1+a3))) / 2 ^ min (Int.toNat 1) (IntKind.bits .u64)))<(w64 ((w64 ((IntKind.wrap .i64 ((IntKind.wrap .u64 (w64 (a1+a3))) / 2 ^ min (Int.toNat 1) (IntKind.bits .u64)))+a2))-z29))))=true:=(dT hc)
   refine vL hb0 ?_;refine va ?_;refine va ?_;refine vb ?_;refine vk Aj ?_;refine RL.gk [0,3,4,18,24,213] ?_;refine .nil ?_
   exact jr () trivial (by simp only [hb0];rfl)
  have hb0:(decide ((IntKind.wrap .i64 ((IntKind.wrap .u64 (w64 (a1+a3))) / 2 ^ min (Int.toNat 1) (IntKind.bits .u64)))<(w64 ((w64 ((IntKind.wrap .i64 ((IntKind.wrap .u64 (w64 (a1+a3))) / 2 ^ min (Int.toNat 1) (IntKind.bits .u64)))+a2))-z29))))=false:=(dF hc)
  refine vL hb0 ?_;refine gf3 ?_;refine vk Aj ?_;refine RL.gk [0,3,4,18,24,213] ?_;refine .nil ?_
  exact jr () trivial (by simp only [hb0];rfl)
 rintro _ _
 rcases brc h with ⟨hc,h⟩|⟨hc,h⟩
 ·refine cnt hc ?_
  refine .region ?_;refine mvo ?_;refine va ?_;refine va ?_;refine va ?_;refine va ?_
  obtain ⟨x39,g39,h⟩:=bnd h
  refine L2 (Is x39) ?_ (orc_slices_symMergeCmpFunc_int _ _ _ _ _ _ oa4 g39) Tryz.call229
  refine RL.gk [0,3,4,18,24,213,215,216,217,218,219] ?_;refine .nil ?_
  cases h
  exact No rfl rfl
 refine cnf (bf hc) ?_;refine .skip ?_
 cases h
 exact No rfl rfl
def Fo : Nat→(List Int)→Int→Int→Int→An→Option ((List Int))
 | 0,_,_,_,_,_=>none
 | k+1,a0,a1,a2,a3,a4=>F7 (Fo k) a0 a1 a2 a3 a4
theorem Hi : ∀ (k:Nat) (a0:(List Int)) (a1:Int) (a2:Int) (a3:Int) (a4:An) (r:(List Int)),BH a4→Fo k a0 a1 a2 a3 a4=some r→FnG Tryz.prog 229 [.own 3 (Is a0),.d (.i .i64 a1),.d (.i .i64 a2),.d (.i .i64 a3),.d (a4.dv)] [] (.tup []) [.own 3 (Is r)] []
 | 0,_,_,_,_,_,_,_,h=>by cases h
 | k+1,a0,a1,a2,a3,a4,_,oa4,h=>L0 (Hi k) oa4 (show F7 (Fo k) a0 a1 a2 a3 a4=some _ from h)
def IS (a0:(List Int)) (a1:Int) (a2:Int) (a3:Int) (a4:An) : Option ((List Int)):=Fo (Az) a0 a1 a2 a3 a4
theorem I0 {a0:(List Int)} {a1:Int} {a2:Int} {a3:Int} {a4:An} (oa4:BH a4) {r:(List Int)} (h:IS a0 a1 a2 a3 a4=some r) : FnG Tryz.prog 229 [.own 3 (Is a0),.d (.i .i64 a1),.d (.i .i64 a2),.d (.i .i64 a3),.d (a4.dv)] [] (.tup []) [.own 3 (Is r)] []:=Hi _ a0 a1 a2 a3 a4 r oa4 h
def E0 (a1:Int) (a2:An) (K0:(List Int)→Int→Option ((List Int))) : Nat→(List Int)→Int→Int→Option ((List Int))
 | 0,_,_,_=>none
 | k+1,s3,s4,s5=>(if s5≤a1 then ((F8 s3 s4 s5 a2).bind fun x6=>(E0 a1 a2 K0 k x6 s5 (w64 (s5+20)))) else (K0 s3 s4))
def E3 (a1:Int) (a2:An) (s9:Int) (K3:(List Int)→Int→Option ((List Int))) : Nat→(List Int)→Int→Int→Option ((List Int))
 | 0,_,_,_=>none
 | k+1,s12,s13,s14=>(if s14≤a1 then ((IS s12 s13 (w64 (s13+s9)) s14 a2).bind fun x15=>(E3 a1 a2 s9 K3 k x15 s14 (w64 (s14+(w64 (2 * s9)))))) else (K3 s12 s13))
def EY (a1:Int) (a2:An) : Nat→(List Int)→Int→Option ((List Int))
 | 0,_,_=>none
 | k+1,s8,s9=>(if s9<a1 then (jn (fun (z10:(List Int)) (z11:Int)=>(jn (fun (z16:(List Int))=>(EY a1 a2 k z16 (w64 (s9 * 2)))) fun K5=>(if (w64 (z11+s9))<a1 then ((IS z10 z11 (w64 (z11+s9)) a1 a2).bind fun x17=>(K5 x17)) else (K5 z10)))) fun K3=>(E3 a1 a2 s9 K3 Az s8 0 (w64 (2 * s9)))) else (some s8))
def KV (a0:(List Int)) (a1:Int) (a2:An) : Option ((List Int)):=(jn (fun (z1:(List Int)) (z2:Int)=>((F8 z1 z2 a1 a2).bind fun x7=>(EY a1 a2 Az x7 20))) fun K0=>(E0 a1 a2 K0 Az a0 0 20))
theorem PC {a0:(List Int)} {a1:Int} {a2:An} (oa2:BH a2) {r:(List Int)} (h:KV a0 a1 a2=some r) :
  FnG Tryz.prog 180 [.own 3 (Is a0),.d (.i .i64 a1),.d (a2.dv)] [] (.tup []) [.own 3 (Is r)] []:=by
 unfold KV at h
 refine FnG.of (rs:=[]) 1 63 Tryz.func180 rfl rfl rfl (by simp) (by simp) (by simp) ?_;refine .sr ?_;refine ar [0,1,2,6] ?_;refine .sr ?_;refine va ?_;refine asd ?_;refine ar [0,1,2,6,7,8] ?_
 obtain ⟨K0,hK0,h⟩:=AA h
 refine AW.mj (σ:=(List Int)×Int) (fun p=>K0 p.1 p.2=some r) (fun p=>[(0,.own 3 (Is p.1)),(1,.d (.i .i64 a1)),(2,.d (a2.dv)),(6,.d (.i .i64 20)),(7,.d (.i .i64 p.2))]) (fun p=>[]) ?_ ?_
 ·skip
  refine .block ?_
  refine .loop (.gk [0,1,2,6,7,8] ?_)
  refine AL.ind (σ:=Nat×(List Int)×Int×Int) (m:=fun p=>p.1) (e:=fun p=>[(0,.own 3 (Is p.2.1)),(1,.d (.i .i64 a1)),(2,.d (a2.dv)),(6,.d (.i .i64 20)),(7,.d (.i .i64 p.2.2.1)),(8,.d (.i .i64 p.2.2.2))]) (h:=fun p=>[]) (I:=fun p=>E0 a1 a2 K0 p.1 p.2.1 p.2.2.1 p.2.2.2=some r) ?_ (Az,a0,0,20) h
  rintro ⟨k,s3,s4,s5⟩ h ih
  dsimp only at h ih ⊢
  rcases k with _|k
  ·rw [E0] at h;cases h
  rw [E0] at h
  refine .seq ?_;refine .sr ?_;refine va ?_;refine va ?_;refine vb ?_;refine rk [0,1,2,6,7,8,13] ?_
  rcases brc h with ⟨hc,h⟩|⟨hc,h⟩
  ·refine cnt (dT hc) ?_
   refine .sk ?_;refine .block ?_;refine .sr ?_;refine mvo ?_;refine va ?_;refine va ?_;refine va ?_
   obtain ⟨x6,g6,h⟩:=bnd h
   refine L2 (Is x6) ?_ (Iv oa2 g6) Tryz.call228
   refine RL.gk [0,1,2,6,7,8,13,15,16,17,18] ?_;refine rk [0,1,2,6,8] ?_;refine .sr ?_;refine va ?_;refine ar [0,1,2,6,7,8] ?_;refine .region ?_;refine va ?_;refine va ?_;refine vb ?_;refine asd ?_;refine .nil ?_;refine AL.gk [0,1,2,6,7,8] ?_
   exact ih (k,x6,s5,(w64 (s5+20))) h (Nat.lt_succ_self _)
  refine cnf (dF hc) ?_;refine .gk [0,1,2,6,7] ?_;refine .exit ?_
  exact jr (s3,s4) h
 rintro ⟨z1,z2⟩ h
 try dsimp only at h ⊢
 subst hK0
 refine .sr ?_;refine mvo ?_;refine va ?_;refine va ?_;refine va ?_
 obtain ⟨x7,g7,h⟩:=bnd h
 refine L2 (Is x7) ?_ (Iv oa2 g7) Tryz.call228
 refine RL.gk [0,1,2,6,7,24,25,26,27] ?_;refine rk [0,1,2,6] ?_;refine .block ?_
 refine .loop (.gk [0,1,2,6] ?_)
 refine AL.ind (σ:=Nat×(List Int)×Int) (m:=fun p=>p.1) (e:=fun p=>[(0,.own 3 (Is p.2.1)),(1,.d (.i .i64 a1)),(2,.d (a2.dv)),(6,.d (.i .i64 p.2.2))]) (h:=fun p=>[]) (I:=fun p=>EY a1 a2 p.1 p.2.1 p.2.2=some r) ?_ (Az,x7,20) h
 rintro ⟨k,s8,s9⟩ h ih
 dsimp only at h ih ⊢
 rcases k with _|k
 ·rw [EY] at h;cases h
 rw [EY] at h
 refine .seq ?_;refine .sr ?_;refine va ?_;refine va ?_;refine vb ?_;refine rk [0,1,2,6,30] ?_
 rcases brc h with ⟨hc,h⟩|⟨hc,h⟩
 ·refine cnt (dT hc) ?_
  refine .sk ?_;refine .block ?_;refine .sr ?_;refine va ?_;refine vb ?_;refine asd ?_;refine ar [0,1,2,6,7,8] ?_
  obtain ⟨K3,hK3,h⟩:=AA h
  refine AW.mj (σ:=(List Int)×Int) (fun p=>K3 p.1 p.2=some r) (fun p=>[(0,.own 3 (Is p.1)),(1,.d (.i .i64 a1)),(2,.d (a2.dv)),(6,.d (.i .i64 s9)),(7,.d (.i .i64 p.2))]) (fun p=>[]) ?_ ?_
  ·skip
   refine .block ?_
   refine .loop (.gk [0,1,2,6,7,8] ?_)
   refine AL.ind (σ:=Nat×(List Int)×Int×Int) (m:=fun p=>p.1) (e:=fun p=>[(0,.own 3 (Is p.2.1)),(1,.d (.i .i64 a1)),(2,.d (a2.dv)),(6,.d (.i .i64 s9)),(7,.d (.i .i64 p.2.2.1)),(8,.d (.i .i64 p.2.2.2))]) (h:=fun p=>[]) (I:=fun p=>E3 a1 a2 s9 K3 p.1 p.2.1 p.2.2.1 p.2.2.2=some r) ?_ (Az,s8,0,(w64 (2 * s9))) h
   rintro ⟨k,s12,s13,s14⟩ h ih
   dsimp only at h ih ⊢
   rcases k with _|k
   ·rw [E3] at h;cases h
   rw [E3] at h
   refine .seq ?_;refine .sr ?_;refine va ?_;refine va ?_;refine vb ?_;refine rk [0,1,2,6,7,8,35] ?_
   rcases brc h with ⟨hc,h⟩|⟨hc,h⟩
   ·refine cnt (dT hc) ?_
    refine .sk ?_;refine .block ?_;refine .sr ?_;refine mvo ?_;refine va ?_;refine va ?_;refine va ?_;refine vb ?_;refine va ?_;refine va ?_
    obtain ⟨x15,g15,h⟩:=bnd h
    refine L2 (Is x15) ?_ (I0 oa2 g15) Tryz.call229
    refine RL.gk [0,1,2,6,7,8,35,37,38,39,40,41,42,43] ?_;refine rk [0,1,2,6,8] ?_;refine .sr ?_;refine va ?_;refine ar [0,1,2,6,7,8] ?_;refine .region ?_;refine va ?_;refine va ?_;refine vb ?_;refine vb ?_;refine asd ?_;refine .nil ?_;refine AL.gk [0,1,2,6,7,8] ?_
    exact ih (k,x15,s14,(w64 (s14+(w64 (2 * s9))))) h (Nat.lt_succ_self _)
   refine cnf (dF hc) ?_;refine .gk [0,1,2,6,7] ?_;refine .exit ?_
   exact jr (s12,s13) h
  rintro ⟨z10,z11⟩ h
  try dsimp only at h ⊢
  subst hK3
  refine .seq ?_;refine .sr ?_;refine va ?_;refine va ?_;refine vb ?_;refine ar [0,1,2,6,7,9] ?_;refine .sr ?_;refine va ?_;refine va ?_;refine vb ?_;refine rk [0,1,2,6,7,9,54] ?_
  obtain ⟨K5,hK5,h⟩:=AA h
  refine AW.mr (σ:=(List Int)) (fun p=>K5 p=some r) (fun p=>[(0,.own 3 (Is p)),(1,.d (.i .i64 a1)),(2,.d (a2.dv)),(6,.d (.i .i64 s9))]) (fun p=>[]) ?_ ?_
  ·skip
   rcases brc h with ⟨hc,h⟩|⟨hc,h⟩
   ·refine cnt (dT hc) ?_
    refine .region ?_;refine mvo ?_;refine va ?_;refine va ?_;refine va ?_;refine va ?_
    obtain ⟨x17,g17,h⟩:=bnd h
    refine L2 (Is x17) ?_ (I0 oa2 g17) Tryz.call229
    refine RL.gk [0,1,2,6,7,9,54,56,57,58,59,60] ?_;refine RL.gk [0,1,2,6] ?_;refine .nil ?_
    exact jr (x17) h
   refine cnf (dF hc) ?_;refine .gk [0,1,2,6] ?_;refine .skip ?_
   exact jr (z10) h
  rintro z16 h
  try dsimp only at h ⊢
  subst hK5
  refine aw ?_;refine .region ?_;refine va ?_;refine vb ?_;refine asd ?_;refine .nil ?_;refine AL.gk [0,1,2,6] ?_
  exact ih (k,z16,(w64 (s9 * 2))) h (Nat.lt_succ_self _)
 refine cnf (dF hc) ?_;refine .exit ?_
 cases h
 exact No rfl rfl
def PK (a0:(List Int)) (a1:An) : Option ((List Int)):=((KV a0 ((List.length a0:Nat) : Int) a1).bind fun x1=>(some x1))
theorem Rp {a0:(List Int)} {a1:An} (oa1:BH a1) {r:(List Int)} (h:PK a0 a1=some r) :
  FnG Tryz.prog 127 [.own 3 (Is a0),.d (a1.dv)] [] (.tup []) [.own 3 (Is r)] []:=by
 unfold PK at h
 refine FnG.of (rs:=[]) 1 9 Tryz.func127 rfl rfl rfl (by simp) (by simp) (by simp) ?_;refine .region ?_;refine mvo ?_;refine mvo ?_;refine vk (S0 (Ag _) Cf) ?_;refine va ?_
 obtain ⟨x1,g1,h⟩:=bnd h
 refine RL.gk [0,1,4,6,7] ?_
 refine L2 (Is x1) ?_ (PC oa1 g1) Tryz.call180
 refine RL.gk [0,1,6,7,8] ?_;refine .nil ?_
 cases h
 exact No rfl rfl
def Fw (a0:Int) : Option (Bool):=(some ((!(decide (a0=a0)))))
theorem Hk {a0:Int} {r:Bool} (h:Fw a0=some r) :
  Fn Tryz.prog 195 [.i .i64 a0] (.d (.b r)):=by
 unfold Fw at h
 refine Fn.o1 2 6 Tryz.func195 ?_;refine .sr ?_;refine ar [0,2] ?_;refine .sr ?_;refine va ?_;refine va ?_;refine vb ?_;refine ar [2] ?_;refine .ret ?_
 cases h
 exact ⟨rfl,rfl⟩
def ES (a0:Int) : Option (Bool):=(some ((!(decide (a0=a0)))))
theorem GT {a0:Int} {r:Bool} (h:ES a0=some r) :
  Fn Tryz.prog 194 [.i .i32 a0] (.d (.b r)):=by
 unfold ES at h
 refine Fn.o1 2 6 Tryz.func194 ?_;refine .sr ?_;refine ar [0,2] ?_;refine .sr ?_;refine va ?_;refine va ?_;refine vb ?_;refine ar [2] ?_;refine .ret ?_
 cases h
 exact ⟨rfl,rfl⟩
def Cr (a0:Int) : Option (Bool):=(some ((!(decide (a0=a0)))))
theorem Eb {a0:Int} {r:Bool} (h:Cr a0=some r) :
  Fn Tryz.prog 189 [.i .u8 a0] (.d (.b r)):=by
 unfold Cr at h
 refine Fn.o1 2 6 Tryz.func189 ?_;refine .sr ?_;refine ar [0,2] ?_;refine .sr ?_;refine va ?_;refine va ?_;refine vb ?_;refine ar [2] ?_;refine .ret ?_
 cases h
 exact ⟨rfl,rfl⟩
def Es (a0:Int) (a1:Int) : Option (Int):=((Fw a0).bind fun x1=>((Fw a1).bind fun x2=>(if x1=true then (if x2=true then (some (0)) else (some ((-1)))) else (if x2=true then (some (1)) else (if a0<a1 then (some ((-1))) else (if a1<a0 then (some (1)) else (some (0))))))))
theorem Gz {a0:Int} {a1:Int} {r:Int} (h:Es a0 a1=some r) :
  Fn Tryz.prog 144 [.i .i64 a0,.i .i64 a1] (.d (.i .i64 r)):=by
 unfold Es at h
 refine Fn.o1 4 20 Tryz.func144 ?_;refine .sr ?_;refine ar [0,1,4] ?_;refine .sr ?_;refine va ?_
 obtain ⟨x1,g1,h⟩:=bnd h
 refine vk (Ak (Hk g1) Tryz.call195) ?_;refine ar [0,1,4,5] ?_;refine .sr ?_;refine va ?_
 obtain ⟨x2,g2,h⟩:=bnd h
 refine vk (Ak (Hk g2) Tryz.call195) ?_;refine ar [0,1,4,5,6] ?_;refine .seq ?_;refine .sr ?_;refine va ?_;refine rk [0,1,4,6,11] ?_
 rcases brc h with ⟨hc,h⟩|⟨hc,h⟩
 ·refine cnt hc ?_
  refine .seq ?_;refine .sr ?_;refine va ?_;refine rk [0,1,4,6,12] ?_
  rcases brc h with ⟨hc,h⟩|⟨hc,h⟩
  ·refine cnt hc ?_
   refine .sr ?_;refine ar [0,1,4,6] ?_;refine .ret ?_
   cases h
   exact ⟨rfl,rfl⟩
  refine cnf (bf hc) ?_;refine .sk ?_;refine .sr ?_;refine ar [0,1,4,6] ?_;refine .ret ?_
  cases h
  exact ⟨rfl,rfl⟩
 refine cnf (bf hc) ?_;refine .sk ?_;refine .seq ?_;refine .sr ?_;refine va ?_;refine rk [0,1,4,13] ?_
 rcases brc h with ⟨hc,h⟩|⟨hc,h⟩
 ·refine cnt hc ?_
  refine .sr ?_;refine ar [0,1,4] ?_;refine .ret ?_
  cases h
  exact ⟨rfl,rfl⟩
 refine cnf (bf hc) ?_;refine .sk ?_;refine .seq ?_;refine .sr ?_;refine va ?_;refine va ?_;refine vb ?_;refine rk [0,1,4,16] ?_
 rcases brc h with ⟨hc,h⟩|⟨hc,h⟩
 ·refine cnt (dT hc) ?_
  refine .sr ?_;refine ar [0,1,4] ?_;refine .ret ?_
  cases h
  exact ⟨rfl,rfl⟩
 refine cnf (dF hc) ?_;refine .sk ?_;refine .seq ?_;refine .sr ?_;refine va ?_;refine va ?_;refine vb ?_;refine rk [4,19] ?_
 rcases brc h with ⟨hc,h⟩|⟨hc,h⟩
 ·refine cnt (dT hc) ?_
  refine .sr ?_;refine ar [4] ?_;refine .ret ?_
  cases h
  exact ⟨rfl,rfl⟩
 refine cnf (dF hc) ?_;refine .sk ?_;refine .sr ?_;refine ar [4] ?_;refine .ret ?_
 cases h
 exact ⟨rfl,rfl⟩
def Fd (a0:Int) (a1:Int) : Option (Int):=((ES a0).bind fun x1=>((ES a1).bind fun x2=>(if x1=true then (if x2=true then (some (0)) else (some ((-1)))) else (if x2=true then (some (1)) else (if a0<a1 then (some ((-1))) else (if a1<a0 then (some (1)) else (some (0))))))))
theorem Jx {a0:Int} {a1:Int} {r:Int} (h:Fd a0 a1=some r) :
  Fn Tryz.prog 142 [.i .i32 a0,.i .i32 a1] (.d (.i .i64 r)):=by
 unfold Fd at h
 refine Fn.o1 4 20 Tryz.func142 ?_;refine .sr ?_;refine ar [0,1,4] ?_;refine .sr ?_;refine va ?_
 obtain ⟨x1,g1,h⟩:=bnd h
 refine vk (Ak (GT g1) Tryz.call194) ?_;refine ar [0,1,4,5] ?_;refine .sr ?_;refine va ?_
 obtain ⟨x2,g2,h⟩:=bnd h
 refine vk (Ak (GT g2) Tryz.call194) ?_;refine ar [0,1,4,5,6] ?_;refine .seq ?_;refine .sr ?_;refine va ?_;refine rk [0,1,4,6,11] ?_
 rcases brc h with ⟨hc,h⟩|⟨hc,h⟩
 ·refine cnt hc ?_
  refine .seq ?_;refine .sr ?_;refine va ?_;refine rk [0,1,4,6,12] ?_
  rcases brc h with ⟨hc,h⟩|⟨hc,h⟩
  ·refine cnt hc ?_
   refine .sr ?_;refine ar [0,1,4,6] ?_;refine .ret ?_
   cases h
   exact ⟨rfl,rfl⟩
  refine cnf (bf hc) ?_;refine .sk ?_;refine .sr ?_;refine ar [0,1,4,6] ?_;refine .ret ?_
  cases h
  exact ⟨rfl,rfl⟩
 refine cnf (bf hc) ?_;refine .sk ?_;refine .seq ?_;refine .sr ?_;refine va ?_;refine rk [0,1,4,13] ?_
 rcases brc h with ⟨hc,h⟩|⟨hc,h⟩
 ·refine cnt hc ?_
  refine .sr ?_;refine ar [0,1,4] ?_;refine .ret ?_
  cases h
  exact ⟨rfl,rfl⟩
 refine cnf (bf hc) ?_;refine .sk ?_;refine .seq ?_;refine .sr ?_;refine va ?_;refine va ?_;refine vb ?_;refine rk [0,1,4,16] ?_
 rcases brc h with ⟨hc,h⟩|⟨hc,h⟩
 ·refine cnt (dT hc) ?_
  refine .sr ?_;refine ar [0,1,4] ?_;refine .ret ?_
  cases h
  exact ⟨rfl,rfl⟩
 refine cnf (dF hc) ?_;refine .sk ?_;refine .seq ?_;refine .sr ?_;refine va ?_;refine va ?_;refine vb ?_;refine rk [4,19] ?_
 rcases brc h with ⟨hc,h⟩|⟨hc,h⟩
 ·refine cnt (dT hc) ?_
  refine .sr ?_;refine ar [4] ?_;refine .ret ?_
  cases h
  exact ⟨rfl,rfl⟩
 refine cnf (dF hc) ?_;refine .sk ?_;refine .sr ?_;refine ar [4] ?_;refine .ret ?_
 cases h
 exact ⟨rfl,rfl⟩
def C2 (a0:Int) (a1:Int) : Option (Int):=((Cr a0).bind fun x1=>((Cr a1).bind fun x2=>(if x1=true then (if x2=true then (some (0)) else (some ((-1)))) else (if x2=true then (some (1)) else (if a0<a1 then (some ((-1))) else (if a1<a0 then (some (1)) else (some (0))))))))
theorem FU {a0:Int} {a1:Int} {r:Int} (h:C2 a0 a1=some r) :
  Fn Tryz.prog 140 [.i .u8 a0,.i .u8 a1] (.d (.i .i64 r)):=by
 unfold C2 at h
 refine Fn.o1 4 20 Tryz.func140 ?_;refine .sr ?_;refine ar [0,1,4] ?_;refine .sr ?_;refine va ?_
 obtain ⟨x1,g1,h⟩:=bnd h
 refine vk (Ak (Eb g1) Tryz.call189) ?_;refine ar [0,1,4,5] ?_;refine .sr ?_;refine va ?_
 obtain ⟨x2,g2,h⟩:=bnd h
 refine vk (Ak (Eb g2) Tryz.call189) ?_;refine ar [0,1,4,5,6] ?_;refine .seq ?_;refine .sr ?_;refine va ?_;refine rk [0,1,4,6,11] ?_
 rcases brc h with ⟨hc,h⟩|⟨hc,h⟩
 ·refine cnt hc ?_
  refine .seq ?_;refine .sr ?_;refine va ?_;refine rk [0,1,4,6,12] ?_
  rcases brc h with ⟨hc,h⟩|⟨hc,h⟩
  ·refine cnt hc ?_
   refine .sr ?_;refine ar [0,1,4,6] ?_;refine .ret ?_
   cases h
   exact ⟨rfl,rfl⟩
  refine cnf (bf hc) ?_;refine .sk ?_;refine .sr ?_;refine ar [0,1,4,6] ?_;refine .ret ?_
  cases h
  exact ⟨rfl,rfl⟩
 refine cnf (bf hc) ?_;refine .sk ?_;refine .seq ?_;refine .sr ?_;refine va ?_;refine rk [0,1,4,13] ?_
 rcases brc h with ⟨hc,h⟩|⟨hc,h⟩
 ·refine cnt hc ?_
  refine .sr ?_;refine ar [0,1,4] ?_;refine .ret ?_
  cases h
  exact ⟨rfl,rfl⟩
 refine cnf (bf hc) ?_;refine .sk ?_;refine .seq ?_;refine .sr ?_;refine va ?_;refine va ?_;refine vb ?_;refine rk [0,1,4,16] ?_
 rcases brc h with ⟨hc,h⟩|⟨hc,h⟩
 ·refine cnt (dT hc) ?_
  refine .sr ?_;refine ar [0,1,4] ?_;refine .ret ?_
  cases h
  exact ⟨rfl,rfl⟩
 refine cnf (dF hc) ?_;refine .sk ?_;refine .seq ?_;refine .sr ?_;refine va ?_;refine va ?_;refine vb ?_;refine rk [4,19] ?_
 rcases brc h with ⟨hc,h⟩|⟨hc,h⟩
 ·refine cnt (dT hc) ?_
  refine .sr ?_;refine ar [4] ?_;refine .ret ?_
  cases h
  exact ⟨rfl,rfl⟩
 refine cnf (dF hc) ?_;refine .sk ?_;refine .sr ?_;refine ar [4] ?_;refine .ret ?_
 cases h
 exact ⟨rfl,rfl⟩
def El (a0:(List Int)) (K0:Int→Option (Int)) : Nat→Int→Int→Option (Int)
 | 0,_,_=>none
 | k+1,s2,s3=>(if s3<((List.length a0:Nat):Int) then ((rd? a0 s3).bind fun x4=>(if x4=0 then (El a0 K0 k s2 (w64 (s3+1))) else (some (x4)))) else (K0 s2))
def JH (a0:(List Int)) : Option (Int):=(jn (fun (z1:Int)=>(some (0))) fun K0=>(El a0 K0 Az 0 0))
theorem NP {a0:(List Int)} {r:Int} (h:JH a0=some r) :
  Fn Tryz.prog 143 [.sl (Is a0)] (.d (.i .i64 r)):=by
 unfold JH at h
 refine Fn.o1 2 18 Tryz.func143 ?_;refine .sr ?_;refine ar [0,2] ?_;refine .sr ?_;refine ar [0,2,3] ?_;refine .seq ?_;refine .sr ?_;refine va ?_;refine vk (AR (Ag _) (Cp _) Cf) ?_;refine va ?_;refine rk [2,3,6,7,8] ?_
 obtain ⟨K0,hK0,h⟩:=AA h
 refine AW.mr (σ:=Int) (fun p=>K0 p=some r) (fun p=>[(2,.d (.i .i64 p)),(3,.d (.i .i64 0))]) (fun p=>[]) ?_ ?_
 ·skip
  refine .block ?_
  refine .loop (.gk [2,3,6,7,8] ?_)
  refine AL.ind (σ:=Nat×Int×Int) (m:=fun p=>p.1) (e:=fun p=>[(2,.d (.i .i64 p.2.1)),(3,.d (.i .i64 0)),(6,.d (.sl (Is a0))),(7,.d (.i .i64 ((List.length a0:Nat):Int))),(8,.d (.i .i64 p.2.2))]) (h:=fun p=>[]) (I:=fun p=>El a0 K0 p.1 p.2.1 p.2.2=some r) ?_ (Az,0,0) h
  rintro ⟨k,s2,s3⟩ h ih
  dsimp only at h ih ⊢
  rcases k with _|k
  ·rw [El] at h;cases h
  rw [El] at h
  refine .sr ?_;refine vb ?_;refine rk [2,3,6,7,8,9] ?_;refine .seq ?_
  rcases brc h with ⟨hc,h⟩|⟨hc,h⟩
  ·refine cnt (dT hc) ?_
   refine .sk ?_;refine .seq ?_;refine .block ?_;refine .sr ?_
   obtain ⟨x4,g4,h⟩:=bnd h
   obtain ⟨n4,p04,q4⟩:=Af g4
   refine vk (vix n4 p04 (Bp q4) rfl Bj) ?_;refine vk (Ah AI) ?_;refine ar [2,3,5,6,7,8] ?_;refine .sr ?_;refine va ?_;refine va ?_;refine vb ?_;refine rk [2,3,5,6,7,8,14] ?_
   rcases brc h with ⟨hc,h⟩|⟨hc,h⟩
   ·refine cnf (ntf (dT hc)) ?_
    refine .sk ?_;refine .region ?_;refine vb ?_;refine va ?_;refine .nil ?_;refine AL.gk [2,3,6,7,8] ?_
    exact ih (k,s2,(w64 (s3+1))) h (Nat.lt_succ_self _)
   refine cnt (ntt (dF hc)) ?_;refine .sr ?_;refine va ?_;refine ar [2,3,6,7,8] ?_;refine .ret ?_
   cases h
   exact ⟨rfl,rfl⟩
  refine cnf (dF hc) ?_;refine .gk [2,3] ?_;refine .exit ?_
  exact jr (s2) h
 rintro z1 h
 try dsimp only at h ⊢
 subst hK0
 refine aw ?_;refine .sr ?_;refine va ?_;refine ar [2] ?_;refine .ret ?_
 cases h
 exact ⟨rfl,rfl⟩
def Bw (a0:(List Int)) (a1:(List Int)) (K0:Int→Option (Int)) : Nat→Int→Int→Option (Int)
 | 0,_,_=>none
 | k+1,s2,s3=>(if s3<((List.length a0:Nat):Int) then ((rd? a0 s3).bind fun x4=>(if ((List.length a1:Nat):Int)≤s3 then (some (1)) else ((rd? a1 s3).bind fun x5=>((Es x4 x5).bind fun x6=>(if x6=0 then (Bw a0 a1 K0 k s2 (w64 (s3+1))) else (some (x6))))))) else (K0 s2))
def Dw (a0:(List Int)) (a1:(List Int)) : Option (Int):=(jn (fun (z1:Int)=>(if ((List.length a0:Nat) : Int)<((List.length a1:Nat) : Int) then (some ((-1))) else (some (0)))) fun K0=>(Bw a0 a1 K0 Az 0 0))
theorem GG {a0:(List Int)} {a1:(List Int)} {r:Int} (h:Dw a0 a1=some r) :
  Fn Tryz.prog 145 [.sl (Is a0),.sl (Is a1)] (.d (.i .i64 r)):=by
 unfold Dw at h
 refine Fn.o1 4 36 Tryz.func145 ?_;refine .sr ?_;refine ar [0,1,4] ?_;refine .seq ?_;refine .sr ?_;refine va ?_;refine vk (AR (Ag _) (Cp _) Cf) ?_;refine va ?_;refine rk [0,1,4,9,10,11] ?_
 obtain ⟨K0,hK0,h⟩:=AA h
 refine AW.mr (σ:=Int) (fun p=>K0 p=some r) (fun p=>[(0,.d (.sl (Is a0))),(1,.d (.sl (Is a1))),(4,.d (.i .i64 p))]) (fun p=>[]) ?_ ?_
 ·skip
  refine .block ?_
  refine .loop (.gk [0,1,4,9,10,11] ?_)
  refine AL.ind (σ:=Nat×Int×Int) (m:=fun p=>p.1) (e:=fun p=>[(0,.d (.sl (Is a0))),(1,.d (.sl (Is a1))),(4,.d (.i .i64 p.2.1)),(9,.d (.sl (Is a0))),(10,.d (.i .i64 ((List.length a0:Nat):Int))),(11,.d (.i .i64 p.2.2))]) (h:=fun p=>[]) (I:=fun p=>Bw a0 a1 K0 p.1 p.2.1 p.2.2=some r) ?_ (Az,0,0) h
  rintro ⟨k,s2,s3⟩ h ih
  dsimp only at h ih ⊢
  rcases k with _|k
  ·rw [Bw] at h;cases h
  rw [Bw] at h
  refine .sr ?_;refine vb ?_;refine rk [0,1,4,9,10,11,12] ?_;refine .seq ?_
  rcases brc h with ⟨hc,h⟩|⟨hc,h⟩
  ·refine cnt (dT hc) ?_
   refine .sk ?_;refine .seq ?_;refine .block ?_;refine .sr ?_;refine va ?_
   obtain ⟨x4,g4,h⟩:=bnd h
   obtain ⟨n4,p04,q4⟩:=Af g4
   refine vk (vix n4 p04 (Bp q4) rfl Bj) ?_;refine vk (Ah AI) ?_;refine asd ?_;refine ar [0,1,4,5,6,9,10,11] ?_;refine .seq ?_;refine .sr ?_;refine va ?_;refine va ?_;refine vk (AR (Ag _) (Cp _) Cf) ?_;refine vb ?_;refine rk [0,1,4,5,6,9,10,11,19] ?_
   rcases brc h with ⟨hc,h⟩|⟨hc,h⟩
   ·refine cnt (dT hc) ?_
    refine .sr ?_;refine ar [0,1,4,5,6,9,10,11] ?_;refine .ret ?_
    cases h
    exact ⟨rfl,rfl⟩
   refine cnf (dF hc) ?_;refine .sk ?_;refine .sr ?_;refine va ?_;refine va ?_
   obtain ⟨x5,g5,h⟩:=bnd h
   obtain ⟨n5,p05,q5⟩:=Af g5
   refine vk (vix n5 p05 (Bp q5) rfl Bj) ?_;refine vk (Ah AI) ?_;refine ar [0,1,4,6,7,9,10,11] ?_;refine .sr ?_;refine va ?_;refine va ?_
   obtain ⟨x6,g6,h⟩:=bnd h
   refine vk (Ak (Gz g6) Tryz.call144) ?_;refine ar [0,1,4,8,9,10,11] ?_;refine .sr ?_;refine va ?_;refine vb ?_;refine rk [0,1,4,8,9,10,11,28] ?_
   rcases brc h with ⟨hc,h⟩|⟨hc,h⟩
   ·refine cnf (ntf (dT hc)) ?_
    refine .sk ?_;refine .region ?_;refine vb ?_;refine va ?_;refine .nil ?_;refine AL.gk [0,1,4,9,10,11] ?_
    exact ih (k,s2,(w64 (s3+1))) h (Nat.lt_succ_self _)
   refine cnt (ntt (dF hc)) ?_;refine .sr ?_;refine va ?_;refine ar [0,1,4,9,10,11] ?_;refine .ret ?_
   cases h
   exact ⟨rfl,rfl⟩
  refine cnf (dF hc) ?_;refine .gk [0,1,4] ?_;refine .exit ?_
  exact jr (s2) h
 rintro z1 h
 try dsimp only at h ⊢
 subst hK0
 refine aw ?_;refine .seq ?_;refine .sr ?_;refine va ?_;refine vk (AR (Ag _) (Cp _) Cf) ?_;refine va ?_;refine vk (AR (Ag _) (Cp _) Cf) ?_;refine vb ?_;refine rk [4,35] ?_
 rcases brc h with ⟨hc,h⟩|⟨hc,h⟩
 ·refine cnt (dT hc) ?_
  refine .sr ?_;refine ar [4] ?_;refine .ret ?_
  cases h
  exact ⟨rfl,rfl⟩
 refine cnf (dF hc) ?_;refine .sk ?_;refine .sr ?_;refine ar [4] ?_;refine .ret ?_
 cases h
 exact ⟨rfl,rfl⟩
def As (a0:(List Itm)) (a1:(List Itm)) (a2:DF) (K0:Int→Option (Int)) : Nat→Int→Int→Option (Int)
 | 0,_,_=>none
 | k+1,s2,s3=>(if s3<((List.length a0:Nat):Int) then ((rd? a0 s3).bind fun x4=>(if ((List.length a1:Nat):Int)≤s3 then (some (1)) else ((rd? a1 s3).bind fun x5=>((a2.g (x4,x5)).bind fun x6=>(if x6=0 then (As a0 a1 a2 K0 k s2 (w64 (s3+1))) else (some (x6))))))) else (K0 s2))
def AU (a0:(List Itm)) (a1:(List Itm)) (a2:DF) : Option (Int):=(jn (fun (z1:Int)=>(if ((List.length a0:Nat) : Int)<((List.length a1:Nat) : Int) then (some ((-1))) else (some (0)))) fun K0=>(As a0 a1 a2 K0 Az 0 0))
theorem Cd {a0:(List Itm)} {a1:(List Itm)} {a2:DF} (oa2:L6 a2) {r:Int} (h:AU a0 a1 a2=some r) :
  Fn Tryz.prog 146 [.sl (Its a0),.sl (Its a1),a2.dv] (.d (.i .i64 r)):=by
 unfold AU at h
 refine Fn.o1 6 39 Tryz.func146 ?_;refine .sr ?_;refine ar [0,1,2,6] ?_;refine .seq ?_;refine .sr ?_;refine va ?_;refine vk (AR (Ap _) (Bv _) Br) ?_;refine va ?_;refine rk [0,1,2,6,11,12,13] ?_
 obtain ⟨K0,hK0,h⟩:=AA h
 refine AW.mr (σ:=Int) (fun p=>K0 p=some r) (fun p=>[(0,.d (.sl (Its a0))),(1,.d (.sl (Its a1))),(6,.d (.i .i64 p))]) (fun p=>[]) ?_ ?_
 ·skip
  refine .block ?_
  refine .loop (.gk [0,1,2,6,11,12,13] ?_)
  refine AL.ind (σ:=Nat×Int×Int) (m:=fun p=>p.1) (e:=fun p=>[(0,.d (.sl (Its a0))),(1,.d (.sl (Its a1))),(2,.d (a2.dv)),(6,.d (.i .i64 p.2.1)),(11,.d (.sl (Its a0))),(12,.d (.i .i64 ((List.length a0:Nat):Int))),(13,.d (.i .i64 p.2.2))]) (h:=fun p=>[]) (I:=fun p=>As a0 a1 a2 K0 p.1 p.2.1 p.2.2=some r) ?_ (Az,0,0) h
  rintro ⟨k,s2,s3⟩ h ih
  dsimp only at h ih ⊢
  rcases k with _|k
  ·rw [As] at h;cases h
  rw [As] at h
  refine .sr ?_;refine vb ?_;refine rk [0,1,2,6,11,12,13,14] ?_;refine .seq ?_
  rcases brc h with ⟨hc,h⟩|⟨hc,h⟩
  ·refine cnt (dT hc) ?_
   refine .sk ?_;refine .seq ?_;refine .block ?_;refine .sr ?_;refine va ?_
   obtain ⟨x4,g4,h⟩:=bnd h
   obtain ⟨n4,p04,q4⟩:=Af g4
   refine vk (vix n4 p04 (BY q4) rfl BX) ?_;refine vk (Aq AX Au) ?_;refine vk (van (Al Co) Cm) ?_;refine asd ?_
   refine stn ?_ Au (by decide)
   refine rk [0,1,2,6,7,8,11,12,13] ?_;refine .seq ?_;refine .sr ?_;refine va ?_;refine va ?_;refine vk (AR (Ap _) (Bv _) Br) ?_;refine vb ?_;refine rk [0,1,2,6,7,8,11,12,13,21] ?_
   rcases brc h with ⟨hc,h⟩|⟨hc,h⟩
   ·refine cnt (dT hc) ?_
    refine .sr ?_;refine ar [0,1,2,6,7,8,11,12,13] ?_;refine .ret ?_
    cases h
    exact ⟨rfl,rfl⟩
   refine cnf (dF hc) ?_;refine .sk ?_;refine .sr ?_;refine va ?_;refine va ?_
   obtain ⟨x5,g5,h⟩:=bnd h
   obtain ⟨n5,p05,q5⟩:=Af g5
   refine vk (vix n5 p05 (BY q5) rfl BX) ?_;refine vk (Aq AX Au) ?_;refine vk (van (Al Co) Cm) ?_
   refine stn ?_ Au (by decide)
   refine rk [0,1,2,6,8,9,11,12,13] ?_;refine .sr ?_;refine va ?_;refine vk (Ey AX Au) ?_;refine vk (Ey AX Au) ?_
   obtain ⟨x6,g6,h⟩:=bnd h
   refine vk (L7 (oa2 _ _ g6)) ?_;refine ar [0,1,2,6,10,11,12,13] ?_;refine .sr ?_;refine va ?_;refine vb ?_;refine rk [0,1,2,6,10,11,12,13,31] ?_
   rcases brc h with ⟨hc,h⟩|⟨hc,h⟩
   ·refine cnf (ntf (dT hc)) ?_
    refine .sk ?_;refine .region ?_;refine vb ?_;refine va ?_;refine .nil ?_;refine AL.gk [0,1,2,6,11,12,13] ?_
    exact ih (k,s2,(w64 (s3+1))) h (Nat.lt_succ_self _)
   refine cnt (ntt (dF hc)) ?_;refine .sr ?_;refine va ?_;refine ar [0,1,2,6,11,12,13] ?_;refine .ret ?_
   cases h
   exact ⟨rfl,rfl⟩
  refine cnf (dF hc) ?_;refine .gk [0,1,6] ?_;refine .exit ?_
  exact jr (s2) h
 rintro z1 h
 try dsimp only at h ⊢
 subst hK0
 refine aw ?_;refine .seq ?_;refine .sr ?_;refine va ?_;refine vk (AR (Ap _) (Bv _) Br) ?_;refine va ?_;refine vk (AR (Ap _) (Bv _) Br) ?_;refine vb ?_;refine rk [6,38] ?_
 rcases brc h with ⟨hc,h⟩|⟨hc,h⟩
 ·refine cnt (dT hc) ?_
  refine .sr ?_;refine ar [6] ?_;refine .ret ?_
  cases h
  exact ⟨rfl,rfl⟩
 refine cnf (dF hc) ?_;refine .sk ?_;refine .sr ?_;refine ar [6] ?_;refine .ret ?_
 cases h
 exact ⟨rfl,rfl⟩
def Jr (rc_pick_order:Itm→Itm→Option (Int)) (a0:Itm) (a1:Itm) : Option (Int):=(if a0.kind=a1.kind then (if a0.kind=1 then ((IJ a0.num a1.num).bind fun x1=>(some (x1))) else (if a0.kind=2 then ((Fd a0.char a1.char).bind fun x2=>(some (x2))) else ((rd? a0.box 0).bind fun x3=>((rd? a1.box 0).bind fun x4=>((Es ((List.length x3.shape:Nat) : Int) ((List.length x4.shape:Nat) : Int)).bind fun x5=>((Dw x3.shape x4.shape).bind fun x6=>((AU x3.items x4.items (⟨.fn 83 [] [],fun x=>rc_pick_order x.1 x.2⟩ : DF)).bind fun x7=>((JH ([x5,x6,x7])).bind fun x8=>(some (x8)))))))))) else ((C2 a0.kind a1.kind).bind fun x9=>(some (x9))))
theorem Py {rc_pick_order:Itm→Itm→Option (Int)} (orc_pick_order:∀ x0 x1 r,rc_pick_order x0 x1=some r→Fn Tryz.prog 83 [.ag [.i .u8 x0.kind,.b x0.num.1,.sl (L x0.num.2.1),.sl (L x0.num.2.2),.i .i32 x0.char,.sl (Ars x0.box)],.ag [.i .u8 x1.kind,.b x1.num.1,.sl (L x1.num.2.1),.sl (L x1.num.2.2),.i .i32 x1.char,.sl (Ars x1.box)]] (.d (.i .i64 r))) {a0:Itm} {a1:Itm} {r:Int} (h:Jr rc_pick_order a0 a1=some r) :
  Fn Tryz.prog 83 [.ag [.i .u8 a0.kind,.b a0.num.1,.sl (L a0.num.2.1),.sl (L a0.num.2.2),.i .i32 a0.char,.sl (Ars a0.box)],.ag [.i .u8 a1.kind,.b a1.num.1,.sl (L a1.num.2.1),.sl (L a1.num.2.2),.i .i32 a1.char,.sl (Ars a1.box)]] (.d (.i .i64 r)):=by
 unfold Jr at h
 refine Fn.o1 4 60 Tryz.func83 ?_;refine .sr ?_;refine vk vbx ?_;refine vk vbx ?_;refine ar [2,3,4] ?_;refine .seq ?_;refine .sr ?_;refine vk (vfa BF) ?_;refine vk (Ah A1) ?_;refine vk (vfa BF) ?_;refine vk (Ah A1) ?_;refine vb ?_;refine rk [2,3,4,11] ?_
 rcases brc h with ⟨hc,h⟩|⟨hc,h⟩
 ·refine cnf (ntf (dT hc)) ?_
  refine .sk ?_;refine .seq ?_;refine .sr ?_;refine vk (vfa BF) ?_;refine vk (Ah A1) ?_;refine rk [2,3,4,18] ?_;refine .block ?_;refine .sr ?_;refine vb ?_;refine ar [2,3,4,18,19] ?_
  rcases brc h with ⟨hc,h⟩|⟨hc,h⟩
  ·refine cnt (dT hc) ?_
   refine .sr ?_;refine vk (vfa Bn) ?_;refine vk (Aq A7 AF) ?_;refine vk (vfa Bn) ?_;refine vk (Aq A7 AF) ?_
   obtain ⟨x1,g1,h⟩:=bnd h
   refine vk (Ak (Nr g1) Tryz.call141) ?_;refine ar [2,3,4] ?_;refine .ret ?_
   cases h
   exact ⟨rfl,rfl⟩
  refine cnf (dF hc) ?_;refine .sr ?_;refine vb ?_;refine ar [2,3,4,26] ?_
  rcases brc h with ⟨hc,h⟩|⟨hc,h⟩
  ·refine cnt (dT hc) ?_
   refine .sr ?_;refine vk (vfa CJ) ?_;refine vk (Ah CI) ?_;refine vk (vfa CJ) ?_;refine vk (Ah CI) ?_
   obtain ⟨x2,g2,h⟩:=bnd h
   refine vk (Ak (Jx g2) Tryz.call142) ?_;refine ar [2,3,4] ?_;refine .ret ?_
   cases h
   exact ⟨rfl,rfl⟩
  refine cnf (dF hc) ?_;refine .sk ?_;refine .seq ?_
  obtain ⟨x3,g3,h⟩:=bnd h
  obtain ⟨x4,g4,h⟩:=bnd h
  refine .drawnF 10 [4,5,6,7] [(5,.nb [.sl (Is x3.shape),.sl (Its x3.items)])] [] A2 (by kernel_rfl) rfl ?_;refine dv (vfa A5) ?_;refine dv (Ah BJ) ?_
  obtain ⟨n3,p03,q3⟩:=Af g3
  refine dv (vix n3 p03 (Dl q3) rfl Dj) ?_;refine dv (Aq Ai Ab) ?_;refine dv (vfa A5) ?_;refine dv (Ah BJ) ?_
  obtain ⟨n4,p04,q4⟩:=Af g4
  refine dv (vix n4 p04 (Dl q4) rfl Dj) ?_;refine dv (Aq Ai Ab) ?_;refine dv (van (Al AY) A4) ?_;refine dv (van (Al AY) A4) ?_;refine dz ?_
  refine ⟨?_,?_,?_⟩
  ·intro k hk
   simp only [List.mem_cons,List.not_mem_nil,or_false] at hk
   rcases hk with rfl|rfl|rfl|rfl
   ·exact ⟨_,_,_,rfl,rfl,rfl,rfl,rfl,rfl,(vfa A5)⟩
   ·exact ⟨_,_,_,rfl,rfl,rfl,rfl,rfl,rfl,(Ah BJ)⟩
   ·exact ⟨_,_,_,rfl,rfl,rfl,rfl,rfl,rfl,(vix n4 p04 (Dl q4) rfl Dj)⟩
   ·exact ⟨_,_,_,rfl,rfl,rfl,rfl,rfl,rfl,(Aq Ai Ab)⟩
  ·intro om e hom hge
   cases hom
   exact HK (cs:=[.sl (Is []),.sl (Its [])]) (cs':=[.sl (Is x3.shape),.sl (Its x3.items)]) Ab (by decide) rfl ((hge 5 (fun k hk v hv=>by
     simp only [List.mem_cons,List.not_mem_nil,or_false] at hk
     rcases hk with rfl|rfl|rfl|rfl
     ·exact (by decide:¬(some 37=some 5)) (congrArg (Option.map Prod.fst) hv)
     ·exact (by decide:¬(some 38=some 5)) (congrArg (Option.map Prod.fst) hv)
     ·exact (by decide:¬(some 39=some 5)) (congrArg (Option.map Prod.fst) hv)
     ·exact (by decide:¬(some 40=some 5)) (congrArg (Option.map Prod.fst) hv))).trans rfl) ((congrArg Bl (hge 36 (fun k hk v hv=>by
     simp only [List.mem_cons,List.not_mem_nil,or_false] at hk
     rcases hk with rfl|rfl|rfl|rfl
     ·exact (by decide:¬(some 37=some 36)) (congrArg (Option.map Prod.fst) hv)
     ·exact (by decide:¬(some 38=some 36)) (congrArg (Option.map Prod.fst) hv)
     ·exact (by decide:¬(some 39=some 36)) (congrArg (Option.map Prod.fst) hv)
     ·exact (by decide:¬(some 40=some 36)) (congrArg (Option.map Prod.fst) hv)))).trans rfl) rfl rfl rfl rfl ⟨rfl,rfl⟩
  refine stn ?_ Ab (by decide)
  refine rk [4,5,6] ?_;refine .seq ?_;refine .gh (Gh.nbp (t:=5) rfl) ?_;refine .gh (Gh.nbp (t:=6) rfl) ?_;refine .drawn 19 A2 (by kernel_rfl) ?_;refine dv (vfa A3) ?_;refine dv (Ah Cg) ?_;refine dv (AR (Ag _) (Cp _) Cf) ?_;refine dv (vfa A3) ?_;refine dv (Ah Cg) ?_;refine dv (AR (Ag _) (Cp _) Cf) ?_
  obtain ⟨x5,g5,h⟩:=bnd h
  refine dv (Ak (Gz g5) Tryz.call144) ?_;refine dv (vfa A3) ?_;refine dv (Ah Cg) ?_;refine dv (vfa A3) ?_;refine dv (Ah Cg) ?_
  obtain ⟨x6,g6,h⟩:=bnd h
  refine dv (Ak (GG g6) Tryz.call145) ?_;refine dv (vfa AM) ?_;refine dv (Ah Bo) ?_;refine dv (vfa AM) ?_;refine dv (Ah Bo) ?_
  obtain ⟨x7,g7,h⟩:=bnd h
  refine dv (Ak (Cd (Kn Tryz.call83 (fun _ _ h=>orc_pick_order _ _ _ h)) g7) Tryz.call146) ?_;refine dv ((EO (DP [x5,x6,x7]) DQ).deep) ?_
  obtain ⟨x8,g8,h⟩:=bnd h
  refine dv (Ak (NP g8) Tryz.call143) ?_;refine dz ?_;refine ar [4] ?_;refine .ret ?_
  cases h
  exact ⟨rfl,rfl⟩
 refine cnt (ntt (dF hc)) ?_;refine .sr ?_;refine vk (vfa BF) ?_;refine vk (Ah A1) ?_;refine vk (vfa BF) ?_;refine vk (Ah A1) ?_
 obtain ⟨x9,g9,h⟩:=bnd h
 refine vk (Ak (FU g9) Tryz.call140) ?_;refine ar [2,3,4] ?_;refine .ret ?_
 cases h
 exact ⟨rfl,rfl⟩
def HI : Nat→Itm→Itm→Option (Int)
 | 0,_,_=>none
 | k+1,a0,a1=>Jr (HI k) a0 a1
theorem JA : ∀ (k:Nat) (a0:Itm) (a1:Itm) (r:Int),HI k a0 a1=some r→Fn Tryz.prog 83 [.ag [.i .u8 a0.kind,.b a0.num.1,.sl (L a0.num.2.1),.sl (L a0.num.2.2),.i .i32 a0.char,.sl (Ars a0.box)],.ag [.i .u8 a1.kind,.b a1.num.1,.sl (L a1.num.2.1),.sl (L a1.num.2.2),.i .i32 a1.char,.sl (Ars a1.box)]] (.d (.i .i64 r))
 | 0,_,_,_,h=>by cases h
 | k+1,a0,a1,_,h=>Py (JA k)  (show Jr (HI k) a0 a1=some _ from h)
def Qi (a0:Itm) (a1:Itm) : Option (Int):=HI (a0.size+1) a0 a1
theorem Qt {a0:Itm} {a1:Itm} {r:Int} (h:Qi a0 a1=some r) : Fn Tryz.prog 83 [.ag [.i .u8 a0.kind,.b a0.num.1,.sl (L a0.num.2.1),.sl (L a0.num.2.2),.i .i32 a0.char,.sl (Ars a0.box)],.ag [.i .u8 a1.kind,.b a1.num.1,.sl (L a1.num.2.1),.sl (L a1.num.2.2),.i .i32 a1.char,.sl (Ars a1.box)]] (.d (.i .i64 r)):=JA _ a0 a1 r  h
def Iz (a0:Int) : Option (Itm):=((D5 a0).bind fun x1=>(some ((Itm.mk 1 x1 0 []))))
theorem MO {a0:Int} {r:Itm} (h:Iz a0=some r) :
  Fn Tryz.prog 101 [.i .i64 a0] (.d (.ag [.i .u8 r.kind,.b r.num.1,.sl (L r.num.2.1),.sl (L r.num.2.2),.i .i32 r.char,.sl (Ars r.box)])):=by
 unfold Iz at h
 refine Fn.ofC (rs:=[.cell 2 51]) (nt:=6) Tryz.func101 rfl rfl rfl (by simp) rfl ?_;refine .sr ?_;refine vk (van (Al Co) Cm) ?_;refine rk [0,2] ?_;refine .sr ?_;refine va ?_
 obtain ⟨x1,g1,h⟩:=bnd h
 refine vk (Ak (EN g1) Tryz.call37) ?_;refine vk (vbd JZ Co Cm) ?_
 refine stn ?_ Au (by decide)
 refine rk [2] ?_;refine .ret ?_
 cases h
 exact ⟨_,⟨.inr rfl,AX,Au,p6⟩,rfl⟩
def HX (a0:Int) (a1:Int) (c0:Int) (c1:(List Itm)) (c2:(Int×RT×Int)) : Option (Int):=((rd? c1 (w64 (a0-c2.1))).bind fun x1=>((rd? c1 (w64 (a1-c2.1))).bind fun x2=>((Qi x1 x2).bind fun x3=>(some ((w64 (c0 * x3)))))))
theorem L1 {a0:Int} {a1:Int} {c0:Int} {c1:(List Itm)} {c2:(Int×RT×Int)} {r:Int} (h:HX a0 a1 c0 c1 c2=some r) :
  Fn Tryz.prog 128 [.i .i64 a0,.i .i64 a1,.ptr [.i .i64 c0],.ptr [.sl (Its c1)],.ptr [.i .i64 c2.1,.b c2.2.1.1,.sl (L c2.2.1.2.1),.sl (L c2.2.1.2.2),.i .i64 c2.2.2]] (.d (.i .i64 r)):=by
 unfold HX at h
 refine Fn.o1 7 25 Tryz.func128 ?_;refine .sr ?_;refine ar [0,1,2,3,4,7] ?_;refine .seq ?_;refine .drawn 17 A2 (by kernel_rfl) ?_;refine dv (Ah AI) ?_;refine dv (Ah Bo) ?_;refine dv Ad ?_;refine dv (vfa GI) ?_;refine dv (Ah AI) ?_;refine dv vbi ?_
 obtain ⟨x1,g1,h⟩:=bnd h
 obtain ⟨n1,p01,q1⟩:=Af g1
 refine dv (vix n1 p01 (BY q1) rfl BX) ?_;refine dv (Aq AX Au) ?_;refine dv (Ah Bo) ?_;refine dv Ad ?_;refine dv (vfa GI) ?_;refine dv (Ah AI) ?_;refine dv vbi ?_
 obtain ⟨x2,g2,h⟩:=bnd h
 obtain ⟨n2,p02,q2⟩:=Af g2
 refine dv (vix n2 p02 (BY q2) rfl BX) ?_;refine dv (Aq AX Au) ?_
 obtain ⟨x3,g3,h⟩:=bnd h
 refine dv (Ak (Qt g3) Tryz.call83) ?_;refine dv vbi ?_;refine dz ?_;refine ar [7] ?_;refine .ret ?_
 cases h
 exact ⟨rfl,rfl⟩
def Eh (a0:(Int×RT×Int)) (a1:(List Itm)) (K0:(List Int)→Option (Arr)) : Nat→(List Int)→Int→Option (Arr)
 | 0,_,_=>none
 | k+1,s3,s4=>(if s4<((List.length (List.replicate (Int.toNat ((List.length a1:Nat):Int)) (0:Int)):Nat):Int) then ((rd? s3 s4).bind fun x5=>(Eh a0 a1 K0 k (List.set s3 (Int.toNat s4) (w64 (s4+a0.1))) (w64 (s4+1)))) else (K0 s3))
def JN (a0:(Int×RT×Int)) (a1:(List Itm)) (a2:Int) : Option (Arr):=((Gs (0≤((List.length a1:Nat) : Int)∧((List.length a1:Nat) : Int)≤17592186044416)).bind fun x1=>(jn (fun (z2:(List Int))=>((PK z2 (⟨.fn 128 [] [.ptr [.i .i64 a2],.ptr [.sl (Its a1)],.ptr [.i .i64 a0.1,.b a0.2.1.1,.sl (L a0.2.1.2.1),.sl (L a0.2.1.2.2),.i .i64 a0.2.2]],fun x=>HX x.1 x.2 a2 a1 a0⟩ : An)).bind fun x6=>((La x6).bind fun x7=>(some (x7))))) fun K0=>(Eh a0 a1 K0 Az (List.replicate (Int.toNat ((List.length a1:Nat) : Int)) (0:Int)) 0)))
theorem NJ {a0:(Int×RT×Int)} {a1:(List Itm)} {a2:Int} {r:Arr} (h:JN a0 a1 a2=some r) :
  Fn Tryz.prog 70 [.ag [.i .i64 a0.1,.b a0.2.1.1,.sl (L a0.2.1.2.1),.sl (L a0.2.1.2.2),.i .i64 a0.2.2],.sl (Its a1),.i .i64 a2] (.d (.ag [.sl (Is r.shape),.sl (Its r.items)])):=by
 unfold JN at h
 refine Fn.ofC (rs:=[.cell 6 27]) (nt:=30) Tryz.func70 rfl rfl rfl (by simp) rfl ?_;refine .sr ?_;refine vk vbx ?_;refine vk Yf ?_;refine vk Yf ?_;refine vk (van (Al AY) A4) ?_;refine rk [3,4,5,6] ?_;refine .sr ?_;refine vk (Ah Bo) ?_;refine vk (AR (Ap _) (Bv _) Br) ?_
 obtain ⟨x1,g1,h⟩:=bnd h
 have ghx1:=G5 g1
 refine mk' (F:=Is) (x0:=0) (zl:=((List.length a1:Nat):Int)) (Int.toNat ((List.length a1:Nat):Int)) Yk (by omega) (by omega) ?_ DQ (by decide)
 refine aso ?_;refine rk [3,4,5,6,7] ?_;refine .seq ?_;refine .sr ?_;refine mvo ?_;refine vk (S0 (Ag _) Cf) ?_;refine va ?_;refine rk [3,4,5,6,7,13,14] ?_
 obtain ⟨K0,hK0,h⟩:=AA h
 refine AW.mr (σ:=(List Int)) (fun p=>K0 p=some r) (fun p=>[(3,.d (.ptr [.i .i64 a0.1,.b a0.2.1.1,.sl (L a0.2.1.2.1),.sl (L a0.2.1.2.2),.i .i64 a0.2.2])),(4,.d (.ptr [.sl (Its a1)])),(5,.d (.ptr [.i .i64 a2])),(6,.nb [.sl (Is []),.sl (Its [])]),(7,.own 3 (Is p))]) (fun p=>[]) ?_ ?_
 ·skip
  refine .block ?_
  refine .loop (.gk [3,4,5,6,7,13,14] ?_)
  refine AL.ind (σ:=Nat×(List Int)×Int) (m:=fun p=>p.1) (e:=fun p=>[(3,.d (.ptr [.i .i64 a0.1,.b a0.2.1.1,.sl (L a0.2.1.2.1),.sl (L a0.2.1.2.2),.i .i64 a0.2.2])),(4,.d (.ptr [.sl (Its a1)])),(5,.d (.ptr [.i .i64 a2])),(6,.nb [.sl (Is []),.sl (Its [])]),(7,.own 3 (Is p.2.1)),(13,.d (.i .i64 ((List.length (List.replicate (Int.toNat ((List.length a1:Nat):Int)) (0:Int)):Nat):Int))),(14,.d (.i .i64 p.2.2))]) (h:=fun p=>[]) (I:=fun p=>Eh a0 a1 K0 p.1 p.2.1 p.2.2=some r) ?_ (Az,(List.replicate (Int.toNat ((List.length a1:Nat):Int)) (0:Int)),0) h
  rintro ⟨k,s3,s4⟩ h ih
  dsimp only at h ih ⊢
  rcases k with _|k
  ·rw [Eh] at h;cases h
  rw [Eh] at h
  refine .sr ?_;refine vb ?_;refine rk [3,4,5,6,7,13,14,15] ?_;refine .seq ?_
  rcases brc h with ⟨hc,h⟩|⟨hc,h⟩
  ·refine cnt (dT hc) ?_
   refine .sk ?_;refine .seq ?_;refine .block ?_;refine .sr ?_;refine va ?_;refine ar [3,4,5,6,7,8,13,14] ?_;refine .region ?_;refine mvo ?_;refine va ?_;refine va ?_;refine vk (vfa GI) ?_;refine vk (Ah AI) ?_;refine vb ?_
   obtain ⟨x5,g5,h⟩:=bnd h
   obtain ⟨n5,p05,q5⟩:=Af g5
   refine ixr (off:=0) (len:=(Is s3).length) n5 p05 (by rw [Ag];exact (lS.1 q5).1) ?_ Bj (by decide)
   refine VP (F:=Is) (D:=fun x=>.i .i64 x) HQ (us:=s3) (n:=n5) (m:=Int.toNat s4) (x:=(w64 (s4+a0.1))) (by rw [p05];rfl) ⟨_,by rw [Nat.zero_add];exact Bp q5,rfl⟩ ?_ Di
   refine RL.gk [3,4,5,6,7,8,13,14,17,18,19,20,21,22] ?_;refine .nil ?_;refine aw ?_;refine .gk [3,4,5,6,7,13,14] ?_;refine .region ?_;refine vb ?_;refine va ?_;refine .nil ?_;refine AL.gk [3,4,5,6,7,13,14] ?_
   exact ih (k,(List.set s3 (Int.toNat s4) (w64 (s4+a0.1))),(w64 (s4+1))) h (Nat.lt_succ_self _)
  refine cnf (dF hc) ?_;refine .gk [3,4,5,6,7] ?_;refine .exit ?_
  exact jr (s3) h
 rintro z2 h
 try dsimp only at h ⊢
 subst hK0
 refine aw ?_;refine .sr ?_;refine mvo ?_;refine vk YS ?_
 obtain ⟨x6,g6,h⟩:=bnd h
 refine L2 (Is x6) ?_ (Rp (Kn Tryz.call128 (fun _ _ h=>L1 h)) g6) Tryz.call127
 refine RL.gk [3,4,5,6,7,26,27] ?_;refine rk [6,7] ?_;refine .sr ?_;refine fz (p:=.t 7) ?_;refine va ?_
 obtain ⟨x7,g7,h⟩:=bnd h
 refine vk (Ak (Hc g7) Tryz.call15) ?_
 refine stn ?_ Ab (by decide)
 refine rk [6] ?_;refine .ret ?_
 cases h
 exact ⟨_,⟨.inr rfl,Ai,Ab,p2⟩,rfl⟩
def Du (a0:Arr) : Option (Bool):=((Bs a0).bind fun x1=>(some ((!x1))))
theorem Io {a0:Arr} {r:Bool} (h:Du a0=some r) :
  Fn Tryz.prog 96 [.ag [.sl (Is a0.shape),.sl (Its a0.items)]] (.d (.b r)):=by
 unfold Du at h
 refine Fn.o1 2 6 Tryz.func96 ?_;refine .sr ?_;refine vk vbx ?_;refine ar [1,2] ?_;refine .sr ?_;refine vk (Aq Ai Ab) ?_
 obtain ⟨x1,g1,h⟩:=bnd h
 refine vk (Ak (CD g1) Tryz.call54) ?_;refine vk vnt ?_;refine ar [2] ?_;refine .ret ?_
 cases h
 exact ⟨rfl,rfl⟩
def C7 (a0:(Int×RT×Int)) (a1:(List Arr)) : Option (Bool):=(Option.bind ((if a0.1=0 then ((AD a1 (⟨.fn 96 [] [],fun x=>Du x⟩ : BT)).bind fun x2=>(some (!x2))) else (if a0.1=1 then ((AD a1 (⟨.fn 96 [] [],fun x=>Du x⟩ : BT)).bind fun x3=>(some (!x3))) else (some false))) : Option (Bool)) fun (z1:Bool)=>(some (z1)))
theorem Fu {a0:(Int×RT×Int)} {a1:(List Arr)} {r:Bool} (h:C7 a0 a1=some r) :
  Fn Tryz.prog 39 [.ag [.i .i64 a0.1,.b a0.2.1.1,.sl (L a0.2.1.2.1),.sl (L a0.2.1.2.2),.i .i64 a0.2.2],.sl (Ars a1)] (.d (.b r)):=by
 unfold C7 at h
 refine Fn.o1 4 18 Tryz.func39 ?_;refine .sr ?_;refine vk vbx ?_;refine ar [1,2,4] ?_;refine .seq ?_
 obtain ⟨z1,hz,h⟩:=bnd h
 refine AW.mr (σ:=Unit) (fun _=>True) (fun _=>[(4,.d (.b z1))]) (fun _=>[]) ?_ ?_
 ·skip
  refine .region ?_;refine vk (vfa GI) ?_;refine vk (Ah AI) ?_;refine vb ?_
  rcases brc hz with ⟨hc,hz⟩|⟨hc,hz⟩
  ·have hb0:(decide (a0.1=0))=true:=(dT hc)
   refine vL hb0 ?_;refine gf3 ?_;refine vk Aj ?_;refine va ?_;refine va ?_
   obtain ⟨x2,g2,hz⟩:=bnd hz
   refine vk (Ak (BV (Kn Tryz.call96 (fun _ _ h=>Io h)) g2) Tryz.call95) ?_;refine vk vnt ?_;refine vk Aj ?_;refine asd ?_;refine RL.gk [4] ?_;refine .nil ?_
   cases hz
   exact jr () trivial
  have hb0:(decide (a0.1=0))=false:=(dF hc)
  refine vL hb0 ?_;refine vk (vfa GI) ?_;refine vk (Ah AI) ?_;refine vb ?_;refine vk Aj ?_
  rcases brc hz with ⟨hc,hz⟩|⟨hc,hz⟩
  ·have hb1:(decide (a0.1=1))=true:=(dT hc)
   refine vL hb1 ?_;refine va ?_
   obtain ⟨x3,g3,hz⟩:=bnd hz
   refine vk (Ak (BV (Kn Tryz.call96 (fun _ _ h=>Io h)) g3) Tryz.call95) ?_;refine vk vnt ?_;refine vk Aj ?_;refine asd ?_;refine RL.gk [4] ?_;refine .nil ?_
   cases hz
   exact jr () trivial
  have hb1:(decide (a0.1=1))=false:=(dF hc)
  refine vL hb1 ?_;refine gf3 ?_;refine vk Aj ?_;refine asd ?_;refine RL.gk [4] ?_;refine .nil ?_
  cases hz
  exact jr () trivial
 rintro _ _
 refine .ret ?_
 cases h
 exact ⟨rfl,rfl⟩
def E1 (a0:Itm) : Option (Bool):=(Option.bind ((if a0.kind=1 then ((Ge a0.num).bind fun x2=>(some (!x2))) else (some true)) : Option (Bool)) fun (z1:Bool)=>(some (z1)))
theorem Mc {a0:Itm} {r:Bool} (h:E1 a0=some r) :
  Fn Tryz.prog 182 [.ag [.i .u8 a0.kind,.b a0.num.1,.sl (L a0.num.2.1),.sl (L a0.num.2.2),.i .i32 a0.char,.sl (Ars a0.box)]] (.d (.b r)):=by
 unfold E1 at h
 refine Fn.o1 2 12 Tryz.func182 ?_;refine .sr ?_;refine vk vbx ?_;refine ar [1,2] ?_;refine .seq ?_
 obtain ⟨z1,hz,h⟩:=bnd h
 refine AW.mr (σ:=Unit) (fun _=>True) (fun _=>[(2,.d (.b z1))]) (fun _=>[]) ?_ ?_
 ·skip
  refine .region ?_;refine vk (vfa BF) ?_;refine vk (Ah A1) ?_;refine vb ?_
  rcases brc hz with ⟨hc,hz⟩|⟨hc,hz⟩
  ·have hb0:(!(decide (a0.kind=1)))=false:=(ntf (dT hc))
   refine vL hb0 ?_;refine vk (vfa Bn) ?_;refine vk (Aq A7 AF) ?_
   obtain ⟨x2,g2,hz⟩:=bnd hz
   refine vk (Ak (Ks g2) Tryz.call129) ?_;refine vk vnt ?_;refine vk Aj ?_;refine asd ?_;refine RL.gk [2] ?_;refine .nil ?_
   cases hz
   exact jr () trivial
  have hb0:(!(decide (a0.kind=1)))=true:=(ntt (dF hc))
  refine vL hb0 ?_;refine gf4 ?_;refine vk Aj ?_;refine asd ?_;refine RL.gk [2] ?_;refine .nil ?_
  cases hz
  exact jr () trivial
 rintro _ _
 refine .ret ?_
 cases h
 exact ⟨rfl,rfl⟩
def C6 (a0:(Int×RT×Int)) (a2:Int) (x1:(List Itm)) (K0:(List Int)→Int→(List Int)→Option ((List Int)×Int)) : Nat→(List Int)→Int→(List Int)→Int→Option ((List Int)×Int)
 | 0,_,_,_,_=>none
 | k+1,s6,s7,s8,s9=>(if s9<((List.length x1:Nat):Int) then ((rd? x1 s9).bind fun x10=>((GA x10.num).bind fun x11=>(if ((!x11.2)||((decide (x11.1<a0.1))||(decide (a2≤(w64 (x11.1-a0.1))))))=true then (some ([],6)) else ((ap? 17592186044416 s8 [(w64 (x11.1-a0.1))]).bind fun x12=>(C6 a0 a2 x1 K0 k s6 s7 x12 (w64 (s9+1))))))) else (K0 s6 s7 s8))
def Fa (a0:(Int×RT×Int)) (a1:Arr) (a2:Int) : Option ((List Int)×Int):=((Ch a1).bind fun x1=>((AH x1 (⟨.fn 182 [] [],fun x=>E1 x⟩ : B5)).bind fun x2=>(if x2=true then (some ([],3)) else (jn (fun (z3:(List Int)) (z4:Int) (z5:(List Int))=>(some (z5,0))) fun K0=>(C6 a0 a2 x1 K0 Az [] 0 [] 0)))))
theorem NU {a0:(Int×RT×Int)} {a1:Arr} {a2:Int} {r:(List Int)×Int} (h:Fa a0 a1 a2=some r) :
  Fn Tryz.prog 133 [.ag [.i .i64 a0.1,.b a0.2.1.1,.sl (L a0.2.1.2.1),.sl (L a0.2.1.2.2),.i .i64 a0.2.2],.ag [.sl (Is a1.shape),.sl (Its a1.items)],.i .i64 a2] (.tup [.d (.sl (Is r.1)),.d (.i .i64 r.2)]):=by
 unfold Fa at h
 refine Fn.of (rs:=[.tmp 6,.tmp 7]) (nt:=55) Tryz.func133 rfl rfl rfl (by simp) rfl ?_;refine .sr ?_;refine vk vbx ?_;refine vk vbx ?_;refine asn ?_;refine ar [2,3,4,6,7] ?_;refine .sr ?_;refine vk (Aq Ai Ab) ?_
 obtain ⟨x1,g1,h⟩:=bnd h
 refine vk (Ak (GD g1) Tryz.call46) ?_;refine ar [2,3,6,7,8] ?_;refine .seq ?_;refine .sr ?_;refine va ?_
 obtain ⟨x2,g2,h⟩:=bnd h
 refine vk (Ak (B2 (Kn Tryz.call182 (fun _ _ h=>Mc h)) g2) Tryz.call57) ?_;refine rk [2,3,6,7,8,17] ?_
 rcases brc h with ⟨hc,h⟩|⟨hc,h⟩
 ·refine cnt hc ?_
  refine .sr ?_;refine asn ?_;refine ar [2,3,6,7,8] ?_;refine .gh (Gh.nlD (t:=6) rfl) ?_;refine .ret ?_
  cases h
  exact ⟨by decide,rfl,rfl,rfl⟩
 refine cnf (bf hc) ?_;refine .sk ?_;refine .sr ?_;refine asn ?_;refine rk [2,3,6,7,8,9] ?_;refine .seq ?_;refine .sr ?_;refine va ?_;refine vk (AR (Ap _) (Bv _) Br) ?_;refine va ?_;refine rk [2,3,6,7,9,18,19,20] ?_
 obtain ⟨K0,hK0,h⟩:=AA h
 refine AW.mr (σ:=(List Int)×Int×(List Int)) (fun p=>K0 p.1 p.2.1 p.2.2=some r) (fun p=>[(6,.d (.sl (Is p.1))),(7,.d (.i .i64 p.2.1)),(9,.own 3 (Is p.2.2))]) (fun p=>[]) ?_ ?_
 ·skip
  refine .block ?_;refine .gh (Gh.nlD (t:=6) rfl) ?_;refine .gh (Gh.nlOwn (t:=9) 3 (by rw [Di];decide) rfl) ?_
  refine .loop (.gk [2,3,6,7,9,18,19,20] ?_)
  refine AL.ind (σ:=Nat×(List Int)×Int×(List Int)×Int) (m:=fun p=>p.1) (e:=fun p=>[(2,.d (.i .i64 a2)),(3,.d (.ptr [.i .i64 a0.1,.b a0.2.1.1,.sl (L a0.2.1.2.1),.sl (L a0.2.1.2.2),.i .i64 a0.2.2])),(6,.d (.sl (Is p.2.1))),(7,.d (.i .i64 p.2.2.1)),(9,.own 3 (Is p.2.2.2.1)),(18,.d (.sl (Its x1))),(19,.d (.i .i64 ((List.length x1:Nat):Int))),(20,.d (.i .i64 p.2.2.2.2))]) (h:=fun p=>[]) (I:=fun p=>C6 a0 a2 x1 K0 p.1 p.2.1 p.2.2.1 p.2.2.2.1 p.2.2.2.2=some r) ?_ (Az,[],0,[],0) h
  rintro ⟨k,s6,s7,s8,s9⟩ h ih
  dsimp only at h ih ⊢
  rcases k with _|k
  ·rw [C6] at h;cases h
  rw [C6] at h
  refine .sr ?_;refine vb ?_;refine rk [2,3,6,7,9,18,19,20,21] ?_;refine .seq ?_
  rcases brc h with ⟨hc,h⟩|⟨hc,h⟩
  ·refine cnt (dT hc) ?_
   refine .sk ?_;refine .seq ?_;refine .block ?_;refine .sr ?_
   obtain ⟨x10,g10,h⟩:=bnd h
   obtain ⟨n10,p010,q10⟩:=Af g10
   refine vk (vix n10 p010 (BY q10) rfl BX) ?_;refine vk (Aq AX Au) ?_;refine vk (van (Al Co) Cm) ?_
   refine stn ?_ Au (by decide)
   refine rk [2,3,6,7,9,11,18,19,20] ?_;refine .seq ?_;refine .gh (Gh.nbp (t:=11) rfl) ?_;refine .region ?_;refine vk (vfa Bn) ?_;refine vk (Aq A7 AF) ?_
   obtain ⟨x11,g11,h⟩:=bnd h
   refine vk (VOK.tupd (vs:=[.i .i64 x11.1,.b x11.2]) (Ak (QZ g11) Tryz.call79)) ?_;refine va ?_;refine vk vex ?_;refine vk vex ?_;refine asd ?_;refine ar [2,3,6,7,9,12,13,18,19,20] ?_;refine .seq ?_;refine .seq ?_;refine AW.mr (σ:=Unit) (fun _=>True) (fun _=>[(2,.d (.i .i64 a2)),(3,.d (.ptr [.i .i64 a0.1,.b a0.2.1.1,.sl (L a0.2.1.2.1),.sl (L a0.2.1.2.2),.i .i64 a0.2.2])),(6,.d (.sl (Is s6))),(7,.d (.i .i64 s7)),(9,.own 3 (Is s8)),(12,.d (.i .i64 x11.1)),(18,.d (.sl (Its x1))),(19,.d (.i .i64 ((List.length x1:Nat):Int))),(20,.d (.i .i64 s9)),(45,.d (.b ((!x11.2)||((decide (x11.1<a0.1))||(decide (a2≤(w64 (x11.1-a0.1))))))))]) (fun _=>[]) ?_ ?_
   ·skip
    refine .region ?_;refine va ?_;refine vk vnt ?_
    by_cases hc:x11.2=true
    ·have hb0:(!x11.2)=false:=(ntf hc)
     refine vL hb0 ?_;refine va ?_;refine vk (vfa GI) ?_;refine vk (Ah AI) ?_;refine vb ?_;refine vk Aj ?_
     by_cases hc:x11.1<a0.1
     ·have hb1:(decide (x11.1<a0.1))=true:=(dT hc)
      refine vL hb1 ?_;refine gf4 ?_;refine gf2 ?_;refine vk Aj ?_;refine RL.gk [2,3,6,7,9,12,18,19,20,45] ?_;refine .nil ?_
      exact jr () trivial (by simp only [hb0,hb1];rfl)
     have hb1:(decide (x11.1<a0.1))=false:=(dF hc)
     refine vL hb1 ?_;refine va ?_;refine vk (vfa GI) ?_;refine vk (Ah AI) ?_;refine vb ?_;refine va ?_;refine vb ?_;refine vk Aj ?_;refine RL.gk [2,3,6,7,9,12,18,19,20,45] ?_;refine .nil ?_
     exact jr () trivial (by simp only [hb0,hb1];rfl)
    have hb0:(!x11.2)=true:=(ntt (bf hc))
    refine vL hb0 ?_;refine gf4 ?_;refine vk Aj ?_;refine va ?_;refine gf4 ?_;refine gf2 ?_;refine vk Aj ?_;refine RL.gk [2,3,6,7,9,12,18,19,20,45] ?_;refine .nil ?_
    exact jr () trivial (by simp only [hb0];rfl)
   rintro _ _
   rcases brc h with ⟨hc,h⟩|⟨hc,h⟩
   ·refine cnt hc ?_
    refine .sr ?_;refine asn ?_;refine ar [2,3,6,7,9,12,18,19,20] ?_;refine .gh (Gh.nlD (t:=6) rfl) ?_;refine .ret ?_
    cases h
    exact ⟨by decide,rfl,rfl,rfl⟩
   refine cnf (bf hc) ?_;refine .sk ?_;refine .region ?_;refine mvo ?_;refine va ?_;refine vk (vfa GI) ?_;refine vk (Ah AI) ?_;refine vb ?_;refine vk ((EO (DP [(w64 (x11.1-a0.1))]) DQ).deep) ?_
   obtain ⟨x12,g12,h⟩:=bnd h
   refine LY IF g12 Ls ?_ HH Ag DQ
   refine aso ?_;refine .nil ?_;refine aw ?_;refine .gk [2,3,6,7,9,18,19,20] ?_;refine .region ?_;refine vb ?_;refine va ?_;refine .nil ?_;refine AL.gk [2,3,6,7,9,18,19,20] ?_
   exact ih (k,s6,s7,x12,(w64 (s9+1))) h (Nat.lt_succ_self _)
  refine cnf (dF hc) ?_;refine .gk [6,7,9] ?_;refine .exit ?_
  exact jr (s6,s7,s8) h
 rintro ⟨z3,z4,z5⟩ h
 try dsimp only at h ⊢
 subst hK0
 refine aw ?_;refine .sr ?_;refine fz (p:=.t 9) ?_;refine va ?_;refine asd ?_;refine ar [6,7] ?_;refine .ret ?_
 cases h
 exact ⟨by decide,rfl,rfl,rfl⟩
def EQ (a0:(List Arr)) : Option (Bool):=(Option.bind ((if 1<((List.length a0:Nat) : Int) then (some true) else (if ((List.length a0:Nat) : Int)=1 then ((rd? a0 0).bind fun x2=>((Bs x2).bind fun x3=>(some (!x3)))) else (some false))) : Option (Bool)) fun (z1:Bool)=>(some (z1)))
theorem L4 {a0:(List Arr)} {r:Bool} (h:EQ a0=some r) :
  Fn Tryz.prog 132 [.sl (Ars a0)] (.d (.b r)):=by
 unfold EQ at h
 refine Fn.o1 2 18 Tryz.func132 ?_;refine .sr ?_;refine ar [0,2] ?_;refine .seq ?_
 obtain ⟨z1,hz,h⟩:=bnd h
 refine AW.mr (σ:=Unit) (fun _=>True) (fun _=>[(2,.d (.b z1))]) (fun _=>[]) ?_ ?_
 ·skip
  refine .region ?_;refine va ?_;refine vk (AR (A6 _) (CW _) CY) ?_;refine vb ?_
  rcases brc hz with ⟨hc,hz⟩|⟨hc,hz⟩
  ·have hb0:(decide (1<((List.length a0:Nat):Int)))=true:=(dT hc)
   refine vL hb0 ?_;refine gf3 ?_;refine gfu ?_;refine gf4 ?_;refine gf2 ?_;refine vk Aj ?_;refine asd ?_;refine RL.gk [2] ?_;refine .nil ?_
   cases hz
   exact jr () trivial
  have hb0:(decide (1<((List.length a0:Nat):Int)))=false:=(dF hc)
  refine vL hb0 ?_;refine va ?_;refine vk (AR (A6 _) (CW _) CY) ?_;refine vb ?_
  rcases brc hz with ⟨hc,hz⟩|⟨hc,hz⟩
  ·have hb1:(decide (((List.length a0:Nat):Int)=1))=true:=(dT hc)
   refine vL hb1 ?_;refine va ?_
   obtain ⟨x2,g2,hz⟩:=bnd hz
   obtain ⟨n2,p02,q2⟩:=Af g2
   refine vk (vix n2 p02 (Dl q2) rfl Dj) ?_;refine vk (Aq Ai Ab) ?_
   obtain ⟨x3,g3,hz⟩:=bnd hz
   refine vk (Ak (CD g3) Tryz.call54) ?_;refine vk vnt ?_;refine vk Aj ?_;refine vk Aj ?_;refine asd ?_;refine RL.gk [2] ?_;refine .nil ?_
   cases hz
   exact jr () trivial
  have hb1:(decide (((List.length a0:Nat):Int)=1))=false:=(dF hc)
  refine vL hb1 ?_;refine gf4 ?_;refine gf ?_;refine vk Aj ?_;refine vk Aj ?_;refine asd ?_;refine RL.gk [2] ?_;refine .nil ?_
  cases hz
  exact jr () trivial
 rintro _ _
 refine .ret ?_
 cases h
 exact ⟨rfl,rfl⟩
def CZ (a0:(List (List Arr))) (a1:Cs) (K0:Int→Option (Int)) : Nat→Int→Int→Option (Int)
 | 0,_,_=>none
 | k+1,s2,s3=>(if s3<((List.length a0:Nat):Int) then ((rd? a0 s3).bind fun x4=>((a1.g x4).bind fun x5=>(if x5=true then (some (s3)) else (CZ a0 a1 K0 k s2 (w64 (s3+1)))))) else (K0 s2))
def HL (a0:(List (List Arr))) (a1:Cs) : Option (Int):=(jn (fun (z1:Int)=>(some ((-1)))) fun K0=>(CZ a0 a1 K0 Az 0 0))
theorem NT {a0:(List (List Arr))} {a1:Cs} (oa1:Kl a1) {r:Int} (h:HL a0 a1=some r) :
  Fn Tryz.prog 181 [.sl (Hp a0),a1.dv] (.d (.i .i64 r)):=by
 unfold HL at h
 refine Fn.o1 4 19 Tryz.func181 ?_;refine .sr ?_;refine ar [0,1,4] ?_;refine .seq ?_;refine .sr ?_;refine va ?_;refine vk (AR (Je _) (Pq _) Pz) ?_;refine va ?_;refine rk [0,1,4,7,8] ?_
 obtain ⟨K0,hK0,h⟩:=AA h
 refine AW.mr (σ:=Int) (fun p=>K0 p=some r) (fun p=>[(4,.d (.i .i64 p))]) (fun p=>[]) ?_ ?_
 ·skip
  refine .block ?_
  refine .loop (.gk [0,1,4,7,8] ?_)
  refine AL.ind (σ:=Nat×Int×Int) (m:=fun p=>p.1) (e:=fun p=>[(0,.d (.sl (Hp a0))),(1,.d (a1.dv)),(4,.d (.i .i64 p.2.1)),(7,.d (.i .i64 ((List.length a0:Nat):Int))),(8,.d (.i .i64 p.2.2))]) (h:=fun p=>[]) (I:=fun p=>CZ a0 a1 K0 p.1 p.2.1 p.2.2=some r) ?_ (Az,0,0) h
  rintro ⟨k,s2,s3⟩ h ih
  dsimp only at h ih ⊢
  rcases k with _|k
  ·rw [CZ] at h;cases h
  rw [CZ] at h
  refine .sr ?_;refine vb ?_;refine rk [0,1,4,7,8,9] ?_;refine .seq ?_
  rcases brc h with ⟨hc,h⟩|⟨hc,h⟩
  ·refine cnt (dT hc) ?_
   refine .sk ?_;refine .seq ?_;refine .block ?_;refine .sr ?_;refine va ?_;refine ar [0,1,4,5,7,8] ?_;refine .sr ?_;refine va ?_;refine va ?_;refine va ?_
   obtain ⟨x4,g4,h⟩:=bnd h
   obtain ⟨n4,p04,q4⟩:=Af g4
   refine vk (vix n4 p04 (SW q4) rfl SZ) ?_;refine vk (Ah BJ) ?_
   obtain ⟨x5,g5,h⟩:=bnd h
   refine vk (L7 (oa1 _ _ g5)) ?_;refine rk [0,1,4,5,7,8,16] ?_
   rcases brc h with ⟨hc,h⟩|⟨hc,h⟩
   ·refine cnt hc ?_
    refine .sr ?_;refine va ?_;refine ar [0,1,4,7,8] ?_;refine .ret ?_
    cases h
    exact ⟨rfl,rfl⟩
   refine cnf (bf hc) ?_;refine .sk ?_;refine .region ?_;refine vb ?_;refine va ?_;refine .nil ?_;refine AL.gk [0,1,4,7,8] ?_
   exact ih (k,s2,(w64 (s3+1))) h (Nat.lt_succ_self _)
  refine cnf (dF hc) ?_;refine .gk [4] ?_;refine .exit ?_
  exact jr (s2) h
 rintro z1 h
 try dsimp only at h ⊢
 subst hK0
 refine aw ?_;refine .sr ?_;refine ar [4] ?_;refine .ret ?_
 cases h
 exact ⟨rfl,rfl⟩
def En (a0:(List (List Arr))) (a1:Cs) : Option (Bool):=((HL a0 a1).bind fun x1=>(some ((decide (0≤x1)))))
theorem KN {a0:(List (List Arr))} {a1:Cs} (oa1:Kl a1) {r:Bool} (h:En a0 a1=some r) :
  Fn Tryz.prog 131 [.sl (Hp a0),a1.dv] (.d (.b r)):=by
 unfold En at h
 refine Fn.o1 4 9 Tryz.func131 ?_;refine .sr ?_;refine ar [0,1,4] ?_;refine .sr ?_;refine va ?_;refine va ?_
 obtain ⟨x1,g1,h⟩:=bnd h
 refine vk (Ak (NT oa1 g1) Tryz.call181) ?_;refine vb ?_;refine ar [4] ?_;refine .ret ?_
 cases h
 exact ⟨rfl,rfl⟩
def Ei (x14:Int) (K4:(List Int)→Option ((List Int)×(List Int)×Int)) : Nat→(List Int)→Int→Option ((List Int)×(List Int)×Int)
 | 0,_,_=>none
 | k+1,s17,s18=>(if s18<x14 then ((ap? 17592186044416 s17 [s18]).bind fun x19=>(Ei x14 K4 k x19 (w64 (s18+1)))) else (K4 s17))
def C4 (a0:(Int×RT×Int)) (a1:Arr) (a2:(List (List Arr))) (K0:(List Int)→(List Int)→Int→(List (List Int))→Option ((List Int)×(List Int)×Int)) : Nat→(List Int)→(List Int)→Int→(List (List Int))→Int→Option ((List Int)×(List Int)×Int)
 | 0,_,_,_,_,_=>none
 | k+1,s6,s7,s8,s9,s10=>(if s10<((List.length a2:Nat):Int) then (jn (fun (z11:(List Int)) (z12:(List (List Int)))=>(C4 a0 a1 a2 K0 k s6 z11 s8 z12 (w64 (s10+1)))) fun K2=>((rd? a2 s10).bind fun x13=>((rd? a1.shape s10).bind fun x14=>(jn (((rd? x13 0).bind fun x21=>((Fa a0 x21 x14).bind fun x22=>(if x22.2=0 then ((rd? x13 0).bind fun x23=>((ap? 17592186044416 s7 x23.shape).bind fun x24=>((ap? 5864062014805 s9 [x22.1]).bind fun x25=>(K2 x24 x25)))) else (some ([],[],x22.2)))))) fun K3=>(if ((List.length x13:Nat):Int)=0 then ((ap? 17592186044416 s7 [x14]).bind fun x15=>(jn (fun (z16:(List Int))=>((ap? 5864062014805 s9 [z16]).bind fun x20=>(K2 x15 x20))) fun K4=>(Ei x14 K4 Az [] 0))) else (K3)))))) else (K0 s6 s7 s8 s9))
def CC (a1:Arr) (x36:Int) (s29:Int) (x31:(List Int)) (K11:(List Int)→Option ((List Int)×(List Int)×Int)) : Nat→(List Int)→Int→Option ((List Int)×(List Int)×Int)
 | 0,_,_=>none
 | k+1,s37,s38=>(if s38<((List.length x31:Nat):Int) then ((rd? x31 s38).bind fun x39=>((rd? a1.shape s29).bind fun x40=>((ap? 17592186044416 s37 [(w64 ((w64 (x36 * x40))+x39))]).bind fun x41=>(CC a1 x36 s29 x31 K11 k x41 (w64 (s38+1)))))) else (K11 s37))
def BU (a1:Arr) (s28:(List Int)) (K9:(List Int)→Option ((List Int)×(List Int)×Int)) (s29:Int) (x31:(List Int)) : Nat→(List Int)→Int→Option ((List Int)×(List Int)×Int)
 | 0,_,_=>none
 | k+1,s33,s34=>(if s34<((List.length s28:Nat):Int) then (jn (fun (z35:(List Int))=>(BU a1 s28 K9 s29 x31 k z35 (w64 (s34+1)))) fun K11=>((rd? s28 s34).bind fun x36=>(CC a1 x36 s29 x31 K11 Az s33 0))) else (K9 s33))
def B7 (a1:Arr) (z5:(List (List Int))) (K6:(List Int)→Option ((List Int)×(List Int)×Int)) : Nat→(List Int)→Int→Option ((List Int)×(List Int)×Int)
 | 0,_,_=>none
 | k+1,s28,s29=>(if s29<((List.length z5:Nat):Int) then (jn (fun (z30:(List Int))=>(B7 a1 z5 K6 k z30 (w64 (s29+1)))) fun K8=>((rd? z5 s29).bind fun x31=>(jn (fun (z32:(List Int))=>(K8 z32)) fun K9=>(BU a1 s28 K9 s29 x31 Az [] 0)))) else (K6 s28))
def Eu (a0:(Int×RT×Int)) (a1:Arr) (a2:(List (List Arr))) : Option ((List Int)×(List Int)×Int):=((En a2 (⟨.fn 132 [] [],fun x=>EQ x⟩ : Cs)).bind fun x1=>(if x1=true then (some ([],[],22)) else (if ((List.length a2:Nat) : Int)=((List.length a1.shape:Nat) : Int) then (jn (fun (z2:(List Int)) (z3:(List Int)) (z4:Int) (z5:(List (List Int)))=>((CB z3).bind fun x26=>(if x26.2=0 then (if x26.1=0 then (some ([],z3,0)) else (jn (fun (z27:(List Int))=>(some (z27,z3,0))) fun K6=>(B7 a1 z5 K6 Az ([0]) 0))) else (some ([],[],x26.2))))) fun K0=>(C4 a0 a1 a2 K0 Az [] [] 0 [] 0)) else (some ([],[],4)))))
set_option maxHeartbeats 4000000 in
theorem JF {a0:(Int×RT×Int)} {a1:Arr} {a2:(List (List Arr))} {r:(List Int)×(List Int)×Int} (h:Eu a0 a1 a2=some r) :
  Fn Tryz.prog 72 [.ag [.i .i64 a0.1,.b a0.2.1.1,.sl (L a0.2.1.2.1),.sl (L a0.2.1.2.2),.i .i64 a0.2.2],.ag [.sl (Is a1.shape),.sl (Its a1.items)],.sl (Hp a2)] (.tup [.d (.sl (Is r.1)),.d (.sl (Is r.2.1)),.d (.i .i64 r.2.2)]):=by
 unfold Eu at h
 refine Fn.of (rs:=[.tmp 6,.tmp 7,.tmp 8]) (nt:=137) Tryz.func72 rfl rfl rfl (by simp) rfl ?_;refine .sr ?_;refine vk vbx ?_;refine vk vbx ?_;refine asn ?_;refine asn ?_;refine ar [2,3,4,6,7,8] ?_;refine .seq ?_;refine .sr ?_;refine va ?_
 obtain ⟨x1,g1,h⟩:=bnd h
 refine vk (Ak (KN (Kn Tryz.call132 (fun _ _ h=>L4 h)) g1) Tryz.call131) ?_;refine rk [2,3,4,6,7,8,26] ?_
 rcases brc h with ⟨hc,h⟩|⟨hc,h⟩
 ·refine cnt hc ?_
  refine .sr ?_;refine asn ?_;refine asn ?_;refine ar [2,3,4,6,7,8] ?_;refine .gh (Gh.nlD (t:=6) rfl) ?_;refine .gh (Gh.nlD (t:=7) rfl) ?_;refine .ret ?_
  cases h
  exact ⟨⟨by decide,by decide,by decide⟩,rfl,rfl,rfl,rfl⟩
 refine cnf (bf hc) ?_;refine .sk ?_;refine .seq ?_;refine .sr ?_;refine va ?_;refine vk (AR (Je _) (Pq _) Pz) ?_;refine vk (vfa A3) ?_;refine vk (Ah Cg) ?_;refine vk (AR (Ag _) (Cp _) Cf) ?_;refine vb ?_;refine rk [2,3,4,6,7,8,32] ?_
 rcases brc h with ⟨hc,h⟩|⟨hc,h⟩
 ·refine cnf (ntf (dT hc)) ?_
  refine .sk ?_;refine .sr ?_;refine asn ?_;refine rk [2,3,4,6,7,8,9] ?_;refine .seq ?_;refine .sr ?_;refine va ?_;refine vk (AR (Je _) (Pq _) Pz) ?_;refine va ?_;refine rk [3,4,6,7,8,9,33,34,35] ?_
  obtain ⟨K0,hK0,h⟩:=AA h
  refine AW.mr (σ:=(List Int)×(List Int)×Int×(List (List Int))) (fun p=>K0 p.1 p.2.1 p.2.2.1 p.2.2.2=some r) (fun p=>[(4,.d (.ptr [.sl (Is a1.shape),.sl (Its a1.items)])),(6,.d (.sl (Is p.1))),(7,.own 3 (Is p.2.1)),(8,.d (.i .i64 p.2.2.1)),(9,.own 24 (IsS p.2.2.2))]) (fun p=>[]) ?_ ?_
  ·skip
   refine .block ?_;refine .gh (Gh.nlD (t:=6) rfl) ?_;refine .gh (Gh.nlOwn (t:=7) 3 (by rw [Di];decide) rfl) ?_;refine .gh (Gh.nlOwn (t:=9) 24 (by rw [YD];decide) rfl) ?_
   refine .loop (.gk [3,4,6,7,8,9,33,34,35] ?_)
   refine AL.ind (σ:=Nat×(List Int)×(List Int)×Int×(List (List Int))×Int) (m:=fun p=>p.1) (e:=fun p=>[(3,.d (.ptr [.i .i64 a0.1,.b a0.2.1.1,.sl (L a0.2.1.2.1),.sl (L a0.2.1.2.2),.i .i64 a0.2.2])),(4,.d (.ptr [.sl (Is a1.shape),.sl (Its a1.items)])),(6,.d (.sl (Is p.2.1))),(7,.own 3 (Is p.2.2.1)),(8,.d (.i .i64 p.2.2.2.1)),(9,.own 24 (IsS p.2.2.2.2.1)),(33,.d (.sl (Hp a2))),(34,.d (.i .i64 ((List.length a2:Nat):Int))),(35,.d (.i .i64 p.2.2.2.2.2))]) (h:=fun p=>[]) (I:=fun p=>C4 a0 a1 a2 K0 p.1 p.2.1 p.2.2.1 p.2.2.2.1 p.2.2.2.2.1 p.2.2.2.2.2=some r) ?_ (Az,[],[],0,[],0) h
   rintro ⟨k,s6,s7,s8,s9,s10⟩ h ih
   dsimp only at h ih ⊢
   rcases k with _|k
   ·rw [C4] at h;cases h
   rw [C4] at h
   refine .sr ?_;refine vb ?_;refine rk [3,4,6,7,8,9,33,34,35,36] ?_;refine .seq ?_
   rcases brc h with ⟨hc,h⟩|⟨hc,h⟩
   ·refine cnt (dT hc) ?_
    refine .sk ?_
    obtain ⟨K2,hK2,h⟩:=AA h
    refine AW.mj (σ:=(List Int)×(List (List Int))) (fun p=>K2 p.1 p.2=some r) (fun p=>[(3,.d (.ptr [.i .i64 a0.1,.b a0.2.1.1,.sl (L a0.2.1.2.1),.sl (L a0.2.1.2.2),.i .i64 a0.2.2])),(4,.d (.ptr [.sl (Is a1.shape),.sl (Its a1.items)])),(6,.d (.sl (Is s6))),(7,.own 3 (Is p.1)),(8,.d (.i .i64 s8)),(9,.own 24 (IsS p.2)),(33,.d (.sl (Hp a2))),(34,.d (.i .i64 ((List.length a2:Nat):Int))),(35,.d (.i .i64 s10))]) (fun p=>[]) ?_ ?_
    ·skip
     refine .block ?_;refine .sr ?_;refine va ?_
     obtain ⟨x13,g13,h⟩:=bnd h
     obtain ⟨n13,p013,q13⟩:=Af g13
     refine vk (vix n13 p013 (SW q13) rfl SZ) ?_;refine vk (Ah BJ) ?_;refine asd ?_;refine ar [3,4,6,7,8,9,10,11,33,34,35] ?_;refine .sr ?_;refine vk (vfa A3) ?_;refine vk (Ah Cg) ?_;refine va ?_
     obtain ⟨x14,g14,h⟩:=bnd h
     obtain ⟨n14,p014,q14⟩:=Af g14
     refine vk (vix n14 p014 (Bp q14) rfl Bj) ?_;refine vk (Ah AI) ?_;refine ar [3,4,6,7,8,9,11,12,33,34,35] ?_;refine .seq ?_;refine .sr ?_;refine va ?_;refine vk (AR (A6 _) (CW _) CY) ?_;refine vb ?_;refine rk [3,4,6,7,8,9,11,12,33,34,35,47] ?_
     obtain ⟨K3,hK3,h⟩:=AA h
     refine AW.mr (σ:=Unit) (fun p=>K3=some r) (fun p=>[(3,.d (.ptr [.i .i64 a0.1,.b a0.2.1.1,.sl (L a0.2.1.2.1),.sl (L a0.2.1.2.2),.i .i64 a0.2.2])),(4,.d (.ptr [.sl (Is a1.shape),.sl (Its a1.items)])),(6,.d (.sl (Is s6))),(7,.own 3 (Is s7)),(8,.d (.i .i64 s8)),(9,.own 24 (IsS s9)),(11,.d (.sl (Ars x13))),(12,.d (.i .i64 x14)),(33,.d (.sl (Hp a2))),(34,.d (.i .i64 ((List.length a2:Nat):Int))),(35,.d (.i .i64 s10))]) (fun p=>[]) ?_ ?_
     ·skip
      rcases brc h with ⟨hc,h⟩|⟨hc,h⟩
      ·refine cnt (dT hc) ?_
       refine .sr ?_;refine mvo ?_;refine va ?_;refine vk ((EO (DP [x14]) DQ).deep) ?_
       obtain ⟨x15,g15,h⟩:=bnd h
       refine LY IF g15 Ls ?_ HH Ag DQ
       refine aso ?_;refine rk [3,4,6,7,8,9,11,12,33,34,35] ?_;refine .sr ?_;refine asn ?_;refine rk [3,4,6,7,8,9,11,12,13,33,34,35] ?_;refine .seq ?_;refine .sr ?_;refine va ?_;refine va ?_;refine rk [3,4,6,7,8,9,11,12,13,33,34,35,52,53] ?_
       obtain ⟨K4,hK4,h⟩:=AA h
       refine AW.mr (σ:=(List Int)) (fun p=>K4 p=some r) (fun p=>[(3,.d (.ptr [.i .i64 a0.1,.b a0.2.1.1,.sl (L a0.2.1.2.1),.sl (L a0.2.1.2.2),.i .i64 a0.2.2])),(4,.d (.ptr [.sl (Is a1.shape),.sl (Its a1.items)])),(6,.d (.sl (Is s6))),(7,.own 3 (Is x15)),(8,.d (.i .i64 s8)),(9,.own 24 (IsS s9)),(11,.d (.sl (Ars x13))),(12,.d (.i .i64 x14)),(13,.own 3 (Is p)),(33,.d (.sl (Hp a2))),(34,.d (.i .i64 ((List.length a2:Nat):Int))),(35,.d (.i .i64 s10))]) (fun p=>[]) ?_ ?_
       ·skip
        refine .block ?_;refine .gh (Gh.nlOwn (t:=13) 3 (by rw [Di];decide) rfl) ?_
        refine .loop (.gk [3,4,6,7,8,9,11,12,13,33,34,35,52,53] ?_)
        refine AL.ind (σ:=Nat×(List Int)×Int) (m:=fun p=>p.1) (e:=fun p=>[(3,.d (.ptr [.i .i64 a0.1,.b a0.2.1.1,.sl (L a0.2.1.2.1),.sl (L a0.2.1.2.2),.i .i64 a0.2.2])),(4,.d (.ptr [.sl (Is a1.shape),.sl (Its a1.items)])),(6,.d (.sl (Is s6))),(7,.own 3 (Is x15)),(8,.d (.i .i64 s8)),(9,.own 24 (IsS s9)),(11,.d (.sl (Ars x13))),(12,.d (.i .i64 x14)),(13,.own 3 (Is p.2.1)),(33,.d (.sl (Hp a2))),(34,.d (.i .i64 ((List.length a2:Nat):Int))),(35,.d (.i .i64 s10)),(52,.d (.i .i64 x14)),(53,.d (.i .i64 p.2.2))]) (h:=fun p=>[]) (I:=fun p=>Ei x14 K4 p.1 p.2.1 p.2.2=some r) ?_ (Az,[],0) h
        rintro ⟨k,s17,s18⟩ h ih
        dsimp only at h ih ⊢
        rcases k with _|k
        ·rw [Ei] at h;cases h
        rw [Ei] at h
        refine .sr ?_;refine vb ?_;refine rk [3,4,6,7,8,9,11,12,13,33,34,35,52,53,54] ?_;refine .seq ?_
        rcases brc h with ⟨hc,h⟩|⟨hc,h⟩
        ·refine cnt (dT hc) ?_
         refine .sk ?_;refine .seq ?_;refine .block ?_;refine .sr ?_;refine va ?_;refine ar [3,4,6,7,8,9,11,12,13,14,33,34,35,52,53] ?_;refine .region ?_;refine mvo ?_;refine va ?_;refine vk ((EO (DP [s18]) DQ).deep) ?_
         obtain ⟨x19,g19,h⟩:=bnd h
         refine LY IF g19 Ls ?_ HH Ag DQ
         refine aso ?_;refine .nil ?_;refine aw ?_;refine .gk [3,4,6,7,8,9,11,12,13,33,34,35,52,53] ?_;refine .region ?_;refine vb ?_;refine va ?_;refine .nil ?_;refine AL.gk [3,4,6,7,8,9,11,12,13,33,34,35,52,53] ?_
         exact ih (k,x19,(w64 (s18+1))) h (Nat.lt_succ_self _)
        refine cnf (dF hc) ?_;refine .gk [3,4,6,7,8,9,11,12,13,33,34,35] ?_;refine .exit ?_
        exact jr (s17) h
       rintro z16 h
       try dsimp only at h ⊢
       subst hK4
       refine aw ?_;refine .sr ?_;refine mvo ?_;refine fz (p:=.t 13) ?_;refine va ?_;refine vk ((EO (M8 [z16]) Ni).deep) ?_
       obtain ⟨x20,g20,h⟩:=bnd h
       refine LY SR g20 VG ?_ O9 Gn Ni
       refine aso ?_;refine rk [3,4,6,7,8,9,11,12,33,34,35] ?_;refine .gk [3,4,6,7,8,9,33,34,35] ?_;refine .exit ?_
       exact jr (x15,x20) h
      refine cnf (dF hc) ?_;refine .gk [3,4,6,7,8,9,11,12,33,34,35] ?_;refine .skip ?_
      exact jr () h
     rintro _ h
     subst hK3
     refine aw ?_;refine .seq ?_
     obtain ⟨x21,g21,h⟩:=bnd h
     obtain ⟨x22,g22,h⟩:=bnd h
     refine .drawnF 9 [8] [(15,.d (.sl (Is x22.1)))] [] A2 (by kernel_rfl) rfl ?_;refine dv (Aq HA GH) ?_;refine dv Ad ?_
     obtain ⟨n21,p021,q21⟩:=Af g21
     refine dv (vix n21 p021 (Dl q21) rfl Dj) ?_;refine dv (Aq Ai Ab) ?_;refine dv Ad ?_;refine dv (VOK.tupd (vs:=[.sl (Is x22.1),.i .i64 x22.2]) (Ak (NU g22) Tryz.call133)) ?_;refine dv Ad ?_;refine dv vex ?_;refine dv vex ?_;refine dz ?_
     refine ⟨?_,?_,?_⟩
     ·intro k hk
      simp only [List.mem_cons,List.not_mem_nil,or_false] at hk
      subst hk
      exact ⟨_,_,_,rfl,rfl,rfl,rfl,rfl,rfl,vex⟩
     ·intro om e hom hge
      cases hom
      exact Vm rfl ((hge 72 (fun k hk v hv=>by
        simp only [List.mem_cons,List.not_mem_nil,or_false] at hk
        subst hk;exact (by decide:¬(some 73=some 72)) (congrArg (Option.map Prod.fst) hv))).trans rfl) rfl ((congrArg Ao (hge 15 (fun k hk v hv=>by
        simp only [List.mem_cons,List.not_mem_nil,or_false] at hk
        subst hk;exact (by decide:¬(some 73=some 15)) (congrArg (Option.map Prod.fst) hv)))).trans rfl) rfl ⟨rfl,rfl⟩
     refine ar [3,4,6,7,8,9,11,15,16,33,34,35] ?_;refine .seq ?_;refine .sr ?_;refine va ?_;refine vb ?_;refine rk [3,4,6,7,8,9,11,15,16,33,34,35,75] ?_
     rcases brc h with ⟨hc,h⟩|⟨hc,h⟩
     ·refine cnf (ntf (dT hc)) ?_
      refine .sk ?_;refine .sr ?_;refine mvo ?_;refine va ?_
      obtain ⟨x23,g23,h⟩:=bnd h
      obtain ⟨n23,p023,q23⟩:=Af g23
      refine vk (vix n23 p023 (Dl q23) rfl Dj) ?_;refine vk (vfa A3) ?_;refine vk (Ah Cg) ?_
      obtain ⟨x24,g24,h⟩:=bnd h
      refine LY IF g24 Ls ?_ HH Ag DQ
      refine aso ?_;refine rk [3,4,6,7,8,9,15,33,34,35] ?_;refine .region ?_;refine mvo ?_;refine va ?_;refine vk ((EO (M8 [x22.1]) Ni).deep) ?_
      obtain ⟨x25,g25,h⟩:=bnd h
      refine LY SR g25 VG ?_ O9 Gn Ni
      refine aso ?_;refine RL.gk [3,4,6,7,8,9,33,34,35] ?_;refine .nil ?_
      exact jr (x24,x25) h
     refine cnt (ntt (dF hc)) ?_;refine .sr ?_;refine va ?_;refine asn ?_;refine RL.gk [3,4,6,8,9,11,15,16,33,34,35,75,76] ?_;refine asn ?_;refine ar [3,4,6,7,8,9,11,15,33,34,35] ?_;refine .gh (Gh.nlD (t:=6) rfl) ?_;refine .gh (Gh.nlD (t:=7) rfl) ?_;refine .ret ?_
     cases h
     exact ⟨⟨by decide,by decide,by decide⟩,rfl,rfl,rfl,rfl⟩
    rintro ⟨z11,z12⟩ h
    try dsimp only at h ⊢
    subst hK2
    refine .region ?_;refine vb ?_;refine va ?_;refine .nil ?_;refine AL.gk [3,4,6,7,8,9,33,34,35] ?_
    exact ih (k,s6,z11,s8,z12,(w64 (s10+1))) h (Nat.lt_succ_self _)
   refine cnf (dF hc) ?_;refine .gk [4,6,7,8,9] ?_;refine .exit ?_
   exact jr (s6,s7,s8,s9) h
  rintro ⟨z2,z3,z4,z5⟩ h
  try dsimp only at h ⊢
  subst hK0
  refine aw ?_;refine .sr ?_;refine fz (p:=.t 7) ?_;refine va ?_
  obtain ⟨x26,g26,h⟩:=bnd h
  refine vk (VOK.tupd (vs:=[.i .i64 x26.1,.i .i64 x26.2]) (Ak (DI g26) Tryz.call56)) ?_;refine va ?_;refine vk vex ?_;refine vk vex ?_;refine asd ?_;refine ar [4,6,7,8,9,17] ?_;refine .seq ?_;refine .sr ?_;refine va ?_;refine vb ?_;refine rk [4,6,7,8,9,17,94] ?_
  rcases brc h with ⟨hc,h⟩|⟨hc,h⟩
  ·refine cnf (ntf (dT hc)) ?_
   refine .sk ?_;refine .seq ?_;refine .sr ?_;refine va ?_;refine vb ?_;refine rk [4,6,7,8,9,97] ?_
   rcases brc h with ⟨hc,h⟩|⟨hc,h⟩
   ·refine cnt (dT hc) ?_
    refine .sr ?_;refine va ?_;refine asn ?_;refine asd ?_;refine ar [4,6,7,8,9] ?_;refine .gh (Gh.nlD (t:=6) rfl) ?_;refine .ret ?_
    cases h
    exact ⟨⟨by decide,by decide,by decide⟩,rfl,rfl,rfl,rfl⟩
   refine cnf (dF hc) ?_;refine .sk ?_;refine .sr ?_;refine vk ((EO (DP [0]) DQ).deep) ?_;refine ar [4,6,7,8,9] ?_;refine .seq ?_;refine .sr ?_;refine mvo ?_;refine vk (S0 (Gn _) Sj) ?_;refine va ?_;refine rk [4,6,7,8,9,100,101,102] ?_
   obtain ⟨K6,hK6,h⟩:=AA h
   refine AW.mr (σ:=(List Int)) (fun p=>K6 p=some r) (fun p=>[(6,.d (.sl (Is p))),(7,.d (.sl (Is z3))),(8,.d (.i .i64 x26.2))]) (fun p=>[]) ?_ ?_
   ·skip
    refine .block ?_;refine .gh (Gh.swap (s:=9) (t:=100) rfl rfl rfl) ?_;refine .gh (Gh.frz (p:=.t 100) rfl (by (intro _ _ h;cases h<;>decide))) ?_
    refine .loop (.gk [4,6,7,8,100,101,102] ?_)
    refine AL.ind (σ:=Nat×(List Int)×Int) (m:=fun p=>p.1) (e:=fun p=>[(4,.d (.ptr [.sl (Is a1.shape),.sl (Its a1.items)])),(6,.d (.sl (Is p.2.1))),(7,.d (.sl (Is z3))),(8,.d (.i .i64 x26.2)),(100,.d (.sl (IsS z5))),(101,.d (.i .i64 ((List.length z5:Nat):Int))),(102,.d (.i .i64 p.2.2))]) (h:=fun p=>[]) (I:=fun p=>B7 a1 z5 K6 p.1 p.2.1 p.2.2=some r) ?_ (Az,[0],0) h
    rintro ⟨k,s28,s29⟩ h ih
    dsimp only at h ih ⊢
    rcases k with _|k
    ·rw [B7] at h;cases h
    rw [B7] at h
    refine .sr ?_;refine vb ?_;refine rk [4,6,7,8,100,101,102,103] ?_;refine .seq ?_
    rcases brc h with ⟨hc,h⟩|⟨hc,h⟩
    ·refine cnt (dT hc) ?_
     refine .sk ?_
     obtain ⟨K8,hK8,h⟩:=AA h
     refine AW.mj (σ:=(List Int)) (fun p=>K8 p=some r) (fun p=>[(4,.d (.ptr [.sl (Is a1.shape),.sl (Its a1.items)])),(6,.d (.sl (Is p))),(7,.d (.sl (Is z3))),(8,.d (.i .i64 x26.2)),(100,.d (.sl (IsS z5))),(101,.d (.i .i64 ((List.length z5:Nat):Int))),(102,.d (.i .i64 s29))]) (fun p=>[]) ?_ ?_
     ·skip
      refine .block ?_;refine .sr ?_;refine va ?_
      obtain ⟨x31,g31,h⟩:=bnd h
      obtain ⟨n31,p031,q31⟩:=Af g31
      refine vk (vix n31 p031 (RP q31) rfl Rz) ?_;refine vk (Ah Cg) ?_;refine asd ?_;refine ar [4,6,7,8,18,19,100,101,102] ?_;refine .sr ?_;refine asn ?_;refine rk [4,6,7,8,18,19,20,100,101,102] ?_;refine .seq ?_;refine .sr ?_;refine va ?_;refine vk (AR (Ag _) (Cp _) Cf) ?_;refine va ?_;refine rk [4,7,8,18,19,20,100,101,102,107,108,109] ?_
      obtain ⟨K9,hK9,h⟩:=AA h
      refine AW.mr (σ:=(List Int)) (fun p=>K9 p=some r) (fun p=>[(4,.d (.ptr [.sl (Is a1.shape),.sl (Its a1.items)])),(7,.d (.sl (Is z3))),(8,.d (.i .i64 x26.2)),(20,.own 3 (Is p)),(100,.d (.sl (IsS z5))),(101,.d (.i .i64 ((List.length z5:Nat):Int))),(102,.d (.i .i64 s29))]) (fun p=>[]) ?_ ?_
      ·skip
       refine .block ?_;refine .gh (Gh.nlOwn (t:=20) 3 (by rw [Di];decide) rfl) ?_
       refine .loop (.gk [4,7,8,18,19,20,100,101,102,107,108,109] ?_)
       refine AL.ind (σ:=Nat×(List Int)×Int) (m:=fun p=>p.1) (e:=fun p=>[(4,.d (.ptr [.sl (Is a1.shape),.sl (Its a1.items)])),(7,.d (.sl (Is z3))),(8,.d (.i .i64 x26.2)),(18,.d (.i .i64 s29)),(19,.d (.sl (Is x31))),(20,.own 3 (Is p.2.1)),(100,.d (.sl (IsS z5))),(101,.d (.i .i64 ((List.length z5:Nat):Int))),(102,.d (.i .i64 s29)),(107,.d (.sl (Is s28))),(108,.d (.i .i64 ((List.length s28:Nat):Int))),(109,.d (.i .i64 p.2.2))]) (h:=fun p=>[]) (I:=fun p=>BU a1 s28 K9 s29 x31 p.1 p.2.1 p.2.2=some r) ?_ (Az,[],0) h
       rintro ⟨k,s33,s34⟩ h ih
       dsimp only at h ih ⊢
       rcases k with _|k
       ·rw [BU] at h;cases h
       rw [BU] at h
       refine .sr ?_;refine vb ?_;refine rk [4,7,8,18,19,20,100,101,102,107,108,109,110] ?_;refine .seq ?_
       rcases brc h with ⟨hc,h⟩|⟨hc,h⟩
       ·refine cnt (dT hc) ?_
        refine .sk ?_
        obtain ⟨K11,hK11,h⟩:=AA h
        refine AW.mj (σ:=(List Int)) (fun p=>K11 p=some r) (fun p=>[(4,.d (.ptr [.sl (Is a1.shape),.sl (Its a1.items)])),(7,.d (.sl (Is z3))),(8,.d (.i .i64 x26.2)),(18,.d (.i .i64 s29)),(19,.d (.sl (Is x31))),(20,.own 3 (Is p)),(100,.d (.sl (IsS z5))),(101,.d (.i .i64 ((List.length z5:Nat):Int))),(102,.d (.i .i64 s29)),(107,.d (.sl (Is s28))),(108,.d (.i .i64 ((List.length s28:Nat):Int))),(109,.d (.i .i64 s34))]) (fun p=>[]) ?_ ?_
        ·skip
         refine .block ?_;refine .sr ?_
         obtain ⟨x36,g36,h⟩:=bnd h
         obtain ⟨n36,p036,q36⟩:=Af g36
         refine vk (vix n36 p036 (Bp q36) rfl Bj) ?_;refine vk (Ah AI) ?_;refine ar [4,7,8,18,19,20,22,100,101,102,107,108,109] ?_;refine .sr ?_;refine va ?_;refine vk (AR (Ag _) (Cp _) Cf) ?_;refine va ?_;refine rk [4,7,8,18,19,20,22,100,101,102,107,108,109,113,114,115] ?_;refine .block ?_
         refine .loop (.gk [4,7,8,18,19,20,22,100,101,102,107,108,109,113,114,115] ?_)
         refine AL.ind (σ:=Nat×(List Int)×Int) (m:=fun p=>p.1) (e:=fun p=>[(4,.d (.ptr [.sl (Is a1.shape),.sl (Its a1.items)])),(7,.d (.sl (Is z3))),(8,.d (.i .i64 x26.2)),(18,.d (.i .i64 s29)),(19,.d (.sl (Is x31))),(20,.own 3 (Is p.2.1)),(22,.d (.i .i64 x36)),(100,.d (.sl (IsS z5))),(101,.d (.i .i64 ((List.length z5:Nat):Int))),(102,.d (.i .i64 s29)),(107,.d (.sl (Is s28))),(108,.d (.i .i64 ((List.length s28:Nat):Int))),(109,.d (.i .i64 s34)),(113,.d (.sl (Is x31))),(114,.d (.i .i64 ((List.length x31:Nat):Int))),(115,.d (.i .i64 p.2.2))]) (h:=fun p=>[]) (I:=fun p=>CC a1 x36 s29 x31 K11 p.1 p.2.1 p.2.2=some r) ?_ (Az,s33,0) h
         rintro ⟨k,s37,s38⟩ h ih
         dsimp only at h ih ⊢
         rcases k with _|k
         ·rw [CC] at h;cases h
         rw [CC] at h
         refine .sr ?_;refine vb ?_;refine rk [4,7,8,18,19,20,22,100,101,102,107,108,109,113,114,115,116] ?_;refine .seq ?_
         rcases brc h with ⟨hc,h⟩|⟨hc,h⟩
         ·refine cnt (dT hc) ?_
          refine .sk ?_;refine .seq ?_;refine .block ?_;refine .sr ?_
          obtain ⟨x39,g39,h⟩:=bnd h
          obtain ⟨n39,p039,q39⟩:=Af g39
          refine vk (vix n39 p039 (Bp q39) rfl Bj) ?_;refine vk (Ah AI) ?_;refine ar [4,7,8,18,19,20,22,24,100,101,102,107,108,109,113,114,115] ?_;refine .region ?_;refine mvo ?_;refine va ?_;refine vk (vfa A3) ?_;refine vk (Ah Cg) ?_;refine va ?_
          obtain ⟨x40,g40,h⟩:=bnd h
          obtain ⟨n40,p040,q40⟩:=Af g40
          refine vk (vix n40 p040 (Bp q40) rfl Bj) ?_;refine vk (Ah AI) ?_;refine vb ?_;refine va ?_;refine vb ?_;refine vk ((EO (DP [(w64 ((w64 (x36 * x40))+x39))]) DQ).deep) ?_
          obtain ⟨x41,g41,h⟩:=bnd h
          refine LY IF g41 Ls ?_ HH Ag DQ
          refine aso ?_;refine .nil ?_;refine aw ?_;refine .gk [4,7,8,18,19,20,22,100,101,102,107,108,109,113,114,115] ?_;refine .region ?_;refine vb ?_;refine va ?_;refine .nil ?_;refine AL.gk [4,7,8,18,19,20,22,100,101,102,107,108,109,113,114,115] ?_
          exact ih (k,x41,(w64 (s38+1))) h (Nat.lt_succ_self _)
         refine cnf (dF hc) ?_;refine .gk [4,7,8,18,19,20,100,101,102,107,108,109] ?_;refine .exit ?_
         exact jr (s37) h
        rintro z35 h
        try dsimp only at h ⊢
        subst hK11
        refine .region ?_;refine vb ?_;refine va ?_;refine .nil ?_;refine AL.gk [4,7,8,18,19,20,100,101,102,107,108,109] ?_
        exact ih (k,z35,(w64 (s34+1))) h (Nat.lt_succ_self _)
       refine cnf (dF hc) ?_;refine .gk [4,7,8,20,100,101,102] ?_;refine .exit ?_
       exact jr (s33) h
      rintro z32 h
      try dsimp only at h ⊢
      subst hK9
      refine aw ?_;refine .region ?_;refine fz (p:=.t 20) ?_;refine va ?_;refine asd ?_;refine RL.gk [4,6,7,8,100,101,102] ?_;refine .nil ?_
      exact jr (z32) h
     rintro z30 h
     try dsimp only at h ⊢
     subst hK8
     refine .region ?_;refine vb ?_;refine va ?_;refine .nil ?_;refine AL.gk [4,6,7,8,100,101,102] ?_
     exact ih (k,z30,(w64 (s29+1))) h (Nat.lt_succ_self _)
    refine cnf (dF hc) ?_;refine .gk [6,7,8] ?_;refine .exit ?_
    exact jr (s28) h
   rintro z27 h
   try dsimp only at h ⊢
   subst hK6
   refine aw ?_;refine .sr ?_;refine va ?_;refine va ?_;refine asd ?_;refine asd ?_;refine ar [6,7,8] ?_;refine .ret ?_
   cases h
   exact ⟨⟨by decide,by decide,by decide⟩,rfl,rfl,rfl,rfl⟩
  refine cnt (ntt (dF hc)) ?_;refine .sr ?_;refine va ?_;refine asn ?_;refine asn ?_;refine ar [4,6,7,8,9,17] ?_;refine .gh (Gh.nlD (t:=6) rfl) ?_;refine .gh (Gh.nlD (t:=7) rfl) ?_;refine .ret ?_
  cases h
  exact ⟨⟨by decide,by decide,by decide⟩,rfl,rfl,rfl,rfl⟩
 refine cnt (ntt (dF hc)) ?_;refine .sr ?_;refine asn ?_;refine asn ?_;refine ar [2,3,4,6,7,8] ?_;refine .gh (Gh.nlD (t:=6) rfl) ?_;refine .gh (Gh.nlD (t:=7) rfl) ?_;refine .ret ?_
 cases h
 exact ⟨⟨by decide,by decide,by decide⟩,rfl,rfl,rfl,rfl⟩
def EC (a1:Arr) (x2:(List Int)×(List Int)×Int) (K0:(List Itm)→Option (Arr×Int)) : Nat→(List Itm)→Int→Option (Arr×Int)
 | 0,_,_=>none
 | k+1,s4,s5=>(if s5<((List.length x2.1:Nat):Int) then ((rd? x2.1 s5).bind fun x6=>((rd? a1.items x6).bind fun x7=>((ap? 1466015503701 s4 [x7]).bind fun x8=>(EC a1 x2 K0 k x8 (w64 (s5+1)))))) else (K0 s4))
def GP (a0:(Int×RT×Int)) (a1:Arr) (a2:(List (List Arr))) : Option (Arr×Int):=((C7 a0 ([a1])).bind fun x1=>(if x1=true then ((Eu a0 a1 a2).bind fun x2=>(if x2.2.2=0 then (jn (fun (z3:(List Itm))=>(jn (fun (z9:(List Itm))=>((AT x2.2.1 z9).bind fun x12=>(some (x12.1,x12.2)))) fun K2=>(if ((List.length z3:Nat) : Int)=0 then ((Dr a1).bind fun x10=>((ap? 1466015503701 z3 [x10]).bind fun x11=>(K2 x11))) else (K2 z3)))) fun K0=>(EC a1 x2 K0 Az [] 0)) else (some ((Arr.mk [] []),x2.2.2)))) else (some ((Arr.mk [] []),22))))
theorem RC {a0:(Int×RT×Int)} {a1:Arr} {a2:(List (List Arr))} {r:Arr×Int} (h:GP a0 a1 a2=some r) :
  Fn Tryz.prog 20 [.ag [.i .i64 a0.1,.b a0.2.1.1,.sl (L a0.2.1.2.1),.sl (L a0.2.1.2.2),.i .i64 a0.2.2],.ag [.sl (Is a1.shape),.sl (Its a1.items)],.sl (Hp a2)] (.tup [.d (.ag [.sl (Is r.1.shape),.sl (Its r.1.items)]),.d (.i .i64 r.2)]):=by
 unfold GP at h
 refine Fn.ofC (rs:=[.cell 6 27,.tmp 7]) (nt:=60) Tryz.func20 rfl rfl rfl (by simp) rfl ?_;refine .sr ?_;refine vk vbx ?_;refine vk vbx ?_;refine vk (van (Al AY) A4) ?_;refine ar [2,3,4,6,7] ?_;refine .seq ?_;refine .sr ?_;refine vk (Aq HA GH) ?_;refine vk (Aq Ai Ab) ?_;refine vk ((Eg (Jj a1) (FA [a1]) HZ).deep) ?_
 obtain ⟨x1,g1,h⟩:=bnd h
 refine vk (Ak (Fu g1) Tryz.call39) ?_;refine vk vnt ?_;refine rk [2,3,4,6,7,18] ?_
 rcases brc h with ⟨hc,h⟩|⟨hc,h⟩
 ·refine cnf (ntf hc) ?_
  refine .sk ?_;refine .sr ?_;refine vk (Aq HA GH) ?_;refine vk (Aq Ai Ab) ?_;refine va ?_
  obtain ⟨x2,g2,h⟩:=bnd h
  refine vk (VOK.tupd (vs:=[.sl (Is x2.1),.sl (Is x2.2.1),.i .i64 x2.2.2]) (Ak (JF g2) Tryz.call72)) ?_;refine va ?_;refine vk vex ?_;refine vk vex ?_;refine vk vex ?_;refine asd ?_;refine asd ?_;refine ar [4,6,7,8,9,10] ?_;refine .seq ?_;refine .sr ?_;refine va ?_;refine vb ?_;refine rk [4,6,7,8,9,10,29] ?_
  rcases brc h with ⟨hc,h⟩|⟨hc,h⟩
  ·refine cnf (ntf (dT hc)) ?_
   refine .sk ?_;refine .sr ?_;refine asn ?_;refine rk [4,6,7,8,9,11] ?_;refine .seq ?_;refine .sr ?_;refine va ?_;refine vk (AR (Ag _) (Cp _) Cf) ?_;refine va ?_;refine rk [4,6,7,9,11,32,33,34] ?_
   obtain ⟨K0,hK0,h⟩:=AA h
   refine AW.mr (σ:=(List Itm)) (fun p=>K0 p=some r) (fun p=>[(4,.d (.ptr [.sl (Is a1.shape),.sl (Its a1.items)])),(6,.nb [.sl (Is []),.sl (Its [])]),(7,.d (.i .i64 0)),(9,.d (.sl (Is x2.2.1))),(11,.own 51 (Its p))]) (fun p=>[]) ?_ ?_
   ·skip
    refine .block ?_;refine .gh (Gh.nlOwn (t:=11) 51 (by rw [Pg];decide) rfl) ?_
    refine .loop (.gk [4,6,7,9,11,32,33,34] ?_)
    refine AL.ind (σ:=Nat×(List Itm)×Int) (m:=fun p=>p.1) (e:=fun p=>[(4,.d (.ptr [.sl (Is a1.shape),.sl (Its a1.items)])),(6,.nb [.sl (Is []),.sl (Its [])]),(7,.d (.i .i64 0)),(9,.d (.sl (Is x2.2.1))),(11,.own 51 (Its p.2.1)),(32,.d (.sl (Is x2.1))),(33,.d (.i .i64 ((List.length x2.1:Nat):Int))),(34,.d (.i .i64 p.2.2))]) (h:=fun p=>[]) (I:=fun p=>EC a1 x2 K0 p.1 p.2.1 p.2.2=some r) ?_ (Az,[],0) h
    rintro ⟨k,s4,s5⟩ h ih
    dsimp only at h ih ⊢
    rcases k with _|k
    ·rw [EC] at h;cases h
    rw [EC] at h
    refine .sr ?_;refine vb ?_;refine rk [4,6,7,9,11,32,33,34,35] ?_;refine .seq ?_
    rcases brc h with ⟨hc,h⟩|⟨hc,h⟩
    ·refine cnt (dT hc) ?_
     refine .sk ?_;refine .seq ?_;refine .block ?_;refine .sr ?_
     obtain ⟨x6,g6,h⟩:=bnd h
     obtain ⟨n6,p06,q6⟩:=Af g6
     refine vk (vix n6 p06 (Bp q6) rfl Bj) ?_;refine vk (Ah AI) ?_;refine ar [4,6,7,9,11,13,32,33,34] ?_;refine .region ?_;refine mvo ?_;refine vk (vfa AM) ?_;refine vk (Ah Bo) ?_;refine va ?_
     obtain ⟨x7,g7,h⟩:=bnd h
     obtain ⟨n7,p07,q7⟩:=Af g7
     refine vk (vix n7 p07 (BY q7) rfl BX) ?_;refine vk (Aq AX Au) ?_;refine vk ((Eg (Fp x7) (DW [x7]) DN).deep) ?_
     obtain ⟨x8,g8,h⟩:=bnd h
     refine LY Jw g8 Ln ?_ Ij Ap DN
     refine aso ?_;refine .nil ?_;refine aw ?_;refine .gk [4,6,7,9,11,32,33,34] ?_;refine .region ?_;refine vb ?_;refine va ?_;refine .nil ?_;refine AL.gk [4,6,7,9,11,32,33,34] ?_
     exact ih (k,x8,(w64 (s5+1))) h (Nat.lt_succ_self _)
    refine cnf (dF hc) ?_;refine .gk [4,6,7,9,11] ?_;refine .exit ?_
    exact jr (s4) h
   rintro z3 h
   try dsimp only at h ⊢
   subst hK0
   refine aw ?_;refine .seq ?_;refine .sr ?_;refine mvo ?_;refine vk (S0 (Ap _) Br) ?_;refine vb ?_;refine rk [4,6,7,9,11,49] ?_
   obtain ⟨K2,hK2,h⟩:=AA h
   refine AW.mr (σ:=(List Itm)) (fun p=>K2 p=some r) (fun p=>[(6,.nb [.sl (Is []),.sl (Its [])]),(7,.d (.i .i64 0)),(9,.d (.sl (Is x2.2.1))),(11,.own 51 (Its p))]) (fun p=>[]) ?_ ?_
   ·skip
    rcases brc h with ⟨hc,h⟩|⟨hc,h⟩
    ·refine cnt (dT hc) ?_
     refine .region ?_;refine mvo ?_;refine vk (Aq Ai Ab) ?_
     obtain ⟨x10,g10,h⟩:=bnd h
     refine vk (Ak (Nx g10) Tryz.call66) ?_;refine vk ((Eg (Fp x10) (DW [x10]) DN).deep) ?_
     obtain ⟨x11,g11,h⟩:=bnd h
     refine LY Jw g11 Ln ?_ Ij Ap DN
     refine aso ?_;refine RL.gk [6,7,9,11] ?_;refine .nil ?_
     exact jr (x11) h
    refine cnf (dF hc) ?_;refine .gk [6,7,9,11] ?_;refine .skip ?_
    exact jr (z3) h
   rintro z9 h
   try dsimp only at h ⊢
   subst hK2
   refine aw ?_;refine .sr ?_;refine va ?_;refine fz (p:=.t 11) ?_;refine va ?_
   obtain ⟨x12,g12,h⟩:=bnd h
   refine vk (VOK.tupd (vs:=[.ag [.sl (Is x12.1.shape),.sl (Its x12.1.items)],.i .i64 x12.2]) (Ak (Fx g12) Tryz.call18)) ?_;refine vk vex ?_;refine vk vex ?_
   refine stn ?_ Ab (by decide)
   refine ar [6,7] ?_;refine .ret ?_
   cases h
   exact ⟨_,_,⟨.inr rfl,Ai,Ab,p2⟩,rfl,rfl⟩
  refine cnt (ntt (dF hc)) ?_;refine .sr ?_;refine vk (vbd CF AY A4) ?_;refine va ?_
  refine stn ?_ Ab (by decide)
  refine ar [4,6,7,8,9] ?_;refine .ret ?_
  cases h
  exact ⟨_,_,⟨.inr rfl,Ai,Ab,p2⟩,rfl,rfl⟩
 refine cnt (ntt (bf hc)) ?_;refine .sr ?_;refine vk (vbd CF AY A4) ?_
 refine stn ?_ Ab (by decide)
 refine ar [2,3,4,6,7] ?_;refine .ret ?_
 cases h
 exact ⟨_,_,⟨.inr rfl,Ai,Ab,p2⟩,rfl,rfl⟩
def BG (a0:(List (List Int))) (K0:Int→Option ((List Int))) : Nat→Int→Int→Option ((List Int))
 | 0,_,_=>none
 | k+1,s2,s3=>(if s3<((List.length a0:Nat):Int) then (jn (fun (z4:Int)=>(BG a0 K0 k z4 (w64 (s3+1)))) fun K2=>((rd? a0 s3).bind fun x5=>((Gs (¬((w64 (s2+((List.length x5:Nat):Int)))<0))).bind fun x6=>(K2 (w64 (s2+((List.length x5:Nat):Int))))))) else (K0 s2))
def BE (a0:(List (List Int))) (K3:(List Int)→Option ((List Int))) : Nat→(List Int)→Int→Option ((List Int))
 | 0,_,_=>none
 | k+1,s9,s10=>(if s10<((List.length a0:Nat):Int) then ((rd? a0 s10).bind fun x11=>((ap? 17592186044416 s9 x11).bind fun x12=>(BE a0 K3 k x12 (w64 (s10+1))))) else (K3 s9))
def DJ (a0:(List (List Int))) : Option ((List Int)):=(jn (fun (z1:Int)=>((Gs (0≤z1∧z1≤UZ)).bind fun x7=>(jn (fun (z8:(List Int))=>(some (z8))) fun K3=>(BE a0 K3 Az [] 0)))) fun K0=>(BG a0 K0 Az 0 0))
theorem G4 {a0:(List (List Int))} {r:(List Int)} (h:DJ a0=some r) :
  Fn Tryz.prog 100 [.sl (IsS a0)] (.d (.sl (Is r))):=by
 unfold DJ at h
 refine Fn.o1 2 36 Tryz.func100 ?_;refine .sr ?_;refine asn ?_;refine rk [0,2] ?_;refine .sr ?_;refine ar [0,2,3] ?_;refine .seq ?_;refine .sr ?_;refine va ?_;refine vk (AR (Gn _) (Ul _) Sj) ?_;refine va ?_;refine rk [0,2,3,9,10,11] ?_
 obtain ⟨K0,hK0,h⟩:=AA h
 refine AW.mr (σ:=Int) (fun p=>K0 p=some r) (fun p=>[(0,.d (.sl (IsS a0))),(2,.nl),(3,.d (.i .i64 p))]) (fun p=>[]) ?_ ?_
 ·skip
  refine .block ?_
  refine .loop (.gk [0,2,3,9,10,11] ?_)
  refine AL.ind (σ:=Nat×Int×Int) (m:=fun p=>p.1) (e:=fun p=>[(0,.d (.sl (IsS a0))),(2,.nl),(3,.d (.i .i64 p.2.1)),(9,.d (.sl (IsS a0))),(10,.d (.i .i64 ((List.length a0:Nat):Int))),(11,.d (.i .i64 p.2.2))]) (h:=fun p=>[]) (I:=fun p=>BG a0 K0 p.1 p.2.1 p.2.2=some r) ?_ (Az,0,0) h
  rintro ⟨k,s2,s3⟩ h ih
  dsimp only at h ih ⊢
  rcases k with _|k
  ·rw [BG] at h;cases h
  rw [BG] at h
  refine .sr ?_;refine vb ?_;refine rk [0,2,3,9,10,11,12] ?_;refine .seq ?_
  rcases brc h with ⟨hc,h⟩|⟨hc,h⟩
  ·refine cnt (dT hc) ?_
   refine .sk ?_
   obtain ⟨K2,hK2,h⟩:=AA h
   refine AW.mj (σ:=Int) (fun p=>K2 p=some r) (fun p=>[(0,.d (.sl (IsS a0))),(2,.nl),(3,.d (.i .i64 p)),(9,.d (.sl (IsS a0))),(10,.d (.i .i64 ((List.length a0:Nat):Int))),(11,.d (.i .i64 s3))]) (fun p=>[]) ?_ ?_
   ·skip
    refine .block ?_;refine .sr ?_
    obtain ⟨x5,g5,h⟩:=bnd h
    obtain ⟨n5,p05,q5⟩:=Af g5
    refine vk (vix n5 p05 (RP q5) rfl Rz) ?_;refine vk (Ah Cg) ?_;refine ar [0,2,3,5,9,10,11] ?_;refine .sr ?_;refine va ?_;refine va ?_;refine vk (AR (Ag _) (Cp _) Cf) ?_;refine vb ?_;refine ar [0,2,3,9,10,11] ?_;refine .sr ?_;refine va ?_;refine vb ?_;refine rk [0,2,3,9,10,11,20] ?_
    obtain ⟨x6,g6,h⟩:=bnd h
    have hc:=G5 g6
    refine cnf (dF hc) ?_;refine .gk [0,2,3,9,10,11] ?_;refine .skip ?_
    exact jr ((w64 (s2+((List.length x5:Nat):Int)))) h
   rintro z4 h
   try dsimp only at h ⊢
   subst hK2
   refine .region ?_;refine vb ?_;refine va ?_;refine .nil ?_;refine AL.gk [0,2,3,9,10,11] ?_
   exact ih (k,z4,(w64 (s3+1))) h (Nat.lt_succ_self _)
  refine cnf (dF hc) ?_;refine .gk [0,2,3] ?_;refine .exit ?_
  exact jr (s2) h
 rintro z1 h
 try dsimp only at h ⊢
 subst hK0
 refine aw ?_;refine .sr ?_;refine va ?_
 obtain ⟨x7,g7,h⟩:=bnd h
 refine clR (avs:=[.nl,.d (.i .i64 z1)]) (Ww Ve VZ (G5 g7)) Tryz.call157 (fun r' H' hp=>?_)
 obtain ⟨rfl,rfl⟩:=hp
 refine aso ?_;refine rk [0,2,6] ?_;refine .seq ?_;refine .sr ?_;refine va ?_;refine vk (AR (Gn _) (Ul _) Sj) ?_;refine va ?_;refine rk [2,6,25,26,27] ?_
 obtain ⟨K3,hK3,h⟩:=AA h
 refine AW.mr (σ:=(List Int)) (fun p=>K3 p=some r) (fun p=>[(2,.nl),(6,.own 3 (Is p))]) (fun p=>[]) ?_ ?_
 ·skip
  refine .block ?_
  refine .loop (.gk [2,6,25,26,27] ?_)
  refine AL.ind (σ:=Nat×(List Int)×Int) (m:=fun p=>p.1) (e:=fun p=>[(2,.nl),(6,.own 3 (Is p.2.1)),(25,.d (.sl (IsS a0))),(26,.d (.i .i64 ((List.length a0:Nat):Int))),(27,.d (.i .i64 p.2.2))]) (h:=fun p=>[]) (I:=fun p=>BE a0 K3 p.1 p.2.1 p.2.2=some r) ?_ (Az,[],0) h
  rintro ⟨k,s9,s10⟩ h ih
  dsimp only at h ih ⊢
  rcases k with _|k
  ·rw [BE] at h;cases h
  rw [BE] at h
  refine .sr ?_;refine vb ?_;refine rk [2,6,25,26,27,28] ?_;refine .seq ?_
  rcases brc h with ⟨hc,h⟩|⟨hc,h⟩
  ·refine cnt (dT hc) ?_
   refine .sk ?_;refine .seq ?_;refine .block ?_;refine .sr ?_
   obtain ⟨x11,g11,h⟩:=bnd h
   obtain ⟨n11,p011,q11⟩:=Af g11
   refine vk (vix n11 p011 (RP q11) rfl Rz) ?_;refine vk (Ah Cg) ?_;refine ar [2,6,8,25,26,27] ?_;refine .region ?_;refine mvo ?_;refine va ?_
   obtain ⟨x12,g12,h⟩:=bnd h
   refine LY IF g12 Ls ?_ HH Ag DQ
   refine aso ?_;refine .nil ?_;refine aw ?_;refine .gk [2,6,25,26,27] ?_;refine .region ?_;refine vb ?_;refine va ?_;refine .nil ?_;refine AL.gk [2,6,25,26,27] ?_
   exact ih (k,x12,(w64 (s10+1))) h (Nat.lt_succ_self _)
  refine cnf (dF hc) ?_;refine .gk [2,6] ?_;refine .exit ?_
  exact jr (s9) h
 rintro z8 h
 try dsimp only at h ⊢
 subst hK3
 refine aw ?_;refine .sr ?_;refine fz (p:=.t 6) ?_;refine va ?_;refine ar [2] ?_;refine .ret ?_
 cases h
 exact ⟨rfl,rfl⟩
def GZ (a:(List Itm)) : Option ((List Itm)):=ap? 1466015503701 [] a
theorem Nq {a r:(List Itm)} (h:GZ a=some r) : Fn Tryz.prog 90 [.sl (Its a)] (.own 51 (Its r)):=by
 unfold GZ at h
 refine Fn.o1 2 8 Tryz.func90 ?_;refine .sr ?_;refine asn ?_;refine rn ?_;refine .seq ?_;refine .sr ?_;refine mvd ?_
 refine nq (fun b hb=>?_) (Bv _) Br
 refine rn ?_
 refine cnd (fun hc=>?_) (fun hc=>?_)
 ·simp only [if_true] at hc
  have h0:Its a=[]:=by
   apply Classical.byContradiction
   intro h;rw [hb h] at hc;cases hc
  have h1:r=[]:=by
   have:=(Kg h).2
   rw [this,List.nil_append]
   exact List.length_eq_zero_iff.1 (by rw [← Ap a,h0];rfl)
  subst h1
  refine .sr ?_;refine asn ?_;refine rn ?_;refine .gh (Gh.nlOwn (t:=2) 51 ST rfl) ?_;refine .ret ?_
  exact ⟨rfl,rfl⟩
 ·refine .sk ?_
  refine .sr ?_;refine vk (Eg (ds':=Its []) rfl (DW []) DN) ?_;refine mvd ?_
  refine YM Jw h Ln ?_ Ij Ap DN
  refine aso ?_;refine rn ?_;refine .ret ?_
  exact ⟨rfl,rfl⟩
def C3 (a2:Arr) (x2:(List Int)×(List Int)×Int) (K1:(List Itm)→Option (Arr×Int)) : Nat→(List Itm)→Int→Option (Arr×Int)
 | 0,_,_=>none
 | k+1,s6,s7=>(if s7<((List.length x2.1:Nat):Int) then ((rd? x2.1 s7).bind fun x8=>((Gs (((List.length a2.items:Nat):Int)≠0)).bind fun x9=>((rd? a2.items (Int.tmod s7 ((List.length a2.items:Nat):Int))).bind fun x10=>((rd? s6 x8).bind fun x11=>(C3 a2 x2 K1 k (List.set s6 (Int.toNat x8) x10) (w64 (s7+1))))))) else (K1 s6))
def Gv (a0:(Int×RT×Int)) (a1:Arr) (a2:Arr) (a3:(List (List Arr))) : Option (Arr×Int):=((C7 a0 ([a1,a2])).bind fun x1=>(if x1=true then ((Eu a0 a1 a3).bind fun x2=>(if x2.2.2=0 then ((CB a2.shape).bind fun x3=>(jn (((GZ a1.items).bind fun x4=>(jn (fun (z5:(List Itm))=>((AT a1.shape z5).bind fun x12=>(some (x12.1,x12.2)))) fun K1=>(C3 a2 x2 K1 Az x4 0)))) fun K0=>(if x3.1=1 then (K0) else none))) else (some ((Arr.mk [] []),x2.2.2)))) else (some ((Arr.mk [] []),22))))
theorem NF {a0:(Int×RT×Int)} {a1:Arr} {a2:Arr} {a3:(List (List Arr))} {r:Arr×Int} (h:Gv a0 a1 a2 a3=some r) :
  Fn Tryz.prog 34 [.ag [.i .i64 a0.1,.b a0.2.1.1,.sl (L a0.2.1.2.1),.sl (L a0.2.1.2.2),.i .i64 a0.2.2],.ag [.sl (Is a1.shape),.sl (Its a1.items)],.ag [.sl (Is a2.shape),.sl (Its a2.items)],.sl (Hp a3)] (.tup [.d (.ag [.sl (Is r.1.shape),.sl (Its r.1.items)]),.d (.i .i64 r.2)]):=by
 unfold Gv at h
 refine Fn.ofC (rs:=[.cell 8 27,.tmp 9]) (nt:=98) Tryz.func34 rfl rfl rfl (by simp) rfl ?_;refine .sr ?_;refine vk vbx ?_;refine vk vbx ?_;refine vk vbx ?_;refine vk (van (Al AY) A4) ?_;refine ar [3,4,5,6,8,9] ?_;refine .seq ?_;refine .sr ?_;refine vk (Aq HA GH) ?_;refine vk (Aq Ai Ab) ?_;refine vk (Aq Ai Ab) ?_;refine vk ((Eg (SB a1 a2) (FA [a1,a2]) HZ).deep) ?_
 obtain ⟨x1,g1,h⟩:=bnd h
 refine vk (Ak (Fu g1) Tryz.call39) ?_;refine vk vnt ?_;refine rk [3,4,5,6,8,9,26] ?_
 rcases brc h with ⟨hc,h⟩|⟨hc,h⟩
 ·refine cnf (ntf hc) ?_
  refine .sk ?_;refine .sr ?_;refine vk (Aq HA GH) ?_;refine vk (Aq Ai Ab) ?_;refine va ?_
  obtain ⟨x2,g2,h⟩:=bnd h
  refine vk (VOK.tupd (vs:=[.sl (Is x2.1),.sl (Is x2.2.1),.i .i64 x2.2.2]) (Ak (JF g2) Tryz.call72)) ?_;refine va ?_;refine vk vex ?_;refine vk vex ?_;refine vk vex ?_;refine asd ?_;refine asd ?_;refine ar [5,6,8,9,10,11,12] ?_;refine .seq ?_;refine .sr ?_;refine va ?_;refine vb ?_;refine rk [5,6,8,9,10,11,12,37] ?_
  rcases brc h with ⟨hc,h⟩|⟨hc,h⟩
  ·refine cnf (ntf (dT hc)) ?_
   refine .sk ?_;refine .sr ?_;refine ar [5,6,8,9,10,11,13] ?_;refine .seq ?_;refine .sr ?_;refine vk (vfa A3) ?_;refine vk (Ah Cg) ?_
   obtain ⟨x3,g3,h⟩:=bnd h
   refine vk (VOK.tupd (vs:=[.i .i64 x3.1,.i .i64 x3.2]) (Ak (DI g3) Tryz.call56)) ?_;refine va ?_;refine vk vex ?_;refine vk vex ?_;refine asd ?_;refine ar [5,6,8,9,10,11,13,14] ?_;refine .sr ?_;refine va ?_;refine vb ?_;refine rk [5,6,8,9,10,11,13,47] ?_
   obtain ⟨K0,hK0,h⟩:=AA h
   refine AW.mr (σ:=Unit) (fun p=>K0=some r) (fun p=>[(5,.d (.ptr [.sl (Is a1.shape),.sl (Its a1.items)])),(6,.d (.ptr [.sl (Is a2.shape),.sl (Its a2.items)])),(8,.nb [.sl (Is []),.sl (Its [])]),(9,.d (.i .i64 0)),(10,.d (.sl (Is x2.1)))]) (fun p=>[]) ?_ ?_
   ·skip
    rcases brc h with ⟨hc,h⟩|⟨hc,h⟩
    ·refine cnf (ntf (dT hc)) ?_
     refine .gk [5,6,8,9,10] ?_;refine .skip ?_
     exact jr () h
    refine cnt (ntt (dF hc)) ?_;refine .seq ?_;refine .drawn 8 A2 (by kernel_rfl) ?_;refine dv Ad ?_;refine dv Ad ?_
    exact nomatch h
   rintro _ h
   subst hK0
   refine aw ?_;refine .sr ?_;refine vk (vfa AM) ?_;refine vk (Ah Bo) ?_
   obtain ⟨x4,g4,h⟩:=bnd h
   refine vk (Ak (Nq g4) Tryz.call90) ?_;refine aso ?_;refine rk [5,6,8,9,10,18] ?_;refine .seq ?_;refine .sr ?_;refine va ?_;refine vk (AR (Ag _) (Cp _) Cf) ?_;refine va ?_;refine rk [5,6,8,9,18,72,73,74] ?_
   obtain ⟨K1,hK1,h⟩:=AA h
   refine AW.mr (σ:=(List Itm)) (fun p=>K1 p=some r) (fun p=>[(5,.d (.ptr [.sl (Is a1.shape),.sl (Its a1.items)])),(8,.nb [.sl (Is []),.sl (Its [])]),(9,.d (.i .i64 0)),(18,.own 51 (Its p))]) (fun p=>[]) ?_ ?_
   ·skip
    refine .block ?_
    refine .loop (.gk [5,6,8,9,18,72,73,74] ?_)
    refine AL.ind (σ:=Nat×(List Itm)×Int) (m:=fun p=>p.1) (e:=fun p=>[(5,.d (.ptr [.sl (Is a1.shape),.sl (Its a1.items)])),(6,.d (.ptr [.sl (Is a2.shape),.sl (Its a2.items)])),(8,.nb [.sl (Is []),.sl (Its [])]),(9,.d (.i .i64 0)),(18,.own 51 (Its p.2.1)),(72,.d (.sl (Is x2.1))),(73,.d (.i .i64 ((List.length x2.1:Nat):Int))),(74,.d (.i .i64 p.2.2))]) (h:=fun p=>[]) (I:=fun p=>C3 a2 x2 K1 p.1 p.2.1 p.2.2=some r) ?_ (Az,x4,0) h
    rintro ⟨k,s6,s7⟩ h ih
    dsimp only at h ih ⊢
    rcases k with _|k
    ·rw [C3] at h;cases h
    rw [C3] at h
    refine .sr ?_;refine vb ?_;refine rk [5,6,8,9,18,72,73,74,75] ?_;refine .seq ?_
    rcases brc h with ⟨hc,h⟩|⟨hc,h⟩
    ·refine cnt (dT hc) ?_
     refine .sk ?_;refine .seq ?_;refine .block ?_;refine .sr ?_;refine va ?_
     obtain ⟨x8,g8,h⟩:=bnd h
     obtain ⟨n8,p08,q8⟩:=Af g8
     refine vk (vix n8 p08 (Bp q8) rfl Bj) ?_;refine vk (Ah AI) ?_;refine asd ?_;refine ar [5,6,8,9,18,19,20,72,73,74] ?_;refine .drawn 12 A2 (by kernel_rfl) ?_;refine dv Ef ?_;refine dv Ad ?_;refine dv (vfa AM) ?_;refine dv (Ah Bo) ?_;refine dv Ad ?_;refine dv (vfa AM) ?_;refine dv (Ah Bo) ?_;refine dv (AR (Ap _) (Bv _) Br) ?_
     obtain ⟨x9,g9,h⟩:=bnd h
     refine dv (Nu (G5 g9)) ?_
     obtain ⟨x10,g10,h⟩:=bnd h
     obtain ⟨n10,p010,q10⟩:=Af g10
     refine dv (vix n10 p010 (BY q10) rfl BX) ?_;refine dv (Aq AX Au) ?_
     obtain ⟨x11,g11,h⟩:=bnd h
     obtain ⟨n11,p011,q11⟩:=Af g11
     refine dv (FQ (off:=0) (len:=(Its s6).length) n11 p011 (by rw [Ap];exact (lS.1 q11).1) BX (by decide)) ?_;refine dz ?_
     refine Yw (F:=Its) (zs:=[.i .u8 x11.kind,.b x11.num.1,.sl (L x11.num.2.1),.sl (L x11.num.2.2),.i .i32 x11.char,.sl (Ars x11.box)]) (us:=s6) (n:=n11) (m:=Int.toNat x8) (x:=x10) (M7 (Itm.dv_eq x10).symm) (by rw [p011];rfl) (by rw [Nat.zero_add];exact BY q11) rfl ?_ Au Au (Nat.succ_pos _)
     refine RL.gk [5,6,8,9,18,19,20,72,73,74,79,80,81,82,83,84,85,86,87,88,89] ?_;refine .nil ?_;refine aw ?_;refine .gk [5,6,8,9,18,72,73,74] ?_;refine .region ?_;refine vb ?_;refine va ?_;refine .nil ?_;refine AL.gk [5,6,8,9,18,72,73,74] ?_
     exact ih (k,(List.set s6 (Int.toNat x8) x10),(w64 (s7+1))) h (Nat.lt_succ_self _)
    refine cnf (dF hc) ?_;refine .gk [5,8,9,18] ?_;refine .exit ?_
    exact jr (s6) h
   rintro z5 h
   try dsimp only at h ⊢
   subst hK1
   refine aw ?_;refine .sr ?_;refine vk (vfa A3) ?_;refine vk (Ah Cg) ?_;refine fz (p:=.t 18) ?_;refine va ?_
   obtain ⟨x12,g12,h⟩:=bnd h
   refine vk (VOK.tupd (vs:=[.ag [.sl (Is x12.1.shape),.sl (Its x12.1.items)],.i .i64 x12.2]) (Ak (Fx g12) Tryz.call18)) ?_;refine vk vex ?_;refine vk vex ?_
   refine stn ?_ Ab (by decide)
   refine ar [8,9] ?_;refine .ret ?_
   cases h
   exact ⟨_,_,⟨.inr rfl,Ai,Ab,p2⟩,rfl,rfl⟩
  refine cnt (ntt (dF hc)) ?_;refine .sr ?_;refine vk (vbd CF AY A4) ?_;refine va ?_
  refine stn ?_ Ab (by decide)
  refine ar [5,6,8,9,10,11] ?_;refine .ret ?_
  cases h
  exact ⟨_,_,⟨.inr rfl,Ai,Ab,p2⟩,rfl,rfl⟩
 refine cnt (ntt (bf hc)) ?_;refine .sr ?_;refine vk (vbd CF AY A4) ?_
 refine stn ?_ Ab (by decide)
 refine ar [3,4,5,6,8,9] ?_;refine .ret ?_
 cases h
 exact ⟨_,_,⟨.inr rfl,Ai,Ab,p2⟩,rfl,rfl⟩
def Gk (a0:Int) : Option (Bool):=((MV (⟨#[226,138,130,226,138,131,226,134,145,226,136,138,226,141,139,226,141,146,226,136,170,226,137,161,226,137,162,226,141,179]⟩ : ByteArray) a0).bind fun x1=>(some (x1)))
theorem KE {a0:Int} {r:Bool} (h:Gk a0=some r) :
  Fn Tryz.prog 64 [.i .i32 a0] (.d (.b r)):=by
 unfold Gk at h
 refine Fn.o1 2 5 Tryz.func64 ?_;refine .sr ?_;refine ar [0,2] ?_;refine .sr ?_;refine va ?_
 obtain ⟨x1,g1,h⟩:=bnd h
 refine vk (Ak (Qg g1) Tryz.call94) ?_;refine ar [2] ?_;refine .ret ?_
 cases h
 exact ⟨rfl,rfl⟩
def G9 (a0:Int) : Option (Bool):=((MV (⟨#[226,138,131,226,141,179,226,136,138,126,226,136,170,226,137,161,226,137,162,226,138,164,226,138,165,226,140,183]⟩ : ByteArray) a0).bind fun x1=>(some (x1)))
theorem KU {a0:Int} {r:Bool} (h:G9 a0=some r) :
  Fn Tryz.prog 38 [.i .i32 a0] (.d (.b r)):=by
 unfold G9 at h
 refine Fn.o1 2 5 Tryz.func38 ?_;refine .sr ?_;refine ar [0,2] ?_;refine .sr ?_;refine va ?_
 obtain ⟨x1,g1,h⟩:=bnd h
 refine vk (Ak (Qg g1) Tryz.call94) ?_;refine ar [2] ?_;refine .ret ?_
 cases h
 exact ⟨rfl,rfl⟩
def Cw (a0:(List Int)) (K0:Int→Int→Bool→Bool→Option (Int×Int)) : Nat→Int→Int→Bool→Bool→Int→Option (Int×Int)
 | 0,_,_,_,_,_=>none
 | k+1,s5,s6,s7,s8,s9=>(if s9<((List.length a0:Nat):Int) then ((rd? a0 s9).bind fun x10=>(if x10<0 then (some (0,3)) else (Option.bind ((if s7=true then (some true) else ((rd? a0 s9).bind fun x12=>(some (decide (x12=0))))):Option (Bool)) fun (z11:Bool)=>(if s8=true then (Cw a0 K0 k s5 s6 z11 true (w64 (s9+1))) else ((rd? a0 s9).bind fun x13=>(Cw a0 K0 k s5 s6 z11 (decide (4096<x13)) (w64 (s9+1)))))))) else (K0 s5 s6 s7 s8))
def CU (a0:(List Int)) (K2:Int→Int→Int→Option (Int×Int)) : Nat→Int→Int→Int→Int→Option (Int×Int)
 | 0,_,_,_,_=>none
 | k+1,s17,s18,s19,s20=>(if s20<((List.length a0:Nat):Int) then ((rd? a0 s20).bind fun x21=>(if 4096<(w64 (s19 * x21)) then (some (0,8)) else ((rd? a0 s20).bind fun x22=>(CU a0 K2 k s17 s18 (w64 (s19 * x22)) (w64 (s20+1)))))) else (K2 s17 s18 s19))
def Fj (a0:(List Int)) : Option (Int×Int):=(if 8<((List.length a0:Nat) : Int) then (some (0,4)) else (jn (fun (z1:Int) (z2:Int) (z3:Bool) (z4:Bool)=>(if z4=true then (some (0,8)) else (if z3=true then (some (0,0)) else (jn (fun (z14:Int) (z15:Int) (z16:Int)=>(some (z16,0))) fun K2=>(CU a0 K2 Az z1 z2 1 0))))) fun K0=>(Cw a0 K0 Az 0 0 false false 0)))
theorem NO {a0:(List Int)} {r:Int×Int} (h:Fj a0=some r) :
  Fn Tryz.prog 73 [.sl (Is a0)] (.tup [.d (.i .i64 r.1),.d (.i .i64 r.2)]):=by
 unfold Fj at h
 refine Fn.of (rs:=[.tmp 2,.tmp 3]) (nt:=61) Tryz.func73 rfl rfl rfl (by simp) rfl ?_;refine .sr ?_;refine asd ?_;refine ar [0,2,3] ?_;refine .seq ?_;refine .sr ?_;refine va ?_;refine vk (AR (Ag _) (Cp _) Cf) ?_;refine vb ?_;refine rk [0,2,3,11] ?_
 rcases brc h with ⟨hc,h⟩|⟨hc,h⟩
 ·refine cnt (dT hc) ?_
  refine .sr ?_;refine asd ?_;refine ar [0,2,3] ?_;refine .ret ?_
  cases h
  exact ⟨by decide,rfl,rfl,rfl⟩
 refine cnf (dF hc) ?_;refine .sk ?_;refine .sr ?_;refine asd ?_;refine ar [0,2,3,4,5] ?_;refine .seq ?_;refine .sr ?_;refine ar [0,2,3,4,5,6] ?_
 obtain ⟨K0,hK0,h⟩:=AA h
 refine AW.mr (σ:=Int×Int×Bool×Bool) (fun p=>K0 p.1 p.2.1 p.2.2.1 p.2.2.2=some r) (fun p=>[(0,.d (.sl (Is a0))),(2,.d (.i .i64 p.1)),(3,.d (.i .i64 p.2.1)),(4,.d (.b p.2.2.1)),(5,.d (.b p.2.2.2))]) (fun p=>[]) ?_ ?_
 ·skip
  refine .block ?_
  refine .loop (.gk [0,2,3,4,5,6] ?_)
  refine AL.ind (σ:=Nat×Int×Int×Bool×Bool×Int) (m:=fun p=>p.1) (e:=fun p=>[(0,.d (.sl (Is a0))),(2,.d (.i .i64 p.2.1)),(3,.d (.i .i64 p.2.2.1)),(4,.d (.b p.2.2.2.1)),(5,.d (.b p.2.2.2.2.1)),(6,.d (.i .i64 p.2.2.2.2.2))]) (h:=fun p=>[]) (I:=fun p=>Cw a0 K0 p.1 p.2.1 p.2.2.1 p.2.2.2.1 p.2.2.2.2.1 p.2.2.2.2.2=some r) ?_ (Az,0,0,false,false,0) h
  rintro ⟨k,s5,s6,s7,s8,s9⟩ h ih
  dsimp only at h ih ⊢
  rcases k with _|k
  ·rw [Cw] at h;cases h
  rw [Cw] at h
  refine .seq ?_;refine .sr ?_;refine va ?_;refine va ?_;refine vk (AR (Ag _) (Cp _) Cf) ?_;refine vb ?_;refine rk [0,2,3,4,5,6,15] ?_
  rcases brc h with ⟨hc,h⟩|⟨hc,h⟩
  ·refine cnt (dT hc) ?_
   refine .sk ?_;refine .seq ?_;refine .block ?_;refine .seq ?_;refine .sr ?_;refine va ?_;refine va ?_
   obtain ⟨x10,g10,h⟩:=bnd h
   obtain ⟨n10,p010,q10⟩:=Af g10
   refine vk (vix n10 p010 (Bp q10) rfl Bj) ?_;refine vk (Ah AI) ?_;refine vb ?_;refine rk [0,2,3,4,5,6,22] ?_
   rcases brc h with ⟨hc,h⟩|⟨hc,h⟩
   ·refine cnt (dT hc) ?_
    refine .sr ?_;refine asd ?_;refine ar [0,2,3,4,5,6] ?_;refine .ret ?_
    cases h
    exact ⟨by decide,rfl,rfl,rfl⟩
   refine cnf (dF hc) ?_;refine .sk ?_;refine .seq ?_
   obtain ⟨z11,hz,h⟩:=bnd h
   refine AW.mr (σ:=Unit) (fun _=>True) (fun _=>[(0,.d (.sl (Is a0))),(2,.d (.i .i64 s5)),(3,.d (.i .i64 s6)),(4,.d (.b z11)),(5,.d (.b s8)),(6,.d (.i .i64 s9))]) (fun _=>[]) ?_ ?_
   ·skip
    refine .region ?_;refine va ?_
    rcases brc hz with ⟨hc,hz⟩|⟨hc,hz⟩
    ·have hb0:s7=true:=hc
     refine vL hb0 ?_;refine gf4 ?_;refine gf ?_;refine vk Aj ?_;refine asd ?_;refine RL.gk [0,2,3,4,5,6] ?_;refine .nil ?_
     cases hz
     exact jr () trivial
    have hb0:s7=false:=(bf hc)
    refine vL hb0 ?_;refine va ?_;refine va ?_
    obtain ⟨x12,g12,hz⟩:=bnd hz
    obtain ⟨n12,p012,q12⟩:=Af g12
    refine vk (vix n12 p012 (Bp q12) rfl Bj) ?_;refine vk (Ah AI) ?_;refine vb ?_;refine vk Aj ?_;refine asd ?_;refine RL.gk [0,2,3,4,5,6] ?_;refine .nil ?_
    cases hz
    exact jr () trivial
   rintro _ _
   refine .region ?_;refine va ?_
   rcases brc h with ⟨hc,h⟩|⟨hc,h⟩
   ·have hb0:s8=true:=hc
    refine vL hb0 ?_;refine gf4 ?_;refine gf ?_;refine vk Aj ?_;refine asd ?_;refine .nil ?_;refine aw ?_;refine .gk [0,2,3,4,5,6] ?_;refine .region ?_;refine va ?_;refine vb ?_;refine asd ?_;refine .nil ?_;refine AL.gk [0,2,3,4,5,6] ?_
    exact ih (k,s5,s6,z11,true,(w64 (s9+1))) h (Nat.lt_succ_self _)
   have hb0:s8=false:=(bf hc)
   refine vL hb0 ?_;refine va ?_;refine va ?_
   obtain ⟨x13,g13,h⟩:=bnd h
   obtain ⟨n13,p013,q13⟩:=Af g13
   refine vk (vix n13 p013 (Bp q13) rfl Bj) ?_;refine vk (Ah AI) ?_;refine vb ?_;refine vk Aj ?_;refine asd ?_;refine .nil ?_;refine aw ?_;refine .gk [0,2,3,4,5,6] ?_;refine .region ?_;refine va ?_;refine vb ?_;refine asd ?_;refine .nil ?_;refine AL.gk [0,2,3,4,5,6] ?_
   exact ih (k,s5,s6,z11,(decide (4096<x13)),(w64 (s9+1))) h (Nat.lt_succ_self _)
  refine cnf (dF hc) ?_;refine .gk [0,2,3,4,5] ?_;refine .exit ?_
  exact jr (s5,s6,s7,s8) h
 rintro ⟨z1,z2,z3,z4⟩ h
 try dsimp only at h ⊢
 subst hK0
 refine aw ?_;refine .seq ?_;refine .sr ?_;refine va ?_;refine rk [0,2,3,4,39] ?_
 rcases brc h with ⟨hc,h⟩|⟨hc,h⟩
 ·refine cnt hc ?_
  refine .sr ?_;refine asd ?_;refine ar [0,2,3,4] ?_;refine .ret ?_
  cases h
  exact ⟨by decide,rfl,rfl,rfl⟩
 refine cnf (bf hc) ?_;refine .sk ?_;refine .seq ?_;refine .sr ?_;refine va ?_;refine rk [0,2,3,40] ?_
 rcases brc h with ⟨hc,h⟩|⟨hc,h⟩
 ·refine cnt hc ?_
  refine .sr ?_;refine asd ?_;refine ar [0,2,3] ?_;refine .ret ?_
  cases h
  exact ⟨by decide,rfl,rfl,rfl⟩
 refine cnf (bf hc) ?_;refine .sk ?_;refine .sr ?_;refine ar [0,2,3,7] ?_;refine .seq ?_;refine .sr ?_;refine ar [0,2,3,7,8] ?_
 obtain ⟨K2,hK2,h⟩:=AA h
 refine AW.mr (σ:=Int×Int×Int) (fun p=>K2 p.1 p.2.1 p.2.2=some r) (fun p=>[(2,.d (.i .i64 p.1)),(3,.d (.i .i64 p.2.1)),(7,.d (.i .i64 p.2.2))]) (fun p=>[]) ?_ ?_
 ·skip
  refine .block ?_
  refine .loop (.gk [0,2,3,7,8] ?_)
  refine AL.ind (σ:=Nat×Int×Int×Int×Int) (m:=fun p=>p.1) (e:=fun p=>[(0,.d (.sl (Is a0))),(2,.d (.i .i64 p.2.1)),(3,.d (.i .i64 p.2.2.1)),(7,.d (.i .i64 p.2.2.2.1)),(8,.d (.i .i64 p.2.2.2.2))]) (h:=fun p=>[]) (I:=fun p=>CU a0 K2 p.1 p.2.1 p.2.2.1 p.2.2.2.1 p.2.2.2.2=some r) ?_ (Az,z1,z2,1,0) h
  rintro ⟨k,s17,s18,s19,s20⟩ h ih
  dsimp only at h ih ⊢
  rcases k with _|k
  ·rw [CU] at h;cases h
  rw [CU] at h
  refine .seq ?_;refine .sr ?_;refine va ?_;refine va ?_;refine vk (AR (Ag _) (Cp _) Cf) ?_;refine vb ?_;refine rk [0,2,3,7,8,44] ?_
  rcases brc h with ⟨hc,h⟩|⟨hc,h⟩
  ·refine cnt (dT hc) ?_
   refine .sk ?_;refine .seq ?_;refine .block ?_;refine .seq ?_;refine .sr ?_;refine va ?_;refine va ?_;refine va ?_
   obtain ⟨x21,g21,h⟩:=bnd h
   obtain ⟨n21,p021,q21⟩:=Af g21
   refine vk (vix n21 p021 (Bp q21) rfl Bj) ?_;refine vk (Ah AI) ?_;refine vb ?_;refine vb ?_;refine rk [0,2,3,7,8,53] ?_
   rcases brc h with ⟨hc,h⟩|⟨hc,h⟩
   ·refine cnt (dT hc) ?_
    refine .sr ?_;refine asd ?_;refine ar [0,2,3,7,8] ?_;refine .ret ?_
    cases h
    exact ⟨by decide,rfl,rfl,rfl⟩
   refine cnf (dF hc) ?_;refine .sk ?_;refine .region ?_;refine va ?_;refine va ?_;refine va ?_
   obtain ⟨x22,g22,h⟩:=bnd h
   obtain ⟨n22,p022,q22⟩:=Af g22
   refine vk (vix n22 p022 (Bp q22) rfl Bj) ?_;refine vk (Ah AI) ?_;refine vb ?_;refine asd ?_;refine .nil ?_;refine aw ?_;refine .gk [0,2,3,7,8] ?_;refine .region ?_;refine va ?_;refine vb ?_;refine asd ?_;refine .nil ?_;refine AL.gk [0,2,3,7,8] ?_
   exact ih (k,s17,s18,(w64 (s19 * x22)),(w64 (s20+1))) h (Nat.lt_succ_self _)
  refine cnf (dF hc) ?_;refine .gk [2,3,7] ?_;refine .exit ?_
  exact jr (s17,s18,s19) h
 rintro ⟨z14,z15,z16⟩ h
 try dsimp only at h ⊢
 subst hK2
 refine aw ?_;refine .sr ?_;refine va ?_;refine asd ?_;refine ar [2,3] ?_;refine .ret ?_
 cases h
 exact ⟨by decide,rfl,rfl,rfl⟩
def CE (a0:Arr) : Option (Bool):=(Option.bind ((if ((List.length a0.shape:Nat) : Int)=0 then (if ((List.length a0.items:Nat) : Int)=1 then ((rd? a0.items 0).bind fun x2=>(some (!(decide (x2.kind=3))))) else (some false)) else (some false)) : Option (Bool)) fun (z1:Bool)=>(some (z1)))
theorem GW {a0:Arr} {r:Bool} (h:CE a0=some r) :
  Fn Tryz.prog 86 [.ag [.sl (Is a0.shape),.sl (Its a0.items)]] (.d (.b r)):=by
 unfold CE at h
 refine Fn.o1 2 21 Tryz.func86 ?_;refine .sr ?_;refine vk vbx ?_;refine ar [1,2] ?_;refine .seq ?_
 obtain ⟨z1,hz,h⟩:=bnd h
 refine AW.mr (σ:=Unit) (fun _=>True) (fun _=>[(2,.d (.b z1))]) (fun _=>[]) ?_ ?_
 ·skip
  refine .region ?_;refine vk (vfa A3) ?_;refine vk (Ah Cg) ?_;refine vk (AR (Ag _) (Cp _) Cf) ?_;refine vb ?_
  rcases brc hz with ⟨hc,hz⟩|⟨hc,hz⟩
  ·have hb0:(decide (((List.length a0.shape:Nat):Int)=0))=true:=(dT hc)
   refine vL hb0 ?_;refine vk (vfa AM) ?_;refine vk (Ah Bo) ?_;refine vk (AR (Ap _) (Bv _) Br) ?_;refine vb ?_;refine vk Aj ?_
   rcases brc hz with ⟨hc,hz⟩|⟨hc,hz⟩
   ·have hb1:(decide (((List.length a0.items:Nat):Int)=1))=true:=(dT hc)
    refine vL hb1 ?_;refine vk (vfa AM) ?_;refine vk (Ah Bo) ?_
    obtain ⟨x2,g2,hz⟩:=bnd hz
    obtain ⟨n2,p02,q2⟩:=Af g2
    refine vk (vix n2 p02 (BY q2) rfl BX) ?_;refine vk (vfa BF) ?_;refine vk (Ah A1) ?_;refine vb ?_;refine vk Aj ?_;refine asd ?_;refine RL.gk [2] ?_;refine .nil ?_
    cases hz
    exact jr () trivial
   have hb1:(decide (((List.length a0.items:Nat):Int)=1))=false:=(dF hc)
   refine vL hb1 ?_;refine gf4 ?_;refine gf2 ?_;refine vk Aj ?_;refine asd ?_;refine RL.gk [2] ?_;refine .nil ?_
   cases hz
   exact jr () trivial
  have hb0:(decide (((List.length a0.shape:Nat):Int)=0))=false:=(dF hc)
  refine vL hb0 ?_;refine gf4 ?_;refine vk Aj ?_;refine va ?_;refine gf4 ?_;refine gf2 ?_;refine vk Aj ?_;refine asd ?_;refine RL.gk [2] ?_;refine .nil ?_
  cases hz
  exact jr () trivial
 rintro _ _
 refine .ret ?_
 cases h
 exact ⟨rfl,rfl⟩
def D2 (a0:Itm) : Option (Bool):=(some (((!a0.num.1)&&((decide (((List.length a0.num.2.1:Nat) : Int)=0))&&(decide (((List.length a0.num.2.2:Nat) : Int)=0))))))
theorem II {a0:Itm} {r:Bool} (h:D2 a0=some r) :
  Fn Tryz.prog 85 [.ag [.i .u8 a0.kind,.b a0.num.1,.sl (L a0.num.2.1),.sl (L a0.num.2.2),.i .i32 a0.char,.sl (Ars a0.box)]] (.d (.b r)):=by
 unfold D2 at h
 refine Fn.o1 2 21 Tryz.func85 ?_;refine .sr ?_;refine vk vbx ?_;refine ar [1,2] ?_;refine .seq ?_;refine AW.mr (σ:=Unit) (fun _=>True) (fun _=>[(2,.d (.b ((!a0.num.1)&&((decide (((List.length a0.num.2.1:Nat):Int)=0))&&(decide (((List.length a0.num.2.2:Nat):Int)=0))))))]) (fun _=>[]) ?_ ?_
 ·skip
  refine .region ?_;refine vk (vfa Bn) ?_;refine vk (vfa Ez) ?_;refine vk (Ah Dt) ?_;refine vk vnt ?_
  by_cases hc:a0.num.1=true
  ·have hb0:(!a0.num.1)=false:=(ntf hc)
   refine vL hb0 ?_;refine gf4 ?_;refine gf ?_;refine vk Aj ?_;refine va ?_;refine gf4 ?_;refine gf ?_;refine vk Aj ?_;refine asd ?_;refine RL.gk [2] ?_;refine .nil ?_
   exact jr () trivial (by simp only [hb0];rfl)
  have hb0:(!a0.num.1)=true:=(ntt (bf hc))
  refine vL hb0 ?_;refine vk (vfa Bn) ?_;refine vk (vfa Ed) ?_;refine vk (Ah FB) ?_;refine vk (AR (Aa _) (Bg _) NQ) ?_;refine vb ?_;refine vk Aj ?_
  by_cases hc:((List.length a0.num.2.1:Nat):Int)=0
  ·have hb1:(decide (((List.length a0.num.2.1:Nat):Int)=0))=true:=(dT hc)
   refine vL hb1 ?_;refine vk (vfa Bn) ?_;refine vk (vfa G6) ?_;refine vk (Ah FB) ?_;refine vk (AR (Aa _) (Bg _) NQ) ?_;refine vb ?_;refine vk Aj ?_;refine asd ?_;refine RL.gk [2] ?_;refine .nil ?_
   exact jr () trivial (by simp only [hb0,hb1];rfl)
  have hb1:(decide (((List.length a0.num.2.1:Nat):Int)=0))=false:=(dF hc)
  refine vL hb1 ?_;refine gf4 ?_;refine gf ?_;refine vk Aj ?_;refine asd ?_;refine RL.gk [2] ?_;refine .nil ?_
  exact jr () trivial (by simp only [hb0,hb1];rfl)
 rintro _ _
 refine .ret ?_
 cases h
 exact ⟨rfl,rfl⟩
def AS (rc_ref03_measure:Arr→Int→Int→Option (Bool×Int×Int)) (a0:Arr) (a1:Int) (a2:Int) (K1:Bool→Int→Int→Int→Int→Option (Bool×Int×Int)) : Nat→Bool→Int→Int→Int→Int→Int→Option (Bool×Int×Int)
 | 0,_,_,_,_,_,_=>none
 | k+1,s8,s9,s10,s11,s12,s13=>(if s13<((List.length a0.items:Nat):Int) then (jn (fun (z14:Int) (z15:Int)=>(AS rc_ref03_measure a0 a1 a2 K1 k s8 s9 s10 z14 z15 (w64 (s13+1)))) fun K3=>((rd? a0.items s13).bind fun x16=>(Option.bind ((if x16.kind=1 then ((Jh x16.num).bind fun x18=>(if x18=true then (if x16.char=0 then (some (decide (((List.length x16.box:Nat):Int)=0))) else (some false)) else (some false))) else (some false)):Option (Bool)) fun (z17:Bool)=>(if z17=true then (K3 s11 s12) else (Option.bind ((if x16.kind=2 then ((EU x16.char).bind fun x20=>(if x20=true then ((D2 x16).bind fun x21=>(if x21=true then (some (decide (((List.length x16.box:Nat):Int)=0))) else (some false))) else (some false))) else (some false)):Option (Bool)) fun (z19:Bool)=>(if z19=true then (K3 s11 s12) else (Option.bind ((if x16.kind=3 then (if ((List.length x16.box:Nat):Int)=1 then ((D2 x16).bind fun x23=>(if x23=true then (if x16.char=0 then ((rd? x16.box 0).bind fun x24=>((CE x24).bind fun x25=>(some (!x25)))) else (some false)) else (some false))) else (some false)) else (some false)):Option (Bool)) fun (z22:Bool)=>(if z22=true then ((rd? x16.box 0).bind fun x26=>((rc_ref03_measure x26 (w64 (a1+1)) (w64 (a2-s12))).bind fun x27=>(if x27.1=true then (jn (fun (z28:Int)=>(K3 z28 (w64 (s12+x27.2.2)))) fun K4=>(if s11<x27.2.1 then (K4 x27.2.1) else (K4 s11))) else (some (false,0,0))))) else (some (false,0,0)))))))))) else (K1 s8 s9 s10 s11 s12))
def C0 (rc_ref03_measure:Arr→Int→Int→Option (Bool×Int×Int)) (a0:Arr) (a1:Int) (a2:Int) : Option (Bool×Int×Int):=((Fj a0.shape).bind fun x1=>(if ((!(decide (x1.2=0)))||(decide (16<a1)))=true then (some (false,0,0)) else (jn (fun (z2:Int)=>(if ((!(decide (((List.length a0.items:Nat) : Int)=z2)))||(decide (a2<z2)))=true then (some (false,0,0)) else (jn (fun (z3:Bool) (z4:Int) (z5:Int) (z6:Int) (z7:Int)=>((CE a0).bind fun x29=>(jn (fun (z30:Int)=>(some ((decide (z7≤a2)),z30,z7))) fun K5=>(if x29=true then (K5 z6) else (K5 (w64 (z6+1))))))) fun K1=>(AS rc_ref03_measure a0 a1 a2 K1 Az false 0 0 0 z2 0)))) fun K0=>(if x1.1=0 then (K0 1) else (K0 x1.1)))))
set_option maxHeartbeats 4000000 in
theorem KR {rc_ref03_measure:Arr→Int→Int→Option (Bool×Int×Int)} (orc_ref03_measure:∀ x0 x1 x2 r,rc_ref03_measure x0 x1 x2=some r→Fn Tryz.prog 134 [.ag [.sl (Is x0.shape),.sl (Its x0.items)],.i .i64 x1,.i .i64 x2] (.tup [.d (.b r.1),.d (.i .i64 r.2.1),.d (.i .i64 r.2.2)])) {a0:Arr} {a1:Int} {a2:Int} {r:Bool×Int×Int} (h:C0 rc_ref03_measure a0 a1 a2=some r) :
  Fn Tryz.prog 134 [.ag [.sl (Is a0.shape),.sl (Its a0.items)],.i .i64 a1,.i .i64 a2] (.tup [.d (.b r.1),.d (.i .i64 r.2.1),.d (.i .i64 r.2.2)]):=by
 unfold C0 at h
 refine Fn.of (rs:=[.tmp 6,.tmp 7,.tmp 8]) (nt:=154) Tryz.func134 rfl rfl rfl (by simp) rfl ?_;refine .sr ?_;refine vk vbx ?_;refine asd ?_;refine asd ?_;refine ar [1,2,3,6,7,8] ?_;refine .sr ?_;refine vk (vfa A3) ?_;refine vk (Ah Cg) ?_
 obtain ⟨x1,g1,h⟩:=bnd h
 refine vk (VOK.tupd (vs:=[.i .i64 x1.1,.i .i64 x1.2]) (Ak (NO g1) Tryz.call73)) ?_;refine va ?_;refine vk vex ?_;refine vk vex ?_;refine asd ?_;refine ar [1,2,3,6,7,8,9,10] ?_;refine .seq ?_;refine .seq ?_;refine AW.mr (σ:=Unit) (fun _=>True) (fun _=>[(1,.d (.i .i64 a1)),(2,.d (.i .i64 a2)),(3,.d (.ptr [.sl (Is a0.shape),.sl (Its a0.items)])),(6,.d (.b false)),(7,.d (.i .i64 0)),(8,.d (.i .i64 0)),(9,.d (.i .i64 x1.1)),(29,.d (.b ((!(decide (x1.2=0)))||(decide (16<a1)))))]) (fun _=>[]) ?_ ?_
 ·skip
  refine .region ?_;refine va ?_;refine vb ?_
  by_cases hc:x1.2=0
  ·have hb0:(!(decide (x1.2=0)))=false:=(ntf (dT hc))
   refine vL hb0 ?_;refine va ?_;refine vb ?_;refine vk Aj ?_;refine RL.gk [1,2,3,6,7,8,9,29] ?_;refine .nil ?_
   exact jr () trivial (by simp only [hb0];rfl)
  have hb0:(!(decide (x1.2=0)))=true:=(ntt (dF hc))
  refine vL hb0 ?_;refine gf2 ?_;refine vk Aj ?_;refine RL.gk [1,2,3,6,7,8,9,29] ?_;refine .nil ?_
  exact jr () trivial (by simp only [hb0];rfl)
 rintro _ _
 rcases brc h with ⟨hc,h⟩|⟨hc,h⟩
 ·refine cnt hc ?_
  refine .sr ?_;refine asd ?_;refine asd ?_;refine ar [1,2,3,6,7,8,9] ?_;refine .ret ?_
  cases h
  exact ⟨⟨by decide,by decide,by decide⟩,rfl,rfl,rfl,rfl⟩
 refine cnf (bf hc) ?_;refine .sk ?_;refine .seq ?_;refine .sr ?_;refine va ?_;refine vb ?_;refine rk [1,2,3,6,7,8,9,31] ?_
 obtain ⟨K0,hK0,h⟩:=AA h
 refine AW.mr (σ:=Int) (fun p=>K0 p=some r) (fun p=>[(1,.d (.i .i64 a1)),(2,.d (.i .i64 a2)),(3,.d (.ptr [.sl (Is a0.shape),.sl (Its a0.items)])),(6,.d (.b false)),(7,.d (.i .i64 0)),(8,.d (.i .i64 0)),(9,.d (.i .i64 p))]) (fun p=>[]) ?_ ?_
 ·skip
  rcases brc h with ⟨hc,h⟩|⟨hc,h⟩
  ·refine cnt (dT hc) ?_
   refine .region ?_;refine asd ?_;refine RL.gk [1,2,3,6,7,8,9] ?_;refine .nil ?_
   exact jr (1) h
  refine cnf (dF hc) ?_;refine .gk [1,2,3,6,7,8,9] ?_;refine .skip ?_
  exact jr (x1.1) h
 rintro z2 h
 try dsimp only at h ⊢
 subst hK0
 refine aw ?_;refine .seq ?_;refine .seq ?_;refine AW.mr (σ:=Unit) (fun _=>True) (fun _=>[(1,.d (.i .i64 a1)),(2,.d (.i .i64 a2)),(3,.d (.ptr [.sl (Is a0.shape),.sl (Its a0.items)])),(6,.d (.b false)),(7,.d (.i .i64 0)),(8,.d (.i .i64 0)),(9,.d (.i .i64 z2)),(41,.d (.b ((!(decide (((List.length a0.items:Nat):Int)=z2)))||(decide (a2<z2)))))]) (fun _=>[]) ?_ ?_
 ·skip
  refine .region ?_;refine vk (vfa AM) ?_;refine vk (Ah Bo) ?_;refine vk (AR (Ap _) (Bv _) Br) ?_;refine va ?_;refine vb ?_
  by_cases hc:((List.length a0.items:Nat):Int)=z2
  ·have hb0:(!(decide (((List.length a0.items:Nat):Int)=z2)))=false:=(ntf (dT hc))
   refine vL hb0 ?_;refine va ?_;refine va ?_;refine vb ?_;refine vk Aj ?_;refine RL.gk [1,2,3,6,7,8,9,41] ?_;refine .nil ?_
   exact jr () trivial (by simp only [hb0];rfl)
  have hb0:(!(decide (((List.length a0.items:Nat):Int)=z2)))=true:=(ntt (dF hc))
  refine vL hb0 ?_;refine gf3 ?_;refine vk Aj ?_;refine RL.gk [1,2,3,6,7,8,9,41] ?_;refine .nil ?_
  exact jr () trivial (by simp only [hb0];rfl)
 rintro _ _
 rcases brc h with ⟨hc,h⟩|⟨hc,h⟩
 ·refine cnt hc ?_
  refine .sr ?_;refine asd ?_;refine asd ?_;refine ar [1,2,3,6,7,8,9] ?_;refine .ret ?_
  cases h
  exact ⟨⟨by decide,by decide,by decide⟩,rfl,rfl,rfl,rfl⟩
 refine cnf (bf hc) ?_;refine .sk ?_;refine .sr ?_;refine ar [1,2,3,6,7,8,9,11] ?_;refine .sr ?_;refine va ?_;refine ar [1,2,3,6,7,8,11,12] ?_;refine .seq ?_;refine .sr ?_;refine ar [1,2,3,6,7,8,11,12,13] ?_
 obtain ⟨K1,hK1,h⟩:=AA h
 refine AW.mr (σ:=Bool×Int×Int×Int×Int) (fun p=>K1 p.1 p.2.1 p.2.2.1 p.2.2.2.1 p.2.2.2.2=some r) (fun p=>[(2,.d (.i .i64 a2)),(3,.d (.ptr [.sl (Is a0.shape),.sl (Its a0.items)])),(6,.d (.b p.1)),(7,.d (.i .i64 p.2.1)),(8,.d (.i .i64 p.2.2.1)),(11,.d (.i .i64 p.2.2.2.1)),(12,.d (.i .i64 p.2.2.2.2))]) (fun p=>[]) ?_ ?_
 ·skip
  refine .block ?_
  refine .loop (.gk [1,2,3,6,7,8,11,12,13] ?_)
  refine AL.ind (σ:=Nat×Bool×Int×Int×Int×Int×Int) (m:=fun p=>p.1) (e:=fun p=>[(1,.d (.i .i64 a1)),(2,.d (.i .i64 a2)),(3,.d (.ptr [.sl (Is a0.shape),.sl (Its a0.items)])),(6,.d (.b p.2.1)),(7,.d (.i .i64 p.2.2.1)),(8,.d (.i .i64 p.2.2.2.1)),(11,.d (.i .i64 p.2.2.2.2.1)),(12,.d (.i .i64 p.2.2.2.2.2.1)),(13,.d (.i .i64 p.2.2.2.2.2.2))]) (h:=fun p=>[]) (I:=fun p=>AS rc_ref03_measure a0 a1 a2 K1 p.1 p.2.1 p.2.2.1 p.2.2.2.1 p.2.2.2.2.1 p.2.2.2.2.2.1 p.2.2.2.2.2.2=some r) ?_ (Az,false,0,0,0,z2,0) h
  rintro ⟨k,s8,s9,s10,s11,s12,s13⟩ h ih
  dsimp only at h ih ⊢
  rcases k with _|k
  ·rw [AS] at h;cases h
  rw [AS] at h
  refine .seq ?_;refine .sr ?_;refine va ?_;refine vk (vfa AM) ?_;refine vk (Ah Bo) ?_;refine vk (AR (Ap _) (Bv _) Br) ?_;refine vb ?_;refine rk [1,2,3,6,7,8,11,12,13,47] ?_
  rcases brc h with ⟨hc,h⟩|⟨hc,h⟩
  ·refine cnt (dT hc) ?_
   refine .sk ?_
   obtain ⟨K3,hK3,h⟩:=AA h
   refine AW.mj (σ:=Int×Int) (fun p=>K3 p.1 p.2=some r) (fun p=>[(1,.d (.i .i64 a1)),(2,.d (.i .i64 a2)),(3,.d (.ptr [.sl (Is a0.shape),.sl (Its a0.items)])),(6,.d (.b s8)),(7,.d (.i .i64 s9)),(8,.d (.i .i64 s10)),(11,.d (.i .i64 p.1)),(12,.d (.i .i64 p.2)),(13,.d (.i .i64 s13))]) (fun p=>[]) ?_ ?_
   ·skip
    refine .block ?_;refine .sr ?_;refine vk (vfa AM) ?_;refine vk (Ah Bo) ?_;refine va ?_
    obtain ⟨x16,g16,h⟩:=bnd h
    obtain ⟨n16,p016,q16⟩:=Af g16
    refine vk (vix n16 p016 (BY q16) rfl BX) ?_;refine vk (Aq AX Au) ?_;refine vk (van (Al Co) Cm) ?_
    refine stn ?_ Au (by decide)
    refine rk [1,2,3,6,7,8,11,12,13,14] ?_;refine .block ?_;refine .seq ?_;refine .gh (Gh.nbp (t:=14) rfl) ?_
    obtain ⟨z17,hz,h⟩:=bnd h
    refine AW.mr (σ:=Unit) (fun _=>True) (fun _=>[(1,.d (.i .i64 a1)),(2,.d (.i .i64 a2)),(3,.d (.ptr [.sl (Is a0.shape),.sl (Its a0.items)])),(6,.d (.b s8)),(7,.d (.i .i64 s9)),(8,.d (.i .i64 s10)),(11,.d (.i .i64 s11)),(12,.d (.i .i64 s12)),(13,.d (.i .i64 s13)),(14,.d (.ptr [.i .u8 x16.kind,.b x16.num.1,.sl (L x16.num.2.1),.sl (L x16.num.2.2),.i .i32 x16.char,.sl (Ars x16.box)])),(55,.d (.b z17))]) (fun _=>[]) ?_ ?_
    ·skip
     refine .region ?_;refine vk (vfa BF) ?_;refine vk (Ah A1) ?_;refine vb ?_
     rcases brc hz with ⟨hc,hz⟩|⟨hc,hz⟩
     ·have hb0:(decide (x16.kind=1))=true:=(dT hc)
      refine vL hb0 ?_;refine vk (vfa Bn) ?_;refine vk (Aq A7 AF) ?_
      obtain ⟨x18,g18,hz⟩:=bnd hz
      refine vk (Ak (PQ g18) Tryz.call183) ?_;refine vk Aj ?_
      rcases brc hz with ⟨hc,hz⟩|⟨hc,hz⟩
      ·have hb1:x18=true:=hc
       refine vL hb1 ?_;refine vk (vfa CJ) ?_;refine vk (Ah CI) ?_;refine vb ?_;refine vk Aj ?_
       rcases brc hz with ⟨hc,hz⟩|⟨hc,hz⟩
       ·have hb2:(decide (x16.char=0))=true:=(dT hc)
        refine vL hb2 ?_;refine vk (vfa A5) ?_;refine vk (Ah BJ) ?_;refine vk (AR (A6 _) (CW _) CY) ?_;refine vb ?_;refine vk Aj ?_;refine asd ?_;refine RL.gk [1,2,3,6,7,8,11,12,13,14,55] ?_;refine .nil ?_
        cases hz
        exact jr () trivial
       have hb2:(decide (x16.char=0))=false:=(dF hc)
       refine vL hb2 ?_;refine gf4 ?_;refine vk Aj ?_;refine asd ?_;refine RL.gk [1,2,3,6,7,8,11,12,13,14,55] ?_;refine .nil ?_
       cases hz
       exact jr () trivial
      have hb1:x18=false:=(bf hc)
      refine vL hb1 ?_;refine gf3 ?_;refine vk Aj ?_;refine va ?_;refine gf4 ?_;refine vk Aj ?_;refine asd ?_;refine RL.gk [1,2,3,6,7,8,11,12,13,14,55] ?_;refine .nil ?_
      cases hz
      exact jr () trivial
     have hb0:(decide (x16.kind=1))=false:=(dF hc)
     refine vL hb0 ?_;refine gf3 ?_;refine vk Aj ?_;refine va ?_;refine gf3 ?_;refine vk Aj ?_;refine va ?_;refine gf4 ?_;refine vk Aj ?_;refine asd ?_;refine RL.gk [1,2,3,6,7,8,11,12,13,14,55] ?_;refine .nil ?_
     cases hz
     exact jr () trivial
    rintro _ _
    rcases brc h with ⟨hc,h⟩|⟨hc,h⟩
    ·refine cnt hc ?_
     refine .gk [1,2,3,6,7,8,11,12,13] ?_;refine .skip ?_
     exact jr (s11,s12) h
    refine cnf (bf hc) ?_;refine .seq ?_
    obtain ⟨z19,hz,h⟩:=bnd h
    refine AW.mr (σ:=Unit) (fun _=>True) (fun _=>[(1,.d (.i .i64 a1)),(2,.d (.i .i64 a2)),(3,.d (.ptr [.sl (Is a0.shape),.sl (Its a0.items)])),(6,.d (.b s8)),(7,.d (.i .i64 s9)),(8,.d (.i .i64 s10)),(11,.d (.i .i64 s11)),(12,.d (.i .i64 s12)),(13,.d (.i .i64 s13)),(14,.d (.ptr [.i .u8 x16.kind,.b x16.num.1,.sl (L x16.num.2.1),.sl (L x16.num.2.2),.i .i32 x16.char,.sl (Ars x16.box)])),(75,.d (.b z19))]) (fun _=>[]) ?_ ?_
    ·skip
     refine .region ?_;refine vk (vfa BF) ?_;refine vk (Ah A1) ?_;refine vb ?_
     rcases brc hz with ⟨hc,hz⟩|⟨hc,hz⟩
     ·have hb0:(decide (x16.kind=2))=true:=(dT hc)
      refine vL hb0 ?_;refine vk (vfa CJ) ?_;refine vk (Ah CI) ?_
      obtain ⟨x20,g20,hz⟩:=bnd hz
      refine vk (Ak (LZ g20) Tryz.call184) ?_;refine vk Aj ?_
      rcases brc hz with ⟨hc,hz⟩|⟨hc,hz⟩
      ·have hb1:x20=true:=hc
       refine vL hb1 ?_;refine vk (Aq AX Au) ?_
       obtain ⟨x21,g21,hz⟩:=bnd hz
       refine vk (Ak (II g21) Tryz.call85) ?_;refine vk Aj ?_
       rcases brc hz with ⟨hc,hz⟩|⟨hc,hz⟩
       ·have hb2:x21=true:=hc
        refine vL hb2 ?_;refine vk (vfa A5) ?_;refine vk (Ah BJ) ?_;refine vk (AR (A6 _) (CW _) CY) ?_;refine vb ?_;refine vk Aj ?_;refine asd ?_;refine RL.gk [1,2,3,6,7,8,11,12,13,14,75] ?_;refine .nil ?_
        cases hz
        exact jr () trivial
       have hb2:x21=false:=(bf hc)
       refine vL hb2 ?_;refine gf4 ?_;refine vk Aj ?_;refine asd ?_;refine RL.gk [1,2,3,6,7,8,11,12,13,14,75] ?_;refine .nil ?_
       cases hz
       exact jr () trivial
      have hb1:x20=false:=(bf hc)
      refine vL hb1 ?_;refine gf2 ?_;refine vk Aj ?_;refine va ?_;refine gf4 ?_;refine vk Aj ?_;refine asd ?_;refine RL.gk [1,2,3,6,7,8,11,12,13,14,75] ?_;refine .nil ?_
      cases hz
      exact jr () trivial
     have hb0:(decide (x16.kind=2))=false:=(dF hc)
     refine vL hb0 ?_;refine gf3 ?_;refine vk Aj ?_;refine va ?_;refine gf2 ?_;refine vk Aj ?_;refine va ?_;refine gf4 ?_;refine vk Aj ?_;refine asd ?_;refine RL.gk [1,2,3,6,7,8,11,12,13,14,75] ?_;refine .nil ?_
     cases hz
     exact jr () trivial
    rintro _ _
    rcases brc h with ⟨hc,h⟩|⟨hc,h⟩
    ·refine cnt hc ?_
     refine .gk [1,2,3,6,7,8,11,12,13] ?_;refine .skip ?_
     exact jr (s11,s12) h
    refine cnf (bf hc) ?_;refine .seq ?_
    obtain ⟨z22,hz,h⟩:=bnd h
    refine AW.mr (σ:=Unit) (fun _=>True) (fun _=>[(1,.d (.i .i64 a1)),(2,.d (.i .i64 a2)),(3,.d (.ptr [.sl (Is a0.shape),.sl (Its a0.items)])),(6,.d (.b s8)),(7,.d (.i .i64 s9)),(8,.d (.i .i64 s10)),(11,.d (.i .i64 s11)),(12,.d (.i .i64 s12)),(13,.d (.i .i64 s13)),(14,.d (.ptr [.i .u8 x16.kind,.b x16.num.1,.sl (L x16.num.2.1),.sl (L x16.num.2.2),.i .i32 x16.char,.sl (Ars x16.box)])),(94,.d (.b z22))]) (fun _=>[]) ?_ ?_
    ·skip
     refine .region ?_;refine vk (vfa BF) ?_;refine vk (Ah A1) ?_;refine vb ?_
     rcases brc hz with ⟨hc,hz⟩|⟨hc,hz⟩
     ·have hb0:(decide (x16.kind=3))=true:=(dT hc)
      refine vL hb0 ?_;refine vk (vfa A5) ?_;refine vk (Ah BJ) ?_;refine vk (AR (A6 _) (CW _) CY) ?_;refine vb ?_;refine vk Aj ?_
      rcases brc hz with ⟨hc,hz⟩|⟨hc,hz⟩
      ·have hb1:(decide (((List.length x16.box:Nat):Int)=1))=true:=(dT hc)
       refine vL hb1 ?_;refine vk (Aq AX Au) ?_
       obtain ⟨x23,g23,hz⟩:=bnd hz
       refine vk (Ak (II g23) Tryz.call85) ?_;refine vk Aj ?_
       rcases brc hz with ⟨hc,hz⟩|⟨hc,hz⟩
       ·have hb2:x23=true:=hc
        refine vL hb2 ?_;refine vk (vfa CJ) ?_;refine vk (Ah CI) ?_;refine vb ?_;refine vk Aj ?_
        rcases brc hz with ⟨hc,hz⟩|⟨hc,hz⟩
        ·have hb3:(decide (x16.char=0))=true:=(dT hc)
         refine vL hb3 ?_;refine vk (vfa A5) ?_;refine vk (Ah BJ) ?_
         obtain ⟨x24,g24,hz⟩:=bnd hz
         obtain ⟨n24,p024,q24⟩:=Af g24
         refine vk (vix n24 p024 (Dl q24) rfl Dj) ?_;refine vk (Aq Ai Ab) ?_
         obtain ⟨x25,g25,hz⟩:=bnd hz
         refine vk (Ak (GW g25) Tryz.call86) ?_;refine vk vnt ?_;refine vk Aj ?_;refine asd ?_;refine RL.gk [1,2,3,6,7,8,11,12,13,14,94] ?_;refine .nil ?_
         cases hz
         exact jr () trivial
        have hb3:(decide (x16.char=0))=false:=(dF hc)
        refine vL hb3 ?_;refine gf4 ?_;refine gf2 ?_;refine vk Aj ?_;refine asd ?_;refine RL.gk [1,2,3,6,7,8,11,12,13,14,94] ?_;refine .nil ?_
        cases hz
        exact jr () trivial
       have hb2:x23=false:=(bf hc)
       refine vL hb2 ?_;refine gf3 ?_;refine vk Aj ?_;refine va ?_;refine gf4 ?_;refine gf2 ?_;refine vk Aj ?_;refine asd ?_;refine RL.gk [1,2,3,6,7,8,11,12,13,14,94] ?_;refine .nil ?_
       cases hz
       exact jr () trivial
      have hb1:(decide (((List.length x16.box:Nat):Int)=1))=false:=(dF hc)
      refine vL hb1 ?_;refine gf2 ?_;refine vk Aj ?_;refine va ?_;refine gf3 ?_;refine vk Aj ?_;refine va ?_;refine gf4 ?_;refine gf2 ?_;refine vk Aj ?_;refine asd ?_;refine RL.gk [1,2,3,6,7,8,11,12,13,14,94] ?_;refine .nil ?_
      cases hz
      exact jr () trivial
     have hb0:(decide (x16.kind=3))=false:=(dF hc)
     refine vL hb0 ?_;refine gf4 ?_;refine vk Aj ?_;refine va ?_;refine gf2 ?_;refine vk Aj ?_;refine va ?_;refine gf3 ?_;refine vk Aj ?_;refine va ?_;refine gf4 ?_;refine gf2 ?_;refine vk Aj ?_;refine asd ?_;refine RL.gk [1,2,3,6,7,8,11,12,13,14,94] ?_;refine .nil ?_
     cases hz
     exact jr () trivial
    rintro _ _
    rcases brc h with ⟨hc,h⟩|⟨hc,h⟩
    ·refine cnt hc ?_
     refine .sr ?_;refine vk (vfa A5) ?_;refine vk (Ah BJ) ?_
     obtain ⟨x26,g26,h⟩:=bnd h
     obtain ⟨n26,p026,q26⟩:=Af g26
     refine vk (vix n26 p026 (Dl q26) rfl Dj) ?_;refine vk (Aq Ai Ab) ?_;refine va ?_;refine vb ?_;refine va ?_;refine va ?_;refine vb ?_
     obtain ⟨x27,g27,h⟩:=bnd h
     refine vk (VOK.tupd (vs:=[.b x27.1,.i .i64 x27.2.1,.i .i64 x27.2.2]) (Ak (orc_ref03_measure _ _ _ _ g27) Tryz.call134)) ?_;refine va ?_;refine vk vex ?_;refine vk vex ?_;refine vk vex ?_;refine asd ?_;refine asd ?_;refine ar [1,2,3,6,7,8,11,12,13,15,16,17] ?_;refine .seq ?_;refine .sr ?_;refine va ?_;refine vk vnt ?_;refine rk [1,2,3,6,7,8,11,12,13,16,17,136] ?_
     rcases brc h with ⟨hc,h⟩|⟨hc,h⟩
     ·refine cnf (ntf hc) ?_
      refine .sk ?_;refine .seq ?_;refine .sr ?_;refine va ?_;refine va ?_;refine vb ?_;refine rk [1,2,3,6,7,8,11,12,13,16,17,139] ?_
      obtain ⟨K4,hK4,h⟩:=AA h
      refine AW.mr (σ:=Int) (fun p=>K4 p=some r) (fun p=>[(1,.d (.i .i64 a1)),(2,.d (.i .i64 a2)),(3,.d (.ptr [.sl (Is a0.shape),.sl (Its a0.items)])),(6,.d (.b s8)),(7,.d (.i .i64 s9)),(8,.d (.i .i64 s10)),(11,.d (.i .i64 p)),(12,.d (.i .i64 s12)),(13,.d (.i .i64 s13)),(17,.d (.i .i64 x27.2.2))]) (fun p=>[]) ?_ ?_
      ·skip
       rcases brc h with ⟨hc,h⟩|⟨hc,h⟩
       ·refine cnt (dT hc) ?_
        refine .region ?_;refine va ?_;refine asd ?_;refine RL.gk [1,2,3,6,7,8,11,12,13,17] ?_;refine .nil ?_
        exact jr (x27.2.1) h
       refine cnf (dF hc) ?_;refine .gk [1,2,3,6,7,8,11,12,13,17] ?_;refine .skip ?_
       exact jr (s11) h
      rintro z28 h
      try dsimp only at h ⊢
      subst hK4
      refine aw ?_;refine .region ?_;refine va ?_;refine va ?_;refine vb ?_;refine asd ?_;refine RL.gk [1,2,3,6,7,8,11,12,13] ?_;refine .nil ?_
      exact jr (z28,(w64 (s12+x27.2.2))) h
     refine cnt (ntt (bf hc)) ?_;refine .sr ?_;refine asd ?_;refine asd ?_;refine ar [1,2,3,6,7,8,11,12,13,16,17] ?_;refine .ret ?_
     cases h
     exact ⟨⟨by decide,by decide,by decide⟩,rfl,rfl,rfl,rfl⟩
    refine cnf (bf hc) ?_;refine .sr ?_;refine asd ?_;refine asd ?_;refine ar [1,2,3,6,7,8,11,12,13] ?_;refine .ret ?_
    cases h
    exact ⟨⟨by decide,by decide,by decide⟩,rfl,rfl,rfl,rfl⟩
   rintro ⟨z14,z15⟩ h
   try dsimp only at h ⊢
   subst hK3
   refine .region ?_;refine va ?_;refine vb ?_;refine asd ?_;refine .nil ?_;refine AL.gk [1,2,3,6,7,8,11,12,13] ?_
   exact ih (k,s8,s9,s10,z14,z15,(w64 (s13+1))) h (Nat.lt_succ_self _)
  refine cnf (dF hc) ?_;refine .gk [2,3,6,7,8,11,12] ?_;refine .exit ?_
  exact jr (s8,s9,s10,s11,s12) h
 rintro ⟨z3,z4,z5,z6,z7⟩ h
 try dsimp only at h ⊢
 subst hK1
 refine aw ?_;refine .seq ?_;refine .sr ?_;refine vk (Aq Ai Ab) ?_
 obtain ⟨x29,g29,h⟩:=bnd h
 refine vk (Ak (GW g29) Tryz.call86) ?_;refine vk vnt ?_;refine rk [2,6,7,8,11,12,146] ?_
 obtain ⟨K5,hK5,h⟩:=AA h
 refine AW.mr (σ:=Int) (fun p=>K5 p=some r) (fun p=>[(2,.d (.i .i64 a2)),(6,.d (.b z3)),(7,.d (.i .i64 z4)),(8,.d (.i .i64 z5)),(11,.d (.i .i64 p)),(12,.d (.i .i64 z7))]) (fun p=>[]) ?_ ?_
 ·skip
  rcases brc h with ⟨hc,h⟩|⟨hc,h⟩
  ·refine cnf (ntf hc) ?_
   refine .gk [2,6,7,8,11,12] ?_;refine .skip ?_
   exact jr (z6) h
  refine cnt (ntt (bf hc)) ?_;refine .region ?_;refine va ?_;refine vb ?_;refine asd ?_;refine RL.gk [2,6,7,8,11,12] ?_;refine .nil ?_
  exact jr ((w64 (z6+1))) h
 rintro z30 h
 try dsimp only at h ⊢
 subst hK5
 refine aw ?_;refine .sr ?_;refine va ?_;refine va ?_;refine vb ?_;refine va ?_;refine va ?_;refine asd ?_;refine asd ?_;refine ar [6,7,8] ?_;refine .ret ?_
 cases h
 exact ⟨⟨by decide,by decide,by decide⟩,rfl,rfl,rfl,rfl⟩
def Da : Nat→Arr→Int→Int→Option (Bool×Int×Int)
 | 0,_,_,_=>none
 | k+1,a0,a1,a2=>C0 (Da k) a0 a1 a2
theorem GU : ∀ (k:Nat) (a0:Arr) (a1:Int) (a2:Int) (r:Bool×Int×Int),Da k a0 a1 a2=some r→Fn Tryz.prog 134 [.ag [.sl (Is a0.shape),.sl (Its a0.items)],.i .i64 a1,.i .i64 a2] (.tup [.d (.b r.1),.d (.i .i64 r.2.1),.d (.i .i64 r.2.2)])
 | 0,_,_,_,_,h=>by cases h
 | k+1,a0,a1,a2,_,h=>KR (GU k)  (show C0 (Da k) a0 a1 a2=some _ from h)
def HJ (a0:Arr) (a1:Int) (a2:Int) : Option (Bool×Int×Int):=Da (a0.size+1) a0 a1 a2
theorem LS {a0:Arr} {a1:Int} {a2:Int} {r:Bool×Int×Int} (h:HJ a0 a1 a2=some r) : Fn Tryz.prog 134 [.ag [.sl (Is a0.shape),.sl (Its a0.items)],.i .i64 a1,.i .i64 a2] (.tup [.d (.b r.1),.d (.i .i64 r.2.1),.d (.i .i64 r.2.2)]):=GU _ a0 a1 a2 r  h
def FF (a0:Arr) : Option (Bool):=((HJ a0 0 16384).bind fun x1=>(some ((x1.1&&(decide (x1.2.1≤16))))))
theorem Ny {a0:Arr} {r:Bool} (h:FF a0=some r) :
  Fn Tryz.prog 74 [.ag [.sl (Is a0.shape),.sl (Its a0.items)]] (.d (.b r)):=by
 unfold FF at h
 refine Fn.o1 2 17 Tryz.func74 ?_;refine .sr ?_;refine vk vbx ?_;refine ar [1,2] ?_;refine .sr ?_;refine vk (Aq Ai Ab) ?_
 obtain ⟨x1,g1,h⟩:=bnd h
 refine vk (VOK.tupd (vs:=[.b x1.1,.i .i64 x1.2.1,.i .i64 x1.2.2]) (Ak (LS g1) Tryz.call134)) ?_;refine va ?_;refine vk vex ?_;refine vk vex ?_;refine vk vex ?_;refine asd ?_;refine asd ?_;refine ar [2,3,4] ?_;refine .seq ?_;refine AW.mr (σ:=Unit) (fun _=>True) (fun _=>[(2,.d (.b (x1.1&&(decide (x1.2.1≤16)))))]) (fun _=>[]) ?_ ?_
 ·skip
  refine .region ?_;refine va ?_
  by_cases hc:x1.1=true
  ·have hb0:x1.1=true:=hc
   refine vL hb0 ?_;refine va ?_;refine vb ?_;refine vk Aj ?_;refine asd ?_;refine RL.gk [2] ?_;refine .nil ?_
   exact jr () trivial (by simp only [hb0];rfl)
  have hb0:x1.1=false:=(bf hc)
  refine vL hb0 ?_;refine gf2 ?_;refine vk Aj ?_;refine asd ?_;refine RL.gk [2] ?_;refine .nil ?_
  exact jr () trivial (by simp only [hb0];rfl)
 rintro _ _
 refine .ret ?_
 cases h
 exact ⟨rfl,rfl⟩
theorem OH {s:List Int} (hl:s.length≤8) (K:Int→Int→Bool→Bool→Option (Int×Int)) (u v:Int) : ∀ (n i k:Nat) (b g:Bool),n=s.length-i→i≤s.length→n<k →
  Cw s K k u v b g (i:Int)=if (s.drop i).any (fun n=>decide (n<0)) then some (0,3) else K u v (b||decide (0∈s.drop i)) (g||(s.drop i).any (fun n=>decide (4096<n)))
 | _,_,0,_,_,_,_,h=>by omega
 | n,i,k+1,b,g,hn,hi,hk=>by
  rw [Cw]
  by_cases hlt:i<s.length
  ·rw [if_pos (by omega),BO hlt,oB,lC hlt,List.any_cons]
   by_cases h0:s[i]<0
   ·rw [if_pos h0,if_pos (by simp [h0])]
   ·have e:(Option.bind (if b=true then some true else (rd? s (i:Int)).bind fun x12=>some (decide (x12=0))):(Bool→Option (Int×Int))→_)=fun f=>f (b||decide (s[i]=0)):=by
     funext f
     cases b
     ·rw [if_neg (by decide),BO hlt];rfl
     ·rw [if_pos rfl];rfl
    rw [if_neg h0,BO hlt] at *
    rw [oB] at e
    rw [oB,e]
    have ih:=fun b g=>OH hl K u v (n-1) (i+1) k b g (by omega) (by omega) (by omega)
    rw [B6 (by omega)]
    have hm:decide (0∈s[i]::s.drop (i+1))=(decide (s[i]=0)||decide (0∈s.drop (i+1))):=by
     rw [Bool.eq_iff_iff];simp only [List.mem_cons,Bool.or_eq_true,decide_eq_true_eq]
     exact ⟨fun h=>h.imp Eq.symm id,fun h=>h.imp Eq.symm id⟩
    rw [hm,List.any_cons,dF h0,Bool.false_or]
    dsimp only
    cases g
    ·rw [if_neg (by decide),oB,ih,Bool.or_assoc,Bool.false_or]
    ·rw [if_pos (rfl:true=true),ih,Bool.or_assoc,Bool.true_or,Bool.true_or]
  ·rw [if_neg (by omega),List.drop_of_length_le (by omega)]
   simp
theorem Ou {s:List Int} (hl:s.length≤8) (hp:∀ x∈s,1≤x∧x≤4096) (K:Int→Int→Int→Option (Int×Int)) : ∀ (n i k:Nat) (a b m:Int),n=s.length-i→i≤s.length→n<k→1≤m→m≤4096 →
  CU s K k a b m (i:Int)=if m * Ec (s.drop i)≤4096 then K a b (m * Ec (s.drop i)) else some (0,8)
 | n,i,0,a,b,m,_,_,h,_,_=>by omega
 | n,i,k+1,a,b,m,hn,hi,hk,h1,h2=>by
  rw [CU]
  by_cases hlt:i<s.length
  ·rw [if_pos (by omega),BO hlt,oB,lC hlt]
   have hx:=hp s[i] (List.getElem_mem _)
   have hpos:1≤Ec (s.drop (i+1)):=KJ fun x hx=>(hp x (List.mem_of_mem_drop hx)).1
   have hprod:Ec (s[i]::s.drop (i+1))=s[i] * Ec (s.drop (i+1)):=by unfold Ec;rw [List.foldl_cons,Lb,Int.one_mul]
   have hup:m * s[i]≤4096 * 4096:=Int.le_trans (Int.mul_le_mul_of_nonneg_right h2 (by omega)) (Int.mul_le_mul_of_nonneg_left hx.2 (by omega))
   have hm1:1≤m * s[i]:=Int.le_trans (by omega:(1:Int)≤1 * 1) (Int.mul_le_mul h1 hx.1 (by omega) (by omega))
   rw [hprod,← Int.mul_assoc,CN (by omega) (by omega)]
   by_cases hc:4096<m * s[i]
   ·rw [if_pos hc,if_neg]
    have:m * s[i] * 1≤m * s[i] * Ec (s.drop (i+1)):=Int.mul_le_mul_of_nonneg_left hpos (by omega)
    omega
   ·rw [if_neg hc,oB,B6 (by omega),CN (by omega) (by omega)]
    exact Ou hl hp K (n-1) (i+1) k a b (m * s[i]) (by omega) (by omega) (by omega) hm1 (by omega)
  ·rw [if_neg (by omega),List.drop_of_length_le (by omega)]
   rw [show Ec []=1 from rfl,Int.mul_one,if_pos h2]
theorem TR (s:List Int) : Fj s=some (szP s):=by
 unfold Fj szP
 by_cases h8:8<s.length
 ·rw [if_pos (by omega),if_pos h8]
 rw [if_neg (by omega),if_neg h8,BW]
 have e1:=fun K=>OH (s:=s) (by omega) K 0 0 s.length 0 Az false false rfl (Nat.zero_le _) (B0 (by omega))
 simp only [List.drop_zero,Bool.false_or] at e1
 rw [show ((0:Nat):Int)=0 from rfl] at e1
 rw [e1]
 by_cases h0:s.any (fun n=>decide (n<0))=true
 ·rw [if_pos h0,if_pos h0]
 rw [if_neg h0,if_neg h0]
 by_cases h1:s.any (fun n=>decide (4096<n))=true
 ·rw [if_pos h1,if_pos h1]
 rw [if_neg h1,if_neg h1]
 by_cases h2:0∈s
 ·rw [if_pos (dT h2),if_pos h2]
 rw [if_neg (by simp [h2]),if_neg h2,BW]
 have hp:∀ x∈s,1≤x∧x≤4096:=fun x hx=>by
  simp only [List.any_eq_true,decide_eq_true_eq,not_exists,not_and] at h0 h1
  have a:=h0 x hx
  have b:=h1 x hx
  have c:x≠0:=fun e=>h2 (e▸hx)
  omega
 have:=Ou (by omega) hp (fun z4 z5 z6=>some (z6,0)) s.length 0 Az 0 0 1 rfl (Nat.zero_le _) (B0 (by omega)) (by omega) (by omega)
 rw [List.drop_zero,Int.one_mul,show ((0:Nat):Int)=0 from rfl] at this
 rw [this]
 split<;>rfl
theorem My (x:Itm) : D2 x=some (Dn x):=by
 unfold D2 Dn
 simp
theorem LN (a:Arr) : CE a=some (AK a):=by
 unfold CE AK
 by_cases h:a.shape=[]
 ·rw [if_pos (by rw [h];rfl),h]
  match hi:a.items with
  | []=>rfl
  | [x]=>simp [rd?]
  | x::y::r =>
   rw [if_neg (by simp only [List.length_cons];omega)]
   rfl
 ·rw [if_neg]
  ·have:a.shape.isEmpty=false:=by simpa using h
   rw [this];rfl
  ·intro q
   exact h (List.length_eq_zero_iff.1 (by omega))
def SJ (f:Int→Int→Option (Bool×Int×Int)) (r:Bool) (n dp:Nat) : Prop:=∀ (deep:Nat) (most:Int),deep≤17→-16384≤most→most≤16384 →
 ∃ b d c,f (deep:Int) most=some (b,d,c)∧(b=true→r=true∧d=(dp:Int)∧c=(n:Int)∧(n:Int)≤most∧deep+dp≤17)∧(r=true→deep+dp≤17→deep≤16→(n:Int)≤most→b=true)
theorem LQ {rc:Arr→Int→Int→Option (Bool×Int×Int)} {a:Arr} {deep:Nat} {most:Int} (hd:deep≤16) (hm1:most≤16384) (ho:∀ x∈a.items,okI x) (hlen:a.items.length≤4096) (hrc:∀ x∈a.items,∀ b∈x.box,SJ (rc b) (rA b) (cA b) (dA b))
  (hns:∀ x∈a.items,∀ b∈x.box,AK b=false→1≤dA b) (K:Bool→Int→Int→Int→Int→Option (Bool×Int×Int)) (u:Bool) (v w:Int):∀ (n i k:Nat) (D C:Nat),n=a.items.length-i→i≤a.items.length→n<k→(C:Int)≤most→D≤17 →
  (AS rc a (deep:Int) most K k u v w (D:Int) (C:Int) (i:Int)=some (false,0,0)∧¬(rIs (a.items.drop i)=true∧(dIs (a.items.drop i)=0∨deep+1+dIs (a.items.drop i)≤17)∧((C+cIs (a.items.drop i):Nat):Int)≤most)) ∨
  (AS rc a (deep:Int) most K k u v w (D:Int) (C:Int) (i:Int)=K u v w ((max D (dIs (a.items.drop i)):Nat):Int) ((C+cIs (a.items.drop i):Nat):Int)∧rIs (a.items.drop i)=true∧((C+cIs (a.items.drop i):Nat):Int)≤most∧(dIs (a.items.drop i)=0∨deep+1+dIs (a.items.drop i)≤17))
 | _,_,0,_,_,_,_,h,_,_=>by omega
 | n,i,k+1,D,C,hn,hi,hk,hC,hD=>by
  rw [AS]
  by_cases hlt:i<a.items.length
  rotate_left
  ·rw [if_neg (by omega),List.drop_of_length_le (by omega)]
   refine .inr ⟨?_,rfl,by simpa [cIs] using hC,.inl rfl⟩
   simp [dIs,cIs]
  have ih:=fun D C=>LQ hd hm1 ho hlen hrc hns K u v w (n-1) (i+1) k D C (by omega) (by omega) (by omega)
  have hmem:=List.getElem_mem hlt
  have hox:=(Ea _).1 (ho _ hmem)
  have hrb:=hrc _ hmem
  have hnb:=hns _ hmem
  rw [if_pos (by omega),BO hlt,lC hlt,BW,oB,B6 (by omega)]
  simp only [rIs,dIs,cIs]
  generalize a.items[i]=x at *
  generalize a.items.drop (i+1)=xs at *
  have e0:(((x.box.length:Nat):Int)=0)↔x.box.length=0:=by omega
  have e1:(((x.box.length:Nat):Int)=1)↔x.box.length=1:=by omega
  -- an item without a box that is right
  have plain:rI x=true→x.box=[] →
    (AS rc a (deep:Int) most K k u v w (D:Int) (C:Int) ((i+1:Nat):Int)=some (false,0,0)∧¬((rI x&&rIs xs)=true∧(max (dI x) (dIs xs)=0∨deep+1+max (dI x) (dIs xs)≤17)∧((C+(cI x+cIs xs):Nat):Int)≤most)) ∨
    (AS rc a (deep:Int) most K k u v w (D:Int) (C:Int) ((i+1:Nat):Int)=K u v w ((max D (max (dI x) (dIs xs)):Nat):Int) ((C+(cI x+cIs xs):Nat):Int)∧(rI x&&rIs xs)=true∧((C+(cI x+cIs xs):Nat):Int)≤most∧(max (dI x) (dIs xs)=0∨deep+1+max (dI x) (dIs xs)≤17)):=by
   intro hr hb
   have hd0:dI x=0:=by rw [OP,hb];simp [dBs]
   have hc0:cI x=0:=by rw [M5,hb];simp [cBs]
   rw [hr,hd0,hc0,Bool.true_and,Nat.zero_add,Nat.zero_max]
   exact ih D C hC hD
  have bad:rI x=false→(some (false,(0:Int),(0:Int))=some (false,(0:Int),(0:Int))∧¬((rI x&&rIs xs)=true∧(max (dI x) (dIs xs)=0∨deep+1+max (dI x) (dIs xs)≤17)∧((C+(cI x+cIs xs):Nat):Int)≤most)) ∨
    (some (false,(0:Int),(0:Int))=K u v w ((max D (max (dI x) (dIs xs)):Nat):Int) ((C+(cI x+cIs xs):Nat):Int)∧(rI x&&rIs xs)=true∧((C+(cI x+cIs xs):Nat):Int)≤most∧(max (dI x) (dIs xs)=0∨deep+1+max (dI x) (dIs xs)≤17)):=fun hr=>.inl ⟨rfl,by rw [hr];simp⟩
  by_cases k1:x.kind=1
  ·have hrI:rI x=(Bz x.num&&(decide (x.char=0)&&decide (x.box.length=0))):=by rw [Mq,if_pos k1]
   have c1:∀ f:Bool→Option (Bool×Int×Int),Option.bind (if x.kind=1 then (Jh x.num).bind fun x18=>if x18=true then if x.char=0 then some (decide (((List.length x.box:Nat):Int)=0)) else some false else some false else some false) f=f (rI x):=by
    intro f
    rw [if_pos k1,Pb hox.2.1,oB,hrI]
    cases Bz x.num
    ·rfl
    ·by_cases hc:x.char=0
     ·rw [if_pos rfl,if_pos hc,oB,dT hc,decide_eq_decide.2 e0];rfl
     ·rw [if_pos rfl,if_neg hc,dF hc];rfl
   rw [c1]
   by_cases hr:rI x=true
   ·rw [if_pos hr]
    refine plain hr ?_
    rw [hrI] at hr
    simp only [Bool.and_eq_true,decide_eq_true_eq] at hr
    exact List.length_eq_zero_iff.1 hr.2.2
   ·rw [if_neg hr,if_neg (by omega),oB,if_neg (by decide),if_neg (by omega),oB,if_neg (by decide)]
    exact bad (by simpa using hr)
  rw [if_neg k1,oB,if_neg (by decide)]
  by_cases k2:x.kind=2
  ·have hrI:rI x=(chB x.char&&(Dn x&&decide (x.box.length=0))):=by rw [Mq,if_neg k1,if_pos k2]
   have c1:∀ f:Bool→Option (Bool×Int×Int),Option.bind (if x.kind=2 then (EU x.char).bind fun x20=>if x20=true then (D2 x).bind fun x21=>if x21=true then some (decide (((List.length x.box:Nat):Int)=0)) else some false else some false else some false) f=f (rI x):=by
    intro f
    rw [if_pos k2,show EU x.char=some (chB x.char) from rfl,oB,hrI]
    cases chB x.char
    ·rfl
    ·rw [if_pos rfl,My,oB]
     cases Dn x
     ·rfl
     ·rw [if_pos rfl,oB,decide_eq_decide.2 e0];rfl
   rw [c1]
   by_cases hr:rI x=true
   ·rw [if_pos hr]
    refine plain hr ?_
    rw [hrI] at hr
    simp only [Bool.and_eq_true,decide_eq_true_eq] at hr
    exact List.length_eq_zero_iff.1 hr.2.2
   ·rw [if_neg hr,if_neg (by omega),oB,if_neg (by decide)]
    exact bad (by simpa using hr)
  rw [if_neg k2,oB,if_neg (by decide)]
  by_cases k3:x.kind=3
  rotate_left
  ·rw [if_neg k3,oB,if_neg (by decide)]
   exact bad (by rw [Mq,if_neg k1,if_neg k2,if_neg k3])
  have hrI:rI x=(decide (x.box.length=1)&&(Dn x&&(decide (x.char=0)&&rBs x.box))):=by rw [Mq,if_neg k1,if_neg k2,if_pos k3]
  rw [if_pos k3]
  by_cases h1:x.box.length=1
  rotate_left
  ·rw [if_neg (by omega),oB,if_neg (by decide)]
   exact bad (by rw [hrI,dF h1];rfl)
  obtain ⟨b,hb⟩:=List.length_eq_one_iff.1 h1
  rw [if_pos (by omega),My,oB]
  by_cases h2:Dn x=true
  rotate_left
  ·rw [if_neg h2,oB,if_neg (by decide)]
   exact bad (by rw [hrI,Bool.eq_false_iff.2 h2];simp)
  rw [if_pos h2]
  by_cases h3:x.char=0
  rotate_left
  ·rw [if_neg h3,oB,if_neg (by decide)]
   exact bad (by rw [hrI,dF h3];simp)
  rw [if_pos h3,hb,Mx,oB,LN,oB,oB]
  have hrI':rI x=(!AK b&&rA b):=by rw [hrI,dT h1,h2,dT h3,hb];simp [rBs]
  by_cases h4:AK b=true
  ·rw [if_neg (by rw [h4];decide)]
   exact bad (by rw [hrI',h4];rfl)
  have h4':AK b=false:=by simpa using h4
  rw [if_pos (by rw [h4'];rfl),oB,CN (by omega) (by omega),CN (by omega) (by omega)]
  have hbm:b∈x.box:=by simp [hb]
  have hdI:dI x=dA b:=by rw [OP,hb];simp [dBs]
  have hcI:cI x=cA b:=by rw [M5,hb];simp [cBs]
  have hd1:=hnb b hbm h4'
  obtain ⟨bb,d,c,hf,p1,p2⟩:=hrb b hbm (deep+1) (most-(C:Int)) (by omega) (by omega) (by omega)
  rw [show ((deep:Int)+1)=((deep+1:Nat):Int) by omega,hf,oB]
  rw [hdI,hcI,hrI',h4']
  simp only [Bool.not_false,Bool.true_and]
  by_cases hbb:bb=true
  ·obtain ⟨q1,q2,q3,q4,q5⟩:=p1 hbb
   subst q2 q3
   rw [if_pos hbb,BW,CN (by omega) (by omega),q1,Bool.true_and]
   have hmax:(if (D:Int)<(dA b:Int) then (AS rc a (deep:Int) most K k u v w (dA b:Int) ((C:Int)+(cA b:Int)) ((i+1:Nat):Int)) else (AS rc a (deep:Int) most K k u v w (D:Int) ((C:Int)+(cA b:Int)) ((i+1:Nat):Int)))=AS rc a (deep:Int) most K k u v w ((max D (dA b):Nat):Int) ((C+cA b:Nat):Int) ((i+1:Nat):Int):=by
    split
    ·rw [show max D (dA b)=dA b by omega];rfl
    ·rw [show max D (dA b)=D by omega];rfl
   rw [hmax]
   rcases ih (max D (dA b)) (C+cA b) (by omega) (by omega) with ⟨g1,g2⟩|⟨g1,g2,g3,g4⟩
   ·refine .inl ⟨g1,fun ⟨w1,w2,w3⟩=>g2 ⟨w1,?_,by omega⟩⟩
    rcases w2 with w2|w2
    ·omega
    ·exact .inr (by omega)
   ·refine .inr ⟨?_,g2,by omega,.inr (by omega)⟩
    rw [g1,Nat.max_assoc,Nat.add_assoc]
  ·rw [if_neg hbb]
   refine .inl ⟨rfl,fun ⟨w1,w2,w3⟩=>hbb (p2 ?_ ?_ ?_ ?_)⟩
   ·simp only [Bool.and_eq_true] at w1;exact w1.1
   ·rcases w2 with w2|w2<;>omega
   ·rcases w2 with w2|w2<;>omega
   ·omega
theorem VK {a:Arr} (h:AK a=false) : 1≤dA a:=by rw [Hm,if_neg (by rw [h];decide)];omega
def Te (rc:Arr→Int→Int→Option (Bool×Int×Int)) (a0:Arr) (a1 a2 z2:Int) : Option (Bool×Int×Int):=(if ((!(decide (((List.length a0.items:Nat) : Int)=z2)))||(decide (a2<z2)))=true then (some (false,0,0)) else (jn (fun (_:Bool) (_:Int) (_:Int) (z6:Int) (z7:Int)=>((CE a0).bind fun x29=>(jn (fun (z30:Int)=>(some ((decide (z7≤a2)),z30,z7))) fun K5=>(if x29=true then (K5 z6) else (K5 (w64 (z6+1))))))) fun K1=>(AS rc a0 a1 a2 K1 Az false 0 0 0 z2 0)))
theorem Y3 (rc:Arr→Int→Int→Option (Bool×Int×Int)) (a0:Arr) (a1 a2:Int) : C0 rc a0 a1 a2=(Fj a0.shape).bind fun x1=>if (!decide (x1.2=0)||decide (16<a1))=true then some (false,0,0) else Te rc a0 a1 a2 (if x1.1=0 then 1 else x1.1):=by
 unfold C0
 congr 1
 funext x1
 by_cases h:(!decide (x1.2=0)||decide (16<a1))=true
 ·rw [if_pos h,if_pos h]
 ·rw [if_neg h,if_neg h,BW]
  by_cases q:x1.1=0
  ·rw [if_pos q,if_pos q];rfl
  ·rw [if_neg q,if_neg q];rfl
theorem RA {rc:Arr→Int→Int→Option (Bool×Int×Int)} {a:Arr} (oa:okAr a) (hrc:∀ x∈a.items,∀ b∈x.box,SJ (rc b) (rA b) (cA b) (dA b)) : SJ (C0 rc a) (rA a) (cA a) (dA a):=by
 intro deep most h1 h2 h3
 have o:=(BN a).1 oa
 have hz:=Nz a.shape
 rw [Y3,TR,oB]
 have hrA:=I8 a
 by_cases g1:(szP a.shape).2=0∧deep≤16
 rotate_left
 ·rw [if_pos]
  ·refine ⟨_,_,_,rfl,fun q=>absurd q (by decide),fun q1 q2 q3=>?_⟩
   rw [hrA] at q1
   simp only [Bool.and_eq_true,decide_eq_true_eq] at q1
   exact absurd ⟨q1.1,q3⟩ g1
  ·simp only [Bool.or_eq_true,Bool.not_eq_true',decide_eq_false_iff_not,decide_eq_true_eq]
   by_cases q:(szP a.shape).2=0
   ·exact .inr (by have:¬deep≤16:=fun w=>g1 ⟨q,w⟩;omega)
   ·exact .inl q
 rw [if_neg (by
  simp only [Bool.or_eq_true,Bool.not_eq_true',decide_eq_false_iff_not,decide_eq_true_eq]
  rintro (q|q)
  ·exact q g1.1
  ·omega)]
 have hK:(if (szP a.shape).1=0 then 1 else (szP a.shape).1)=(if (szP a.shape).1<1 then 1 else (szP a.shape).1):=by
  by_cases q:(szP a.shape).1=0
  ·rw [if_pos q,if_pos (by omega)]
  ·rw [if_neg q,if_neg (by omega)]
 rw [hK]
 unfold Te
 by_cases g2:(a.items.length:Int)=(if (szP a.shape).1<1 then 1 else (szP a.shape).1)
 rotate_left
 ·rw [if_pos (by simp [g2])]
  refine ⟨_,_,_,rfl,fun q=>absurd q (by decide),fun q1 q2 q3=>?_⟩
  rw [hrA] at q1
  simp only [Bool.and_eq_true,decide_eq_true_eq] at q1
  exact absurd q1.2.1 g2
 have hcA:=Ip a
 have hdA:=Hm a
 have hlen:a.items.length≤4096:=by split at g2<;>omega
 rw [← g2]
 by_cases g3:most<(a.items.length:Int)
 ·rw [if_pos (by simp [g3])]
  exact ⟨_,_,_,rfl,fun q=>absurd q (by decide),fun _ _ _ q=>by omega⟩
 rw [if_neg (by simpa using g3),BW]
 have hrA':rA a=rIs a.items:=by rw [hrA,dT g1.1,dT g2];rfl
 have loop:=fun K=>LQ (rc:=rc) (a:=a) (deep:=deep) (most:=most) g1.2 h3 o.2.2.2 hlen hrc (fun _ _ b _=>VK) K false 0 0 a.items.length 0 Az 0 a.items.length rfl (Nat.zero_le _) (B0 (by omega)) (by omega) (by omega)
 simp only [List.drop_zero] at loop
 rw [show ((0:Nat):Int)=0 from rfl] at loop
 rcases loop _ with ⟨q1,q2⟩|⟨q1,q2,q3,q4⟩
 ·rw [q1]
  refine ⟨_,_,_,rfl,fun q=>absurd q (by decide),fun w1 w2 w3 w4=>?_⟩
  refine absurd ⟨hrA'▸w1,?_,by rw [← hcA];exact w4⟩ q2
  by_cases hs:AK a=true
  ·exact .inl (Kh hs (hrA'▸w1)).1
  ·rw [if_neg hs] at hdA;exact .inr (by omega)
 ·rw [q1,LN,oB,BW,Nat.zero_max]
  have hdI:dIs a.items≤17:=by omega
  have hdone:(dA a:Int)=if AK a=true then ((dIs a.items:Nat):Int) else w64 (((dIs a.items:Nat):Int)+1):=by
   by_cases hs:AK a=true
   ·rw [if_pos hs,(Kh hs q2).1,hdA,if_pos hs]
   ·rw [if_neg hs,hdA,if_neg hs,CN (by omega) (by omega)];omega
  have hle:decide (((a.items.length+cIs a.items:Nat):Int)≤most)=true:=dT q3
  have hdp:deep+dA a≤17:=by
   rw [hdA]
   by_cases hs:AK a=true
   ·rw [if_pos hs];omega
   ·rw [if_neg hs];omega
  refine ⟨true,(dA a:Int),(cA a:Int),?_,fun _=>⟨by rw [hrA',q2],rfl,rfl,by rw [hcA];exact q3,hdp⟩,fun _ _ _ _=>rfl⟩
  rw [hdone,hcA]
  by_cases hs:AK a=true
  ·rw [if_pos hs,if_pos hs,hle]
  ·rw [if_neg hs,if_neg hs,hle]
theorem Qc : ∀ (k:Nat) {a:Arr},a.size<k→okAr a→SJ (Da k a) (rA a) (cA a) (dA a)
 | 0,_,h,_=>by omega
 | k+1,a,h,oa=>by
  have o:=(BN a).1 oa
  have:=RA (rc:=Da k) oa fun x hx b hb=>Qc k (by have:=Js hx;have:=Hj hb;omega) (((Ea x).1 (o.2.2.2 x hx)).2.2.2.2 b hb)
  exact this
theorem R1 {a:Arr} (oa:okAr a) : FF a=some (decide (Bc a)):=by
 obtain ⟨b,d,c,h1,h2,h3⟩:=Qc _ (Nat.lt_succ_self _) oa 0 16384 (by omega) (by omega) (by omega)
 unfold FF HJ
 rw [show ((0:Nat):Int)=0 from rfl] at h1
 rw [h1,oB]
 show some (b&&decide (d≤16))=_
 congr 1
 by_cases hb:b=true
 ·obtain ⟨q1,q2,q3,q4,q5⟩:=h2 hb
  rw [hb,q2,Bool.true_and]
  refine decide_eq_decide.2 ⟨fun w=>⟨q1,by omega,by omega⟩,fun w=>?_⟩
  have:=w.2.1;omega
 ·have hb':b=false:=by simpa using hb
  rw [hb',Bool.false_and]
  refine (dF fun w=>hb (h3 w.1 ?_ (by omega) ?_)).symm
  ·have:=w.2.1;omega
  ·have:=w.2.2;omega
theorem UN {p:Prop} [Decidable p] (h:p) : Gs p=some ():=if_pos h
theorem S5 {α:Type} {xs:List α} {d:α} {i:Nat} (h:i<xs.length) : xs.getD i d=xs[i]:=by simp [List.getD,lG h]
theorem LH {l:List Arr} (hl:l.length≤17592186044416) (ho:∀ a∈l,okAr a) : C7 (1,(false,[],[]),0) l=some (!l.any fun a=>!decide (Bc a)):=by
 have hc:=NN (xs:=l) (f:=(⟨.fn 96 [] [],fun x=>Du x⟩:BT)) (p:=fun a=>!decide (Bc a)) (fun a ha=>by
  show Du a=_
  unfold Du;rw [Hg (ho a ha)];rfl) hl
 unfold C7
 rw [if_neg (show ¬((1:Int)=0) by decide),if_pos rfl,hc];rfl
theorem T8 {a:Arr} (oa:okAr a) (ra:Bc a) : C7 (1,(false,[],[]),0) [a]=some true:=by
 rw [LH (by simp) (by simpa using oa)];simp [ra]
theorem Tv {a b:Arr} (oa:okAr a) (ra:Bc a) (ob:okAr b) (rb:Bc b) : C7 (1,(false,[],[]),0) [a,b]=some true:=by
 rw [LH (by simp) (by simp [oa,ob])];simp [ra,rb]
theorem S9 {xs:List (List Arr)} {f:Cs} (hf:∀ x∈xs,f.g x=some false) (K:Int→Option Int) (hl:xs.length≤17592186044416) : ∀ (n i k:Nat) (s:Int),n=xs.length-i→i≤xs.length→n<k→CZ xs f K k s (i:Int)=K s
 | n,i,0,s,_,_,h=>by omega
 | n,i,k+1,s,hn,hi,hk=>by
  rw [CZ]
  by_cases hlt:i<xs.length
  ·rw [if_pos (by omega),BO hlt,oB,hf _ (List.getElem_mem _),oB,if_neg (by decide),B6 (by omega)]
   exact S9 hf K hl (n-1) (i+1) k s (by omega) (by omega) (by omega)
  ·rw [if_neg (by omega)]
theorem RK {xs:List (List Arr)} {f:Cs} (hf:∀ x∈xs,f.g x=some false) (hl:xs.length≤17592186044416) : En xs f=some false:=by
 unfold En HL
 rw [BW]
 have:=S9 hf (fun _=>some (-1)) hl xs.length 0 Az 0 rfl (Nat.zero_le _) (B0 (by omega))
 rw [show ((0:Nat):Int)=0 from rfl] at this
 rw [this];rfl
theorem Np {js:List Int} {n:Int} (h64:∀ z∈js,I6 z) (hin:∀ z∈js,1≤z∧z≤n) (hl:js.length≤17592186044416) (K:List Int→Int→List Int→Option (List Int×Int)) (u:List Int) (v:Int) : ∀ (m i k:Nat) (t:List Int),m=js.length-i→i≤js.length→m<k→t.length=i →
  C6 (1,(false,[],[]),0) n (js.map Fh) K k u v t (i:Int)=K u v (t++(js.drop i).map fun z=>z-1)
 | m,i,0,t,_,_,h,_=>by omega
 | m,i,k+1,t,hm,hi,hk,ht=>by
  rw [C6,List.length_map]
  by_cases hlt:i<js.length
  ·have hz:=List.getElem_mem hlt
   have e2:w64 (js[i]-1)=js[i]-1:=by have:=h64 _ hz;have:=hin _ hz;exact CN (by unfold I6 at *;omega) (by unfold I6 at *;omega)
   rw [if_pos (by omega),BO (i:=i) (by rw [List.length_map];exact hlt),oB,List.getElem_map]
   show ((GA (ofQ ((js[i]:Int):Rat))).bind _)=_
   rw [Mw (h64 _ hz),oB]
   dsimp only
   rw [e2,if_neg (by have:=hin _ hz;simp;omega),HB (by simp;omega),oB,B6 (by omega),Np h64 hin hl K u v (m-1) (i+1) k _ (by omega) (by omega) (by omega) (by simp [ht]),lC hlt,List.map_cons,List.append_assoc]
   rfl
  ·rw [if_neg (by omega),List.drop_of_length_le (by omega)];simp
theorem Qd {a:Arr} {js:List Int} {n:Int} (hi:Ch a=some (js.map Fh)) (h64:∀ z∈js,I6 z) (hin:∀ z∈js,1≤z∧z≤n) (hl:js.length≤17592186044416) : Fa (1,(false,[],[]),0) a n=some (js.map fun z=>z-1,0):=by
 unfold Fa
 rw [hi,oB,JC (p:=fun _=>false) (fun x hx=>by
  obtain ⟨z,hz,rfl⟩:=List.mem_map.1 hx
  show E1 (Fh z)=_
  unfold E1
  rw [if_pos (show (Fh z).kind=1 from rfl),show (Fh z).num=ofQ ((z:Int):Rat) from rfl,Tj (Gb (h64 z hz)),oB,dT (Rat.den_intCast _)];rfl) (by rw [List.length_map];exact hl),oB,show ((js.map Fh).any fun _=>false)=false from by simp,if_neg (by decide),BW]
 have:=Np h64 hin hl (fun _ _ (z5:List Int)=>some (z5,(0:Int))) [] 0 js.length 0 Az [] rfl (Nat.zero_le _) (B0 (by omega)) rfl
 rw [List.drop_zero,List.nil_append,show ((0:Nat):Int)=0 from rfl] at this
 exact this
theorem Oy {a1:Arr} {d:Int} (hd:rd? a1.shape 0=some d) {is:List Int} (hin:∀ z∈is,0≤z∧z≤4096) (hl:is.length≤4096) (K:List Int→Option (List Int×List Int×Int)) : ∀ (m i k:Nat) (t:List Int),m=is.length-i→i≤is.length→m<k→t.length=i →
  CC a1 0 0 is K k t (i:Int)=K (t++is.drop i)
 | m,i,0,t,_,_,h,_=>by omega
 | m,i,k+1,t,hm,hi,hk,ht=>by
  rw [CC]
  by_cases hlt:i<is.length
  ·have hz:=hin _ (List.getElem_mem hlt)
   have e:w64 (w64 (0 * d)+is[i])=is[i]:=by rw [Int.zero_mul,show w64 0=0 from rfl,Int.zero_add];exact CN (by omega) (by omega)
   rw [if_pos (by omega),BO hlt,oB,hd,oB,e,HB (by simp;omega),oB,B6 (by omega),Oy hd hin hl K (m-1) (i+1) k _ (by omega) (by omega) (by omega) (by simp [ht]),lC hlt,List.append_assoc]
   rfl
  ·rw [if_neg (by omega),List.drop_of_length_le (by omega)];simp
theorem Se (n:Nat) (h:n≤140737488355328:=by decide) : ∃ k,Az=k+n:=⟨Az-n,by have:=B0 h;omega⟩
theorem U6 {a1:Arr} {d:Int} (hd:rd? a1.shape 0=some d) {is:List Int} (hin:∀ z∈is,0≤z∧z≤4096) (hl:is.length≤4096) (K:List Int→Option (List Int×List Int×Int)) : B7 a1 [is] K Az [0] 0=K is:=by
 obtain ⟨k,hk⟩:=Se 2
 have h10:∀ (K9:List Int→Option (List Int×List Int×Int)),BU a1 [0] K9 0 is Az [] 0=K9 is:=fun K9=>by
  rw [hk]
  rw [BU,if_pos (by decide),BW,show rd? [(0:Int)] 0=some 0 from rfl,oB]
  have:=Oy hd hin hl (fun z35=>BU a1 [0] K9 0 is (k+1) z35 (w64 (0+1))) is.length 0 Az [] rfl (Nat.zero_le _) (B0 (by omega)) rfl
  rw [List.drop_zero,List.nil_append,show ((0:Nat):Int)=0 from rfl] at this
  rw [this,BU,if_neg (by decide)]
 rw [hk]
 rw [B7,if_pos (by simp),BW,show rd? [is] 0=some is from rfl,oB,BW,h10]
 show B7 a1 [is] K (k+1) is (w64 (0+1))=_
 rw [B7,if_neg (by rw [show w64 (0+1)=1 from rfl,List.length_singleton];decide)]
theorem OJ {xs:List Itm} (h:VR xs) {g:Arr} (og:okAr g) (rg:Bc g) {is:List Int} (hi:Fa (1,(false,[],[]),0) g (xs.length:Int)=some (is,0)) (hin:∀ z∈is,0≤z∧z≤4096) (hl:is.length≤4096) {m:Int} (hm:szP g.shape=(m,0)) (hm0:m≠0) :
  Eu (1,(false,[],[]),0) (vec xs) [[g]]=some (is,g.shape,0):=by
 have og':=(BN _).1 og
 unfold Eu
 rw [RK (fun x hx=>by
  rw [List.mem_singleton] at hx;subst hx
  show EQ [g]=_
  unfold EQ
  rw [if_neg (by simp),if_pos (by simp),show rd? [g] 0=some g from rfl,oB,Hg og,dT rg];rfl) (by simp),oB,if_neg (by decide),if_pos (by simp [vec,Arr.shape]),BW]
 obtain ⟨k,hk⟩:=Se 2
 have e7:=U6 (a1:=vec xs) (d:=(xs.length:Int)) rfl hin hl (fun z27=>some (z27,g.shape,0))
 rw [hk,C4,if_pos (by simp),BW,show rd? [[g]] 0=some [g] from rfl,oB,show rd? (vec xs).shape 0=some (xs.length:Int) from rfl,oB,BW,if_neg (by simp),show rd? [g] 0=some g from rfl,oB,hi,oB,if_pos rfl,oB,
  HB (by have:=og'.2.1;simpa using this),oB,HB (by simp),oB,List.nil_append,List.nil_append]
 dsimp only
 rw [C4,if_neg (by rw [show w64 (0+1)=1 from rfl,List.length_singleton];decide),Jo og'.2.1,hm,oB,if_pos rfl,if_neg hm0,BW,← hk,e7]
theorem SA {a1:Arr} {x2:List Int×List Int×Int} (hin:∀ z∈x2.1,0≤z∧z<(a1.items.length:Int)) (hl:x2.1.length≤4096) (K:List Itm→Option (Arr×Int)) : ∀ (m i k:Nat) (t:List Itm),m=x2.1.length-i→i≤x2.1.length→m<k→t.length=i →
  EC a1 x2 K k t (i:Int)=K (t++(x2.1.drop i).map fun z=>a1.items.getD z.toNat default)
 | m,i,0,t,_,_,h,_=>by omega
 | m,i,k+1,t,hm,hi,hk,ht=>by
  rw [EC]
  by_cases hlt:i<x2.1.length
  ·have hz:=hin _ (List.getElem_mem hlt)
   obtain ⟨j,hj⟩:∃ j:Nat,x2.1[i]=(j:Int):=⟨x2.1[i].toNat,by omega⟩
   rw [hj] at hz
   have hjl:j<a1.items.length:=by omega
   rw [if_pos (by omega),BO hlt,oB,hj,BO hjl,oB,HB (by simp;omega),oB,B6 (by omega),SA hin hl K (m-1) (i+1) k _ (by omega) (by omega) (by omega) (by simp [ht]),lC hlt,List.map_cons,List.append_assoc,hj,Int.toNat_natCast,
    S5 hjl]
   rfl
  ·rw [if_neg (by omega),List.drop_of_length_le (by omega)];simp
theorem Y8 {xs:List Itm} (h:VR xs) {q:List (List Arr)} {is sh:List Int} (hw:Eu (1,(false,[],[]),0) (vec xs) q=some (is,sh,0)) (hin:∀ z∈is,0≤z∧z<(xs.length:Int)) (hl:is.length≤4096) (h0:is≠[]) {r:Arr} {e:Int}
  (hr:AT sh (is.map fun z=>xs.getD z.toNat default)=some (r,e)):GP (1,(false,[],[]),0) (vec xs) q=some (r,e):=by
 unfold GP
 rw [T8 h.ok h.2.2.2,oB,if_pos rfl,hw,oB,if_pos rfl,BW]
 have:=SA (a1:=vec xs) (x2:=(is,sh,0)) hin hl
  (fun z3=>jn (fun (z9:List Itm)=>((AT sh z9).bind fun x12=>(some (x12.1,x12.2)))) fun K2=>(if ((List.length z3:Nat):Int)=0 then ((Dr (vec xs)).bind fun x10=>((ap? 1466015503701 z3 [x10]).bind fun x11=>(K2 x11))) else (K2 z3)))
  is.length 0 Az [] rfl (Nat.zero_le _) (B0 (by omega)) rfl
 rw [List.drop_zero,List.nil_append,show ((0:Nat):Int)=0 from rfl] at this
 rw [this,BW]
 have hne:¬(((List.length (List.map (fun z=>(vec xs).items.getD z.toNat default) is):Nat):Int)=0):=by
  have:=List.length_pos_iff.2 h0
  rw [List.length_map];omega
 rw [if_neg hne]
 show ((AT sh (is.map fun z=>xs.getD z.toNat default)).bind _)=_
 rw [hr];rfl
theorem Xn {xs:List Itm} (h:VR xs) {j:Int} (hj:1≤j∧j≤(xs.length:Int)) {r:Arr} {e:Int} (hr:AT [] [xs.getD (j-1).toNat default]=some (r,e)) :
  GP (1,(false,[],[]),0) (vec xs) [[.mk [] [Fh j]]]=some (r,e):=by
 have h2:=h.2.1
 have h64:I6 j:=⟨by omega,by omega⟩
 have o:=Pr h64
 have hit:Ch (.mk [] [Fh j])=some ([j].map Fh):=by
  rw [Mo o.1,if_neg (by
   rintro (q|q)
   ·exact absurd q (by show ¬((1:Int)=0);decide)
   ·exact q o.2)];rfl
 have hw:=OJ h o.1 o.2 (Qd hit (by simpa using h64) (by simpa using hj) (by simp)) (by simp;omega) (by simp) (m:=1) rfl (by decide)
 refine Y8 h hw (by simp;omega) (by simp) (by simp) hr
def GF (a0:Itm) : Option (Bool):=((FF (Arr.mk [] [a0])).bind fun x1=>(some (x1)))
theorem NV {a0:Itm} {r:Bool} (h:GF a0=some r) :
  Fn Tryz.prog 33 [.ag [.i .u8 a0.kind,.b a0.num.1,.sl (L a0.num.2.1),.sl (L a0.num.2.2),.i .i32 a0.char,.sl (Ars a0.box)]] (.d (.b r)):=by
 unfold GF at h
 refine Fn.o1 2 7 Tryz.func33 ?_;refine .sr ?_;refine vk vbx ?_;refine ar [1,2] ?_;refine .sr ?_;refine vk (Aq AX Au) ?_;refine vk ((Eg (Fp a0) (DW [a0]) DN).deep) ?_;refine vk (vbd CF AY A4) ?_
 obtain ⟨x1,g1,h⟩:=bnd h
 refine vk (Ak (Ny g1) Tryz.call74) ?_;refine ar [2] ?_;refine .ret ?_
 cases h
 exact ⟨rfl,rfl⟩
def BR (a0:Itm) (a1:Itm) (K0:Bool→Option (Bool)) : Nat→Bool→Int→Option (Bool)
 | 0,_,_=>none
 | k+1,s4,s5=>(if s5<((List.length a0.box:Nat):Int) then ((rd? a0.box s5).bind fun x6=>((rd? a1.box s5).bind fun x7=>((Hz x6 x7).bind fun x8=>(if x8=true then (BR a0 a1 K0 k s4 (w64 (s5+1))) else (some (false)))))) else (K0 s4))
def CH (a0:Itm) (a1:Itm) : Option (Bool):=(Option.bind ((if a0.kind=a1.kind then (if a0.char=a1.char then ((Ki a0.num a1.num).bind fun x2=>(if x2=true then (some (!(decide (((List.length a0.box:Nat) : Int)=((List.length a1.box:Nat) : Int))))) else (some true))) else (some true)) else (some true)) : Option (Bool)) fun (z1:Bool)=>(if z1=true then (some (false)) else (jn (fun (z3:Bool)=>(some (true))) fun K0=>(BR a0 a1 K0 Az false 0))))
theorem Kj {a0:Itm} {a1:Itm} {r:Bool} (h:CH a0 a1=some r) :
  Fn Tryz.prog 27 [.ag [.i .u8 a0.kind,.b a0.num.1,.sl (L a0.num.2.1),.sl (L a0.num.2.2),.i .i32 a0.char,.sl (Ars a0.box)],.ag [.i .u8 a1.kind,.b a1.num.1,.sl (L a1.num.2.1),.sl (L a1.num.2.2),.i .i32 a1.char,.sl (Ars a1.box)]] (.d (.b r)):=by
 unfold CH at h
 refine Fn.o1 4 54 Tryz.func27 ?_;refine .sr ?_;refine vk vbx ?_;refine vk vbx ?_;refine ar [2,3,4] ?_;refine .seq ?_;refine .seq ?_
 obtain ⟨z1,hz,h⟩:=bnd h
 refine AW.mr (σ:=Unit) (fun _=>True) (fun _=>[(2,.d (.ptr [.i .u8 a0.kind,.b a0.num.1,.sl (L a0.num.2.1),.sl (L a0.num.2.2),.i .i32 a0.char,.sl (Ars a0.box)])),(3,.d (.ptr [.i .u8 a1.kind,.b a1.num.1,.sl (L a1.num.2.1),.sl (L a1.num.2.2),.i .i32 a1.char,.sl (Ars a1.box)])),(4,.d (.b false)),(34,.d (.b z1))]) (fun _=>[]) ?_ ?_
 ·skip
  refine .region ?_;refine vk (vfa BF) ?_;refine vk (Ah A1) ?_;refine vk (vfa BF) ?_;refine vk (Ah A1) ?_;refine vb ?_
  rcases brc hz with ⟨hc,hz⟩|⟨hc,hz⟩
  ·have hb0:(!(decide (a0.kind=a1.kind)))=false:=(ntf (dT hc))
   refine vL hb0 ?_;refine vk (vfa CJ) ?_;refine vk (Ah CI) ?_;refine vk (vfa CJ) ?_;refine vk (Ah CI) ?_;refine vb ?_;refine vk Aj ?_
   rcases brc hz with ⟨hc,hz⟩|⟨hc,hz⟩
   ·have hb1:(!(decide (a0.char=a1.char)))=false:=(ntf (dT hc))
    refine vL hb1 ?_;refine vk (vfa Bn) ?_;refine vk (Aq A7 AF) ?_;refine vk (vfa Bn) ?_;refine vk (Aq A7 AF) ?_
    obtain ⟨x2,g2,hz⟩:=bnd hz
    refine vk (Ak (Lr g2) Tryz.call23) ?_;refine vk vnt ?_;refine vk Aj ?_
    rcases brc hz with ⟨hc,hz⟩|⟨hc,hz⟩
    ·have hb2:(!x2)=false:=(ntf hc)
     refine vL hb2 ?_;refine vk (vfa A5) ?_;refine vk (Ah BJ) ?_;refine vk (AR (A6 _) (CW _) CY) ?_;refine vk (vfa A5) ?_;refine vk (Ah BJ) ?_;refine vk (AR (A6 _) (CW _) CY) ?_;refine vb ?_;refine vk Aj ?_;refine RL.gk [2,3,4,34] ?_;refine .nil ?_
     cases hz
     exact jr () trivial
    have hb2:(!x2)=true:=(ntt (bf hc))
    refine vL hb2 ?_;refine gf4 ?_;refine gf3 ?_;refine vk Aj ?_;refine RL.gk [2,3,4,34] ?_;refine .nil ?_
    cases hz
    exact jr () trivial
   have hb1:(!(decide (a0.char=a1.char)))=true:=(ntt (dF hc))
   refine vL hb1 ?_;refine gf4 ?_;refine gf2 ?_;refine vk Aj ?_;refine va ?_;refine gf4 ?_;refine gf3 ?_;refine vk Aj ?_;refine RL.gk [2,3,4,34] ?_;refine .nil ?_
   cases hz
   exact jr () trivial
  have hb0:(!(decide (a0.kind=a1.kind)))=true:=(ntt (dF hc))
  refine vL hb0 ?_;refine gf4 ?_;refine gf ?_;refine vk Aj ?_;refine va ?_;refine gf4 ?_;refine gf2 ?_;refine vk Aj ?_;refine va ?_;refine gf4 ?_;refine gf3 ?_;refine vk Aj ?_;refine RL.gk [2,3,4,34] ?_;refine .nil ?_
  cases hz
  exact jr () trivial
 rintro _ _
 rcases brc h with ⟨hc,h⟩|⟨hc,h⟩
 ·refine cnt hc ?_
  refine .sr ?_;refine ar [2,3,4] ?_;refine .ret ?_
  cases h
  exact ⟨rfl,rfl⟩
 refine cnf (bf hc) ?_;refine .sk ?_;refine .seq ?_;refine .sr ?_;refine ar [2,3,4,5] ?_
 obtain ⟨K0,hK0,h⟩:=AA h
 refine AW.mr (σ:=Bool) (fun p=>K0 p=some r) (fun p=>[(4,.d (.b p))]) (fun p=>[]) ?_ ?_
 ·skip
  refine .block ?_
  refine .loop (.gk [2,3,4,5] ?_)
  refine AL.ind (σ:=Nat×Bool×Int) (m:=fun p=>p.1) (e:=fun p=>[(2,.d (.ptr [.i .u8 a0.kind,.b a0.num.1,.sl (L a0.num.2.1),.sl (L a0.num.2.2),.i .i32 a0.char,.sl (Ars a0.box)])),(3,.d (.ptr [.i .u8 a1.kind,.b a1.num.1,.sl (L a1.num.2.1),.sl (L a1.num.2.2),.i .i32 a1.char,.sl (Ars a1.box)])),(4,.d (.b p.2.1)),(5,.d (.i .i64 p.2.2))]) (h:=fun p=>[]) (I:=fun p=>BR a0 a1 K0 p.1 p.2.1 p.2.2=some r) ?_ (Az,false,0) h
  rintro ⟨k,s4,s5⟩ h ih
  dsimp only at h ih ⊢
  rcases k with _|k
  ·rw [BR] at h;cases h
  rw [BR] at h
  refine .seq ?_;refine .sr ?_;refine va ?_;refine vk (vfa A5) ?_;refine vk (Ah BJ) ?_;refine vk (AR (A6 _) (CW _) CY) ?_;refine vb ?_;refine rk [2,3,4,5,39] ?_
  rcases brc h with ⟨hc,h⟩|⟨hc,h⟩
  ·refine cnt (dT hc) ?_
   refine .sk ?_;refine .seq ?_;refine .block ?_;refine .seq ?_;refine .drawn 12 A2 (by kernel_rfl) ?_;refine dv (vfa A5) ?_;refine dv (Ah BJ) ?_;refine dv Ad ?_
   obtain ⟨x6,g6,h⟩:=bnd h
   obtain ⟨n6,p06,q6⟩:=Af g6
   refine dv (vix n6 p06 (Dl q6) rfl Dj) ?_;refine dv (Aq Ai Ab) ?_;refine dv (vfa A5) ?_;refine dv (Ah BJ) ?_;refine dv Ad ?_
   obtain ⟨x7,g7,h⟩:=bnd h
   obtain ⟨n7,p07,q7⟩:=Af g7
   refine dv (vix n7 p07 (Dl q7) rfl Dj) ?_;refine dv (Aq Ai Ab) ?_
   obtain ⟨x8,g8,h⟩:=bnd h
   refine dv (Ak (Pu g8) Tryz.call21) ?_;refine dv vnt ?_;refine dz ?_;refine rk [2,3,4,5,53] ?_
   rcases brc h with ⟨hc,h⟩|⟨hc,h⟩
   ·refine cnf (ntf hc) ?_
    refine .sk ?_;refine .region ?_;refine va ?_;refine vb ?_;refine asd ?_;refine .nil ?_;refine AL.gk [2,3,4,5] ?_
    exact ih (k,s4,(w64 (s5+1))) h (Nat.lt_succ_self _)
   refine cnt (ntt (bf hc)) ?_;refine .sr ?_;refine ar [2,3,4,5] ?_;refine .ret ?_
   cases h
   exact ⟨rfl,rfl⟩
  refine cnf (dF hc) ?_;refine .gk [4] ?_;refine .exit ?_
  exact jr (s4) h
 rintro z3 h
 try dsimp only at h ⊢
 subst hK0
 refine aw ?_;refine .sr ?_;refine ar [4] ?_;refine .ret ?_
 cases h
 exact ⟨rfl,rfl⟩
theorem Qx (x y:Itm) (K:Bool→Option Bool) : ∀ (k:Nat) (s:Bool) (i:Int),BR x y K k s i=Bm Hz x y K k s i
 | 0,_,_=>rfl
 | k+1,s,i=>by
  rw [BR,Bm]
  simp only [Qx x y K k]
theorem Qj {x y:Itm} (hx:okI x) : Tells (CH x y) (x=y):=by
 have e:CH x y=BS Hz x y:=by
  unfold CH BS
  simp only [Qx]
 rw [e]
 exact Ky hx fun a ha b _=>Xa (((Ea x).1 hx).2.2.2.2 a ha)
theorem W4 {x:Itm} (hx:okI x) : GF x=some (decide (Bc (.mk [] [x]))):=by
 unfold GF
 rw [R1 (OU hx)];rfl
theorem OC {x:Itm} : ∀ {xs:List Itm},x∈xs→cI x≤cIs xs
 | y::ys,h=>by
  rw [cIs]
  rcases List.mem_cons.1 h with rfl|h
  ·omega
  ·have:=OC h;omega
theorem TU {x:Itm} (hr:rI x=true) (hd:dI x≤15) (hc:1+cI x≤16384) : Bc (.mk [] [x]):=by
 refine ⟨?_,?_,?_⟩
 ·rw [rA];simp [rIs,hr,Ka]
 ·rw [Hm]
  have:dIs [x]=dI x:=by simp [dIs]
  simp only [Arr.items,this]
  split<;>omega
 ·have:cA (.mk [] [x])=1+cI x:=by simp [cA,cIs]
  omega
theorem VR.one {xs:List Itm} (h:VR xs) {x:Itm} (hx:x∈xs) : okI x∧Bc (.mk [] [x])∧AT [] [x]=some (.mk [] [x],0):=by
 have hi:=h.items x hx
 have hp:=h.parts
 have hd:=Ji hx
 have hc:=OC hx
 have hpos:=h.pos
 have r:=TU hi.2.1 (by omega) (by omega)
 refine ⟨hi.1,r,?_⟩
 rw [HV (by simp) (by simp) (by simp) (by simpa using hi.1),if_neg (by rw [Ka];simp),if_neg (by simp [hi.2]),Ka,show Ck 1 [x]=[x] from F5 (n:=1) rfl (by decide),if_pos r]
theorem WZ {xs:List Itm} (h:VR xs) {i:Nat} (hi:i<xs.length) : GP (1,(false,[],[]),0) (vec xs) [[.mk [] [Fh ((i:Int)+1)]]]=some (.mk [] [xs[i]],0):=by
 refine Xn h (j:=(i:Int)+1) (by omega) ?_
 rw [show ((i:Int)+1-1).toNat=i by omega,S5 hi]
 exact (h.one (List.getElem_mem hi)).2.2
theorem UW {xs:List Itm} (h:VR xs) {y:Itm} (oy:okI y) (ry:Bc (.mk [] [y])) {k:Nat} (hk:k<xs.length) {r:Arr} {e:Int} (hr:AT [(xs.length:Int)] (xs.set k y)=some (r,e)) :
  Gv (1,(false,[],[]),0) (vec xs) (.mk [] [y]) [[.mk [] [Fh ((k:Int)+1)]]]=some (r,e):=by
 have h2:=h.2.1
 have h64:I6 ((k:Int)+1):=⟨by omega,by omega⟩
 have o:=Pr h64
 have hit:Ch (.mk [] [Fh ((k:Int)+1)])=some ([(k:Int)+1].map Fh):=by
  rw [Mo o.1,if_neg (by
   rintro (q|q)
   ·exact absurd q (by show ¬((1:Int)=0);decide)
   ·exact q o.2)];rfl
 have hw:=OJ h o.1 o.2 (Qd hit (by simpa using h64) (n:=(xs.length:Int)) (by simp;omega) (by simp)) (by simp;omega) (by simp) (m:=1) rfl (by decide)
 have ek:(([(k:Int)+1]:List Int).map fun z=>z-1)=[(k:Int)]:=by simp
 rw [ek] at hw
 unfold Gv
 obtain ⟨f,hf⟩:=Se 2
 rw [Tv h.ok h.2.2.2 (OU oy) ry,oB,if_pos rfl,hw,oB,if_pos rfl,Jo (by simp [Arr.shape]),oB,BW,if_pos (show (szP (Arr.mk [] [y]).shape).1=1 from rfl),show GZ (vec xs).items=some xs from HB (by simp [vec,Arr.items];omega),oB,BW,
  hf,C3,if_pos (by simp),show rd? [(k:Int)] 0=some (k:Int) from rfl,oB,UN (by simp [Arr.items]),oB,show rd? (Arr.mk [] [y]).items (Int.tmod 0 ((List.length (Arr.mk [] [y]).items:Nat):Int))=some y from rfl,oB,BO hk,oB,Int.toNat_natCast,
  C3,if_neg (by rw [show w64 (0+1)=1 from rfl,List.length_singleton];decide)]
 show ((AT [(xs.length:Int)] (xs.set k y)).bind _)=_
 rw [hr];rfl
def HU (a0:(Int×RT×Int)) (a1:Int) (a2:Arr) : Option (Arr×Int):=((Gk a1).bind fun x1=>(if x1=true then ((C7 a0 ([a2])).bind fun x2=>(if x2=true then ((Ch a2).bind fun x3=>(if a1=8834 then none else (if a1=8835 then none else (if a1=8593 then (jn (((rd? x3 0).bind fun x4=>none)) fun K0=>(if ((List.length x3:Nat) : Int)=0 then none else (K0))) else (if a1=8714 then none else (jn (fun (z5:Bool)=>(if z5=true then (if ((List.length a2.shape:Nat) : Int)=1 then ((JN a0 x3 (TM [(9035,1),(9042,(-1))] a1)).bind fun x6=>(some (x6,0))) else (some ((Arr.mk [] []),4))) else (if a1=8746 then (if 1<((List.length a2.shape:Nat) : Int) then (some ((Arr.mk [] []),4)) else none) else (if a1=8801 then none else (if a1=8802 then none else none))))) fun K1=>(if a1=9035 then (K1 (decide (a1=9035))) else (K1 (decide (a1=9042)))))))))) else (some ((Arr.mk [] []),22)))) else (some ((Arr.mk [] []),23))))
theorem L8 {a0:(Int×RT×Int)} {a1:Int} {a2:Arr} {r:Arr×Int} (h:HU a0 a1 a2=some r) :
  Fn Tryz.prog 19 [.ag [.i .i64 a0.1,.b a0.2.1.1,.sl (L a0.2.1.2.1),.sl (L a0.2.1.2.2),.i .i64 a0.2.2],.i .i32 a1,.ag [.sl (Is a2.shape),.sl (Its a2.items)]] (.tup [.d (.ag [.sl (Is r.1.shape),.sl (Its r.1.items)]),.d (.i .i64 r.2)]):=by
 unfold HU at h
 refine Fn.ofC (rs:=[.cell 6 27,.tmp 7]) (nt:=121) Tryz.func19 rfl rfl rfl (by simp) rfl ?_;refine .sr ?_;refine vk vbx ?_;refine vk vbx ?_;refine vk (van (Al AY) A4) ?_;refine ar [1,3,5,6,7] ?_;refine .seq ?_;refine .block ?_;refine .sr ?_;refine va ?_
 obtain ⟨x1,g1,h⟩:=bnd h
 refine vk (Ak (KE g1) Tryz.call64) ?_;refine vk vnt ?_;refine ar [1,3,5,6,7,9] ?_
 rcases brc h with ⟨hc,h⟩|⟨hc,h⟩
 ·refine cnf (ntf hc) ?_
  refine .sr ?_;refine vk (Aq HA GH) ?_;refine vk (Aq Ai Ab) ?_;refine vk ((Eg (Jj a2) (FA [a2]) HZ).deep) ?_
  obtain ⟨x2,g2,h⟩:=bnd h
  refine vk (Ak (Fu g2) Tryz.call39) ?_;refine vk vnt ?_;refine ar [1,3,5,6,7,14] ?_
  rcases brc h with ⟨hc,h⟩|⟨hc,h⟩
  ·refine cnf (ntf hc) ?_
   refine .sk ?_;refine .sr ?_;refine vk (Aq Ai Ab) ?_
   obtain ⟨x3,g3,h⟩:=bnd h
   refine vk (Ak (GD g3) Tryz.call46) ?_;refine ar [1,3,5,6,7,8] ?_;refine .seq ?_;refine .sr ?_;refine va ?_;refine rk [1,3,5,6,7,8,23] ?_;refine .block ?_;refine .sr ?_;refine vb ?_;refine ar [1,3,5,6,7,8,23,24] ?_
   rcases brc h with ⟨hc,h⟩|⟨hc,h⟩
   ·refine cnt (dT hc) ?_
    refine .sr ?_;refine vk (Aq Ai Ab) ?_
    exact nomatch h
   refine cnf (dF hc) ?_;refine .sr ?_;refine vb ?_;refine ar [1,3,5,6,7,8,23,32] ?_
   rcases brc h with ⟨hc,h⟩|⟨hc,h⟩
   ·refine cnt (dT hc) ?_
    refine .sr ?_;refine vk (Aq Ai Ab) ?_
    exact nomatch h
   refine cnf (dF hc) ?_;refine .sr ?_;refine vb ?_;refine ar [1,3,5,6,7,8,23,38] ?_
   rcases brc h with ⟨hc,h⟩|⟨hc,h⟩
   ·refine cnt (dT hc) ?_
    refine .seq ?_;refine .sr ?_;refine va ?_;refine vk (AR (Ap _) (Bv _) Br) ?_;refine vb ?_;refine rk [3,5,6,7,8,42] ?_
    obtain ⟨K0,hK0,h⟩:=AA h
    refine AW.mr (σ:=Unit) (fun p=>K0=some r) (fun p=>[(3,.d (.ptr [.i .i64 a0.1,.b a0.2.1.1,.sl (L a0.2.1.2.1),.sl (L a0.2.1.2.2),.i .i64 a0.2.2])),(5,.d (.ptr [.sl (Is a2.shape),.sl (Its a2.items)])),(6,.nb [.sl (Is []),.sl (Its [])]),(7,.d (.i .i64 0)),(8,.d (.sl (Its x3)))]) (fun p=>[]) ?_ ?_
    ·skip
     rcases brc h with ⟨hc,h⟩|⟨hc,h⟩
     ·refine cnt (dT hc) ?_
      refine .region ?_;refine vk (Aq Ai Ab) ?_
      exact nomatch h
     refine cnf (dF hc) ?_;refine .gk [3,5,6,7,8] ?_;refine .skip ?_
     exact jr () h
    rintro _ h
    subst hK0
    refine aw ?_;refine .sr ?_;refine va ?_
    obtain ⟨x4,g4,h⟩:=bnd h
    obtain ⟨n4,p04,q4⟩:=Af g4
    refine vk (vix n4 p04 (BY q4) rfl BX) ?_;refine vk (Aq AX Au) ?_
    exact nomatch h
   refine cnf (dF hc) ?_;refine .sr ?_;refine vb ?_;refine ar [1,3,5,6,7,8,23,50] ?_
   rcases brc h with ⟨hc,h⟩|⟨hc,h⟩
   ·refine cnt (dT hc) ?_
    refine .seq ?_;refine .drawn 13 A2 (by kernel_rfl) ?_;refine dv Ad ?_
    exact nomatch h
   refine cnf (dF hc) ?_;refine .seq ?_;refine .sr ?_;refine vb ?_;refine ar [1,3,5,6,7,8,23,65] ?_
   obtain ⟨K1,hK1,h⟩:=AA h
   refine AW.mr (σ:=Bool) (fun p=>K1 p=some r) (fun p=>[(1,.d (.i .i32 a1)),(3,.d (.ptr [.i .i64 a0.1,.b a0.2.1.1,.sl (L a0.2.1.2.1),.sl (L a0.2.1.2.2),.i .i64 a0.2.2])),(5,.d (.ptr [.sl (Is a2.shape),.sl (Its a2.items)])),(6,.nb [.sl (Is []),.sl (Its [])]),(7,.d (.i .i64 0)),(8,.d (.sl (Its x3))),(23,.d (.i .i32 a1)),(65,.d (.b p))]) (fun p=>[]) ?_ ?_
   ·skip
    rcases brc h with ⟨hc,h⟩|⟨hc,h⟩
    ·refine cnt (dT hc) ?_
     refine .gk [1,3,5,6,7,8,23,65] ?_;refine .skip ?_
     exact jr ((decide (a1=9035))) h
    refine cnf (dF hc) ?_;refine .region ?_;refine vb ?_;refine asd ?_;refine RL.gk [1,3,5,6,7,8,23,65] ?_;refine .nil ?_
    exact jr ((decide (a1=9042))) h
   rintro z5 h
   try dsimp only at h ⊢
   subst hK1
   refine aw ?_
   rcases brc h with ⟨hc,h⟩|⟨hc,h⟩
   ·refine cnt hc ?_
    refine .seq ?_;refine .sr ?_;refine vk (vfa A3) ?_;refine vk (Ah Cg) ?_;refine vk (AR (Ag _) (Cp _) Cf) ?_;refine vb ?_;refine rk [1,3,5,6,7,8,71] ?_
    rcases brc h with ⟨hc,h⟩|⟨hc,h⟩
    ·refine cnf (ntf (dT hc)) ?_
     refine .sk ?_;refine .sr ?_;refine vk (Aq HA GH) ?_;refine va ?_;refine vk Zx ?_;refine YH Fl gkR freshK.nil ?_;refine YH Fl gkR (freshK.snoc (z:=9042) (z':=9035) freshK.nil (by decide)) ?_;refine RL.gh (Gh.omf (t:=75) rfl) ?_;refine va ?_;refine va ?_;refine vk (YQ (T:=[(9035,1),(9042,(-1))]) (by decide) Fl gkR Kq) ?_
     obtain ⟨x6,g6,h⟩:=bnd h
     refine vk (Ak (NJ g6) Tryz.call70) ?_
     refine stn ?_ Ab (by decide)
     refine ar [3,5,6,7] ?_;refine .ret ?_
     cases h
     exact ⟨_,_,⟨.inr rfl,Ai,Ab,p2⟩,rfl,rfl⟩
    refine cnt (ntt (dF hc)) ?_;refine .sr ?_;refine vk (vbd CF AY A4) ?_
    refine stn ?_ Ab (by decide)
    refine ar [1,3,5,6,7,8] ?_;refine .ret ?_
    cases h
    exact ⟨_,_,⟨.inr rfl,Ai,Ab,p2⟩,rfl,rfl⟩
   refine cnf (bf hc) ?_;refine .sr ?_;refine vb ?_;refine ar [3,5,6,7,8,23,80] ?_
   rcases brc h with ⟨hc,h⟩|⟨hc,h⟩
   ·refine cnt (dT hc) ?_
    refine .seq ?_;refine .sr ?_;refine vk (vfa A3) ?_;refine vk (Ah Cg) ?_;refine vk (AR (Ag _) (Cp _) Cf) ?_;refine vb ?_;refine rk [3,5,6,7,8,85] ?_
    rcases brc h with ⟨hc,h⟩|⟨hc,h⟩
    ·refine cnt (dT hc) ?_
     refine .sr ?_;refine vk (vbd CF AY A4) ?_
     refine stn ?_ Ab (by decide)
     refine ar [3,5,6,7,8] ?_;refine .ret ?_
     cases h
     exact ⟨_,_,⟨.inr rfl,Ai,Ab,p2⟩,rfl,rfl⟩
    exact nomatch h
   refine cnf (dF hc) ?_;refine .sr ?_;refine vb ?_;refine ar [3,5,6,7,23,95] ?_
   rcases brc h with ⟨hc,h⟩|⟨hc,h⟩
   ·refine cnt (dT hc) ?_
    refine .sr ?_;refine vk (Aq Ai Ab) ?_
    exact nomatch h
   refine cnf (dF hc) ?_;refine .sr ?_;refine vb ?_;refine ar [3,5,6,7,100] ?_
   rcases brc h with ⟨hc,h⟩|⟨hc,h⟩
   ·exact nomatch h
   refine cnf (dF hc) ?_;refine .sk ?_;refine .sr ?_;refine vk (Aq HA GH) ?_;refine vk (Aq Ai Ab) ?_
   exact nomatch h
  refine cnt (ntt (bf hc)) ?_;refine .sr ?_;refine vk (vbd CF AY A4) ?_
  refine stn ?_ Ab (by decide)
  refine ar [1,3,5,6,7] ?_;refine .ret ?_
  cases h
  exact ⟨_,_,⟨.inr rfl,Ai,Ab,p2⟩,rfl,rfl⟩
 refine cnt (ntt (bf hc)) ?_;refine .sr ?_;refine vk (vbd CF AY A4) ?_
 refine stn ?_ Ab (by decide)
 refine ar [1,3,5,6,7] ?_;refine .ret ?_
 cases h
 exact ⟨_,_,⟨.inr rfl,Ai,Ab,p2⟩,rfl,rfl⟩
end Go.FL
namespace Go.FL
open Go Go.RowKit
def ALM (P:Program) (C:Cx) (c:Code) (Q:Exit→Env→Ac→Prop) (env:Env) (H:Ac) : Prop :=
 ∀ X a w I μ O,X.nt=C.nt→X.n0=C.n0→X.ne=C.ne→Sim P X env H a w I μ O→LB (om C.ro) 0 P c (PostM P X Q) a w
section
variable {P:Program} {C:Cx} {X:Snap} {o:Oper} {ops:Array Oper} {Q:Exit→Env→Ac→Prop} {env env':Env} {H H':Ac} {a:Act} {w w':World} {I I':Nat→Prop} {μ μ':List Nat} {O O':Nat→Option Loc}
 {K:Env→Ac→Prop} {k:Nat} {l:List Oper}
theorem AWM.loop {c:Code} (h:ALM P C c Q env H) : AWM P C (.loop c) Q env H:=fun X a w I μ O h1 h2 h3 hs=>(h X a w I μ O h1 h2 h3 hs).loop
theorem ALM.gh {c:Code} (g:Gh P C env H env' H') (h:ALM P C c Q env' H') : ALM P C c Q env H:=fun X a w I μ O h1 h2 h3 hs =>
 let ⟨I',O',hs'⟩:=g X a w I μ O h1 h2 h3 hs;h X a w I' μ O' h1 h2 h3 hs'
theorem AWM.skip (h:Q .normal env H) : AWM P C .skip Q env H:=.lift (.skip h)
theorem AWM.exit {id:Nat} (h:Q (.exit id) env H) : AWM P C (.exit id) Q env H:=.lift (.exit h)
theorem AWM.mj {x y:Code} {σ:Type} (I:σ→Prop) (e:σ→Env) (g:σ→Ac) (h1:AW P C x (FO (JR I e g) Q) env H) (h2:∀ s,I s→AWM P C y Q (e s) (g s)) : AWM P C (.seq x y) Q env H :=
 .seqA (h1.mono fun ex env' H' h=>by
  cases ex with
  | normal=>obtain ⟨s,hi,he,hg⟩:=h;subst he;subst hg;exact h2 s hi
  | _=>exact h)
theorem PostM.over {ms:List Deferred} {a1:Act} {w1:World} {env1:Env} {H1:Ac} {I1:Nat→Prop} {μ1:List Nat} {O1:Nat→Option Loc} (hX0:X.n0=0) (s:Sim P {X with dfs:=ms++X.dfs} env1 H1 a1 w1 I1 μ1 O1) (hm:Marks X.K w1 I1 O1 ms) :
  ∃ Y:Snap,Y.nt=X.nt∧Y.n0=X.n0∧Y.ne=X.ne∧Sim P Y env1 H1 a1 w1 I1 μ1 O1∧∀ e a2 w2,PostM P Y Q e a2 w2→PostM P X Q e a2 w2:=by
 obtain ⟨K',hKd⟩:∃ K':Nat→Prop,K'=fun b=>X.K b∨∃ m∈ms,m={target:=.collected b,args:=#[]}:=⟨_,rfl⟩
 have hK':∀ b,K' b→O1 b=none∧b<w1.heap.size:=fun b hb=>by
  rw [hKd] at hb
  rcases hb with hb|⟨m,hm1,hm2⟩
  ·exact ⟨s.kO b hb,nL (s.klt b hb) s.size⟩
  ·obtain ⟨D,e1,e2,e3,e4,_⟩:=hm.2 m hm1
   rw [hm2] at e1;simp at e1;subst e1
   exact ⟨e3,(Array.getElem?_eq_some_iff.1 e2).1⟩
 have hr:=s.recast (s.toMem.reroot hX0 hK') rfl rfl rfl
 refine ⟨{X with w:=w1,I:=I1,K:=K',μ:=μ1,dfs:=ms++X.dfs},rfl,rfl,rfl,hr,fun e a2 w2 ⟨env2,H2,I2,μ2,O2,ms2,s2,q2,hm2⟩=>?_⟩
 refine ⟨env2,H2,I2,μ2,O2,ms2++ms,?_,q2,?_⟩
 ·have hu:Mem P X H2 w2 I2 μ2 O2:=(s.toMem.cast (Y:=X) rfl rfl rfl rfl rfl rfl).unroot hX0 (K':=K') (fun b hb=>by rw [hKd];exact .inl hb) (s2.toMem.cast rfl rfl rfl rfl rfl rfl)
  exact ⟨hu.cast rfl rfl rfl rfl rfl rfl,s2.envr,s2.nt,by rw [s2.dfs.1];simp,s2.dfs.2⟩
 ·refine ⟨List.nodup_append.2 ⟨hm2.1,hm.1,fun x hx y hy e=>?_⟩,fun m hmm=>?_⟩
  ·subst e
   obtain ⟨D,rfl,_,_,_,hk⟩:=hm2.2 x hx
   exact hk (by show K' D;rw [hKd];exact .inr ⟨_,hy,rfl⟩)
  rcases List.mem_append.1 hmm with hmm|hmm
  ·obtain ⟨D,e1,e2,e3,e4,e5⟩:=hm2.2 m hmm
   exact ⟨D,e1,e2,e3,e4,fun hk=>e5 (by show K' D;rw [hKd];exact .inl hk)⟩
  ·obtain ⟨D,rfl,e2,e3,e4,e5⟩:=hm.2 m hmm
   have hkD:K' D:=by rw [hKd];exact .inr ⟨_,hmm,rfl⟩
   exact ⟨D,rfl,(s2.prot D hkD).trans e2,s2.kO D hkD,fun hi=>e4 (s2.kI D hkD hi),e5⟩
theorem ALM.round (h0:C.n0=0) {c:Code} (h:AWM P C c (FO (ALM P C c Q) Q) env H) : ALM P C c Q env H:=fun X a w I μ O h1 h2 h3 hs =>
 .round (wpIn_mono (h X a w I μ O h1 h2 h3 hs) fun e a1 w1 ⟨env',H',I',μ',O',ms,s,q,hm⟩=>by
  cases e with
  | normal =>
   obtain ⟨Y,y1,y2,y3,y4,y5⟩:=PostM.over (Q:=Q) (by omega) s hm
   have hl:=q Y a1 w1 I' μ' O' (y1.trans h1) (y2.trans h2) (y3.trans h3) y4
   intro b k cs hro hb hr
   obtain ⟨e2,a2,w2,p1,p2⟩:=hl b k cs hro hb hr
   exact ⟨e2,a2,w2,y5 _ _ _ p1,p2⟩
  | _=>exact ⟨env',H',I',μ',O',ms,s,q,hm⟩)
theorem ALM.ind (h0:C.n0=0) {c:Code} {σ:Type} (m:σ→Nat) (e:σ→Env) (h:σ→Ac) (I:σ→Prop)
  (step:∀ s,I s→(∀ s',I s'→m s'<m s→ALM P C c Q (e s') (h s'))→AWM P C c (FO (ALM P C c Q) Q) (e s) (h s)):∀ s,I s→ALM P C c Q (e s) (h s):=by
 suffices H:∀ n s,m s=n→I s→ALM P C c Q (e s) (h s) from fun s hs=>H _ s rfl hs
 intro n
 induction n using Nat.strongRecOn with
 | ind n ih =>
  intro s hm hs
  exact .round h0 (step s hs fun s' h1 h2=>ih (m s') (by omega) s' rfl h1)
theorem Sim.storeBA {id blk:Nat} (hm:μ[id]?=some blk) (hn:X.n0≤id) : ∀ (us:List Value) (k:Nat) (ds zs:List DV) (H:Ac) (w:World) (O:Nat→Option Loc),Sim P X env H a w I μ O→H[id]?=some (.box (zs.map .d))→zs.length=k+us.length →
  RepAll w I ds us→(∀ u∈us,u.oneCell'=true)→∃ w' O',(storeCells ⟨blk,0,none⟩ us k).run P w=.ok () w'∧Sim P X env (H.set id (.box ((zs.take k++ds).map .d))) a w' I μ O'
 | [],k,ds,zs,H,w,O,hs,hH,hl,hr,h1=>by
  cases hr
  rw [List.append_nil,List.take_of_length_le (by simp at hl;omega),List.set_same _ _ hH]
  exact ⟨w,O,rfl,hs⟩
 | u::us,k,ds,zs,H,w,O,hs,hH,hl,hr,h1=>by
  cases hr with
  | @cons d _ ds _ hd ht =>
   rw [List.length_cons] at hl
   have hu:=h1 u (by simp)
   have hkl:k<zs.length:=by omega
   obtain ⟨q1,⟨u0,q2⟩,q3⟩:=hs.storeC (off:=k) (c:=.d zs[k]) (av:=.d d) (v:=u) (hbs:=[]) hH (by rw [List.getElem?_map,lG hkl];rfl) hm hn (.d hd) nN (by simp)
   have hIb:¬I blk:=by
    obtain ⟨blk',bs,g1,g2,g3,g4⟩:=hs.heap id _ hH
    rw [hm] at g1;cases g1
    exact (hs.own blk _ ((g3 hn).2 blk (by simp))).2
   have hst:(store ((⟨blk,0,none⟩:Addr).add k) u).run P w=.ok () (w.setCell ⟨blk,k,none⟩ u):=by
    have hadd:(⟨blk,0,none⟩:Addr).add k=⟨blk,k,none⟩:=by unfold Addr.add;split<;>simp_all
    rw [hadd,run_store P w _ u _ hu,q2]
    simp [q3]
   have hset:Ee H id k (.d d)=H.set id (.box ((zs.set k d).map .d)):=by
    simp only [Ee,hH];rw [List.map_set]
   rw [hset] at q1
   have hid:id<H.length:=(lS.1 hH).1
   obtain ⟨w2,O2,z1,z2⟩:=Sim.storeBA hm hn us (k+1) ds (zs.set k d) _ _ _ (show Sim P X env _ a _ I μ _ from q1) (by simp [hid]) (by simp;omega)
    (ht.keep (fun b' hb'=>heap_setCell_other w ⟨blk,k,none⟩ b' u fun e=>hIb (by rw [← (show b'=blk from e)];exact hb')) fun _ h=>h) fun u hu=>h1 u (by simp [hu])
   refine ⟨w2,O2,?_,?_⟩
   ·simp only [storeCells,Sem.run_bind,hst,Result.andThen_ok,z1]
   ·have t1:(zs.set k d).take (k+1)=zs.take k++[d]:=by
     rw [List.take_add_one,List.getElem?_set_self (by omega),List.take_set_of_le (Nat.le_refl k)];rfl
    rw [t1,List.set_set] at z2
    simpa using z2
theorem Zh {x y:Operand} {ty id:Nat} {zs ds:List DV} {bx:List AV} (hH:H[id]?=some (.box bx)) (hb:bx=zs.map .d) (hl:zs.length=ds.length) (h:RL P C ops Q (k+1) l env (H.set id (.box (ds.map .d)))) (hsz:AB P ty=ds.length) (hp:0<ds.length) (hg:grd ops env o true=true:=by rfl)
  (ho:o.op=.store ty x y:=by rfl) (hv:lk env x=.bp id 0:=by rfl) (hy:lk env y=.d (.ag ds):=by rfl) (h1:ds.all DV.leaf=true:=by rfl) (hd:o.dst=none:=by rfl) (h0:C.n0=0:=by rfl):RL P C ops Q k (o::l) env H:=by
 subst hb
 obtain ⟨g1,g2⟩:=Av hv (by simp)
 refine .go hg (.done (by simp [ho]) hd (fun X a w I μ O _ e2 _ hs=>?_) h)
 have hr:=hs.deep (x:=y) (v:=.ag ds) (by rw [hy];rfl)
 generalize hev:a.eval y=u at hr
 cases hr with
 | ag _ vs hr =>
  obtain ⟨blk,hm,he⟩:=hs.bp g1 g2
  have hvl:vs.length=ds.length:=hr.length.symm
  obtain ⟨w',O',z1,z2⟩:=Sim.storeBA hm (by omega) vs 0 ds zs H w O hs hH (by omega) hr (hr.one h1)
  refine ⟨w',I,μ,O',?_,?_⟩
  ·have hs':(sizeOf ty).run P w=.ok vs.length w:=by rw [hvl,← hsz];exact GK (by omega)
   have hsv:(storeVar ty ⟨blk,0,none⟩ (.agg vs.toArray)).run P w=.ok () w':=by
    simp [storeVar,hs',Value.cells,z1]
   simp only [execOp,ho,he,hev,Instr.storeAt,Instr.sureAddr,Sem.run_bind,Sem.run_pure,Result.andThen_ok,hsv]
  ·simpa using z2
end
def St {α σ:Type} (f:Int→α→σ→Option σ) (xs:List α) : Nat→σ→Option σ
 | 0,s=>some s
 | n+1,s=>(xs[n]?).bind fun x=>(f ((n:Nat):Int) x s).bind fun s'=>St f xs n s'
theorem SO {α σ:Type} {f:Int→α→σ→Option σ} {xs:List α} : ∀ (n:Nat) {s z:σ},St f xs n s=some z→∃ T : Nat→σ,T 0=s∧T n=z∧∀ k,k<n→∃ x,xs[n-1-k]?=some x∧f ((n-1-k:Nat) : Int) x (T k)=some (T (k+1))
 | 0,s,z,h=>⟨fun _=>s,rfl,oI h,fun k hk=>absurd hk (Nat.not_lt_zero k)⟩
 | n+1,s,z,h=>by
  simp only [St,Option.bind_eq_some_iff] at h
  obtain ⟨x,hx,s',hf,h⟩:=h
  obtain ⟨T,t1,t2,t3⟩:=SO n h
  refine ⟨fun k=>if k=0 then s else T (k-1),rfl,by simp [t2],fun k hk=>?_⟩
  cases k with
  | zero=>exact ⟨x,by simpa using hx,by simpa [t1] using hf⟩
  | succ k =>
   obtain ⟨y,y1,y2⟩:=t3 k (by omega)
   rw [show n+1-1-(k+1)=n-1-k by omega]
   exact ⟨y,y1,by simpa using y2⟩
theorem TB (cells:Array Value) (n:Nat) : (madeCells cells ((n+1) * cells.size)).toList=cells.toList++(madeCells cells (n * cells.size)).toList:=by
 apply List.ext_getElem
 ·simp [madeCells,Nat.add_mul,Nat.add_comm]
 ·intro j h1 h2
  rw [List.getElem_append]
  split
  ·rename_i hj
   simp only [Array.length_toList] at hj
   simp [madeCells,Nat.mod_eq_of_lt hj,hj]
  ·rename_i hj
   simp only [Array.length_toList,Nat.not_lt] at hj
   simp [madeCells,Nat.mod_eq_sub_mod hj]
theorem Of {w:World} {I:Nat→Prop} {cs:List DV} {cells:Array Value} (h:RepAll w I cs cells.toList) (h1:∀ u∈cells.toList,u.oneCell'=true) : ∀ n,RepRows w I cells.size (List.replicate n (.ag cs)) (madeCells cells (n * cells.size)).toList
 | 0=>by
  have:(madeCells cells (0 * cells.size)).toList=[]:=by simp [madeCells]
  rw [this];exact .nil _
 | n+1=>by
  rw [TB cells n,List.replicate_succ]
  exact .cons (by simp) h1 h (Of h h1 n)
section
variable {P:Program} {C:Cx} {o:Oper} {ops:Array Oper} {Q:Exit→Env→Ac→Prop} {env:Env} {H:Ac} {K:Env→Ac→Prop} {k:Nat} {l:List Oper}
theorem U7 {l c:Operand} {ty t e by_ sz:Nat} {z:Value} {cs:List DV} {k k':IntKind} {n:Nat} (ho:o.op=.makeSlice ty l c) (hd:o.dst=some t) (ht:okT C.nt t) (hT:B4 P ty=some (e,sz,by_,z)) (hzs:z.cells.size=sz) (h0:0<sz) (hz:∀ w I,RepAll w I cs z.cells.toList) (hlf:cs.all DV.leaf=true)
  (hl:lk env l=.d (.i k n)) (hc:lk env c=.d (.i k' n)) (hby:by_ * n≤281474976710656) (h63:n≤maxLen)
  (hK:K (put env t (.own e (List.replicate n (.ag cs)))) H):OpOK P C o env H K :=
 .val (by simp [ho]) hd ht (fun X a w I μ O _ _ _ hs=>by
  obtain ⟨i,i1,i2,i3,i4,i5,i6,i7,i8⟩:=CV hT
  have e1:a.eval l=.int k n:=by
   have hr:=hs.deep (x:=l) (v:=.i k n) (by rw [hl];rfl)
   generalize a.eval l=u at hr
   cases hr;rfl
  have e2:a.eval c=.int k' n:=by
   have hr:=hs.deep (x:=c) (v:=.i k' n) (by rw [hc];rfl)
   generalize a.eval c=u at hr
   cases hr;rfl
  obtain ⟨w',q1,q2,q3⟩:=run_make_full w 0 ty e i z sz i1 i2 i3 i4 k k' n (by rw [i5];exact hby) h63 (Nat.zero_le _)
  have h2:=hs.grownR q3 fun b hb=>(by cases hb)
  have hO:∀ b,w.heap.size≤b→O b=none:=fun b hb=>by
   cases hx:O b with
   | none=>rfl
   | some l=>have:=(hs.own b l hx).1;omega
  have h3:=h2.newR (BD (.slice (some ⟨w.heap.size,0,none⟩) n n)) fun b hb=>by
   have hlt:=(OwnR.of q2).lt b hb
   have:b=w.heap.size:=by
    simp only [BD] at hb
    split at hb<;>simp at hb
    exact hb
   subst this
   exact ⟨hlt,.inl (hO _ (Nat.le_refl _)),fun hi=>by have:=hs.ilt _ hi;omega,fun hk=>by have:=hs.klt _ hk;have:=hs.size;omega⟩
  refine ⟨.slice (some ⟨w.heap.size,0,none⟩) n n,w',I,μ,_,?_,h3,BD (.slice (some ⟨w.heap.size,0,none⟩) n n),?_,GO _,fun b hb=>by simp [hb]⟩
  ·simp only [execOp,ho,e1,e2,q1,Sem.run_bind,Result.andThen_ok,Sem.run_pure]
  ·have hrow:=Of (cs:=cs) (cells:=z.cells) (hz w' I) ((hz w' I).one hlf) n
   rw [hzs] at hrow
   exact .own e _ _ _ (by omega) (by rw [List.length_replicate,i8];exact .of q2) (by rw [i8];exact hrow)) hK
theorem Zj {α:Type} {F:List α→List DV} {x0:α} {x c:Operand} {ty t e by_ sz:Nat} {z:Value} {cs:List DV} {q q':IntKind} {zl:Int} (n:Nat) (hF:List.replicate n (.ag cs)=F (List.replicate n x0)) (hn:zl=n) (hb:by_ * n≤281474976710656∧n≤9223372036854775807) (h:RL P C ops Q (k+1) l ((t,.own e (F (List.replicate n x0)))::env) H)
  (hT:B4 P ty=some (e,sz,by_,z)) (hz:∀ w I,RepAll w I cs z.cells.toList) (hzs:z.cells.size=sz:=by rfl) (h0:0<sz:=by decide) (hlf:cs.all DV.leaf=true:=by rfl) (hg:grd ops env o true=true:=by rfl) (ho:o.op=.makeSlice ty x c:=by rfl) (hx:lk env x=.d (.i q zl):=by rfl) (hc:lk env c=.d (.i q' zl):=by rfl) (hd:o.dst=some t:=by rfl)
  (hf:Ao (get env t)=false:=by rfl) (ht:okT C.nt t:=by rfl):RL P C ops Q k (o::l) env H:=by
 subst hn
 rw [← Am hf] at h
 exact .go hg (U7 ho hd ht hT hzs h0 hz hlf hx hc hb.1 (by simpa [maxLen] using hb.2) (by rw [hF];exact h))
end
def QL (n:Nat) : AV→Bool
 | .bp i _=>Nat.blt i n
 | .ref (.c i _) _ _=>Nat.blt i n
 | .ep (.c i _) _ _=>Nat.blt i n
 | av=>noBp av
section
variable {P:Program} {C:Cx} {X:Snap} {o:Oper} {ops:Array Oper} {Q:Exit→Env→Ac→Prop} {env env':Env} {H H':Ac} {a:Act} {w w':World} {I I':Nat→Prop} {μ μ':List Nat} {O O':Nat→Option Loc}
 {K:Env→Ac→Prop} {k:Nat} {l:List Oper}
theorem AL.gh2 {c:Code} (g:Gh2 P C env H env' H') (h:AL P C c Q env' H') : AL P C c Q env H:=fun X a w I μ O h1 h2 h3 hs =>
 let ⟨I',μ',O',hs'⟩:=g X a w I μ O h1 h2 h3 hs;h X a w I' μ' O' h1 h2 h3 hs'
theorem ALM.gh2 {c:Code} (g:Gh2 P C env H env' H') (h:ALM P C c Q env' H') : ALM P C c Q env H:=fun X a w I μ O h1 h2 h3 hs =>
 let ⟨I',μ',O',hs'⟩:=g X a w I μ O h1 h2 h3 hs;h X a w I' μ' O' h1 h2 h3 hs'
theorem AWM.gh2 {c:Code} (g:Gh2 P C env H env' H') (h:AWM P C c Q env' H') : AWM P C c Q env H:=fun X a w I μ O h1 h2 h3 hs =>
 let ⟨I',μ',O',hs'⟩:=g X a w I μ O h1 h2 h3 hs;h X a w I' μ' O' h1 h2 h3 hs'
theorem Gh2.cut {H0:Ac} (G:Ac) (hH:H=H0++G) (hb:(env.all fun x=>QL H0.length x.2)=true) (hb0:H0.all Xi=true) (hne:Nat.ble C.ne H0.length=true) : Gh2 P C env H env H0:=fun X a w I μ O _ h2 h3 hs=>by
 subst hH
 have hne':X.ne≤H0.length:=by rw [h3];exact Nat.le_of_ble_eq_true hne
 have hμt:∀ i,i<H0.length→(μ.take H0.length)[i]?=μ[i]?:=fun i hi=>by rw [List.getElem?_take,if_pos hi]
 refine ⟨I,μ.take H0.length,O,{
  prot:=hs.prot,kO:=hs.kO,kI:=hs.kI,mono:=hs.mono,os:=hs.os,tape:=hs.tape,output:=hs.output,size:=hs.size,own:=hs.own,ilt:=hs.ilt
  μlen:=by rw [List.length_take,hs.μlen];simp
  μpre:=fun i b hi hb=>by rw [hμt i (by omega)];exact hs.μpre i b hi hb
  nle:=hne'
  heap:=fun id ob ho=>?_
  klt:=hs.klt
  n0le:=hs.n0le
  envr:=fun s=>?_
  nt:=hs.nt
  dfs:=hs.dfs}⟩
 ·have hlt:=(lS.1 ho).1
  obtain ⟨bb,bs',q1,q2,q3,q4⟩:=hs.heap id ob (by rw [List.getElem?_append_left hlt];exact ho)
  refine ⟨bb,bs',by rw [hμt id hlt];exact q1,?_,q3,q4⟩
  have hnb:Xi ob=true:=List.all_eq_true.1 hb0 ob (List.mem_of_getElem? ho)
  cases ob with
  | box c =>
   obtain ⟨cl,et,n1,n2⟩:=q2
   exact ⟨cl,et,n1,n2.noBp (μ':=μ.take H0.length) hnb⟩
 ·have hp:=PI (p:=QL H0.length) rfl hb s
  have ht:=hs.envr s
  have plain:∀ av,get env s=av→noBp av=true→A8 av=false→TRep P env H0 a w I (μ.take H0.length) O s av:=by
   intro av hav hn hr
   rw [hav] at ht
   obtain ⟨bs,g1,g2,g3⟩:=ht.plain hr
   exact .of (g1.noBp (μ':=μ.take H0.length) hn) g2 g3
  have place:∀ (p:Pl) e xs,(∀ id off,p=.c id off→id<H0.length)→AJ env (H0++G) p=.own e xs→AJ env H0 p=.own e xs∧∀ v,Bb a w μ p=some v→Bb a w (μ.take H0.length) p=some v:=fun p e xs hl hp=>by
   cases p with
   | t n=>exact ⟨hp,fun v hv=>hv⟩
   | c id off =>
    have hid:=hl id off rfl
    refine ⟨?_,fun v hv=>?_⟩
    ·simp only [AJ] at hp ⊢
     rw [List.getElem?_append_left hid] at hp;exact hp
    ·simp only [Bb] at hv ⊢
     rw [hμt id hid];exact hv
  cases hgs:get env s with
  | bp i off =>
   rw [hgs] at hp ht
   obtain ⟨bs,g1,g2,g3⟩:=ht.plain rfl
   have hi:i<H0.length:=by simp [QL,Nat.blt] at hp;omega
   refine .of (bs:=bs) ?_ g2 g3
   generalize a.tmps.getD s undef=v at g1
   cases g1 with
   | bp _ _ blk' hb'=>exact .bp i off blk' (by rw [hμt i hi];exact hb')
  | ref p off len =>
   rw [hgs] at hp ht
   obtain ⟨e',xs,A,n,c,g1,g2,g3,g4⟩:=ht
   obtain ⟨p1,p2⟩:=place p e' xs (fun id off h=>by subst h;simp [QL,Nat.blt] at hp;omega) g1
   exact ⟨e',xs,A,n,c,p1,p2 _ g2,g3,g4⟩
  | ep p i k =>
   rw [hgs] at hp ht
   obtain ⟨e',xs,b,n,c,g1,g2,g3,g4,g5⟩:=ht
   obtain ⟨p1,p2⟩:=place p e' xs (fun id off h=>by subst h;simp [QL,Nat.blt] at hp;omega) g1
   exact ⟨e',xs,b,n,c,p1,p2 _ g2,g3,g4,g5⟩
  | _ =>
   rw [hgs] at hp
   exact plain _ hgs hp rfl
end
end Go.FL

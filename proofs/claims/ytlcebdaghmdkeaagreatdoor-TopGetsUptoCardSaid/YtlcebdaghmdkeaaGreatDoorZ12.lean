import Derived.Test.YtlcebdaghmdkeaaGreatDoorZ1
set_option linter.all false
set_option maxRecDepth 100000
set_option maxHeartbeats 64000000
namespace Go.Proofs.YtlcebdaghmdkeaaGreatDoor
abbrev Bytes:=List UInt8
def lT (n:Nat):UInt8:=if n<10 then UInt8.ofNat (48+n) else UInt8.ofNat (87+n)
def iN (c:UInt8):Bytes:=
 if c=34\/c=92 then [92,c] else if c=8 then [92,98] else if c=12 then [92,102] else if c=10 then [92,110] else if c=13 then [92,114] else if c=9 then [92,116]
 else if c.toNat<32\/c=127 then [92,117,48,48,lT (c.toNat/16),lT (c.toNat%16)] else [c]
def kS (s:Bytes):Bytes:=34::(s.flatMap iN++ [34])
def V.text:V->Bytes
 | .mk k n s ks l=>
   if k=0 then [110,117,108,108] else if k=1 then(if n=1 then [116,114,117,101] else [102,97,108,115,101]) else if k=2 then Lib.itoa n else if k=3 then kS s.data.toList
   else if k=5 then 123::(go true true ks l++ [125]) else 91::(go false true ks l++ [93])
where go:Bool->Bool->List ah->List V->Bytes
 |_,_,_, []=> []
 |o,first,ks,x::r=>(if first then [] else [44])++((if o then kS (ks.headD ⟨#[]⟩).data.toList++ [58] else [])++(V.text x++go o false ks.tail r))
def isSp (c:UInt8):Bool:=c==32||c==9||c==10||c==13
def dw (s:Bytes):Bytes:=s.dropWhile isSp
def gu (c:UInt8):Option Nat:=
 if 48<=c.toNat/\c.toNat<=57 then some (c.toNat-48) else if 97<=c.toNat/\c.toNat<=102 then some (c.toNat-87) else if 65<=c.toNat/\c.toNat<=70 then some (c.toNat-55) else none
def wR (s:Bytes):Option (Nat×Bytes):=
 match s with
 |a::b::c::d::t=>(gu a).bind fun a=>(gu b).bind fun b=>(gu c).bind fun c=>(gu d).bind fun d=>some (((a*16+b)*16+c)*16+d,t)
 |_=>none
def vg (c:UInt8):Option UInt8:=
 if c=34 then some 34 else if c=92 then some 92 else if c=47 then some 47 else if c=98 then some 8 else if c=102 then some 12 else if c=110 then some 10 else if c=114 then some 13 else if c=116 then some 9 else none
def jv (s:Bytes):Option (UInt8×Bytes):=
 match s with
 | []=>none
 |c::t=>
  match vg c with
  |some m=>some (m,t)
  |none=>if c=117 then(wR t).bind fun p=>if p.1<128 then some (UInt8.ofNat p.1,p.2) else none else none
def eA:Nat->Bytes->Bytes->Option (Bytes×Bytes)
 |0,_,_=>none
 |_+1, [],_=>none
 |f+1,c::t,b=>
  if c.toNat<32\/127<=c.toNat\/60<b.length then none
  else if c=34 then some (b,t)
  else if c=92 then(jv t).bind fun p=>eA f p.2 (b++ [p.1])
  else eA f t (b++ [c])
def eB (c:UInt8):Bool:=decide (48<=c.toNat)&&decide (c.toNat<=57)
def jw (s:Bytes):Nat:=match s with
 |45::t=>(t.takeWhile eB).length+1
 |s=>(s.takeWhile eB).length
def eu (s:Bytes):Option (Int×Bytes):=
 if 17<jw s then none else
 match Lib.atoiAll (s.take (jw s)) with
 | .ok k=>if Lib.itoa k=s.take (jw s)/\ -9007199254740992<=k/\k<=9007199254740992 then some (k,s.drop (jw s)) else none
 |_=>none
def gM (val:Bytes->Option (V×Bytes)):Nat->Bytes->List V->Option (List V×Bytes)
 |0,_,_=>none
 |g+1,s,l=>
  match dw s with
  | []=>none
  |c::t=>
   if c=93 then some (l,t)
   else(if l= [] then some (c::t) else if c=44 then some t else none).bind fun s1=>(val s1).bind fun p=>gM val g p.2 (l++ [p.1])
def jx (val:Bytes->Option (V×Bytes)) (s:Bytes):Option ((ah×V)×Bytes):=
 match dw s with
 | []=>none
 |c::t=>
  if c=34 then
   (eA (t.length+1) t []).bind fun p=>
   match dw p.2 with
   | []=>none
   |c::t=>if c=58 then(val t).map fun q=>((⟨p.1.toArray⟩,q.1),q.2) else none
  else none
def iO (val:Bytes->Option (V×Bytes)):Nat->Bytes->List ah->List V->Option ((List ah×List V)×Bytes)
 |0,_,_,_=>none
 |g+1,s,ks,l=>
  match dw s with
  | []=>none
  |c::t=>
   if c=125 then some ((ks,l),t)
   else(if l= [] then some (c::t) else if c=44 then some t else none).bind fun s1=>(jx val s1).bind fun p=>
    if hasB ks p.1.1=true then none
    else iO val g p.2 (ks.take (posOf ks p.1.1)++p.1.1::ks.drop (posOf ks p.1.1)) (l.take (posOf ks p.1.1)++p.1.2::l.drop (posOf ks p.1.1))
abbrev wS:V:= .mk 1 1 ⟨#[]⟩ [] []
abbrev wT:V:= .mk 1 0 ⟨#[]⟩ [] []
def bJ:Nat->Bytes->Option (V×Bytes)
 |0,_=>none
 |f+1,s=>
  match dw s with
  | []=>none
  |c::t=>
   if c=110 then(if [117,108,108].isPrefixOf t=true then some (V.zero,t.drop 3) else none)
   else if c=116 then(if [114,117,101].isPrefixOf t=true then some (wS,t.drop 3) else none)
   else if c=102 then(if [97,108,115,101].isPrefixOf t=true then some (wT,t.drop 4) else none)
   else if c=34 then(eA (t.length+1) t []).map fun p=>(.mk 3 0 ⟨p.1.toArray⟩ [] [],p.2)
   else if c=45\/eB c=true then(eu (c::t)).map fun p=>(.mk 2 p.1 ⟨#[]⟩ [] [],p.2)
   else if c=91 then(gM (bJ f) (t.length+1) t []).map fun p=>(.mk 4 0 ⟨#[]⟩ [] p.1,p.2)
   else if c=123 then(iO (bJ f) (t.length+1) t [] []).map fun p=>(.mk 5 0 ⟨#[]⟩ p.1.1 p.1.2,p.2)
   else none
def yR (s:Bytes):Option V:=(bJ 12 s).bind fun p=>if dw p.2= []/\p.1.fine=true then some p.1 else none
def dX (s:Bytes):V×Int:=if 2000<s.length then(V.zero,2) else match yR s with|some v=>(v,0)|none=>(V.zero,1)
def gf (x:V):Bytes×Int:=if x.fine=false then([],1) else if 2000<x.text.length then([],2) else(x.text,0)
theorem ZM {s:Bytes} {v:V} (h:yR s=some v):v.fine=true:=by
 unfold yR at h
 cases hv:bJ 12 s with
 |none=>rw [hv] at h;cases h
 |some p=>
  rw [hv] at h;simp only [Option.bind_some] at h
  split at h
  ·rename_i hc;cases h;exact hc.2
  ·cases h
theorem nC (s:Bytes):(dw s).length<=s.length:=(List.dropWhile_sublist _).length_le
theorem Gg {s:Bytes} {p:UInt8×Bytes} (h:jv s=some p):p.2.length<s.length:=by
 unfold jv at h
 split at h
 ·cases h
 ·split at h
  ·cases h;simp
  ·split at h
   ·unfold wR at h
    split at h
    ·rename_i a b c d t'
     cases ha:gu a with
     |none=>rw [ha] at h;cases h
     |some a=>cases hb:gu b with
      |none=>rw [ha,hb] at h;cases h
      |some b=>cases hc:gu c with
       |none=>rw [ha,hb,hc] at h;cases h
       |some c=>cases hd:gu d with
        |none=>rw [ha,hb,hc,hd] at h;cases h
        |some d=>
         rw [ha,hb,hc,hd] at h;simp only [Option.bind_some] at h
         split at h
         ·cases h;simp;omega
         ·cases h
    ·cases h
   ·cases h
theorem Dh:∀(f:Nat) (s b:Bytes) (p:Bytes×Bytes),eA f s b=some p->p.2.length<s.length
 |0,_,_,_,h=>by cases h
 |_+1, [],_,_,h=>by cases h
 |f+1,c::t,b,p,h=>by
  rw [eA] at h
  split at h
  ·cases h
  ·split at h
   ·cases h;simp
   ·split at h
    ·cases he:jv t with
     |none=>rw [he] at h;cases h
     |some q=>
      rw [he] at h;have h1:=Gg he;have h2:=Dh f _ _ _ h;simp only [List.length_cons];omega
    ·have h2:=Dh f _ _ _ h
     simp only [List.length_cons];omega
theorem QS {s:Bytes} {p:Int×Bytes} (h:eu s=some p):p.2.length<=s.length/\ (0<jw s->s≠ []->p.2.length<s.length):=by
 unfold eu at h
 split at h
 ·cases h
 ·split at h
  ·split at h
   ·cases h
    refine⟨by simp,fun h0 h1=> ?_⟩;have:=List.length_pos_iff.2 h1;simp;omega
   ·cases h
  ·cases h
theorem KQ {val:Bytes->Option (V×Bytes)} (hv:∀s p,val s=some p->p.2.length<s.length):∀(g:Nat) (s:Bytes) (l:List V) (p:List V×Bytes),gM val g s l=some p->p.2.length<s.length
 |0,_,_,_,h=>by cases h
 |g+1,s,l,p,h=>by
  rw [gM] at h;have hs:=nC s
  split at h
  ·cases h
  ·rename_i c t he
   rw [he] at hs;simp only [List.length_cons] at hs
   split at h
   ·cases h;simp only;omega
   ·split at h
    ·simp only [Option.bind_some] at h
     cases hq:val (c::t) with
     |none=>rw [hq] at h;cases h
     |some q=>
      rw [hq] at h;have h1:=hv _ _ hq;have h2:=KQ hv g _ _ _ h;simp only [List.length_cons] at h1;omega
    ·split at h
     ·simp only [Option.bind_some] at h
      cases hq:val t with
      |none=>rw [hq] at h;cases h
      |some q=>
       rw [hq] at h;have h1:=hv _ _ hq;have h2:=KQ hv g _ _ _ h;omega
     ·cases h
theorem KR {val:Bytes->Option (V×Bytes)} (hv:∀s p,val s=some p->p.2.length<s.length) {s:Bytes} {p:(ah×V)×Bytes} (h:jx val s=some p):p.2.length<s.length:=by
 unfold jx at h;have hs:=nC s
 split at h
 ·cases h
 ·rename_i c t he
  rw [he] at hs;simp only [List.length_cons] at hs
  split at h
  ·cases hq:eA (t.length+1) t [] with
   |none=>rw [hq] at h;cases h
   |some q=>
    rw [hq] at h;simp only [Option.bind_some] at h;have h1:=Dh _ _ _ _ hq;have h2:=nC q.2
    split at h
    ·cases h
    ·rename_i c' t' he'
     rw [he'] at h2;simp only [List.length_cons] at h2
     split at h
     ·cases hr:val t' with
      |none=>rw [hr] at h;cases h
      |some r=>
       rw [hr] at h;have h3:=hv _ _ hr
       cases h
       simp only;omega
     ·cases h
  ·cases h
theorem QT {val:Bytes->Option (V×Bytes)} (hv:∀s p,val s=some p->p.2.length<s.length):∀(g:Nat) (s:Bytes) (ks:List ah) (l:List V) (p:(List ah×List V)×Bytes),iO val g s ks l=some p->p.2.length<s.length
 |0,_,_,_,_,h=>by cases h
 |g+1,s,ks,l,p,h=>by
  rw [iO] at h;have hs:=nC s
  split at h
  ·cases h
  ·rename_i c t he
   rw [he] at hs;simp only [List.length_cons] at hs
   split at h
   ·cases h;simp only;omega
   ·have aux:∀s1:Bytes,s1.length<=t.length+1-> ((jx val s1).bind fun p=>if hasB ks p.1.1=true then none else iO val g p.2 (ks.take (posOf ks p.1.1)++p.1.1::ks.drop (posOf ks p.1.1)) (l.take (posOf ks p.1.1)++p.1.2::l.drop (posOf ks p.1.1)))=some p->p.2.length<s.length:=by
     intro s1 h1 h
     cases hq:jx val s1 with
     |none=>rw [hq] at h;cases h
     |some q=>
      rw [hq] at h;simp only [Option.bind_some] at h
      split at h
      ·cases h
      ·have h2:=KR hv hq
       have h3:=QT hv g _ _ _ _ h;omega
    split at h
    ·exact aux _ (by simp) h
    ·split at h
     ·exact aux _ (by omega) h
     ·cases h
theorem QU {c:UInt8} {t:Bytes} (h:c=45\/eB c=true):0<jw (c::t):=by
 unfold jw
 split
 ·omega
 ·rename_i hne
  rcases h with rfl|h
  ·exact absurd rfl (hne t)
  ·rw [List.takeWhile_cons,if_pos h];simp
theorem AQ:∀(f:Nat) (s:Bytes) (p:V×Bytes),bJ f s=some p->p.2.length<s.length
 |0,_,_,h=>by cases h
 |f+1,s,p,h=>by
  rw [bJ] at h;have hs:=nC s
  split at h
  ·cases h
  ·rename_i c t he
   rw [he] at hs;simp only [List.length_cons] at hs
   repeat (split at h;rotate_left)
   all_goals first
    |(cases h;done)
    |(split at h;(first|(cases h;simp only [List.length_drop];omega)|cases h);(first|(cases h;done)|skip))
    |skip
   ·simp only [Option.map_eq_some_iff] at h
    obtain⟨q,hq,rfl⟩:=h;have:=Dh _ _ _ _ hq;simp only;omega
   ·rename_i hd
    simp only [Option.map_eq_some_iff] at h;obtain⟨q,hq,rfl⟩:=h;have:=(QS hq).2 (QU hd) (by simp);simp only [List.length_cons] at this⊢;omega
   ·simp only [Option.map_eq_some_iff] at h
    obtain⟨q,hq,rfl⟩:=h;have:=KQ (AQ f) _ _ _ _ hq;simp only;omega
   ·simp only [Option.map_eq_some_iff] at h
    obtain⟨q,hq,rfl⟩:=h;have:=QT (AQ f) _ _ _ _ _ hq;simp only;omega
example:(dX [32,123,34,98,34,58,32,91,49,44,32,110,117,108,108,93,125]).2=0:=by decide+kernel
theorem QV:∀(l r:List UInt8) (acc v:Nat),Lib.parseUint10 acc l= .ok v->Lib.parseUint10 acc (l++r)=Lib.parseUint10 v r
 | [],r,acc,v,h=>by simp only [Lib.parseUint10,Lib.NumEnd.ok.injEq] at h;subst h;rfl
 |c::l,r,acc,v,h=>by
  simp only [Lib.parseUint10,List.cons_append] at h⊢
  split at h
  ·rename_i hc
   rw [if_pos hc]
   split at h
   ·cases h
   ·rename_i h1
    rw [if_neg h1]
    split at h
    ·cases h
    ·rename_i h2
     rw [if_neg h2];exact QV l r _ v h
  ·cases h
theorem KS {u:Nat} (h:u<10):(UInt8.ofNat (48+u)).toNat=48+u:=by
 rw [UInt8.toNat_ofNat'];omega
theorem QW {acc u:Nat} (h:u<10) (ha:acc*10+u<1000000000000000000):Lib.parseUint10 acc [UInt8.ofNat (48+u)]= .ok (acc*10+u):=by
 have e:=KS h;simp only [Lib.parseUint10,e];rw [if_pos (by omega),if_neg (by omega),if_neg (by omega)];congr 1;omega
theorem QX (u:Nat) (h:u<1000000000000000000):Lib.parseUint10 0 (Lib.decDigits u)= .ok u:=by
 induction u using Nat.strongRecOn with
 |_ u ih=>
  by_cases hu:u<10
  ·rw [Lib.decDigits,dif_pos hu,QW hu (by omega)];simp
  ·rw [Lib.decDigits,dif_neg hu,QV _ _ _ _ (ih (u/10) (by omega) (by omega)),QW (by omega) (by omega)]
   congr 1;omega
theorem KT (u:Nat):∀c∈Lib.decDigits u,eB c=true:=by
 induction u using Nat.strongRecOn with
 |_ u ih=>
  by_cases hu:u<10
  ·rw [Lib.decDigits,dif_pos hu]
   intro c hc;obtain rfl:=List.mem_singleton.1 hc;simp [eB,KS hu];omega
  ·rw [Lib.decDigits,dif_neg hu]
   intro c hc;rcases List.mem_append.1 hc with hc|hc
   ·exact ih (u/10) (by omega) c hc
   ·obtain rfl:=List.mem_singleton.1 hc
    have:=KS (u:=u%10) (by omega);simp [eB,this];omega
theorem Gh (u:Nat):∃c t,Lib.decDigits u=c::t/\eB c=true:=by
 cases h:Lib.decDigits u with
 |nil=>have:=Lib.decDigits_length u;have:=Lib.nDigits_pos u;rw [h] at*;simp at*;omega
 |cons c t=>exact⟨c,t,rfl,KT u c (by rw [h];simp)⟩
theorem KU:∀(k u:Nat),u<10^ (k+1)->Lib.nDigits u<=k+1
 |0,u,h=>by rw [Lib.nDigits_small (by simpa using h)];omega
 |k+1,u,h=>by
  by_cases hu:u<10
  ·rw [Lib.nDigits_small hu];omega
  ·rw [Lib.nDigits_big hu]
   have:=KU k (u/10) (by rw [Nat.pow_succ] at h;omega);omega
theorem KV {c:UInt8}:eB c=true↔48<=c.toNat/\c.toNat<=57:=by simp [eB]
theorem ZN (n:Int) (h0: -9007199254740992<=n) (h1:n<=9007199254740992):Lib.atoiAll (Lib.itoa n)= .ok n:=by
 unfold Lib.itoa;by_cases hn:n<0
 ·rw [if_pos hn]
  obtain⟨c,t,he,-⟩:=Gh n.natAbs;have hp:=QX n.natAbs (by omega);unfold Lib.atoiAll;simp only [show (45:UInt8).toNat=45 from rfl,or_true,if_true,Lib.parseMag];rw [if_neg (by rw [he];simp),hp];simp only [not_true_eq_false,false_and,if_false,true_and,if_true];rw [if_neg (by omega)];congr 1;omega
 ·rw [if_neg hn]
  obtain⟨c,t,he,hc⟩:=Gh n.toNat;have hp:=QX n.toNat (by omega);rw [KV] at hc;rw [he] at hp⊢;unfold Lib.atoiAll;simp only;rw [if_neg (by omega)];simp only [Lib.parseMag];rw [if_neg (by simp),hp];simp only;rw [if_neg (by omega),if_neg (by omega),if_neg (by omega)];congr 1;omega
def Stop (s:Bytes):Prop:=∀c t,s=c::t->eB c=false
theorem QY {l r:Bytes} (h:∀c∈l,eB c=true) (hr:Stop r):(l++r).takeWhile eB=l:=by
 induction l with
 |nil=>
  cases r with
  |nil=>rfl
  |cons c t=>simp [hr c t rfl]
 |cons a l ih=>rw [List.cons_append,List.takeWhile_cons,if_pos (h a (by simp)),ih (fun c hc=>h c (by simp [hc]))]
theorem ZO (n:Int) {r:Bytes} (hr:Stop r):jw (Lib.itoa n++r)=(Lib.itoa n).length:=by
 unfold Lib.itoa;by_cases hn:n<0
 ·rw [if_pos hn]
  simp only [List.cons_append,jw,List.length_cons];rw [QY (KT _) hr]
 ·rw [if_neg hn]
  obtain⟨c,t,he,hc⟩:=Gh n.toNat;have h1:=QY (KT n.toNat) hr;rw [KV] at hc;rw [he] at h1⊢;unfold jw
  split
  ·rename_i t' heq
   simp only [List.cons_append,List.cons.injEq] at heq;rw [heq.1] at hc;simp at hc
  ·rw [h1]
theorem QZ {n:Int} (h0: -9007199254740992<=n) (h1:n<=9007199254740992):(Lib.itoa n).length<=17:=by
 unfold Lib.itoa
 split
 ·rw [List.length_cons,Lib.decDigits_length]
  have:=KU 15 n.natAbs (by omega);omega
 ·rw [Lib.decDigits_length]
  have:=KU 15 n.toNat (by omega);omega
theorem ZP {n:Int} (h0: -9007199254740992<=n) (h1:n<=9007199254740992) {r:Bytes} (hr:Stop r):eu (Lib.itoa n++r)=some (n,r):=by
 unfold eu;rw [ZO n hr,if_neg (by have:=QZ h0 h1;omega),List.take_left',List.drop_left',ZN n h0 h1]
 ·simp [h0,h1]
 ·rfl
 ·rfl
theorem Q0 (n:Int):∃c t,Lib.itoa n=c::t/\ (c=45\/eB c=true):=by
 unfold Lib.itoa
 split
 ·exact⟨_,_,rfl, .inl rfl⟩
 ·obtain⟨c,t,he,hc⟩:=Gh n.toNat
  exact⟨c,t,he, .inr hc⟩
theorem Q5:∀n,n<16->gu (lT n)=some n:=by decide
theorem Gi (c:UInt8):UInt8.ofNat c.toNat=c:=by apply UInt8.toNat_inj.1;simp
theorem ZQ {c:UInt8} (h:c=34\/c=92):vg c=some c:=by rcases h with rfl|rfl<;>rfl
theorem ZR {c:UInt8} (hc:c.toNat<128) (f:Nat) (t b:Bytes) (hb:b.length<=60):eA (f+1) (iN c++t) b=eA f t (b++ [c]):=by
 have hb':¬60<b.length:=by omega
 have two:∀m d:UInt8,vg d=some m->eA (f+1) ([92,d]++t) b=eA f t (b++ [m]):=by intro m d h;simp only [List.cons_append,List.nil_append,eA];rw [if_neg (by simp [hb']),if_neg (by decide),if_pos trivial];simp only [jv,h,Option.bind_some]
 unfold iN
 split
 ·rename_i h;exact two c c (ZQ h)
 ·rename_i h1
  split
  ·rename_i h;subst h;exact two 8 98 rfl
  ·split
   ·rename_i h;subst h;exact two 12 102 rfl
   ·split
    ·rename_i h;subst h;exact two 10 110 rfl
    ·split
     ·rename_i h;subst h;exact two 13 114 rfl
     ·split
      ·rename_i h;subst h;exact two 9 116 rfl
      ·split
       ·have hx1:=Q5 (c.toNat/16) (by omega)
        have hx2:=Q5 (c.toNat%16) (by omega);have hx0:gu 48=some 0:=rfl;simp only [List.cons_append,List.nil_append,eA];rw [if_neg (by simp [hb']),if_neg (by decide),if_pos trivial];have hm:vg 117=none:=rfl;simp only [jv,hm,if_true,wR,hx0,hx1,hx2,Option.bind_some];rw [if_pos (by omega)];simp only [Option.bind_some];rw [show ((0*16+0)*16+c.toNat/16)*16+c.toNat%16=c.toNat by omega,Gi]
       ·rename_i h2
        simp only [List.cons_append,List.nil_append,eA];have ag3:c.toNat≠127:=fun e=>h2 (.inr (UInt8.toNat_inj.1 e));have h3:¬(c.toNat<32\/127<=c.toNat\/60<b.length):=by
         rintro(h|h|h)
         ·exact h2 (.inl h)
         ·omega
         ·omega
        rw [if_neg h3,if_neg (fun e=>h1 (.inl e)),if_neg (fun e=>h1 (.inr e))]
theorem Q6:∀(s:Bytes) (b t:Bytes) (f:Nat),(∀c∈s,c.toNat<128)->b.length+s.length<=60->s.length<f->eA f (s.flatMap iN++34::t) b=some (b++s,t)
 | [],b,t,f+1,_,hb,_=>by
   simp only [List.flatMap_nil,List.nil_append,eA];simp only [List.length_nil] at hb;have h3:¬((34:UInt8).toNat<32\/127<= (34:UInt8).toNat\/60<b.length):=by
    rintro(h|h|h)
    ·exact absurd h (by decide)
    ·exact absurd h (by decide)
    ·omega
   rw [if_neg h3];simp
 |c::s,b,t,f+1,hs,hb,hf=>by simp only [List.length_cons] at hb hf;simp only [List.flatMap_cons,List.append_assoc];rw [ZR (hs c (by simp)) f _ b (by omega),Q6 s (b++ [c]) t f (fun d hd=>hs d (by simp [hd])) (by simp;omega) (by omega)];simp
theorem ZT (c:UInt8):1<= (iN c).length:=by
 unfold iN
 split
 ·simp
 ·split
  ·simp
  ·split
   ·simp
   ·split
    ·simp
    ·split
     ·simp
     ·split
      ·simp
      ·split<;>simp
theorem ZU (s:Bytes):s.length<= (s.flatMap iN).length:=by
 induction s with
 |nil=>simp
 |cons c s ih=>have:=ZT c;simp only [List.flatMap_cons,List.length_append,List.length_cons];omega
theorem KW {s:ah} (h:fc s=true):(∀c∈s.data.toList,c.toNat<128)/\s.data.toList.length<=60:=by
 simp only [fc,Bool.and_eq_true,List.all_eq_true,decide_eq_true_eq] at h;refine⟨fun c hc=>by have:=h.1 c hc;omega,?_⟩;have e:s.data.toList.length=s.size:=Array.length_toList;omega
theorem Q7 {s:ah} (h:fc s=true) (t:Bytes):eA ((s.data.toList.flatMap iN++34::t).length+1) (s.data.toList.flatMap iN++34::t) []=some (s.data.toList,t):=by
 obtain⟨h1,h2⟩:=KW h;have h3:=ZU s.data.toList;rw [Q6 _ _ _ _ h1 (by simpa using h2) (by rw [List.length_append,List.length_cons];omega)];simp
theorem ou {c:UInt8} {t:Bytes} (h:isSp c=false):dw (c::t)=c::t:=by simp [dw,h]
def ZV (s:Bytes):Prop:=∃c t,s=c::t/\isSp c=false/\c≠93/\c≠125/\c≠44
theorem KX {c:UInt8} (h:c=45\/eB c=true):isSp c=false/\c≠93/\c≠125/\c≠44/\c≠110/\c≠116/\c≠102/\c≠34:=by
 rcases h with rfl|h
 ·decide
 ·rw [KV] at h
  have hn:∀d:UInt8,(d.toNat<48\/57<d.toNat)->c≠d:=fun d hd e=>by subst e;omega
  have e1:=hn 32 (by decide);have e2:=hn 9 (by decide);have e3:=hn 10 (by decide);have e4:=hn 13 (by decide);exact⟨by simp [isSp,e1,e2,e3,e4],hn _ (by decide),hn _ (by decide),hn _ (by decide),hn _ (by decide),hn _ (by decide),hn _ (by decide),hn _ (by decide)⟩
theorem vh (x:V):x.text=if x.k=0 then [110,117,108,108] else if x.k=1 then(if x.n=1 then [116,114,117,101] else [102,97,108,115,101]) else if x.k=2 then Lib.itoa x.n else if x.k=3 then kS x.s.data.toList
 else if x.k=5 then 123::(V.text.go true true x.keys x.l++ [125]) else 91::(V.text.go false true x.keys x.l++ [93]):=by
 cases x with|mk k n s ks l=>rw [V.text];rfl
theorem Q8 (x:V):ZV x.text:=by
 rw [vh]
 split
 ·exact⟨_,_,rfl,by decide⟩
 ·split
  ·split
   ·exact⟨_,_,rfl,by decide⟩
   ·exact⟨_,_,rfl,by decide⟩
  ·split
   ·obtain⟨c,t,he,hc⟩:=Q0 x.n
    have:=KX hc;exact⟨c,t,he,this.1,this.2.1,this.2.2.1,this.2.2.2.1⟩
   ·split
    ·exact⟨_,_,rfl,by decide⟩
    ·split
     ·exact⟨_,_,rfl,by decide⟩
     ·exact⟨_,_,rfl,by decide⟩
theorem AR (o first:Bool) (ks:List ah):V.text.go o first ks []= []:=by cases o<;>cases first<;>rfl
theorem AU (o first:Bool) (ks:List ah) (x:V) (r:List V):V.text.go o first ks (x::r)=(if first then [] else [44])++((if o then kS (ks.headD ⟨#[]⟩).data.toList++ [58] else [])++(x.text++V.text.go o false ks.tail r)):=by rw [V.text.go]
theorem Q9 (o:Bool) (ks:List ah) (r:List V) {e:UInt8} (he:eB e=false) (rest:Bytes):Stop (V.text.go o false ks r++e::rest):=by
 intro c t h
 cases r with
 |nil=>rw [AR] at h;cases h;exact he
 |cons x r=>rw [AU] at h;cases h;rfl
def Gj (f:Nat) (x:V):Prop:=∀rest,Stop rest->bJ f (x.text++rest)=some (x,rest)
theorem Ra {f:Nat}:∀(r acc:List V) (ks:List ah) (g:Nat) (rest:Bytes),(∀y∈r,Gj f y)->r.length<g->gM (bJ f) g (V.text.go false acc.isEmpty ks r++93::rest) acc=some (acc++r,rest)
 | [],acc,ks,g+1,rest,_,_=>by rw [AR,List.nil_append,gM,ou (by decide)];simp
 |y::r,acc,ks,g+1,rest,hb,hg=>by
  simp only [List.length_cons] at hg;rw [AU];have hy:=hb y (by simp) _ (Q9 false ks.tail r (e:=93) (by decide) rest);have ih:=Ra r (acc++ [y]) ks.tail g rest (fun z hz=>hb z (by simp [hz])) (by omega);have he:(acc++ [y]).isEmpty=false:=by simp
  rw [he] at ih;simp only [Bool.false_eq_true,if_false,List.nil_append,List.append_assoc]
  cases acc with
  |nil=>
   obtain⟨c,t,hc,h1,h2,-⟩:=Q8 y;simp only [List.isEmpty_nil,if_true,List.nil_append];rw [gM];have hsp:dw (y.text++(V.text.go false false ks.tail r++93::rest))=c::(t++(V.text.go false false ks.tail r++93::rest)):=by rw [hc,List.cons_append,ou h1]
   rw [hsp];simp only [if_neg h2,if_true,Option.bind_some];rw [<-List.cons_append,<-hc,hy];simp only [Option.bind_some];rw [ih];simp
  |cons a acc=>
   simp only [List.isEmpty_cons,Bool.false_eq_true,if_false,List.cons_append,List.nil_append];rw [gM,ou (by decide)];simp only [show¬(44:UInt8)=93 by decide,if_false,if_true,reduceCtorEq,Option.bind_some];rw [hy];simp only [Option.bind_some,List.cons_append] at ih⊢;rw [ih];simp
theorem ZW {ks:List ah} {k:ah} (h:∀a∈ks,bB a k=true):posOf ks k=ks.length/\hasB ks k=false:=by
 have e:posOf ks k=ks.length:=(FM (Nat.le_refl _) (fun i hi=>h _ (List.getElem_mem _)) (fun h=>absurd h (Nat.lt_irrefl _))).symm;refine⟨e,?_⟩;unfold hasB;rw [e,List.getElem?_eq_none (Nat.le_refl _)]
theorem ZX {f:Nat} {y:V} {k:ah} (hk:fc k=true) {rest:Bytes} (hy:bJ f (y.text++rest)=some (y,rest)):jx (bJ f) (kS k.data.toList++([58]++(y.text++rest)))=some ((k,y),rest):=by
 unfold jx kS;rw [List.cons_append,ou (by decide)];simp only [if_true,List.append_assoc,List.cons_append,List.nil_append];rw [Q7 hk];simp only [Option.bind_some];rw [ou (by decide)];simp only [if_true,hy,Option.map_some]
theorem Rb {f:Nat}:∀(r acc:List V) (ks ka:List ah) (g:Nat) (rest:Bytes),(∀y∈r,Gj f y)-> (∀k∈ks,fc k=true)->cn (ka++ks)->ks.length=r.length->ka.length=acc.length->r.length<g->
 iO (bJ f) g (V.text.go true acc.isEmpty ks r++125::rest) ka acc=some ((ka++ks,acc++r),rest)
 | [],acc,ks,ka,g+1,rest,_,_,_,hl,_,_=>by obtain rfl:=List.eq_nil_of_length_eq_zero (by simpa using hl);rw [AR,List.nil_append,iO,ou (by decide)];simp
 |y::r,acc, [],ka,g+1,rest,_,_,_,hl,_,_=>by simp at hl
 |y::r,acc,k::ks,ka,g+1,rest,hb,hp,hr,hl,hka,hg=>by
  simp only [List.length_cons] at hg hl;rw [AU];have hy:=hb y (by simp) _ (Q9 true ks r (e:=125) (by decide) rest);have hlt:∀a∈ka,bB a k=true:=by intro a ha;rw [cn,List.pairwise_append] at hr;exact hr.2.2 a ha k (by simp)
  obtain⟨hpos,hno⟩:=ZW hlt;have ih:=Rb r (acc++ [y]) ks (ka++ [k]) g rest (fun z hz=>hb z (by simp [hz])) (fun q hq=>hp q (by simp [hq])) (by simpa using hr) (by omega) (by simp [hka]) (by omega);have he:(acc++ [y]).isEmpty=false:=by simp
  rw [he] at ih;have hm:=ZX (f:=f) (y:=y) (k:=k) (hp k (by simp)) hy;have ht1:ka.take ka.length++k::ka.drop ka.length=ka++ [k]:=by simp
  have ht2:acc.take ka.length++y::acc.drop ka.length=acc++ [y]:=by rw [hka];simp
  simp only [if_true,List.headD_cons,List.tail_cons,List.append_assoc]
  cases acc with
  |nil=>
   simp only [List.isEmpty_nil,if_true,List.nil_append];rw [iO];have hq:kS k.data.toList++([58]++(y.text++(V.text.go true false ks r++125::rest)))=34::((k.data.toList.flatMap iN++ [34])++([58]++(y.text++(V.text.go true false ks r++125::rest)))):=rfl;have hsp:dw (kS k.data.toList++([58]++(y.text++(V.text.go true false ks r++125::rest))))=34::((k.data.toList.flatMap iN++ [34])++([58]++(y.text++(V.text.go true false ks r++125::rest)))):=by rw [hq,ou (by decide)]
   rw [hsp];simp only [show¬(34:UInt8)=125 by decide,if_false,if_true,Option.bind_some];rw [<-hq,hm];simp only [Option.bind_some,hno,Bool.false_eq_true,if_false,hpos,ht1,ht2];rw [ih];simp
  |cons a acc=>
   simp only [List.isEmpty_cons,Bool.false_eq_true,if_false,List.cons_append,List.nil_append];rw [iO,ou (by decide)];simp only [show¬(44:UInt8)=125 by decide,if_false,if_true,reduceCtorEq,Option.bind_some];simp only [List.cons_append,List.nil_append] at hm;rw [hm];simp only [Option.bind_some,hno,Bool.false_eq_true,if_false,hpos,ht1,ht2];rw [ih];simp
theorem KY (o first:Bool):∀(r:List V) (ks:List ah) (first:Bool),r.length<= (V.text.go o first ks r).length
 | [],_,_=>by simp
 |y::r,ks,first=>by
  rw [AU];obtain⟨c,t,hc,-⟩:=Q8 y;have:=KY o first r ks.tail false
  simp only [List.length_append,List.length_cons,hc];omega
theorem Gk {s:ah} (h:s.toList= []):s=⟨#[]⟩:=by
 rw [ByteArray.toList_eq] at h;obtain⟨⟨l⟩⟩:=s;simp only at h;subst h;rfl
theorem ZY:∀(x:V) (f:Nat),x.good (13-(f:Int))=true->Gj f x:=by
 intro x
 induction x using V.ind with
 |h x ih=>
  intro f hg rest hrest;rw [V.rR,Bool.and_eq_true,List.all_eq_true] at hg;obtain⟨hfl,rS⟩:=hg;obtain⟨hf,hd⟩:=F9 hfl;obtain⟨f,rfl⟩:∃f',f=f'+1:=⟨f-1,by omega⟩;have gh:=hf.k0;have mP:=hf.k5;rw [vh];by_cases e0:x.k=0
  ·rw [if_pos e0]
   have hx:x=V.zero:=by have h1:=hf.n0 (by omega) (by omega);have h2:=Gk (hf.s0 (by omega));have h3:=hf.yP (by omega);have h4:=hf.l0 (by omega);rw [<-V.eta x,e0,h1,h2,h3,h4];rfl
   rw [hx];simp only [List.cons_append,List.nil_append];rw [bJ,ou (by decide)];simp [List.isPrefixOf]
  rw [if_neg e0];by_cases e1:x.k=1
  ·rw [if_pos e1]
   have h2:=Gk (hf.s0 (by omega));have h3:=hf.yP (by omega);have h4:=hf.l0 (by omega);by_cases en:x.n=1
   ·rw [if_pos en]
    have hx:x=wS:=by rw [<-V.eta x,e1,en,h2,h3,h4]
    rw [hx];simp only [List.cons_append,List.nil_append];rw [bJ,ou (by decide)];simp [List.isPrefixOf]
   ·rw [if_neg en]
    have hn:x.n=0:=(hf.n1 e1).resolve_right en;have hx:x=wT:=by rw [<-V.eta x,e1,hn,h2,h3,h4]
    rw [hx];simp only [List.cons_append,List.nil_append];rw [bJ,ou (by decide)];simp [List.isPrefixOf]
  rw [if_neg e1];by_cases e2:x.k=2
  ·rw [if_pos e2]
   have h2:=Gk (hf.s0 (by omega));have h3:=hf.yP (by omega);have h4:=hf.l0 (by omega);obtain⟨c,t,he,hc⟩:=Q0 x.n;have ov:=KX hc;have vo:=ZP hf.F7 hf.F8 hrest;rw [he] at vo⊢;rw [List.cons_append] at vo⊢;rw [bJ,ou ov.1];simp only [if_neg ov.2.2.2.2.1,if_neg ov.2.2.2.2.2.1,if_neg ov.2.2.2.2.2.2.1,if_neg ov.2.2.2.2.2.2.2,if_pos hc,vo,Option.map_some,Option.some.injEq,Prod.mk.injEq,and_true];have hx:x= .mk 2 x.n ⟨#[]⟩ [] []:=by rw [<-V.eta x,e2,h2,h3,h4];rfl
   rw [hx];rfl
  rw [if_neg e2];by_cases e3:x.k=3
  ·rw [if_pos e3]
   have h1:=hf.n0 (by omega) (by omega);have h3:=hf.yP (by omega);have h4:=hf.l0 (by omega);unfold kS;rw [List.cons_append,bJ,ou (by decide)];simp only [show¬(34:UInt8)=110 by decide,show¬(34:UInt8)=116 by decide,show¬(34:UInt8)=102 by decide,if_false,if_true,List.append_assoc,List.cons_append,List.nil_append];rw [Q7 hf.sp];simp only [Option.map_some,Option.some.injEq,Prod.mk.injEq,and_true];have hx:x= .mk 3 0 x.s [] []:=by rw [<-V.eta x,e3,h1,h3,h4];rfl
   rw [hx];rfl
  rw [if_neg e3];have h1:=hf.n0 (by omega) (by omega);have h2:=Gk (hf.s0 (by omega));have hb:∀y∈x.l,Gj f y:=fun y hy=>ih y hy f (by have:=rS y hy;rw [show (13:Int)-((f+1:Nat):Int)+1=13-(f:Int) by omega] at this;exact this);by_cases e5:x.k=5
  ·rw [if_pos e5]
   rw [List.cons_append,bJ,ou (by decide)];simp only [show¬(123:UInt8)=110 by decide,show¬(123:UInt8)=116 by decide,show¬(123:UInt8)=102 by decide,show¬(123:UInt8)=34 by decide,show¬((123:UInt8)=45\/eB 123=true) by decide,show¬(123:UInt8)=91 by decide,if_false,if_true,List.append_assoc,List.cons_append,List.nil_append];have hl:=KY true true x.l x.keys true;have:=Rb x.l [] x.keys [] ((V.text.go true true x.keys x.l++125::rest).length+1) rest hb hf.kp (by simpa using hf.dO) (hf.len e5) rfl (by simp;omega);simp only [List.isEmpty_nil] at this;rw [this];simp only [Option.map_some,List.nil_append,Option.some.injEq,Prod.mk.injEq,and_true];have hx:x= .mk 5 0 ⟨#[]⟩ x.keys x.l:=by rw [<-V.eta x,e5,h1,h2];rfl
   rw [hx];rfl
  ·rw [if_neg e5]
   have h3:=hf.yP e5;have e4:x.k=4:=by omega
   rw [List.cons_append,bJ,ou (by decide)];simp only [show¬(91:UInt8)=110 by decide,show¬(91:UInt8)=116 by decide,show¬(91:UInt8)=102 by decide,show¬(91:UInt8)=34 by decide,show¬((91:UInt8)=45\/eB 91=true) by decide,if_false,if_true,List.append_assoc,List.cons_append,List.nil_append];have hl:=KY false true x.l x.keys true;have:=Ra x.l [] x.keys ((V.text.go false true x.keys x.l++93::rest).length+1) rest hb (by simp;omega);simp only [List.isEmpty_nil] at this;rw [this];simp only [Option.map_some,List.nil_append,Option.some.injEq,Prod.mk.injEq,and_true];have hx:x= .mk 4 0 ⟨#[]⟩ [] x.l:=by rw [<-V.eta x,e4,h1,h2,h3];rfl
   rw [hx];rfl
theorem ZZ {x:V} (h:x.fine=true):yR x.text=some x:=by
 have hg:x.good 1=true:=by simp only [V.fine,Bool.and_eq_true] at h;exact h.1
 have:=ZY x 12 (by simpa using hg) [] (fun c t h=>by cases h);rw [List.append_nil] at this;unfold yR;rw [this];simp [dw,h]
theorem Z0 {x:V} (h:(gf x).2=0):dX (gf x).1=(x,0):=by
 unfold gf at h⊢;by_cases hf:x.fine=false
 ·rw [if_pos hf] at h;simp at h
 ·rw [if_neg hf] at h⊢
  by_cases hl:2000<x.text.length
  ·rw [if_pos hl] at h;simp at h
  ·rw [if_neg hl]
   unfold dX;rw [if_neg hl,ZZ (by simpa using hf)]
theorem KZ:∀(f f':Nat) (s b:Bytes),s.length<f->s.length<f'->eA f s b=eA f' s b
 |0,_,_,_,h,_=>absurd h (Nat.not_lt_zero _)
 |_,0,_,_,_,h=>absurd h (Nat.not_lt_zero _)
 |f+1,f'+1, [],b,_,_=>rfl
 |f+1,f'+1,c::t,b,h,h'=>by
  simp only [List.length_cons] at h h';rw [eA,eA]
  split
  ·rfl
  ·split
   ·rfl
   ·split
    ·cases he:jv t with
     |none=>rfl
     |some p=>
      have:=Gg he;simp only [Option.bind_some];exact KZ f f' _ _ (by omega) (by omega)
    ·exact KZ f f' _ _ (by omega) (by omega)
def Rc (val:Bytes->Option (V×Bytes)):Prop:=∀s p,val s=some p->p.2.length<s.length
theorem Re {val:Bytes->Option (V×Bytes)} (hv:Rc val):∀(f f':Nat) (s:Bytes) (l:List V),s.length<f->s.length<f'->gM val f s l=gM val f' s l
 |0,_,_,_,h,_=>absurd h (Nat.not_lt_zero _)
 |_,0,_,_,_,h=>absurd h (Nat.not_lt_zero _)
 |f+1,f'+1,s,l,h,h'=>by
  rw [gM,gM];have hs:=nC s
  split
  ·rfl
  ·rename_i c t he
   rw [he] at hs;simp only [List.length_cons] at hs
   split
   ·rfl
   ·have aux:∀s1:Bytes,s1.length<=t.length+1-> ((val s1).bind fun p=>gM val f p.2 (l++ [p.1]))=((val s1).bind fun p=>gM val f' p.2 (l++ [p.1])):=by
     intro s1 h1
     cases hq:val s1 with
     |none=>rfl
     |some q=>
      have h2:=hv _ _ hq;simp only [Option.bind_some];exact Re hv f f' _ _ (by omega) (by omega)
    split
    ·exact aux _ (by simp)
    ·split
     ·exact aux _ (by omega)
     ·rfl
theorem Rf {val:Bytes->Option (V×Bytes)} (hv:Rc val):∀(f f':Nat) (s:Bytes) (ks:List ah) (l:List V),s.length<f->s.length<f'->iO val f s ks l=iO val f' s ks l
 |0,_,_,_,_,h,_=>absurd h (Nat.not_lt_zero _)
 |_,0,_,_,_,_,h=>absurd h (Nat.not_lt_zero _)
 |f+1,f'+1,s,ks,l,h,h'=>by
  rw [iO,iO];have hs:=nC s
  split
  ·rfl
  ·rename_i c t he
   rw [he] at hs;simp only [List.length_cons] at hs
   split
   ·rfl
   ·have aux:∀s1:Bytes,s1.length<=t.length+1-> ((jx val s1).bind fun p=>if hasB ks p.1.1=true then none else iO val f p.2 (ks.take (posOf ks p.1.1)++p.1.1::ks.drop (posOf ks p.1.1)) (l.take (posOf ks p.1.1)++p.1.2::l.drop (posOf ks p.1.1)))=((jx val s1).bind fun p=>if hasB ks p.1.1=true then none else iO val f' p.2 (ks.take (posOf ks p.1.1)++p.1.1::ks.drop (posOf ks p.1.1)) (l.take (posOf ks p.1.1)++p.1.2::l.drop (posOf ks p.1.1))):=by
     intro s1 h1
     cases hq:jx val s1 with
     |none=>rfl
     |some q=>
      have h2:=KR hv hq;simp only [Option.bind_some]
      split
      ·rfl
      ·exact Rf hv f f' _ _ _ (by omega) (by omega)
    split
    ·exact aux _ (by simp)
    ·split
     ·exact aux _ (by omega)
     ·rfl
theorem Gl:∀(f:Nat) (s b:Bytes) (p:Bytes×Bytes),eA f s b=some p->p.1.length+p.2.length+1<=s.length+b.length
 |0,_,_,_,h=>by cases h
 |_+1, [],_,_,h=>by cases h
 |f+1,c::t,b,p,h=>by
  rw [eA] at h
  split at h
  ·cases h
  ·split at h
   ·cases h;simp;omega
   ·split at h
    ·cases he:jv t with
     |none=>rw [he] at h;cases h
     |some q=>
      rw [he] at h;have h1:=Gg he;have h2:=Gl f _ _ _ h;simp only [List.length_cons,List.length_append,List.length_nil] at*;omega
    ·have h2:=Gl f _ _ _ h
     simp only [List.length_cons,List.length_append,List.length_nil] at*;omega
def Gm (val:Bytes->Option (V×Bytes)):Prop:=∀s p,val s=some p->p.1.size+p.2.length<=s.length
theorem Rg {val:Bytes->Option (V×Bytes)} (hv:Gm val):∀(g:Nat) (s:Bytes) (l:List V) (p:List V×Bytes),gM val g s l=some p-> (p.1.map V.size).sum+p.2.length+1<=s.length+(l.map V.size).sum
 |0,_,_,_,h=>by cases h
 |g+1,s,l,p,h=>by
  rw [gM] at h;have hs:=nC s
  split at h
  ·cases h
  ·rename_i c t he
   rw [he] at hs;simp only [List.length_cons] at hs
   split at h
   ·cases h;simp only;omega
   ·have aux:∀s1:Bytes,s1.length<=t.length+1-> ((val s1).bind fun p=>gM val g p.2 (l++ [p.1]))=some p-> (p.1.map V.size).sum+p.2.length+1<=s.length+(l.map V.size).sum:=by
     intro s1 h1 h
     cases hq:val s1 with
     |none=>rw [hq] at h;cases h
     |some q=>
      rw [hq] at h;have h2:=hv _ _ hq;have h3:=Rg hv g _ _ _ h;simp only [List.map_append,List.sum_append,List.map_cons,List.map_nil,List.sum_cons,List.sum_nil] at h3;omega
    split at h
    ·exact aux _ (by simp) h
    ·split at h
     ·exact aux _ (by omega) h
     ·cases h
theorem Z1 {val:Bytes->Option (V×Bytes)} (hv:Gm val) {s:Bytes} {p:(ah×V)×Bytes} (h:jx val s=some p):p.1.1.size+1+p.1.2.size+p.2.length<=s.length:=by
 unfold jx at h;have hs:=nC s
 split at h
 ·cases h
 ·rename_i c t he
  rw [he] at hs;simp only [List.length_cons] at hs
  split at h
  ·cases hq:eA (t.length+1) t [] with
   |none=>rw [hq] at h;cases h
   |some q=>
    rw [hq] at h;simp only [Option.bind_some] at h;have h1:=Gl _ _ _ _ hq;have h2:=nC q.2
    split at h
    ·cases h
    ·rename_i c' t' he'
     rw [he'] at h2;simp only [List.length_cons,List.length_nil] at h1 h2
     split at h
     ·cases hr:val t' with
      |none=>rw [hr] at h;cases h
      |some r=>
       rw [hr] at h;have h3:=hv _ _ hr
       cases h
       simp only [ByteArray.size,List.size_toArray];omega
     ·cases h
  ·cases h
theorem Rh {α:Type} (f:α->Nat) (l:List α) (k:Nat) (x:α):((l.take k++x::l.drop k).map f).sum=(l.map f).sum+f x:=by
 have h:(l.map f).sum=((l.take k).map f).sum+((l.drop k).map f).sum:=by rw [<-List.sum_append,<-List.map_append,List.take_append_drop]
 simp only [List.map_append,List.map_cons,List.sum_append,List.sum_cons];omega
theorem Ri {val:Bytes->Option (V×Bytes)} (hv:Gm val):∀(g:Nat) (s:Bytes) (ks:List ah) (l:List V) (p:(List ah×List V)×Bytes),iO val g s ks l=some p->fw p.1.1+(p.1.2.map V.size).sum+p.2.length+1<=s.length+fw ks+(l.map V.size).sum
 |0,_,_,_,_,h=>by cases h
 |g+1,s,ks,l,p,h=>by
  rw [iO] at h;have hs:=nC s
  split at h
  ·cases h
  ·rename_i c t he
   rw [he] at hs;simp only [List.length_cons] at hs
   split at h
   ·cases h;simp only;omega
   ·have aux:∀s1:Bytes,s1.length<=t.length+1-> ((jx val s1).bind fun p=>if hasB ks p.1.1=true then none else iO val g p.2 (ks.take (posOf ks p.1.1)++p.1.1::ks.drop (posOf ks p.1.1)) (l.take (posOf ks p.1.1)++p.1.2::l.drop (posOf ks p.1.1)))=some p->fw p.1.1+(p.1.2.map V.size).sum+p.2.length+1<=s.length+fw ks+(l.map V.size).sum:=by
     intro s1 h1 h
     cases hq:jx val s1 with
     |none=>rw [hq] at h;cases h
     |some q=>
      rw [hq] at h;simp only [Option.bind_some] at h
      split at h
      ·cases h
      ·have h2:=Z1 hv hq
       have h3:=Ri hv g _ _ _ _ h;unfold fw at*;rw [Rh,Rh] at h3;omega
    split at h
    ·exact aux _ (by simp) h
    ·split at h
     ·exact aux _ (by omega) h
     ·cases h
theorem K0:∀(f:Nat),Gm (bJ f)
 |0,_,_,h=>by cases h
 |f+1,s,p,h=>by
  rw [bJ] at h;have hs:=nC s
  split at h
  ·cases h
  ·rename_i c t he
   rw [he] at hs;simp only [List.length_cons] at hs;have hz:V.zero.size=1:=by rw [V.size_eq];rfl
   have ht:wS.size=1:=by rw [V.size_eq];rfl
   have hf:wT.size=1:=by rw [V.size_eq];rfl
   repeat (split at h;rotate_left)
   all_goals first
    |(cases h;done)
    |(split at h;(first|(cases h;simp only [List.length_drop,hz,ht,hf];omega)|cases h);(first|(cases h;done)|skip))
    |skip
   ·simp only [Option.map_eq_some_iff] at h
    obtain⟨q,hq,rfl⟩:=h;have:=Gl _ _ _ _ hq;rw [V.size_eq];simp only [V.kH,V.gi,V.ej,ByteArray.size,List.size_toArray,fw,List.map_nil,List.sum_nil,List.length_nil] at*;omega
   ·rename_i hd
    simp only [Option.map_eq_some_iff] at h;obtain⟨q,hq,rfl⟩:=h;have:=(QS hq).2 (QU hd) (by simp);rw [V.size_eq];simp only [V.kH,V.gi,V.ej,fw,List.map_nil,List.sum_nil,List.length_cons,show (⟨#[]⟩:ah).size=0 from rfl] at*;omega
   ·simp only [Option.map_eq_some_iff] at h
    obtain⟨q,hq,rfl⟩:=h;have:=Rg (K0 f) _ _ _ _ hq;rw [V.size_eq];simp only [V.kH,V.gi,V.ej,fw,List.map_nil,List.sum_nil,show (⟨#[]⟩:ah).size=0 from rfl] at*;omega
   ·simp only [Option.map_eq_some_iff] at h
    obtain⟨q,hq,rfl⟩:=h;have:=Ri (K0 f) _ _ _ _ _ hq;rw [V.size_eq];simp only [V.kH,V.gi,V.ej,fw,List.map_nil,List.sum_nil,show (⟨#[]⟩:ah).size=0 from rfl] at*;omega
end Go.Proofs.YtlcebdaghmdkeaaGreatDoor

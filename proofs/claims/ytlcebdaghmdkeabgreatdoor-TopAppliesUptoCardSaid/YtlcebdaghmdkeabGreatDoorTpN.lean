import Derived.Test.YtlcebdaghmdkeabGreatDoorZ42
set_option linter.all false
set_option maxRecDepth 100000
set_option maxHeartbeats 64000000
namespace Go.Proofs.YtlcebdaghmdkeabGreatDoor
open Go.RowKit
theorem Wt {v w:V} {l m:List Ow} {a:Ac} (hk:a.k=5) (hc:cL v l a=(w,m,0)):∃want c,dQ a.body.data.toList=(want,0)/\ik v l a.who want a.force=(w,m,c,0):=by
 unfold cL at hc
 split at hc
 ·rename_i hne
  simp only [Prod.mk.injEq] at hc;exact absurd hc.2.2 hne
 ·rename_i h0
  (try rw [if_pos hk] at hc);simp only [Prod.mk.injEq] at hc;exact⟨(dQ a.body.data.toList).1,(ik v l a.who (dQ a.body.data.toList).1 a.force).2.2.1,Prod.ext rfl (Classical.byContradiction h0),by rw [<-hc.1,<-hc.2.1,<-hc.2.2]⟩
theorem af4 {m:List Ow} {name:ah} {ps:List ah} (h:p8 m name=ps) (hne:ps≠ []):∃o∈m,o.name=name/\o.paths=ps:=by
 unfold p8 at h
 cases hf:m.find? (fun o=>decide (o.name=name)) with
 |none=>rw [hf] at h;exact absurd h.symm hne
 |some o=>rw [hf] at h;exact⟨o,List.mem_of_find?_eq_some hf,by have:=List.find?_some hf;simpa using this,h⟩
structure af5 (s s':Sv) (a:Ac) (want:V) (t:Th):Prop where
 parse:dQ a.body.data.toList=(want,0)
 find:jA s'.ax a.name=some t
 leaf:∀p∈want.leaves,∃x y,bZ want p=(x,0)/\bZ t.v p=(y,0)/\ (y=x\/ (x.k=5/\y.k=5))/\x.size<=14640/\y.size<=14640
 names:(t.ows.map Ow.name).Nodup
 afs:want.fine=true
 aft:t.v.fine=true
 other:a.force=false->∀o,jA s.ax a.name=some o->∀w∈o.ows,w.name≠a.who->∃m∈t.ows,m.name=w.name/\m.paths=w.paths
theorem Wu {v w want:V} {l m:List Ow} {who:ah} {f:Bool} {c:List (ah×ah)} (h:ik v l who want f=(w,m,c,0)):
 (∀p∈want.leaves,∃x y,bZ want p=(x,0)/\bZ w p=(y,0)/\ (y=x\/ (x.k=5/\y.k=5))/\x.size<=14640/\y.size<=14640)/\ (m.map Ow.name).Nodup/\want.fine=true/\w.fine=true:=by
 obtain⟨-,h2,h3,h4,-⟩:=PH h;refine⟨fun p hp=> ?_,KH (RU h2),(AP (CN h).1).2.1,h3⟩;obtain⟨x,y,g1,g2,g3,g4⟩:=h4 p hp;refine⟨x,y,g1,g2,?_,g4⟩;rcases g3 with rfl|⟨rfl,ks,l,rfl,-⟩
 ·exact .inl rfl
 ·exact .inr ⟨rfl,rfl⟩
theorem afr {s s':Sv} {a:Ac} {r:Rp} (ho:Ok s) (h:Step s a s' r) (hk:a.k=5) (h0:r.c=0):∃want t,af5 s s' a want t:=by
 have hr:=ho.dL;have hr':=(ho.step h).dL
 cases h with
 |full h=>cases h0
 |no e h he=>exact absurd h0 he
 |tick h hk'=>omega
 |del h hk'=>omega
 |get h hk'=>omega
 |ord h hk'=>omega
 |keep h hk' k hl hn hv v ows hc hs=>
  obtain⟨want,c,h1,h2⟩:=Wt hk hc;obtain⟨h3,h4,Ot,Ou⟩:=Wu h2;have h5:=BX hr' (af6 (t:=s.ax[k].kept v ows s.time s.last) hl);rw [show (s.ax[k].kept v ows s.time s.last).name=a.name from hn] at h5;refine⟨want,_,h1,h5,h3,h4,Ot,Ou,fun hf o ho' w hw hne=> ?_⟩;have h6:=BX hr (List.getElem_mem hl);rw [hn,ho'] at h6;obtain rfl:=Option.some.inj h6;rw [hf] at h2;have hg:=(ho.ax _ (List.getElem_mem hl)).ows.good;exact af4 (aaY h2 hw hne).1 (RZ hg hw).1
 |IQ h hk' hh hn hl v ows hc hs=>
  obtain⟨want,c,h1,h2⟩:=Wt hk hc;obtain⟨h3,h4,Ot,Ou⟩:=Wu h2;have h5:=BX hr' (List.mem_append.2 (.inr (List.mem_cons_self ..)));refine⟨want,_,h1,h5,h3,h4,Ot,Ou,fun _ o ho'=> ?_⟩;obtain⟨h6,h7⟩:=z7 ho';exact absurd h7 (IV hr hh o h6)
def kx (s:Sv):List Ac->List Rp
 | []=> []
 |a::r=>(bP s a).2::kx (bP s a).1 r
theorem N7:∀(l:List Ac) (s:Sv),(kx s l).length=l.length
 | [],_=>rfl
 |a::r,s=>by simp [kx,N7 r]
theorem VO:∀(l:List Ac) (s:Sv) (k:Nat),kx s (l.take k)=(kx s l).take k
 | [],_,k=>by simp [kx]
 |a::r,s,0=>by simp [kx]
 |a::r,s,k+1=>by simp [kx,VO r]
theorem Wv:∀ {l:List Ac} {k:Nat} (hk:k<l.length) (s:Sv),kx s (l.take (k+1))=kx s (l.take k)++ [(bP (eI s (l.take k)) l[k]).2]
 | [],_,h,_=>by simp at h
 |a::r,0,_,s=>by simp [kx,eI]
 |a::r,k+1,h,s=>by have ih:=Wv (l:=r) (k:=k) (by simpa using h) (bP s a).1;simp only [List.take_succ_cons,kx,List.cons_append,List.getElem_cons_succ];rw [ih];rfl
end Go.Proofs.YtlcebdaghmdkeabGreatDoor

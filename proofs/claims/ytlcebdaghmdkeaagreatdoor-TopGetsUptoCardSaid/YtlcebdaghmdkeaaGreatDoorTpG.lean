import Derived.Test.YtlcebdaghmdkeaaGreatDoorZ40
set_option linter.all false
set_option maxRecDepth 100000
set_option maxHeartbeats 64000000
namespace Go.Proofs.YtlcebdaghmdkeaaGreatDoor
open Go.RowKit
def EO (name:ah):Ac:=⟨9,name,⟨#[]⟩,⟨#[]⟩,0,0,0,false⟩
theorem VE {l:List Th} (hr:cn (l.map Th.name)) {name:ah} {t:Th} (h:gQ l name=some t):fL l name=true/\l[eO l name]? =some t:=by
 obtain⟨hm,rfl⟩:=uC h;obtain⟨i,hi,rfl⟩:=List.getElem_of_mem hm;obtain⟨h1,h2⟩:=N4 hr hi;exact⟨h1,by rw [h2];exact List.getElem?_eq_getElem hi⟩
theorem afS {l:List Th} {name:ah} (h:gQ l name=none):fL l name=false:=by
 cases hh:fL l name with
 |false=>rfl
 |true=>
  obtain⟨hl,hn⟩:=VF hh;exact absurd hn (VG h _ (List.getElem_mem hl))
theorem get_none {s:Sv} (ha:s.acts<300) {a:Ac} (hk:a.k=9) (hf:gQ s.ay a.name=none):bz s a=(s.on,if fe a.name=false then .no 1 else .no 3):=by
 have hh:=afS hf;unfold bz;rw [if_neg (by omega)];unfold uy;rw [if_neg (by omega),if_neg (by omega)];dsimp only;by_cases hn:fe a.name=false
 ·rw [if_pos hn,if_pos hn];rfl
 ·rw [if_neg hn,if_neg hn,if_neg (by omega),if_pos hh];rfl
theorem get_some {s:Sv} (ho:Ok s) (ha:s.acts<300) {a:Ac} (hk:a.k=9) {t:Th} (hf:gQ s.ay a.name=some t):bz s a=(s.on,uz t):=by
 obtain⟨h1,h2⟩:=VE ho.dO hf;obtain⟨hm,he⟩:=uC hf;have hn:=(ho.ay t hm).name;rw [he] at hn;unfold bz;rw [if_neg (by omega)];unfold uy;rw [if_neg (by omega),if_neg (by omega)];dsimp only;rw [if_neg (by rw [hn];decide),if_neg (by omega),if_neg (by rw [h1];decide),h2];dsimp only;unfold qX;rw [if_neg (by omega),if_pos hk];rfl
theorem VH {v:V}:∀(l:List Ow),(∀o∈l,∀p∈o.paths,bI v p≠none)-> (∀o∈l,o.paths≠ [])->kU v l=l
 | [],_,_=>rfl
 |o::r,h,hp=>by
  unfold kU;have hf:o.paths.filter (fun p=>(bI v p).isSome)=o.paths:=List.filter_eq_self.2 fun p hm=>by
   have:=h o (by simp) p hm
   cases hv:bI v p with
   |none=>exact absurd hv this
   |some x=>rfl
  rw [List.filterMap_cons];unfold jt;rw [hf,if_neg (hp o (by simp))];dsimp only;have:=VH r (fun q hq=>h q (by simp [hq])) (fun q hq=>hp q (by simp [hq]));unfold kU jt at this;rw [this]
theorem afy {s:Sv} (ho:Ok s) (ha:s.acts<300) {a:Ac} (hk:a.k=2) {t:Th} (hf:gQ s.ay a.name=some t) (hv:a.ver=t.ver) (hp:(gf t.v).2=0) (hb:a.body.data.toList=(gf t.v).1):
 (bz s a).2= .num t.ver/\ (bz s a).1.ay.length=s.ay.length:=by
 obtain⟨h1,h2⟩:=VE ho.dO hf;obtain⟨hm,he⟩:=uC hf;have hok:=ho.ay t hm;have hn:=hok.name;rw [he] at hn;have afT:dX a.body.data.toList=(t.v,0):=by rw [hb];exact Z0 hp
 have afU:kU t.v t.ows=t.ows:=VH _ hok.ows.there fun o hoo=>(aaY hok.ows.good hoo).1;have hbody:mJ t.v t.v a.k=(t.v,0):=by unfold mJ;rw [if_neg (by omega),if_neg (by omega)]
 have hc:cR t.v t.ows a=(t.v,t.ows,0):=by unfold cR;rw [afT,if_neg (by simp),if_neg (by omega)];dsimp only;rw [hbody];dsimp only;rw [afU]
 have hg:=hok.gen;have EB:t.ver≠0:=by omega
 have ht:t.turn t.v t.ows=false:=by unfold Th.turn Th.other;rw [decide_eq_false EB,(Cz t.v t.v).2 rfl,(NI t.ows t.ows).2 rfl];rfl
 have IW:(t.kept t.v t.ows s.time s.last).ver=t.ver:=by unfold Th.kept;rw [ht];rfl
 have hres:bz s a=(⟨s.ay.set (eO s.ay a.name) (t.kept t.v t.ows s.time s.last),s.time,s.last,s.acts+1⟩, .num t.ver):=by unfold bz;rw [if_neg (by omega)];unfold uy;rw [if_neg (by omega),if_neg (by omega)];dsimp only;rw [if_neg (by rw [hn];decide),if_neg (by omega),if_neg (by rw [h1];decide),h2];dsimp only;unfold qX;rw [if_neg (by omega),if_neg (by omega),if_neg (by omega),if_neg (by omega),hc,if_neg (by simp)];unfold o7;dsimp only;rw [if_neg hok.spec,ht,IW];rfl
 rw [hres];exact⟨rfl,by simp⟩
end Go.Proofs.YtlcebdaghmdkeaaGreatDoor

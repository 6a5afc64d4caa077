/- What is moved and what is frozen; boxes made and written. -/
import Derived.Test.YtmcbmojdeikcdaaGreatE1
import Derived.Great.BuildSlice
namespace Go.Proofs.YtmcbmojdeikcdaaGreatEv
open Go Go.RowKit
section
variable {P:Program} {V:Env} {W:Wit} {st:St} {w w':World} {a:Act} {o:Oper} {ls:List Leaf} {cs:List Value}
theorem gC {st st':St}(h:∀ q,(st' q).sh=(st q).sh)(b:Nat):live st' b<->live st b:=by simp[live,h]
def aB (st:St)(x:Nat×Nat):Prop:=∃ l,(st x.1).ls[x.2]?=some l/\an l
def aU (W:Wit)(ks:List (Nat×Nat)):List Nat:=ks.flatMap λx=>W.bs x.1 x.2
theorem dm (W:Wit)(a b:List (Nat×Nat)):aU W (a++b)=aU W a++aU W b:=List.flatMap_append
theorem fv {W:Wit}{ks:List (Nat×Nat)}{k:Nat}:k∈aU W ks<->∃ x∈ks,k∈W.bs x.1 x.2:=List.mem_flatMap
theorem jp {W:Wit}{p:Bool}{ks:List (Nat×Nat)}(hks:∀ x∈ks,aB st x):∀ k,bi V W p ks k->gd V (W.frz st ks) p k:=by
 rintro k (hk|⟨x,hx,hk⟩)
 ·exact bL (W':=W.frz st ks) (λh=>h) (λ_ h=>Or.inl h) k hk
 ·exact .inl (.inr ⟨x,hx,hks x hx,hk⟩)
theorem mz {a b:List (Nat×Nat)}(h:db a b=true):∀ x∈a,x∉b:=by
 intro x hx hy;simp only[db,Bool.not_eq_true',List.any_eq_false]at h;have:=h x hx;simp only[Bool.not_eq_true,List.any_eq_false]at this;have:=this x hy;simp[gv]at this
theorem eX (hV:ax V){W:Wit}{a:Act}{w:World}(h:ao P V W st a w){frz kill:List (Nat×Nat)}(hap:db frz kill=true)(hkp:∀ x∈kill,aB st x) :
  ao P V (W.frz st frz) (ac (aM (ac (aE st frz) st) kill++aE st frz) st) a w /\
  (∀ (q i:Nat) (l:Leaf),(ac (aM (ac (aE st frz) st) kill++aE st frz) st q).ls[i]?=some l->an l->(st q).ls[i]?=some l/\(q,i)∉frz/\(q,i)∉kill) /\
  (∀ q,(ac (aM (ac (aE st frz) st) kill++aE st frz) st q).sh=(st q).sh/\(st q).ver<=(ac (aM (ac (aE st frz) st) kill++aE st frz) st q).ver) /\
  (∀ k∈aU W kill,¬ (W.frz st frz).nw k/\¬ V.prot k/\k<w.heap.size/\(∀ b,live (ac (aM (ac (aE st frz) st) kill++aE st frz) st) b->W.β b≠k) /\
   ∀ (r1 i:Nat) (l:Leaf),(ac (aM (ac (aE st frz) st) kill++aE st frz) st r1).ls[i]?=some l->an l->k∉W.bs r1 i):=by
 obtain⟨h1,h2,h3⟩:=kr hV frz h;obtain⟨h4,h5,h6⟩:=kX hV kill h1;rw[<- bm]at h4 h5 h6;have hsh:∀ q,(ac (aM (ac (aE st frz) st) kill++aE st frz) st q).sh=(st q).sh:=λq=>(h6 q).1.trans (h3 q).1
 have hown:∀ (q i:Nat) (l:Leaf),(ac (aM (ac (aE st frz) st) kill++aE st frz) st q).ls[i]?=some l->an l->(st q).ls[i]?=some l/\(q,i)∉frz/\(q,i)∉kill:=by
  intro q i l h7 h8;obtain⟨h9,h10⟩:=h5 q i l h7 h8;obtain⟨h11,h12⟩:=h2 q i l h9 h8;exact⟨h11,h12,h10⟩
 refine⟨h4,hown,λq=>⟨hsh q,Nat.le_trans (h3 q).2 (h6 q).2⟩,λk hk=>?_⟩;obtain⟨x,hx,hk⟩:=fv.1 hk;obtain⟨l,hl,hlo⟩:=hkp x hx;have h7:=h.ownb x.1 x.2 l hl hlo k hk;refine⟨?_,h7.2.1,h.own_lt hl hlo k hk,λb hb=>h7.2.2 b ((gC hsh b).1 hb),λr1 i l1 h8 h9 hk1=>?_⟩
 ·rintro (hn|⟨y,hy,⟨l2,hl2,hlo2⟩,hk2⟩)
  ·exact h7.1 hn
  ·obtain⟨e1,e2⟩:=h.sep y.1 y.2 l2 x.1 x.2 l hl2 hlo2 hl hlo k hk2 hk;exact mz hap y hy (by rw[show y=x from Prod.ext e1 e2];exact hx)
 ·obtain⟨h10,_,h12⟩:=hown r1 i l1 h8 h9;obtain⟨e1,e2⟩:=h.sep x.1 x.2 l r1 i l1 hl hlo h10 h9 k hk hk1;exact h12 (by rw[<- e1,<- e2];exact hx)
theorem yl (hV:ax V)(h:ao P V W st a w)(frz kill:List (Nat×Nat)):cm V W (W.frz st frz) st (ac (aM (ac (aE st frz) st) kill++aE st frz) st) w w:=by
 obtain⟨h1,h2,h3⟩:=kr hV frz h;obtain⟨_,h5,h6⟩:=kX hV kill h1;rw[<- bm]at h5 h6;exact⟨λq=>⟨Nat.le_trans (h3 q).2 (h6 q).2,λ_=>rfl⟩,λb hb=>⟨⟨hb.1,by rw[(h6 b).1,(h3 b).1];exact hb.2⟩,rfl⟩,λ_ h=>.inl h,λ_ _=>rfl,
  λ_ q j l g1 g2 _=>⟨⟨l,(h2 q j l (h5 q j l g1 g2).1 g2).1,g2⟩,rfl,λ_ _=>rfl⟩⟩
theorem rF:∀ {ls:List Leaf} {j:Nat} {p:Bool} {ks:List (Nat×Nat×Nat)} {ep:Nat} {E:TypeId} {e:Ty} {xs:List e.den},ls[j]?=some (.nal p ks ep none E e xs)->bj st ks ep=true->∀ k∈ks,(k.1,k.2.1)∈c7 st ls
 |[],j,_,_,_,_,_,_,h,_,_,_=>by simp at h
 |l::ls,0,p,ks,ep,E,e,xs,h,hv,k,hk=>by
  simp at h;subst h;simp only[c7,aD,hv,cond_true];exact List.mem_append_left _ (List.mem_map.2 ⟨k,hk,rfl⟩)
 |l::ls,j+1,p,ks,ep,E,e,xs,h,hv,k,hk=>by
  have:=rF (ls:=ls) (by simpa using h) hv k hk;cases l with
  |nal p' ks' ep' loc E' e' xs'=>cases loc <;> simp[c7,this]
  |_=>simp[c7,this]
theorem rG {ls:List Leaf}(h:gi st ls=true):aX (bR st ls)=true/\db (c7 st ls) (bR st ls)=true:=by
 simpa[gi]using h
theorem mP (hl:aC P V W st w ls cs){x:Nat×Nat}(hx:x∈bR st ls):aB st x:=by
 induction ls generalizing cs with
 |nil=>simp[bR]at hx
 |cons l ls ih =>
  cases cs with
  |nil=>exact hl.elim
  |cons v cs =>
   cases l with
   |al r j n =>
    simp only[bR,List.mem_append]at hx;rcases hx with hx|hx
    ·split at hx
     ·rename_i p hh E e xs hd;simp at hx;subst hx;exact⟨_,(ey hd (by simp)).2,trivial⟩
     ·simp at hx
    ·exact ih hl.2 hx
   |_=>exact ih hl.2 hx
theorem zm {l:Leaf}(h:an (fj st l)):an (aD st l)/\fj st l=aD st l:=by
 unfold fj at h ⊢;split at h
 ·exact h.elim
 ·exact⟨h,rfl⟩
theorem ny (hV:ax V)(h:ao P V W st a w){ls:List Leaf}{cs:List Value}(hl:aC P V W st w ls cs)(hok:gi st ls=true) :
    ao P V (W.frz st (c7 st ls)) (ac (mvU st ls) st) a w/\(dk st ls).length=cs.length /\
    (∀ (j:Nat) (l:Leaf) (u:Value),(dk st ls)[j]?=some l->cs[j]?=some u->aJ P V (W.frz st (c7 st ls)) (ac (mvU st ls) st) w (cY W ls j) l u) /\
    (∀ (j:Nat) (l:Leaf),(dk st ls)[j]?=some l->an l->∀ k∈cY W ls j,¬ (W.frz st (c7 st ls)).nw k/\¬ V.prot k/\k<w.heap.size /\
      (∀ b,live (ac (mvU st ls) st) b->W.β b≠k) /\
      ∀ (r1 j1:Nat) (l1:Leaf),(ac (mvU st ls) st r1).ls[j1]?=some l1->an l1->k∉W.bs r1 j1) /\
    (∀ (j j':Nat) (l l':Leaf),(dk st ls)[j]?=some l->an l->(dk st ls)[j']?=some l'->an l'->∀ k,k∈cY W ls j->k∈cY W ls j'->j=j'):=by
  obtain⟨hd,hap⟩:=rG hok;obtain⟨h1,h2,h3,h3b⟩:=eX hV h hap (λx hx=>mP hl hx);have hstep:=yl hV h (c7 st ls) (bR st ls);show ao P V (W.frz st (c7 st ls)) (ac (aM (ac (aE st (c7 st ls)) st) (bR st ls)++aE st (c7 st ls)) st) a w/\_;have hget:∀ (j:Nat) (l:Leaf),(dk st ls)[j]?=some l->∃ l0 u,ls[j]?=some l0/\cs[j]?=some u/\fj st l0=l/\aJ P V W st w [] l0 u/\¬ an l0:=by
    intro j l hj;simp only[dk,List.getElem?_map,Option.map_eq_some_iff]at hj;obtain⟨l0,h4,h5⟩:=hj;have hlt:j<cs.length:=by rw[<- hl.length];exact (List.getElem?_eq_some_iff.1 h4).1
    have h6:=List.getElem?_eq_getElem hlt;have h7:=hl.at_ j l0 _ h4 h6;exact⟨l0,_,h4,h6,h5,h7.1,h7.2.1⟩
  have howned:∀ (j:Nat) (l:Leaf),(dk st ls)[j]?=some l->an l->∃ r i n,ls[j]?=some (.al r i n)/\an (aD st (.al r i n))/\(st r).ls[i]?=some l:=by
    intro j l hj ho;obtain⟨l0,u,h4,h5,rfl,h6,h7⟩:=hget j l hj;obtain⟨ho',e0⟩:=zm ho;rw[e0];rcases kY hV h h6 h7 with ⟨r,i,n,rfl,h8,_,h9⟩|⟨h8,_⟩
    · exact⟨r,i,n,h4,h8,h9⟩
    · exact absurd ho' h8
  refine⟨h1,by simp[dk,hl.length],λj l u hj hu=>?_,λj l hj ho k hk=>?_,λj j' l l' hj ho hj' ho' k hk hk'=>?_⟩
  · obtain ⟨l0, u', h4, h5, rfl, h6, h7⟩ := hget j l hj
    obtain rfl:u=u':=Option.some.inj (hu.symm.trans h5);have hrest:fj st l0=aD st l0->aJ P V (W.frz st (c7 st ls)) (ac (mvU st ls) st) w (cY W ls j) (fj st l0) u:=by
      intro e0;rw[e0];rcases kY hV h h6 h7 with ⟨r,i,n,rfl,h8,h9,_⟩|⟨h8,h9⟩
      · have:cY W ls j=W.bs r i:=by simp[cY,h4]
        rw[this];exact h9.carry hV.ro hstep (λ_=>⟨rfl,λ_ _=>rfl⟩)
      · exact h9.carry hV.ro hstep (λh=>absurd h h8)
    by_cases hn:∃ p ks ep E e xs,aD st l0=.nal p ks ep none E e xs
    · obtain⟨p,ks,ep,E,e,xs,hn⟩:=hn
      have e0:fj st l0=.ro p E e xs:=by unfold fj;rw[hn]
      rw[e0];have hnal:l0=.nal p ks ep none E e xs/\bj st ks ep=true:=by
        cases l0 with
        |al r i n=>exact absurd hn gR
        |nal p' ks' ep' loc' E' e' xs' =>
          simp only[aD]at hn;cases hv:bj st ks' ep' with
          |false=>simp[hv]at hn
          |true =>
            rw[hv]at hn;simp only[cond_true]at hn;refine⟨hn,?_⟩;cases hn;exact hv
        |_=>simp[aD]at hn
      obtain⟨rfl,hv⟩:=hnal;refine Rd.mono (λk hk=>?_) (oE hv h6).rd;rcases hk with hk|⟨x,hx,hk⟩
      · exact bL (W':=W.frz st (c7 st ls)) (λh=>h) (λ_ h=>Or.inl h) k hk
      · exact .inl (.inr ⟨(x.1,x.2.1),rF h4 hv x hx,(ci hv).2.2 x hx,hk⟩)
    · refine hrest ?_
      unfold fj;split
      · rename_i p ks ep E e xs hq
        exact absurd ⟨p,ks,ep,E,e,xs,hq⟩ hn
      · rfl
  · obtain⟨r,i,n,h4,h5,h6⟩:=howned j l hj ho
    have e:cY W ls j=W.bs r i:=by simp[cY,h4]
    rw[e]at hk;exact h3b k (fv.2 ⟨(r,i),lI h4 h5,hk⟩)
  · obtain⟨r,i,n,h4,h5,h6⟩:=howned j l hj ho
    obtain⟨r',i',n',h4',h5',h6'⟩:=howned j' l' hj' ho';have e:cY W ls j=W.bs r i:=by simp[cY,h4]
    have e':cY W ls j'=W.bs r' i':=by simp[cY,h4']
    rw[e]at hk;rw[e']at hk';obtain⟨rfl,rfl⟩:=h.sep r i l r' i' l' h6 ho h6' ho' k hk hk';exact mO hd h4 h5 h4' h5'
theorem xy (hV:ax V)(h:ao P V W st a w)(hl:aC P V W st w ls cs)(hok:gi st ls=true):∀ q,(ac (mvU st ls) st q).sh=(st q).sh/\(st q).ver<=(ac (mvU st ls) st q).ver :=
 (eX hV h (rG hok).2 (λ_ hx=>mP hl hx)).2.2.1
theorem ao.putMoved (hV:ax V)(h:ao P V W st a w){ls:List Leaf}{cs:List Value}(hl:aC P V W st w ls cs)(hd:gi st ls=true)
  (d:Nat) (hdn:d<V.nt) (hfix:∀ x∈V.fixt,x.1≠d) {sh:aG} {v:Value} (hs:dI sh v cs) :
  Rel P V (ac (ce st (mvU st ls) d sh (dk st ls)) st) (a.put (some d) v) w:=by
 obtain⟨h1,h2,h3,h4,h5⟩:=ny hV h hl hd;rw[ce,aN];exact⟨_,h1.put hV d hdn hfix _ sh (dk st ls) v cs (cY W ls) (Nat.lt_succ_self _) hs h2 hl.one' h3
  (λj l hj ho k hk=>⟨(h4 j l hj ho k hk).1,(h4 j l hj ho k hk).2.1,(h4 j l hj ho k hk).2.2.2.1,λr1 j1 l1 _=>(h4 j l hj ho k hk).2.2.2.2 r1 j1 l1⟩) h5⟩
theorem ao.setBoxG (hV:ax V)(h:ao P V W st a w)(b:Nat)(hb:B0<=b)(n:Nat)(ls:List Leaf)(csd:List Value)(bsd:Nat->List Nat)(g:Nat)(E:TypeId)
    (hn:(st b).ver<n) (hg:(live st b/\W.β b=g)\/(¬ live st b/\¬ bW V W st g/\∀ (j:Nat) (l:Leaf),ls[j]?=some l->an l->∀ k∈bsd j,k≠g)) (hnew:w'.heap[g]?=some (.cells csd.toArray E (0,0)))
    (hsame:∀ k,bW V W st k->k≠g->w'.heap[k]?=w.heap[k]?) (hsameb:∀ (j:Nat) (l:Leaf),ls[j]?=some l->an l->∀ k∈bsd j,k≠g->w'.heap[k]?=w.heap[k]?) (hsz:w.heap.size<=w'.heap.size) (hos:w'.os=w.os) (ht:w'.tape=w.tape) (ho:w'.output=w.output)
    (hl:ls.length=csd.length) (h1:∀ u∈csd,u.oneCell'=true)
    (hleaf:∀ (j:Nat) (l:Leaf) (u:Value),ls[j]?=some l->csd[j]?=some u->aJ P V W st w (bsd j) l u)
    (hown:∀ (j:Nat) (l:Leaf),ls[j]?=some l->an l->∀ k∈bsd j,¬ W.nw k/\¬ V.prot k/\(∀ b,live st b->W.β b≠k) /\
      ∀ (r1 j1:Nat) (l1:Leaf),r1≠b->(st r1).ls[j1]?=some l1->an l1->k∉W.bs r1 j1)
    (hsep:∀ (j j':Nat) (l l':Leaf),ls[j]?=some l->an l->ls[j']?=some l'->an l'->∀ k,k∈bsd j->k∈bsd j'->j=j') :
    ao P V { W with β:=λr=>if r=b then g else W.β r,cs:=λr=>if r=b then csd else W.cs r,bs:=λr j=>if r=b then bsd j else W.bs r j }
      (ac [(b,⟨n,.agg,ls⟩)] st) a w':=by
  have hgo:¬ W.nw g/\¬ V.prot g/\(∀ q,q≠b->live st q->W.β q≠g)/\∀ (r1 j1:Nat) (l1:Leaf),(st r1).ls[j1]?=some l1->an l1->g∉W.bs r1 j1:=by
    rcases hg with ⟨hlv,rfl⟩|⟨hlv,hg⟩
    · exact⟨(h.box b hlv).1,(h.box b hlv).2,λq hq hlq e=>hq (h.inj q b hlq hlv e),λr1 j1 l1 h2 h3 hk=>(h.ownb r1 j1 l1 h2 h3 _ hk).2.2 b hlv rfl⟩
    · have hu:=hg.1
      simp only[bW,not_or,not_exists,not_and]at hu;exact⟨hu.1,hu.2.1,λq _ hlq e=>hu.2.2.1 q hlq e,λr1 j1 l1 h2 h3 hk=>hu.2.2.2 r1 j1 l1 h2 h3 hk⟩
  have hbd:∀ (j:Nat) (l:Leaf),ls[j]?=some l->an l->∀ k∈bsd j,k≠g:=by
    intro j l h2 h3 k hk;rcases hg with ⟨hlv,rfl⟩|⟨hlv,hg⟩
    · exact λe=>(hown j l h2 h3 k hk).2.2.1 b hlv e.symm
    · exact hg.2 j l h2 h3 k hk
  have hlv':∀ q,live (ac [(b,⟨n,.agg,ls⟩)] st) q<->(q=b\/live st q):=by
    intro q;rcases am b q ⟨n,.agg,ls⟩ st with ⟨e0,e⟩|⟨hne,e⟩
    · subst e0
      simp[live,e,hb]
    · simp[live,e,hne]
  have hheap:∀ k,bW V W st k->k≠g->w'.heap[k]?=w.heap[k]?:=hsame;have hstep:cm V W { W with β:=λr=>if r=b then g else W.β r,cs:=λr=>if r=b then csd else W.cs r,bs:=λr j=>if r=b then bsd j else W.bs r j } st (ac [(b,⟨n,.agg,ls⟩)] st) w w':=by
    refine⟨λq=>?_,λq hq=>⟨(hlv' q).2 (.inr hq),?_⟩,λ_ h=>h,λk hk=>hheap k (hk.elim .inl (λh=>.inr (.inl h))) ?_,λ_ q j l h2 h3 h4=>?_⟩
    · rcases am b q ⟨n,.agg,ls⟩ st with ⟨rfl,e⟩|⟨hne,e⟩
      · rw[e];exact⟨Nat.le_of_lt hn,λe=>absurd e (by show n≠_;omega)⟩
      · rw[e];exact⟨Nat.le_refl _,λ_=>by simp[hne]⟩
    · by_cases hqb:q=b
      · subst hqb
        rcases hg with ⟨_,e⟩|⟨hlv,_⟩
        · simp[e]
        · exact absurd hq hlv
      · simp[hqb]
    · rintro rfl
      exact hk.elim hgo.1 hgo.2.1
    · rcases am b q ⟨n,.agg,ls⟩ st with ⟨rfl,e⟩|⟨hne,e⟩
      · rw[e]at h4;exact absurd h4 (by show n≠_;omega)
      · rw[e]at h2
        refine⟨⟨l,h2,h3⟩,by simp[hne],λk hk=>hheap k (.inr (.inr (.inr ⟨q,j,l,h2,h3,hk⟩))) ?_⟩;rintro rfl;exact hgo.2.2.2 q j l h2 h3 hk
  exact {
    nt:=h.nt,df:=h.df
    slots:=λt ht'=>by
      have : t ≠ b := by have : GH <= B0 := by decide
                         omega
      rw[aI this];simpa[this]using h.slots t ht'
    boxes:=λq hq=>by
      rcases am b q ⟨n,.agg,ls⟩ st with ⟨rfl,e⟩|⟨hne,e⟩
      · rw[e];exact .inr ⟨rfl,E,by simpa using hnew⟩
      · rw[e]
        refine (h.boxes q hq).imp id λ⟨h2,E',h3⟩=>⟨h2,E',?_⟩
        simp only[hne,if_false];rw[hheap _ (.inr (.inr (.inl ⟨q,⟨hq,h2⟩,rfl⟩))) (hgo.2.2.1 q hne ⟨hq,h2⟩)];exact h3
    len:=λq=>by
      rcases am b q ⟨n,.agg,ls⟩ st with ⟨rfl,e⟩|⟨hne,e⟩
      · rw[e];simpa using hl
      · rw[e];simpa[hne]using h.len q
    one:=λq u hu=>by
      by_cases hq:q=b
      · simp only[hq,if_true]at hu;exact h1 u hu
      · simp only[hq,if_false]at hu;exact h.one q u hu
    leaf:=λq j l u h2 h3=>by
      rcases am b q ⟨n,.agg,ls⟩ st with ⟨rfl,e⟩|⟨hne,e⟩
      · rw[e]at h2
        simp only[if_true]at h3;exact (hleaf j l u h2 h3).carry hV.ro hstep (λho=>⟨by simp,λk hk=>hsameb j l h2 ho k hk (hbd j l h2 ho k hk)⟩)
      · rw[e]at h2
        simp only[hne,if_false]at h3;refine (h.leaf q j l u h2 h3).carry hV.ro hstep (λho=>⟨by simp[hne],λk hk=>hheap k (.inr (.inr (.inr ⟨q,j,l,h2,ho,hk⟩))) ?_⟩);rintro rfl;exact hgo.2.2.2 q j l h2 ho hk
    ownb:=λq j l h2 h3 k hk=>by
      rcases am b q ⟨n,.agg,ls⟩ st with ⟨rfl,e⟩|⟨hne,e⟩
      · rw[e]at h2
        simp only[if_true]at hk;have h4:=hown j l h2 h3 k hk;refine⟨h4.1,h4.2.1,λp hp=>?_⟩;by_cases hpq:p=q
        · simp only[hpq,if_true];exact λe=>hbd j l h2 h3 k hk e.symm
        · simp only[hpq,if_false];exact h4.2.2.1 p (((hlv' p).1 hp).resolve_left hpq)
      · rw[e]at h2
        simp only[hne,if_false]at hk;have h4:=h.ownb q j l h2 h3 k hk;refine⟨h4.1,h4.2.1,λp hp=>?_⟩;by_cases hpq:p=b
        · simp only[hpq,if_true];rintro rfl;exact hgo.2.2.2 q j l h2 h3 hk
        · simp only[hpq,if_false];exact h4.2.2 p (((hlv' p).1 hp).resolve_left hpq)
    sep:=λq j l q' j' l' h2 h3 h4 h5 k hk hk'=>by
      rcases am b q ⟨n,.agg,ls⟩ st with ⟨e0,e⟩|⟨hne,e⟩ <;> rcases am b q' ⟨n,.agg,ls⟩ st with ⟨e1,e'⟩|⟨hne',e'⟩
      · rw[e]at h2;rw[e']at h4
        simp only[e0,if_true]at hk;simp only[e1,if_true]at hk';exact⟨e0.trans e1.symm,hsep j j' l l' h2 h3 h4 h5 k hk hk'⟩
      · rw[e]at h2;rw[e']at h4
        simp only[e0,if_true]at hk;simp only[hne',if_false]at hk';exact absurd hk' ((hown j l h2 h3 k hk).2.2.2 q' j' l' hne' h4 h5)
      · rw[e]at h2;rw[e']at h4
        simp only[hne,if_false]at hk;simp only[e1,if_true]at hk';exact absurd hk ((hown j' l' h4 h5 k hk').2.2.2 q j l hne h2 h3)
      · rw[e]at h2;rw[e']at h4
        simp only[hne,if_false]at hk;simp only[hne',if_false]at hk';exact h.sep q j l q' j' l' h2 h3 h4 h5 k hk hk'
    box:=λq hq=>by
      by_cases hqb:q=b
      · simp only[hqb,if_true];exact⟨hgo.1,hgo.2.1⟩
      · simp only[hqb,if_false];exact h.box q (((hlv' q).1 hq).resolve_left hqb)
    inj:=λq q' hq hq' e=>by
      by_cases hqb:q=b <;> by_cases hqb':q'=b
      · rw[hqb,hqb']
      · simp only[hqb,if_true,hqb',if_false]at e
        exact absurd e.symm (hgo.2.2.1 q' hqb' (((hlv' q').1 hq').resolve_left hqb'))
      · simp only[hqb,if_false,hqb',if_true]at e
        exact absurd e (hgo.2.2.1 q hqb (((hlv' q).1 hq).resolve_left hqb))
      · simp only[hqb,if_false,hqb',if_false]at e
        exact h.inj q q' (((hlv' q).1 hq).resolve_left hqb) (((hlv' q').1 hq').resolve_left hqb') e
    nwlt:=λk hk=>⟨Nat.lt_of_lt_of_le (h.nwlt k hk).1 hsz,(h.nwlt k hk).2⟩
    os:=hos.trans h.os,tape:=ht.trans h.tape,output:=ho.trans h.output,size:=Nat.le_trans h.size hsz
    keep:=λk hp=>by
      rw[hheap k (.inr (.inl hp)) (by rintro rfl;exact hgo.2.1 hp)];exact h.keep k hp
    fixb:=λx hx=>by
      obtain⟨h2,h3⟩:=h.fixb x hx;refine⟨(hlv' _).2 (.inr h2),?_⟩;by_cases hxb:x.1=b
      · simp only[hxb,if_true]
        rcases hg with ⟨_,e⟩|⟨hlv,_⟩
        · rw[<- e,<- hxb];exact h3
        · exact absurd (hxb ▸ h2) hlv
      · simpa only[hxb,if_false]using h3
    fixt:=h.fixt }
theorem ao.setBox (hV:ax V)(h:ao P V W st a w)(b:Nat)(hb:B0<=b)(n:Nat)(ls:List Leaf)(csd:List Value)(bsd:Nat->List Nat)(g:Nat)(E:TypeId)
  (hn:(st b).ver<n) (hg:(live st b/\W.β b=g)\/(¬ live st b/\w.heap.size<=g)) (hnew:w'.heap[g]?=some (.cells csd.toArray E (0,0)))
  (hsame:∀ k,k<w.heap.size->k≠g->w'.heap[k]?=w.heap[k]?) (hsz:w.heap.size<=w'.heap.size) (hos:w'.os=w.os) (ht:w'.tape=w.tape) (ho:w'.output=w.output)
  (hl:ls.length=csd.length) (h1:∀ u∈csd,u.oneCell'=true)
  (hleaf:∀ (j:Nat) (l:Leaf) (u:Value),ls[j]?=some l->csd[j]?=some u->aJ P V W st w (bsd j) l u)
  (hown:∀ (j:Nat) (l:Leaf),ls[j]?=some l->an l->∀ k∈bsd j,¬ W.nw k/\¬ V.prot k/\k<w.heap.size/\(∀ b,live st b->W.β b≠k) /\
   ∀ (r1 j1:Nat) (l1:Leaf),r1≠b->(st r1).ls[j1]?=some l1->an l1->k∉W.bs r1 j1)
  (hsep:∀ (j j':Nat) (l l':Leaf),ls[j]?=some l->an l->ls[j']?=some l'->an l'->∀ k,k∈bsd j->k∈bsd j'->j=j') :
  ao P V { W with β:=λr=>if r=b then g else W.β r,cs:=λr=>if r=b then csd else W.cs r,bs:=λr j=>if r=b then bsd j else W.bs r j }
   (ac [(b,⟨n,.agg,ls⟩)] st) a w' :=
 h.setBoxG hV b hb n ls csd bsd g E hn (hg.imp id λ⟨h2,h3⟩=>⟨h2,λhu=>by have:=h.used_lt g hu;omega,λj l h4 h5 k hk=>by have:=(hown j l h4 h5 k hk).2.2.1;omega⟩) hnew
  (λk hk hkg=>hsame k (h.used_lt k hk) hkg) (λj l h4 h5 k hk hkg=>hsame k (hown j l h4 h5 k hk).2.2.1 hkg) hsz hos ht ho hl h1 hleaf
  (λj l h4 h5 k hk=>⟨(hown j l h4 h5 k hk).1,(hown j l h4 h5 k hk).2.1,(hown j l h4 h5 k hk).2.2.2.1,(hown j l h4 h5 k hk).2.2.2.2⟩) hsep
theorem dK (hl:aC P V W st w ls cs){x:Nat×Nat}(hx:x∈bq st ls):aB st x:=by
 induction ls generalizing cs with
 |nil=>simp[bq]at hx
 |cons l ls ih =>
  cases cs with
  |nil=>exact hl.elim
  |cons v cs =>
   cases l with
   |al r j n =>
    simp only[bq,List.mem_append]at hx;rcases hx with hx|hx
    ·split at hx
     ·rename_i p hh E e xs hd;simp at hx;subst hx;exact⟨_,(ey hd (by simp)).2,trivial⟩
     ·simp at hx
    ·exact ih hl.2 hx
   |nal p ks ep loc E e xs =>
    simp only[bq,List.mem_append]at hx;rcases hx with hx|hx
    ·split at hx
     ·rename_i hd;simp only[aD]at hd;cases hv:bj st ks ep with
      |false=>simp[hv]at hd
      |true =>
       obtain⟨k,hk,rfl⟩:=List.mem_map.1 hx;exact (ci hv).2.2 k hk
     ·simp at hx
    ·exact ih hl.2 hx
   |_=>exact ih hl.2 hx
theorem zA (hl:aC P V W st w ls cs){ks:List (Nat×Nat)}(hks:∀ x∈bq st ls,x∈ks)(p:Bool):∀ k,bi V W p (bq st ls) k->gd V (W.frz st ks) p k:=by
 intro k hk;rcases hk with hk|⟨x,hx,hk⟩
 ·exact bL (W':=W.frz st ks) (λh=>h) (λ_ h=>Or.inl h) k hk
 ·exact .inl (.inr ⟨x,hks x hx,dK hl hx,hk⟩)
end
end Go.Proofs.YtmcbmojdeikcdaaGreatEv
namespace Go.Proofs.YtmcbmojdeikcdaaGreatEv
open Go Go.RowKit
section
variable {P:Program} {V:Env} {Γ:List Ctr} {T:TypeId->TI} {st:St} {o:Oper} {R:Type} {κ:Upd->Option R} {r:R}
def bP (P:Program)(V:Env)(o:Oper)(st:St)(κ:Upd->Option R)(r:R):Prop :=
 ∃ U,κ U=some r/\∀ W a w,ao P V W st a w->lH P V o st U a w
theorem wX (hV:ax V)(hok:bF V o){x:Operand}(hop:o.op=.move x)(h:act Γ T o st κ=some r):bP P V o st κ r:=by
 simp only[act,wrU,hop]at h;split at h
 ·rename_i d hd;refine⟨_,h,λW a w hr=>?_⟩;obtain⟨cs,hs,hl⟩:=cB hr x;exact dy hV hr hd hok (by simp[execOp,hop]) hs hl
 ·cases h
theorem ui (hV:ax V)(hok:bF V o){x:Operand}(hop:o.op=.assign x)(h:act Γ T o st κ=some r):bP P V o st κ r:=by
 simp only[act,wrU,hop]at h;split at h
 ·rename_i d hd;cases hdis:gi st (ar st x).2 with
  |false=>simp[hdis]at h
  |true =>
   simp only[hdis,cond_true]at h;refine⟨_,h,λW a w hr=>?_⟩;obtain⟨cs,hs,hl⟩:=cB hr x;intro next Q hn;refine dV (v:=a.eval x) (w':=w) (by simp[execOp,hop]) ?_;rw[hd];exact hn _ _ (hr.putMoved hV hl hdis d (hok d hd).1 (hok d hd).2 hs)
 ·cases h
theorem wY (hV:ax V)(hok:bF V o){c x y:Operand}(hop:o.op=.pick c x y)(h:act Γ T o st κ=some r):bP P V o st κ r:=by
 simp only[act,wrU,hop]at h;split at h
 ·rename_i t hc;cases t with
  |true =>
   simp only[cond_true]at h;split at h
   ·rename_i d hd;refine⟨_,h,λW a w hr=>?_⟩;obtain⟨cs,hs,hl⟩:=cB hr x;exact dy hV hr hd hok (v:=a.eval x) (by simp[execOp,hop,gn hr hc,asBool]) hs hl
   ·cases h
  |false =>
   simp only[cond_false]at h;split at h
   ·rename_i d hd;refine⟨_,h,λW a w hr=>?_⟩;obtain⟨cs,hs,hl⟩:=cB hr y;exact dy hV hr hd hok (v:=a.eval y) (by simp[execOp,hop,gn hr hc,asBool]) hs hl
   ·cases h
 ·cases h
theorem rH (hV:ax V)(hok:bF V o){x:Operand}(hop:o.op=.nilCheck x)(h:act Γ T o st κ=some r):bP P V o st κ r:=by
 simp only[act,wrU,hop]at h;have key:∀ {l:Leaf} {d:Nat},one st x=l->l≠.dead->(∀ W a w,ao P V W st a w->aJ P V W st w [] l (a.eval x)->∃ ad,a.eval x=.pointer (some ad))->o.dst=some d ->
   ∀ W a w,ao P V W st a w->lH P V o st (ce st [] d .one [l]) a w:=by
  intro l d hl hnd hp hd W a w hr;obtain⟨h1,h2,h3,_⟩:=bk hr x (by rw[hl];exact hnd);rw[hl]at h1 h2;obtain⟨ad,hv⟩:=hp W a w hr h1;exact aO hV hr hd hok (v:=a.eval x) (by simp[execOp,hop,hv]) h1 h2 h3
 split at h
 ·split at h
  ·rename_i hl _ d hd;exact⟨_,h,key hl (by simp) (λW a w hr hlo=>by obtain⟨g,o',c,hv,_⟩:=hlo;exact⟨_,hv⟩) hd⟩
  ·cases h
 ·split at h
  ·rename_i hl _ d hd;exact⟨_,h,key hl (by simp) (λW a w hr hlo=>⟨_,hlo.2.2⟩) hd⟩
  ·cases h
 ·rename_i r' j v i sz off hl;cases hb:Nat.beq (st r').ver v with
  |false=>simp[hb]at h
  |true =>
   simp only[hb,cond_true]at h;split at h
   ·rename_i d hd;refine⟨_,h,key hl (by simp) (λW a w hr hlo=>?_) hd⟩;obtain⟨g,len,cap,_,_,hv⟩:=hlo.2 (Nat.eq_of_beq_eq_true hb);exact⟨_,hv⟩
   ·cases h
 ·split at h
  ·rename_i hl _ d hd;exact⟨_,h,key hl (by simp) (λW a w hr hlo=>by obtain⟨b,ob,g,o',c,hv,_⟩:=hlo;exact⟨_,hv⟩) hd⟩
  ·cases h
 ·rename_i p ks ep b y off hl;cases hb:bj st ks ep with
  |false=>simp[hb]at h
  |true =>
   simp only[hb,cond_true]at h;split at h
   ·rename_i d hd;refine⟨_,h,key hl (by simp) (λW a w hr hlo=>?_) hd⟩;obtain⟨g,o',c,hv,_⟩:=(hlo.2.2 (ci hb).1 (ci hb).2.1 (ci hb).2.2:NpOk V W w p ks b y off _).rd;exact⟨_,hv⟩
   ·cases h
 ·cases h
theorem wZ (hV:ax V)(hok:bF V o){op:UnOp}{t:TypeId}{x:Operand}(hop:o.op=.unOp op t x)(h:act Γ T o st κ=some r):bP P V o st κ r:=by
 simp only[act,wrU,hop]at h;split at h
 ·rename_i b hx;split at h
  ·rename_i d hd;exact⟨_,h,λW a w hr=>aO hV hr hd hok (v:=.bool (!b)) (by simp[execOp,hop,gn hr hx,Op.unary]) rfl id rfl⟩
  ·cases h
 ·rename_i k n hx;split at h
  ·rename_i d hd;exact⟨_,h,λW a w hr=>aO hV hr hd hok (v:=.int k (k.wrap (0-n))) (by simp[execOp,hop,bt hr hx,Op.unary,Op.intArith]) rfl id rfl⟩
  ·cases h
 ·cases h
theorem sA (hV:ax V)(hok:bF V o){x:Operand}{i:Nat}(hop:o.op=.extract x i)(h:act Γ T o st κ=some r):bP P V o st κ r:=by
 simp only[act,wrU,hop]at h;split at h
 ·rename_i ps ls he;split at h
  ·rename_i agg n hp;split at h
   ·rename_i d hd;refine⟨_,h,λW a w hr=>?_⟩;obtain⟨cs,hs,hl⟩:=cB hr x;rw[he]at hs hl;obtain⟨vs,hv,ht⟩:=hs;have key:∀ (ps:List (Bool×Nat)) (vs cs:List Value) (i:Nat) (off:Nat),oD ps vs cs->ps[i]?=some (agg,n) ->
      ∃ v,vs[i]?=some v/\cV agg v ((cs.drop ((ps.take i).foldl (λa b=>a+b.2) off-off)).take n)/\off<=(ps.take i).foldl (λa b=>a+b.2) off:=by
     intro ps;induction ps with
     |nil=>intro vs cs i off _ hi;simp at hi
     |cons p ps ih =>
      rintro vs cs i off ⟨v,vs',c,cs',rfl,rfl,hc,hvo,ht⟩ hi;cases i with
      |zero =>
       simp at hi;subst hi;refine⟨v,rfl,?_,by simp⟩;simp only[List.take_zero,List.foldl_nil,Nat.sub_self,List.drop_zero];rw[List.take_append_of_le_length (by omega),List.take_of_length_le (by omega)];exact hvo
      |succ i =>
       obtain⟨v',h1,h2,h3⟩:=ih vs' cs' i (off+p.2) ht (by simpa using hi);refine⟨v',by simpa using h1,?_,by simp only[List.take_succ_cons,List.foldl_cons];omega⟩;simp only[List.take_succ_cons,List.foldl_cons];have e:(ps.take i).foldl (λa b=>a+b.2) (off+p.2)-off=c.length+((ps.take i).foldl (λa b=>a+b.2) (off+p.2)-(off+p.2)):=by omega
       rw[e,<- List.drop_drop,List.drop_left];exact h2
    obtain⟨v,h1,h2,_⟩:=key ps vs cs i 0 ht hp;simp only[Nat.sub_zero]at h2;refine dy hV hr hd hok (v:=v) ?_ (i9 h2) ((hl.drop _).take n);have h3:vs.toArray[i]?=some v:=by simpa using h1
    simp[execOp,hop,hv,Instr.extract,h3,h1]
   ·cases h
  ·cases h
 ·cases h
theorem th {W:Wit}{a:Act}{w:World}(hr:ao P V W st a w):∀ (xs:List Operand) (acc l:List Nat),
  xs.foldl (λ (acc:Option (List Nat)) x=>acc.bind λl=>match one st x with|.bp b 0=>some (l++[b])|_=>none) (some acc)=some l ->
  ∃ l',l=acc++l'/\xs.map a.eval=l'.map (λb=>Value.pointer (some ⟨W.β b,0,none⟩))/\∀ b∈l',B0<=b/\(st b).sh=.agg
 |[],acc,l,h=>⟨[],by simpa using h.symm,rfl,by simp⟩
 |x::xs,acc,l,h=>by
  simp only[List.foldl_cons,Option.bind_some]at h;have hnone:∀ (xs:List Operand),xs.foldl (λ (acc:Option (List Nat)) x=>acc.bind λl=>match one st x with|.bp b 0=>some (l++[b])|_=>none) none=none:=by
   intro xs;induction xs with
   |nil=>rfl
   |cons x xs ih=>simpa using ih
  split at h
  ·rename_i b hx;obtain⟨l',h1,h2,h3⟩:=th hr xs (acc++[b]) l h;have h4:=(bk hr x (by rw[hx];simp)).1;rw[hx]at h4;refine⟨b::l',by simp[h1],?_,?_⟩
   ·simp only[List.map_cons,h2];rw[show a.eval x=_ from h4.2.2]
   ·intro q hq;rcases List.mem_cons.1 hq with rfl|hq
    ·exact⟨h4.1,h4.2.1⟩
    ·exact h3 q hq
  ·rw[hnone]at h;cases h
theorem rI (hV:ax V)(hok:bF V o){fn:Fn}{first caps:Array Operand}(hop:o.op=.makeFunc fn first caps)(h:act Γ T o st κ=some r):bP P V o st κ r:=by
 cases fn with
 |func f =>
  simp only[act,wrU,hop]at h;cases hb:Nat.beq first.size 0 with
  |false=>simp[hb]at h
  |true =>
   simp only[hb,cond_true]at h;split at h
   ·rename_i l hl;split at h
    ·rename_i d hd;refine⟨_,h,λW a w hr=>?_⟩;obtain⟨l',h1,h2,h3⟩:=th hr caps.toList [] l hl;simp only[List.nil_append]at h1;subst h1;have h4:first=#[]:=Array.eq_empty_of_size_eq_zero (Nat.eq_of_beq_eq_true hb)
     refine aO hV hr hd hok (v:=.func (.func f) #[] (l.map λb=>Value.pointer (some ⟨W.β b,0,none⟩)).toArray) ?_ ⟨rfl,h3⟩ id rfl;rw[<- h2];simp[execOp,hop,Instr.makeFunc,h4,<- Array.toList_map]
    ·cases h
   ·cases h
 |_=>simp[act,wrU,hop]at h
theorem fw {α:Type}{xs:List α}{i:Int}{x:α}(h:idx xs i=some x):0<=i/\i<xs.length/\xs[i.toNat]?=some x:=by
 unfold idx at h;split at h
 ·cases h
 ·have:=(List.getElem?_eq_some_iff.1 h).1;exact⟨by omega,by omega,h⟩
end
end Go.Proofs.YtmcbmojdeikcdaaGreatEv
namespace Go.Proofs.YtmcbmojdeikcdaaGreatEv
open Go Go.RowKit
section
variable {P:Program} {V:Env} {Γ:List Ctr} {T:TypeId->TI} {st:St} {o:Oper} {R:Type} {κ:Upd->Option R} {r:R}
theorem vD {W:Wit}{a:Act}{w:World}(hr:ao P V W st a w){x:Operand}{b:Ty}{p:Bool}{u:b.den}(hsh:(ar st x).1=.agg)(hg:ct st b (ar st x).2=some (p,u)) :
  ∃ cs G,a.eval x=.agg cs.toArray/\Rd w G b u cs:=by
 obtain⟨cs,hs,hl⟩:=cB hr x;rw[hsh]at hs;exact⟨cs,_,hs,dU hr hl hg⟩
theorem kt {t:TypeId}(ht:P.underlying t=some .bool)(b b':Bool)(w:World):(Op.equal t (.bool b) (.bool b')).run P w=.ok (b==b') w:=by
 have e:Op.maxDepth=9999+1:=rfl;unfold Op.equal;rw[e];generalize 9999=m;unfold Op.equalIn;rw[Sem.run_bind,run_underlying ht];rfl
theorem vE (hV:ax V)(hT:TOk P T)(hok:bF V o){op:BinOp}{t t':TypeId}{x y:Operand}(hop:o.op=.binOp op t x y t')(h:act Γ T o st κ=some r):bP P V o st κ r:=by
  simp only[act,wrU,hop]at h;split at h
  · rename_i k m k' n hx hy
    cases op
    case shl =>
      simp only at h;cases hb:decide (n<0) with
      |true=>simp[hb]at h
      |false =>
        simp only[hb,cond_false]at h;split at h
        · rename_i d hd
          refine⟨_,h,λW a w hr=>aO hV hr hd hok (v:=.int k (k.wrap (m*2 ^ (min n.toNat k.bits)))) ?_ rfl id rfl⟩;have:¬ n<0:=of_decide_eq_false hb;simp[execOp,hop,bt hr hx,bt hr hy,eqGuard,Go.binOp,Op.shift,this]
        · cases h
    case shr =>
      simp only at h;cases hb:decide (n<0) with
      |true=>simp[hb]at h
      |false =>
        simp only[hb,cond_false]at h;split at h
        · rename_i d hd
          refine⟨_,h,λW a w hr=>aO hV hr hd hok (v:=.int k (m.fdiv (2 ^ (min n.toNat k.bits)))) ?_ rfl id rfl⟩;have:¬ n<0:=of_decide_eq_false hb;simp[execOp,hop,bt hr hx,bt hr hy,eqGuard,Go.binOp,Op.shift,this]
        · cases h
    case quo =>
      simp only at h;cases hb:decide (n=0) with
      |true=>simp[hb]at h
      |false =>
        simp only[hb,cond_false]at h;cases hk:decide (k=k') with
        |false=>simp[hk]at h
        |true =>
          simp only[hk,cond_true]at h;have hk:=of_decide_eq_true hk;subst hk;split at h
          · rename_i d hd
            refine⟨_,h,λW a w hr=>aO hV hr hd hok (v:=.int k (k.wrap (m.tdiv n))) ?_ rfl id rfl⟩;have:¬ n=0:=of_decide_eq_false hb;simp[execOp,hop,bt hr hx,bt hr hy,eqGuard,Go.binOp,Op.intDiv,this]
          · cases h
    case rem =>
      simp only at h;cases hb:decide (n=0) with
      |true=>simp[hb]at h
      |false =>
        simp only[hb,cond_false]at h;cases hk:decide (k=k') with
        |false=>simp[hk]at h
        |true =>
          simp only[hk,cond_true]at h;have hk:=of_decide_eq_true hk;subst hk;split at h
          · rename_i d hd
            refine⟨_,h,λW a w hr=>aO hV hr hd hok (v:=.int k (m.tmod n)) ?_ rfl id rfl⟩;have:¬ n=0:=of_decide_eq_false hb;simp[execOp,hop,bt hr hx,bt hr hy,eqGuard,Go.binOp,Op.intDiv,this]
          · cases h
    case and =>
      simp only at h;cases hk:decide (k=k') with
      |false=>simp[hk]at h
      |true =>
        simp only[hk,cond_true]at h;have hk:=of_decide_eq_true hk;subst hk;split at h
        · rename_i d hd
          refine⟨_,h,λW a w hr=>aO hV hr hd hok (v:=.int k (k.wrap ((BitVec.ofInt k.bits m &&& BitVec.ofInt k.bits n).toNat))) ?_ rfl id rfl⟩;simp[execOp,hop,bt hr hx,bt hr hy,eqGuard,Go.binOp,Op.intBits]
        · cases h
    case xor =>
      simp only at h;cases hk:decide (k=k') with
      |false=>simp[hk]at h
      |true =>
        simp only[hk,cond_true]at h;have hk:=of_decide_eq_true hk;subst hk;split at h
        · rename_i d hd
          refine⟨_,h,λW a w hr=>aO hV hr hd hok (v:=.int k (k.wrap ((BitVec.ofInt k.bits m ^^^ BitVec.ofInt k.bits n).toNat))) ?_ rfl id rfl⟩;simp[execOp,hop,bt hr hx,bt hr hy,eqGuard,Go.binOp,Op.intBits]
        · cases h
    all_goals
      simp only at h;cases hk:decide (k=k') with
      |false=>simp[hk]at h
      |true =>
        simp only[hk,cond_true]at h;have hk:=of_decide_eq_true hk;subst hk;split at h
        · rename_i l hl
          split at h
          · rename_i d hd
            refine⟨_,h,λW a w hr=>?_⟩;obtain⟨v,h1,h2,h3,h4⟩:=uh (P:=P) (V:=V) (W:=W) (st:=st) (w:=w) _ k t t' x y m n l hl (bt hr hx) (bt hr hy) hop;exact aO hV hr hd hok h1 h2 h3 h4
          · cases h
        · cases h
  · rename_i b b' hx hy
    cases ht:T t with
    |bool =>
      have h1:=hT t;rw[ht]at h1;simp only[ht]at h;cases op <;> simp only at h <;> first
        |cases h;done
        | (split at h
           · rename_i d hd
             first
               |exact⟨_,h,λW a w hr=>aO hV hr hd hok (v:=.bool (b==b')) (by simp[execOp,hop,gn hr hx,gn hr hy,eqGuard,Go.binOp,kt h1.1]) rfl id rfl⟩
               |exact⟨_,h,λW a w hr=>aO hV hr hd hok (v:=.bool (b != b')) (by simp[execOp,hop,gn hr hx,gn hr hy,eqGuard,Go.binOp,kt h1.1,bne]) rfl id rfl⟩
           · cases h)
    |_=>simp[ht]at h
  · rename_i b b' hx hy
    cases op <;> simp only at h <;> first
      |cases h;done
      | (cases hsz : decide ((b.size : Int) + b'.size <= 9223372036854775807) with
         |false=>rw[hsz]at h;cases h
         |true =>
           rw[hsz]at h;simp only[cond_true]at h;split at h
           · rename_i d hd
             refine⟨_,h,λW a w hr=>aO hV hr hd hok (v:=.string (b++b')) ?_ rfl id rfl⟩;have:=of_decide_eq_true hsz;simp[execOp,hop,ia hr hx,ia hr hy,eqGuard,Go.binOp,Op.stringOp,this]
           · cases h)
      | (split at h
         · rename_i d hd
           first
             |exact⟨_,h,λW a w hr=>aO hV hr hd hok (v:=.bool (b.toList==b'.toList)) (by simp[execOp,hop,ia hr hx,ia hr hy,eqGuard,Go.binOp,Op.stringOp]) rfl id rfl⟩
             |exact⟨_,h,λW a w hr=>aO hV hr hd hok (v:=.bool (b.toList != b'.toList)) (by simp[execOp,hop,ia hr hx,ia hr hy,eqGuard,Go.binOp,Op.stringOp,bne]) rfl id rfl⟩
         · cases h)
  · cases ht:T t with
    |struct b flds =>
      have h1:=hT t;rw[ht]at h1;obtain⟨_,_,_,heq,hgd⟩:=h1;simp only[ht]at h;cases hf:b.flat&&decide ((ar st x).1=.agg)&&decide ((ar st y).1=.agg) with
      |false=>simp[hf]at h
      |true =>
        simp only[hf,cond_true]at h;simp only[Bool.and_eq_true,decide_eq_true_eq]at hf;obtain⟨⟨hf,hsx⟩,hsy⟩:=hf;split at h
        · rename_i p u q v hgx hgy
          have run:∀ (W:Wit) (a:Act) (w:World),ao P V W st a w->(Op.equal t (a.eval x) (a.eval y)).run P w=.ok (b.eqv u v) w/\(∃ cx cy:Array Value,a.eval x=.agg cx/\a.eval y=.agg cy):=by
            intro W a w hr;obtain⟨cx,G,hx,hrx⟩:=vD hr hsx hgx;obtain⟨cy,G',hy,hry⟩:=vD hr hsy hgy;rw[hx,hy];exact⟨heq hf w G u v cx cy hrx (Rd.flat hf hry),_,_,rfl,rfl⟩
          cases op <;> simp only at h <;> first
            |cases h;done
            | (split at h
               · rename_i d hd
                 first
                   | (refine ⟨_, h, λW a w hr => aO hV hr hd hok (v := .bool (b.eqv u v)) ?_ rfl id rfl⟩
                      obtain⟨h2,cx,cy,hx,hy⟩:=run W a w hr;rw[hx,hy]at h2;simp[execOp,hop,hx,hy,eqGuard,Go.binOp,hgd,h2];done)
                   | (refine ⟨_, h, λW a w hr => aO hV hr hd hok (v := .bool (!b.eqv u v)) ?_ rfl id rfl⟩
                      obtain⟨h2,cx,cy,hx,hy⟩:=run W a w hr;rw[hx,hy]at h2;simp[execOp,hop,hx,hy,eqGuard,Go.binOp,hgd,h2])
               · cases h)
        · cases h
    |_=>simp[ht]at h
end
end Go.Proofs.YtmcbmojdeikcdaaGreatEv
namespace Go.Proofs.YtmcbmojdeikcdaaGreatEv
open Go Go.RowKit
section
variable {P:Program} {V:Env} {Γ:List Ctr} {T:TypeId->TI} {st:St} {o:Oper} {R:Type} {κ:Upd->Option R} {r:R}
theorem er (g off n:Nat):(⟨g,off,none⟩:Addr).add n=⟨g,off+n,none⟩:=by
 unfold Addr.add;split <;> simp_all
theorem cZ {t:TypeId}{n:Nat}(h:bH P t n)(w:World):(sizeOf t).run P w=.ok n w:=by
 unfold bH at h;cases hi:P.info? t with
 |none=>simp[hi]at h
 |some i =>
  simp[hi]at h;simp[sizeOf,typeInfo,hi,h]
theorem fy {t:TypeId}{z:Value}(h:dC P t z)(w:World):(zeroValue t).run P w=.ok z w:=by
 unfold dC at h;cases hi:P.info? t with
 |none=>simp[hi]at h
 |some i =>
  simp[hi]at h;simp[zeroValue,typeInfo,hi,h]
theorem qp (hV:ax V)(hT:TOk P T)(hok:bF V o){t:TypeId}{x:Operand}{f:Nat}(hop:o.op=.fieldAddr t x f)(h:act Γ T o st κ=some r):bP P V o st κ r:=by
 simp only[act,wrU,hop]at h;cases ht:T t with
 |struct b flds =>
  simp only[ht]at h;split at h
  ·rename_i off n agg hf;have h1:=hT t;rw[ht]at h1;obtain⟨⟨fs,hu,_,hfs⟩,_⟩:=h1;obtain⟨_,fd,h2,h3,h4,h5,h6,_⟩:=hfs f off n agg hf;have run:∀ (a:Act) (w:World) (g o':Nat),a.eval x=.pointer (some ⟨g,o',none⟩)->(execOp a.eval o).run P w=.ok (.value (.pointer (some ⟨g,o'+off,none⟩))) w:=by
    intro a w g o' hv;have h7:=cZ h6 w;have h8:n≠0:=by omega
    simp[execOp,hop,hv,Instr.fieldAt,run_underlying hu,h2,Instr.sureAddr,fieldPlace,h7,h8,h3,er]
   split at h
   ·rename_i p b' y o' hx;split at h
    ·rename_i d hd;refine⟨_,h,λW a w hr=>?_⟩;obtain⟨h7,_,_,_⟩:=bk hr x (by rw[hx];simp);rw[hx]at h7;obtain⟨g,og,c,hv,hg,hrd,hc⟩:=h7;exact aO hV hr hd hok (run a w g _ hv) ⟨g,og,c,by rw[Nat.add_assoc],hg,hrd,hc⟩ id rfl
    ·cases h
   ·rename_i b' o' hx;split at h
    ·rename_i d hd;refine⟨_,h,λW a w hr=>?_⟩;obtain⟨h7,_,_,_⟩:=bk hr x (by rw[hx];simp);rw[hx]at h7;exact aO hV hr hd hok (run a w _ _ h7.2.2) ⟨h7.1,h7.2.1,rfl⟩ id rfl
    ·cases h
   ·rename_i r' j v i sz o' hx;cases hb:Nat.beq (st r').ver v with
    |false=>simp[hb]at h
    |true =>
     simp only[hb,cond_true]at h;split at h
     ·rename_i d hd;refine⟨_,h,λW a w hr=>?_⟩;obtain⟨h7,_,_,_⟩:=bk hr x (by rw[hx];simp);rw[hx]at h7;obtain⟨g,len,cap,hh,hil,hv⟩:=h7.2 (Nat.eq_of_beq_eq_true hb);exact aO hV hr hd hok (run a w g _ hv) ⟨h7.1,λ_=>⟨g,len,cap,hh,hil,by rw[Nat.add_assoc]⟩⟩ id rfl
     ·cases h
   ·rename_i p ks ep b' y o' hx;cases hb:bj st ks ep with
    |false=>simp[hb]at h
    |true =>
     simp only[hb,cond_true]at h;split at h
     ·rename_i d hd;refine⟨_,h,λW a w hr=>?_⟩;obtain⟨h7,_,_,_⟩:=bk hr x (by rw[hx];simp);rw[hx]at h7;have h8:NpOk V W w p ks b' y o' _:=h7.2.2 (ci hb).1 (ci hb).2.1 (ci hb).2.2;obtain⟨g,og,c,hv,hg,hrd,hc⟩:=h8.rd;exact aO hV hr hd hok (run a w g _ hv) ⟨h7.1,h7.2.1,λ_ _ _=>⟨g,og,c,by rw[Nat.add_assoc],hg,hrd,hc⟩⟩ id rfl
     ·cases h
   ·cases h
  ·cases h
 |_=>simp[ht]at h
theorem qq (hV:ax V)(hT:TOk P T)(hok:bF V o){t:TypeId}{x i:Operand}(hop:o.op=.indexAddr t x i)(h:act Γ T o st κ=some r):bP P V o st κ r:=by
 simp only[act,wrU,hop]at h;split at h
 ·rename_i k n hi;cases ht:T t with
  |slice E e bytes =>
   simp only[ht]at h;have h1:=hT t;rw[ht]at h1;obtain⟨hu,_,_,hcp,_,ti,z,hti,hsz,_⟩:=h1;have hE:bH P E e.cells:=by simp[bH,hti,hsz]
   have run:∀ (W:Wit) (a:Act) (w:World) (g o' len cap:Nat),ao P V W st a w->0<=n->n<len->a.eval x=.slice (some ⟨g,o',none⟩) len cap ->
     (execOp a.eval o).run P w=.ok (.value (.pointer (some ⟨g,o'+n.toNat*e.cells,none⟩))) w:=by
    intro W a w g o' len cap hr h0 h1 hv;have h2:=cZ hE w;simp[execOp,hop,hv,bt hr hi,Instr.indexAt,asIntOf,run_underlying hu,h0,h1,h2,er]
   split at h
   ·rename_i r' j v hx;split at h
    ·rename_i p hh E' e' xs hd';cases hb:Nat.beq e'.cells e.cells with
     |false=>simp[hb]at h
     |true =>
      simp only[hb,cond_true]at h;have hb:=Nat.eq_of_beq_eq_true hb;obtain⟨y,hy,h⟩:=Option.bind_eq_some_iff.1 h;obtain⟨h2,h3,h4⟩:=fw hy;split at h
      ·rename_i d hd;refine⟨_,h,λW a w hr=>?_⟩;obtain⟨h7,_,_,_⟩:=bk hr x (by rw[hx];simp);rw[hx]at h7;obtain⟨h8,h9,h10,h11⟩:=jn hr hd' h7;obtain⟨_,flat,bss,ho,hbs,_⟩:=h9;rcases ho.2 with ⟨hn,h0⟩|⟨g,cap',cur,hv,_,_,_⟩
       ·omega
       ·refine aO hV hr hd hok (run W a w g 0 xs.length cap' hr h2 h3 hv) ⟨by omega,λ_=>⟨g,xs.length,cap',by rw[h8,hv],by omega,by simp[hb]⟩⟩ id rfl
      ·cases h
    ·cases h
   ·rename_i p E' e' xs hx;cases hb:Nat.beq e'.cells e.cells with
    |false=>simp[hb]at h
    |true =>
     simp only[hb,cond_true]at h;have hb:=Nat.eq_of_beq_eq_true hb;obtain⟨y,hy,h⟩:=Option.bind_eq_some_iff.1 h;obtain⟨h2,h3,h4⟩:=fw hy;split at h
     ·rename_i d hd;refine⟨_,h,λW a w hr=>?_⟩;obtain⟨h7,_,_,_⟩:=bk hr x (by rw[hx];simp);rw[hx]at h7;obtain⟨A,cap,hv,hcap,hrd⟩:=h7;have hv:a.eval x=.slice A xs.length cap:=by simpa using hv
      obtain⟨g,o',rfl,hg,hel⟩:=hrd (by omega);obtain⟨c,hc,hcl⟩:=hel n.toNat y h4;refine aO hV hr hd hok (run W a w g o' xs.length cap hr h2 h3 hv) ⟨g,o'+n.toNat*e'.cells,c,by rw[hb];rfl,?_,hc,hcl⟩ id rfl;rcases hg with hg|⟨_,hg⟩
      ·exact .inl hg
      ·exact .inr (hV.ro g hg)
     ·cases h
   ·rename_i p ks ep loc E' e' xs hx;cases hb:Nat.beq e'.cells e.cells&&bj st ks ep with
    |false=>simp[hb]at h
    |true =>
     simp only[hb,cond_true]at h;simp only[Bool.and_eq_true]at hb;obtain⟨hb,hvk⟩:=hb;have hb:=Nat.eq_of_beq_eq_true hb;obtain⟨y,hy,h⟩:=Option.bind_eq_some_iff.1 h;obtain⟨h2,h3,h4⟩:=fw hy;split at h
     ·rename_i d hd;refine⟨_,h,λW a w hr=>?_⟩;obtain⟨h7,_,_,_⟩:=bk hr x (by rw[hx];simp);rw[hx]at h7;have h8:=oE hvk h7;obtain⟨A,cap,hv,hcap,hrd⟩:=h8.rd;have hv:a.eval x=.slice A xs.length cap:=by simpa using hv
      obtain⟨g,o',rfl,hg,hel⟩:=hrd (by omega);obtain⟨c,hc,hcl⟩:=hel n.toNat y h4;exact aO hV hr hd hok (run W a w g o' xs.length cap hr h2 h3 hv) ⟨h7.1,h7.2.1,λ_ _ _=>⟨g,o'+n.toNat*e'.cells,c,by rw[hb];rfl,hg,hc,hcl⟩⟩ id rfl
     ·cases h
   ·cases h
  |arr e len =>
   simp only[ht]at h;have h1:=hT t;rw[ht]at h1;obtain⟨⟨E,hu,hE,_⟩,_⟩:=h1;split at h
   ·rename_i b off hx;cases hb:decide (0<=n)&&decide (n<(len:Int)) with
    |false=>simp[hb]at h
    |true =>
     simp only[hb,cond_true]at h;simp only[Bool.and_eq_true,decide_eq_true_eq]at hb;split at h
     ·rename_i d hd;refine⟨_,h,λW a w hr=>?_⟩;obtain⟨h7,_,_,_⟩:=bk hr x (by rw[hx];simp);rw[hx]at h7;refine aO hV hr hd hok (v:=.pointer (some ⟨W.β b,off+n.toNat*e.cells,none⟩)) ?_ ⟨h7.1,h7.2.1,rfl⟩ id rfl;have h2:=cZ hE w;simp[execOp,hop,h7.2.2,bt hr hi,Instr.indexAt,Instr.sureAddr,asIntOf,run_underlying hu,hb.1,hb.2,h2,er]
     ·cases h
   ·cases h
  |_=>simp[ht]at h
 ·cases h
theorem vF {t:TypeId}{i:TI}(hi:nv P t i)(hn:i.cells≠0\/i≠.none)(w:World):(isAgg t).run P w=.ok i.agg w:=by
 cases i with
 |none=>simp[TI.cells]at hn
 |struct a flds =>
  obtain⟨⟨fs,hu,_⟩,_⟩:=hi;simp[isAgg,run_underlying hu,TI.agg]
 |arr e n=>obtain⟨⟨E,hu,_⟩,_⟩:=hi;simp[isAgg,run_underlying hu,TI.agg]
 |ptr=>obtain⟨⟨e,hu⟩,_⟩:=hi;simp[isAgg,run_underlying hu,TI.agg]
 |fn=>obtain⟨⟨x,y,z,hu⟩,_⟩:=hi;simp[isAgg,run_underlying hu,TI.agg]
 |int k=>simp[isAgg,run_underlying hi.1,TI.agg]
 |bool=>simp[isAgg,run_underlying hi.1,TI.agg]
 |str=>simp[isAgg,run_underlying hi.1,TI.agg]
 |slice E e b=>simp[isAgg,run_underlying hi.1,TI.agg]
theorem nz {t:TypeId}{i:TI}(hi:nv P t i)(hn:i≠.none):bH P t i.cells:=by
 cases i with
 |none=>exact absurd rfl hn
 |struct a flds=>exact hi.2.1
 |arr e n=>exact hi.2.2.1
 |ptr=>exact hi.2.1
 |fn=>exact hi.2.1
 |int k=>exact hi.2.1
 |bool=>exact hi.2.1
 |str=>exact hi.2.1
 |slice E e b=>exact hi.2.1
theorem lJ {W:Wit}{a:Act}{w:World}(hr:ao P V W st a w){e:Ty}:∀ (n:Nat) (ls:List Leaf) (cs:List Value) (xs:List e.den),aC P V W st w ls cs->eO st e n ls=some xs ->
  xs.length=n/\∀ (i:Nat) (x:e.den),xs[i]?=some x->∃ G,Rd w G e x ((cs.drop (i*e.cells)).take e.cells)
 |0,ls,cs,xs,_,h=>by
  simp only[eO,Option.some.injEq]at h;subst h;exact⟨rfl,λi x hx=>by simp at hx⟩
 |n+1,ls,cs,xs,hl,h=>by
  simp only[eO]at h;split at h
  ·rename_i p x ys h1 h2;simp only[Option.some.injEq]at h;subst h;obtain⟨h3,h4⟩:=lJ hr n _ _ _ (hl.drop e.cells) h2;refine⟨by simp[h3],λi y hy=>?_⟩;cases i with
   |zero =>
    simp only[List.getElem?_cons_zero,Option.some.injEq]at hy;subst hy;exact⟨_,by simpa using dU hr (hl.take e.cells) h1⟩
   |succ i =>
    obtain⟨G,h5⟩:=h4 i y (by simpa using hy);rw[List.drop_drop]at h5;exact⟨G,by rwa [show (i+1)*e.cells=e.cells+i*e.cells by rw[Nat.add_mul,Nat.one_mul,Nat.add_comm]]⟩
  ·cases h
theorem vG (hV:ax V)(hT:TOk P T)(hok:bF V o){t:TypeId}{x i:Operand}(hop:o.op=.index t x i)(h:act Γ T o st κ=some r):bP P V o st κ r:=by
 simp only[act,wrU,hop]at h;split at h
 ·rename_i k n hi;cases hs:T t with
  |str =>
   simp only[hs]at h;split at h
   ·rename_i s hx;obtain⟨y,hy,h⟩:=Option.bind_eq_some_iff.1 h;split at h
    ·rename_i d hd;refine⟨_,h,λW a w hr=>aO hV hr hd hok (v:=.int .u8 (y.toNat:Int)) ?_ rfl id rfl⟩;have h1:=hT t;rw[hs]at h1;obtain⟨h2,h3,h4⟩:=fw hy;have h5:s[n.toNat]?=some y:=by
      have h6:=(List.getElem?_eq_some_iff.1 h4);obtain⟨h7,h8⟩:=h6;have h9:n.toNat<s.size:=by rw[Array.length_toList]at h7;exact h7
      rw[getElem?_pos s n.toNat h9];congr 1
     simp[execOp,hop,bt hr hi,ia hr hx,Instr.index,asIntOf,run_underlying h1.1,h2,h5]
    ·cases h
   ·cases h
  |arr e len =>
   simp only[hs]at h;have h1:=hT t;rw[hs]at h1;obtain⟨⟨E,hu,hE,hEa⟩,hpos,_⟩:=h1;cases hb:e.flat&&decide ((ar st x).1=.agg)&&Nat.beq (ar st x).2.length (len*e.cells)&&!Nat.beq e.cells 0 with
   |false=>simp[hb]at h
   |true =>
    simp only[hb,cond_true]at h;simp only[Bool.and_eq_true,decide_eq_true_eq]at hb;obtain⟨⟨⟨hf,hsh⟩,hlen⟩,_⟩:=hb;have hlen:=Nat.eq_of_beq_eq_true hlen;split at h
    ·rename_i vs hg;obtain⟨y,hy,h⟩:=Option.bind_eq_some_iff.1 h;split at h
     ·rename_i d hd;refine⟨_,h,λW a w hr=>?_⟩;obtain⟨cs,hsx,hl⟩:=cB hr x;rw[hsh]at hsx;have hsx:a.eval x=.agg cs.toArray:=hsx;obtain⟨h2,h3,h4⟩:=fw hy;obtain⟨h5,h6⟩:=lJ hr len _ _ _ hl hg;obtain⟨G,h7⟩:=h6 n.toNat y h4;have h8:Rd w (λ_=>False) e y ((cs.drop (n.toNat*e.cells)).take e.cells):=Rd.flat hf h7;have h9:=h8.len;have hag:(isAgg E).run P w=.ok e.isAgg w:=by
       cases hue:P.underlying E with
       |none=>simp[hue]at hEa
       |some u =>
        simp only[hue,Option.map_some,Option.some.injEq]at hEa;rw[<- hEa];cases u <;> simp[isAgg,run_underlying hue]
      have hsz:=cZ hE w;have hll:=hl.length;have hn:n<(len:Int):=by omega
      have hcs:n.toNat*e.cells+e.cells<=cs.length:=by
       have:=Nat.mul_le_mul_right e.cells (show n.toNat+1<=len by omega);rw[Nat.add_mul,Nat.one_mul]at this;omega
      cases hag':e.isAgg with
      |true =>
       have:=dy hV hr hd hok (v:=.agg ((cs.drop (n.toNat*e.cells)).take e.cells).toArray) (sh:=.agg) (ls:=co false e y) ?_ rfl (eq (λ_ h=>h.elim) h8)
       ·exact this
       ·rw[hag']at hag;have he:(cs.toArray.extract (n.toNat*e.cells) (n.toNat*e.cells+e.cells))=((cs.drop (n.toNat*e.cells)).take e.cells).toArray:=by
         simp[List.extract_toArray,List.extract_eq_take_drop]
        simp[execOp,hop,bt hr hi,hsx,Instr.index,asIntOf,run_underlying hu,h2,hn,part,hag,hsz,he]
      |false =>
       have he1:e.cells=1:=by cases e <;> first|rfl|simp[Ty.isAgg]at hag'
       rw[he1]at h8 h9
       match hc:(cs.drop (n.toNat*1)).take 1,h9 with
       |[v],_ =>
        rw[hc]at h8;have:=dy hV hr hd hok (v:=v) (sh:=.one) (ls:=co false e y) (cs:=[v]) ?_ rfl (eq (λ_ h=>h.elim) h8)
        ·exact this
        ·rw[hag']at hag;have hv:cs[n.toNat]?=some v:=by
          have:((cs.drop (n.toNat*1)).take 1)[0]?=some v:=by rw[hc];rfl
          simpa using this
         simp[execOp,hop,bt hr hi,hsx,Instr.index,asIntOf,run_underlying hu,h2,hn,part,hag,hsz,he1,hv]
     ·cases h
    ·cases h
  |_=>simp[hs]at h
 ·cases h
theorem mQ {t:TypeId}{i:TI}(hi:nv P t i)(hn:i≠.none){w:World}{g off:Nat}{cs:List Value}(hc:cE w g off cs)(hl:cs.length=i.cells) :
  ∃ v,(loadVar t ⟨g,off,none⟩).run P w=.ok v w/\dI (be i.agg) v cs:=by
 have h1:=vF hi (.inr hn) w;cases ha:i.agg with
 |true =>
  refine⟨.agg cs.toArray,?_,rfl⟩;have h2:=cZ (nz hi hn) w;have h3:=run_loadCells_list (P:=P) w ⟨g,off,none⟩ cs (λj v hv=>by rw[er];exact hc j v hv);rw[hl]at h3;simp[loadVar,h1,ha,h2,h3]
 |false =>
  have hone:i.cells=1:=by cases i <;> simp_all [TI.agg,TI.cells]
  rw[hone]at hl
  match cs,hl with
  |[v],_ =>
   have:=hc 0 v rfl;rw[Nat.add_zero]at this;exact⟨v,by simp[loadVar,h1,ha,this],rfl⟩
theorem cE.sub {w:World}{g off:Nat}{cs:List Value}(h:cE w g off cs)(k n:Nat):cE w g (off+k) ((cs.drop k).take n):=by
 intro i v hv;rw[List.getElem?_take]at hv;split at hv
 ·rw[List.getElem?_drop]at hv;have:=h (k+i) v hv
  rwa [<- Nat.add_assoc]at this
 ·cases hv
theorem Mx.deep {w:World}{G G':Nat->Prop}:∀ {a:Ty} {h:Option Nat} {pos:Nat} {x:a.den} {cs:List Value} {bs:List Nat},a.shy=false->Mx w G a h pos x cs bs->Mx w G' a h pos x cs bs
 |.int _,_,_,_,_,_,_,h=>h
 |.bool,_,_,_,_,_,_,h=>h
 |.str,_,_,_,_,_,_,h=>h
 |.unit,_,_,_,_,_,_,h=>h
 |.hdr,_,_,_,_,_,_,h=>h
 |.pair _ _,_,_,_,_,_,hs,⟨c1,c2,b1,b2,e1,e2,h1,h2⟩=>by
  simp only[Ty.shy,Bool.or_eq_false_iff]at hs;exact⟨c1,c2,b1,b2,e1,e2,Mx.deep hs.1 h1,Mx.deep hs.2 h2⟩
 |.list m E e,h,pos,xs,cs,bs,hs,H=>by
  simp only[Ty.shy,Bool.or_eq_false_iff,Bool.not_eq_false']at hs;obtain⟨rfl,hs⟩:=hs;by_cases hp:h=some pos
  ·subst hp;rw[hY]at H ⊢;exact H
  ·rw[ch hp]at H ⊢;obtain⟨v,e1,flat,bss,h1,h2,h3⟩:=H;refine⟨v,e1,flat,bss,h1,h2,λj x hj=>?_⟩;obtain⟨c,h4,h5⟩:=h3 j x hj;exact⟨c,Mx.deep hs h4,h5⟩
theorem OwB.shy {W:Wit}{w:World}{p:Bool}{h:Option (Nat×Nat)}{E:TypeId}{e:Ty}{xs:List e.den}{v:Value}{bs:List Nat}(H:OwB w (gd V W p) h E e xs v bs):OwB w (gd V W (p&&e.shy)) h E e xs v bs:=by
 cases hs:e.shy with
 |true=>simpa using H
 |false =>
  obtain⟨flat,bss,h1,h2,h3⟩:=H;refine⟨flat,bss,h1,h2,λj x hj=>?_⟩;obtain⟨c,h4,h5⟩:=h3 j x hj;exact⟨c,Mx.deep hs h4,h5⟩
theorem ib (p:Bool)(r j v ep i sz:Nat)(h:Option Nat):∀ (a:Ty) (off:Nat) (x:a.den),(gr p r j v ep i sz h a off x).length=a.cells
 |.int _,_,_=>rfl
 |.bool,_,_=>rfl
 |.str,_,_=>rfl
 |.unit,_,_=>rfl
 |.hdr,_,_=>rfl
 |.pair a b,off,x=>by simp[gr,Ty.cells,ib p r j v ep i sz h a,ib p r j v ep i sz h b]
 |.list _ _ _,_,_=>rfl
theorem kZ {W:Wit}{w:World}{p:Bool}{r j g len cap i sz:Nat}(hcs:(W.cs r)[j]?=some (.slice (some ⟨g,0,none⟩) len cap))(hil:i<len)(hg:g∈W.bs r j){hol:Option Nat} :
  ∀ {a:Ty} {pos:Nat} {x:a.den} {cs:List Value} {bs:List Nat},(∀ k∈bs,k∈W.bs r j)->Mx w (gd V W p) a hol pos x cs bs->cE w g (i*sz+pos) cs->aC P V W st w (gr p r j (st r).ver (st EPO).ver i sz hol a pos x) cs
 |.int _,_,_,_,_,_,h,_=>by rw[h.1];exact⟨⟨rfl,id,rfl⟩,trivial⟩
 |.bool,_,_,_,_,_,h,_=>by rw[h.1];exact⟨⟨rfl,id,rfl⟩,trivial⟩
 |.str,_,_,_,_,_,h,_=>by rw[h.1];exact⟨⟨rfl,id,rfl⟩,trivial⟩
 |.unit,_,_,_,_,_,h,_=>by rw[h.1];trivial
 |.hdr,_,_,_,_,_,⟨⟨A,cap,e⟩,_⟩,_=>by rw[e];exact⟨⟨⟨A,cap,rfl⟩,id,rfl⟩,trivial⟩
 |.pair a b,pos,x,cs,bs,hb,⟨c1,c2,b1,b2,e1,e2,h1,h2⟩,hc=>by
  subst e1;have hl:=h1.len;refine aC.append (kZ hcs hil hg (λk hk=>hb k (by rw[e2];exact List.mem_append_left _ hk)) h1 λq u hu=>hc q u ?_)
   (kZ hcs hil hg (λk hk=>hb k (by rw[e2];exact List.mem_append_right _ hk)) h2 λq u hu=>?_)
  ·rw[List.getElem?_append_left (List.getElem?_eq_some_iff.1 hu).1];exact hu
  ·have:=hc (a.cells+q) u (by rw[<- hl,List.getElem?_append_right (by omega)];simpa using hu)
   rwa [show i*sz+(pos+a.cells)+q=i*sz+pos+(a.cells+q) by omega]
 |.list m E e,pos,xs,cs,bs,hb,H,hc=>by
  have hone:=H.one;simp only[gr];by_cases hp:hol=some pos
  ·have e0:decide (hol=some pos)=true:=decide_eq_true hp;rw[e0];obtain⟨v,rfl,_⟩:=H;exact⟨⟨trivial,id,hone v (by simp)⟩,trivial⟩
  ·have e0:decide (hol=some pos)=false:=decide_eq_false hp;rw[e0];cases m with
   |false =>
    rw[cA]at H;obtain⟨A,cap,rfl,h2,h3⟩:=H.2;exact⟨⟨⟨A,cap,rfl,h2,h3⟩,id,rfl⟩,trivial⟩
   |true =>
    rw[ch hp]at H;obtain⟨v,rfl,hO⟩:=H;have h1:=hc 0 v rfl;refine⟨⟨⟨Nat.le_refl _,λk hk=>?_,λ_ _ _=>⟨?_,λi' sz' off' he=>?_⟩⟩,id,hone v (by simp)⟩,trivial⟩
    ·simp only[List.mem_singleton]at hk;subst hk;exact Nat.le_refl _
    ·obtain⟨flat,bss,h4,h5,h6⟩:=OwB.shy hO;refine rB h4 (λk hk=>.inr ⟨_,List.mem_singleton_self _,hb k (by rw[h5];exact List.mem_append_left _ hk)⟩) λq x hq=>?_
     obtain⟨c,h7,h8⟩:=h6 q x hq;have h7:Mx w (gd V W (p&&e.shy)) e none 0 x c (bss q):=h7;exact⟨c,h7.rd (λk hk=>.inl hk) (λk hk=>.inr ⟨_,List.mem_singleton_self _,hb k (by rw[h5];exact List.mem_append_right _ (dT.2 ⟨q,(List.getElem?_eq_some_iff.1 hq).1,hk⟩))⟩),h8⟩
    ·simp only[Option.some.injEq,Prod.mk.injEq]at he;obtain⟨rfl,rfl,rfl⟩:=he;exact⟨r,j,_,rfl,g,len,cap,hcs,hil,hg,h1⟩
theorem iT {W:Wit}{w:World}{p:Bool}{ks:List (Nat×Nat×Nat)}{ep:Nat}(hep:ep<=(st EPO).ver)(hks:∀ k∈ks,k.2.2<=(st k.1).ver) :
  ∀ {a:Ty} {x:a.den} {cs:List Value},Rd w (λb=>gd V W p b\/∃ k∈ks,b∈W.bs k.1 k.2.1) a x cs->aC P V W st w (ke p ks ep a x) cs
 |.int _,_,_,h=>by rw[show _=_ from h];exact⟨⟨rfl,id,rfl⟩,trivial⟩
 |.bool,_,_,h=>by rw[show _=_ from h];exact⟨⟨rfl,id,rfl⟩,trivial⟩
 |.str,_,_,h=>by rw[show _=_ from h];exact⟨⟨rfl,id,rfl⟩,trivial⟩
 |.unit,_,_,h=>by rw[show _=_ from h];trivial
 |.hdr,_,_,⟨A,cap,e⟩=>by rw[e];exact⟨⟨⟨A,cap,rfl⟩,id,rfl⟩,trivial⟩
 |.pair _ _,_,_,⟨c1,c2,e,h1,h2⟩=>by rw[e];exact (iT hep hks h1).append (iT hep hks h2)
 |.list m E e,xs,_,h=>by
  obtain⟨A,cap,rfl,h2,h3⟩:=h;exact⟨⟨⟨hep,hks,λ_ _ _=>⟨⟨A,cap,rfl,h2,h3⟩,λi sz off he=>by cases he⟩⟩,id,rfl⟩,trivial⟩
theorem ym {W:Wit}{a:Act}{w:World}(hr:ao P V W st a w){r j n g len cap i:Nat}{p:Bool}{hh:Option (Nat×Nat)}{E:TypeId}{e:Ty}{xs:List e.den}{y:e.den}(h8:(st r).ver=n)(h9:(st r).ls[j]?=some (.own p hh E e xs))
  (hcs:(W.cs r)[j]?=some (.slice (some ⟨g,0,none⟩) len cap)) (hil:i<len) (hy:xs[i]?=some y) :
  ∃ c,cE w g (i*e.cells) c/\aC P V W st w (gr p r j n (st EPO).ver i e.cells (cu hh i) e 0 y) c:=by
 subst h8;obtain⟨_,flat,bss,ho,hbs,hel⟩:=hr.leaf r j _ _ h9 hcs;obtain⟨c,h1,h2⟩:=hel i y hy;have hlen:=h1.len;have hi:i<xs.length:=(List.getElem?_eq_some_iff.1 hy).1;have hlen2:len=xs.length:=by
  obtain⟨A,cap',e0,_⟩:=ho.slice;simp only[Value.slice.injEq]at e0;exact e0.2.1
 subst hlen2;have hc:cE w g (i*e.cells) c:=by
  intro q u hu;have hq:=(List.getElem?_eq_some_iff.1 hu).1;rw[ho.cellAt _ (by
   have:i*e.cells+e.cells<=xs.length*e.cells:=by
    have:=Nat.mul_le_mul_right e.cells (show i+1<=xs.length from hi)
    rwa [Nat.add_mul,Nat.one_mul]at this
   omega)]
  exact h2 q u hu
 refine⟨c,hc,kZ hcs hil (by rw[hbs];simp[Value.ownBlock]) (λk hk=>?_) h1 hc⟩;rw[hbs];exact List.mem_append_right _ (dT.2 ⟨i,hi,hk⟩)
theorem w8 (hV:ax V)(hT:TOk P T)(hok:bF V o){t:TypeId}{x:Operand}(hop:o.op=.load t x)(h:act Γ T o st κ=some r):bP P V o st κ r:=by
 simp only[act,wrU,hop]at h;have hti:=hT t;have run:∀ (W:Wit) (a:Act) (w:World) (g off:Nat) (cs:List Value) (ls:List Leaf) (d:Nat),ao P V W st a w->o.dst=some d->T t≠.none->a.eval x=.pointer (some ⟨g,off,none⟩)->cE w g off cs ->
   cs.length=(T t).cells->aC P V W st w ls cs->lH P V o st (ce st [] d (be (T t).agg) ls) a w:=by
  intro W a w g off cs ls d hr hd hn hv hc hl hls;obtain⟨v,h1,h2⟩:=mQ hti hn hc hl;exact dy hV hr hd hok (v:=v) (by simp[execOp,hop,hv,Instr.loadAt,Instr.sureAddr,h1]) h2 hls
 cases hne:decide ((T t).cells=0) with
 |true=>simp[hne]at h
 |false =>
  simp only[hne,cond_false]at h;have hne:(T t).cells≠0:=of_decide_eq_false hne;have hnn:T t≠.none:=by intro e;rw[e]at hne;exact hne rfl
  split at h
  ·rename_i p b y off hx;cases hb:decide (off+(T t).cells<=b.cells) with
   |false=>simp[hb]at h
   |true =>
    simp only[hb,cond_true]at h;have hb:=of_decide_eq_true hb;split at h
    ·rename_i d hd;refine⟨_,h,λW a w hr=>?_⟩;obtain⟨h7,_,_,_⟩:=bk hr x (by rw[hx];simp);rw[hx]at h7;obtain⟨g,og,c,hv,hg,hrd,hc⟩:=h7;refine run W a w g _ ((c.drop off).take (T t).cells) _ d hr hd hnn hv (hc.sub off _) ?_ (((eq (λ_ h=>h) hrd).drop off).take _);have:=hrd.len;simp;omega
    ·cases h
  ·rename_i b off hx;cases hb:decide ((st b).sh=.agg)&&decide (off+(T t).cells<=(st b).ls.length) with
   |false=>simp[hb]at h
   |true =>
    simp only[hb,cond_true]at h;simp only[Bool.and_eq_true,decide_eq_true_eq]at hb;split at h
    ·rename_i d hd;refine⟨_,h,λW a w hr=>?_⟩;obtain⟨h7,_,_,_⟩:=bk hr x (by rw[hx];simp);rw[hx]at h7;obtain⟨hB,hag,hv⟩:=h7;rcases hr.boxes b hB with ⟨h8,_⟩|⟨_,E,h8⟩
     ·rw[hag]at h8;cases h8
     ·have hc:cE w (W.β b) 0 (W.cs b):=λi v hv=>by
       rw[Nat.zero_add,cell_of_row w (W.β b) i _ E (0,0) h8];simpa using hv
      have hlen:=hr.len b;have hc2:=hc.sub off (T t).cells;rw[Nat.zero_add]at hc2;refine run W a w (W.β b) off _ _ d hr hd hnn hv hc2 ?_ (((e9 hr b).drop off).take _);simp;omega
    ·cases h
  ·rename_i p b y hx;cases hb:Nat.beq (T t).cells 1&&!(T t).agg with
   |false=>simp[hb]at h
   |true =>
    simp only[hb,cond_true]at h;simp only[Bool.and_eq_true,Bool.not_eq_true']at hb;split at h
    ·rename_i d hd;refine⟨_,h,λW a w hr=>?_⟩;obtain⟨h7,_,_,_⟩:=bk hr x (by rw[hx];simp);rw[hx]at h7;obtain⟨q,oq,g,og,c,hv,_,hcell,hg,hrd,hc⟩:=h7;have:=run W a w q oq [.pointer (some ⟨g,og,none⟩)] [.rp p b y 0] d hr hd hnn hv (λi v hi=>by
      cases i with
      |zero=>simp at hi;subst hi;exact hcell
      |succ i=>simp at hi) (by simp[Nat.eq_of_beq_eq_true hb.1]) ⟨⟨⟨g,og,c,rfl,hg,hrd,hc⟩,id,rfl⟩,trivial⟩
     rw[hb.2]at this;exact this
    ·cases h
  ·rename_i p ks ep b y off hx;cases hb:bj st ks ep&&decide (off+(T t).cells<=b.cells) with
   |false=>simp[hb]at h
   |true =>
    simp only[hb,cond_true]at h;simp only[Bool.and_eq_true,decide_eq_true_eq]at hb;split at h
    ·rename_i d hd;refine⟨_,h,λW a w hr=>?_⟩;obtain⟨h7,_,_,_⟩:=bk hr x (by rw[hx];simp);rw[hx]at h7;have h8:NpOk V W w p ks b y off _:=h7.2.2 (ci hb.1).1 (ci hb.1).2.1 (ci hb.1).2.2;obtain⟨g,og,c,hv,hg,hrd,hc⟩:=h8.rd;refine run W a w g _ ((c.drop off).take (T t).cells) _ d hr hd hnn hv (hc.sub off _) ?_ (((iT h7.1 h7.2.1 hrd).drop off).take _);have:=hrd.len;simp;omega
    ·cases h
  ·rename_i r' j v i sz off hx;split at h
   ·rename_i p hh E e xs hd';cases hb:Nat.beq sz e.cells&&decide (off+(T t).cells<=e.cells) with
    |false=>simp[hb]at h
    |true =>
     simp only[hb,cond_true]at h;simp only[Bool.and_eq_true,decide_eq_true_eq]at hb;have hsz:=Nat.eq_of_beq_eq_true hb.1;subst hsz;obtain⟨y,hy,h⟩:=Option.bind_eq_some_iff.1 h;obtain⟨_,_,h4⟩:=fw hy;simp only[Int.toNat_natCast]at h4;split at h
     ·rename_i d hd;refine⟨_,h,λW a w hr=>?_⟩;obtain⟨h7,_,_,_⟩:=bk hr x (by rw[hx];simp);rw[hx]at h7;obtain⟨h8,h9⟩:=ey hd' (by simp);obtain⟨g,len,cap,hcs,hil,hv⟩:=h7.2 h8;obtain⟨c,hc,hls⟩:=ym hr h8 h9 hcs hil h4;refine run W a w g _ _ _ d hr hd hnn hv (hc.sub off _) ?_ ((hls.drop off).take _);have:=hls.length;rw[ib]at this;simp;omega
     ·cases h
   ·cases h
  ·cases h
end
end Go.Proofs.YtmcbmojdeikcdaaGreatEv
namespace Go.Proofs.YtmcbmojdeikcdaaGreatEv
open Go Go.RowKit
section
variable {P:Program} {V:Env} {Γ:List Ctr} {T:TypeId->TI} {st:St} {o:Oper} {R:Type} {κ:Upd->Option R} {r:R}
theorem vH (hV:ax V)(hT:TOk P T)(hok:bF V o){t:TypeId}{x:Operand}{f:Nat}(hop:o.op=.field t x f)(h:act Γ T o st κ=some r):bP P V o st κ r:=by
 simp only[act,wrU,hop]at h;cases ht:T t with
 |struct b flds =>
  simp only[ht]at h;split at h
  ·rename_i off n agg hf;have h1:=hT t;rw[ht]at h1;obtain⟨⟨fs,hu,_,hfs⟩,_⟩:=h1;obtain⟨hn1,fd,h2,h3,h4,h5,h6,h7⟩:=hfs f off n agg hf;cases hb:decide ((ar st x).1=.agg)&&decide ((ar st x).2.length=b.cells) with
   |false=>simp[hb]at h
   |true =>
    simp only[hb,cond_true]at h;simp only[Bool.and_eq_true,decide_eq_true_eq]at hb;split at h
    ·rename_i d hd;refine⟨_,h,λW a w hr=>?_⟩;obtain⟨cs,hs,hl⟩:=cB hr x;rw[hb.1]at hs;have hlen:=hl.length;rw[hb.2]at hlen;have hagg:(isAgg fd.type).run P w=.ok agg w:=by
      unfold isAgg;cases hd':P.underlying fd.type with
      |none=>simp[hd']at h7
      |some dd =>
       rw[hd']at h7;simp only[Option.map_some,Option.some.injEq]at h7;subst h7;rw[Sem.run_bind,run_underlying hd' w];cases dd <;> rfl
     have hsz:=cZ h6 w;cases agg with
     |true =>
      refine dy hV hr hd hok (v:=.agg ((cs.drop off).take n).toArray) ?_ rfl ((hl.drop off).take n);have e:cs.toArray.extract off (off+n)=((cs.drop off).take n).toArray:=by
       rw[List.extract_toArray,List.extract_eq_take_drop,Nat.add_sub_cancel_left]
      have hp:(part fd.type cs.toArray off).run P w=.ok (.agg ((cs.drop off).take n).toArray) w:=by
       simp only[part,Sem.run_bind,hagg,Result.andThen_ok,if_true,hsz,Sem.run_pure,e]
      simp only[execOp,hop,show a.eval x=_ from hs,Instr.field,Sem.run_bind,run_underlying hu,Result.andThen_ok,h2,asAgg,Sem.run_pure,h3,hp]
     |false =>
      have hn1:=hn1 rfl;subst hn1;have hoff:off<cs.length:=by omega
      have hv:((cs.drop off).take 1)=[cs[off]]:=by
       rw[List.take_one,List.head?_drop,List.getElem?_eq_getElem hoff];rfl
      refine dy hV hr hd hok (v:=cs[off]) ?_ (show dI .one _ ((cs.drop off).take 1) from hv) ((hl.drop off).take 1);have e:cs.toArray[off]?=some cs[off]:=by simp[hoff]
      have hp:(part fd.type cs.toArray off).run P w=.ok cs[off] w:=by
       simp only[part,Sem.run_bind,hagg,Result.andThen_ok,Bool.false_eq_true,if_false,e,Sem.run_pure]
      simp only[execOp,hop,show a.eval x=_ from hs,Instr.field,Sem.run_bind,run_underlying hu,Result.andThen_ok,h2,asAgg,Sem.run_pure,h3,hp]
    ·cases h
  ·cases h
 |_=>simp[ht]at h
theorem yE {α:Type}(old new:List α)(off:Nat)(h:off+new.length<=old.length):(old.take off++new++old.drop (off+new.length)).length=old.length:=by
 simp;omega
theorem j0 (cs c:List Value)(off:Nat)(h:off+c.length<=cs.length) :
  (c.zipIdx 0).foldl (λcs (x:Value×Nat)=>cs.setIfInBounds (off+x.2) x.1) cs.toArray=(cs.take off++c++cs.drop (off+c.length)).toArray:=by
 obtain⟨h1,h2⟩:=Great.foldl_set off c 0 cs.toArray;apply Array.ext_getElem?;intro k;rw[h2 k];simp only[Nat.add_zero,List.size_toArray,List.getElem?_toArray];by_cases hk:off<=k/\k<off+c.length/\k<cs.length
 ·rw[if_pos hk,List.append_assoc,List.getElem?_append_right (by simp;omega),List.getElem?_append_left (by simp;omega)];congr 1;simp;omega
 ·rw[if_neg hk];by_cases hlt:k<off
  ·rw[List.append_assoc,List.getElem?_append_left (by simp;omega),List.getElem?_take,if_pos hlt]
  ·rw[List.getElem?_append_right (by simp;omega),List.getElem?_drop];congr 1;simp;omega
theorem f9 {agg:Bool}{v:Value}{cs:List Value}(h:dI (be agg) v cs)(h1:∀ u∈cs,u.oneCell'=true):v.cells=cs.toArray:=by
 cases agg with
 |true=>rw[show v=_ from h];rfl
 |false =>
  have h:cs=[v]:=h;subst h;have:=h1 v (List.mem_singleton.2 rfl);cases v <;> first|rfl|simp[Value.oneCell']at this
theorem k5 {W:Wit}{a:Act}{w:World}(hr:ao P V W st a w){flds:List (Nat×Nat×Bool)}{pl:Nat->Option (Nat×Nat)}(hpl:∀ (i off n:Nat) (agg:Bool),flds[i]?=some (off,n,agg)->pl i=some (off,n)):∀ (ps:List (Nat×Operand)) (ls ls':List Leaf) (cs:List Value),
  aC P V W st w ls cs->eD st flds ps ls=some ls' ->
  ∃ cs',aC P V W st w ls' cs'/\Instr.fill pl cs.toArray (ps.map λx=>(x.1,a.eval x.2))=some cs'.toArray
 |[],ls,ls',cs,hl,h=>by
  simp[eD]at h;subst h;exact⟨cs,hl,rfl⟩
 |(i,x)::ps,ls,ls',cs,hl,h=>by
  simp only[eD]at h;split at h
  ·rename_i off n agg hf;cases hb:Nat.beq (ar st x).2.length n&&decide ((ar st x).1=be agg)&&decide (off+n<=ls.length) with
   |false=>simp[hb]at h
   |true =>
    simp only[hb,cond_true]at h;simp only[Bool.and_eq_true,decide_eq_true_eq]at hb;obtain⟨⟨hb1,hb2⟩,hb3⟩:=hb;have hb1:=Nat.eq_of_beq_eq_true hb1;obtain⟨c,hs,hl2⟩:=cB hr x;rw[hb2]at hs;have hc:=f9 hs hl2.one';have hlen:=hl.length;have hlen2:=hl2.length;have hsp:aC P V W st w (iy ls (ar st x).2 off) (cs.take off++c++cs.drop (off+c.length)):=by
     unfold iy;rw[hlen2];exact ((hl.take off).append hl2).append (hl.drop _)
    obtain⟨cs',h1,h2⟩:=k5 hr hpl ps _ ls' _ hsp h;refine⟨cs',h1,?_⟩;simp only[List.map_cons,Instr.fill];have hfd:pl i=some (off,n):=hpl _ _ _ _ hf;have hcs:c.toArray.size=n:=by simp;omega
    simp only[hfd,hc];rw[if_neg (by simp;omega)];have e:c.toArray.zipIdx.foldl (λcs (x:Value×Nat)=>cs.setIfInBounds (off+x.2) x.1) cs.toArray=(c.zipIdx 0).foldl (λcs (x:Value×Nat)=>cs.setIfInBounds (off+x.2) x.1) cs.toArray:=by
     rw[<- Array.foldl_toList];simp
    have e2:=j0 cs c off (by omega);rw[<- e2,<- e]at h2;exact h2
  ·cases h
theorem ku {W:Wit}{w:World}:∀ (b:Ty),aC P V W st w (ee b) (zeroCells b)
 |.int _=>⟨⟨rfl,id,rfl⟩,trivial⟩
 |.bool=>⟨⟨rfl,id,rfl⟩,trivial⟩
 |.str=>⟨⟨rfl,id,rfl⟩,trivial⟩
 |.unit=>trivial
 |.pair a b=>(ku a).append (ku b)
 |.hdr=>⟨⟨rfl,id,rfl⟩,trivial⟩
 |.list _ _ _=>⟨⟨rfl,id,rfl⟩,trivial⟩
theorem nA {W:Wit}{w:World}(e:Ty):∀ (n:Nat),aC P V W st w (List.replicate n (ee e)).flatten (List.replicate n (zeroCells e)).flatten
 |0=>trivial
 |n+1=>by
  rw[List.replicate_succ,List.replicate_succ,List.flatten_cons,List.flatten_cons];exact (ku e).append (nA e n)
theorem vI (hV:ax V)(hT:TOk P T)(hok:bF V o){t:TypeId}{parts:Array (Nat×Operand)}(hop:o.op=.build t parts)(h:act Γ T o st κ=some r):bP P V o st κ r:=by
 simp only[act,wrU,hop]at h;cases ht:T t with
 |struct b flds =>
  simp only[ht]at h;split at h
  ·rename_i ls hls;split at h
   ·rename_i d hd;refine⟨_,h,λW a w hr=>?_⟩;have h1:=hT t;rw[ht]at h1;obtain⟨⟨fs,hu,hpl,_⟩,_,hz,_⟩:=h1;obtain⟨cs',h2,h3⟩:=k5 hr (pl:=((flds.map λx=>(x.1,x.2.1)).toArray[·]?)) (λi off n agg hf=>by simp[hf]) parts.toList _ ls _ (ku b) hls;refine dy hV hr hd hok (v:=.agg cs'.toArray) ?_ rfl h2;have hbuilt:P.built t (parts.map λ (i,x)=>(i,a.eval x)).toList=some cs'.toArray:=by
     unfold dC at hz;unfold Program.built;cases hi:P.info? t with
     |none=>simp[hi]at hz
     |some ti =>
      simp[hi]at hz;simp only[hu,hz,hpl];rw[Array.toList_map];exact h3
    simp[execOp,hop,run_build w t _ _ hbuilt]
   ·cases h
  ·cases h
 |arr e n =>
  simp only[ht]at h;split at h
  ·rename_i ls hls;split at h
   ·rename_i d hd;refine⟨_,h,λW a w hr=>?_⟩;have h1:=hT t;rw[ht]at h1;obtain⟨⟨E,hu,hE,_⟩,_,_,hz⟩:=h1;obtain⟨cs',h2,h3⟩:=k5 hr (pl:=λi=>some (i*e.cells,e.cells)) (λi off n agg hf=>by
     rw[List.getElem?_map]at hf;obtain⟨j,hj,hf⟩:=Option.map_eq_some_iff.1 hf;rw[List.getElem?_range (by simpa using (List.getElem?_eq_some_iff.1 hj).1)]at hj;simp only[Option.some.injEq]at hj;subst hj;simp only[Prod.mk.injEq]at hf;simp[<- hf.1,<- hf.2.1]) parts.toList _ ls _ (nA e n) hls
    refine dy hV hr hd hok (v:=.agg cs'.toArray) ?_ rfl h2;have hbuilt:P.built t (parts.map λ (i,x)=>(i,a.eval x)).toList=some cs'.toArray:=by
     unfold dC at hz;unfold bH at hE;unfold Program.built;cases hi:P.info? t with
     |none=>simp[hi]at hz
     |some ti =>
      simp[hi]at hz;cases hie:P.info? E with
      |none=>simp[hie]at hE
      |some ie =>
       simp[hie]at hE;simp only[hu,hz,hie,hE];rw[Array.toList_map];exact h3
    simp[execOp,hop,run_build w t _ _ hbuilt]
   ·cases h
  ·cases h
 |_=>simp[ht]at h
theorem lK {W:Wit}{a:Act}{w:World}(hr:ao P V W st a w){x:Option Operand}{dflt n:Int}(h:cN st x dflt=some n) :
  (x=none/\n=dflt)\/∃ y k,x=some y/\a.eval y=.int k n:=by
 unfold cN at h;split at h
 ·simp at h;exact .inl ⟨rfl,h.symm⟩
 ·split at h
  ·rename_i l k m hl;simp at h;subst h;exact .inr ⟨_,k,rfl,bt hr hl⟩
  ·cases h
theorem iU (isSlice:Bool)(len cap:Nat)(hlc:len<=cap)(lo hi:Option Value)(i h:Int)(hi0:0<=i)(hih:i<=h)(hh:h<=len)(hlo:(lo=none/\i=0)\/∃ k,lo=some (.int k i))
  (hhi:(hi=none/\h=len)\/∃ k,hi=some (.int k h)) (w:World):(Instr.sliceBounds isSlice len cap lo hi none).run P w=.ok (i.toNat,h.toNat,cap) w:=by
 have h0:0<=h:=by omega
 have hc:h<=(cap:Int):=by omega
 have hih':i<=((h.toNat:Nat):Int):=by omega
 rcases hlo with ⟨rfl,rfl⟩|⟨k,rfl⟩ <;> rcases hhi with ⟨rfl,rfl⟩|⟨k',rfl⟩ <;>
  simp[Instr.sliceBounds,Instr.sliceBound,asIntOf,hi0,h0,hc,hih',hih,-Int.ofNat_toNat]
theorem iu (hV:ax V){W:Wit}{a:Act}{w:World}(hr:ao P V W st a w){x:Operand}{l:Leaf}(hx:aD st (one st x)=l)(hd:l≠.dead)(hno:¬ an l):aJ P V W st w [] l (a.eval x):=by
 have hd':one st x≠.dead:=by intro e;rw[e]at hx;exact hd hx.symm
 obtain⟨h1,h2,_⟩:=bk hr x hd';rcases kY hV hr h1 h2 with ⟨_,_,_,_,h3,_⟩|⟨_,h3⟩
 ·rw[hx]at h3;exact absurd h3 hno
 ·rw[hx]at h3;exact h3
theorem vJ (hV:ax V){W:Wit}{a:Act}{w:World}(hr:ao P V W st a w){x:Operand}{p:Bool}{ks:List (Nat×Nat×Nat)}{ep:Nat}{loc:Option (Nat×Nat×Nat)}{E:TypeId}{e:Ty}{xs:List e.den}
  (hx:aD st (one st x)=.nal p ks ep loc E e xs):aJ P V W st w [] (.nal p ks ep loc E e xs) (a.eval x)/\bj st ks ep=true:=by
 refine⟨iu hV hr hx (by simp) (by simp[an]),?_⟩;generalize one st x=l at hx;cases l with
 |nal p' ks' ep' loc' E' e' xs' =>
  simp only[aD]at hx;cases hv:bj st ks' ep' with
  |false=>simp[hv]at hx
  |true =>
   simp only[hv,cond_true]at hx;cases hx;exact hv
 |al r j n=>exact absurd hx gR
 |_=>simp[aD]at hx
theorem sB (hV:ax V){W:Wit}{a:Act}{w:World}(hr:ao P V W st a w){x:Operand}{p:Bool}{hh:Option (Nat×Nat)}{E:TypeId}{e:Ty}{xs:List e.den}(hx:aD st (one st x)=.own p hh E e xs) :
  ∃ r i n,one st x=.al r i n/\(st r).ls[i]?=some (.own p hh E e xs)/\OwH w (gd V W p) hh E e xs (a.eval x) (W.bs r i)/\(W.cs r)[i]?=some (a.eval x)/\(st r).ver=n:=by
 have hd':one st x≠.dead:=by intro e;rw[e]at hx;cases hx
 obtain⟨h1,h2,_⟩:=bk hr x hd';rcases kY hV hr h1 h2 with ⟨r,i,n,e1,_,_,_⟩|⟨h3,_⟩
 ·rw[e1]at hx h1;obtain⟨h3,h4,h5,h6⟩:=jn hr hx h1;exact⟨r,i,n,e1,h5,h4,h3,h6⟩
 ·rw[hx]at h3;exact absurd trivial h3
theorem goes_frz (hV:ax V){W:Wit}{a:Act}{w:World}(h:ao P V W st a w){d:Nat}(hd:o.dst=some d)(hok:bF V o)(ks:List (Nat×Nat)){v:Value}{sh:aG}{ls:List Leaf}{cs:List Value}
  (hrun:(execOp a.eval o).run P w=.ok (.value v) w) (hs:dI sh v cs) (hl:aC P V (W.frz st ks) (ac (aE st ks) st) w ls cs):lH P V o st (ce st (aE st ks) d sh ls) a w:=by
 intro next Q hn;refine dV hrun ?_;rw[hd];refine hn _ _ ?_;rw[ce,aN];exact (kr hV ks h).1.putLs hV d (hok d hd).1 (hok d hd).2 _ sh ls v cs (Nat.lt_succ_self _) hs hl
theorem cE.shift {w:World}{g o:Nat}{c:List Value}{k s j:Nat}(h:cE w g (o+(k+j)*s) c):cE w g (o+k*s+j*s) c:=by
 rwa [Nat.add_assoc,<- Nat.add_mul]
theorem Rd.cut {w:World}{G:Nat->Prop}{E:TypeId}{e:Ty}{xs:List e.den}{A:Option Addr}{cap:Nat}(h:Rd w G (.list false E e) xs [.slice A xs.length cap])(i n:Nat)(hin:i<=n)(hn:n<=xs.length) :
  Rd w G (.list false E e) ((xs.take n).drop i) [.slice (if cap=i then A else A.map (·.add (i*e.cells))) (n-i) (cap-i)]:=by
 obtain⟨A',cap',he,hc,hx⟩:=h;simp at he;obtain⟨rfl,rfl⟩:=he;have hl:((xs.take n).drop i).length=n-i:=by simp;omega
 refine⟨_,cap-i,by rw[hl],by rw[hl];omega,λhp=>?_⟩;rw[hl]at hp;obtain⟨g,o,rfl,hg,hel⟩:=hx (by omega);refine⟨g,o+i*e.cells,?_,hg,λj x hj=>?_⟩
 ·rw[if_neg (by omega)];simp[er]
 ·rw[List.getElem?_drop,List.getElem?_take]at hj;split at hj
  ·obtain⟨c,hr,hcl⟩:=hel (i+j) x hj;exact⟨c,hr,hcl.shift⟩
  ·cases hj
theorem uj (hV:ax V)(hT:TOk P T)(hok:bF V o){t:TypeId}{x:Operand}{lo hi:Option Operand}(hop:o.op=.slice t x lo hi none)(h:act Γ T o st κ=some r):bP P V o st κ r:=by
 simp only[act,wrU,hop]at h;cases hd:o.dst with
 |none=>simp[hd]at h
 |some d =>
  simp only[hd]at h;split at h
  ·cases h
  ·rename_i i hlo;have h1:=hT t;have opt:∀ (W:Wit) (a:Act) (w:World) (y:Option Operand) (dflt n:Int),ao P V W st a w->cN st y dflt=some n->(y.map a.eval=none/\n=dflt)\/∃ k,y.map a.eval=some (.int k n):=by
    intro W a w y dflt n hr hb;rcases lK hr hb with ⟨rfl,rfl⟩|⟨z,k,rfl,hz⟩
    ·exact .inl ⟨rfl,rfl⟩
    ·exact .inr ⟨k,by simp[hz]⟩
   split at h
   ·rename_i s ht hx;rw[ht]at h1;split at h
    ·rename_i n hhi;cases hb:decide (0<=i)&&decide (i<=n)&&decide (n<=(s.size:Int)) with
     |false=>simp[hb]at h
     |true =>
      simp only[hb,cond_true]at h;simp only[Bool.and_eq_true,decide_eq_true_eq]at hb;refine⟨_,h,λW a w hr=>aO hV hr hd hok (v:=.string (s.extract i.toNat n.toNat)) ?_ rfl id rfl⟩;have hrun:=iU (P:=P) false s.size s.size (Nat.le_refl _) (lo.map a.eval) (hi.map a.eval) i n hb.1.1 hb.1.2 hb.2 (opt W a w lo 0 i hr hlo) (opt W a w hi _ n hr hhi) w;have hx':a.eval x=.string s:=(iu hV hr hx (by simp) (by simp[an]));simp[execOp,hop,hx',Instr.sliceAt,Instr.slice,run_underlying h1.1,hrun]
    ·cases h
   ·rename_i E' e' bytes p ks ep loc E e xs ht hx;rw[ht]at h1;obtain⟨hu,_,_,_,_,ti,z,hti,hsz,_⟩:=h1;split at h
    ·rename_i n hhi;cases hb:decide (0<=i)&&decide (i<=n)&&decide (n<=(xs.length:Int))&&Nat.beq e'.cells e.cells with
     |false=>simp[hb]at h
     |true =>
      simp only[hb,cond_true]at h;simp only[Bool.and_eq_true,decide_eq_true_eq]at hb;obtain⟨hb,hbe⟩:=hb;have hbe:=Nat.eq_of_beq_eq_true hbe;refine⟨_,h,λW a w hr=>?_⟩;obtain⟨hl,hvk⟩:=vJ hV hr hx;have h8:=oE hvk hl;obtain⟨A,cap,hv,hcap,hrest⟩:=h8.rd;have hv:a.eval x=.slice A xs.length cap:=by simpa using hv
      have hrun:=iU (P:=P) true xs.length cap hcap (lo.map a.eval) (hi.map a.eval) i n hb.1.1 hb.1.2 hb.2 (opt W a w lo 0 i hr hlo) (opt W a w hi _ n hr hhi) w;have hE:=cZ (P:=P) (t:=E') (n:=e.cells) (by simp[bH,hti,hsz,hbe]) w;have hcut:=Rd.cut (E:=E) (⟨A,cap,rfl,hcap,hrest⟩:Rd w _ (.list false E e) xs [.slice A xs.length cap]) i.toNat n.toNat (by omega) (by omega);refine aO hV hr hd hok (v:=.slice (if cap=i.toNat then A else A.map (·.add (i.toNat*e.cells))) (n.toNat-i.toNat) (cap-i.toNat)) ?_ ⟨hl.1,hl.2.1,λ_ _ _=>⟨hcut,λi' sz off he=>by cases he⟩⟩ id rfl;simp only[execOp,hop,hv,Instr.sliceAt,Instr.slice,Sem.run_bind,run_underlying hu,Result.andThen_ok,Option.map_none,hrun,hE,Sem.run_pure]
    ·cases h
   ·rename_i E' e' bytes p E e xs ht hx;rw[ht]at h1;obtain⟨hu,_,_,_,_,ti,z,hti,hsz,_⟩:=h1;split at h
    ·rename_i n hhi;cases hb:decide (0<=i)&&decide (i<=n)&&decide (n<=(xs.length:Int))&&Nat.beq e'.cells e.cells with
     |false=>simp[hb]at h
     |true =>
      simp only[hb,cond_true]at h;simp only[Bool.and_eq_true,decide_eq_true_eq]at hb;obtain⟨hb,hbe⟩:=hb;have hbe:=Nat.eq_of_beq_eq_true hbe;refine⟨_,h,λW a w hr=>?_⟩;have hl:=iu hV hr hx (by simp) (by simp[an]);obtain⟨A,cap,hv,hcap,hrest⟩:=hl;have hv:a.eval x=.slice A xs.length cap:=by simpa using hv
      have hrun:=iU (P:=P) true xs.length cap hcap (lo.map a.eval) (hi.map a.eval) i n hb.1.1 hb.1.2 hb.2 (opt W a w lo 0 i hr hlo) (opt W a w hi _ n hr hhi) w;have hE:=cZ (P:=P) (t:=E') (n:=e.cells) (by simp[bH,hti,hsz,hbe]) w;have hcut:=Rd.cut (E:=E) (⟨A,cap,rfl,hcap,hrest⟩:Rd w (gd V W p) (.list false E e) xs [.slice A xs.length cap]) i.toNat n.toNat (by omega) (by omega);refine aO hV hr hd hok (v:=.slice (if cap=i.toNat then A else A.map (·.add (i.toNat*e.cells))) (n.toNat-i.toNat) (cap-i.toNat)) ?_ hcut id rfl;simp only[execOp,hop,hv,Instr.sliceAt,Instr.slice,Sem.run_bind,run_underlying hu,Result.andThen_ok,Option.map_none,hrun,hE,Sem.run_pure]
    ·cases h
   ·rename_i E' e' bytes p E e xs ht hx;rw[ht]at h1;obtain⟨hu,_,_,_,_,ti,z,hti,hsz,_⟩:=h1;split at h
    ·rename_i n hhi;cases hb:decide (0<=i)&&decide (i<=n)&&decide (n<=(xs.length:Int))&&Nat.beq e'.cells e.cells with
     |false=>simp[hb]at h
     |true =>
      simp only[hb,cond_true]at h;simp only[Bool.and_eq_true,decide_eq_true_eq]at hb;obtain⟨hb,hbe⟩:=hb;have hbe:=Nat.eq_of_beq_eq_true hbe;split at h
      ·rename_i r' j n' e1;refine⟨_,h,λW a w hr=>?_⟩;obtain⟨r1,j1,n1,e1',h2,how,_,hver⟩:=sB hV hr hx;rw[e1]at e1';obtain⟨rfl,rfl,rfl⟩:r'=r1/\j=j1/\n'=n1:=by cases e1';exact⟨rfl,rfl,rfl⟩
       obtain⟨A,cap,hv,hcap⟩:=how.slice;have hrun:=iU (P:=P) true xs.length cap hcap (lo.map a.eval) (hi.map a.eval) i n hb.1.1 hb.1.2 hb.2 (opt W a w lo 0 i hr hlo) (opt W a w hi _ n hr hhi) w;have hE:=cZ (P:=P) (t:=E') (n:=e.cells) (by simp[bH,hti,hsz,hbe]) w;have hrd:=OwH.rd (m:=false) (E':=E) how;rw[hv]at hrd;have hcut:=Rd.cut hrd i.toNat n.toNat (by omega) (by omega);refine aO hV hr hd hok (v:=.slice (if cap=i.toNat then A else A.map (·.add (i.toNat*e.cells))) (n.toNat-i.toNat) (cap-i.toNat)) ?_
        ⟨Nat.le_refl _,λk hk=>?_,λ_ _ _=>⟨Rd.mono (λk hk=>?_) hcut,λi' sz off he=>by cases he⟩⟩ id rfl
       ·simp only[execOp,hop,hv,Instr.sliceAt,Instr.slice,Sem.run_bind,run_underlying hu,Result.andThen_ok,Option.map_none,hrun,hE,Sem.run_pure]
       ·simp only[List.mem_singleton]at hk;subst hk;exact Nat.le_of_eq hver.symm
       ·rcases hk with hk|hk
        ·exact .inl hk
        ·exact .inr ⟨_,List.mem_singleton_self _,hk⟩
      ·cases h
    ·cases h
   ·cases h
theorem yn (hV:ax V)(hT:TOk P T)(hok:bF V o){c:Call}(hop:o.op=.call c)(hc:c.callee=.builtin .len)(h:act Γ T o st κ=some r):bP P V o st κ r:=by
 simp only[act,wrU,hop,hc]at h;split at h
 ·cases h
 ·rename_i d hd;simp only[hd]at h;split at h
  ·rename_i x hx;split at h
   ·rename_i t ht;have hargs:c.args=#[x]:=by rw[<- Array.toArray_toList (xs:=c.args),hx]
    have htys:c.argTypes=#[t]:=by rw[<- Array.toArray_toList (xs:=c.argTypes),ht]
    have h1:=hT t;have run:∀ (a:Act) (w:World) (n:Int),(Builtin.len_ #[t] o.type #[a.eval x]).run P w=.ok (.int .i64 n) w->(execOp a.eval o).run P w=.ok (.value (.int .i64 n)) w:=by
     intro a w n hn;simp[execOp,hop,hc,resolve,invoke,builtin,hargs,htys,hn]
    split at h
    ·rename_i E e b hti;rw[hti]at h1;split at h
     ·rename_i n hn;refine⟨_,h,λW a w hr=>aO hV hr hd hok (run a w _ ?_) rfl id rfl⟩;have hd':one st x≠.dead:=by intro e;rw[e]at hn;simp[aD,ff]at hn
      obtain⟨h2,h3,_⟩:=bk hr x hd';obtain⟨A,cap,hv⟩:=vB hr h2 h3 hn;have hv:a.eval x=.slice A n cap:=by simpa using hv
      simp[Builtin.len_,run_underlying h1.1,hv,goInt]
     ·cases h
    ·rename_i s hti hdx;rw[hti]at h1;refine⟨_,h,λW a w hr=>aO hV hr hd hok (run a w _ ?_) rfl id rfl⟩;have hv:a.eval x=.string s:=iu hV hr hdx (by simp) (by simp[an]);simp[Builtin.len_,run_underlying h1.1,hv,goInt]
    ·cases h
   ·cases h
  ·cases h
end
end Go.Proofs.YtmcbmojdeikcdaaGreatEv

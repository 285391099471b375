/- What awake comes to, value by value. -/
import Derived.Test.YtollfibhbdkedaaHb
namespace Go.Proofs.Ytollfibhbdkedaa
open Go.Ev

set_option maxRecDepth 100000

/-- The edges that the table holds. -/
def edges : Row := [[.f (some 4566667683328692240)], [.f (some 4573431913357252632)], [.f (some 4576805197784028180)], [.f (some 4579065828185218076)], [.f (some 4580743639811101202)], [.f (some 4581873955011696150)], [.f (some 4583004270212291098)], [.f (some 4584134585412886046)], [.f (some 4584964660638322961)], [.f (some 4585529818238620435)], [.f (some 4586094975838917909)], [.f (some 4586660133439215383)], [.f (some 4587225291039512857)], [.f (some 4587790448639810331)], [.f (some 4588355606240107805)], [.f (some 4588920763840405279)], [.f (some 4589326970865619089)], [.f (some 4589609549665767826)], [.f (some 4589892128465916563)], [.f (some 4590174707266065300)], [.f (some 4590457286066214037)], [.f (some 4590739864866362774)], [.f (some 4591022443666511511)], [.f (some 4591305022466660248)], [.f (some 4591587601266808985)], [.f (some 4591870180066957722)], [.f (some 4592152758867106459)], [.f (some 4592435337667255196)], [.f (some 4592717916467403933)], [.f (some 4593000495267552670)], [.f (some 4593283074067701407)], [.f (some 4593565652867850144)], [.f (some 4593759925792952400)], [.f (some 4593901215193026769)], [.f (some 4594042504593101137)], [.f (some 4594183793993175506)], [.f (some 4594325083393249874)], [.f (some 4594466372793324243)], [.f (some 4594607662193398611)], [.f (some 4594748951593472980)], [.f (some 4594890240993547348)], [.f (some 4595031530393621717)], [.f (some 4595172819793696085)], [.f (some 4595314109193770454)], [.f (some 4595455398593844822)], [.f (some 4595596687993919191)], [.f (some 4595737977393993559)], [.f (some 4595879266794067928)], [.f (some 4596020556194142296)], [.f (some 4596161845594216665)], [.f (some 4596303134994291033)], [.f (some 4596444424394365402)], [.f (some 4596585713794439770)], [.f (some 4596727003194514139)], [.f (some 4596868292594588507)], [.f (some 4597009581994662876)], [.f (some 4597150871394737244)], [.f (some 4597292160794811613)], [.f (some 4597433450194885981)], [.f (some 4597574739594960350)], [.f (some 4597716028995034718)], [.f (some 4597857318395109087)], [.f (some 4597998607795183455)], [.f (some 4598139897195257824)], [.f (some 4598228203070304304)], [.f (some 4598298847770341488)], [.f (some 4598369492470378673)], [.f (some 4598440137170415857)], [.f (some 4598510781870453041)], [.f (some 4598581426570490225)], [.f (some 4598652071270527410)], [.f (some 4598722715970564594)], [.f (some 4598793360670601778)], [.f (some 4598864005370638962)], [.f (some 4598934650070676147)], [.f (some 4599005294770713331)], [.f (some 4599075939470750515)], [.f (some 4599146584170787699)], [.f (some 4599217228870824884)], [.f (some 4599287873570862068)], [.f (some 4599358518270899252)], [.f (some 4599429162970936436)], [.f (some 4599499807670973621)], [.f (some 4599570452371010805)], [.f (some 4599641097071047989)], [.f (some 4599711741771085173)], [.f (some 4599782386471122358)], [.f (some 4599853031171159542)], [.f (some 4599923675871196726)], [.f (some 4599994320571233910)], [.f (some 4600064965271271095)], [.f (some 4600135609971308279)], [.f (some 4600206254671345463)], [.f (some 4600276899371382647)], [.f (some 4600347544071419832)], [.f (some 4600418188771457016)], [.f (some 4600488833471494200)], [.f (some 4600559478171531384)], [.f (some 4600630122871568569)], [.f (some 4600700767571605753)], [.f (some 4600771412271642937)], [.f (some 4600842056971680121)], [.f (some 4600912701671717306)], [.f (some 4600983346371754490)], [.f (some 4601053991071791674)], [.f (some 4601124635771828858)], [.f (some 4601195280471866043)], [.f (some 4601265925171903227)], [.f (some 4601336569871940411)], [.f (some 4601407214571977595)], [.f (some 4601477859272014780)], [.f (some 4601548503972051964)], [.f (some 4601619148672089148)], [.f (some 4601689793372126332)], [.f (some 4601760438072163517)], [.f (some 4601831082772200701)], [.f (some 4601901727472237885)], [.f (some 4601972372172275069)], [.f (some 4602043016872312254)], [.f (some 4602113661572349438)], [.f (some 4602184306272386622)], [.f (some 4602254950972423806)], [.f (some 4602325595672460991)], [.f (some 4602396240372498175)], [.f (some 4602466885072535359)], [.f (some 4602537529772572543)], [.f (some 4602608174472609728)], [.f (some 4602678819172646912)], [.f (some 4602714141522665504)], [.f (some 4602749463872684096)], [.f (some 4602784786222702688)], [.f (some 4602820108572721281)], [.f (some 4602855430922739873)], [.f (some 4602890753272758465)], [.f (some 4602926075622777057)], [.f (some 4602961397972795649)], [.f (some 4602996720322814241)], [.f (some 4603032042672832833)], [.f (some 4603067365022851425)], [.f (some 4603102687372870018)], [.f (some 4603138009722888610)], [.f (some 4603173332072907202)], [.f (some 4603208654422925794)], [.f (some 4603243976772944386)], [.f (some 4603279299122962978)], [.f (some 4603314621472981570)], [.f (some 4603349943823000162)], [.f (some 4603385266173018755)], [.f (some 4603420588523037347)], [.f (some 4603455910873055939)], [.f (some 4603491233223074531)], [.f (some 4603526555573093123)], [.f (some 4603561877923111715)], [.f (some 4603597200273130307)], [.f (some 4603632522623148899)], [.f (some 4603667844973167492)], [.f (some 4603703167323186084)], [.f (some 4603738489673204676)], [.f (some 4603773812023223268)], [.f (some 4603809134373241860)], [.f (some 4603844456723260452)], [.f (some 4603879779073279044)], [.f (some 4603915101423297636)], [.f (some 4603950423773316229)], [.f (some 4603985746123334821)], [.f (some 4604021068473353413)], [.f (some 4604056390823372005)], [.f (some 4604091713173390597)], [.f (some 4604127035523409189)], [.f (some 4604162357873427781)], [.f (some 4604197680223446373)], [.f (some 4604233002573464966)], [.f (some 4604268324923483558)], [.f (some 4604303647273502150)], [.f (some 4604338969623520742)], [.f (some 4604374291973539334)], [.f (some 4604409614323557926)], [.f (some 4604444936673576518)], [.f (some 4604480259023595110)], [.f (some 4604515581373613703)], [.f (some 4604550903723632295)], [.f (some 4604586226073650887)], [.f (some 4604621548423669479)], [.f (some 4604656870773688071)], [.f (some 4604692193123706663)], [.f (some 4604727515473725255)], [.f (some 4604762837823743847)], [.f (some 4604798160173762440)], [.f (some 4604833482523781032)], [.f (some 4604868804873799624)], [.f (some 4604904127223818216)], [.f (some 4604939449573836808)], [.f (some 4604974771923855400)], [.f (some 4605010094273873992)], [.f (some 4605045416623892584)], [.f (some 4605080738973911177)], [.f (some 4605116061323929769)], [.f (some 4605151383673948361)], [.f (some 4605186706023966953)], [.f (some 4605222028373985545)], [.f (some 4605257350724004137)], [.f (some 4605292673074022729)], [.f (some 4605327995424041321)], [.f (some 4605363317774059914)], [.f (some 4605398640124078506)], [.f (some 4605433962474097098)], [.f (some 4605469284824115690)], [.f (some 4605504607174134282)], [.f (some 4605539929524152874)], [.f (some 4605575251874171466)], [.f (some 4605610574224190058)], [.f (some 4605645896574208651)], [.f (some 4605681218924227243)], [.f (some 4605716541274245835)], [.f (some 4605751863624264427)], [.f (some 4605787185974283019)], [.f (some 4605822508324301611)], [.f (some 4605857830674320203)], [.f (some 4605893153024338795)], [.f (some 4605928475374357388)], [.f (some 4605963797724375980)], [.f (some 4605999120074394572)], [.f (some 4606034442424413164)], [.f (some 4606069764774431756)], [.f (some 4606105087124450348)], [.f (some 4606140409474468940)], [.f (some 4606175731824487532)], [.f (some 4606211054174506125)], [.f (some 4606246376524524717)], [.f (some 4606281698874543309)], [.f (some 4606317021224561901)], [.f (some 4606352343574580493)], [.f (some 4606387665924599085)], [.f (some 4606422988274617677)], [.f (some 4606458310624636269)], [.f (some 4606493632974654862)], [.f (some 4606528955324673454)], [.f (some 4606564277674692046)], [.f (some 4606599600024710638)], [.f (some 4606634922374729230)], [.f (some 4606670244724747822)], [.f (some 4606705567074766414)], [.f (some 4606740889424785006)], [.f (some 4606776211774803599)], [.f (some 4606811534124822191)], [.f (some 4606846856474840783)], [.f (some 4606882178824859375)], [.f (some 4606917501174877967)], [.f (some 4606952823524896559)], [.f (some 4606988145874915151)], [.f (some 4607023468224933743)], [.f (some 4607058790574952336)], [.f (some 4607094112924970928)], [.f (some 4607129435274989520)], [.f (some 4607164757625008112)]]
/-- A row of counts. -/
def hr (a b c : Int) : Row := (List.range 256).map fun i => [.z (if i = 0 then a else if i = 128 then b else if i = 255 then c else 0)]
theorem at0 : E1 R (R.fc 0) 255 edges 0 255 = true ∧ L1 R (R.fc 0) 255 edges 0 255 = [.z 0, .z 0] := runL_sound (n := 3000) (q := ([.z 0, .z 0] : List (PD R))) (by kernel_rfl)
theorem at1 : E1 R (R.fc 4607182418800017408) 255 edges 0 255 = true ∧ L1 R (R.fc 4607182418800017408) 255 edges 0 255 = [.z 255, .z 255] := runL_sound (n := 3000) (q := ([.z 255, .z 255] : List (PD R))) (by kernel_rfl)
theorem at5 : E1 R (R.fc 4602678819172646912) 255 edges 0 255 = true ∧ L1 R (R.fc 4602678819172646912) 255 edges 0 255 = [.z 128, .z 128] := runL_sound (n := 3000) (q := ([.z 128, .z 128] : List (PD R))) (by kernel_rfl)
/-- The row after some of the samples. -/
def row2 : Nat → Row
  | 0 => hr 0 0 0
  | 1 => hr 1 0 0
  | 2 => hr 1 0 1
  | 3 => hr 1 0 2
  | _ => hr 1 1 2
theorem ofL2 : E2 R (R.fc 0) (R.fc 4607182418800017408) (R.fc 4607182418800017408) (R.fc 4602678819172646912) (R.llen (nthL [PV.l edges, .z 255] 0)) (nthL [PV.l edges, .z 255] 0) (R.zc 0) (R.lrep (R.zc 256) [.z (R.zc 0)]) = true ∧ L2 R (R.fc 0) (R.fc 4607182418800017408) (R.fc 4607182418800017408) (R.fc 4602678819172646912) (R.llen (nthL [PV.l edges, .z 255] 0)) (nthL [PV.l edges, .z 255] 0) (R.zc 0) (R.lrep (R.zc 256) [.z (R.zc 0)]) = [.z 4, .l (hr 1 1 2)] := by
  have el : R.llen (nthL (D := R) [PV.l edges, .z 255] 0) = 255 := by kernel_rfl
  rw [el, show nthL (D := R) [PV.l edges, .z 255] 0 = edges from rfl]
  have e1 : R.lrep (R.zc 256) [.z (R.zc 0)] = row2 0 := by kernel_rfl
  rw [e1]
  refine ends_path (step := G2 R (R.fc 0) (R.fc 4607182418800017408) (R.fc 4607182418800017408) (R.fc 4602678819172646912) 255 edges) (p := [.z (R.zc 0), .l (row2 0)]) (fun j => [.z (j : Int), .l (row2 j)]) 4 rfl (fun j hj => ?_) rfl
  have key : ∀ v k (a b : Row), WO2__0 R (R.fc 0) (R.fc 4607182418800017408) (R.fc 4607182418800017408) (R.fc 4602678819172646912) (j : Int) = v → E1 R v 255 edges 0 255 = true ∧ L1 R v 255 edges 0 255 = [.z k, .z k] → row2 j = a → row2 (j + 1) = b → R.band (R.zle (R.zc 0) k) (R.zlt k (R.zc 256)) = true → R.lput a k 0 [.z (R.zadd .i64 (R.lz a k 0) (R.zc 1))] = b →
      R.bite (R.zeq (j : Int) (R.zc 0)) (R.bc true) (R.bite (R.zeq (j : Int) (R.zc 1)) (R.bc true) (R.bite (R.zeq (j : Int) (R.zc 2)) (R.bc true) (R.zeq (j : Int) (R.zc 3)))) = true →
      G2 R (R.fc 0) (R.fc 4607182418800017408) (R.fc 4607182418800017408) (R.fc 4602678819172646912) 255 edges [.z (j : Int), .l (row2 j)] = (true, true, [.z ((j + 1 : Nat) : Int), .l (row2 (j + 1))]) := by
    intro v k a b h1 h2 h3 h4 h5 h6 h7
    show (C2 R (j : Int), O2_ R _ _ _ _ 255 edges (j : Int), [PV.z (N2_0 R (j : Int)), .l (N2_1 R _ _ _ _ 255 edges (j : Int) (row2 j))]) = _
    have b0 : R.zlt (j : Int) (R.zc 4) = true := zltT (show (j : Int) < 4 by omega)
    have h1' : R.fite (R.zeq (j : Int) (R.zc 0)) (R.fc 0) (R.fite (R.zeq (j : Int) (R.zc 1)) (R.fc 4607182418800017408) (R.fite (R.zeq (j : Int) (R.zc 2)) (R.fc 4607182418800017408) (R.fc 4602678819172646912))) = v := h1
    unfold C2 O2_ N2_0 N2_1 WO2__3 WO2__2 WO2__1
    rw [h1, h1', suc (by omega), b0, h3, h4, h7, show R.zc 0 = (0 : Int) from rfl, h2.1, h2.2, show nthZ (D := R) [.z k, .z k] 0 = k from rfl, h6, show R.band (R.zle (0 : Int) k) (R.zlt k (R.zc 256)) = true from h5]
    rfl
  match j, hj with
  | 0, _ => exact key _ 0 (hr 0 0 0) (hr 1 0 0) rfl at0 rfl rfl rfl (by kernel_rfl) rfl
  | 1, _ => exact key _ 255 (hr 1 0 0) (hr 1 0 1) rfl at1 rfl rfl rfl (by kernel_rfl) rfl
  | 2, _ => exact key _ 255 (hr 1 0 1) (hr 1 0 2) rfl at1 rfl rfl rfl (by kernel_rfl) rfl
  | 3, _ => exact key _ 128 (hr 1 0 2) (hr 1 1 2) rfl at5 rfl rfl rfl (by kernel_rfl) rfl

theorem med5 : E5 R (nthL (D := R) [PV.z 4, .l (hr 1 1 2)] 1) (nthZ (D := R) [PV.z 4, .z 256] 0) (R.zc 0) (R.zc 0) = true ∧ L5 R (nthL (D := R) [PV.z 4, .l (hr 1 1 2)] 1) (nthZ (D := R) [PV.z 4, .z 256] 0) (R.zc 0) (R.zc 0) = [.z 0, .z 128] := by
  show E5 R (hr 1 1 2) 4 (R.zc 0) (R.zc 0) = true ∧ L5 R (hr 1 1 2) 4 (R.zc 0) (R.zc 0) = [.z 0, .z 128]
  obtain ⟨t, t1, t2, t3, e, l⟩ := first5 (hr 1 1 2) 4
  have hi : R.zle (R.zmul .i64 (R.zc 1) 4) (R.zmul .i64 (bel (hr 1 1 2) (128 + 1)) (R.zc 2)) = true := by kernel_rfl
  have lo : (List.range 128).all (fun j => !R.zle (R.zmul .i64 (R.zc 1) 4) (R.zmul .i64 (bel (hr 1 1 2) (j + 1)) (R.zc 2))) = true := by kernel_rfl
  have q1 : t ≤ 128 := by
    refine Nat.le_of_not_lt fun g => ?_
    have := t2 128 g
    rw [hi] at this; cases this
  have q2 : 128 ≤ t := by
    refine Nat.le_of_not_lt fun g => ?_
    have := List.all_eq_true.mp lo t (List.mem_range.mpr g)
    rcases t3 with r | ⟨_, r⟩
    · omega
    · rw [r] at this; cases this
  have : t = 128 := Nat.le_antisymm q1 q2
  subst this
  exact ⟨e, l⟩

theorem aw_WS11_0_0 : WS11_0_0 R = ([.l edges, .z 255] : List (PD R)) := by
  unfold WS11_0_0
  exact (runL_sound (n := 3000) (by kernel_rfl)).2
theorem aw_WS11_0_1 : WS11_0_1 R = ([.z 4, .l (hr 1 1 2)] : List (PD R)) := by
  unfold WS11_0_1
  rw [aw_WS11_0_0]
  exact ofL2.2
theorem aw_WS11_0_2 : WS11_0_2 R = ([.z 4, .z 256] : List (PD R)) := by
  unfold WS11_0_2
  rw [aw_WS11_0_1]
  exact (runL_sound (n := 3000) (by kernel_rfl)).2
theorem aw_WS11_0_3 : WS11_0_3 R = ([.z 2, .z 255] : List (PD R)) := by
  unfold WS11_0_3
  rw [aw_WS11_0_1]
  exact (runL_sound (n := 3000) (by kernel_rfl)).2
theorem aw_WS11_0_4 : WS11_0_4 R = ([.z 0, .z 128] : List (PD R)) := by
  unfold WS11_0_4
  rw [aw_WS11_0_1, aw_WS11_0_2]
  exact med5.2
theorem aw_WS11_0_5 : WS11_0_5 R = ([.z 0, .z 0] : List (PD R)) := by
  unfold WS11_0_5
  rw [aw_WS11_0_1]
  exact (runL_sound (n := 3000) (by kernel_rfl)).2
theorem aw_WS11_0_6 : WS11_0_6 R = ([.z 0, .z 0] : List (PD R)) := by
  unfold WS11_0_6
  rw [aw_WS11_0_1]
  exact (runL_sound (n := 3000) (by kernel_rfl)).2
theorem aw_S11_0 : S11_0 R = (true : Bool) := by
  unfold S11_0
  rw [aw_WS11_0_1, aw_WS11_0_2, aw_WS11_0_3, aw_WS11_0_4, aw_WS11_0_5, aw_WS11_0_6]
  kernel_rfl
theorem aw_WO11_0 : WO11_0 R = (true : Bool) := by
  unfold WO11_0
  exact (runL_sound (n := 3000) (q := ([.l edges, .z 255] : List (PD R))) (by kernel_rfl)).1
theorem aw_WO11_1 : WO11_1 R = ([.l edges, .z 255] : List (PD R)) := by
  unfold WO11_1
  exact (runL_sound (n := 3000) (by kernel_rfl)).2
theorem aw_WO11_2 : WO11_2 R = (true : Bool) := by
  unfold WO11_2
  rw [aw_WO11_1]
  exact ofL2.1
theorem aw_WO11_3 : WO11_3 R = ([.z 4, .l (hr 1 1 2)] : List (PD R)) := by
  unfold WO11_3
  rw [aw_WO11_1]
  exact ofL2.2
theorem aw_WO11_4 : WO11_4 R = (true : Bool) := by
  unfold WO11_4
  rw [aw_WO11_3]
  exact (runL_sound (n := 3000) (q := ([.z 4, .z 256] : List (PD R))) (by kernel_rfl)).1
theorem aw_WO11_5 : WO11_5 R = ([.z 4, .z 256] : List (PD R)) := by
  unfold WO11_5
  rw [aw_WO11_3]
  exact (runL_sound (n := 3000) (by kernel_rfl)).2
theorem aw_WO11_6 : WO11_6 R = (true : Bool) := by
  unfold WO11_6
  rw [aw_WO11_3, aw_WO11_5]
  exact med5.1
theorem aw_WO11_7 : WO11_7 R = (true : Bool) := by
  unfold WO11_7
  rw [aw_WO11_3]
  exact (runL_sound (n := 3000) (q := ([.z 0, .z 0] : List (PD R))) (by kernel_rfl)).1
theorem aw_WO11_8 : WO11_8 R = (true : Bool) := by
  unfold WO11_8
  rw [aw_WO11_3]
  exact (runL_sound (n := 3000) (q := ([.z 0, .z 0] : List (PD R))) (by kernel_rfl)).1
theorem aw_WO11_9 : WO11_9 R = (true : Bool) := by
  unfold WO11_9
  rw [aw_WO11_3]
  kernel_rfl
theorem aw_WO11_10 : WO11_10 R = (true : Bool) := by
  unfold WO11_10
  rw [aw_WO11_9, aw_WO11_3]
  kernel_rfl
theorem aw_WO11_11 : WO11_11 R = (true : Bool) := by
  unfold WO11_11
  rw [aw_WO11_10, aw_WO11_3]
  kernel_rfl
theorem aw_WO11_12 : WO11_12 R = (true : Bool) := by
  unfold WO11_12
  rw [aw_WO11_11, aw_WO11_5]
  kernel_rfl
theorem aw_WO11_13 : WO11_13 R = (true : Bool) := by
  unfold WO11_13
  rw [aw_WO11_3]
  exact (runL_sound (n := 3000) (q := ([.z 2, .z 255] : List (PD R))) (by kernel_rfl)).1
theorem aw_WO11_14 : WO11_14 R = ([.z 2, .z 255] : List (PD R)) := by
  unfold WO11_14
  rw [aw_WO11_3]
  exact (runL_sound (n := 3000) (by kernel_rfl)).2
theorem aw_WO11_15 : WO11_15 R = ([.z 0, .z 128] : List (PD R)) := by
  unfold WO11_15
  rw [aw_WO11_3, aw_WO11_5]
  exact med5.2
theorem aw_WO11_16 : WO11_16 R = ([.z 0, .z 0] : List (PD R)) := by
  unfold WO11_16
  rw [aw_WO11_3]
  exact (runL_sound (n := 3000) (by kernel_rfl)).2
theorem aw_WO11_17 : WO11_17 R = ([.z 0, .z 0] : List (PD R)) := by
  unfold WO11_17
  rw [aw_WO11_3]
  exact (runL_sound (n := 3000) (by kernel_rfl)).2
theorem aw_O11 : O11 R = (true : Bool) := by
  unfold O11
  rw [aw_WO11_0, aw_WO11_2, aw_WO11_4, aw_WO11_5, aw_WO11_6, aw_WO11_7, aw_WO11_8, aw_WO11_9, aw_WO11_10, aw_WO11_11, aw_WO11_12, aw_WO11_13, aw_WO11_14, aw_WO11_15, aw_WO11_16, aw_WO11_17]
  kernel_rfl

end Go.Proofs.Ytollfibhbdkedaa

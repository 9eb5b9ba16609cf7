/- Parts of the proof. -/
import Derived.Test.YtihbbcealnnpiaaGreatDoorImEvTab
import Derived.Test.YtihbbcealnnpiaaGreatDoorImNumOver
import Derived.Test.YtihbbcealnnpiaaGreatDoorImLiOver
import Derived.Test.YtihbbcealnnpiaaGreatDoorImByOver
set_option linter.unusedVariables false
namespace Go.Proofs.YtihbbcealnnpiaaGreatDoor
section
section
open Go.RowKit
set_option maxRecDepth 100000
set_option maxHeartbeats 4000000
abbrev RT0:Type:=((Bool × Unit) × (Unit))
abbrev RT1:Type:=((Int × Unit) × (y6 × Unit))
abbrev RT2:Type:=((Int × Unit) × (Unit))
abbrev RT3:Type:=(((List Int) × Unit) × (Unit))
abbrev RT4:Type:=((o0 × Unit) × (Unit))
abbrev RT5:Type:=((s9 × Unit) × (Unit))
abbrev RT6:Type:=((l7 × Unit) × (Unit))
abbrev RT8:Type:=((L5 × Unit) × (Unit))
abbrev Q7:Type:=(((List Int) × Unit) × (y6 × Unit))
abbrev I6:Type:=((Unit) × (y6 × Unit))
abbrev wK:Type:=((Int × Int × Unit) × (y6 × Unit))
abbrev N6:Type:=((Int × Int × Unit) × (Unit))
abbrev N3:Type:=((s9 × l7 × Unit) × (Unit))
abbrev v8:Type:=(((List d7) × l7 × Unit) × (Unit))
abbrev Wj:Type:=(((List d7) × Unit) × (Unit))
abbrev K9:Type:=((s9 × Int × Int × Unit) × (Unit))
abbrev X0:Type:=(((b6H) × Int × Bool × Unit) × (Unit))
abbrev C0:Type:=((Int × o0 × Unit) × (Unit))
abbrev Iz:Type:=(((b6H) × Int × Unit) × (Unit))
abbrev X8:Type:=((Bool × o0 × Unit) × (Unit))
abbrev Ah:Type:=(((List (b6H)) × (List Int) × Unit) × (Unit))
abbrev An:Type:=(((List v7) × Int × Unit) × (Unit))
abbrev Q9:Type:=((Int × d8 × Unit) × (Unit))
abbrev v6:Type:=((d8 × Unit) × (Unit))
abbrev W4:Type:=(((List y8) × d8 × Unit) × (Unit))
abbrev Mg:Type:=(((List s9) × A7 × Unit) × (Unit))
abbrev Mx:Type:=(((List d7) × A7 × Unit) × (Unit))
abbrev L8:Type:=((w8 × A7 × Unit) × (Unit))
abbrev Eu:Type:=((s8 × Unit) × (Unit))
abbrev Vh:Type:=(((List Int) × Int × Unit) × (Unit))
abbrev BZ:Type:=((w8 × Bool × Unit) × (Unit))
abbrev Nu:Type:=(((List v7) × Unit) × (Unit))
abbrev Un:Type:=(((b6H) × Unit) × (Unit))
abbrev Tm:Type:=((s8 × Int × Unit) × (Unit))
abbrev b6v:=Option v6
abbrev b6w:=Option v8
abbrev b6x:=Option C0
abbrev b6y:=Option I6
abbrev b6z:=Option K9
abbrev b6A:=Option L8
abbrev b6B:=Option N6
abbrev b6C:=Option W4
abbrev b6D:=Option X0
abbrev b6E:=Option X8
abbrev b6F:=Option An
abbrev b6G:=Option Eu
inductive Q_C where
 |c0(a:(b6H))(b:Int)
 |c1(a:(b6H))(b:Int)(c:Bool)
 |c2(a:(b6H))(b:Int)(c:Bool)(d:UInt8)
 |c3(a:(b6H))(b:Int)(c:Bool)(d:UInt8)
 |c4(a:Int)
 |c5(a:(b6H))(b:Int)
 |c6(a:(b6H))(b:Int)(c:Int)(d:Int)(e:Int)
 |c7(a:Int)(b:Int)
 |c8(a:Int)
 |c9(a:Int)
 |c10(a:Int)
 |c11
 |c12(a:(b6H))(b:Int)
 |c13(a:(b6H))(b:Int)
 |c14(a:Int)
 |c15(a:(b6H))
 |c16(a:(b6H))(b:Int)
 |c17
 |c18(a:L5)
 |c19(a:Int)
 |c20(a:L5)
 |c21(a:(b6H))
 |c22(a:(b6H))(b:(b6H))(c:Int)
 |c23(a:(b6H))(b:(b6H))
 |c24(a:(b6H))(b:(b6H))
 |c25(a:(b6H))(b:(b6H))
 |c26(a:(b6H))(b:(b6H))(c:Int)(d:Int)
 |c27(a:(b6H))(b:(b6H))
 |c28(a:(b6H))(b:(b6H))(c:(b6H))
 |c29(a:(b6H))(b:(b6H))(c:Int)
 |c30(a:(b6H))(b:Int)
 |c31(a:(b6H))(b:Int)(c:Int)
 |c32(a:(b6H))(b:Int)(c:Int)
 |c33(a:(b6H))(b:Int)(c:Int)(d:RT2)(e:Int)(f:Int)
 |c34(a:(b6H))(b:Int)(c:Int)(d:RT2)(e:Int)(f:Int)
 |c35(a:(b6H))(b:Int)(c:Int)(d:RT2)
 |c36(a:(b6H))(b:Int)(c:Int)(d:RT2)(e:Int)(f:Int)
 |c37(a:Int)
 |c38(a:Int)
 |c39(a:Int)
 |c40
 |c41(a:(b6H))
 |c42(a:(b6H))(b:Int)(c:(List Int))
 |c43(a:(b6H))(b:Int)(c:(List Int))
 |c44(a:(b6H))(b:Int)(c:Int)(d:(List Int))
 |c45(a:(b6H))
 |c46(a:(b6H))(b:Int)(c:(List Int))
 |c47(a:(b6H))(b:Int)(c:(List Int))
 |c48(a:(b6H))(b:Int)
 |c49(a:(b6H))(b:Int)
 |c50(a:(b6H))(b:Int)(c:Int)
 |c51(a:(b6H))(b:Int)
 |c52(a:(b6H))(b:Int)(c:Int)
 |c53
 |c54(a:(b6H))
 |c55(a:(b6H))(b:Int)(c:Int)(d:Int)(e:Int)(f:(List s9))
 |c56(a:(b6H))(b:Int)(c:Int)(d:Int)(e:(List s9))
 |c57(a:l7)
 |c58(a:l7)
 |c59(a:l7)(b:(b6H))
 |c60(a:Int)(b:s9)(c:(b6H))(d:Int)(e:(List d7))
 |c61(a:l7)(b:Int)
 |c62(a:l7)(b:(b6H))
 |c63(a:l7)(b:Int)
 |c64(a:l7)(b:RT5)
 |c65(a:l7)(b:(b6H))
 |c66(a:(b6H))(b:l7)
 |c67(a:l7)(b:(b6H))
 |c68(a:l7)
 |c69(a:Int)(b:l7)(c:RT5)
 |c70(a:l7)(b:RT5)
 |c71(a:l7)(b:Int)
 |c72(a:l7)
 |c73(a:l7)(b:RT5)(c:N3)(d:(List d7))
 |c74(a:l7)(b:RT5)(c:N3)(d:(List d7))
 |c75(a:(List d7))(b:(List d7))
 |c76(a:l7)
 |c77(a:Int)(b:l7)(c:(List d7))
 |c78(a:Int)(b:l7)(c:(List d7))
 |c79(a:l7)(b:(List d7))
 |c80(a:l7)
 |c81(a:l7)(b:RT5)
 |c82(a:l7)(b:RT5)
 |c83(a:l7)
 |c84(a:l7)
 |c85(a:(List d7))(b:l7)
 |c86(a:(List d7))(b:l7)
 |c87(a:(List d7))(b:l7)
 |c88(a:l7)
 |c89(a:l7)(b:RT5)
 |c90(a:Int)
 |c91(a:l7)(b:Int)
 |c92(a:Int)(b:(List d7))(c:Bool)(d:l7)(e:Ah)
 |c93(a:Int)(b:(List d7))(c:Bool)(d:Ah)(e:Int)(f:l7)
 |c94(a:Int)(b:(List d7))(c:Bool)(d:l7)(e:Ah)
 |c95(a:(List d7))(b:l7)
 |c96(a:l7)
 |c97(a:RT5)(b:l7)(c:(List d7))
 |c98(a:(List d7))(b:RT5)(c:l7)
 |c99(a:v8)(b:RT5)
 |c100(a:v8)(b:RT5)
 |c101(a:v8)(b:l7)(c:RT5)
 |c102(a:v8)(b:d7)(c:RT5)
 |c103(a:l7)
 |c104(a:l7)(b:RT5)(c:(List d7))
 |c105(a:l7)(b:RT5)(c:(List d7))
 |c106(a:l7)
 |c107(a:Int)(b:l7)(c:RT5)(d:N3)(e:(List d7))
 |c108(a:Int)(b:l7)(c:RT5)(d:N3)(e:(List d7))
 |c109(a:Int)(b:l7)(c:RT5)(d:N3)(e:(List d7))
 |c110(a:Int)(b:l7)(c:RT5)(d:N3)(e:(List d7))(f:(List d7))
 |c111(a:l7)
 |c112(a:l7)(b:(List d7))
 |c113(a:l7)(b:(List d7))(c:(List d7))
 |c114(a:l7)(b:(List d7))
 |c115(a:(List d7))(b:l7)
 |c116(a:(List d7))(b:l7)
 |c117(a:(b6H))
 |c118(a:(List d7))(b:Int)
 |c119(a:(List d7))(b:Int)(c:Int)(d:(List Int))
 |c120(a:(List Int))
 |c121(a:(List d7))(b:Int)
 |c122(a:(List d7))(b:Int)(c:d7)(d:Int)
 |c123(a:Int)(b:d7)(c:Int)
 |c124(a:(List d7))
 |c125(a:(b6H))(b:Int)
 |c126(a:(b6H))(b:Int)
 |c127(a:(b6H))
 |c128(a:(b6H))
 |c129(a:d7)
 |c130(a:d7)
 |c131(a:d7)
 |c132(a:d7)
 |c133(a:d7)
 |c134(a:d7)
 |c135(a:d7)
 |c136
 |c137(a:(b6H))(b:Int)
 |c138(a:(b6H))(b:Int)(c:Int)
 |c139
 |c140(a:(List d7))(b:Int)
 |c141(a:(List d7))(b:Int)(c:RT3)(d:Int)(e:(List Int))
 |c142(a:(List d7))(b:Int)(c:RT3)(d:(List Int))
 |c143(a:(List d7))(b:Int)(c:(List Int))(d:d7)
 |c144(a:(List d7))
 |c145(a:(List d7))(b:Int)
 |c146
 |c147(a:d8)
 |c148(a:d8)(b:(b6H))
 |c149(a:(b6H))(b:d8)(c:Int)
 |c150
 |c151(a:(List d7))(b:Int)
 |c152(a:(List d7))(b:Int)(c:RT3)(d:Int)(e:(List Int))
 |c153(a:(List Int))
 |c154(a:(List d7))(b:(List Int))(c:(b6H))
 |c155(a:(List d7))(b:(List Int))(c:(b6H))(d:Int)
 |c156
 |c157(a:Int)
 |c158(a:Int)(b:Int)(c:(List v7))
 |c159(a:(List v7))
 |c160(a:d8)(b:Int)(c:l8)
 |c161(a:(List v7))(b:Int)
 |c162(a:(List v7))(b:Int)(c:Int)(d:(List v7))
 |c163(a:(List v7))(b:Int)(c:(List v7))
 |c164(a:(List d7))
 |c165(a:(List v7))(b:(List (b6H)))(c:d7)
 |c166(a:(List v7))(b:(List (b6H)))(c:Int)(d:d7)
 |c167
 |c168(a:(List v7))(b:(List (b6H)))(c:(List d7))
 |c169(a:(List d7))(b:Int)(c:Int)(d:(List v7))
 |c170(a:Int)(b:(List v7))
 |c171(a:d8)(b:Int)(c:l8)
 |c172(a:d8)(b:Int)(c:Int)
 |c173(a:d8)(b:Int)
 |c174(a:d8)(b:Int)(c:Int)
 |c175(a:d8)
 |c176(a:d8)(b:RT3)(c:Int)(d:d8)
 |c177(a:d8)(b:RT3)(c:Int)(d:d8)
 |c178(a:d8)(b:RT3)(c:Int)(d:d8)
 |c179(a:d8)(b:RT3)(c:d8)
 |c180(a:d8)(b:RT3)(c:Int)(d:v6)(e:(List (b6H)))
 |c181(a:d8)(b:RT3)(c:Int)(d:d8)
 |c182(a:d8)(b:RT3)(c:Int)(d:RT3)(e:Int)(f:Int)(h:Int)(j:d8)
 |c183(a:d8)
 |c184(a:d8)(b:RT3)(c:Int)(d:RT3)(e:Int)(f:Int)(h:Int)(j:d8)
 |c185(a:d8)(b:RT3)(c:Int)(d:RT3)(e:Int)(f:Int)(h:Int)(j:d8)
 |c186(a:d8)(b:RT3)(c:Int)(d:RT3)(e:Int)(f:Int)(h:d8)
 |c187(a:d8)(b:RT3)(c:Int)(d:RT3)(e:Int)(f:Int)(h:Int)(j:v6)(k:(List U5))
 |c188(a:d8)(b:RT3)(c:Int)(d:d8)(e:(List Q3))
 |c189(a:(b6H))
 |c190(a:(b6H))(b:Int)
 |c191
 |c192(a:d8)(b:Int)(c:l8)
 |c193(a:d8)(b:Int)(c:Int)
 |c194(a:d8)(b:Int)
 |c195(a:d8)
 |c196(a:d8)(b:RT3)(c:Int)(d:d8)
 |c197(a:d8)(b:RT3)(c:Int)(d:Int)(e:RT3)(f:Int)(h:Int)(j:d8)
 |c198(a:d8)(b:RT3)(c:Int)(d:Int)(e:Int)(f:d8)
 |c199(a:d8)
 |c200(a:d8)(b:RT3)(c:Int)(d:Int)(e:RT3)(f:Int)(h:Int)(j:d8)
 |c201(a:d8)(b:RT3)(c:Int)(d:Int)(e:RT3)(f:Int)(h:Int)(j:d8)
 |c202(a:d8)(b:RT3)(c:Int)(d:Int)(e:RT3)(f:Int)(h:d8)
 |c203(a:d8)(b:RT3)(c:Int)(d:Int)(e:Int)(f:d8)
 |c204(a:d8)(b:RT3)(c:Int)(d:Int)(e:RT3)(f:Int)(h:Int)(j:v6)
 |c205(a:d8)(b:RT3)(c:Int)(d:v6)(e:(List x8))
 |c206(a:d8)(b:RT3)(c:Int)(d:Int)(e:d8)
 |c207(a:d8)(b:Int)(c:(List y8))(d:(b6H))(e:Int)(f:Int)(h:Int)
 |c208(a:d8)(b:Int)(c:Int)
 |c209(a:d8)(b:Int)(c:l8)
 |c210(a:d8)(b:Int)
 |c211(a:d8)(b:Int)(c:(List y8))(d:Int)
 |c212(a:Int)(b:(List y8))(c:Int)(d:Int)(e:d8)
 |c213(a:Int)(b:(List y8))(c:Int)(d:Int)(e:Int)(f:Int)(h:d8)(j:d7)
 |c214(a:Int)(b:(List y8))(c:Int)(d:Int)(e:Int)(f:d8)
 |c215(a:d8)
 |c216(a:Int)(b:(List y8))(c:Int)(d:Int)(e:Int)(f:d8)
 |c217(a:Int)(b:(List y8))(c:Int)(d:Int)(e:d8)
 |c218(a:d8)(b:Int)(c:(List y8))(d:Int)(e:Int)
 |c219(a:Int)(b:(List y8))(c:RT3)(d:Int)(e:d8)
 |c220(a:Int)(b:(List y8))(c:Int)(d:Int)(e:d8)(f:Q9)(h:Int)(j:d8)(k:d7)
 |c221(a:Int)(b:(List y8))(c:Int)(d:Int)(e:d8)(f:Q9)(h:d8)(j:d7)
 |c222(a:(List y8))(b:d8)
 |c223(a:Int)(b:(List y8))(c:Int)(d:Int)(e:d8)(f:Q9)(h:d8)(j:d7)
 |c224(a:Int)(b:(List y8))(c:Int)(d:Int)(e:d8)(f:Q9)(h:d8)(j:d7)
 |c225(a:d8)(b:Int)(c:(List y8))(d:Int)
 |c226(a:Int)(b:(List y8))(c:Int)(d:RT3)(e:Int)(f:d8)
 |c227(a:(List y8))(b:Int)(c:d8)
 |c228(a:(List y8))(b:Int)(c:Int)(d:d8)(e:(List M8))
 |c229(a:d8)(b:(List M8))
 |c230(a:d8)(b:Int)
 |c231(a:Int)(b:RT3)(c:Int)(d:d8)(e:(List y8))
 |c232(a:Int)(b:RT3)(c:d8)(d:(List y8))
 |c233(a:(List d7))
 |c234(a:Int)(b:Int)(c:d8)
 |c235(a:d8)
 |c236(a:RT2)(b:d8)
 |c237(a:d8)
 |c238(a:d8)
 |c239(a:o0)(b:Int)(c:Int)
 |c240(a:o0)(b:Bool)(c:Int)
 |c241(a:(List v7))(b:Int)(c:Int)
 |c242(a:o0)(b:Int)(c:Int)
 |c243(a:Int)
 |c244(a:o0)(b:Int)
 |c245(a:o0)(b:Int)(c:Int)
 |c246(a:o0)(b:Int)
 |c247(a:Int)(b:RT3)(c:Int)(d:o0)(e:(List Int))
 |c248(a:Int)(b:o0)(c:RT3)(d:(List Int))
 |c249(a:Iz)(b:RT3)(c:Int)(d:o0)(e:(List Int))
 |c250(a:RT3)(b:Int)(c:o0)(d:x8)(e:(List Int))
 |c251(a:Iz)(b:o0)
 |c252(a:o0)(b:x8)
 |c253(a:o0)(b:Int)(c:Int)
 |c254(a:Int)(b:C0)
 |c255(a:Int)(b:Int)(c:C0)(d:Q3)
 |c256(a:Int)(b:C0)
 |c257(a:o0)(b:Int)(c:Int)(d:Int)
 |c258(a:Int)(b:Int)
 |c259(a:Int)(b:Int)(c:RT2)(d:RT2)(e:o0)
 |c260(a:Int)
 |c261(a:Int)(b:Int)
 |c262
 |c263(a:o0)(b:Int)(c:Int)
 |c264(a:o0)(b:Int)
 |c265(a:Int)(b:Int)(c:o0)
 |c266(a:Int)(b:Int)(c:C0)(d:RT3)
 |c267(a:Int)(b:Int)(c:C0)(d:C0)(e:RT3)
 |c268(a:Int)(b:l8)(c:o0)(d:d7)(e:RT3)
 |c269(a:o0)(b:Int)
 |c270(a:C0)(b:C0)(c:o0)(d:RT3)
 |c271(a:Bool)(b:Int)(c:o0)(d:RT3)
 |c272(a:o0)(b:RT3)
 |c273(a:Bool)(b:o0)
 |c274(a:o0)(b:Int)
 |c275(a:Bool)(b:RT3)(c:Int)(d:o0)
 |c276(a:Bool)(b:o0)
 |c277(a:(List d7))
 |c278(a:(List d7))(b:L8)(c:Int)(d:o0)
 |c279(a:L8)(b:o0)
 |c280(a:(b6H))
 |l16_source(a:(b6H))
 |c282(a:y6)(b:Int)
 |c283(a:Int)(b:y6)(c:Int)(d:(List Int))
 |c284(a:y6)(b:(List Int))
 |c285(a:y6)(b:Int)(c:Int)(d:Int)
 |c286(a:y6)
 |c287(a:y6)(b:Int)
 |c288(a:y6)(b:(b6H))
 |c289(a:(b6H))(b:Int)(c:Bool)(d:y6)
 |c290(a:y6)(b:d7)(c:l8)
 |c291(a:y6)(b:Int)
 |c292(a:Int)(b:(List Int))(c:Int)(d:Int)(e:d7)(f:l8)(h:y6)
 |c293(a:Int)(b:Int)(c:I6)(d:Q7)
 |c294(a:Int)(b:d7)(c:Q7)
 |c295(a:Int)(b:(List Int))(c:d7)(d:l8)(e:Q7)
 |c296(a:Int)(b:d7)(c:l8)(d:y6)
 |c297(a:y6)(b:Int)(c:(List Int))
 |c298(a:Int)(b:(List Int))(c:Q7)(d:Int)(e:y6)
 |c299(a:Int)(b:(List Int))(c:y6)
 |c300(a:y6)(b:Int)
 |c301(a:Int)(b:y6)
 |c302(a:y6)(b:Int)
 |c303(a:Q7)(b:Int)(c:y6)
 |c304(a:w8)
 |c305(a:w8)(b:Int)(c:y6)
 |c306(a:w8)(b:Int)(c:RT1)(d:RT2)(e:x8)(f:Int)
 |c307(a:y6)
 |c308(a:w8)(b:Int)(c:RT1)(d:(List D7))
 |c309(a:s8)(b:Int)
 |l16_awake
 |c311(a:s8)(b:s8)
 |c312(a:s8)(b:Int)(c:s8)
 |c313(a:s8)(b:s8)
 |c314(a:s8)(b:Int)(c:s8)
 |c315(a:s8)(b:s8)
 |c316(a:s8)(b:Int)(c:s8)
 |c317
 |c318(a:s8)
 |c319(a:(List Int))
 |l16_GenBytes(a:(b6H))
def Q_T:Q_C->Type
 |.c0 .. |.c1 .. |.c2 .. |.c3 .. |.c4 .. |.c8 .. |.c9 .. |.c10 .. |.c11 .. |.c12 .. |.c13 .. |.c14 .. |.c20 .. |.c37 .. |.c38 .. |.c39 .. |.c40 .. |.c121 .. |.c122 .. |.c123 .. |.c132 .. |.c133 .. |.c134 .. |.c135 .. |.c136 .. |.c148 .. |.c149 .. |.c150 .. |.c165 .. |.c166 .. |.c167 .. |.c189 .. |.c190 .. |.c191 .. |.c244 .. |.c257 .. |.c258 .. |.c259 .. |.c260 .. |.c261 .. |.c262 .. |.c286 .. =>RT2
 |.c5 .. |.c6 .. |.c7 .. |.c21 .. |.c22 .. |.c23 .. |.c24 .. |.c25 .. |.c26 .. |.c27 .. |.c28 .. |.c29 .. =>N6
 |.c15 .. |.c16 .. |.c17 .. |.c57 .. |.c59 .. |.c124 .. |.c125 .. |.c126 .. |.c127 .. |.c128 .. |.c129 .. |.c130 .. |.c131 .. |.c137 .. |.c138 .. |.c139 .. |.c140 .. |.c141 .. |.c142 .. |.c143 .. |.c144 .. |.c145 .. |.c146 .. |.c147 .. |.c154 .. |.c155 .. |.c156 .. |.c164 .. |.c241 .. |.c242 .. |.c245 .. |.l16_awake .. |.c311 .. |.c312 .. |.c313 .. |.c314 .. |.c315 .. |.c316 .. |.c317 .. |.l16_GenBytes .. =>RT0
 |.c18 .. |.c19 .. =>RT8
 |.c30 .. |.c31 .. |.c32 .. |.c33 .. |.c34 .. |.c35 .. |.c36 .. |.c48 .. |.c49 .. |.c50 .. |.c51 .. |.c52 .. |.c53 .. =>K9
 |.c41 .. |.c42 .. |.c43 .. |.c44 .. |.c45 .. |.c46 .. |.c47 .. =>X0
 |.c54 .. |.c55 .. |.c56 .. =>Mg
 |.c58 .. =>RT5
 |.c60 .. |.c75 .. =>Wj
 |.c61 .. |.c62 .. |.c65 .. |.c66 .. |.c67 .. =>RT6
 |.c63 .. |.c64 .. =>N3
 |.c68 .. |.c69 .. |.c70 .. |.c71 .. |.c72 .. |.c73 .. |.c74 .. |.c76 .. |.c77 .. |.c78 .. |.c79 .. |.c80 .. |.c81 .. |.c82 .. |.c83 .. |.c84 .. |.c85 .. |.c86 .. |.c87 .. |.c88 .. |.c89 .. |.c91 .. |.c92 .. |.c93 .. |.c94 .. |.c95 .. |.c96 .. |.c97 .. |.c98 .. |.c99 .. |.c100 .. |.c101 .. |.c102 .. |.c103 .. |.c104 .. |.c105 .. |.c106 .. |.c107 .. |.c108 .. |.c109 .. |.c110 .. |.c111 .. |.c112 .. |.c113 .. |.c114 .. =>v8
 |.c90 .. =>Ah
 |.c115 .. |.c116 .. |.c117 .. =>Mx
 |.c118 .. |.c119 .. |.c120 .. |.c151 .. |.c152 .. |.c153 .. =>RT3
 |.c157 .. |.c158 .. |.c159 .. =>Nu
 |.c160 .. |.c171 .. |.c172 .. |.c174 .. |.c175 .. |.c176 .. |.c177 .. |.c178 .. |.c179 .. |.c180 .. |.c181 .. |.c182 .. |.c183 .. |.c184 .. |.c185 .. |.c186 .. |.c187 .. |.c188 .. |.c192 .. |.c193 .. |.c195 .. |.c196 .. |.c197 .. |.c198 .. |.c199 .. |.c200 .. |.c201 .. |.c202 .. |.c203 .. |.c204 .. |.c205 .. |.c206 .. |.c208 .. |.c209 .. |.c211 .. |.c212 .. |.c213 .. |.c214 .. |.c215 .. |.c216 .. |.c217 .. |.c225 .. |.c226 .. |.c227 .. |.c228 .. |.c229 .. |.c230 .. |.c231 .. |.c232 .. =>v6
 |.c161 .. |.c162 .. |.c163 .. |.c168 .. |.c169 .. |.c170 .. =>An
 |.c173 .. |.c194 .. |.c210 .. =>Q9
 |.c207 .. |.c218 .. |.c219 .. |.c220 .. |.c221 .. |.c222 .. |.c223 .. |.c224 .. =>W4
 |.c233 .. |.c234 .. |.c235 .. |.c236 .. |.c237 .. |.c238 .. |.c277 .. |.c278 .. |.c279 .. |.c280 .. =>L8
 |.c239 .. |.c240 .. |.c263 .. =>RT4
 |.c243 .. =>Iz
 |.c246 .. |.c247 .. |.c248 .. |.c249 .. |.c250 .. |.c251 .. |.c252 .. |.c253 .. |.c254 .. |.c255 .. |.c256 .. |.c264 .. |.c265 .. |.c266 .. |.c267 .. |.c268 .. =>C0
 |.c269 .. |.c270 .. |.c271 .. |.c272 .. |.c273 .. |.c274 .. |.c275 .. |.c276 .. =>X8
 |.l16_source .. =>BZ
 |.c282 .. |.c283 .. |.c284 .. =>Q7
 |.c285 .. |.c288 .. |.c289 .. =>RT1
 |.c287 .. |.c291 .. |.c292 .. |.c293 .. |.c294 .. |.c295 .. |.c296 .. |.c297 .. |.c298 .. |.c299 .. |.c300 .. |.c301 .. |.c302 .. |.c303 .. =>I6
 |.c290 .. =>wK
 |.c304 .. |.c305 .. |.c306 .. |.c307 .. |.c308 .. =>Eu
 |.c309 .. =>Un
 |.c318 .. =>Vh
 |.c319 .. =>Tm
noncomputable def b4x:Ib tab Q4 Tryz.prog:=Qj 18 (α:=((L5 × Unit) × Unit)) (β:=RT8) (λx=>(Uu x.1.1).bind λr=>some ((r,()),())) (ok:=λx r h=>by
 obtain⟨d,hd,h⟩:=Oy h;cases h;exact Eq.mp (by kernel_rfl) (Pf (a6b hd) (by kernel_rfl)))
noncomputable def a5c:Ib tab Q4 Tryz.prog:=Qj 19 (α:=((Int × Unit) × Unit)) (β:=RT8) (λx=>(qH x.1.1).bind λr=>some ((r,()),())) (ok:=λx r h=>by
 obtain⟨d,hd,h⟩:=Oy h;cases h;exact Eq.mp (by kernel_rfl) (Pf (b4d hd) (by kernel_rfl)))
noncomputable def b4H:Ib tab Q4 Tryz.prog:=Qj 20 (α:=((L5 × Unit) × Unit)) (β:=RT2) (λx=>(Vl x.1.1).bind λr=>some ((r,()),())) (ok:=λx r h=>by
 obtain⟨d,hd,h⟩:=Oy h;cases h;exact Eq.mp (by kernel_rfl) (Pf (b0B hd) (by kernel_rfl)))
noncomputable def b17:Ib tab Q4 Tryz.prog:=Qj 309 (α:=((s8 × Int × Unit) × Unit)) (β:=Un) (λx=>(gD x.1.1 x.1.2.1).bind λr=>some ((r,()),())) (ok:=λx r h=>by
 obtain⟨d,hd,h⟩:=Oy h;cases h;exact Eq.mp (by kernel_rfl) (Pf (b2R hd) (by kernel_rfl)))
noncomputable def b5q:Ib tab Q4 Tryz.prog:=Qj 318 (α:=((s8 × Unit) × Unit)) (β:=Vh) (λx=>(Uc x.1.1).bind λr=>some ((r.1,r.2,()),())) (ok:=λx r h=>by
 obtain⟨d,hd,h⟩:=Oy h;cases h;exact Eq.mp (by kernel_rfl) (Pf (a3B hd) (by kernel_rfl)))
noncomputable def a6r:Ib tab Q4 Tryz.prog:=Qj 319 (α:=(((List Int) × Unit) × Unit)) (β:=Tm) (λx=>(Pc x.1.1).bind λr=>some ((r.1,r.2,()),())) (ok:=λx r h=>by
 obtain⟨d,hd,h⟩:=Oy h;cases h;exact Eq.mp (by kernel_rfl) (Pf (b4D hd) (by kernel_rfl)))
noncomputable def AE:(i:Ix tab Q4)->Option (Bx tab Q4 i):=vK (P:=Tryz.prog) [b4x,a5c,b4H,b17,b5q,a6r]
theorem b22(l:Nat)(x:Vars tab (Q4.lb l).sh)(r:Res tab (Q4.rh (Q4.lb l).v))(_:Q4.hd l=true)(h:AE ⟨l,x⟩=some r):Hp Tryz.prog Q4 l x r:=XN _ l x r h
noncomputable def Q_B:=EVB (B:=tab) Tryz.prog Q4 AE (Fp Tryz.prog Q4 oW (Cj XL) (Cj XE) (Cj RW)) 1000
theorem Q_q(i:Ix tab Q4):J0 Q_B i=Q_B (J0 Q_B) i:=JK (λi=>PB _ _ _ _ _ _ _ i) i
abbrev Qy0:=((),(),(),(),(),(),(),(),(),(),(),(),(0:Int),(0:Int),(0:Int),(0:Int),())
abbrev Qy1:=((),(),(),(),(),(),(),(),(),(),(0:Int),(0:Int),(0:Int),())
abbrev Qy2:=((),(0:Int),(0:Int),(0:Int),(0:Int),(0:Int),())
abbrev Qy3:=((),(),(),(),(),(),(),(),(),())
abbrev Qy5:=((),(),(),())
abbrev Qy7:=((),())
abbrev Qyw(a:d8):=(a.P.No,a.P.Ms,a.P.To,a.P.Rs,a.P.Hs,a.P.As,a.P.Ss,a.P.Vars,a.P.Do,a.Rs,a.F.Code,a.F.Ls,a.F.Id,())
noncomputable def a0L:Q_C->Ix tab Q4
 |.c0 a b=>mkI 0 ((a,b,()),())
 |.c1 a b c=>mkI 1 ((a,b,c,()),())
 |.c2 a b c d=>mkI 2 ((a,b,c,(d.toNat:Int),()),())
 |.c3 a b c d=>mkI 3 ((a,b,c,(d.toNat:Int),()),())
 |.c4 a=>mkI 4 ((a,()),())
 |.c5 a b=>mkI 5 ((a,b,()),())
 |.c6 a b c d e=>mkI 6 ((a,b,c,d,e,()),())
 |.c7 a b=>mkI 7 ((a,b,()),())
 |.c8 a=>mkI 8 ((a,()),())
 |.c9 a=>mkI 9 ((a,()),())
 |.c10 a=>mkI 10 ((a,()),())
 |.c11=>mkI 11 Qy7
 |.c12 a b=>mkI 12 ((a,b,()),())
 |.c13 a b=>mkI 13 ((a,b,()),())
 |.c14 a=>mkI 14 ((a,()),())
 |.c15 a=>mkI 15 ((a,()),())
 |.c16 a b=>mkI 16 ((a,([([114,101,99]:b6H),([102,110]:b6H),([118,97,114]:b6H),([105,102]:b6H),([101,108,115,101]:b6H),([119,104,105,108,101]:b6H),([114,101,116,117,114,110]:b6H),([112,114,105,110,116]:b6H),([116,114,117,101]:b6H),([102,97,108,115,101]:b6H),([110,105,108]:b6H),([109,97,107,101]:b6H),([105,110,116]:b6H),([98,111,111,108]:b6H),([115,116,114]:b6H),([99,111,109,112]:b6H)]:List (b6H)),(([([114,101,99]:b6H),([102,110]:b6H),([118,97,114]:b6H),([105,102]:b6H),([101,108,115,101]:b6H),([119,104,105,108,101]:b6H),([114,101,116,117,114,110]:b6H),([112,114,105,110,116]:b6H),([116,114,117,101]:b6H),([102,97,108,115,101]:b6H),([110,105,108]:b6H),([109,97,107,101]:b6H),([105,110,116]:b6H),([98,111,111,108]:b6H),([115,116,114]:b6H),([99,111,109,112]:b6H)]:List (b6H)).length:Int),b,()),())
 |.c17=>mkI 17 Qy7
 |.c18 a=>mkI 18 ((a,()),())
 |.c19 a=>mkI 19 ((a,()),())
 |.c20 a=>mkI 20 ((a,()),())
 |.c21 a=>mkI 21 ((a,()),())
 |.c22 a b c=>mkI 22 ((a,b,c,()),())
 |.c23 a b=>mkI 23 ((a,b,()),())
 |.c24 a b=>mkI 24 ((a,b,()),())
 |.c25 a b=>mkI 25 ((a,b,()),())
 |.c26 a b c d=>mkI 26 ((a,b,c,d,()),())
 |.c27 a b=>mkI 27 ((a,b,()),())
 |.c28 a b c=>mkI 28 ((a,b,c,()),())
 |.c29 a b c=>mkI 29 ((a,b,c,()),())
 |.c30 a b=>mkI 30 ((a,b,()),())
 |.c31 a b c=>mkI 31 ((a,b,(),c,()),((s9.mk 0 0 0 0 ([]:b6H)),()))
 |.c32 a b c=>mkI 32 ((a,b,(),c,()),((s9.mk 0 0 0 0 ([]:b6H)),()))
 |.c33 a b c d e f=>mkI 33 ((a,b,(),c,d.1.1,(),e,()),((s9.mk 0 0 0 0 ([]:b6H)),(s9.mk f 0 0 0 ([]:b6H)),()))
 |.c34 a b c d e f=>mkI 34 ((a,b,(),c,d.1.1,(),e,()),((s9.mk 0 0 0 0 ([]:b6H)),(s9.mk f 0 0 0 ([]:b6H)),()))
 |.c35 a b c d=>mkI 35 ((a,b,(),c,d.1.1,(),(9223372036854775807:Int),()),((s9.mk 0 0 0 0 ([]:b6H)),(s9.mk 3 0 0 0 ([]:b6H)),()))
 |.c36 a b c d e f=>mkI 36 ((a,b,(),c,d.1.1,(),e,()),((s9.mk 0 0 0 0 ([]:b6H)),(s9.mk f 0 0 0 ([]:b6H)),()))
 |.c37 a=>mkI 37 ((a,()),())
 |.c38 a=>mkI 38 ((a,()),())
 |.c39 a=>mkI 39 ((a,()),())
 |.c40=>mkI 40 Qy7
 |.c41 a=>mkI 41 ((a,()),())
 |.c42 a b c=>mkI 42 ((a,c,b,()),())
 |.c43 a b c=>mkI 43 ((a,c,(w64 (b+1)),()),())
 |.c44 a b c d=>mkI 44 ((a,d,(w64 (b+1)),c,()),())
 |.c45 a=>mkI 45 ((a,()),())
 |.c46 a b c=>mkI 46 ((a,c,b,()),())
 |.c47 a b c=>mkI 47 ((a,c,(w64 (b+1)),()),())
 |.c48 a b=>mkI 48 ((a,b,()),())
 |.c49 a b=>mkI 49 ((a,b,(),()),((s9.mk 0 0 0 0 ([]:b6H)),()))
 |.c50 a b c=>mkI 50 ((a,b,(),([([38,38]:b6H),([124,124]:b6H),([61,61]:b6H),([33,61]:b6H),([60,61]:b6H),([62,61]:b6H)]:List (b6H)),(([([38,38]:b6H),([124,124]:b6H),([61,61]:b6H),([33,61]:b6H),([60,61]:b6H),([62,61]:b6H)]:List (b6H)).length:Int),c,()),((s9.mk 0 0 0 0 ([]:b6H)),()))
 |.c51 a b=>mkI 51 ((a,b,(),()),((s9.mk 0 0 0 0 ([]:b6H)),()))
 |.c52 a b c=>mkI 52 ((a,b,(),([43,45,42,47,37,60,62,33,61,40,41,123,125,91,93,44,59,58,46]:b6H),c,()),((s9.mk 0 0 0 0 ([]:b6H)),()))
 |.c53=>mkI 53 (Qy7,((s9.mk 0 0 0 0 ([]:b6H)),()))
 |.c54 a=>mkI 54 ((a,()),())
 |.c55 a b c d e f=>mkI 55 ((a,(),([]:List s9),f,b,c,d,e,()),((A7.mk 0 0 0),()))
 |.c56 a b c d e=>mkI 56 ((a,(),([]:List s9),e,b,c,d,()),((A7.mk 0 0 0),()))
 |.c57 a=>mkI 57 ((a,()),())
 |.c58 a=>mkI 58 ((a,()),())
 |.c59 a b=>mkI 59 ((a,b,()),())
 |.c60 a b c d e=>mkI 60 ((a,b,c,d,e,()),())
 |.c61 a b=>mkI 61 ((a,b,()),())
 |.c62 a b=>mkI 62 ((a,b,()),())
 |.c63 a b=>mkI 63 ((a,b,()),())
 |.c64 a b=>mkI 64 (((),(),(),(),()),(a,(s9.mk 0 0 0 0 ([]:b6H)),Qy2,b.1.1,()))
 |.c65 a b=>mkI 65 ((a,b,()),())
 |.c66 a b=>mkI 66 ((a,(),(),()),(b,Qy2,()))
 |.c67 a b=>mkI 67 ((a,b,()),())
 |.c68 a=>mkI 68 ((a,()),())
 |.c69 a b c=>mkI 69 (((),(),(),([([105,110,116]:b6H),([98,111,111,108]:b6H),([115,116,114]:b6H),([99,111,109,112]:b6H)]:List (b6H)),(([([105,110,116]:b6H),([98,111,111,108]:b6H),([115,116,114]:b6H),([99,111,109,112]:b6H)]:List (b6H)).length:Int),a,()),(b,Qy2,c.1.1,()))
 |.c70 a b=>mkI 70 (Qy5,(a,Qy2,b.1.1,()))
 |.c71 a b=>mkI 71 ((a,b,()),())
 |.c72 a=>mkI 72 ((a,()),())
 |.c73 a b c d=>mkI 73 (((),(),(),(),d,()),(a,Qy2,b.1.1,c.1.1,()))
 |.c74 a b c d=>mkI 74 (((),(),(),(),d,()),(a,Qy2,b.1.1,c.1.1,()))
 |.c75 a b=>mkI 75 ((a,b,()),())
 |.c76 a=>mkI 76 ((a,()),())
 |.c77 a b c=>mkI 77 (((),(),c,a,()),(b,Qy2,()))
 |.c78 a b c=>mkI 78 (((),(),c,a,()),(b,Qy2,()))
 |.c79 a b=>mkI 79 (((),(),b,()),(a,Qy2,()))
 |.c80 a=>mkI 80 ((a,()),())
 |.c81 a b=>mkI 81 (((),(),(),([]:List d7),(),()),(a,Qy2,b.1.1,(l7.mk a.L (if(w64 ((a.L.length:Int)-1))<(w64 (a.I+1))then(w64 ((a.L.length:Int)-1))else(w64 (a.I+1))) a.Is a.F),()))
 |.c82 a b=>mkI 82 (((),(),(),([]:List d7),(),()),(a,Qy2,b.1.1,(l7.mk a.L (if(w64 ((a.L.length:Int)-1))<(w64 (a.I+1))then(w64 ((a.L.length:Int)-1))else(w64 (a.I+1))) a.Is a.F),()))
 |.c83 a=>mkI 83 (((),(),()),(a,Qy2,()))
 |.c84 a=>mkI 84 ((a,()),())
 |.c85 a b=>mkI 85 (((),(),a,()),(b,Qy2,()))
 |.c86 a b=>mkI 86 (((),(),a,()),(b,Qy2,()))
 |.c87 a b=>mkI 87 (((),(),a,()),(b,Qy2,()))
 |.c88 a=>mkI 88 ((a,()),())
 |.c89 a b=>mkI 89 (Qy5,(a,Qy2,b.1.1,()))
 |.c90 a=>mkI 90 ((a,()),())
 |.c91 a b=>mkI 91 ((a,b,()),())
 |.c92 a b c d e=>mkI 92 ((a,(),(),b,e.1.1,e.1.2.1,c,()),(d,Qy2,()))
 |.c93 a b c d e f=>mkI 93 ((a,(),(),b,d.1.1,d.1.2.1,c,(d.1.1.length:Int),e,()),(f,Qy2,()))
 |.c94 a b c d e=>mkI 94 ((a,(),(),b,e.1.1,e.1.2.1,c,()),(d,Qy2,()))
 |.c95 a b=>mkI 95 (((),(),a,()),(b,Qy2,()))
 |.c96 a=>mkI 96 ((a,()),())
 |.c97 a b c=>mkI 97 (((),(),(),c,()),(Qy2,a.1.1,b,()))
 |.c98 a b c=>mkI 98 (((),(),(),a,()),(Qy2,b.1.1,c,()))
 |.c99 a b=>mkI 99 (((),(),(),a.1.1,()),(a.1.2.1,Qy2,b.1.1,()))
 |.c100 a b=>mkI 100 (((),(),(),a.1.1,()),(a.1.2.1,Qy2,b.1.1,()))
 |.c101 a b c=>mkI 101 (((),(),(),a.1.1,()),(b,Qy2,c.1.1,()))
 |.c102 a b c=>mkI 102 (((),(),(),a.1.1,b.Ks,()),(a.1.2.1,Qy2,c.1.1,()))
 |.c103 a=>mkI 103 ((a,()),())
 |.c104 a b c=>mkI 104 (((),(),(),c,()),(a,Qy2,b.1.1,()))
 |.c105 a b c=>mkI 105 (((),(),(),c,()),(a,Qy2,b.1.1,()))
 |.c106 a=>mkI 106 ((a,()),())
 |.c107 a b c d e=>mkI 107 (((),(),(),(),e,a,()),(b,Qy2,c.1.1,d.1.1,()))
 |.c108 a b c d e=>mkI 108 (((),(),(),(),e,a,()),(b,Qy2,c.1.1,d.1.1,()))
 |.c109 a b c d e=>mkI 109 (((),(),(),(),e,a,()),(b,Qy2,c.1.1,d.1.1,()))
 |.c110 a b c d e f=>mkI 110 (((),(),(),(),e,a,f,()),(b,Qy2,c.1.1,d.1.1,()))
 |.c111 a=>mkI 111 ((a,()),())
 |.c112 a b=>mkI 112 (((),(),b,()),(a,Qy2,()))
 |.c113 a b c=>mkI 113 (((),(),b,c,()),(a,Qy2,()))
 |.c114 a b=>mkI 114 (((),(),b,()),(a,Qy2,()))
 |.c115 a b=>mkI 115 ((a,b,()),())
 |.c116 a b=>mkI 116 ((a,(),(),()),(b,(A7.mk 0 0 0),()))
 |.c117 a=>mkI 117 ((a,()),())
 |.c118 a b=>mkI 118 ((a,b,()),())
 |.c119 a b c d=>mkI 119 ((a,b,d,c,()),())
 |.c120 a=>mkI 120 ((a,()),())
 |.c121 a b=>mkI 121 ((a,b,()),())
 |.c122 a b c d=>mkI 122 ((a,(w64 ((w64 (b+1))+c.Cs)),d,()),())
 |.c123 a b c=>mkI 123 (((w64 ((w64 (a+1))+b.Cs)),c,()),())
 |.c124 a=>mkI 124 ((a,()),())
 |.c125 a b=>mkI 125 ((a,b,()),())
 |.c126 a b=>mkI 126 ((a,b,()),())
 |.c127 a=>mkI 127 ((a,()),())
 |.c128 a=>mkI 128 ((a,()),())
 |.c129 a=>mkI 129 ((a,()),())
 |.c130 a=>mkI 130 (Qy7,(a,()))
 |.c131 a=>mkI 131 (Qy7,(a,()))
 |.c132 a=>mkI 132 ((a,()),())
 |.c133 a=>mkI 133 (Qy7,(a,()))
 |.c134 a=>mkI 134 (Qy7,(a,()))
 |.c135 a=>mkI 135 (Qy7,(a,()))
 |.c136=>mkI 136 Qy7
 |.c137 a b=>mkI 137 ((a,b,()),())
 |.c138 a b c=>mkI 138 ((a,b,c,()),())
 |.c139=>mkI 139 Qy7
 |.c140 a b=>mkI 140 ((a,b,()),())
 |.c141 a b c d e=>mkI 141 ((a,b,c.1.1,e,(c.1.1.length:Int),d,()),())
 |.c142 a b c d=>mkI 142 ((a,b,c.1.1,d,()),())
 |.c143 a b c d=>mkI 143 ((a,b,(A1 c),(),()),(d,()))
 |.c144 a=>mkI 144 ((a,()),())
 |.c145 a b=>mkI 145 ((a,(a.length:Int),b,()),())
 |.c146=>mkI 146 Qy7
 |.c147 a=>mkI 147 ((a,()),())
 |.c148 a b=>mkI 148 ((a,b,()),())
 |.c149 a b c=>mkI 149 ((a,(),(b.P.As.length:Int),c,()),(b,()))
 |.c150=>mkI 150 Qy7
 |.c151 a b=>mkI 151 ((a,b,()),())
 |.c152 a b c d e=>mkI 152 ((a,b,e,c.1.1,(c.1.1.length:Int),d,()),())
 |.c153 a=>mkI 153 ((a,()),())
 |.c154 a b c=>mkI 154 ((a,b,c,()),())
 |.c155 a b c d=>mkI 155 ((a,b,c,(b.length:Int),d,()),())
 |.c156=>mkI 156 Qy7
 |.c157 a=>mkI 157 ((a,()),())
 |.c158 a b c=>mkI 158 ((a,c,b,()),())
 |.c159 a=>mkI 159 ((a,()),())
 |.c160 a b c=>mkI 160 (((Qyw a),b,c,()),())
 |.c161 a b=>mkI 161 ((a,b,()),())
 |.c162 a b c d=>mkI 162 ((a,b,d,(a.length:Int),c,()),())
 |.c163 a b c=>mkI 163 ((a,b,c,()),())
 |.c164 a=>mkI 164 ((a,()),())
 |.c165 a b c=>mkI 165 ((a,b,c,()),())
 |.c166 a b c d=>mkI 166 ((a,b,(),(b.length:Int),c,()),(d,()))
 |.c167=>mkI 167 Qy7
 |.c168 a b c=>mkI 168 ((a,b,c,()),())
 |.c169 a b c d=>mkI 169 ((d,(w64 ((a.length:Int)-1)),b,c,()),())
 |.c170 a b=>mkI 170 ((b,a,()),())
 |.c171 a b c=>mkI 171 (((Qyw a),b,c,()),())
 |.c172 a b c=>mkI 172 (((Qyw a),b,c,()),())
 |.c173 a b=>mkI 173 (((Qyw a),b,()),())
 |.c174 a b c=>mkI 174 (((Qyw a),b,c,()),())
 |.c175 a=>mkI 175 (((Qyw a),()),())
 |.c176 a b c d=>mkI 176 (((),(),a.P.No,b.1.1,(b.1.1.length:Int),c,()),(d,Qy1,()))
 |.c177 a b c d=>mkI 177 (((),(),a.P.No,b.1.1,c,(b.1.1.length:Int),c,()),(d,Qy1,()))
 |.c178 a b c d=>mkI 178 (((),(),a.P.No,b.1.1,c,(b.1.1.length:Int),c,()),(d,Qy1,()))
 |.c179 a b c=>mkI 179 (((),(),a.P.No,b.1.1,()),(c,Qy1,()))
 |.c180 a b c d e=>mkI 180 (((),(),a.P.No,b.1.1,(b.1.1.length:Int),c,()),((d8.mk d.1.1.P e d.1.1.F),Qy1,()))
 |.c181 a b c d=>mkI 181 (((),(),a.P.No,b.1.1,(b.1.1.length:Int),c,()),(d,Qy1,()))
 |.c182 a b c d e f h j=>mkI 182 (((),(),a.P.No,b.1.1,c,d.1.1,e,(b.1.1.length:Int),f,(d.1.1.length:Int),h,()),(j,Qy1,()))
 |.c183 a=>mkI 183 (((),(),()),(a,Qy1,()))
 |.c184 a b c d e f h j=>mkI 184 (((),(),a.P.No,b.1.1,c,d.1.1,e,f,(b.1.1.length:Int),h,(d.1.1.length:Int),f,()),(j,Qy1,()))
 |.c185 a b c d e f h j=>mkI 185 (((),(),a.P.No,b.1.1,c,d.1.1,e,f,(b.1.1.length:Int),h,(d.1.1.length:Int),f,()),(j,Qy1,()))
 |.c186 a b c d e f h=>mkI 186 (((),(),a.P.No,b.1.1,c,d.1.1,e,(b.1.1.length:Int),f,()),(h,Qy1,()))
 |.c187 a b c d e f h j k=>mkI 187 (((),(),a.P.No,b.1.1,c,d.1.1,e,(b.1.1.length:Int),f,(d.1.1.length:Int),h,()),((d8.mk (w8.mk j.1.1.P.No j.1.1.P.Ms j.1.1.P.To j.1.1.P.Rs k j.1.1.P.As j.1.1.P.Ss j.1.1.P.Vars j.1.1.P.Do) j.1.1.Rs j.1.1.F),Qy1,()))
 |.c188 a b c d e=>mkI 188 (((),(),a.P.No,b.1.1,(b.1.1.length:Int),c,()),((d8.mk (w8.mk d.P.No d.P.Ms d.P.To e d.P.Hs d.P.As d.P.Ss d.P.Vars d.P.Do) d.Rs d.F),Qy1,()))
 |.c189 a=>mkI 189 ((a,()),())
 |.c190 a b=>mkI 190 ((a,([([]:b6H),([108,101,110]:b6H),([116,101,120,116]:b6H),([114,101]:b6H),([105,109]:b6H),([112,97,105,114]:b6H),([99,104,114]:b6H),([114,101,97,100]:b6H),([114,97,110,100]:b6H)]:List (b6H)),(([([]:b6H),([108,101,110]:b6H),([116,101,120,116]:b6H),([114,101]:b6H),([105,109]:b6H),([112,97,105,114]:b6H),([99,104,114]:b6H),([114,101,97,100]:b6H),([114,97,110,100]:b6H)]:List (b6H)).length:Int),b,()),())
 |.c191=>mkI 191 Qy7
 |.c192 a b c=>mkI 192 (((Qyw a),b,c,()),())
 |.c193 a b c=>mkI 193 (((Qyw a),b,c,()),())
 |.c194 a b=>mkI 194 (((Qyw a),b,()),())
 |.c195 a=>mkI 195 (((Qyw a),()),())
 |.c196 a b c d=>mkI 196 (((),(),a.P.No,b.1.1,(b.1.1.length:Int),c,()),(d,Qy1,()))
 |.c197 a b c d e f h j=>mkI 197 (((),(),a.P.No,b.1.1,c,d,e.1.1,(w64 ((e.1.1.length:Int)-2)),f,(b.1.1.length:Int),h,()),(j,Qy1,()))
 |.c198 a b c d e f=>mkI 198 (((),(),a.P.No,b.1.1,c,d,(b.1.1.length:Int),e,()),(f,Qy1,()))
 |.c199 a=>mkI 199 (((),(),()),(a,Qy1,()))
 |.c200 a b c d e f h j=>mkI 200 (((),(),a.P.No,b.1.1,c,d,e.1.1,(w64 ((e.1.1.length:Int)-2)),f,(b.1.1.length:Int),h,()),(j,Qy1,()))
 |.c201 a b c d e f h j=>mkI 201 (((),(),a.P.No,b.1.1,c,d,e.1.1,(w64 ((e.1.1.length:Int)-2)),f,(b.1.1.length:Int),h,()),(j,Qy1,()))
 |.c202 a b c d e f h=>mkI 202 (((),(),a.P.No,b.1.1,c,d,e.1.1,(w64 ((e.1.1.length:Int)-2)),(b.1.1.length:Int),f,()),(h,Qy1,()))
 |.c203 a b c d e f=>mkI 203 (((),(),a.P.No,b.1.1,c,d,(b.1.1.length:Int),e,()),(f,Qy1,()))
 |.c204 a b c d e f h j=>mkI 204 (((),(),a.P.No,b.1.1,c,d,e.1.1,(w64 ((e.1.1.length:Int)-2)),f,(b.1.1.length:Int),h,()),(j.1.1,Qy1,()))
 |.c205 a b c d e=>mkI 205 (((),(),a.P.No,b.1.1,(b.1.1.length:Int),c,()),((d8.mk (w8.mk d.1.1.P.No d.1.1.P.Ms d.1.1.P.To d.1.1.P.Rs d.1.1.P.Hs e d.1.1.P.Ss d.1.1.P.Vars d.1.1.P.Do) d.1.1.Rs d.1.1.F),Qy1,()))
 |.c206 a b c d e=>mkI 206 (((),(),a.P.No,b.1.1,c,d,(b.1.1.length:Int),c,()),(e,Qy1,()))
 |.c207 a b c d e f h=>mkI 207 (((Qyw a),b,c,d,e,f,h,()),())
 |.c208 a b c=>mkI 208 (((Qyw a),b,c,()),())
 |.c209 a b c=>mkI 209 (((Qyw a),b,c,()),())
 |.c210 a b=>mkI 210 (((Qyw a),b,()),())
 |.c211 a b c d=>mkI 211 (((Qyw a),b,c,d,()),())
 |.c212 a b c d e=>mkI 212 ((a,b,c,(),(),d,()),(e,Qy1,()))
 |.c213 a b c d e f h j=>mkI 213 ((a,b,c,(),(),d,(),e,(b.length:Int),f,()),(h,Qy1,j,()))
 |.c214 a b c d e f=>mkI 214 ((a,b,c,(),(),d,e,()),(f,Qy1,()))
 |.c215 a=>mkI 215 (((),(),()),(a,Qy1,()))
 |.c216 a b c d e f=>mkI 216 ((a,b,c,(),(),d,e,()),(f,Qy1,()))
 |.c217 a b c d e=>mkI 217 ((a,b,c,(),(),d,()),(e,Qy1,()))
 |.c218 a b c d e=>mkI 218 (((Qyw a),b,c,d,e,()),())
 |.c219 a b c d e=>mkI 219 ((a,b,(),(),c.1.1,(c.1.1.length:Int),d,()),(e,Qy1,()))
 |.c220 a b c d e f h j k=>mkI 220 ((a,b,c,d,(),(),(),(e.P.Do.length:Int),f.1.1,(b.length:Int),h,()),(j,Qy1,k,()))
 |.c221 a b c d e f h j=>mkI 221 ((a,b,c,d,(),(),(),(e.P.Do.length:Int),f.1.1,()),(h,Qy1,j,()))
 |.c222 a b=>mkI 222 ((a,(),(),()),(b,Qy1,()))
 |.c223 a b c d e f h j=>mkI 223 ((a,b,c,d,(),(),(),(e.P.Do.length:Int),f.1.1,()),(h,Qy1,j,()))
 |.c224 a b c d e f h j=>mkI 224 ((a,b,c,d,(),(),(),(e.P.Do.length:Int),f.1.1,()),(h,Qy1,j,()))
 |.c225 a b c d=>mkI 225 (((Qyw a),b,c,d,()),())
 |.c226 a b c d e f=>mkI 226 ((a,b,c,(),(),d.1.1,(d.1.1.length:Int),e,()),(f,Qy1,()))
 |.c227 a b c=>mkI 227 ((a,b,(),(),()),(c,Qy1,()))
 |.c228 a b c d e=>mkI 228 ((a,b,(),(),e,(a.length:Int),c,()),(d,Qy1,()))
 |.c229 a b=>mkI 229 (((),(),b,()),(a,Qy1,()))
 |.c230 a b=>mkI 230 (((Qyw a),b,()),())
 |.c231 a b c d e=>mkI 231 ((a,(),(),b.1.1,(w64 ((b.1.1.length:Int)-2)),e,c,()),(d,Qy1,()))
 |.c232 a b c d=>mkI 232 ((a,(),(),b.1.1,(w64 ((b.1.1.length:Int)-2)),d,()),(c,Qy1,()))
 |.c233 a=>mkI 233 ((a,()),())
 |.c234 a b c=>mkI 234 (((),(),(),a,b,()),(Qy3,(A7.mk 0 0 0),c,()))
 |.c235 a=>mkI 235 (Qy5,(Qy3,(A7.mk 0 0 0),a,()))
 |.c236 a b=>mkI 236 (((),(),(),a.1.1,()),(Qy3,(A7.mk 0 0 0),b,()))
 |.c237 a=>mkI 237 (Qy5,(Qy3,(A7.mk 0 0 0),a,()))
 |.c238 a=>mkI 238 (Qy5,(Qy3,(A7.mk 0 0 0),a,()))
 |.c239 a b c=>mkI 239 ((a,b,c,()),())
 |.c240 a b c=>mkI 240 ((a,b,c,()),())
 |.c241 a b c=>mkI 241 ((a,b,c,()),())
 |.c242 a b c=>mkI 242 ((a,b,c,()),())
 |.c243 a=>mkI 243 ((a,()),())
 |.c244 a b=>mkI 244 ((a,b,()),())
 |.c245 a b c=>mkI 245 ((a,b,c,()),())
 |.c246 a b=>mkI 246 ((a,b,()),())
 |.c247 a b c d e=>mkI 247 ((a,(),(),b.1.1,e,(b.1.1.length:Int),c,()),(d,Qy0,()))
 |.c248 a b c d=>mkI 248 ((a,(),(),c.1.1,d,()),(b,Qy0,()))
 |.c249 a b c d e=>mkI 249 (((),(),b.1.1,e,a.1.1,a.1.2.1,(b.1.1.length:Int),c,()),(d,Qy0,()))
 |.c250 a b c d e=>mkI 250 (((),(),a.1.1,e,(),(a.1.1.length:Int),b,()),(c,Qy0,d,()))
 |.c251 a b=>mkI 251 (((),(),a.1.2.1,()),(b,Qy0,()))
 |.c252 a b=>mkI 252 (Qy5,(a,Qy0,b,()))
 |.c253 a b c=>mkI 253 ((a,b,c,()),())
 |.c254 a b=>mkI 254 ((a,(),(),()),(b.1.2.1,Qy0,()))
 |.c255 a b c d=>mkI 255 ((a,(),(),(),b,()),(c.1.2.1,Qy0,d,()))
 |.c256 a b=>mkI 256 ((a,(),(),()),(b.1.2.1,Qy0,()))
 |.c257 a b c d=>mkI 257 ((a,b,c,d,()),())
 |.c258 a b=>mkI 258 ((a,b,()),())
 |.c259 a b c d e=>mkI 259 ((a,b,(),c.1.1,d.1.1,()),(e,()))
 |.c260 a=>mkI 260 ((a,()),())
 |.c261 a b=>mkI 261 ((a,b,()),())
 |.c262=>mkI 262 Qy7
 |.c263 a b c=>mkI 263 ((a,b,c,()),())
 |.c264 a b=>mkI 264 ((a,b,()),())
 |.c265 a b c=>mkI 265 ((a,(),(),b,()),(c,Qy0,()))
 |.c266 a b c d=>mkI 266 ((a,(),(),d.1.1,b,c.1.1,()),(c.1.2.1,Qy0,()))
 |.c267 a b c d e=>mkI 267 ((a,(),(),e.1.1,b,c.1.1,d.1.1,()),(d.1.2.1,Qy0,()))
 |.c268 a b c d e=>mkI 268 ((a,(),(),(),e.1.1,b.Ts,()),(c,Qy0,d,()))
 |.c269 a b=>mkI 269 ((a,b,()),())
 |.c270 a b c d=>mkI 270 (((),d.1.1,a.1.1,(),b.1.1,()),(Qy0,c,()))
 |.c271 a b c d=>mkI 271 (((),(),d.1.1,a,b,()),(c,Qy0,()))
 |.c272 a b=>mkI 272 (((),(),b.1.1,()),(a,Qy0,()))
 |.c273 a b=>mkI 273 (((),(),a,()),(b,Qy0,()))
 |.c274 a b=>mkI 274 ((a,b,()),())
 |.c275 a b c d=>mkI 275 (((),(),b.1.1,a,(b.1.1.length:Int),c,()),(d,Qy0,()))
 |.c276 a b=>mkI 276 (((),(),a,()),(b,Qy0,()))
 |.c277 a=>mkI 277 ((a,()),())
 |.c278 a b c d=>mkI 278 ((a,(),(),(),(),(b.1.1.As.length:Int),c,()),(Qy3,(A7.mk 0 0 0),b.1.1,d,()))
 |.c279 a b=>mkI 279 (((),(),(),(),()),(Qy3,(A7.mk 0 0 0),a.1.1,b,()))
 |.c280 a=>mkI 280 ((a,()),())
 |.l16_source a=>mkI 281 ((a,()),())
 |.c282 a b=>mkI 282 (((),b,()),(a,()))
 |.c283 a b c d=>mkI 283 ((a,d,b.p_.No,c,()),(b,()))
 |.c284 a b=>mkI 284 ((b,()),(a,()))
 |.c285 a b c d=>mkI 285 (((),b,c,d,()),(a,()))
 |.c286 a=>mkI 286 ((a,()),())
 |.c287 a b=>mkI 287 (((),b,()),(a,()))
 |.c288 a b=>mkI 288 (((),b,()),(a,()))
 |.c289 a b c d=>mkI 289 (((),a,b,c,()),(d,()))
 |.c290 a b c=>mkI 290 (((),b,c,()),(a,()))
 |.c291 a b=>mkI 291 (((),b,()),(a,()))
 |.c292 a b c d e f h=>mkI 292 (((),a,(),(),b,c,d,()),(e,f,h,()))
 |.c293 a b c d=>mkI 293 (((),a,d.1.1,b,()),(c.2.1,()))
 |.c294 a b c=>mkI 294 (((),a,(),c.1.1,()),(b,c.2.1,()))
 |.c295 a b c d e=>mkI 295 (((),a,(),(),b,()),(c,d,e.2.1,()))
 |.c296 a b c d=>mkI 296 (((),a,(),(),()),(b,c,d,()))
 |.c297 a b c=>mkI 297 (((),b,c,()),(a,()))
 |.c298 a b c d e=>mkI 298 (((),a,b,c.1.1,(c.1.1.length:Int),d,()),(e,()))
 |.c299 a b c=>mkI 299 (((),a,b,()),(c,()))
 |.c300 a b=>mkI 300 (((),b,()),(a,()))
 |.c301 a b=>mkI 301 (((),a,()),(b,()))
 |.c302 a b=>mkI 302 (((),b,()),(a,()))
 |.c303 a b c=>mkI 303 (((),a.1.1,(a.1.1.length:Int),b,()),(c,()))
 |.c304 a=>mkI 304 ((a,()),())
 |.c305 a b c=>mkI 305 (((),(),a.As,(a.As.length:Int),b,()),(Qy5,c,()))
 |.c306 a b c d e f=>mkI 306 (((),(),(),a.As,(a.As.length:Int),b,()),(Qy5,(D7.mk c.2.1.from_ d.1.1 e.Ps e.Ss f),c.2.1,()))
 |.c307 a=>mkI 307 (((),(),()),(Qy5,a,()))
 |.c308 a b c d=>mkI 308 (((),(),a.As,(a.As.length:Int),b,()),(Qy5,(y6.mk c.2.1.p_ (s8.mk c.2.1.c_.On d c.2.1.c_.Us) c.2.1.from_ c.2.1.texts_),()))
 |.c309 a b=>mkI 309 ((a,b,()),())
 |.l16_awake=>mkI 310 Qy7
 |.c311 a b=>mkI 311 ((a,b,()),())
 |.c312 a b c=>mkI 312 (((),(),(a.On.length:Int),b,()),(a,c,()))
 |.c313 a b=>mkI 313 (((),(),()),(a,b,()))
 |.c314 a b c=>mkI 314 (((),(),(a.As.length:Int),b,()),(a,c,()))
 |.c315 a b=>mkI 315 (((),(),()),(a,b,()))
 |.c316 a b c=>mkI 316 (((),(),(a.Us.length:Int),b,()),(a,c,()))
 |.c317=>mkI 317 Qy7
 |.c318 a=>mkI 318 ((a,()),())
 |.c319 a=>mkI 319 ((a,()),())
 |.l16_GenBytes a=>mkI 320 ((a,()),())
theorem LR(c:Q_C):Bx tab Q4 (a0L c)=Q_T c:=by cases c<;>kernel_rfl
noncomputable def pV(g:Gt tab Q4)(c:Q_C):Option (Q_T c):=aP (g (a0L c)) (LR c)
noncomputable def d5:(c:Q_C)->Option (Q_T c):=pV (J0 Q_B)
theorem a1b(c:Q_C):d5 c=pV (Q_B (J0 Q_B)) c:=MD Q_q _ (LR c)
abbrev Q_g:=(i:Q_C)->Option (Q_T i)
noncomputable section
def DW(g:Q_g)(a:(b6H))(b:Int):Option RT2:=g (.c0 a b)
def Fc(g:Q_g)(a:(b6H))(b:Int)(c:Bool):Option RT2:=g (.c1 a b c)
def eV(g:Q_g)(a:(b6H))(b:Int)(c:Bool)(d:UInt8):Option RT2:=g (.c2 a b c d)
def uL(g:Q_g)(a:(b6H))(b:Int)(c:Bool)(d:UInt8):Option RT2:=g (.c3 a b c d)
def MK(g:Q_g)(a:Int):Option RT2:=g (.c4 a)
def XS(g:Q_g)(a:(b6H))(b:Int):b6B:=g (.c5 a b)
def Sx(g:Q_g)(a:(b6H))(b:Int)(c:Int)(d:Int)(e:Int):b6B:=g (.c6 a b c d e)
def ZL(g:Q_g)(a:Int)(b:Int):b6B:=g (.c7 a b)
def Jt(g:Q_g)(a:Int):Option RT2:=g (.c8 a)
def bM(g:Q_g)(a:Int):Option RT2:=g (.c9 a)
def Vz(g:Q_g)(a:Int):Option RT2:=g (.c10 a)
abbrev uV(g:Q_g):Option RT2:=g (.c11)
def zH(g:Q_g)(a:(b6H))(b:Int):Option RT2:=g (.c12 a b)
def lR(g:Q_g)(a:(b6H))(b:Int):Option RT2:=g (.c13 a b)
def EL(g:Q_g)(a:Int):Option RT2:=g (.c14 a)
def FF(g:Q_g)(a:(b6H)):Option RT0:=g (.c15 a)
def mR(g:Q_g)(a:(b6H))(b:Int):Option RT0:=g (.c16 a b)
abbrev KD(g:Q_g):Option RT0:=g (.c17)
def a0U(g:Q_g)(a:L5):Option RT8:=g (.c18 a)
def SE(g:Q_g)(a:Int):Option RT8:=g (.c19 a)
def PP(g:Q_g)(a:L5):Option RT2:=g (.c20 a)
def EZ(g:Q_g)(a:(b6H)):b6B:=g (.c21 a)
def bY(g:Q_g)(a:(b6H))(b:(b6H))(c:Int):b6B:=g (.c22 a b c)
def cX(g:Q_g)(a:(b6H))(b:(b6H)):b6B:=g (.c23 a b)
def Tp(g:Q_g)(a:(b6H))(b:(b6H)):b6B:=g (.c24 a b)
def CT(g:Q_g)(a:(b6H))(b:(b6H)):b6B:=g (.c25 a b)
def pX(g:Q_g)(a:(b6H))(b:(b6H))(c:Int)(d:Int):b6B:=g (.c26 a b c d)
def qV(g:Q_g)(a:(b6H))(b:(b6H)):b6B:=g (.c27 a b)
def mU(g:Q_g)(a:(b6H))(b:(b6H))(c:(b6H)):b6B:=g (.c28 a b c)
def RQ(g:Q_g)(a:(b6H))(b:(b6H))(c:Int):b6B:=g (.c29 a b c)
def YE(g:Q_g)(a:(b6H))(b:Int):b6z:=g (.c30 a b)
def mK(g:Q_g)(a:(b6H))(b:Int)(c:Int):b6z:=g (.c31 a b c)
def nM(g:Q_g)(a:(b6H))(b:Int)(c:Int):b6z:=g (.c32 a b c)
def dH(g:Q_g)(a:(b6H))(b:Int)(c:Int)(d:RT2)(e:Int)(f:Int):b6z:=g (.c33 a b c d e f)
def dT(g:Q_g)(a:(b6H))(b:Int)(c:Int)(d:RT2)(e:Int)(f:Int):b6z:=g (.c34 a b c d e f)
def tC(g:Q_g)(a:(b6H))(b:Int)(c:Int)(d:RT2):b6z:=g (.c35 a b c d)
def nF(g:Q_g)(a:(b6H))(b:Int)(c:Int)(d:RT2)(e:Int)(f:Int):b6z:=g (.c36 a b c d e f)
def Xe(g:Q_g)(a:Int):Option RT2:=g (.c37 a)
def jG(g:Q_g)(a:Int):Option RT2:=g (.c38 a)
def oU(g:Q_g)(a:Int):Option RT2:=g (.c39 a)
abbrev mE(g:Q_g):Option RT2:=g (.c40)
def IZ(g:Q_g)(a:(b6H)):b6D:=g (.c41 a)
def tJ(g:Q_g)(a:(b6H))(b:Int)(c:(List Int)):b6D:=g (.c42 a b c)
def eD(g:Q_g)(a:(b6H))(b:Int)(c:(List Int)):b6D:=g (.c43 a b c)
def zK(g:Q_g)(a:(b6H))(b:Int)(c:Int)(d:(List Int)):b6D:=g (.c44 a b c d)
def ZH(g:Q_g)(a:(b6H)):b6D:=g (.c45 a)
def Mk(g:Q_g)(a:(b6H))(b:Int)(c:(List Int)):b6D:=g (.c46 a b c)
def a0s(g:Q_g)(a:(b6H))(b:Int)(c:(List Int)):b6D:=g (.c47 a b c)
def bB(g:Q_g)(a:(b6H))(b:Int):b6z:=g (.c48 a b)
def cJ(g:Q_g)(a:(b6H))(b:Int):b6z:=g (.c49 a b)
def Vj(g:Q_g)(a:(b6H))(b:Int)(c:Int):b6z:=g (.c50 a b c)
def XD(g:Q_g)(a:(b6H))(b:Int):b6z:=g (.c51 a b)
def qX(g:Q_g)(a:(b6H))(b:Int)(c:Int):b6z:=g (.c52 a b c)
abbrev OO(g:Q_g):b6z:=g (.c53)
def vP(g:Q_g)(a:(b6H)):Option Mg:=g (.c54 a)
def vS(g:Q_g)(a:(b6H))(b:Int)(c:Int)(d:Int)(e:Int)(f:(List s9)):Option Mg:=g (.c55 a b c d e f)
def kZ(g:Q_g)(a:(b6H))(b:Int)(c:Int)(d:Int)(e:(List s9)):Option Mg:=g (.c56 a b c d e)
def Dj(g:Q_g)(a:l7):Option RT0:=g (.c57 a)
def W8(g:Q_g)(a:l7):Option RT5:=g (.c58 a)
def G3(g:Q_g)(a:l7)(b:(b6H)):Option RT0:=g (.c59 a b)
def I4(g:Q_g)(a:Int)(b:s9)(c:(b6H))(d:Int)(e:(List d7)):Option Wj:=g (.c60 a b c d e)
def Gd(g:Q_g)(a:l7)(b:Int):Option RT6:=g (.c61 a b)
def L4(g:Q_g)(a:l7)(b:(b6H)):Option RT6:=g (.c62 a b)
def Ig(g:Q_g)(a:l7)(b:Int):Option N3:=g (.c63 a b)
def uN(g:Q_g)(a:l7)(b:RT5):Option N3:=g (.c64 a b)
def Cp(g:Q_g)(a:l7)(b:(b6H)):Option RT6:=g (.c65 a b)
def qD(g:Q_g)(a:(b6H))(b:l7):Option RT6:=g (.c66 a b)
def Ea(g:Q_g)(a:l7)(b:(b6H)):Option RT6:=g (.c67 a b)
def Mz(g:Q_g)(a:l7):b6w:=g (.c68 a)
def pE(g:Q_g)(a:Int)(b:l7)(c:RT5):b6w:=g (.c69 a b c)
def DO(g:Q_g)(a:l7)(b:RT5):b6w:=g (.c70 a b)
def lM(g:Q_g)(a:l7)(b:Int):b6w:=g (.c71 a b)
def FG(g:Q_g)(a:l7):b6w:=g (.c72 a)
def cE(g:Q_g)(a:l7)(b:RT5)(c:N3)(d:(List d7)):b6w:=g (.c73 a b c d)
def pO(g:Q_g)(a:l7)(b:RT5)(c:N3)(d:(List d7)):b6w:=g (.c74 a b c d)
def Dk(g:Q_g)(a:(List d7))(b:(List d7)):Option Wj:=g (.c75 a b)
def KZ(g:Q_g)(a:l7):b6w:=g (.c76 a)
def lE(g:Q_g)(a:Int)(b:l7)(c:(List d7)):b6w:=g (.c77 a b c)
def oK(g:Q_g)(a:Int)(b:l7)(c:(List d7)):b6w:=g (.c78 a b c)
def jR(g:Q_g)(a:l7)(b:(List d7)):b6w:=g (.c79 a b)
def EC(g:Q_g)(a:l7):b6w:=g (.c80 a)
def Qh(g:Q_g)(a:l7)(b:RT5):b6w:=g (.c81 a b)
def Sk(g:Q_g)(a:l7)(b:RT5):b6w:=g (.c82 a b)
def IP(g:Q_g)(a:l7):b6w:=g (.c83 a)
def XT(g:Q_g)(a:l7):b6w:=g (.c84 a)
def Tw(g:Q_g)(a:(List d7))(b:l7):b6w:=g (.c85 a b)
def fW(g:Q_g)(a:(List d7))(b:l7):b6w:=g (.c86 a b)
def xJ(g:Q_g)(a:(List d7))(b:l7):b6w:=g (.c87 a b)
def Ql(g:Q_g)(a:l7):b6w:=g (.c88 a)
def qR(g:Q_g)(a:l7)(b:RT5):b6w:=g (.c89 a b)
def BF(g:Q_g)(a:Int):Option Ah:=g (.c90 a)
def O2(g:Q_g)(a:l7)(b:Int):b6w:=g (.c91 a b)
def qC(g:Q_g)(a:Int)(b:(List d7))(c:Bool)(d:l7)(e:Ah):b6w:=g (.c92 a b c d e)
def Ll(g:Q_g)(a:Int)(b:(List d7))(c:Bool)(d:Ah)(e:Int)(f:l7):b6w:=g (.c93 a b c d e f)
def AH(g:Q_g)(a:Int)(b:(List d7))(c:Bool)(d:l7)(e:Ah):b6w:=g (.c94 a b c d e)
def NW(g:Q_g)(a:(List d7))(b:l7):b6w:=g (.c95 a b)
def Pg(g:Q_g)(a:l7):b6w:=g (.c96 a)
def wF(g:Q_g)(a:RT5)(b:l7)(c:(List d7)):b6w:=g (.c97 a b c)
def GK(g:Q_g)(a:(List d7))(b:RT5)(c:l7):b6w:=g (.c98 a b c)
def Wp(g:Q_g)(a:v8)(b:RT5):b6w:=g (.c99 a b)
def lA(g:Q_g)(a:v8)(b:RT5):b6w:=g (.c100 a b)
def Tv(g:Q_g)(a:v8)(b:l7)(c:RT5):b6w:=g (.c101 a b c)
def fM(g:Q_g)(a:v8)(b:d7)(c:RT5):b6w:=g (.c102 a b c)
def Ij(g:Q_g)(a:l7):b6w:=g (.c103 a)
def uX(g:Q_g)(a:l7)(b:RT5)(c:(List d7)):b6w:=g (.c104 a b c)
def tM(g:Q_g)(a:l7)(b:RT5)(c:(List d7)):b6w:=g (.c105 a b c)
def GE(g:Q_g)(a:l7):b6w:=g (.c106 a)
def uI(g:Q_g)(a:Int)(b:l7)(c:RT5)(d:N3)(e:(List d7)):b6w:=g (.c107 a b c d e)
def cQ(g:Q_g)(a:Int)(b:l7)(c:RT5)(d:N3)(e:(List d7)):b6w:=g (.c108 a b c d e)
def bW(g:Q_g)(a:Int)(b:l7)(c:RT5)(d:N3)(e:(List d7)):b6w:=g (.c109 a b c d e)
def jT(g:Q_g)(a:Int)(b:l7)(c:RT5)(d:N3)(e:(List d7))(f:(List d7)):b6w:=g (.c110 a b c d e f)
def a0F(g:Q_g)(a:l7):b6w:=g (.c111 a)
def lW(g:Q_g)(a:l7)(b:(List d7)):b6w:=g (.c112 a b)
def Wy(g:Q_g)(a:l7)(b:(List d7))(c:(List d7)):b6w:=g (.c113 a b c)
def bN(g:Q_g)(a:l7)(b:(List d7)):b6w:=g (.c114 a b)
def BG(g:Q_g)(a:(List d7))(b:l7):Option Mx:=g (.c115 a b)
def gK(g:Q_g)(a:(List d7))(b:l7):Option Mx:=g (.c116 a b)
def qJ(g:Q_g)(a:(b6H)):Option Mx:=g (.c117 a)
def Ai(g:Q_g)(a:(List d7))(b:Int):Option RT3:=g (.c118 a b)
def jD(g:Q_g)(a:(List d7))(b:Int)(c:Int)(d:(List Int)):Option RT3:=g (.c119 a b c d)
def KB(g:Q_g)(a:(List Int)):Option RT3:=g (.c120 a)
def Rz(g:Q_g)(a:(List d7))(b:Int):Option RT2:=g (.c121 a b)
def pN(g:Q_g)(a:(List d7))(b:Int)(c:d7)(d:Int):Option RT2:=g (.c122 a b c d)
def wH(g:Q_g)(a:Int)(b:d7)(c:Int):Option RT2:=g (.c123 a b c)
def iV(g:Q_g)(a:(List d7)):Option RT0:=g (.c124 a)
def rU(g:Q_g)(a:(b6H))(b:Int):Option RT0:=g (.c125 a b)
def bJ(g:Q_g)(a:(b6H))(b:Int):Option RT0:=g (.c126 a b)
def AI(g:Q_g)(a:(b6H)):Option RT0:=g (.c127 a)
def eK(g:Q_g)(a:(b6H)):Option RT0:=g (.c128 a)
def FT(g:Q_g)(a:d7):Option RT0:=g (.c129 a)
def pT(g:Q_g)(a:d7):Option RT0:=g (.c130 a)
def Ka(g:Q_g)(a:d7):Option RT0:=g (.c131 a)
def FK(g:Q_g)(a:d7):Option RT2:=g (.c132 a)
def qW(g:Q_g)(a:d7):Option RT2:=g (.c133 a)
def uM(g:Q_g)(a:d7):Option RT2:=g (.c134 a)
def nX(g:Q_g)(a:d7):Option RT2:=g (.c135 a)
abbrev WH(g:Q_g):Option RT2:=g (.c136)
def Ow(g:Q_g)(a:(b6H))(b:Int):Option RT0:=g (.c137 a b)
def dF(g:Q_g)(a:(b6H))(b:Int)(c:Int):Option RT0:=g (.c138 a b c)
abbrev UH(g:Q_g):Option RT0:=g (.c139)
def CA(g:Q_g)(a:(List d7))(b:Int):Option RT0:=g (.c140 a b)
def Zz(g:Q_g)(a:(List d7))(b:Int)(c:RT3)(d:Int)(e:(List Int)):Option RT0:=g (.c141 a b c d e)
def FR(g:Q_g)(a:(List d7))(b:Int)(c:RT3)(d:(List Int)):Option RT0:=g (.c142 a b c d)
def eO(g:Q_g)(a:(List d7))(b:Int)(c:(List Int))(d:d7):Option RT0:=g (.c143 a b c d)
def rC(g:Q_g)(a:(List d7)):Option RT0:=g (.c144 a)
def mB(g:Q_g)(a:(List d7))(b:Int):Option RT0:=g (.c145 a b)
abbrev KV(g:Q_g):Option RT0:=g (.c146)
def Q6(g:Q_g)(a:d8):Option RT0:=g (.c147 a)
def uK(g:Q_g)(a:d8)(b:(b6H)):Option RT2:=g (.c148 a b)
def rN(g:Q_g)(a:(b6H))(b:d8)(c:Int):Option RT2:=g (.c149 a b c)
abbrev MQ(g:Q_g):Option RT2:=g (.c150)
def eC(g:Q_g)(a:(List d7))(b:Int):Option RT3:=g (.c151 a b)
def aA(g:Q_g)(a:(List d7))(b:Int)(c:RT3)(d:Int)(e:(List Int)):Option RT3:=g (.c152 a b c d e)
def VS(g:Q_g)(a:(List Int)):Option RT3:=g (.c153 a)
def Ph(g:Q_g)(a:(List d7))(b:(List Int))(c:(b6H)):Option RT0:=g (.c154 a b c)
def bT(g:Q_g)(a:(List d7))(b:(List Int))(c:(b6H))(d:Int):Option RT0:=g (.c155 a b c d)
abbrev RV(g:Q_g):Option RT0:=g (.c156)
def FZ(g:Q_g)(a:Int):Option Nu:=g (.c157 a)
def dI(g:Q_g)(a:Int)(b:Int)(c:(List v7)):Option Nu:=g (.c158 a b c)
def wX(g:Q_g)(a:(List v7)):Option Nu:=g (.c159 a)
def Jo(g:Q_g)(a:d8)(b:Int)(c:l8):b6v:=g (.c160 a b c)
def Mq(g:Q_g)(a:(List v7))(b:Int):b6F:=g (.c161 a b)
def Xw(g:Q_g)(a:(List v7))(b:Int)(c:Int)(d:(List v7)):b6F:=g (.c162 a b c d)
def VO(g:Q_g)(a:(List v7))(b:Int)(c:(List v7)):b6F:=g (.c163 a b c)
def GJ(g:Q_g)(a:(List d7)):Option RT0:=g (.c164 a)
def GH(g:Q_g)(a:(List v7))(b:(List (b6H)))(c:d7):Option RT2:=g (.c165 a b c)
def qP(g:Q_g)(a:(List v7))(b:(List (b6H)))(c:Int)(d:d7):Option RT2:=g (.c166 a b c d)
abbrev QO(g:Q_g):Option RT2:=g (.c167)
def Tb(g:Q_g)(a:(List v7))(b:(List (b6H)))(c:(List d7)):b6F:=g (.c168 a b c)
def yF(g:Q_g)(a:(List d7))(b:Int)(c:Int)(d:(List v7)):b6F:=g (.c169 a b c d)
def XX(g:Q_g)(a:Int)(b:(List v7)):b6F:=g (.c170 a b)
def Xz(g:Q_g)(a:d8)(b:Int)(c:l8):b6v:=g (.c171 a b c)
def Xx(g:Q_g)(a:d8)(b:Int)(c:Int):b6v:=g (.c172 a b c)
def sM(g:Q_g)(a:d8)(b:Int):Option Q9:=g (.c173 a b)
def gG(g:Q_g)(a:d8)(b:Int)(c:Int):b6v:=g (.c174 a b c)
def DI(g:Q_g)(a:d8):b6v:=g (.c175 a)
def Up(g:Q_g)(a:d8)(b:RT3)(c:Int)(d:d8):b6v:=g (.c176 a b c d)
def kG(g:Q_g)(a:d8)(b:RT3)(c:Int)(d:d8):b6v:=g (.c177 a b c d)
def fU(g:Q_g)(a:d8)(b:RT3)(c:Int)(d:d8):b6v:=g (.c178 a b c d)
def Tq(g:Q_g)(a:d8)(b:RT3)(c:d8):b6v:=g (.c179 a b c)
def NQ(g:Q_g)(a:d8)(b:RT3)(c:Int)(d:v6)(e:(List (b6H))):b6v:=g (.c180 a b c d e)
def vD(g:Q_g)(a:d8)(b:RT3)(c:Int)(d:d8):b6v:=g (.c181 a b c d)
def Se(g:Q_g)(a:d8)(b:RT3)(c:Int)(d:RT3)(e:Int)(f:Int)(h:Int)(j:d8):b6v:=g (.c182 a b c d e f h j)
def WA(g:Q_g)(a:d8):b6v:=g (.c183 a)
def Vp(g:Q_g)(a:d8)(b:RT3)(c:Int)(d:RT3)(e:Int)(f:Int)(h:Int)(j:d8):b6v:=g (.c184 a b c d e f h j)
def aU(g:Q_g)(a:d8)(b:RT3)(c:Int)(d:RT3)(e:Int)(f:Int)(h:Int)(j:d8):b6v:=g (.c185 a b c d e f h j)
def aR(g:Q_g)(a:d8)(b:RT3)(c:Int)(d:RT3)(e:Int)(f:Int)(h:d8):b6v:=g (.c186 a b c d e f h)
def KF(g:Q_g)(a:d8)(b:RT3)(c:Int)(d:RT3)(e:Int)(f:Int)(h:Int)(j:v6)(k:(List U5)):b6v:=g (.c187 a b c d e f h j k)
def MW(g:Q_g)(a:d8)(b:RT3)(c:Int)(d:d8)(e:(List Q3)):b6v:=g (.c188 a b c d e)
def nJ(g:Q_g)(a:(b6H)):Option RT2:=g (.c189 a)
def kK(g:Q_g)(a:(b6H))(b:Int):Option RT2:=g (.c190 a b)
abbrev MY(g:Q_g):Option RT2:=g (.c191)
def Rw(g:Q_g)(a:d8)(b:Int)(c:l8):b6v:=g (.c192 a b c)
def Kl(g:Q_g)(a:d8)(b:Int)(c:Int):b6v:=g (.c193 a b c)
def aZ(g:Q_g)(a:d8)(b:Int):Option Q9:=g (.c194 a b)
def xU(g:Q_g)(a:d8):b6v:=g (.c195 a)
def Yo(g:Q_g)(a:d8)(b:RT3)(c:Int)(d:d8):b6v:=g (.c196 a b c d)
def Pe(g:Q_g)(a:d8)(b:RT3)(c:Int)(d:Int)(e:RT3)(f:Int)(h:Int)(j:d8):b6v:=g (.c197 a b c d e f h j)
def sJ(g:Q_g)(a:d8)(b:RT3)(c:Int)(d:Int)(e:Int)(f:d8):b6v:=g (.c198 a b c d e f)
def PL(g:Q_g)(a:d8):b6v:=g (.c199 a)
def Ve(g:Q_g)(a:d8)(b:RT3)(c:Int)(d:Int)(e:RT3)(f:Int)(h:Int)(j:d8):b6v:=g (.c200 a b c d e f h j)
def Zc(g:Q_g)(a:d8)(b:RT3)(c:Int)(d:Int)(e:RT3)(f:Int)(h:Int)(j:d8):b6v:=g (.c201 a b c d e f h j)
def Mn(g:Q_g)(a:d8)(b:RT3)(c:Int)(d:Int)(e:RT3)(f:Int)(h:d8):b6v:=g (.c202 a b c d e f h)
def rA(g:Q_g)(a:d8)(b:RT3)(c:Int)(d:Int)(e:Int)(f:d8):b6v:=g (.c203 a b c d e f)
def PM(g:Q_g)(a:d8)(b:RT3)(c:Int)(d:Int)(e:RT3)(f:Int)(h:Int)(j:v6):b6v:=g (.c204 a b c d e f h j)
def a0r(g:Q_g)(a:d8)(b:RT3)(c:Int)(d:v6)(e:(List x8)):b6v:=g (.c205 a b c d e)
def lS(g:Q_g)(a:d8)(b:RT3)(c:Int)(d:Int)(e:d8):b6v:=g (.c206 a b c d e)
def fX(g:Q_g)(a:d8)(b:Int)(c:(List y8))(d:(b6H))(e:Int)(f:Int)(h:Int):b6C:=g (.c207 a b c d e f h)
def Dy(g:Q_g)(a:d8)(b:Int)(c:Int):b6v:=g (.c208 a b c)
def Ik(g:Q_g)(a:d8)(b:Int)(c:l8):b6v:=g (.c209 a b c)
def Vt(g:Q_g)(a:d8)(b:Int):Option Q9:=g (.c210 a b)
def tU(g:Q_g)(a:d8)(b:Int)(c:(List y8))(d:Int):b6v:=g (.c211 a b c d)
def Ma(g:Q_g)(a:Int)(b:(List y8))(c:Int)(d:Int)(e:d8):b6v:=g (.c212 a b c d e)
def Sw(g:Q_g)(a:Int)(b:(List y8))(c:Int)(d:Int)(e:Int)(f:Int)(h:d8)(j:d7):b6v:=g (.c213 a b c d e f h j)
def jW(g:Q_g)(a:Int)(b:(List y8))(c:Int)(d:Int)(e:Int)(f:d8):b6v:=g (.c214 a b c d e f)
def PN(g:Q_g)(a:d8):b6v:=g (.c215 a)
def IX(g:Q_g)(a:Int)(b:(List y8))(c:Int)(d:Int)(e:Int)(f:d8):b6v:=g (.c216 a b c d e f)
def Pj(g:Q_g)(a:Int)(b:(List y8))(c:Int)(d:Int)(e:d8):b6v:=g (.c217 a b c d e)
def GT(g:Q_g)(a:d8)(b:Int)(c:(List y8))(d:Int)(e:Int):b6C:=g (.c218 a b c d e)
def Rr(g:Q_g)(a:Int)(b:(List y8))(c:RT3)(d:Int)(e:d8):b6C:=g (.c219 a b c d e)
def Tf(g:Q_g)(a:Int)(b:(List y8))(c:Int)(d:Int)(e:d8)(f:Q9)(h:Int)(j:d8)(k:d7):b6C:=g (.c220 a b c d e f h j k)
def vJ(g:Q_g)(a:Int)(b:(List y8))(c:Int)(d:Int)(e:d8)(f:Q9)(h:d8)(j:d7):b6C:=g (.c221 a b c d e f h j)
def SL(g:Q_g)(a:(List y8))(b:d8):b6C:=g (.c222 a b)
def zJ(g:Q_g)(a:Int)(b:(List y8))(c:Int)(d:Int)(e:d8)(f:Q9)(h:d8)(j:d7):b6C:=g (.c223 a b c d e f h j)
def mV(g:Q_g)(a:Int)(b:(List y8))(c:Int)(d:Int)(e:d8)(f:Q9)(h:d8)(j:d7):b6C:=g (.c224 a b c d e f h j)
def lG(g:Q_g)(a:d8)(b:Int)(c:(List y8))(d:Int):b6v:=g (.c225 a b c d)
def dY(g:Q_g)(a:Int)(b:(List y8))(c:Int)(d:RT3)(e:Int)(f:d8):b6v:=g (.c226 a b c d e f)
def EK(g:Q_g)(a:(List y8))(b:Int)(c:d8):b6v:=g (.c227 a b c)
def Yk(g:Q_g)(a:(List y8))(b:Int)(c:Int)(d:d8)(e:(List M8)):b6v:=g (.c228 a b c d e)
def a0T(g:Q_g)(a:d8)(b:(List M8)):b6v:=g (.c229 a b)
def xQ(g:Q_g)(a:d8)(b:Int):b6v:=g (.c230 a b)
def aW(g:Q_g)(a:Int)(b:RT3)(c:Int)(d:d8)(e:(List y8)):b6v:=g (.c231 a b c d e)
def BE(g:Q_g)(a:Int)(b:RT3)(c:d8)(d:(List y8)):b6v:=g (.c232 a b c d)
def zM(g:Q_g)(a:(List d7)):b6A:=g (.c233 a)
def Km(g:Q_g)(a:Int)(b:Int)(c:d8):b6A:=g (.c234 a b c)
def Nm(g:Q_g)(a:d8):b6A:=g (.c235 a)
def tP(g:Q_g)(a:RT2)(b:d8):b6A:=g (.c236 a b)
def oP(g:Q_g)(a:d8):b6A:=g (.c237 a)
def Wt(g:Q_g)(a:d8):b6A:=g (.c238 a)
def Hv(g:Q_g)(a:o0)(b:Int)(c:Int):Option RT4:=g (.c239 a b c)
def N2(g:Q_g)(a:o0)(b:Bool)(c:Int):Option RT4:=g (.c240 a b c)
def ED(g:Q_g)(a:(List v7))(b:Int)(c:Int):Option RT0:=g (.c241 a b c)
def Cz(g:Q_g)(a:o0)(b:Int)(c:Int):Option RT0:=g (.c242 a b c)
def GA(g:Q_g)(a:Int):Option Iz:=g (.c243 a)
def Oo(g:Q_g)(a:o0)(b:Int):Option RT2:=g (.c244 a b)
def zC(g:Q_g)(a:o0)(b:Int)(c:Int):Option RT0:=g (.c245 a b c)
def BW(g:Q_g)(a:o0)(b:Int):b6x:=g (.c246 a b)
def aK(g:Q_g)(a:Int)(b:RT3)(c:Int)(d:o0)(e:(List Int)):b6x:=g (.c247 a b c d e)
def DK(g:Q_g)(a:Int)(b:o0)(c:RT3)(d:(List Int)):b6x:=g (.c248 a b c d)
def Yb(g:Q_g)(a:Iz)(b:RT3)(c:Int)(d:o0)(e:(List Int)):b6x:=g (.c249 a b c d e)
def Th(g:Q_g)(a:RT3)(b:Int)(c:o0)(d:x8)(e:(List Int)):b6x:=g (.c250 a b c d e)
def GZ(g:Q_g)(a:Iz)(b:o0):b6x:=g (.c251 a b)
def AX(g:Q_g)(a:o0)(b:x8):b6x:=g (.c252 a b)
def KR(g:Q_g)(a:o0)(b:Int)(c:Int):b6x:=g (.c253 a b c)
def iU(g:Q_g)(a:Int)(b:C0):b6x:=g (.c254 a b)
def Ww(g:Q_g)(a:Int)(b:Int)(c:C0)(d:Q3):b6x:=g (.c255 a b c d)
def RC(g:Q_g)(a:Int)(b:C0):b6x:=g (.c256 a b)
def AR(g:Q_g)(a:o0)(b:Int)(c:Int)(d:Int):Option RT2:=g (.c257 a b c d)
def sX(g:Q_g)(a:Int)(b:Int):Option RT2:=g (.c258 a b)
def eN(g:Q_g)(a:Int)(b:Int)(c:RT2)(d:RT2)(e:o0):Option RT2:=g (.c259 a b c d e)
def gY(g:Q_g)(a:Int):Option RT2:=g (.c260 a)
def iF(g:Q_g)(a:Int)(b:Int):Option RT2:=g (.c261 a b)
abbrev Jm(g:Q_g):Option RT2:=g (.c262)
def xA(g:Q_g)(a:o0)(b:Int)(c:Int):Option RT4:=g (.c263 a b c)
def V1(g:Q_g)(a:o0)(b:Int):b6x:=g (.c264 a b)
def M7(g:Q_g)(a:Int)(b:Int)(c:o0):b6x:=g (.c265 a b c)
def eQ(g:Q_g)(a:Int)(b:Int)(c:C0)(d:RT3):b6x:=g (.c266 a b c d)
def lN(g:Q_g)(a:Int)(b:Int)(c:C0)(d:C0)(e:RT3):b6x:=g (.c267 a b c d e)
def zF(g:Q_g)(a:Int)(b:l8)(c:o0)(d:d7)(e:RT3):b6x:=g (.c268 a b c d e)
def La(g:Q_g)(a:o0)(b:Int):b6E:=g (.c269 a b)
def Pr(g:Q_g)(a:C0)(b:C0)(c:o0)(d:RT3):b6E:=g (.c270 a b c d)
def Rx(g:Q_g)(a:Bool)(b:Int)(c:o0)(d:RT3):b6E:=g (.c271 a b c d)
def kA(g:Q_g)(a:o0)(b:RT3):b6E:=g (.c272 a b)
def OX(g:Q_g)(a:Bool)(b:o0):b6E:=g (.c273 a b)
def tF(g:Q_g)(a:o0)(b:Int):b6E:=g (.c274 a b)
def vM(g:Q_g)(a:Bool)(b:RT3)(c:Int)(d:o0):b6E:=g (.c275 a b c d)
def YK(g:Q_g)(a:Bool)(b:o0):b6E:=g (.c276 a b)
def IN(g:Q_g)(a:(List d7)):b6A:=g (.c277 a)
def Kx(g:Q_g)(a:(List d7))(b:L8)(c:Int)(d:o0):b6A:=g (.c278 a b c d)
def cM(g:Q_g)(a:L8)(b:o0):b6A:=g (.c279 a b)
def cO(g:Q_g)(a:(b6H)):b6A:=g (.c280 a)
def CP(g:Q_g)(a:(b6H)):Option BZ:=g (.l16_source a)
def Mw(g:Q_g)(a:y6)(b:Int):Option Q7:=g (.c282 a b)
def mX(g:Q_g)(a:Int)(b:y6)(c:Int)(d:(List Int)):Option Q7:=g (.c283 a b c d)
def OY(g:Q_g)(a:y6)(b:(List Int)):Option Q7:=g (.c284 a b)
def U3(g:Q_g)(a:y6)(b:Int)(c:Int)(d:Int):Option RT1:=g (.c285 a b c d)
def DT(g:Q_g)(a:y6):Option RT2:=g (.c286 a)
def Pl(g:Q_g)(a:y6)(b:Int):b6y:=g (.c287 a b)
def DH(g:Q_g)(a:y6)(b:(b6H)):Option RT1:=g (.c288 a b)
def BX(g:Q_g)(a:(b6H))(b:Int)(c:Bool)(d:y6):Option RT1:=g (.c289 a b c d)
def xI(g:Q_g)(a:y6)(b:d7)(c:l8):Option wK:=g (.c290 a b c)
def Bl(g:Q_g)(a:y6)(b:Int):b6y:=g (.c291 a b)
def Wv(g:Q_g)(a:Int)(b:(List Int))(c:Int)(d:Int)(e:d7)(f:l8)(h:y6):b6y:=g (.c292 a b c d e f h)
def pF(g:Q_g)(a:Int)(b:Int)(c:I6)(d:Q7):b6y:=g (.c293 a b c d)
def fG(g:Q_g)(a:Int)(b:d7)(c:Q7):b6y:=g (.c294 a b c)
def Tz(g:Q_g)(a:Int)(b:(List Int))(c:d7)(d:l8)(e:Q7):b6y:=g (.c295 a b c d e)
def IF(g:Q_g)(a:Int)(b:d7)(c:l8)(d:y6):b6y:=g (.c296 a b c d)
def IU(g:Q_g)(a:y6)(b:Int)(c:(List Int)):b6y:=g (.c297 a b c)
def Wm(g:Q_g)(a:Int)(b:(List Int))(c:Q7)(d:Int)(e:y6):b6y:=g (.c298 a b c d e)
def ES(g:Q_g)(a:Int)(b:(List Int))(c:y6):b6y:=g (.c299 a b c)
def wG(g:Q_g)(a:y6)(b:Int):b6y:=g (.c300 a b)
def xM(g:Q_g)(a:Int)(b:y6):b6y:=g (.c301 a b)
def Pz(g:Q_g)(a:y6)(b:Int):b6y:=g (.c302 a b)
def pM(g:Q_g)(a:Q7)(b:Int)(c:y6):b6y:=g (.c303 a b c)
def kB(g:Q_g)(a:w8):b6G:=g (.c304 a)
def aX(g:Q_g)(a:w8)(b:Int)(c:y6):b6G:=g (.c305 a b c)
def nS(g:Q_g)(a:w8)(b:Int)(c:RT1)(d:RT2)(e:x8)(f:Int):b6G:=g (.c306 a b c d e f)
def dG(g:Q_g)(a:y6):b6G:=g (.c307 a)
def JN(g:Q_g)(a:w8)(b:Int)(c:RT1)(d:(List D7)):b6G:=g (.c308 a b c d)
def b41(g:Q_g)(a:s8)(b:Int):Option Un:=g (.c309 a b)
abbrev yN(g:Q_g):Option RT0:=g (.l16_awake)
def FV(g:Q_g)(a:s8)(b:s8):Option RT0:=g (.c311 a b)
def kD(g:Q_g)(a:s8)(b:Int)(c:s8):Option RT0:=g (.c312 a b c)
def RA(g:Q_g)(a:s8)(b:s8):Option RT0:=g (.c313 a b)
def vW(g:Q_g)(a:s8)(b:Int)(c:s8):Option RT0:=g (.c314 a b c)
def ML(g:Q_g)(a:s8)(b:s8):Option RT0:=g (.c315 a b)
def rO(g:Q_g)(a:s8)(b:Int)(c:s8):Option RT0:=g (.c316 a b c)
abbrev NV(g:Q_g):Option RT0:=g (.c317)
def ST(g:Q_g)(a:s8):Option Vh:=g (.c318 a)
def WO(g:Q_g)(a:(List Int)):Option Tm:=g (.c319 a)
def zN(g:Q_g)(a:(b6H)):Option RT0:=g (.l16_GenBytes a)
end
end
section
open Go.RowKit
set_option maxRecDepth 100000
set_option maxHeartbeats 4000000
noncomputable section
def Qb0(g:Q_g)(a:(b6H))(b:Int):Option RT2:=
 Fc g a b false
def Qb1(g:Q_g)(a:(b6H))(b:Int)(c:Bool):Option RT2:=
 (cond (decide (b<(a.length:Int))) ((f7 a b).bind λd=>(cond (decide ((d.toNat:Int)=35)) (uL g a b true d) (uL g a b c d))) (MK g b))
def Qb2(g:Q_g)(a:(b6H))(b:Int)(c:Bool)(d:UInt8):Option RT2:=
 (cond (!c) (cond (!(decide ((d.toNat:Int)=32))) (cond (!(decide ((d.toNat:Int)=9))) (cond (!(decide ((d.toNat:Int)=13))) (cond (!(decide ((d.toNat:Int)=10))) (some ((b,()),())) (Fc g a (w64 (b+1)) c)) (Fc g a (w64 (b+1)) c)) (Fc g a (w64 (b+1)) c)) (Fc g a (w64 (b+1)) c)) (Fc g a (w64 (b+1)) c))
def Qb3(g:Q_g)(a:(b6H))(b:Int)(c:Bool)(d:UInt8):Option RT2:=
 (cond (decide ((d.toNat:Int)=10)) (eV g a b false d) (eV g a b c d))
def Qb4(g:Q_g)(a:Int):Option RT2:=
 (some ((a,()),()))
def Qb5(g:Q_g)(a:(b6H))(b:Int):b6B:=
 Sx g a b 1 1 0
def Qb6(g:Q_g)(a:(b6H))(b:Int)(c:Int)(d:Int)(e:Int):b6B:=
 (cond (decide (e<b)) ((f7 a e).bind λf=>(cond (decide ((f.toNat:Int)=10)) (Sx g a b (w64 (c+1)) 1 (w64 (e+1))) (Sx g a b c (w64 (d+1)) (w64 (e+1))))) (ZL g c d))
def Qb7(g:Q_g)(a:Int)(b:Int):b6B:=
 (some ((a,b,()),()))
def Qb8(g:Q_g)(a:Int):Option RT2:=
 (cond (decide (a>=97)) (cond (decide (a<=122)) (some ((1,()),())) (cond (decide (a=95)) (some ((1,()),())) (Vz g a))) (cond (decide (a=95)) (some ((1,()),())) (Vz g a)))
def Qb9(g:Q_g)(a:Int):Option RT2:=
 (cond (decide (a>=48)) (cond (decide (a<=57)) (some ((3,()),())) (uV g)) (uV g))
def mY(g:Q_g)(a:Int):Option RT2:=
 (cond (decide (a>=65)) (cond (decide (a<=90)) (some ((2,()),())) (bM g a)) (bM g a))
def EI(g:Q_g):Option RT2:=
 (some ((0,()),()))
def Um(g:Q_g)(a:(b6H))(b:Int):Option RT2:=
 lR g a b
def aM(g:Q_g)(a:(b6H))(b:Int):Option RT2:=
 (cond (decide (b<(a.length:Int))) ((f7 a b).bind λc=>((Jt g (c.toNat:Int)).bind λd=>(cond (decide (d.1.1>0)) (lR g a (w64 (b+1))) (EL g b)))) (EL g b))
def Vr(g:Q_g)(a:Int):Option RT2:=
 (some ((a,()),()))
def iC(g:Q_g)(a:(b6H)):Option RT0:=
 mR g a 0
def Wd(g:Q_g)(a:(b6H))(b:Int):Option RT0:=
 (cond (decide (b<(([[114,101,99],[102,110],[118,97,114],[105,102],[101,108,115,101],[119,104,105,108,101],[114,101,116,117,114,110],[112,114,105,110,116],[116,114,117,101],[102,97,108,115,101],[110,105,108],[109,97,107,101],[105,110,116],[98,111,111,108],[115,116,114],[99,111,109,112]]:List (b6H)).length:Int))) ((f7 ([[114,101,99],[102,110],[118,97,114],[105,102],[101,108,115,101],[119,104,105,108,101],[114,101,116,117,114,110],[112,114,105,110,116],[116,114,117,101],[102,97,108,115,101],[110,105,108],[109,97,107,101],[105,110,116],[98,111,111,108],[115,116,114],[99,111,109,112]]:List (b6H)) b).bind λc=>((([[114,101,99],[102,110],[118,97,114],[105,102],[101,108,115,101],[119,104,105,108,101],[114,101,116,117,114,110],[112,114,105,110,116],[116,114,117,101],[102,97,108,115,101],[110,105,108],[109,97,107,101],[105,110,116],[98,111,111,108],[115,116,114],[99,111,109,112]]:List (b6H))[(Int.toNat b)]?).bind λd=>(cond (decide (d=a)) (some ((true,()),())) (mR g a (w64 (b+1)))))) (KD g))
def jU(g:Q_g):Option RT0:=
 (some ((false,()),()))
def oB(g:Q_g)(a:L5):Option RT8:=
 (Uu a).bind λr=>(some ((r,()),()):Option RT8)
def eF(g:Q_g)(a:Int):Option RT8:=
 (qH a).bind λr=>(some ((r,()),()):Option RT8)
def fE(g:Q_g)(a:L5):Option RT2:=
 (Vl a).bind λr=>(some ((r,()),()):Option RT2)
def iI(g:Q_g)(a:(b6H)):b6B:=
 (cond (decide ((a.length:Int)>0)) ((f7 a 0).bind λb=>(cond (decide ((b.toNat:Int)=45)) ((okP (F1 1 (a.length:Int) (a.length:Int))).bind λ_=>Tp g a (B4 a 1 (a.length:Int))) (Tp g a a))) (Tp g a a))
def Zg(g:Q_g)(a:(b6H))(b:(b6H))(c:Int):b6B:=
 (cond (decide (c<(b.length:Int))) ((f7 b c).bind λd=>(cond (decide ((d.toNat:Int)<48)) (some ((0,2,()),())) ((f7 b c).bind λe=>(cond (decide ((e.toNat:Int)>57)) (some ((0,2,()),())) (bY g a b (w64 (c+1))))))) (CT g a b))
def tW(g:Q_g)(a:(b6H))(b:(b6H)):b6B:=
 bY g a b 0
def iJ(g:Q_g)(a:(b6H))(b:(b6H)):b6B:=
 (cond (decide ((b.length:Int)=0)) (some ((0,2,()),())) ((f7 b 0).bind λc=>(cond (decide ((c.toNat:Int)=48)) (cond (decide ((a.length:Int)>1)) (some ((0,2,()),())) (cX g a b)) (cX g a b))))
def mZ(g:Q_g)(a:(b6H))(b:(b6H)):b6B:=
 (cond (decide ((a.length:Int)>(b.length:Int))) (mU g a b ([57,50,50,51,51,55,50,48,51,54,56,53,52,55,55,53,56,48,56]:b6H)) (mU g a b ([57,50,50,51,51,55,50,48,51,54,56,53,52,55,55,53,56,48,55]:b6H)))
def Xj(g:Q_g)(a:(b6H))(b:(b6H))(c:Int)(d:Int):b6B:=
 (cond (decide (d<(b.length:Int))) ((f7 b d).bind λe=>pX g a b (IntKind.wrap .u64 ((IntKind.wrap .u64 ((IntKind.wrap .u64 (c*10))+(IntKind.wrap .u64 (e.toNat:Int))))-48)) (w64 (d+1))) (RQ g a b c))
def jJ(g:Q_g)(a:(b6H))(b:(b6H)):b6B:=
 pX g a b 0 0
def sZ(g:Q_g)(a:(b6H))(b:(b6H))(c:(b6H)):b6B:=
 (cond (decide ((b.length:Int)>(c.length:Int))) (some ((0,14,()),())) (cond (decide ((b.length:Int)=(c.length:Int))) (cond (!(Op.bytesLess b c||decide (b=c))) (some ((0,14,()),())) (qV g a b)) (qV g a b)))
def eI(g:Q_g)(a:(b6H))(b:(b6H))(c:Int):b6B:=
 (cond (decide ((a.length:Int)>(b.length:Int))) ((SE g (w64 c)).bind λd=>((a0U g d.1.1).bind λe=>((PP g e.1.1).bind λf=>(some ((f.1.1,0,()),()))))) (some (((w64 c),0,()),())))
def eB(g:Q_g)(a:(b6H))(b:Int):b6z:=
 mK g a b b
def Xl(g:Q_g)(a:(b6H))(b:Int)(c:Int):b6z:=
 (cond (decide (c<(a.length:Int))) ((f7 a c).bind λd=>((Jt g (d.toNat:Int)).bind λe=>(cond (decide (e.1.1=3)) (mK g a b (w64 (c+1))) (nM g a b c)))) (nM g a b c))
def oD(g:Q_g)(a:(b6H))(b:Int)(c:Int):b6z:=
 ((zH g a c).bind λd=>(cond (decide (d.1.1=(w64 (c+1)))) ((f7 a c).bind λe=>(cond (decide ((e.toNat:Int)=105)) (dT g a b c d 8388607 4) (tC g a b c d))) (tC g a b c d)))
def Vi(g:Q_g)(a:(b6H))(b:Int)(c:Int)(d:RT2)(e:Int)(f:Int):b6z:=
 (cond (decide (b<(w64 (c-1)))) ((f7 a b).bind λh=>(cond (decide ((h.toNat:Int)=48)) (dH g a (w64 (b+1)) c d e f) (nF g a b c d e f))) (nF g a b c d e f))
def fD(g:Q_g)(a:(b6H))(b:Int)(c:Int)(d:RT2)(e:Int)(f:Int):b6z:=
 dH g a b c d e f
def rS(g:Q_g)(a:(b6H))(b:Int)(c:Int)(d:RT2):b6z:=
 (cond (!(decide (d.1.1=c))) (some (((s9.mk 3 0 0 0 ([]:b6H)),0,4,()),())) (dT g a b c d 9223372036854775807 3))
def dR(g:Q_g)(a:(b6H))(b:Int)(c:Int)(d:RT2)(e:Int)(f:Int):b6z:=
 ((okP (F1 b c (a.length:Int))).bind λ_=>((EZ g (B4 a b c)).bind λh=>(cond (!(decide (h.1.2.1=0))) (some (((s9.mk f 0 0 0 ([]:b6H)),0,14,()),())) (cond (decide (h.1.1>e)) (some (((s9.mk f 0 0 0 ([]:b6H)),0,14,()),())) (some (((s9.mk f 0 0 h.1.1 ([]:b6H)),d.1.1,0,()),()))))))
def pR(g:Q_g)(a:Int):Option RT2:=
 (cond (decide (a>=48)) (cond (decide (a<=57)) (some (((w64 ((w64 a)-48)),()),())) (oU g a)) (oU g a))
def kT(g:Q_g)(a:Int):Option RT2:=
 (cond (decide (a>=65)) (cond (decide (a<=70)) (some (((w64 ((w64 a)-55)),()),())) (mE g)) (mE g))
def jS(g:Q_g)(a:Int):Option RT2:=
 (cond (decide (a>=97)) (cond (decide (a<=102)) (some (((w64 ((w64 a)-87)),()),())) (jG g a)) (jG g a))
def BO(g:Q_g):Option RT2:=
 (some (((-1),()),()))
def fN(g:Q_g)(a:(b6H)):b6D:=
 (cond (decide ((a.length:Int)=0)) (some ((([]:b6H),0,false,()),())) ((f7 a 0).bind λb=>(cond (!(decide ((b.toNat:Int)=34))) (some ((([]:b6H),0,false,()),())) (tJ g a 1 ([]:List Int)))))
def oV(g:Q_g)(a:(b6H))(b:Int)(c:(List Int)):b6D:=
 (cond (decide (b<(a.length:Int))) ((f7 a b).bind λd=>(cond (decide ((d.toNat:Int)<32)) (some ((([]:b6H),b,false,()),())) (cond (decide ((d.toNat:Int)>126)) (some ((([]:b6H),b,false,()),())) (cond (decide ((d.toNat:Int)=34)) ((Ty c).bind λ_=>(some (((A1 c),(w64 (b+1)),true,()),()))) (cond (!(decide ((d.toNat:Int)=92))) ((B9 1 c ([(d.toNat:Int)]:List Int)).bind λe=>Mk g a b e) (cond (decide ((w64 (b+1))>=(a.length:Int))) (some ((([]:b6H),(w64 (b+1)),false,()),())) ((f7 a (w64 (b+1))).bind λf=>(cond (decide ((f.toNat:Int)=34)) (eD g a b c) (cond (decide ((f.toNat:Int)=92)) (eD g a b c) (cond (decide ((f.toNat:Int)=110)) ((B9 1 c ([10]:List Int)).bind λh=>Mk g a (w64 (b+1)) h) (cond (decide ((f.toNat:Int)=116)) ((B9 1 c ([9]:List Int)).bind λj=>Mk g a (w64 (b+1)) j) (cond (decide ((f.toNat:Int)=120)) (zK g a b 1 c) (some ((([]:b6H),(w64 (b+1)),false,()),())))))))))))))) (ZH g a))
def sW(g:Q_g)(a:(b6H))(b:Int)(c:(List Int)):b6D:=
 ((f7 a (w64 (b+1))).bind λd=>((B9 1 c ([(d.toNat:Int)]:List Int)).bind λe=>Mk g a (w64 (b+1)) e))
def Si(g:Q_g)(a:(b6H))(b:Int)(c:Int)(d:(List Int)):b6D:=
 (cond (decide (c<=2)) (cond (decide ((w64 ((w64 (b+1))+c))>=(a.length:Int))) (some ((([]:b6H),(w64 ((w64 (b+1))+c)),false,()),())) ((f7 a (w64 ((w64 (b+1))+c))).bind λe=>((Xe g (e.toNat:Int)).bind λf=>(cond (decide (f.1.1<0)) (some ((([]:b6H),(w64 ((w64 (b+1))+c)),false,()),())) (zK g a b (w64 (c+1)) d))))) (a0s g a b d))
def gJ(g:Q_g)(a:(b6H)):b6D:=
 (some ((([]:b6H),(a.length:Int),false,()),()))
def bH(g:Q_g)(a:(b6H))(b:Int)(c:(List Int)):b6D:=
 tJ g a (w64 (b+1)) c
def qI(g:Q_g)(a:(b6H))(b:Int)(c:(List Int)):b6D:=
 ((f7 a (w64 ((w64 (b+1))+1))).bind λd=>((Xe g (d.toNat:Int)).bind λe=>((f7 a (w64 ((w64 (b+1))+2))).bind λf=>((Xe g (f.toNat:Int)).bind λh=>((B9 1 c ([(IntKind.wrap .u8 (w64 ((w64 (e.1.1*16))+h.1.1)))]:List Int)).bind λj=>Mk g a (w64 ((w64 (b+1))+2)) j)))))
def oS(g:Q_g)(a:(b6H))(b:Int):b6z:=
 ((f7 a b).bind λc=>((Jt g (c.toNat:Int)).bind λd=>(cond (decide (d.1.1=1)) (cJ g a b) (cond (decide (d.1.1=2)) (cJ g a b) (cond (decide (d.1.1=3)) ((YE g a b).bind λe=>(some ((e.1.1,e.1.2.1,e.1.2.2.1,()),()))) ((f7 a b).bind λf=>(cond (decide ((f.toNat:Int)=34)) ((okP (F1 b (a.length:Int) (a.length:Int))).bind λ_=>((IZ g (B4 a b (a.length:Int))).bind λh=>(cond (!h.1.2.2.1) (some (((s9.mk 0 0 0 0 ([]:b6H)),0,4,()),())) (some (((s9.mk 5 0 0 0 h.1.1),(w64 (b+h.1.2.1)),0,()),()))))) (Vj g a b 0))))))))
def sU(g:Q_g)(a:(b6H))(b:Int):b6z:=
 ((zH g a b).bind λc=>((okP (F1 b c.1.1 (a.length:Int))).bind λ_=>((f7 a b).bind λd=>((Jt g (d.toNat:Int)).bind λe=>(cond (decide (e.1.1=2)) (some (((s9.mk 2 0 0 0 (B4 a b c.1.1)),c.1.1,0,()),())) ((FF g (B4 a b c.1.1)).bind λf=>(cond f.1.1 (some (((s9.mk 6 0 0 0 (B4 a b c.1.1)),c.1.1,0,()),())) (some (((s9.mk 1 0 0 0 (B4 a b c.1.1)),c.1.1,0,()),())))))))))
def Uy(g:Q_g)(a:(b6H))(b:Int)(c:Int):b6z:=
 (cond (decide (c<(([[38,38],[124,124],[61,61],[33,61],[60,61],[62,61]]:List (b6H)).length:Int))) (cond (decide ((w64 (b+2))<=(a.length:Int))) ((okP (F1 b (w64 (b+2)) (a.length:Int))).bind λ_=>((f7 ([[38,38],[124,124],[61,61],[33,61],[60,61],[62,61]]:List (b6H)) c).bind λd=>((([[38,38],[124,124],[61,61],[33,61],[60,61],[62,61]]:List (b6H))[(Int.toNat c)]?).bind λe=>(cond (decide ((B4 a b (w64 (b+2)))=e)) ((f7 ([[38,38],[124,124],[61,61],[33,61],[60,61],[62,61]]:List (b6H)) c).bind λf=>((([[38,38],[124,124],[61,61],[33,61],[60,61],[62,61]]:List (b6H))[(Int.toNat c)]?).bind λh=>(some (((s9.mk 7 0 0 0 h),(w64 (b+2)),0,()),())))) (Vj g a b (w64 (c+1))))))) (Vj g a b (w64 (c+1)))) (XD g a b))
def oA(g:Q_g)(a:(b6H))(b:Int):b6z:=
 qX g a b 0
def Ug(g:Q_g)(a:(b6H))(b:Int)(c:Int):b6z:=
 (cond (decide (c<(([43,45,42,47,37,60,62,33,61,40,41,123,125,91,93,44,59,58,46]:b6H).length:Int))) ((f7 a b).bind λd=>((f7 ([43,45,42,47,37,60,62,33,61,40,41,123,125,91,93,44,59,58,46]:b6H) c).bind λe=>(cond (decide ((d.toNat:Int)=(e.toNat:Int))) ((okP (F1 c (w64 (c+1)) (([43,45,42,47,37,60,62,33,61,40,41,123,125,91,93,44,59,58,46]:b6H).length:Int))).bind λ_=>(some (((s9.mk 7 0 0 0 (B4 ([43,45,42,47,37,60,62,33,61,40,41,123,125,91,93,44,59,58,46]:b6H) c (w64 (c+1)))),(w64 (b+1)),0,()),()))) (qX g a b (w64 (c+1)))))) (OO g))
def nQ(g:Q_g):b6z:=
 (some (((s9.mk 0 0 0 0 ([]:b6H)),0,4,()),()))
def uB(g:Q_g)(a:(b6H)):Option Mg:=
 (cond (decide ((a.length:Int)>65536)) (some ((([]:List s9),(A7.mk 3 0 0),()),())) ((DW g a 0).bind λb=>vS g a b.1.1 0 1 1 ([]:List s9)))
def iD(g:Q_g)(a:(b6H))(b:Int)(c:Int)(d:Int)(e:Int)(f:(List s9)):Option Mg:=
 ((okP (F1 c (a.length:Int) (a.length:Int))).bind λ_=>((XS g (B4 a c (a.length:Int)) (w64 (b-c))).bind λh=>(cond (decide (h.1.1>1)) (kZ g a b (w64 (d+(w64 (h.1.1-1)))) h.1.2.1 f) (kZ g a b d (w64 (e+(w64 (h.1.2.1-1)))) f))))
def dB(g:Q_g)(a:(b6H))(b:Int)(c:Int)(d:Int)(e:(List s9)):Option Mg:=
 (cond (decide (b>=(a.length:Int))) ((B9 48 e ([(s9.mk 8 c d 0 ([]:b6H))]:List s9)).bind λf=>(some ((f,(A7.mk 0 0 0),()),()))) ((bB g a b).bind λh=>(cond (!(decide (h.1.2.2.1=0))) (some ((([]:List s9),(A7.mk h.1.2.2.1 c d),()),())) ((B9 48 e ([(s9.mk h.1.1.Ks c d h.1.1.Ns h.1.1.Ds)]:List s9)).bind λj=>((DW g a h.1.2.1).bind λk=>vS g a k.1.1 b c d j)))))
def tY(g:Q_g)(a:l7):Option RT0:=
 (some (((!(decide (a.F.Code=0))),()),()))
def gW(g:Q_g)(a:l7):Option RT5:=
 ((f7 a.L a.I).bind λb=>(some ((b,()),())))
def rJ(g:Q_g)(a:l7)(b:(b6H)):Option RT0:=
 ((W8 g a).bind λc=>((Dj g a).bind λd=>(cond (!d.1.1) (cond (decide (c.1.1.Ks=6)) (some (((decide (c.1.1.Ds=b)),()),())) (cond (decide (c.1.1.Ks=7)) (some (((decide (c.1.1.Ds=b)),()),())) (some ((false,()),())))) (some ((false,()),())))))
def tD(g:Q_g)(a:Int)(b:s9)(c:(b6H))(d:Int)(e:(List d7)):Option Wj:=
 ((B9 56 ([(d7.mk a b.Ls b.Id (e.length:Int) d c)]:List d7) e).bind λf=>(some ((f,()),())))
def mL(g:Q_g)(a:l7)(b:Int):Option RT6:=
 ((Dj g a).bind λc=>(cond (!c.1.1) ((W8 g a).bind λd=>((W8 g a).bind λe=>(some (((l7.mk a.L a.I a.Is (A7.mk b d.1.1.Ls e.1.1.Id)),()),())))) (some ((a,()),()))))
def oI(g:Q_g)(a:l7)(b:(b6H)):Option RT6:=
 ((G3 g a b).bind λc=>(cond (!c.1.1) ((Gd g a 5).bind λd=>(some ((d.1.1,()),()))) (some (((l7.mk a.L (w64 (a.I+1)) a.Is a.F),()),()))))
def pQ(g:Q_g)(a:l7)(b:Int):Option N3:=
 ((W8 g a).bind λc=>((Dj g a).bind λd=>(cond d.1.1 (uN g a c) (cond (!(decide (c.1.1.Ks=b))) (uN g a c) (some ((c.1.1,(l7.mk a.L (w64 (a.I+1)) a.Is a.F),()),()))))))
def vI(g:Q_g)(a:l7)(b:RT5):Option N3:=
 ((Gd g a 5).bind λc=>(some ((b.1.1,c.1.1,()),())))
def qL(g:Q_g)(a:l7)(b:(b6H)):Option RT6:=
 ((G3 g a b).bind λc=>(cond c.1.1 (cond (decide (a.Is>=40)) ((Gd g a 6).bind λd=>(some ((d.1.1,()),()))) (qD g b a)) (qD g b a)))
def pJ(g:Q_g)(a:(b6H))(b:l7):Option RT6:=
 ((L4 g b a).bind λc=>(some (((l7.mk c.1.1.L c.1.1.I (w64 (c.1.1.Is+1)) c.1.1.F),()),())))
def qS(g:Q_g)(a:l7)(b:(b6H)):Option RT6:=
 ((L4 g a b).bind λc=>(some (((l7.mk c.1.1.L c.1.1.I (w64 (c.1.1.Is-1)) c.1.1.F),()),())))
def lK(g:Q_g)(a:l7):b6w:=
 ((W8 g a).bind λb=>pE g 0 a b)
def Ul(g:Q_g)(a:Int)(b:l7)(c:RT5):b6w:=
 (cond (decide (a<(([[105,110,116],[98,111,111,108],[115,116,114],[99,111,109,112]]:List (b6H)).length:Int))) ((f7 ([[105,110,116],[98,111,111,108],[115,116,114],[99,111,109,112]]:List (b6H)) a).bind λd=>((([[105,110,116],[98,111,111,108],[115,116,114],[99,111,109,112]]:List (b6H))[(Int.toNat a)]?).bind λe=>((G3 g b e).bind λf=>(cond f.1.1 ((I4 g (IntKind.wrap .u8 (w64 (15+a))) c.1.1 ([]:b6H) 0 ([]:List d7)).bind λh=>((f7 ([[105,110,116],[98,111,111,108],[115,116,114],[99,111,109,112]]:List (b6H)) a).bind λj=>((([[105,110,116],[98,111,111,108],[115,116,114],[99,111,109,112]]:List (b6H))[(Int.toNat a)]?).bind λk=>((L4 g b k).bind λl=>(some ((h.1.1,l.1.1,()),())))))) (pE g (w64 (a+1)) b c))))) (DO g b c))
def kJ(g:Q_g)(a:l7)(b:RT5):b6w:=
 ((G3 g a ([91]:b6H)).bind λc=>(cond c.1.1 ((Cp g a ([91]:b6H)).bind λd=>((Mz g d.1.1).bind λe=>((I4 g 20 b.1.1 ([]:b6H) 0 e.1.1).bind λf=>((Ea g e.1.2.1 ([93]:b6H)).bind λh=>(some ((f.1.1,h.1.1,()),())))))) ((Ig g a 2).bind λj=>((I4 g 19 j.1.1 j.1.1.Ds 0 ([]:List d7)).bind λk=>(some ((k.1.1,j.1.2.1,()),()))))))
def pD(g:Q_g)(a:l7)(b:Int):b6w:=
 ((Ig g a 1).bind λc=>((L4 g c.1.2.1 ([58]:b6H)).bind λd=>((Mz g d.1.1).bind λe=>((I4 g b c.1.1 c.1.1.Ds 0 e.1.1).bind λf=>(some ((f.1.1,e.1.2.1,()),()))))))
def dA(g:Q_g)(a:l7):b6w:=
 ((W8 g a).bind λb=>((L4 g a ([114,101,99]:b6H)).bind λc=>((Ig g c.1.1 2).bind λd=>((Cp g d.1.2.1 ([123]:b6H)).bind λe=>cE g e.1.1 b d ([]:List d7)))))
def gO(g:Q_g)(a:l7)(b:RT5)(c:N3)(d:(List d7)):b6w:=
 ((Dj g a).bind λe=>(cond (!e.1.1) ((G3 g a ([125]:b6H)).bind λf=>(cond (!f.1.1) ((lM g a 3).bind λh=>((L4 g h.1.2.1 ([59]:b6H)).bind λj=>((B9 56 d h.1.1).bind λk=>cE g j.1.1 b c k))) (pO g a b c d))) (pO g a b c d)))
def eY(g:Q_g)(a:l7)(b:RT5)(c:N3)(d:(List d7)):b6w:=
 ((I4 g 2 b.1.1 c.1.1.Ds 0 d).bind λe=>((Ea g a ([125]:b6H)).bind λf=>(some ((e.1.1,f.1.1,()),()))))
def uH(g:Q_g)(a:(List d7))(b:(List d7)):Option Wj:=
 ((B9 56 ([]:List d7) a).bind λc=>((B9 56 c b).bind λd=>(some ((d,()),()))))
def jY(g:Q_g)(a:l7):b6w:=
 ((Cp g a ([40]:b6H)).bind λb=>lE g 0 b.1.1 ([]:List d7))
def rH(g:Q_g)(a:Int)(b:l7)(c:(List d7)):b6w:=
 ((Dj g b).bind λd=>(cond (!d.1.1) ((G3 g b ([41]:b6H)).bind λe=>(cond (!e.1.1) (cond (decide (a>0)) ((L4 g b ([44]:b6H)).bind λf=>oK g a f.1.1 c) (oK g a b c)) (jR g b c))) (jR g b c)))
def pY(g:Q_g)(a:Int)(b:l7)(c:(List d7)):b6w:=
 ((O2 g b 1).bind λd=>((B9 56 c d.1.1).bind λe=>lE g (w64 (a+1)) d.1.2.1 e))
def nO(g:Q_g)(a:l7)(b:(List d7)):b6w:=
 ((Ea g a ([41]:b6H)).bind λc=>(some ((b,c.1.1,()),())))
def uD(g:Q_g)(a:l7):b6w:=
 ((W8 g a).bind λb=>((Dj g a).bind λc=>(cond c.1.1 (some ((([(d7.mk 25 0 0 0 0 ([]:b6H))]:List d7),a,()),())) (cond (decide (b.1.1.Ks=3)) ((I4 g 21 b.1.1 ([]:b6H) b.1.1.Ns ([]:List d7)).bind λd=>(some ((d.1.1,(l7.mk a.L (if(w64 ((a.L.length:Int)-1))<(w64 (a.I+1))then(w64 ((a.L.length:Int)-1))else(w64 (a.I+1))) a.Is a.F),()),()))) (cond (decide (b.1.1.Ks=4)) ((I4 g 22 b.1.1 ([]:b6H) b.1.1.Ns ([]:List d7)).bind λe=>(some ((e.1.1,(l7.mk a.L (if(w64 ((a.L.length:Int)-1))<(w64 (a.I+1))then(w64 ((a.L.length:Int)-1))else(w64 (a.I+1))) a.Is a.F),()),()))) (cond (decide (b.1.1.Ks=5)) ((I4 g 23 b.1.1 b.1.1.Ds 0 ([]:List d7)).bind λf=>(some ((f.1.1,(l7.mk a.L (if(w64 ((a.L.length:Int)-1))<(w64 (a.I+1))then(w64 ((a.L.length:Int)-1))else(w64 (a.I+1))) a.Is a.F),()),()))) ((G3 g a ([116,114,117,101]:b6H)).bind λh=>(cond h.1.1 ((I4 g 24 b.1.1 ([]:b6H) 1 ([]:List d7)).bind λj=>(some ((j.1.1,(l7.mk a.L (if(w64 ((a.L.length:Int)-1))<(w64 (a.I+1))then(w64 ((a.L.length:Int)-1))else(w64 (a.I+1))) a.Is a.F),()),()))) ((G3 g a ([102,97,108,115,101]:b6H)).bind λk=>(cond k.1.1 ((I4 g 24 b.1.1 ([]:b6H) 0 ([]:List d7)).bind λl=>(some ((l.1.1,(l7.mk a.L (if(w64 ((a.L.length:Int)-1))<(w64 (a.I+1))then(w64 ((a.L.length:Int)-1))else(w64 (a.I+1))) a.Is a.F),()),()))) ((G3 g a ([110,105,108]:b6H)).bind λm=>(cond m.1.1 ((I4 g 25 b.1.1 ([]:b6H) 0 ([]:List d7)).bind λn=>(some ((n.1.1,(l7.mk a.L (if(w64 ((a.L.length:Int)-1))<(w64 (a.I+1))then(w64 ((a.L.length:Int)-1))else(w64 (a.I+1))) a.Is a.F),()),()))) (cond (decide (b.1.1.Ks=1)) ((G3 g (l7.mk a.L (if(w64 ((a.L.length:Int)-1))<(w64 (a.I+1))then(w64 ((a.L.length:Int)-1))else(w64 (a.I+1))) a.Is a.F) ([40]:b6H)).bind λo=>(cond (!o.1.1) ((I4 g 26 b.1.1 b.1.1.Ds 0 ([]:List d7)).bind λp=>(some ((p.1.1,(l7.mk a.L (if(w64 ((a.L.length:Int)-1))<(w64 (a.I+1))then(w64 ((a.L.length:Int)-1))else(w64 (a.I+1))) a.Is a.F),()),()))) (Sk g a b))) (Sk g a b))))))))))))))
def rY(g:Q_g)(a:l7)(b:RT5):b6w:=
 ((G3 g a ([109,97,107,101]:b6H)).bind λc=>(cond c.1.1 ((Ig g (l7.mk a.L (if(w64 ((a.L.length:Int)-1))<(w64 (a.I+1))then(w64 ((a.L.length:Int)-1))else(w64 (a.I+1))) a.Is a.F) 2).bind λd=>((I4 g 19 d.1.1 d.1.1.Ds 0 ([]:List d7)).bind λe=>((I4 g 32 b.1.1 ([]:b6H) 0 e.1.1).bind λf=>((Cp g d.1.2.1 ([40]:b6H)).bind λh=>((Ea g h.1.1 ([41]:b6H)).bind λj=>(some ((f.1.1,j.1.1,()),()))))))) (IP g a)))
def lI(g:Q_g)(a:l7)(b:RT5):b6w:=
 (cond (decide (b.1.1.Ks=1)) ((KZ g (l7.mk a.L (if(w64 ((a.L.length:Int)-1))<(w64 (a.I+1))then(w64 ((a.L.length:Int)-1))else(w64 (a.I+1))) a.Is a.F)).bind λc=>((I4 g 27 b.1.1 b.1.1.Ds 0 c.1.1).bind λd=>(some ((d.1.1,c.1.2.1,()),())))) ((G3 g a ([40]:b6H)).bind λe=>(cond e.1.1 ((Cp g a ([40]:b6H)).bind λf=>((O2 g f.1.1 1).bind λh=>((Ea g h.1.2.1 ([41]:b6H)).bind λj=>(some ((h.1.1,j.1.1,()),()))))) ((G3 g a ([109,97,107,101]:b6H)).bind λk=>(cond k.1.1 ((G3 g (l7.mk a.L (if(w64 ((a.L.length:Int)-1))<(w64 (a.I+1))then(w64 ((a.L.length:Int)-1))else(w64 (a.I+1))) a.Is a.F) ([91]:b6H)).bind λl=>(cond l.1.1 ((Mz g (l7.mk a.L (if(w64 ((a.L.length:Int)-1))<(w64 (a.I+1))then(w64 ((a.L.length:Int)-1))else(w64 (a.I+1))) a.Is a.F)).bind λm=>((Cp g m.1.2.1 ([40]:b6H)).bind λn=>((O2 g n.1.1 1).bind λo=>((Dk g m.1.1 o.1.1).bind λp=>((I4 g 32 b.1.1 ([]:b6H) 0 p.1.1).bind λq=>((Ea g o.1.2.1 ([41]:b6H)).bind λs=>(some ((q.1.1,s.1.1,()),())))))))) (Qh g a b))) (Qh g a b))))))
def iA(g:Q_g)(a:l7):b6w:=
 ((Gd g a 5).bind λb=>(some ((([(d7.mk 25 0 0 0 0 ([]:b6H))]:List d7),b.1.1,()),())))
def pC(g:Q_g)(a:l7):b6w:=
 ((EC g a).bind λb=>Tw g b.1.1 b.1.2.1)
def pZ(g:Q_g)(a:(List d7))(b:l7):b6w:=
 ((G3 g b ([91]:b6H)).bind λc=>(cond c.1.1 (fW g a b) ((G3 g b ([46]:b6H)).bind λd=>(cond d.1.1 (fW g a b) (xJ g a b)))))
def cG(g:Q_g)(a:(List d7))(b:l7):b6w:=
 ((W8 g b).bind λc=>(cond (decide (c.1.1.Ds=([91]:b6H))) ((Cp g b ([91]:b6H)).bind λd=>((O2 g d.1.1 1).bind λe=>((Ea g e.1.2.1 ([93]:b6H)).bind λf=>((Dk g a e.1.1).bind λh=>((I4 g 28 c.1.1 ([]:b6H) 0 h.1.1).bind λj=>Tw g j.1.1 f.1.1))))) ((L4 g b ([46]:b6H)).bind λk=>((Ig g k.1.1 1).bind λl=>((I4 g 29 c.1.1 l.1.1.Ds 0 a).bind λm=>Tw g m.1.1 l.1.2.1)))))
def nK(g:Q_g)(a:(List d7))(b:l7):b6w:=
 (some ((a,b,()),()))
def uC(g:Q_g)(a:l7):b6w:=
 ((W8 g a).bind λb=>((G3 g a ([45]:b6H)).bind λc=>(cond (!c.1.1) ((G3 g a ([33]:b6H)).bind λd=>(cond (!d.1.1) ((XT g a).bind λe=>(some ((e.1.1,e.1.2.1,()),()))) (qR g a b))) (qR g a b))))
def qZ(g:Q_g)(a:l7)(b:RT5):b6w:=
 ((Cp g a b.1.1.Ds).bind λc=>((Ql g c.1.1).bind λd=>(cond (decide (b.1.1.Ds=([45]:b6H))) ((I4 g 30 b.1.1 ([]:b6H) 12 d.1.1).bind λe=>(some ((e.1.1,(l7.mk d.1.2.1.L d.1.2.1.I (w64 (d.1.2.1.Is-1)) d.1.2.1.F),()),()))) ((I4 g 30 b.1.1 ([]:b6H) 13 d.1.1).bind λf=>(some ((f.1.1,(l7.mk d.1.2.1.L d.1.2.1.I (w64 (d.1.2.1.Is-1)) d.1.2.1.F),()),()))))))
def dE(g:Q_g)(a:Int):Option Ah:=
 (cond (decide (a=1)) (some ((([([124,124]:b6H)]:List (b6H)),([15]:List Int),()),())) (cond (decide (a=2)) (some ((([([38,38]:b6H)]:List (b6H)),([14]:List Int),()),())) (cond (decide (a=3)) (some ((([([61,61]:b6H),([33,61]:b6H)]:List (b6H)),([6,7]:List Int),()),())) (cond (decide (a=4)) (some ((([([60]:b6H),([60,61]:b6H),([62]:b6H),([62,61]:b6H)]:List (b6H)),([8,9,10,11]:List Int),()),())) (cond (decide (a=5)) (some ((([([43]:b6H),([45]:b6H)]:List (b6H)),([1,2]:List Int),()),())) (some ((([([42]:b6H),([47]:b6H),([37]:b6H)]:List (b6H)),([3,4,5]:List Int),()),())))))))
def Uh(g:Q_g)(a:l7)(b:Int):b6w:=
 (cond (decide (b>6)) ((Ql g a).bind λc=>(some ((c.1.1,c.1.2.1,()),()))) ((O2 g a (w64 (b+1))).bind λd=>((BF g b).bind λe=>qC g b d.1.1 true d.1.2.1 e)))
def Uq(g:Q_g)(a:Int)(b:(List d7))(c:Bool)(d:l7)(e:Ah):b6w:=
 (cond c (Ll g a b false e 0 d) (NW g b d))
def Zd(g:Q_g)(a:Int)(b:(List d7))(c:Bool)(d:Ah)(e:Int)(f:l7):b6w:=
 (cond (decide (e<(d.1.1.length:Int))) (cond (!c) ((f7 d.1.1 e).bind λh=>((d.1.1[(Int.toNat e)]?).bind λj=>((G3 g f j).bind λk=>(cond k.1.1 ((W8 g f).bind λl=>((f7 d.1.1 e).bind λm=>((d.1.1[(Int.toNat e)]?).bind λn=>((L4 g f n).bind λo=>((O2 g o.1.1 (w64 (a+1))).bind λp=>((f7 d.1.2.1 e).bind λq=>((d.1.2.1[(Int.toNat e)]?).bind λs=>((Dk g b p.1.1).bind λt=>((I4 g 31 l.1.1 ([]:b6H) s t.1.1).bind λu=>Ll g a u.1.1 true d (w64 (e+1)) p.1.2.1))))))))) (Ll g a b c d (w64 (e+1)) f))))) (Ll g a b c d (w64 (e+1)) f)) (AH g a b c f d))
def fT(g:Q_g)(a:Int)(b:(List d7))(c:Bool)(d:l7)(e:Ah):b6w:=
 (cond (decide (a=3)) (some ((b,d,()),())) (cond (decide (a=4)) (some ((b,d,()),())) (qC g a b c d e)))
def dW(g:Q_g)(a:(List d7))(b:l7):b6w:=
 (some ((a,b,()),()))
def cA(g:Q_g)(a:l7):b6w:=
 ((W8 g a).bind λb=>((G3 g a ([118,97,114]:b6H)).bind λc=>(cond c.1.1 ((L4 g a ([118,97,114]:b6H)).bind λd=>((Ig g d.1.1 1).bind λe=>((L4 g e.1.2.1 ([58]:b6H)).bind λf=>((Mz g f.1.1).bind λh=>((L4 g h.1.2.1 ([61]:b6H)).bind λj=>((O2 g j.1.1 1).bind λk=>((Dk g h.1.1 k.1.1).bind λl=>((I4 g 7 b.1.1 e.1.1.Ds 0 l.1.1).bind λm=>((L4 g k.1.2.1 ([59]:b6H)).bind λn=>(some ((m.1.1,n.1.1,()),()))))))))))) ((G3 g a ([105,102]:b6H)).bind λo=>(cond o.1.1 ((L4 g a ([105,102]:b6H)).bind λp=>((O2 g p.1.1 1).bind λq=>((Ij g q.1.2.1).bind λs=>((Dk g q.1.1 s.1.1).bind λt=>((G3 g s.1.2.1 ([101,108,115,101]:b6H)).bind λu=>(cond u.1.1 ((L4 g s.1.2.1 ([101,108,115,101]:b6H)).bind λv=>((Ij g v.1.1).bind λw=>((Dk g t.1.1 w.1.1).bind λy=>wF g b w.1.2.1 y.1.1))) (wF g b s.1.2.1 t.1.1))))))) ((G3 g a ([119,104,105,108,101]:b6H)).bind λz=>(cond z.1.1 ((L4 g a ([119,104,105,108,101]:b6H)).bind λa1=>((O2 g a1.1.1 1).bind λb1=>((Ij g b1.1.2.1).bind λc1=>((Dk g b1.1.1 c1.1.1).bind λd1=>((I4 g 10 b.1.1 ([]:b6H) 0 d1.1.1).bind λe1=>(some ((e1.1.1,c1.1.2.1,()),()))))))) ((G3 g a ([114,101,116,117,114,110]:b6H)).bind λf1=>(cond f1.1.1 ((L4 g a ([114,101,116,117,114,110]:b6H)).bind λh1=>((G3 g h1.1.1 ([59]:b6H)).bind λj1=>(cond (!j1.1.1) ((O2 g h1.1.1 1).bind λk1=>GK g k1.1.1 b k1.1.2.1) (GK g ([]:List d7) b h1.1.1)))) ((G3 g a ([112,114,105,110,116]:b6H)).bind λl1=>(cond l1.1.1 ((L4 g a ([112,114,105,110,116]:b6H)).bind λm1=>((O2 g m1.1.1 1).bind λn1=>((I4 g 12 b.1.1 ([]:b6H) 0 n1.1.1).bind λo1=>((L4 g n1.1.2.1 ([59]:b6H)).bind λp1=>(some ((o1.1.1,p1.1.1,()),())))))) ((O2 g a 1).bind λq1=>((f7 q1.1.1 0).bind λs1=>((G3 g q1.1.2.1 ([61]:b6H)).bind λt1=>(cond t1.1.1 (cond (decide (s1.Ks=26)) (Wp g q1 b) (cond (decide (s1.Ks=28)) (Wp g q1 b) (cond (decide (s1.Ks=29)) (Wp g q1 b) (fM g q1 s1 b)))) (fM g q1 s1 b))))))))))))))))
def Vc(g:Q_g)(a:RT5)(b:l7)(c:(List d7)):b6w:=
 ((I4 g 9 a.1.1 ([]:b6H) 0 c).bind λd=>(some ((d.1.1,b,()),())))
def Yy(g:Q_g)(a:(List d7))(b:RT5)(c:l7):b6w:=
 ((I4 g 11 b.1.1 ([]:b6H) 0 a).bind λd=>((L4 g c ([59]:b6H)).bind λe=>(some ((d.1.1,e.1.1,()),()))))
def pU(g:Q_g)(a:v8)(b:RT5):b6w:=
 ((L4 g a.1.2.1 ([61]:b6H)).bind λc=>((O2 g c.1.1 1).bind λd=>((Dk g a.1.1 d.1.1).bind λe=>((I4 g 8 b.1.1 ([]:b6H) 0 e.1.1).bind λf=>((L4 g d.1.2.1 ([59]:b6H)).bind λh=>(some ((f.1.1,h.1.1,()),())))))))
def vF(g:Q_g)(a:v8)(b:RT5):b6w:=
 ((Gd g a.1.2.1 5).bind λc=>Tv g a c.1.1 b)
def iT(g:Q_g)(a:v8)(b:l7)(c:RT5):b6w:=
 ((I4 g 13 c.1.1 ([]:b6H) 0 a.1.1).bind λd=>((L4 g b ([59]:b6H)).bind λe=>(some ((d.1.1,e.1.1,()),()))))
def tG(g:Q_g)(a:v8)(b:d7)(c:RT5):b6w:=
 ((G3 g a.1.2.1 ([61]:b6H)).bind λd=>(cond d.1.1 (lA g a c) ((G3 g a.1.2.1 ([59]:b6H)).bind λe=>(cond e.1.1 (cond (!(decide (b.Ks=27))) (lA g a c) (Tv g a a.1.2.1 c)) (Tv g a a.1.2.1 c)))))
def pW(g:Q_g)(a:l7):b6w:=
 ((W8 g a).bind λb=>((Cp g a ([123]:b6H)).bind λc=>uX g c.1.1 b ([]:List d7)))
def lB(g:Q_g)(a:l7)(b:RT5)(c:(List d7)):b6w:=
 ((Dj g a).bind λd=>(cond (!d.1.1) ((G3 g a ([125]:b6H)).bind λe=>(cond (!e.1.1) ((Pg g a).bind λf=>((B9 56 c f.1.1).bind λh=>uX g f.1.2.1 b h)) (tM g a b c))) (tM g a b c)))
def mQ(g:Q_g)(a:l7)(b:RT5)(c:(List d7)):b6w:=
 ((I4 g 6 b.1.1 ([]:b6H) 0 c).bind λd=>((Ea g a ([125]:b6H)).bind λe=>(some ((d.1.1,e.1.1,()),()))))
def iY(g:Q_g)(a:l7):b6w:=
 ((W8 g a).bind λb=>((L4 g a ([102,110]:b6H)).bind λc=>((Ig g c.1.1 1).bind λd=>((Cp g d.1.2.1 ([40]:b6H)).bind λe=>uI g 0 e.1.1 b d ([]:List d7)))))
def qE(g:Q_g)(a:Int)(b:l7)(c:RT5)(d:N3)(e:(List d7)):b6w:=
 ((Dj g b).bind λf=>(cond (!f.1.1) ((G3 g b ([41]:b6H)).bind λh=>(cond (!h.1.1) (cond (decide (a>0)) ((L4 g b ([44]:b6H)).bind λj=>cQ g a j.1.1 c d e) (cQ g a b c d e)) (bW g a b c d e))) (bW g a b c d e)))
def jV(g:Q_g)(a:Int)(b:l7)(c:RT5)(d:N3)(e:(List d7)):b6w:=
 ((lM g b 5).bind λf=>((B9 56 e f.1.1).bind λh=>uI g (w64 (a+1)) f.1.2.1 c d h))
def fF(g:Q_g)(a:Int)(b:l7)(c:RT5)(d:N3)(e:(List d7)):b6w:=
 ((Ea g b ([41]:b6H)).bind λf=>((G3 g f.1.1 ([58]:b6H)).bind λh=>(cond h.1.1 ((L4 g f.1.1 ([58]:b6H)).bind λj=>((Mz g j.1.1).bind λk=>jT g a k.1.2.1 c d e k.1.1)) (jT g a f.1.1 c d e ([(d7.mk 14 0 0 0 0 ([]:b6H))]:List d7)))))
def nL(g:Q_g)(a:Int)(b:l7)(c:RT5)(d:N3)(e:(List d7))(f:(List d7)):b6w:=
 ((Ij g b).bind λh=>((Dk g e f).bind λj=>((Dk g j.1.1 h.1.1).bind λk=>((I4 g 4 c.1.1 d.1.1.Ds a k.1.1).bind λl=>(some ((l.1.1,h.1.2.1,()),()))))))
def cT(g:Q_g)(a:l7):b6w:=
 lW g a ([]:List d7)
def iZ(g:Q_g)(a:l7)(b:(List d7)):b6w:=
 ((Dj g a).bind λc=>(cond (!c.1.1) ((W8 g a).bind λd=>(cond (!(decide (d.1.1.Ks=8))) ((G3 g a ([114,101,99]:b6H)).bind λe=>(cond e.1.1 ((FG g a).bind λf=>Wy g f.1.2.1 b f.1.1) ((G3 g a ([102,110]:b6H)).bind λh=>(cond h.1.1 ((GE g a).bind λj=>Wy g j.1.2.1 b j.1.1) ((Gd g a 5).bind λk=>Wy g k.1.1 b ([]:List d7)))))) (bN g a b))) (bN g a b)))
def oH(g:Q_g)(a:l7)(b:(List d7))(c:(List d7)):b6w:=
 ((B9 56 b c).bind λd=>lW g a d)
def kW(g:Q_g)(a:l7)(b:(List d7)):b6w:=
 ((I4 g 1 (s9.mk 0 1 1 0 ([]:b6H)) ([]:b6H) 0 b).bind λc=>(some ((c.1.1,a,()),())))
def pS(g:Q_g)(a:(List d7))(b:l7):Option Mx:=
 ((W8 g b).bind λc=>(cond (!(decide (c.1.1.Ks=8))) ((Gd g b 5).bind λd=>gK g a d.1.1) (gK g a b)))
def gX(g:Q_g)(a:(List d7))(b:l7):Option Mx:=
 ((Dj g b).bind λc=>(cond c.1.1 (some ((([]:List d7),b.F,()),())) (some ((a,(A7.mk 0 0 0),()),()))))
def nW(g:Q_g)(a:(b6H)):Option Mx:=
 ((vP g a).bind λb=>(cond (!(decide (b.1.2.1.Code=0))) (some ((([]:List d7),b.1.2.1,()),())) ((a0F g (l7.mk b.1.1 0 0 (A7.mk 0 0 0))).bind λc=>((BG g c.1.1 c.1.2.1).bind λd=>(some ((d.1.1,d.1.2.1,()),()))))))
def kY(g:Q_g)(a:(List d7))(b:Int):Option RT3:=
 jD g a b (w64 (b+1)) ([]:List Int)
def Xb(g:Q_g)(a:(List d7))(b:Int)(c:Int)(d:(List Int)):Option RT3:=
 ((f7 a b).bind λe=>(cond (decide (c<(w64 ((w64 (b+1))+e.Cs)))) ((B9 8 d ([c]:List Int)).bind λf=>((f7 a c).bind λh=>jD g a b (w64 ((w64 (c+1))+h.Cs)) f)) (KB g d)))
def mI(g:Q_g)(a:(List Int)):Option RT3:=
 (some ((a,()),()))
def fY(g:Q_g)(a:(List d7))(b:Int):Option RT2:=
 (cond (decide (b>=(a.length:Int))) (some (((-1),()),())) ((f7 a b).bind λc=>(cond (decide (c.Cs<0)) (some (((-1),()),())) ((f7 a b).bind λd=>(cond (decide (d.Cs>(w64 ((w64 ((a.length:Int)-1))-b)))) (some (((-1),()),())) ((f7 a b).bind λe=>pN g a b e (w64 (b+1))))))))
def Ye(g:Q_g)(a:(List d7))(b:Int)(c:d7)(d:Int):Option RT2:=
 (cond (decide (d>=0)) (cond (decide (d<(w64 ((w64 (b+1))+c.Cs)))) ((Rz g a d).bind λe=>pN g a b c e.1.1) (wH g b c d)) (wH g b c d))
def Wf(g:Q_g)(a:Int)(b:d7)(c:Int):Option RT2:=
 (cond (!(decide (c=(w64 ((w64 (a+1))+b.Cs))))) (some (((-1),()),())) (some (((w64 ((w64 (a+1))+b.Cs)),()),())))
def nH(g:Q_g)(a:(List d7)):Option RT0:=
 (cond (decide ((a.length:Int)>0)) ((Rz g a 0).bind λb=>(some (((decide (b.1.1=(a.length:Int))),()),()))) (some ((false,()),())))
def eJ(g:Q_g)(a:(b6H))(b:Int):Option RT0:=
 (cond (decide ((a.length:Int)=0)) (some ((false,()),())) ((f7 a 0).bind λc=>(cond (decide ((c.toNat:Int)>=48)) ((f7 a 0).bind λd=>(cond (decide ((d.toNat:Int)<=57)) (some ((false,()),())) (bJ g a b))) (bJ g a b))))
def bI(g:Q_g)(a:(b6H))(b:Int):Option RT0:=
 ((bB g a 0).bind λc=>(cond (decide (c.1.2.2.1=0)) (cond (decide (c.1.2.1=(a.length:Int))) (some (((decide (c.1.1.Ks=b)),()),())) (some ((false,()),()))) (some ((false,()),()))))
def eH(g:Q_g)(a:(b6H)):Option RT0:=
 ((rU g a 2).bind λb=>(some ((b.1.1,()),())))
def cB(g:Q_g)(a:(b6H)):Option RT0:=
 ((rU g a 1).bind λb=>(some ((b.1.1,()),())))
def rI(g:Q_g)(a:d7):Option RT0:=
 (cond (decide (a.Ks=2)) (pT g a) (cond (decide (a.Ks=19)) (pT g a) (cond (decide (a.Ks=3)) (Ka g a) (cond (decide (a.Ks=5)) (Ka g a) (cond (decide (a.Ks=7)) (Ka g a) (cond (decide (a.Ks=26)) (Ka g a) (cond (decide (a.Ks=27)) (Ka g a) (cond (decide (a.Ks=29)) (Ka g a) (cond (decide (a.Ks=4)) ((eK g a.Ds).bind λb=>(some ((b.1.1,()),()))) (cond (decide (a.Ks=23)) (some (((decide (a.Ns=0)),()),())) (cond (!(decide (a.Ds=([]:b6H)))) (some ((false,()),())) (cond (decide (a.Ks=21)) (some (((decide (a.Ns>=0)),()),())) (cond (decide (a.Ks=22)) (cond (decide (a.Ns>=0)) (some (((decide (a.Ns<8388608)),()),())) (some ((false,()),()))) (cond (decide (a.Ks=24)) (cond (decide (a.Ns=0)) (some ((true,()),())) (some (((decide (a.Ns=1)),()),()))) (cond (decide (a.Ks=30)) (cond (decide (a.Ns=12)) (some ((true,()),())) (some (((decide (a.Ns=13)),()),()))) (cond (decide (a.Ks=31)) (cond (decide (a.Ns>=1)) (cond (decide (a.Ns<=11)) (some ((true,()),())) (cond (decide (a.Ns=14)) (some ((true,()),())) (some (((decide (a.Ns=15)),()),())))) (cond (decide (a.Ns=14)) (some ((true,()),())) (some (((decide (a.Ns=15)),()),())))) (some (((decide (a.Ns=0)),()),()))))))))))))))))))
def mH(g:Q_g)(a:d7):Option RT0:=
 ((AI g a.Ds).bind λb=>(cond b.1.1 (some (((decide (a.Ns=0)),()),())) (some ((false,()),()))))
def tL(g:Q_g)(a:d7):Option RT0:=
 ((eK g a.Ds).bind λb=>(cond b.1.1 (some (((decide (a.Ns=0)),()),())) (some ((false,()),()))))
def fC(g:Q_g)(a:d7):Option RT2:=
 (cond (decide (a.Ks=14)) (some ((48,()),())) (cond (decide (a.Ks>=15)) (cond (decide (a.Ks<=20)) (some ((116,()),())) (nX g a)) (nX g a)))
def oC(g:Q_g)(a:d7):Option RT2:=
 (cond (decide (a.Ks=6)) (some ((98,()),())) (cond (decide (a.Ks=5)) (some ((112,()),())) (cond (decide (a.Ks=3)) (some ((102,()),())) (cond (decide (a.Ks=2)) (some ((100,()),())) (cond (decide (a.Ks=4)) (some ((100,()),())) (WH g))))))
def gI(g:Q_g)(a:d7):Option RT2:=
 (cond (decide (a.Ks>=7)) (cond (decide (a.Ks<=13)) (some ((115,()),())) (qW g a)) (qW g a))
def nU(g:Q_g)(a:d7):Option RT2:=
 (cond (decide (a.Ks>=21)) (cond (decide (a.Ks<=32)) (some ((101,()),())) (uM g a)) (uM g a))
def sE(g:Q_g):Option RT2:=
 (some ((45,()),()))
def eR(g:Q_g)(a:(b6H))(b:Int):Option RT0:=
 dF g a b 0
def Yr(g:Q_g)(a:(b6H))(b:Int)(c:Int):Option RT0:=
 (cond (decide (c<(a.length:Int))) ((f7 a c).bind λd=>(cond (!(decide ((d.toNat:Int)=b))) (some ((false,()),())) (dF g a b (w64 (c+1))))) (UH g))
def iR(g:Q_g):Option RT0:=
 (some ((true,()),()))
def vE(g:Q_g)(a:(List d7))(b:Int):Option RT0:=
 ((Ai g a b).bind λc=>Zz g a b c 0 ([]:List Int))
def Zi(g:Q_g)(a:(List d7))(b:Int)(c:RT3)(d:Int)(e:(List Int)):Option RT0:=
 (cond (decide (d<(c.1.1.length:Int))) ((f7 c.1.1 d).bind λf=>((c.1.1[(Int.toNat d)]?).bind λh=>((f7 a h).bind λj=>((FK g j).bind λk=>((B9 1 e ([k.1.1]:List Int)).bind λl=>Zz g a b c (w64 (d+1)) l))))) (FR g a b c e))
def jB(g:Q_g)(a:(List d7))(b:Int)(c:RT3)(d:(List Int)):Option RT0:=
 ((Ty d).bind λ_=>(cond (decide ((c.1.1.length:Int)>0)) ((f7 c.1.1 0).bind λe=>((c.1.1[(Int.toNat 0)]?).bind λf=>((f7 a f).bind λh=>eO g a b d h))) (eO g a b d (d7.mk 0 0 0 0 0 ([]:b6H)))))
def oY(g:Q_g)(a:(List d7))(b:Int)(c:(List Int))(d:d7):Option RT0:=
 ((f7 a b).bind λe=>(cond (decide (e.Ks=1)) (cond (decide (b=0)) ((Ow g (A1 c) 100).bind λf=>(some ((f.1.1,()),()))) (some ((false,()),()))) (cond (decide (e.Ks=2)) ((Ow g (A1 c) 102).bind λh=>(some ((h.1.1,()),()))) (cond (decide (e.Ks=3)) (some (((decide ((A1 c)=([116]:b6H))),()),())) (cond (decide (e.Ks=5)) (some (((decide ((A1 c)=([116]:b6H))),()),())) (cond (decide (e.Ks=20)) (some (((decide ((A1 c)=([116]:b6H))),()),())) (cond (decide (e.Ks=4)) (cond (decide (((A1 c).length:Int)>=2)) ((f7 a b).bind λj=>(cond (decide ((w64 (((A1 c).length:Int)-2))=j.Ns)) ((okP (F1 (0:Int) (w64 (((A1 c).length:Int)-2)) ((A1 c).length:Int))).bind λ_=>((Ow g (B4 (A1 c) (0:Int) (w64 (((A1 c).length:Int)-2))) 112).bind λk=>(cond k.1.1 ((f7 (A1 c) (w64 (((A1 c).length:Int)-2))).bind λl=>(cond (decide ((l.toNat:Int)=116)) ((f7 (A1 c) (w64 (((A1 c).length:Int)-1))).bind λm=>(some (((decide ((m.toNat:Int)=98)),()),()))) ((f7 (A1 c) (w64 (((A1 c).length:Int)-2))).bind λn=>(cond (decide ((n.toNat:Int)=48)) ((f7 (A1 c) (w64 (((A1 c).length:Int)-1))).bind λm=>(some (((decide ((m.toNat:Int)=98)),()),()))) (some ((false,()),())))))) (some ((false,()),()))))) (some ((false,()),())))) (some ((false,()),()))) (cond (decide (e.Ks=6)) ((Ow g (A1 c) 115).bind λo=>(some ((o.1.1,()),()))) (cond (decide (e.Ks=7)) (some (((decide ((A1 c)=([116,101]:b6H))),()),())) (cond (decide (e.Ks=8)) (cond (decide ((A1 c)=([101,101]:b6H))) (cond (decide (d.Ks=26)) (some ((true,()),())) (cond (decide (d.Ks=28)) (some ((true,()),())) (some (((decide (d.Ks=29)),()),())))) (some ((false,()),()))) (cond (decide (e.Ks=9)) (cond (decide ((A1 c)=([101,98]:b6H))) (some ((true,()),())) (some (((decide ((A1 c)=([101,98,98]:b6H))),()),()))) (cond (decide (e.Ks=10)) (some (((decide ((A1 c)=([101,98]:b6H))),()),())) (cond (decide (e.Ks=11)) (cond (decide ((A1 c)=([]:b6H))) (some ((true,()),())) (some (((decide ((A1 c)=([101]:b6H))),()),()))) (cond (decide (e.Ks=12)) (some (((decide ((A1 c)=([101]:b6H))),()),())) (cond (decide (e.Ks=29)) (some (((decide ((A1 c)=([101]:b6H))),()),())) (cond (decide (e.Ks=30)) (some (((decide ((A1 c)=([101]:b6H))),()),())) (cond (decide (e.Ks=13)) (cond (decide ((A1 c)=([101]:b6H))) (some (((decide (d.Ks=27)),()),())) (some ((false,()),()))) (cond (decide (e.Ks=27)) ((Ow g (A1 c) 101).bind λp=>(some ((p.1.1,()),()))) (cond (decide (e.Ks=28)) (some (((decide ((A1 c)=([101,101]:b6H))),()),())) (cond (decide (e.Ks=31)) (some (((decide ((A1 c)=([101,101]:b6H))),()),())) (cond (decide (e.Ks=32)) (cond (decide ((A1 c)=([116]:b6H))) (cond (decide (d.Ks=19)) (some ((true,()),())) (cond (decide ((A1 c)=([116,101]:b6H))) (some (((decide (d.Ks=20)),()),())) (some ((false,()),())))) (cond (decide ((A1 c)=([116,101]:b6H))) (some (((decide (d.Ks=20)),()),())) (some ((false,()),())))) (cond (decide ((A1 c)=([]:b6H))) ((f7 a b).bind λq=>(cond (decide (q.Ks>=14)) ((f7 a b).bind λs=>(some (((decide (s.Ks<=26)),()),()))) (some ((false,()),())))) (some ((false,()),()))))))))))))))))))))))))
def nC(g:Q_g)(a:(List d7)):Option RT0:=
 ((iV g a).bind λb=>(cond (!b.1.1) (some ((false,()),())) ((f7 a 0).bind λc=>(cond (!(decide (c.Ks=1))) (some ((false,()),())) (mB g a 0)))))
def Yc(g:Q_g)(a:(List d7))(b:Int):Option RT0:=
 (cond (decide (b<(a.length:Int))) ((f7 a b).bind λc=>((FT g c).bind λd=>(cond (!d.1.1) (some ((false,()),())) ((CA g a b).bind λe=>(cond (!e.1.1) (some ((false,()),())) (mB g a (w64 (b+1)))))))) (KV g))
def iG(g:Q_g):Option RT0:=
 (some ((true,()),()))
def EU(g:Q_g)(a:d8):Option RT0:=
 (some (((!(decide (a.F.Code=0))),()),()))
def nZ(g:Q_g)(a:d8)(b:(b6H)):Option RT2:=
 rN g b a 0
def Zn(g:Q_g)(a:(b6H))(b:d8)(c:Int):Option RT2:=
 (cond (decide (c<(b.P.As.length:Int))) ((f7 b.P.As c).bind λd=>(cond (decide (d.If=a)) (some ((c,()),())) (rN g a b (w64 (c+1))))) (MQ g))
def vY(g:Q_g):Option RT2:=
 (some (((-1),()),()))
def nB(g:Q_g)(a:(List d7))(b:Int):Option RT3:=
 ((Ai g a 0).bind λc=>aA g a b c 0 ([]:List Int))
def Xk(g:Q_g)(a:(List d7))(b:Int)(c:RT3)(d:Int)(e:(List Int)):Option RT3:=
 (cond (decide (d<(c.1.1.length:Int))) ((f7 c.1.1 d).bind λf=>((c.1.1[(Int.toNat d)]?).bind λh=>((f7 a h).bind λj=>(cond (decide (j.Ks=b)) ((f7 c.1.1 d).bind λk=>((c.1.1[(Int.toNat d)]?).bind λl=>((B9 8 e ([l]:List Int)).bind λm=>aA g a b c (w64 (d+1)) m))) (aA g a b c (w64 (d+1)) e))))) (VS g e))
def qA(g:Q_g)(a:(List Int)):Option RT3:=
 (some ((a,()),()))
def jI(g:Q_g)(a:(List d7))(b:(List Int))(c:(b6H)):Option RT0:=
 bT g a b c 0
def Zu(g:Q_g)(a:(List d7))(b:(List Int))(c:(b6H))(d:Int):Option RT0:=
 (cond (decide (d<(b.length:Int))) ((f7 b d).bind λe=>((f7 a e).bind λf=>(cond (decide (f.Ds=c)) (some ((true,()),())) (bT g a b c (w64 (d+1)))))) (RV g))
def kS(g:Q_g):Option RT0:=
 (some ((false,()),()))
def tQ(g:Q_g)(a:Int):Option Nu:=
 dI g a 0 ([(v7.mk 0 0),(v7.mk 1 0),(v7.mk 2 0),(v7.mk 3 0),(v7.mk 4 0),(v7.mk 5 0)]:List v7)
def Tt(g:Q_g)(a:Int)(b:Int)(c:(List v7)):Option Nu:=
 (cond (decide (b<a)) (cond (decide (b<100)) ((B9 16 c ([(v7.mk 6 b)]:List v7)).bind λd=>dI g a (w64 (b+1)) d) (wX g c)) (wX g c))
def fJ(g:Q_g)(a:(List v7)):Option Nu:=
 (some ((a,()),()))
def Nn(g:Q_g)(a:d8)(b:Int)(c:l8):b6v:=
 ((B9 24 ([]:List l8) a.P.Ms).bind λd=>((f7 d b).bind λe=>((d[(Int.toNat b)]?).bind λf=>((U8 d (Int.toNat b) c).bind λh=>(some (((d8.mk (w8.mk a.P.No h a.P.To a.P.Rs a.P.Hs a.P.As a.P.Ss a.P.Vars a.P.Do) a.Rs a.F),()),()))))))
def rZ(g:Q_g)(a:(List v7))(b:Int):b6F:=
 ((B9 16 ([]:List v7) a).bind λc=>(cond (decide (b<1)) (some ((c,0,()),())) (cond (decide (b>=(a.length:Int))) (some ((c,0,()),())) (cond (decide (b=5)) (some ((c,0,()),())) (Xw g a b 0 c)))))
def Ux(g:Q_g)(a:(List v7))(b:Int)(c:Int)(d:(List v7)):b6F:=
 (cond (decide (c<(a.length:Int))) ((f7 a c).bind λe=>(cond (decide (e.Ks=7)) ((f7 a c).bind λf=>(cond (decide (f.Of=b)) (some ((d,c,()),())) (Xw g a b (w64 (c+1)) d))) (Xw g a b (w64 (c+1)) d))) (VO g a b d))
def tX(g:Q_g)(a:(List v7))(b:Int)(c:(List v7)):b6F:=
 ((B9 16 c ([(v7.mk 7 b)]:List v7)).bind λd=>(some ((d,(a.length:Int),()),())))
def rB(g:Q_g)(a:(List d7)):Option RT0:=
 ((iV g a).bind λb=>(cond (!b.1.1) (some ((false,()),())) ((B9 56 ([(d7.mk 1 0 0 (w64 ((a.length:Int)+2)) 0 ([]:b6H)),(d7.mk 2 0 0 (w64 ((a.length:Int)+1)) 0 ([82]:b6H)),(d7.mk 3 0 0 (a.length:Int) 0 ([102]:b6H))]:List d7) a).bind λc=>((rC g c).bind λd=>(some ((d.1.1,()),()))))))
def lF(g:Q_g)(a:(List v7))(b:(List (b6H)))(c:d7):Option RT2:=
 (cond (decide (c.Ks<19)) (some (((w64 ((w64 c.Ks)-14)),()),())) (qP g a b 0 c))
def Yl(g:Q_g)(a:(List v7))(b:(List (b6H)))(c:Int)(d:d7):Option RT2:=
 (cond (decide (c<(b.length:Int))) ((f7 b c).bind λe=>(cond (decide (e=d.Ds)) (cond (decide ((w64 (c+6))<(a.length:Int))) ((f7 a (w64 (c+6))).bind λf=>(cond (decide (f.Ks=6)) (some (((w64 (c+6)),()),())) (some ((0,()),())))) (some ((0,()),()))) (qP g a b (w64 (c+1)) d))) (QO g))
def pP(g:Q_g):Option RT2:=
 (some ((0,()),()))
def wB(g:Q_g)(a:(List v7))(b:(List (b6H)))(c:(List d7)):b6F:=
 ((B9 16 ([]:List v7) a).bind λd=>((GJ g c).bind λe=>(cond (!e.1.1) (some ((d,0,()),())) ((f7 c (w64 ((c.length:Int)-1))).bind λf=>((GH g a b f).bind λh=>(cond (decide (h.1.1=0)) (some ((d,0,()),())) (yF g c h.1.1 0 d)))))))
def rW(g:Q_g)(a:(List d7))(b:Int)(c:Int)(d:(List v7)):b6F:=
 (cond (decide (c<(w64 ((a.length:Int)-1)))) ((Mq g d b).bind λe=>yF g a e.1.2.1 (w64 (c+1)) e.1.1) (XX g b d))
def gE(g:Q_g)(a:Int)(b:(List v7)):b6F:=
 (some ((b,a,()),()))
def gC(g:Q_g)(a:d8)(b:Int)(c:l8):b6v:=
 ((B9 24 ([]:List l8) a.P.Ms).bind λd=>((f7 d b).bind λe=>((d[(Int.toNat b)]?).bind λf=>((U8 d (Int.toNat b) c).bind λh=>(some (((d8.mk (w8.mk a.P.No h a.P.To a.P.Rs a.P.Hs a.P.As a.P.Ss a.P.Vars a.P.Do) a.Rs a.F),()),()))))))
def iO(g:Q_g)(a:d8)(b:Int)(c:Int):b6v:=
 ((Q6 g a).bind λd=>(cond (!d.1.1) ((f7 a.P.No c).bind λe=>((f7 a.P.No c).bind λf=>(some (((d8.mk a.P a.Rs (A7.mk b e.Ls f.Id)),()),())))) (some ((a,()),()))))
def eW(g:Q_g)(a:d8)(b:Int):Option Q9:=
 ((f7 a.P.No b).bind λc=>(cond (decide (c.Ks=14)) (some ((0,a,()),())) ((f7 a.P.No b).bind λd=>(cond (decide (d.Ks=20)) ((sM g a (w64 (b+1))).bind λe=>((Q6 g e.1.2.1).bind λf=>(cond f.1.1 (some ((0,e.1.2.1,()),())) ((Mq g e.1.2.1.P.To e.1.1).bind λh=>((Xz g (d8.mk (w8.mk e.1.2.1.P.No e.1.2.1.P.Ms h.1.1 e.1.2.1.P.Rs e.1.2.1.P.Hs e.1.2.1.P.As e.1.2.1.P.Ss e.1.2.1.P.Vars e.1.2.1.P.Do) e.1.2.1.Rs e.1.2.1.F) b (l8.mk h.1.2.1 0 0)).bind λj=>(some ((h.1.2.1,j.1.1,()),()))))))) ((okP (F1 b (w64 (b+1)) (a.P.No.length:Int))).bind λ_=>((Tb g a.P.To a.Rs (B4 a.P.No b (w64 (b+1)))).bind λk=>(cond (decide (k.1.2.1=0)) ((Xx g a 8 b).bind λl=>(some ((0,l.1.1,()),()))) ((Xz g a b (l8.mk k.1.2.1 0 0)).bind λm=>(some ((k.1.2.1,m.1.1,()),()))))))))))
def mC(g:Q_g)(a:d8)(b:Int)(c:Int):b6v:=
 ((Q6 g a).bind λd=>(cond (!d.1.1) ((f7 a.P.No c).bind λe=>((f7 a.P.No c).bind λf=>(some (((d8.mk a.P a.Rs (A7.mk b e.Ls f.Id)),()),())))) (some ((a,()),()))))
def nR(g:Q_g)(a:d8):b6v:=
 ((eC g a.P.No 2).bind λb=>Up g a b 0 a)
def aT(g:Q_g)(a:d8)(b:RT3)(c:Int)(d:d8):b6v:=
 (cond (decide (c<(b.1.1.length:Int))) (cond (decide (c>=100)) ((f7 b.1.1 c).bind λe=>((gG g d 13 e).bind λf=>fU g a b c f.1.1)) (fU g a b c d)) (Tq g a b d))
def cU(g:Q_g)(a:d8)(b:RT3)(c:Int)(d:d8):b6v:=
 ((f7 b.1.1 c).bind λe=>((Jo g d e (l8.mk 0 c 0)).bind λf=>((f7 b.1.1 c).bind λh=>((f7 a.P.No h).bind λj=>((B9 16 f.1.1.Rs ([j.Ds]:List (b6H))).bind λk=>NQ g a b c f k)))))
def pG(g:Q_g)(a:d8)(b:RT3)(c:Int)(d:d8):b6v:=
 ((okP (F1 (0:Int) c (b.1.1.length:Int))).bind λ_=>((f7 b.1.1 c).bind λe=>((f7 a.P.No e).bind λf=>((Ph g a.P.No (B4 b.1.1 (0:Int) c) f.Ds).bind λh=>(cond h.1.1 ((f7 b.1.1 c).bind λj=>((gG g d 7 j).bind λk=>kG g a b c k.1.1)) (kG g a b c d))))))
def lC(g:Q_g)(a:d8)(b:RT3)(c:d8):b6v:=
 ((FZ g (b.1.1.length:Int)).bind λd=>vD g a b 0 (d8.mk (w8.mk c.P.No c.P.Ms d.1.1 c.P.Rs c.P.Hs c.P.As c.P.Ss c.P.Vars c.P.Do) c.Rs c.F))
def bR(g:Q_g)(a:d8)(b:RT3)(c:Int)(d:v6)(e:(List (b6H))):b6v:=
 Up g a b (w64 (c+1)) (d8.mk d.1.1.P e d.1.1.F)
def Zr(g:Q_g)(a:d8)(b:RT3)(c:Int)(d:d8):b6v:=
 (cond (decide (c<(b.1.1.length:Int))) ((f7 b.1.1 c).bind λe=>((Ai g a.P.No e).bind λf=>Se g a b c f (d.P.Hs.length:Int) c 0 d)) (WA g d))
def Yg(g:Q_g)(a:d8)(b:RT3)(c:Int)(d:RT3)(e:Int)(f:Int)(h:Int)(j:d8):b6v:=
 (cond (decide (h<(d.1.1.length:Int))) (cond (decide (h>=100)) ((f7 d.1.1 h).bind λk=>((Xx g j 13 k).bind λl=>aU g a b c d e h f l.1.1)) (aU g a b c d e h f j)) (aR g a b c d e f j))
def dJ(g:Q_g)(a:d8):b6v:=
 (some ((a,()),()))
def tH(g:Q_g)(a:d8)(b:RT3)(c:Int)(d:RT3)(e:Int)(f:Int)(h:Int)(j:d8):b6v:=
 ((Q6 g j).bind λk=>(cond k.1.1 (some ((j,()),())) ((f7 d.1.1 f).bind λl=>((sM g j (w64 (l+1))).bind λm=>((f7 d.1.1 f).bind λn=>((Xz g m.1.2.1 n (l8.mk m.1.1 0 0)).bind λo=>((f7 d.1.1 f).bind λp=>((f7 a.P.No p).bind λq=>((B9 24 o.1.1.P.Hs ([(U5.mk q.Ds m.1.1)]:List U5)).bind λs=>KF g a b c d e h f o s)))))))))
def sY(g:Q_g)(a:d8)(b:RT3)(c:Int)(d:RT3)(e:Int)(f:Int)(h:Int)(j:d8):b6v:=
 ((okP (F1 (0:Int) f (d.1.1.length:Int))).bind λ_=>((f7 d.1.1 f).bind λk=>((f7 a.P.No k).bind λl=>((Ph g a.P.No (B4 d.1.1 (0:Int) f) l.Ds).bind λm=>(cond m.1.1 ((f7 d.1.1 f).bind λn=>((Xx g j 7 n).bind λo=>Vp g a b c d e f h o.1.1)) (Vp g a b c d e f h j))))))
def oQ(g:Q_g)(a:d8)(b:RT3)(c:Int)(d:RT3)(e:Int)(f:Int)(h:d8):b6v:=
 ((f7 b.1.1 c).bind λj=>((f7 a.P.No j).bind λk=>((B9 32 h.P.Rs ([(Q3.mk k.Ds e (d.1.1.length:Int))]:List Q3)).bind λl=>MW g a b f h l)))
def kQ(g:Q_g)(a:d8)(b:RT3)(c:Int)(d:RT3)(e:Int)(f:Int)(h:Int)(j:v6)(k:(List U5)):b6v:=
 Se g a b c d e f (w64 (h+1)) (d8.mk (w8.mk j.1.1.P.No j.1.1.P.Ms j.1.1.P.To j.1.1.P.Rs k j.1.1.P.As j.1.1.P.Ss j.1.1.P.Vars j.1.1.P.Do) j.1.1.Rs j.1.1.F)
def mP(g:Q_g)(a:d8)(b:RT3)(c:Int)(d:d8)(e:(List Q3)):b6v:=
 vD g a b (w64 (c+1)) (d8.mk (w8.mk d.P.No d.P.Ms d.P.To e d.P.Hs d.P.As d.P.Ss d.P.Vars d.P.Do) d.Rs d.F)
def lU(g:Q_g)(a:(b6H)):Option RT2:=
 kK g a 0
def Xp(g:Q_g)(a:(b6H))(b:Int):Option RT2:=
 (cond (decide (b<(([[],[108,101,110],[116,101,120,116],[114,101],[105,109],[112,97,105,114],[99,104,114],[114,101,97,100],[114,97,110,100]]:List (b6H)).length:Int))) ((f7 ([[],[108,101,110],[116,101,120,116],[114,101],[105,109],[112,97,105,114],[99,104,114],[114,101,97,100],[114,97,110,100]]:List (b6H)) b).bind λc=>((([[],[108,101,110],[116,101,120,116],[114,101],[105,109],[112,97,105,114],[99,104,114],[114,101,97,100],[114,97,110,100]]:List (b6H))[(Int.toNat b)]?).bind λd=>(cond (decide (d=a)) (some ((b,()),())) (kK g a (w64 (b+1)))))) (MY g))
def hH(g:Q_g):Option RT2:=
 (some ((0,()),()))
def cZ(g:Q_g)(a:d8)(b:Int)(c:l8):b6v:=
 ((B9 24 ([]:List l8) a.P.Ms).bind λd=>((f7 d b).bind λe=>((d[(Int.toNat b)]?).bind λf=>((U8 d (Int.toNat b) c).bind λh=>(some (((d8.mk (w8.mk a.P.No h a.P.To a.P.Rs a.P.Hs a.P.As a.P.Ss a.P.Vars a.P.Do) a.Rs a.F),()),()))))))
def uF(g:Q_g)(a:d8)(b:Int)(c:Int):b6v:=
 ((Q6 g a).bind λd=>(cond (!d.1.1) ((f7 a.P.No c).bind λe=>((f7 a.P.No c).bind λf=>(some (((d8.mk a.P a.Rs (A7.mk b e.Ls f.Id)),()),())))) (some ((a,()),()))))
def oM(g:Q_g)(a:d8)(b:Int):Option Q9:=
 ((f7 a.P.No b).bind λc=>(cond (decide (c.Ks=14)) (some ((0,a,()),())) ((f7 a.P.No b).bind λd=>(cond (decide (d.Ks=20)) ((aZ g a (w64 (b+1))).bind λe=>((Q6 g e.1.2.1).bind λf=>(cond f.1.1 (some ((0,e.1.2.1,()),())) ((Mq g e.1.2.1.P.To e.1.1).bind λh=>((Rw g (d8.mk (w8.mk e.1.2.1.P.No e.1.2.1.P.Ms h.1.1 e.1.2.1.P.Rs e.1.2.1.P.Hs e.1.2.1.P.As e.1.2.1.P.Ss e.1.2.1.P.Vars e.1.2.1.P.Do) e.1.2.1.Rs e.1.2.1.F) b (l8.mk h.1.2.1 0 0)).bind λj=>(some ((h.1.2.1,j.1.1,()),()))))))) ((okP (F1 b (w64 (b+1)) (a.P.No.length:Int))).bind λ_=>((Tb g a.P.To a.Rs (B4 a.P.No b (w64 (b+1)))).bind λk=>(cond (decide (k.1.2.1=0)) ((Kl g a 8 b).bind λl=>(some ((0,l.1.1,()),()))) ((Rw g a b (l8.mk k.1.2.1 0 0)).bind λm=>(some ((k.1.2.1,m.1.1,()),()))))))))))
def pI(g:Q_g)(a:d8):b6v:=
 ((eC g a.P.No 4).bind λb=>Yo g a b 0 a)
def Ze(g:Q_g)(a:d8)(b:RT3)(c:Int)(d:d8):b6v:=
 (cond (decide (c<(b.1.1.length:Int))) ((f7 b.1.1 c).bind λe=>(cond (decide (c>=100)) ((Kl g d 13 e).bind λf=>lS g a b c e f.1.1) (lS g a b c e d))) (PL g d))
def aQ(g:Q_g)(a:d8)(b:RT3)(c:Int)(d:Int)(e:RT3)(f:Int)(h:Int)(j:d8):b6v:=
 (cond (decide (f<(w64 ((e.1.1.length:Int)-2)))) (cond (decide (f>=20)) ((f7 e.1.1 f).bind λk=>((Kl g j 13 k).bind λl=>Zc g a b c d e f h l.1.1)) (Zc g a b c d e f h j)) (Mn g a b c d e h j))
def sN(g:Q_g)(a:d8)(b:RT3)(c:Int)(d:Int)(e:Int)(f:d8):b6v:=
 ((Kl g f 7 d).bind λh=>rA g a b c d e h.1.1)
def gZ(g:Q_g)(a:d8):b6v:=
 (some ((a,()),()))
def rL(g:Q_g)(a:d8)(b:RT3)(c:Int)(d:Int)(e:RT3)(f:Int)(h:Int)(j:d8):b6v:=
 ((Q6 g j).bind λk=>(cond k.1.1 (some ((j,()),())) ((f7 e.1.1 f).bind λl=>((aZ g j (w64 (l+1))).bind λm=>((f7 e.1.1 f).bind λn=>((Rw g m.1.2.1 n (l8.mk m.1.1 0 0)).bind λo=>PM g a b c d e f h o))))))
def uP(g:Q_g)(a:d8)(b:RT3)(c:Int)(d:Int)(e:RT3)(f:Int)(h:Int)(j:d8):b6v:=
 ((okP (F1 (0:Int) f (e.1.1.length:Int))).bind λ_=>((f7 e.1.1 f).bind λk=>((f7 a.P.No k).bind λl=>((Ph g a.P.No (B4 e.1.1 (0:Int) f) l.Ds).bind λm=>(cond m.1.1 ((f7 e.1.1 f).bind λn=>((Kl g j 7 n).bind λo=>Ve g a b c d e f h o.1.1)) (Ve g a b c d e f h j))))))
def fO(g:Q_g)(a:d8)(b:RT3)(c:Int)(d:Int)(e:RT3)(f:Int)(h:d8):b6v:=
 ((Q6 g h).bind λj=>(cond j.1.1 (some ((h,()),())) ((f7 e.1.1 (w64 ((e.1.1.length:Int)-2))).bind λk=>((aZ g h k).bind λl=>((Rw g l.1.2.1 d (l8.mk l.1.1 c 0)).bind λm=>((f7 a.P.No d).bind λn=>((B9 72 m.1.1.P.As ([(x8.mk n.Ds d (w64 ((e.1.1.length:Int)-2)) l.1.1 0 0 0 0)]:List x8)).bind λo=>a0r g a b f m o)))))))
def eS(g:Q_g)(a:d8)(b:RT3)(c:Int)(d:Int)(e:Int)(f:d8):b6v:=
 ((Ai g a.P.No d).bind λh=>Pe g a b c d h 0 e f)
def pL(g:Q_g)(a:d8)(b:RT3)(c:Int)(d:Int)(e:RT3)(f:Int)(h:Int)(j:v6):b6v:=
 Pe g a b c d e (w64 (f+1)) h j.1.1
def uY(g:Q_g)(a:d8)(b:RT3)(c:Int)(d:v6)(e:(List x8)):b6v:=
 Yo g a b (w64 (c+1)) (d8.mk (w8.mk d.1.1.P.No d.1.1.P.Ms d.1.1.P.To d.1.1.P.Rs d.1.1.P.Hs e d.1.1.P.Ss d.1.1.P.Vars d.1.1.P.Do) d.1.1.Rs d.1.1.F)
def cS(g:Q_g)(a:d8)(b:RT3)(c:Int)(d:Int)(e:d8):b6v:=
 ((okP (F1 (0:Int) c (b.1.1.length:Int))).bind λ_=>((f7 a.P.No d).bind λf=>((Ph g a.P.No (B4 b.1.1 (0:Int) c) f.Ds).bind λh=>(cond h.1.1 (sJ g a b c d c e) ((f7 a.P.No d).bind λj=>((nJ g j.Ds).bind λk=>(cond (decide (k.1.1>0)) (sJ g a b c d c e) (rA g a b c d c e))))))))
def jE(g:Q_g)(a:d8)(b:Int)(c:(List y8))(d:(b6H))(e:Int)(f:Int)(h:Int):b6C:=
 ((f7 a.P.As b).bind λj=>((B9 40 ([]:List y8) c).bind λk=>((B9 40 k ([(y8.mk d j.Ss f (a.P.Vars.length:Int))]:List y8)).bind λl=>((B9 48 a.P.Vars ([(M8.mk b d j.Ss h 0)]:List M8)).bind λm=>((B9 8 a.P.Ss ([e]:List Int)).bind λn=>((B9 72 ([]:List x8) a.P.As).bind λo=>((f7 o b).bind λp=>((o[(Int.toNat b)]?).bind λq=>((o[(Int.toNat b)]?).bind λs=>((U8 o (Int.toNat b) (x8.mk s.If s.Gs s.Ps s.By s.At (w64 (j.Ss+1)) s.Js s.Do)).bind λt=>(some ((l,(d8.mk (w8.mk a.P.No a.P.Ms a.P.To a.P.Rs a.P.Hs t n m a.P.Do) a.Rs a.F),()),()))))))))))))
def Og(g:Q_g)(a:d8)(b:Int)(c:Int):b6v:=
 ((Q6 g a).bind λd=>(cond (!d.1.1) ((f7 a.P.No c).bind λe=>((f7 a.P.No c).bind λf=>(some (((d8.mk a.P a.Rs (A7.mk b e.Ls f.Id)),()),())))) (some ((a,()),()))))
def bO(g:Q_g)(a:d8)(b:Int)(c:l8):b6v:=
 ((B9 24 ([]:List l8) a.P.Ms).bind λd=>((f7 d b).bind λe=>((d[(Int.toNat b)]?).bind λf=>((U8 d (Int.toNat b) c).bind λh=>(some (((d8.mk (w8.mk a.P.No h a.P.To a.P.Rs a.P.Hs a.P.As a.P.Ss a.P.Vars a.P.Do) a.Rs a.F),()),()))))))
def nI(g:Q_g)(a:d8)(b:Int):Option Q9:=
 ((f7 a.P.No b).bind λc=>(cond (decide (c.Ks=14)) (some ((0,a,()),())) ((f7 a.P.No b).bind λd=>(cond (decide (d.Ks=20)) ((Vt g a (w64 (b+1))).bind λe=>((Q6 g e.1.2.1).bind λf=>(cond f.1.1 (some ((0,e.1.2.1,()),())) ((Mq g e.1.2.1.P.To e.1.1).bind λh=>((Ik g (d8.mk (w8.mk e.1.2.1.P.No e.1.2.1.P.Ms h.1.1 e.1.2.1.P.Rs e.1.2.1.P.Hs e.1.2.1.P.As e.1.2.1.P.Ss e.1.2.1.P.Vars e.1.2.1.P.Do) e.1.2.1.Rs e.1.2.1.F) b (l8.mk h.1.2.1 0 0)).bind λj=>(some ((h.1.2.1,j.1.1,()),()))))))) ((okP (F1 b (w64 (b+1)) (a.P.No.length:Int))).bind λ_=>((Tb g a.P.To a.Rs (B4 a.P.No b (w64 (b+1)))).bind λk=>(cond (decide (k.1.2.1=0)) ((Dy g a 8 b).bind λl=>(some ((0,l.1.1,()),()))) ((Ik g a b (l8.mk k.1.2.1 0 0)).bind λm=>(some ((k.1.2.1,m.1.1,()),()))))))))))
def fV(g:Q_g)(a:d8)(b:Int)(c:(List y8))(d:Int):b6v:=
 Ma g b c d d a
def Po(g:Q_g)(a:Int)(b:(List y8))(c:Int)(d:Int)(e:d8):b6v:=
 ((f7 e.P.No c).bind λf=>(cond (decide (d<=(w64 (c+f.Cs)))) ((Q6 g e).bind λh=>(cond h.1.1 (some ((e,()),())) ((f7 e.P.No d).bind λj=>(cond (decide (j.Ks=26)) (Sw g a b c d (-1) 0 e j) (cond (decide (j.Ks=27)) ((uK g e j.Ds).bind λk=>(cond (decide (k.1.1<0)) ((nJ g j.Ds).bind λl=>(cond (decide ((w64 (0-l.1.1))=0)) ((Dy g e 8 d).bind λm=>(some ((m.1.1,()),()))) (jW g a b c d (w64 (0-l.1.1)) e))) (jW g a b c d k.1.1 e))) (cond (decide (j.Ks=32)) ((Vt g e (w64 (d+1))).bind λn=>((Ik g n.1.2.1 d (l8.mk n.1.1 0 0)).bind λo=>Pj g a b c d o.1.1)) (Pj g a b c d e))))))) (PN g e)))
def Wk(g:Q_g)(a:Int)(b:(List y8))(c:Int)(d:Int)(e:Int)(f:Int)(h:d8)(j:d7):b6v:=
 (cond (decide (f<(b.length:Int))) ((f7 b f).bind λk=>(cond (decide (k.If=j.Ds)) ((f7 b f).bind λl=>Sw g a b c d l.Xs (w64 (f+1)) h j) (Sw g a b c d e (w64 (f+1)) h j))) (IX g a b c d e h))
def lX(g:Q_g)(a:Int)(b:(List y8))(c:Int)(d:Int)(e:Int)(f:d8):b6v:=
 ((Ik g f d (l8.mk 0 e 0)).bind λh=>Pj g a b c d h.1.1)
def Tx(g:Q_g)(a:d8):b6v:=
 (some ((a,()),()))
def vU(g:Q_g)(a:Int)(b:(List y8))(c:Int)(d:Int)(e:Int)(f:d8):b6v:=
 (cond (decide (e<0)) ((Dy g f 8 d).bind λh=>(some ((h.1.1,()),()))) ((f7 f.P.As a).bind λj=>((f7 f.P.Ss (w64 (j.At+e))).bind λk=>((f.P.Ss[(Int.toNat (w64 (j.At+e)))]?).bind λl=>((Ik g f d (l8.mk l e 0)).bind λm=>Pj g a b c d m.1.1)))))
def Lz(g:Q_g)(a:Int)(b:(List y8))(c:Int)(d:Int)(e:d8):b6v:=
 Ma g a b c (w64 (d+1)) e
def uU(g:Q_g)(a:d8)(b:Int)(c:(List y8))(d:Int)(e:Int):b6C:=
 ((f7 a.P.No e).bind λf=>((B9 32 a.P.Do ([(Q8.mk b e f.Ls f.Id)]:List Q8)).bind λh=>((Ik g (d8.mk (w8.mk a.P.No a.P.Ms a.P.To a.P.Rs a.P.Hs a.P.As a.P.Ss a.P.Vars h) a.Rs a.F) e (l8.mk 0 0 (a.P.Do.length:Int))).bind λj=>((Ai g j.1.1.P.No e).bind λk=>(cond (!(decide (f.Ks=7))) (Rr g b c k 0 j.1.1) ((f7 k.1.1 0).bind λl=>((k.1.1[(Int.toNat 0)]?).bind λm=>((Vt g j.1.1 m).bind λn=>((Q6 g n.1.2.1).bind λo=>(cond (!o.1.1) ((f7 k.1.1 1).bind λp=>((k.1.1[(Int.toNat 1)]?).bind λq=>((tU g n.1.2.1 b c q).bind λs=>vJ g b c d e a n s.1.1 f))) (vJ g b c d e a n n.1.2.1 f)))))))))))
def Wr(g:Q_g)(a:Int)(b:(List y8))(c:RT3)(d:Int)(e:d8):b6C:=
 (cond (decide (d<(c.1.1.length:Int))) ((Q6 g e).bind λf=>(cond f.1.1 (some ((b,e,()),())) ((f7 c.1.1 d).bind λh=>((c.1.1[(Int.toNat d)]?).bind λj=>((f7 e.P.No j).bind λk=>(cond (decide (k.Ks=6)) ((f7 c.1.1 d).bind λl=>((c.1.1[(Int.toNat d)]?).bind λm=>((lG g e a b m).bind λn=>Rr g a b c (w64 (d+1)) n.1.1))) ((f7 c.1.1 d).bind λo=>((c.1.1[(Int.toNat d)]?).bind λp=>((tU g e a b p).bind λq=>Rr g a b c (w64 (d+1)) q.1.1))))))))) (SL g b e))
def aG(g:Q_g)(a:Int)(b:(List y8))(c:Int)(d:Int)(e:d8)(f:Q9)(h:Int)(j:d8)(k:d7):b6C:=
 (cond (decide (h<(b.length:Int))) ((f7 b h).bind λl=>(cond (decide (l.If=k.Ds)) ((f7 b h).bind λm=>(cond (decide (m.Ys=c)) ((Dy g j 7 d).bind λn=>Tf g a b c d e f (w64 (h+1)) n.1.1 k) (Tf g a b c d e f (w64 (h+1)) j k))) (Tf g a b c d e f (w64 (h+1)) j k))) (zJ g a b c d e f j k))
def tA(g:Q_g)(a:Int)(b:(List y8))(c:Int)(d:Int)(e:d8)(f:Q9)(h:d8)(j:d7):b6C:=
 Tf g a b c d e f 0 h j
def jA(g:Q_g)(a:(List y8))(b:d8):b6C:=
 (some ((a,b,()),()))
def bU(g:Q_g)(a:Int)(b:(List y8))(c:Int)(d:Int)(e:d8)(f:Q9)(h:d8)(j:d7):b6C:=
 ((f7 h.P.As a).bind λk=>(cond (decide (k.Ss>=200)) ((Dy g h 13 d).bind λl=>mV g a b c d e f l.1.1 j) (mV g a b c d e f h j)))
def pK(g:Q_g)(a:Int)(b:(List y8))(c:Int)(d:Int)(e:d8)(f:Q9)(h:d8)(j:d7):b6C:=
 ((Q6 g h).bind λk=>(cond k.1.1 (some ((b,h,()),())) ((f7 h.P.As a).bind λl=>((Ik g h d (l8.mk f.1.1 l.Ss (e.P.Do.length:Int))).bind λm=>((fX g m.1.1 a b j.Ds f.1.1 c (m.1.1.P.Do.length:Int)).bind λn=>(some ((n.1.1,n.1.2.1,()),())))))))
def fB(g:Q_g)(a:d8)(b:Int)(c:(List y8))(d:Int):b6v:=
 ((Ai g a.P.No d).bind λe=>dY g b c d e 0 a)
def Zj(g:Q_g)(a:Int)(b:(List y8))(c:Int)(d:RT3)(e:Int)(f:d8):b6v:=
 (cond (decide (e<(d.1.1.length:Int))) ((Q6 g f).bind λh=>(cond h.1.1 (some ((f,()),())) ((f7 d.1.1 e).bind λj=>((d.1.1[(Int.toNat e)]?).bind λk=>((GT g f a b c k).bind λl=>dY g a l.1.1 c d (w64 (e+1)) l.1.2.1))))) (EK g b c f))
def uW(g:Q_g)(a:(List y8))(b:Int)(c:d8):b6v:=
 ((B9 48 ([]:List M8) c.P.Vars).bind λd=>Yk g a b 0 c d)
def Zx(g:Q_g)(a:(List y8))(b:Int)(c:Int)(d:d8)(e:(List M8)):b6v:=
 (cond (decide (c<(a.length:Int))) ((f7 a c).bind λf=>(cond (decide (f.Ys=b)) ((f7 a c).bind λh=>((f7 e h.At).bind λj=>((e[(Int.toNat h.At)]?).bind λk=>((e[(Int.toNat h.At)]?).bind λl=>((U8 e (Int.toNat h.At) (M8.mk l.Fn l.If l.Xs l.Js (d.P.Do.length:Int))).bind λm=>Yk g a b (w64 (c+1)) d m))))) (Yk g a b (w64 (c+1)) d e))) (a0T g d e))
def sK(g:Q_g)(a:d8)(b:(List M8)):b6v:=
 (some (((d8.mk (w8.mk a.P.No a.P.Ms a.P.To a.P.Rs a.P.Hs a.P.As a.P.Ss b a.P.Do) a.Rs a.F),()),()))
def fH(g:Q_g)(a:d8)(b:Int):b6v:=
 ((B9 72 ([]:List x8) a.P.As).bind λc=>((f7 c b).bind λd=>((c[(Int.toNat b)]?).bind λe=>((c[(Int.toNat b)]?).bind λf=>((U8 c (Int.toNat b) (x8.mk f.If f.Gs f.Ps f.By (a.P.Ss.length:Int) f.Ss f.Js f.Do)).bind λh=>((f7 h b).bind λj=>((h[(Int.toNat b)]?).bind λk=>((h[(Int.toNat b)]?).bind λl=>((U8 h (Int.toNat b) (x8.mk l.If l.Gs l.Ps l.By l.At l.Ss (a.P.Do.length:Int) l.Do)).bind λm=>((f7 m b).bind λn=>((m[(Int.toNat b)]?).bind λo=>((m[(Int.toNat b)]?).bind λp=>((Ai g a.P.No p.Gs).bind λq=>aW g b q 0 (d8.mk (w8.mk a.P.No a.P.Ms a.P.To a.P.Rs a.P.Hs m a.P.Ss a.P.Vars a.P.Do) a.Rs a.F) ([]:List y8))))))))))))))
def bA(g:Q_g)(a:Int)(b:RT3)(c:Int)(d:d8)(e:(List y8)):b6v:=
 (cond (decide (c<(w64 ((b.1.1.length:Int)-2)))) ((f7 b.1.1 c).bind λf=>((b.1.1[(Int.toNat c)]?).bind λh=>((f7 d.P.No h).bind λj=>((f7 b.1.1 c).bind λk=>((b.1.1[(Int.toNat c)]?).bind λl=>((f7 d.P.Ms l).bind λm=>((f7 b.1.1 (w64 ((w64 ((b.1.1.length:Int)-2))+1))).bind λn=>((b.1.1[(Int.toNat (w64 ((w64 ((b.1.1.length:Int)-2))+1)))]?).bind λo=>((fX g d a e j.Ds m.Ts o (d.P.Do.length:Int)).bind λp=>aW g a b (w64 (c+1)) p.1.2.1 p.1.1))))))))) (BE g a b d e))
def bZ(g:Q_g)(a:Int)(b:RT3)(c:d8)(d:(List y8)):b6v:=
 ((f7 b.1.1 (w64 ((w64 ((b.1.1.length:Int)-2))+1))).bind λe=>((b.1.1[(Int.toNat (w64 ((w64 ((b.1.1.length:Int)-2))+1)))]?).bind λf=>((lG g c a d f).bind λh=>((B9 72 ([]:List x8) h.1.1.P.As).bind λj=>((f7 j a).bind λk=>((j[(Int.toNat a)]?).bind λl=>((j[(Int.toNat a)]?).bind λm=>((f7 j a).bind λn=>((j[(Int.toNat a)]?).bind λo=>((j[(Int.toNat a)]?).bind λp=>((U8 j (Int.toNat a) (x8.mk p.If p.Gs p.Ps p.By p.At p.Ss p.Js (w64 ((h.1.1.P.Do.length:Int)-m.Js)))).bind λq=>(some (((d8.mk (w8.mk h.1.1.P.No h.1.1.P.Ms h.1.1.P.To h.1.1.P.Rs h.1.1.P.Hs q h.1.1.P.Ss h.1.1.P.Vars h.1.1.P.Do) h.1.1.Rs h.1.1.F),()),())))))))))))))
def kC(g:Q_g)(a:(List d7)):b6A:=
 ((rC g a).bind λb=>(cond (!b.1.1) (some (((w8.mk ([]:List d7) ([]:List l8) ([]:List v7) ([]:List Q3) ([]:List U5) ([]:List x8) ([]:List Int) ([]:List M8) ([]:List Q8)),(A7.mk 1 0 0),()),())) ((okP (Li 24 (a.length:Int))).bind λ_=>((DI g (d8.mk (w8.mk a (List.replicate (Int.toNat (a.length:Int)) ((l8.mk 0 0 0):l8)) ([]:List v7) ([]:List Q3) ([]:List U5) ([]:List x8) ([]:List Int) ([]:List M8) ([]:List Q8)) ([]:List (b6H)) (A7.mk 0 0 0))).bind λc=>((Q6 g c.1.1).bind λd=>(cond (!d.1.1) ((xU g c.1.1).bind λe=>oP g e.1.1) (oP g c.1.1)))))))
def Nk(g:Q_g)(a:Int)(b:Int)(c:d8):b6A:=
 (cond (decide (b<a)) ((Q6 g c).bind λd=>(cond (!d.1.1) ((xQ g c b).bind λe=>Km g a (w64 (b+1)) e.1.1) (Km g a (w64 (b+1)) c))) (Wt g c))
def Yw(g:Q_g)(a:d8):b6A:=
 Km g (a.P.As.length:Int) 0 a
def cY(g:Q_g)(a:RT2)(b:d8):b6A:=
 ((f7 b.P.As a.1.1).bind λc=>((b.P.As[(Int.toNat a.1.1)]?).bind λd=>((b.P.As[(Int.toNat a.1.1)]?).bind λe=>((Kl g b 11 e.Gs).bind λf=>Nm g f.1.1))))
def nY(g:Q_g)(a:d8):b6A:=
 ((Q6 g a).bind λb=>(cond (!b.1.1) ((uK g a ([109,97,105,110]:b6H)).bind λc=>(cond (decide (c.1.1<0)) (Nm g (d8.mk a.P a.Rs (A7.mk 11 0 0))) ((f7 a.P.As c.1.1).bind λd=>((a.P.As[(Int.toNat c.1.1)]?).bind λe=>((a.P.As[(Int.toNat c.1.1)]?).bind λf=>(cond (decide (f.Ps>0)) (tP g c a) ((f7 a.P.As c.1.1).bind λh=>((a.P.As[(Int.toNat c.1.1)]?).bind λj=>((a.P.As[(Int.toNat c.1.1)]?).bind λk=>(cond (!(decide (k.By=0))) (tP g c a) (Nm g a))))))))))) (Nm g a)))
def Tn(g:Q_g)(a:d8):b6A:=
 ((Q6 g a).bind λb=>(cond b.1.1 (some (((w8.mk ([]:List d7) ([]:List l8) ([]:List v7) ([]:List Q3) ([]:List U5) ([]:List x8) ([]:List Int) ([]:List M8) ([]:List Q8)),a.F,()),())) (some ((a.P,(A7.mk 0 0 0),()),()))))
def vQ(g:Q_g)(a:o0)(b:Int)(c:Int):Option RT4:=
 (cond (decide (a.F.Code=0)) ((f7 a.L c).bind λd=>((f7 a.L c).bind λe=>(some (((o0.mk a.L a.M a.P a.T (A7.mk b d.Ls e.Id) a.By),()),())))) (some ((a,()),())))
def tR(g:Q_g)(a:o0)(b:Bool)(c:Int):Option RT4:=
 (cond b (some ((a,()),())) ((Hv g a 9 c).bind λd=>(some ((d.1.1,()),()))))
def hO(g:Q_g)(a:(List v7))(b:Int)(c:Int):Option RT0:=
 (cond (decide (b<0)) (some ((false,()),())) (cond (decide (c<0)) (some ((false,()),())) (cond (decide (b>=(a.length:Int))) (some ((false,()),())) (cond (decide (c>=(a.length:Int))) (some ((false,()),())) (cond (decide (b=5)) ((f7 a c).bind λd=>(cond (decide (d.Ks=6)) (some ((true,()),())) ((f7 a c).bind λe=>(cond (decide (e.Ks=7)) (some ((true,()),())) (some (((decide (b=c)),()),())))))) (some (((decide (b=c)),()),())))))))
def gA(g:Q_g)(a:o0)(b:Int)(c:Int):Option RT0:=
 ((ED g a.T b c).bind λd=>(some ((d.1.1,()),())))
def lD(g:Q_g)(a:Int):Option Iz:=
 ((f7 ([[],[108],[115],[99],[99],[105,105],[105],[],[105]]:List (b6H)) a).bind λb=>((([[],[108],[115],[99],[99],[105,105],[105],[],[105]]:List (b6H))[(Int.toNat a)]?).bind λc=>((f7 ([0,1,3,1,1,4,3,1,1]:List Int) a).bind λd=>((([0,1,3,1,1,4,3,1,1]:List Int)[(Int.toNat a)]?).bind λe=>(some ((c,e,()),()))))))
def rQ(g:Q_g)(a:o0)(b:Int):Option RT2:=
 ((f7 a.T b).bind λc=>(some ((c.Ks,()),())))
def kR(g:Q_g)(a:o0)(b:Int)(c:Int):Option RT0:=
 (cond (decide (c=105)) (some (((decide (b=1)),()),())) (cond (decide (c=99)) (some (((decide (b=4)),()),())) (cond (decide (c=108)) (cond (decide (b=3)) (some ((true,()),())) ((Oo g a b).bind λd=>(some (((decide (d.1.1=7)),()),())))) (cond (decide (b=1)) (some ((true,()),())) (cond (decide (b=2)) (some ((true,()),())) (some (((decide (b=4)),()),())))))))
def oJ(g:Q_g)(a:o0)(b:Int):b6x:=
 ((Ai g a.L b).bind λc=>aK g b c 0 a ([]:List Int))
def Ur(g:Q_g)(a:Int)(b:RT3)(c:Int)(d:o0)(e:(List Int)):b6x:=
 (cond (decide (c<(b.1.1.length:Int))) ((f7 b.1.1 c).bind λf=>((b.1.1[(Int.toNat c)]?).bind λh=>((V1 g d h).bind λj=>((B9 8 e ([j.1.1]:List Int)).bind λk=>aK g a b (w64 (c+1)) j.1.2.1 k)))) (DK g a d b e))
def cR(g:Q_g)(a:Int)(b:o0)(c:RT3)(d:(List Int)):b6x:=
 (cond (!(decide (b.F.Code=0))) (some ((0,b,()),())) ((f7 b.M a).bind λe=>(cond (decide (e.Es<0)) ((GA g (w64 (0-e.Es))).bind λf=>(cond (!(decide ((f.1.1.length:Int)=(c.1.1.length:Int)))) ((Hv g b 10 a).bind λh=>(some ((0,h.1.1,()),()))) (Yb g f c 0 b d))) ((f7 b.P.As e.Es).bind λj=>(cond (!(decide (j.Ps=(c.1.1.length:Int)))) ((Hv g b 10 a).bind λk=>(some ((0,k.1.1,()),()))) (Th g c 0 b j d))))))
def Xt(g:Q_g)(a:Iz)(b:RT3)(c:Int)(d:o0)(e:(List Int)):b6x:=
 (cond (decide (c<(b.1.1.length:Int))) ((f7 e c).bind λf=>((e[(Int.toNat c)]?).bind λh=>((f7 a.1.1 c).bind λj=>((zC g d h (j.toNat:Int)).bind λk=>((f7 b.1.1 c).bind λl=>((b.1.1[(Int.toNat c)]?).bind λm=>((N2 g d k.1.1 m).bind λn=>Yb g a b (w64 (c+1)) n.1.1 e))))))) (GZ g a d))
def Zm(g:Q_g)(a:RT3)(b:Int)(c:o0)(d:x8)(e:(List Int)):b6x:=
 (cond (decide (b<(a.1.1.length:Int))) ((f7 e b).bind λf=>((e[(Int.toNat b)]?).bind λh=>((f7 c.P.Ss (w64 (d.At+b))).bind λj=>((Cz g c h j).bind λk=>((f7 a.1.1 b).bind λl=>((a.1.1[(Int.toNat b)]?).bind λm=>((N2 g c k.1.1 m).bind λn=>Th g a (w64 (b+1)) n.1.1 d e))))))) (AX g c d))
def kF(g:Q_g)(a:Iz)(b:o0):b6x:=
 (some ((a.1.2.1,b,()),()))
def qG(g:Q_g)(a:o0)(b:x8):b6x:=
 (some ((b.By,a,()),()))
def mD(g:Q_g)(a:o0)(b:Int)(c:Int):b6x:=
 ((V1 g a c).bind λd=>(cond (!(decide (d.1.2.1.F.Code=0))) (iU g c d) ((Oo g d.1.2.1 d.1.1).bind λe=>(cond (!(decide (e.1.1=6))) (iU g c d) ((f7 d.1.2.1.T d.1.1).bind λf=>((f7 d.1.2.1.P.Rs f.Of).bind λh=>Ww g b 0 d h))))))
def sQ(g:Q_g)(a:Int)(b:C0):b6x:=
 ((Hv g b.1.2.1 9 a).bind λc=>(some ((0,c.1.1,()),())))
def Wu(g:Q_g)(a:Int)(b:Int)(c:C0)(d:Q3):b6x:=
 (cond (decide (b<d.Ws)) ((f7 c.1.2.1.P.Hs (w64 (d.Vs+b))).bind λe=>((f7 c.1.2.1.L a).bind λf=>(cond (decide (e.If=f.Ds)) ((B9 24 ([]:List l8) c.1.2.1.M).bind λh=>((f7 h a).bind λj=>((h[(Int.toNat a)]?).bind λk=>((h[(Int.toNat a)]?).bind λl=>((U8 h (Int.toNat a) (l8.mk l.Ts b l.Qs)).bind λm=>(some ((e.Ts,(o0.mk c.1.2.1.L m c.1.2.1.P c.1.2.1.T c.1.2.1.F c.1.2.1.By),()),()))))))) (Ww g a (w64 (b+1)) c d)))) (RC g a c))
def qO(g:Q_g)(a:Int)(b:C0):b6x:=
 ((Hv g b.1.2.1 8 a).bind λc=>(some ((0,c.1.1,()),())))
def vV(g:Q_g)(a:o0)(b:Int)(c:Int)(d:Int):Option RT2:=
 ((Oo g a c).bind λe=>((Oo g a d).bind λf=>(cond (decide (b=6)) (eN g c d e f a) (cond (decide (b=7)) (eN g c d e f a) (cond (!(decide (c=d))) (some ((0,()),())) (cond (decide (b=14)) (gY g c) (cond (decide (b=15)) (gY g c) (cond (decide (b>=8)) (cond (decide (c=1)) (some ((2,()),())) (Jm g)) (cond (decide (c=1)) (some ((1,()),())) (cond (decide (c=4)) (cond (decide (b<=3)) (some ((4,()),())) (iF g b c)) (iF g b c)))))))))))
def cH(g:Q_g)(a:Int)(b:Int):Option RT2:=
 (cond (decide (a=b)) (cond (decide (a>0)) (some ((2,()),())) (Jm g)) (Jm g))
def rV(g:Q_g)(a:Int)(b:Int)(c:RT2)(d:RT2)(e:o0):Option RT2:=
 (cond (decide (c.1.1>=5)) (cond (decide (d.1.1>=5)) (cond (!(decide (c.1.1=5))) ((Cz g e a b).bind λf=>(cond f.1.1 (some ((2,()),())) ((Cz g e b a).bind λh=>(cond h.1.1 (some ((2,()),())) (some ((0,()),())))))) (cond (!(decide (d.1.1=5))) ((Cz g e a b).bind λf=>(cond f.1.1 (some ((2,()),())) ((Cz g e b a).bind λh=>(cond h.1.1 (some ((2,()),())) (some ((0,()),())))))) (some ((0,()),())))) (sX g a b)) (sX g a b))
def lH(g:Q_g)(a:Int):Option RT2:=
 (cond (decide (a=2)) (some ((2,()),())) (Jm g))
def oR(g:Q_g)(a:Int)(b:Int):Option RT2:=
 (cond (decide (b=3)) (cond (decide (a=1)) (some ((3,()),())) (Jm g)) (Jm g))
def DU(g:Q_g):Option RT2:=
 (some ((0,()),()))
def jM(g:Q_g)(a:o0)(b:Int)(c:Int):Option RT4:=
 ((B9 24 ([]:List l8) a.M).bind λd=>((f7 d b).bind λe=>((d[(Int.toNat b)]?).bind λf=>((d[(Int.toNat b)]?).bind λh=>((U8 d (Int.toNat b) (l8.mk c h.Es h.Qs)).bind λj=>(some (((o0.mk a.L j a.P a.T a.F a.By),()),())))))))
def cV(g:Q_g)(a:o0)(b:Int):b6x:=
 (cond (!(decide (a.F.Code=0))) (some ((0,a,()),())) ((f7 a.L b).bind λc=>((Ai g a.L b).bind λd=>((f7 a.M b).bind λe=>(cond (decide (c.Ks>=21)) (cond (decide (c.Ks<=25)) ((f7 ([1,4,3,2,5]:List Int) (IntKind.wrap .u8 (c.Ks-21))).bind λf=>((([1,4,3,2,5]:List Int)[(Int.toNat (IntKind.wrap .u8 (c.Ks-21)))]?).bind λh=>M7 g b h a)) (zF g b e a c d)) (zF g b e a c d))))))
def sR(g:Q_g)(a:Int)(b:Int)(c:o0):b6x:=
 ((xA g c a b).bind λd=>(some ((b,d.1.1,()),())))
def kU(g:Q_g)(a:Int)(b:Int)(c:C0)(d:RT3):b6x:=
 ((f7 d.1.1 0).bind λe=>((d.1.1[(Int.toNat 0)]?).bind λf=>((N2 g c.1.2.1 (decide (b>0)) f).bind λh=>((f7 d.1.1 1).bind λj=>((d.1.1[(Int.toNat 1)]?).bind λk=>((N2 g h.1.1 (decide (c.1.1=1)) k).bind λl=>M7 g a b l.1.1))))))
def eM(g:Q_g)(a:Int)(b:Int)(c:C0)(d:C0)(e:RT3):b6x:=
 (cond (decide (c.1.1=3)) (eQ g a 1 d e) (eQ g a b d e))
def tN(g:Q_g)(a:Int)(b:l8)(c:o0)(d:d7)(e:RT3):b6x:=
 (cond (decide (d.Ks=27)) ((BW g c a).bind λf=>M7 g a f.1.1 f.1.2.1) (cond (decide (d.Ks=28)) ((f7 e.1.1 0).bind λh=>((e.1.1[(Int.toNat 0)]?).bind λj=>((V1 g c j).bind λk=>((f7 e.1.1 1).bind λl=>((e.1.1[(Int.toNat 1)]?).bind λm=>((V1 g k.1.2.1 m).bind λn=>((Oo g n.1.2.1 k.1.1).bind λo=>(cond (decide (o.1.1=7)) ((f7 n.1.2.1.T k.1.1).bind λp=>lN g a p.Of k n e) (lN g a 0 k n e))))))))) (cond (decide (d.Ks=29)) ((f7 e.1.1 0).bind λq=>((e.1.1[(Int.toNat 0)]?).bind λs=>((KR g c a s).bind λt=>M7 g a t.1.1 t.1.2.1))) (cond (decide (d.Ks=30)) ((f7 e.1.1 0).bind λu=>((e.1.1[(Int.toNat 0)]?).bind λv=>((V1 g c v).bind λw=>(cond (decide (d.Ns=13)) (cond (decide (w.1.1=2)) ((f7 e.1.1 0).bind λy=>((e.1.1[(Int.toNat 0)]?).bind λz=>((N2 g w.1.2.1 true z).bind λa1=>M7 g a w.1.1 a1.1.1))) (cond (decide (d.Ns=12)) (cond (decide (w.1.1=1)) ((f7 e.1.1 0).bind λy=>((e.1.1[(Int.toNat 0)]?).bind λz=>((N2 g w.1.2.1 true z).bind λa1=>M7 g a w.1.1 a1.1.1))) ((f7 e.1.1 0).bind λy=>((e.1.1[(Int.toNat 0)]?).bind λz=>((N2 g w.1.2.1 (decide (w.1.1=4)) z).bind λa1=>M7 g a w.1.1 a1.1.1)))) ((f7 e.1.1 0).bind λy=>((e.1.1[(Int.toNat 0)]?).bind λz=>((N2 g w.1.2.1 false z).bind λa1=>M7 g a w.1.1 a1.1.1))))) (cond (decide (d.Ns=12)) (cond (decide (w.1.1=1)) ((f7 e.1.1 0).bind λy=>((e.1.1[(Int.toNat 0)]?).bind λz=>((N2 g w.1.2.1 true z).bind λa1=>M7 g a w.1.1 a1.1.1))) ((f7 e.1.1 0).bind λy=>((e.1.1[(Int.toNat 0)]?).bind λz=>((N2 g w.1.2.1 (decide (w.1.1=4)) z).bind λa1=>M7 g a w.1.1 a1.1.1)))) ((f7 e.1.1 0).bind λy=>((e.1.1[(Int.toNat 0)]?).bind λz=>((N2 g w.1.2.1 false z).bind λa1=>M7 g a w.1.1 a1.1.1)))))))) (cond (decide (d.Ks=31)) ((f7 e.1.1 0).bind λb1=>((e.1.1[(Int.toNat 0)]?).bind λc1=>((V1 g c c1).bind λd1=>((f7 e.1.1 1).bind λe1=>((e.1.1[(Int.toNat 1)]?).bind λf1=>((V1 g d1.1.2.1 f1).bind λh1=>((AR g h1.1.2.1 d.Ns d1.1.1 h1.1.1).bind λj1=>((N2 g h1.1.2.1 (decide (j1.1.1>0)) a).bind λk1=>M7 g a j1.1.1 k1.1.1)))))))) (cond (decide (d.Ks=32)) (cond (decide ((e.1.1.length:Int)=2)) ((f7 e.1.1 1).bind λl1=>((e.1.1[(Int.toNat 1)]?).bind λm1=>((V1 g c m1).bind λn1=>((f7 e.1.1 1).bind λo1=>((e.1.1[(Int.toNat 1)]?).bind λp1=>((N2 g n1.1.2.1 (decide (n1.1.1=1)) p1).bind λq1=>M7 g a b.Ts q1.1.1)))))) (M7 g a b.Ts c)) (M7 g a b.Ts c)))))))
def Ke(g:Q_g)(a:o0)(b:Int):b6E:=
 (cond (!(decide (a.F.Code=0))) (some ((false,a,()),())) ((Ai g a.L b).bind λc=>((f7 a.L b).bind λd=>(cond (decide (d.Ks=7)) ((f7 c.1.1 1).bind λe=>((c.1.1[(Int.toNat 1)]?).bind λf=>((V1 g a f).bind λh=>((f7 h.1.2.1.M b).bind λj=>((Cz g h.1.2.1 h.1.1 j.Ts).bind λk=>((f7 c.1.1 1).bind λl=>((c.1.1[(Int.toNat 1)]?).bind λm=>((N2 g h.1.2.1 k.1.1 m).bind λn=>(some ((false,n.1.1,()),())))))))))) (cond (decide (d.Ks=8)) ((f7 c.1.1 0).bind λo=>((c.1.1[(Int.toNat 0)]?).bind λp=>((V1 g a p).bind λq=>((f7 c.1.1 1).bind λs=>((c.1.1[(Int.toNat 1)]?).bind λt=>((V1 g q.1.2.1 t).bind λu=>(cond (decide (u.1.2.1.F.Code=0)) ((f7 c.1.1 0).bind λv=>((c.1.1[(Int.toNat 0)]?).bind λw=>((f7 u.1.2.1.L w).bind λy=>(cond (decide (y.Ks=28)) ((f7 c.1.1 0).bind λz=>((c.1.1[(Int.toNat 0)]?).bind λa1=>((f7 u.1.2.1.M (w64 (a1+1))).bind λb1=>(cond (decide (b1.Ts=3)) ((f7 c.1.1 0).bind λc1=>((c.1.1[(Int.toNat 0)]?).bind λd1=>((Hv g u.1.2.1 9 d1).bind λe1=>Pr g q u e1.1.1 c))) (Pr g q u u.1.2.1 c))))) (Pr g q u u.1.2.1 c))))) (Pr g q u u.1.2.1 c)))))))) (cond (decide (d.Ks=9)) (kA g a c) (cond (decide (d.Ks=10)) (kA g a c) (cond (decide (d.Ks=11)) (cond (decide ((c.1.1.length:Int)=0)) ((N2 g a (decide (a.By=0)) b).bind λf1=>(some ((true,f1.1.1,()),()))) ((f7 c.1.1 0).bind λh1=>((c.1.1[(Int.toNat 0)]?).bind λj1=>((V1 g a j1).bind λk1=>(cond (!(decide (a.By=0))) ((Cz g k1.1.2.1 k1.1.1 a.By).bind λl1=>((f7 c.1.1 0).bind λm1=>((c.1.1[(Int.toNat 0)]?).bind λn1=>((N2 g k1.1.2.1 l1.1.1 n1).bind λo1=>(some ((true,o1.1.1,()),())))))) ((f7 c.1.1 0).bind λm1=>((c.1.1[(Int.toNat 0)]?).bind λn1=>((N2 g k1.1.2.1 false n1).bind λo1=>(some ((true,o1.1.1,()),())))))))))) (cond (decide (d.Ks=12)) ((f7 c.1.1 0).bind λp1=>((c.1.1[(Int.toNat 0)]?).bind λq1=>((V1 g a q1).bind λs1=>((f7 c.1.1 0).bind λt1=>((c.1.1[(Int.toNat 0)]?).bind λu1=>((N2 g s1.1.2.1 (!(decide (s1.1.1=0))) u1).bind λv1=>(some ((false,v1.1.1,()),())))))))) ((f7 c.1.1 0).bind λw1=>((c.1.1[(Int.toNat 0)]?).bind λy1=>((V1 g a y1).bind λz1=>(some ((false,z1.1.2.1,()),()))))))))))))))
def kX(g:Q_g)(a:C0)(b:C0)(c:o0)(d:RT3):b6E:=
 ((Cz g c b.1.1 a.1.1).bind λe=>((f7 d.1.1 1).bind λf=>((d.1.1[(Int.toNat 1)]?).bind λh=>((N2 g c e.1.1 h).bind λj=>(some ((false,j.1.1,()),()))))))
def Vy(g:Q_g)(a:Bool)(b:Int)(c:o0)(d:RT3):b6E:=
 (cond (decide (b<(d.1.1.length:Int))) ((f7 d.1.1 b).bind λe=>((d.1.1[(Int.toNat b)]?).bind λf=>((tF g c f).bind λh=>(cond a (Rx g h.1.1 (w64 (b+1)) h.1.2.1 d) (Rx g false (w64 (b+1)) h.1.2.1 d))))) (OX g a c))
def cD(g:Q_g)(a:o0)(b:RT3):b6E:=
 ((f7 b.1.1 0).bind λc=>((b.1.1[(Int.toNat 0)]?).bind λd=>((V1 g a d).bind λe=>((f7 b.1.1 0).bind λf=>((b.1.1[(Int.toNat 0)]?).bind λh=>((N2 g e.1.2.1 (decide (e.1.1=2)) h).bind λj=>Rx g (decide ((b.1.1.length:Int)=3)) 1 j.1.1 b))))))
def vL(g:Q_g)(a:Bool)(b:o0):b6E:=
 (some ((a,b,()),()))
def lT(g:Q_g)(a:o0)(b:Int):b6E:=
 ((Ai g a.L b).bind λc=>vM g false c 0 a)
def Vb(g:Q_g)(a:Bool)(b:RT3)(c:Int)(d:o0):b6E:=
 (cond (decide (c<(b.1.1.length:Int))) ((f7 b.1.1 c).bind λe=>((b.1.1[(Int.toNat c)]?).bind λf=>((La g d f).bind λh=>vM g h.1.1 b (w64 (c+1)) h.1.2.1))) (YK g a d))
def jN(g:Q_g)(a:Bool)(b:o0):b6E:=
 (some ((a,b,()),()))
def tZ(g:Q_g)(a:(List d7)):b6A:=
 ((zM g a).bind λb=>(cond (!(decide (b.1.2.1.Code=0))) (some (((w8.mk ([]:List d7) ([]:List l8) ([]:List v7) ([]:List Q3) ([]:List U5) ([]:List x8) ([]:List Int) ([]:List M8) ([]:List Q8)),b.1.2.1,()),())) (Kx g a b 0 (o0.mk a b.1.1.Ms b.1.1 b.1.1.To (A7.mk 0 0 0) 0))))
def Wg(g:Q_g)(a:(List d7))(b:L8)(c:Int)(d:o0):b6A:=
 (cond (decide (c<(b.1.1.As.length:Int))) ((f7 b.1.1.As c).bind λe=>((Ai g a e.Gs).bind λf=>((f7 b.1.1.As c).bind λh=>((f7 f.1.1 (w64 ((f.1.1.length:Int)-1))).bind λj=>((f.1.1[(Int.toNat (w64 ((f.1.1.length:Int)-1)))]?).bind λk=>((tF g (o0.mk d.L d.M d.P d.T d.F h.By) k).bind λl=>(cond (!(decide (l.1.2.1.By=0))) (cond (!l.1.1) ((f7 b.1.1.As c).bind λm=>((Hv g l.1.2.1 12 m.Gs).bind λn=>Kx g a b (w64 (c+1)) n.1.1)) (Kx g a b (w64 (c+1)) l.1.2.1)) (Kx g a b (w64 (c+1)) l.1.2.1)))))))) (cM g b d))
def gU(g:Q_g)(a:L8)(b:o0):b6A:=
 (cond (!(decide (b.F.Code=0))) (some (((w8.mk ([]:List d7) ([]:List l8) ([]:List v7) ([]:List Q3) ([]:List U5) ([]:List x8) ([]:List Int) ([]:List M8) ([]:List Q8)),b.F,()),())) (some (((w8.mk a.1.1.No b.M a.1.1.To a.1.1.Rs a.1.1.Hs a.1.1.As a.1.1.Ss a.1.1.Vars a.1.1.Do),(A7.mk 0 0 0),()),())))
def vB(g:Q_g)(a:(b6H)):b6A:=
 ((qJ g a).bind λb=>(cond (!(decide (b.1.2.1.Code=0))) (some (((w8.mk ([]:List d7) ([]:List l8) ([]:List v7) ([]:List Q3) ([]:List U5) ([]:List x8) ([]:List Int) ([]:List M8) ([]:List Q8)),b.1.2.1,()),())) ((IN g b.1.1).bind λc=>(some ((c.1.1,c.1.2.1,()),())))))
def sL(g:Q_g)(a:(b6H)):Option BZ:=
 (cond (decide ((a.length:Int)>2000)) (some (((w8.mk ([]:List d7) ([]:List l8) ([]:List v7) ([]:List Q3) ([]:List U5) ([]:List x8) ([]:List Int) ([]:List M8) ([]:List Q8)),false,()),())) ((cO g a).bind λb=>(some ((b.1.1,(decide (b.1.2.1.Code=0)),()),()))))
def dQ(g:Q_g)(a:y6)(b:Int):Option Q7:=
 mX g b a (w64 (b+1)) ([]:List Int)
def aV(g:Q_g)(a:Int)(b:y6)(c:Int)(d:(List Int)):Option Q7:=
 ((f7 b.p_.No a).bind λe=>(cond (decide (c<=(w64 (a+e.Cs)))) ((B9 8 d ([c]:List Int)).bind λf=>((f7 b.p_.No c).bind λh=>mX g a b (w64 (c+(w64 (1+h.Cs)))) f)) (OY g b d)))
def qQ(g:Q_g)(a:y6)(b:(List Int)):Option Q7:=
 (some ((b,()),(a,())))
def sO(g:Q_g)(a:y6)(b:Int)(c:Int)(d:Int):Option RT1:=
 ((f7 a.p_.No d).bind λe=>((B9 24 a.c_.On ([(p8.mk b c e.Ls)]:List p8)).bind λf=>(some (((w64 ((w64 ((f.length:Int)-1))-a.from_)),()),((y6.mk a.p_ (s8.mk f a.c_.As a.c_.Us) a.from_ a.texts_),())))))
def Ti(g:Q_g)(a:y6):Option RT2:=
 (some (((w64 ((a.c_.On.length:Int)-a.from_)),()),()))
def gB(g:Q_g)(a:y6)(b:Int):b6y:=
 ((DT g a).bind λc=>((f7 a.c_.On (w64 (a.from_+b))).bind λd=>((a.c_.On[(Int.toNat (w64 (a.from_+b)))]?).bind λe=>((a.c_.On[(Int.toNat (w64 (a.from_+b)))]?).bind λf=>((U8 a.c_.On (Int.toNat (w64 (a.from_+b))) (p8.mk f.Op c.1.1 f.Ls)).bind λh=>(some ((()),((y6.mk a.p_ (s8.mk h a.c_.As a.c_.Us) a.from_ a.texts_),()))))))))
def uS(g:Q_g)(a:y6)(b:(b6H)):Option RT1:=
 (cond (Zo eqS a.texts_ b) ((Hj eqS a.texts_ b).bind λ(c:Int)=>BX g b c true a) (BX g b 0 false a))
def Vv(g:Q_g)(a:(b6H))(b:Int)(c:Bool)(d:y6):Option RT1:=
 (cond (!c) ((B9 16 d.c_.Us ([a]:List (b6H))).bind λe=>(some (((d.c_.Us.length:Int),()),((y6.mk d.p_ (s8.mk d.c_.On d.c_.As e) d.from_ (Pv eqS d.texts_ a (d.c_.Us.length:Int))),())))) (some ((b,()),(d,()))))
def bK(g:Q_g)(a:y6)(b:d7)(c:l8):Option wK:=
 (cond (decide (b.Ks=21)) (some ((2,b.Ns,()),(a,()))) (cond (decide (b.Ks=22)) (some ((4,b.Ns,()),(a,()))) (cond (decide (b.Ks=23)) ((DH g a b.Ds).bind λd=>(some ((5,d.1.1,()),(d.2.1,())))) (cond (decide (b.Ks=24)) (some ((3,b.Ns,()),(a,()))) (cond (decide (b.Ks=26)) (some ((7,c.Es,()),(a,()))) (cond (decide (b.Ks=27)) (cond (decide (c.Es<0)) (some ((20,(w64 (0-c.Es)),()),(a,()))) (some ((19,c.Es,()),(a,())))) (cond (decide (b.Ks=28)) (some ((15,0,()),(a,()))) (cond (decide (b.Ks=29)) (some ((17,c.Es,()),(a,()))) (cond (decide (b.Ks=30)) (some ((9,b.Ns,()),(a,()))) (cond (decide (b.Ks=31)) (some ((10,b.Ns,()),(a,()))) (cond (decide (b.Ks=32)) ((f7 a.p_.To c.Ts).bind λe=>(cond (decide (e.Ks=6)) (some ((22,e.Of,()),(a,()))) (some ((21,e.Of,()),(a,()))))) (some ((6,0,()),(a,()))))))))))))))
def vR(g:Q_g)(a:y6)(b:Int):b6y:=
 ((f7 a.p_.No b).bind λc=>((f7 a.p_.Ms b).bind λd=>((Mw g a b).bind λe=>(cond (decide (c.Ks=32)) ((okP (F1 1 (e.1.1.length:Int) (e.1.1.length:Int))).bind λ_=>Tz g b (B4 e.1.1 1 (e.1.1.length:Int)) c d e) (cond (decide (c.Ks=31)) (cond (decide (c.Ns=14)) (fG g b c e) (cond (decide (c.Ns=15)) (fG g b c e) (Tz g b e.1.1 c d e))) (Tz g b e.1.1 c d e))))))
def aN(g:Q_g)(a:Int)(b:(List Int))(c:Int)(d:Int)(e:d7)(f:l8)(h:y6):b6y:=
 (cond (decide (d<c)) ((f7 b d).bind λj=>((Bl g h j).bind λk=>Wv g a b c (w64 (d+1)) e f k.2.1)) (IF g a e f h))
def iH(g:Q_g)(a:Int)(b:Int)(c:I6)(d:Q7):b6y:=
 ((U3 g c.2.1 b 0 a).bind λe=>((f7 d.1.1 1).bind λf=>((d.1.1[(Int.toNat 1)]?).bind λh=>((Bl g e.2.1 h).bind λj=>((Pl g j.2.1 e.1.1).bind λk=>(some ((()),(k.2.1,()))))))))
def oT(g:Q_g)(a:Int)(b:d7)(c:Q7):b6y:=
 ((f7 c.1.1 0).bind λd=>((c.1.1[(Int.toNat 0)]?).bind λe=>((Bl g c.2.1 e).bind λf=>(cond (decide (b.Ns=15)) (pF g a 14 f c) (pF g a 13 f c)))))
def uE(g:Q_g)(a:Int)(b:(List Int))(c:d7)(d:l8)(e:Q7):b6y:=
 Wv g a b (b.length:Int) 0 c d e.2.1
def sB(g:Q_g)(a:Int)(b:d7)(c:l8)(d:y6):b6y:=
 ((xI g d b c).bind λe=>((U3 g e.2.1 e.1.1 e.1.2.1 a).bind λf=>(some ((()),(f.2.1,())))))
def qM(g:Q_g)(a:y6)(b:Int)(c:(List Int)):b6y:=
 ((f7 c 0).bind λd=>((Mw g a d).bind λe=>Wm g b c e 0 e.2.1))
def Zp(g:Q_g)(a:Int)(b:(List Int))(c:Q7)(d:Int)(e:y6):b6y:=
 (cond (decide (d<(c.1.1.length:Int))) ((f7 c.1.1 d).bind λf=>((c.1.1[(Int.toNat d)]?).bind λh=>((Bl g e h).bind λj=>Wm g a b c (w64 (d+1)) j.2.1))) (ES g a b e))
def dP(g:Q_g)(a:Int)(b:(List Int))(c:y6):b6y:=
 ((f7 b 1).bind λd=>((Bl g c d).bind λe=>((f7 b 0).bind λf=>((f7 e.2.1.p_.Ms f).bind λh=>((f7 b 0).bind λj=>((f7 e.2.1.p_.No j).bind λk=>(cond (decide (k.Ks=26)) ((U3 g e.2.1 8 h.Es a).bind λl=>(some ((()),(l.2.1,())))) (cond (decide (k.Ks=28)) ((f7 b 0).bind λm=>((U3 g e.2.1 16 0 m).bind λn=>(some ((()),(n.2.1,()))))) (cond (decide (k.Ks=29)) ((f7 b 0).bind λo=>((U3 g e.2.1 18 h.Es o).bind λp=>(some ((()),(p.2.1,()))))) (some ((()),(e.2.1,()))))))))))))
def vC(g:Q_g)(a:y6)(b:Int):b6y:=
 ((Mw g a b).bind λc=>((f7 c.2.1.p_.Ms b).bind λd=>((U3 g c.2.1 1 d.Qs b).bind λe=>((f7 e.2.1.p_.No b).bind λf=>(cond (decide (f.Ks=7)) ((f7 c.1.1 1).bind λh=>((c.1.1[(Int.toNat 1)]?).bind λj=>((Bl g e.2.1 j).bind λk=>((f7 k.2.1.p_.Ms b).bind λl=>((U3 g k.2.1 8 l.Es b).bind λm=>(some ((()),(m.2.1,())))))))) (cond (decide (f.Ks=8)) ((IU g e.2.1 b c.1.1).bind λn=>(some ((()),(n.2.1,())))) (cond (decide (f.Ks=9)) ((f7 c.1.1 0).bind λo=>((c.1.1[(Int.toNat 0)]?).bind λp=>((Bl g e.2.1 p).bind λq=>((U3 g q.2.1 12 0 b).bind λs=>((f7 c.1.1 1).bind λt=>((c.1.1[(Int.toNat 1)]?).bind λu=>((Pz g s.2.1 u).bind λv=>(cond (decide ((c.1.1.length:Int)=3)) ((U3 g v.2.1 11 0 b).bind λw=>((Pl g w.2.1 s.1.1).bind λy=>((f7 c.1.1 2).bind λz=>((c.1.1[(Int.toNat 2)]?).bind λa1=>((Pz g y.2.1 a1).bind λb1=>xM g w.1.1 b1.2.1))))) (xM g s.1.1 v.2.1))))))))) (cond (decide (f.Ks=10)) ((f7 c.1.1 0).bind λc1=>((c.1.1[(Int.toNat 0)]?).bind λd1=>((Bl g e.2.1 d1).bind λe1=>((U3 g e1.2.1 12 0 b).bind λf1=>((f7 c.1.1 1).bind λh1=>((c.1.1[(Int.toNat 1)]?).bind λj1=>((Pz g f1.2.1 j1).bind λk1=>((U3 g k1.2.1 11 e.1.1 b).bind λl1=>((Pl g l1.2.1 f1.1.1).bind λm1=>(some ((()),(m1.2.1,())))))))))))) (cond (decide (f.Ks=11)) (cond (decide ((c.1.1.length:Int)=0)) ((U3 g e.2.1 26 0 b).bind λn1=>(some ((()),(n1.2.1,())))) ((f7 c.1.1 0).bind λo1=>((c.1.1[(Int.toNat 0)]?).bind λp1=>((Bl g e.2.1 p1).bind λq1=>((U3 g q1.2.1 25 0 b).bind λs1=>(some ((()),(s1.2.1,())))))))) (cond (decide (f.Ks=12)) ((f7 c.1.1 0).bind λt1=>((c.1.1[(Int.toNat 0)]?).bind λu1=>((Bl g e.2.1 u1).bind λv1=>((U3 g v1.2.1 23 0 b).bind λw1=>(some ((()),(w1.2.1,()))))))) (cond (decide (f.Ks=13)) ((f7 c.1.1 0).bind λy1=>((c.1.1[(Int.toNat 0)]?).bind λz1=>((Bl g e.2.1 z1).bind λa2=>((f7 c.1.1 0).bind λb2=>((c.1.1[(Int.toNat 0)]?).bind λc2=>((f7 a2.2.1.p_.Ms c2).bind λd2=>(cond (!(decide (d2.Ts=0))) ((U3 g a2.2.1 24 0 b).bind λe2=>(some ((()),(e2.2.1,())))) (some ((()),(a2.2.1,())))))))))) (some ((()),(e.2.1,()))))))))))))))
def Ut(g:Q_g)(a:Int)(b:y6):b6y:=
 ((Pl g b a).bind λc=>(some ((()),(c.2.1,()))))
def lZ(g:Q_g)(a:y6)(b:Int):b6y:=
 ((Mw g a b).bind λc=>pM g c 0 c.2.1)
def Xv(g:Q_g)(a:Q7)(b:Int)(c:y6):b6y:=
 (cond (decide (b<(a.1.1.length:Int))) ((f7 a.1.1 b).bind λd=>((a.1.1[(Int.toNat b)]?).bind λe=>((wG g c e).bind λf=>pM g a (w64 (b+1)) f.2.1))) (some ((()),(c,()))))
def oO(g:Q_g)(a:w8):b6G:=
 aX g a 0 (y6.mk a (s8.mk ([]:List p8) ([]:List D7) ([]:List (b6H))) 0 ([]:List ((b6H) × Int)))
def Yn(g:Q_g)(a:w8)(b:Int)(c:y6):b6G:=
 (cond (decide (b<(a.As.length:Int))) ((f7 a.As b).bind λd=>((Mw g (y6.mk c.p_ c.c_ (c.c_.On.length:Int) c.texts_) d.Gs).bind λe=>((f7 e.1.1 (w64 ((e.1.1.length:Int)-1))).bind λf=>((e.1.1[(Int.toNat (w64 ((e.1.1.length:Int)-1)))]?).bind λh=>((Pz g e.2.1 h).bind λj=>((U3 g j.2.1 26 0 d.Gs).bind λk=>((DT g k.2.1).bind λl=>(cond (!(decide (d.By=0))) (nS g a b k l d 1) (nS g a b k l d 0))))))))) (dG g c))
def oZ(g:Q_g)(a:w8)(b:Int)(c:RT1)(d:RT2)(e:x8)(f:Int):b6G:=
 ((B9 40 c.2.1.c_.As ([(D7.mk c.2.1.from_ d.1.1 e.Ps e.Ss f)]:List D7)).bind λh=>JN g a b c h)
def jL(g:Q_g)(a:y6):b6G:=
 (some ((a.c_,()),()))
def kV(g:Q_g)(a:w8)(b:Int)(c:RT1)(d:(List D7)):b6G:=
 aX g a (w64 (b+1)) (y6.mk c.2.1.p_ (s8.mk c.2.1.c_.On d c.2.1.c_.Us) c.2.1.from_ c.2.1.texts_)
def OD(g:Q_g)(a:s8)(b:Int):Option Un:=
 (gD a b).bind λr=>(some ((r,()),()):Option Un)
def XZ(g:Q_g):Option RT0:=
 ((cO g ([102,110,32,109,97,105,110,40,41,32,123,32,112,114,105,110,116,32,49,32,43,32,50,59,32,125]:b6H)).bind λa=>((kB g a.1.1).bind λb=>((b41 g b.1.1 0).bind λc=>(some (((decide (c.1.1=([48,32,112,111,105,110,116,32,48,10,49,32,105,110,116,32,49,10,50,32,105,110,116,32,50,10,51,32,98,105,110,32,49,10,52,32,112,114,105,110,116,10,53,32,108,101,97,118,101,10]:b6H))),()),())))))
def fZ(g:Q_g)(a:s8)(b:s8):Option RT0:=
 (cond (!(decide ((a.On.length:Int)=(b.On.length:Int)))) (some ((false,()),())) (cond (!(decide ((a.As.length:Int)=(b.As.length:Int)))) (some ((false,()),())) (cond (!(decide ((a.Us.length:Int)=(b.Us.length:Int)))) (some ((false,()),())) (kD g a 0 b))))
def Zy(g:Q_g)(a:s8)(b:Int)(c:s8):Option RT0:=
 (cond (decide (b<(a.On.length:Int))) ((f7 a.On b).bind λd=>((f7 c.On b).bind λe=>(cond (!((decide (d.Op=e.Op)&&(decide (d.A=e.A)&&decide (d.Ls=e.Ls))))) (some ((false,()),())) (kD g a (w64 (b+1)) c)))) (RA g a c))
def sV(g:Q_g)(a:s8)(b:s8):Option RT0:=
 vW g a 0 b
def Yx(g:Q_g)(a:s8)(b:Int)(c:s8):Option RT0:=
 (cond (decide (b<(a.As.length:Int))) ((f7 a.As b).bind λd=>((f7 c.As b).bind λe=>(cond (!((decide (d.At=e.At)&&(decide (d.In=e.In)&&(decide (d.Ps=e.Ps)&&(decide (d.Ss=e.Ss)&&decide (d.By=e.By))))))) (some ((false,()),())) (vW g a (w64 (b+1)) c)))) (ML g a c))
def sH(g:Q_g)(a:s8)(b:s8):Option RT0:=
 rO g a 0 b
def bD(g:Q_g)(a:s8)(b:Int)(c:s8):Option RT0:=
 (cond (decide (b<(a.Us.length:Int))) ((f7 a.Us b).bind λd=>((f7 c.Us b).bind λe=>(cond (!(decide (d=e))) (some ((false,()),())) (rO g a (w64 (b+1)) c)))) (NV g))
def tO(g:Q_g):Option RT0:=
 (some ((true,()),()))
def nE(g:Q_g)(a:s8):Option Vh:=
 (Uc a).bind λr=>(some ((r.1,r.2,()),()):Option Vh)
def sS(g:Q_g)(a:(List Int)):Option Tm:=
 (Pc a).bind λr=>(some ((r.1,r.2,()),()):Option Tm)
def sP(g:Q_g)(a:(b6H)):Option RT0:=
 ((CP g a).bind λb=>(cond (!b.1.2.1) ((yN g).bind λc=>(some ((c.1.1,()),()))) ((kB g b.1.1).bind λd=>((ST g d.1.1).bind λe=>((WO g e.1.1).bind λf=>(cond (decide (e.1.2.1=0)) (cond (decide (f.1.2.1=0)) ((FV g d.1.1 f.1.1).bind λh=>(cond h.1.1 (cond (decide ((d.1.1.As.length:Int)=(b.1.1.As.length:Int))) ((yN g).bind λj=>(some ((j.1.1,()),()))) (some ((false,()),()))) (some ((false,()),())))) (some ((false,()),()))) (some ((false,()),()))))))))
end
end
section
open Go.RowKit
set_option maxRecDepth 100000
set_option maxHeartbeats 0
noncomputable def Q_N(g:(i:Q_C)->Option (Q_T i)):(i:Q_C)->Option (Q_T i)
 |.c0 a b=>Qb0 g a b
 |.c1 a b c=>Qb1 g a b c
 |.c2 a b c d=>Qb2 g a b c d
 |.c3 a b c d=>Qb3 g a b c d
 |.c4 a=>Qb4 g a
 |.c5 a b=>Qb5 g a b
 |.c6 a b c d e=>Qb6 g a b c d e
 |.c7 a b=>Qb7 g a b
 |.c8 a=>Qb8 g a
 |.c9 a=>Qb9 g a
 |.c10 a=>mY g a
 |.c11=>EI g
 |.c12 a b=>Um g a b
 |.c13 a b=>aM g a b
 |.c14 a=>Vr g a
 |.c15 a=>iC g a
 |.c16 a b=>Wd g a b
 |.c17=>jU g
 |.c18 a=>oB g a
 |.c19 a=>eF g a
 |.c20 a=>fE g a
 |.c21 a=>iI g a
 |.c22 a b c=>Zg g a b c
 |.c23 a b=>tW g a b
 |.c24 a b=>iJ g a b
 |.c25 a b=>mZ g a b
 |.c26 a b c d=>Xj g a b c d
 |.c27 a b=>jJ g a b
 |.c28 a b c=>sZ g a b c
 |.c29 a b c=>eI g a b c
 |.c30 a b=>eB g a b
 |.c31 a b c=>Xl g a b c
 |.c32 a b c=>oD g a b c
 |.c33 a b c d e f=>Vi g a b c d e f
 |.c34 a b c d e f=>fD g a b c d e f
 |.c35 a b c d=>rS g a b c d
 |.c36 a b c d e f=>dR g a b c d e f
 |.c37 a=>pR g a
 |.c38 a=>kT g a
 |.c39 a=>jS g a
 |.c40=>BO g
 |.c41 a=>fN g a
 |.c42 a b c=>oV g a b c
 |.c43 a b c=>sW g a b c
 |.c44 a b c d=>Si g a b c d
 |.c45 a=>gJ g a
 |.c46 a b c=>bH g a b c
 |.c47 a b c=>qI g a b c
 |.c48 a b=>oS g a b
 |.c49 a b=>sU g a b
 |.c50 a b c=>Uy g a b c
 |.c51 a b=>oA g a b
 |.c52 a b c=>Ug g a b c
 |.c53=>nQ g
 |.c54 a=>uB g a
 |.c55 a b c d e f=>iD g a b c d e f
 |.c56 a b c d e=>dB g a b c d e
 |.c57 a=>tY g a
 |.c58 a=>gW g a
 |.c59 a b=>rJ g a b
 |.c60 a b c d e=>tD g a b c d e
 |.c61 a b=>mL g a b
 |.c62 a b=>oI g a b
 |.c63 a b=>pQ g a b
 |.c64 a b=>vI g a b
 |.c65 a b=>qL g a b
 |.c66 a b=>pJ g a b
 |.c67 a b=>qS g a b
 |.c68 a=>lK g a
 |.c69 a b c=>Ul g a b c
 |.c70 a b=>kJ g a b
 |.c71 a b=>pD g a b
 |.c72 a=>dA g a
 |.c73 a b c d=>gO g a b c d
 |.c74 a b c d=>eY g a b c d
 |.c75 a b=>uH g a b
 |.c76 a=>jY g a
 |.c77 a b c=>rH g a b c
 |.c78 a b c=>pY g a b c
 |.c79 a b=>nO g a b
 |.c80 a=>uD g a
 |.c81 a b=>rY g a b
 |.c82 a b=>lI g a b
 |.c83 a=>iA g a
 |.c84 a=>pC g a
 |.c85 a b=>pZ g a b
 |.c86 a b=>cG g a b
 |.c87 a b=>nK g a b
 |.c88 a=>uC g a
 |.c89 a b=>qZ g a b
 |.c90 a=>dE g a
 |.c91 a b=>Uh g a b
 |.c92 a b c d e=>Uq g a b c d e
 |.c93 a b c d e f=>Zd g a b c d e f
 |.c94 a b c d e=>fT g a b c d e
 |.c95 a b=>dW g a b
 |.c96 a=>cA g a
 |.c97 a b c=>Vc g a b c
 |.c98 a b c=>Yy g a b c
 |.c99 a b=>pU g a b
 |.c100 a b=>vF g a b
 |.c101 a b c=>iT g a b c
 |.c102 a b c=>tG g a b c
 |.c103 a=>pW g a
 |.c104 a b c=>lB g a b c
 |.c105 a b c=>mQ g a b c
 |.c106 a=>iY g a
 |.c107 a b c d e=>qE g a b c d e
 |.c108 a b c d e=>jV g a b c d e
 |.c109 a b c d e=>fF g a b c d e
 |.c110 a b c d e f=>nL g a b c d e f
 |.c111 a=>cT g a
 |.c112 a b=>iZ g a b
 |.c113 a b c=>oH g a b c
 |.c114 a b=>kW g a b
 |.c115 a b=>pS g a b
 |.c116 a b=>gX g a b
 |.c117 a=>nW g a
 |.c118 a b=>kY g a b
 |.c119 a b c d=>Xb g a b c d
 |.c120 a=>mI g a
 |.c121 a b=>fY g a b
 |.c122 a b c d=>Ye g a b c d
 |.c123 a b c=>Wf g a b c
 |.c124 a=>nH g a
 |.c125 a b=>eJ g a b
 |.c126 a b=>bI g a b
 |.c127 a=>eH g a
 |.c128 a=>cB g a
 |.c129 a=>rI g a
 |.c130 a=>mH g a
 |.c131 a=>tL g a
 |.c132 a=>fC g a
 |.c133 a=>oC g a
 |.c134 a=>gI g a
 |.c135 a=>nU g a
 |.c136=>sE g
 |.c137 a b=>eR g a b
 |.c138 a b c=>Yr g a b c
 |.c139=>iR g
 |.c140 a b=>vE g a b
 |.c141 a b c d e=>Zi g a b c d e
 |.c142 a b c d=>jB g a b c d
 |.c143 a b c d=>oY g a b c d
 |.c144 a=>nC g a
 |.c145 a b=>Yc g a b
 |.c146=>iG g
 |.c147 a=>EU g a
 |.c148 a b=>nZ g a b
 |.c149 a b c=>Zn g a b c
 |.c150=>vY g
 |.c151 a b=>nB g a b
 |.c152 a b c d e=>Xk g a b c d e
 |.c153 a=>qA g a
 |.c154 a b c=>jI g a b c
 |.c155 a b c d=>Zu g a b c d
 |.c156=>kS g
 |.c157 a=>tQ g a
 |.c158 a b c=>Tt g a b c
 |.c159 a=>fJ g a
 |.c160 a b c=>Nn g a b c
 |.c161 a b=>rZ g a b
 |.c162 a b c d=>Ux g a b c d
 |.c163 a b c=>tX g a b c
 |.c164 a=>rB g a
 |.c165 a b c=>lF g a b c
 |.c166 a b c d=>Yl g a b c d
 |.c167=>pP g
 |.c168 a b c=>wB g a b c
 |.c169 a b c d=>rW g a b c d
 |.c170 a b=>gE g a b
 |.c171 a b c=>gC g a b c
 |.c172 a b c=>iO g a b c
 |.c173 a b=>eW g a b
 |.c174 a b c=>mC g a b c
 |.c175 a=>nR g a
 |.c176 a b c d=>aT g a b c d
 |.c177 a b c d=>cU g a b c d
 |.c178 a b c d=>pG g a b c d
 |.c179 a b c=>lC g a b c
 |.c180 a b c d e=>bR g a b c d e
 |.c181 a b c d=>Zr g a b c d
 |.c182 a b c d e f h j=>Yg g a b c d e f h j
 |.c183 a=>dJ g a
 |.c184 a b c d e f h j=>tH g a b c d e f h j
 |.c185 a b c d e f h j=>sY g a b c d e f h j
 |.c186 a b c d e f h=>oQ g a b c d e f h
 |.c187 a b c d e f h j k=>kQ g a b c d e f h j k
 |.c188 a b c d e=>mP g a b c d e
 |.c189 a=>lU g a
 |.c190 a b=>Xp g a b
 |.c191=>hH g
 |.c192 a b c=>cZ g a b c
 |.c193 a b c=>uF g a b c
 |.c194 a b=>oM g a b
 |.c195 a=>pI g a
 |.c196 a b c d=>Ze g a b c d
 |.c197 a b c d e f h j=>aQ g a b c d e f h j
 |.c198 a b c d e f=>sN g a b c d e f
 |.c199 a=>gZ g a
 |.c200 a b c d e f h j=>rL g a b c d e f h j
 |.c201 a b c d e f h j=>uP g a b c d e f h j
 |.c202 a b c d e f h=>fO g a b c d e f h
 |.c203 a b c d e f=>eS g a b c d e f
 |.c204 a b c d e f h j=>pL g a b c d e f h j
 |.c205 a b c d e=>uY g a b c d e
 |.c206 a b c d e=>cS g a b c d e
 |.c207 a b c d e f h=>jE g a b c d e f h
 |.c208 a b c=>Og g a b c
 |.c209 a b c=>bO g a b c
 |.c210 a b=>nI g a b
 |.c211 a b c d=>fV g a b c d
 |.c212 a b c d e=>Po g a b c d e
 |.c213 a b c d e f h j=>Wk g a b c d e f h j
 |.c214 a b c d e f=>lX g a b c d e f
 |.c215 a=>Tx g a
 |.c216 a b c d e f=>vU g a b c d e f
 |.c217 a b c d e=>Lz g a b c d e
 |.c218 a b c d e=>uU g a b c d e
 |.c219 a b c d e=>Wr g a b c d e
 |.c220 a b c d e f h j k=>aG g a b c d e f h j k
 |.c221 a b c d e f h j=>tA g a b c d e f h j
 |.c222 a b=>jA g a b
 |.c223 a b c d e f h j=>bU g a b c d e f h j
 |.c224 a b c d e f h j=>pK g a b c d e f h j
 |.c225 a b c d=>fB g a b c d
 |.c226 a b c d e f=>Zj g a b c d e f
 |.c227 a b c=>uW g a b c
 |.c228 a b c d e=>Zx g a b c d e
 |.c229 a b=>sK g a b
 |.c230 a b=>fH g a b
 |.c231 a b c d e=>bA g a b c d e
 |.c232 a b c d=>bZ g a b c d
 |.c233 a=>kC g a
 |.c234 a b c=>Nk g a b c
 |.c235 a=>Yw g a
 |.c236 a b=>cY g a b
 |.c237 a=>nY g a
 |.c238 a=>Tn g a
 |.c239 a b c=>vQ g a b c
 |.c240 a b c=>tR g a b c
 |.c241 a b c=>hO g a b c
 |.c242 a b c=>gA g a b c
 |.c243 a=>lD g a
 |.c244 a b=>rQ g a b
 |.c245 a b c=>kR g a b c
 |.c246 a b=>oJ g a b
 |.c247 a b c d e=>Ur g a b c d e
 |.c248 a b c d=>cR g a b c d
 |.c249 a b c d e=>Xt g a b c d e
 |.c250 a b c d e=>Zm g a b c d e
 |.c251 a b=>kF g a b
 |.c252 a b=>qG g a b
 |.c253 a b c=>mD g a b c
 |.c254 a b=>sQ g a b
 |.c255 a b c d=>Wu g a b c d
 |.c256 a b=>qO g a b
 |.c257 a b c d=>vV g a b c d
 |.c258 a b=>cH g a b
 |.c259 a b c d e=>rV g a b c d e
 |.c260 a=>lH g a
 |.c261 a b=>oR g a b
 |.c262=>DU g
 |.c263 a b c=>jM g a b c
 |.c264 a b=>cV g a b
 |.c265 a b c=>sR g a b c
 |.c266 a b c d=>kU g a b c d
 |.c267 a b c d e=>eM g a b c d e
 |.c268 a b c d e=>tN g a b c d e
 |.c269 a b=>Ke g a b
 |.c270 a b c d=>kX g a b c d
 |.c271 a b c d=>Vy g a b c d
 |.c272 a b=>cD g a b
 |.c273 a b=>vL g a b
 |.c274 a b=>lT g a b
 |.c275 a b c d=>Vb g a b c d
 |.c276 a b=>jN g a b
 |.c277 a=>tZ g a
 |.c278 a b c d=>Wg g a b c d
 |.c279 a b=>gU g a b
 |.c280 a=>vB g a
 |.l16_source a=>sL g a
 |.c282 a b=>dQ g a b
 |.c283 a b c d=>aV g a b c d
 |.c284 a b=>qQ g a b
 |.c285 a b c d=>sO g a b c d
 |.c286 a=>Ti g a
 |.c287 a b=>gB g a b
 |.c288 a b=>uS g a b
 |.c289 a b c d=>Vv g a b c d
 |.c290 a b c=>bK g a b c
 |.c291 a b=>vR g a b
 |.c292 a b c d e f h=>aN g a b c d e f h
 |.c293 a b c d=>iH g a b c d
 |.c294 a b c=>oT g a b c
 |.c295 a b c d e=>uE g a b c d e
 |.c296 a b c d=>sB g a b c d
 |.c297 a b c=>qM g a b c
 |.c298 a b c d e=>Zp g a b c d e
 |.c299 a b c=>dP g a b c
 |.c300 a b=>vC g a b
 |.c301 a b=>Ut g a b
 |.c302 a b=>lZ g a b
 |.c303 a b c=>Xv g a b c
 |.c304 a=>oO g a
 |.c305 a b c=>Yn g a b c
 |.c306 a b c d e f=>oZ g a b c d e f
 |.c307 a=>jL g a
 |.c308 a b c d=>kV g a b c d
 |.c309 a b=>OD g a b
 |.l16_awake=>XZ g
 |.c311 a b=>fZ g a b
 |.c312 a b c=>Zy g a b c
 |.c313 a b=>sV g a b
 |.c314 a b c=>Yx g a b c
 |.c315 a b=>sH g a b
 |.c316 a b c=>bD g a b c
 |.c317=>tO g
 |.c318 a=>nE g a
 |.c319 a=>sS g a
 |.l16_GenBytes a=>sP g a
theorem b4N(g:Gt tab Q4)(i:Q_C):pV (Q_B g) i=Q_N (pV g) i:=by cases i<;>as_aux_lemma=>kernel_rfl
theorem f8(i:Q_C):d5 i=Q_N d5 i:=(a1b i).trans (b4N _ i)
theorem b09(i:Q_C):J2 (λg=>Q_N g i):=by
 cases i
 all_goals dsimp only[Q_N,Qb0,Qb1,Qb2,Qb3,Qb4,Qb5,Qb6,Qb7,Qb8,Qb9,mY,EI,Um,aM,Vr,iC,Wd,jU,oB,eF,fE,iI,Zg,tW,iJ,mZ,Xj,jJ,sZ,eI,eB,Xl,oD,Vi,fD,rS,dR,pR,kT,jS,BO,fN,oV,sW,Si,gJ,bH,qI,oS,sU,Uy,oA,Ug,nQ,uB,iD,dB,tY,gW,rJ,tD,mL,oI,pQ,vI,qL,pJ,qS,lK,Ul,kJ,pD,dA,gO,eY,uH,jY,rH,pY,nO,uD,rY,lI,iA,pC,pZ,cG,nK,uC,qZ,dE,Uh,Uq,Zd,fT,dW,cA,Vc,Yy,pU,vF,iT,tG,pW,lB,mQ,iY,qE,jV,fF,nL,cT,iZ,oH,kW,pS,gX,nW,kY,Xb,mI,fY,Ye,Wf,nH,eJ,bI,eH,cB,rI,mH,tL,fC,oC,gI,nU,sE,eR,Yr,iR,vE,Zi,jB,oY,nC,Yc,iG,EU,nZ,Zn,vY,nB,Xk,qA,jI,Zu,kS,tQ,Tt,fJ,Nn,rZ,Ux,tX,rB,lF,Yl,pP,wB,rW,gE,gC,iO,eW,mC,nR,aT,cU,pG,lC,bR,Zr,Yg,dJ,tH,sY,oQ,kQ,mP,lU,Xp,hH,cZ,uF,oM,pI,Ze,aQ,sN,gZ,rL,uP,fO,eS,pL,uY,cS,jE,Og,bO,nI,fV,Po,Wk,lX,Tx,vU,Lz,uU,Wr,aG,tA,jA,bU,pK,fB,Zj,uW,Zx,sK,fH,bA,bZ,kC,Nk,Yw,cY,nY,Tn,vQ,tR,hO,gA,lD,rQ,kR,oJ,Ur,cR,Xt,Zm,kF,qG,mD,sQ,Wu,qO,vV,cH,rV,lH,oR,DU,jM,cV,sR,kU,eM,tN,Ke,kX,Vy,cD,vL,lT,Vb,jN,tZ,Wg,gU,vB,sL,dQ,aV,qQ,sO,Ti,gB,uS,Vv,bK,vR,aN,iH,oT,uE,sB,qM,Zp,dP,vC,Ut,lZ,Xv,oO,Yn,oZ,jL,kV,OD,XZ,fZ,Zy,sV,Yx,sH,bD,tO,nE,sS,sP]
 all_goals repeat(first|exact FM _|exact T5 _|refine CM ?_ (λ_=>?_)|refine a5d _ ?_ ?_)
theorem a6p{i:Q_C}{r:Q_T i}(h:J0 Q_N i=some r):d5 i=some r:=b1B b09 f8 h
end
section
open Go.RowKit
set_option maxRecDepth 100000
set_option maxHeartbeats 4000000
theorem PR a b:DW d5 a b=Qb0 d5 a b:=f8 (.c0 a b)
theorem OP a b c:Fc d5 a b c=Qb1 d5 a b c:=f8 (.c1 a b c)
theorem b2F a b c d:eV d5 a b c d=Qb2 d5 a b c d:=f8 (.c2 a b c d)
theorem a01 a b c d:uL d5 a b c d=Qb3 d5 a b c d:=f8 (.c3 a b c d)
theorem a7s a:MK d5 a=Qb4 d5 a:=f8 (.c4 a)
theorem a8n a b:XS d5 a b=Qb5 d5 a b:=f8 (.c5 a b)
theorem JU a b c d e:Sx d5 a b c d e=Qb6 d5 a b c d e:=f8 (.c6 a b c d e)
theorem b4G a b:ZL d5 a b=Qb7 d5 a b:=f8 (.c7 a b)
theorem a3U a:Jt d5 a=Qb8 d5 a:=f8 (.c8 a)
theorem a0W a:bM d5 a=Qb9 d5 a:=f8 (.c9 a)
theorem a8V a:Vz d5 a=mY d5 a:=f8 (.c10 a)
theorem b4m:uV d5=EI d5:=f8 (.c11)
theorem ZP a b:zH d5 a b=Um d5 a b:=f8 (.c12 a b)
theorem TW a b:lR d5 a b=aM d5 a b:=f8 (.c13 a b)
theorem MA a:EL d5 a=Vr d5 a:=f8 (.c14 a)
theorem b46 a:FF d5 a=iC d5 a:=f8 (.c15 a)
theorem MC a b:mR d5 a b=Wd d5 a b:=f8 (.c16 a b)
theorem a1n:KD d5=jU d5:=f8 (.c17)
theorem b5K a:a0U d5 a=oB d5 a:=f8 (.c18 a)
theorem b4O a:SE d5 a=eF d5 a:=f8 (.c19 a)
theorem a0V a:PP d5 a=fE d5 a:=f8 (.c20 a)
theorem b2B a:EZ d5 a=iI d5 a:=f8 (.c21 a)
theorem YN a b c:bY d5 a b c=Zg d5 a b c:=f8 (.c22 a b c)
theorem a8J a b:cX d5 a b=tW d5 a b:=f8 (.c23 a b)
theorem b5o a b:Tp d5 a b=iJ d5 a b:=f8 (.c24 a b)
theorem b55 a b:CT d5 a b=mZ d5 a b:=f8 (.c25 a b)
theorem UZ a b c d:pX d5 a b c d=Xj d5 a b c d:=f8 (.c26 a b c d)
theorem a08 a b:qV d5 a b=jJ d5 a b:=f8 (.c27 a b)
theorem a5A a b c:mU d5 a b c=sZ d5 a b c:=f8 (.c28 a b c)
theorem a3V a b c:RQ d5 a b c=eI d5 a b c:=f8 (.c29 a b c)
theorem a3c a b:YE d5 a b=eB d5 a b:=f8 (.c30 a b)
theorem SI a b c:mK d5 a b c=Xl d5 a b c:=f8 (.c31 a b c)
theorem b0k a b c:nM d5 a b c=oD d5 a b c:=f8 (.c32 a b c)
theorem ZZ a b c d e f:dH d5 a b c d e f=Vi d5 a b c d e f:=f8 (.c33 a b c d e f)
theorem a8C a b c d e f:dT d5 a b c d e f=fD d5 a b c d e f:=f8 (.c34 a b c d e f)
theorem b2u a b c d:tC d5 a b c d=rS d5 a b c d:=f8 (.c35 a b c d)
theorem b6c a b c d e f:nF d5 a b c d e f=dR d5 a b c d e f:=f8 (.c36 a b c d e f)
theorem b2U a:Xe d5 a=pR d5 a:=f8 (.c37 a)
theorem a5E a:jG d5 a=kT d5 a:=f8 (.c38 a)
theorem a9g a:oU d5 a=jS d5 a:=f8 (.c39 a)
theorem a2b:mE d5=BO d5:=f8 (.c40)
theorem a3K a:IZ d5 a=fN d5 a:=f8 (.c41 a)
theorem b39 a b c:tJ d5 a b c=oV d5 a b c:=f8 (.c42 a b c)
theorem a5e a b c:eD d5 a b c=sW d5 a b c:=f8 (.c43 a b c)
theorem wJ a b c d:zK d5 a b c d=Si d5 a b c d:=f8 (.c44 a b c d)
theorem a7u a:ZH d5 a=gJ d5 a:=f8 (.c45 a)
theorem a7f a b c:Mk d5 a b c=bH d5 a b c:=f8 (.c46 a b c)
theorem a2W a b c:a0s d5 a b c=qI d5 a b c:=f8 (.c47 a b c)
theorem a31 a b:bB d5 a b=oS d5 a b:=f8 (.c48 a b)
theorem b18 a b:cJ d5 a b=sU d5 a b:=f8 (.c49 a b)
theorem JR a b c:Vj d5 a b c=Uy d5 a b c:=f8 (.c50 a b c)
theorem a8Y a b:XD d5 a b=oA d5 a b:=f8 (.c51 a b)
theorem LA a b c:qX d5 a b c=Ug d5 a b c:=f8 (.c52 a b c)
theorem b4p:OO d5=nQ d5:=f8 (.c53)
theorem a7b a:vP d5 a=uB d5 a:=f8 (.c54 a)
theorem a8W a b c d e f:vS d5 a b c d e f=iD d5 a b c d e f:=f8 (.c55 a b c d e f)
theorem a1w a b c d e:kZ d5 a b c d e=dB d5 a b c d e:=f8 (.c56 a b c d e)
theorem b1u a:Dj d5 a=tY d5 a:=f8 (.c57 a)
theorem a29 a:W8 d5 a=gW d5 a:=f8 (.c58 a)
theorem a4f a b:G3 d5 a b=rJ d5 a b:=f8 (.c59 a b)
theorem b3H a b c d e:I4 d5 a b c d e=tD d5 a b c d e:=f8 (.c60 a b c d e)
theorem b06 a b:Gd d5 a b=mL d5 a b:=f8 (.c61 a b)
theorem a59 a b:L4 d5 a b=oI d5 a b:=f8 (.c62 a b)
theorem a2S a b:Ig d5 a b=pQ d5 a b:=f8 (.c63 a b)
theorem a95 a b:uN d5 a b=vI d5 a b:=f8 (.c64 a b)
theorem a2L a b:Cp d5 a b=qL d5 a b:=f8 (.c65 a b)
theorem a8e a b:qD d5 a b=pJ d5 a b:=f8 (.c66 a b)
theorem a99 a b:Ea d5 a b=qS d5 a b:=f8 (.c67 a b)
theorem a86 a:Mz d5 a=lK d5 a:=f8 (.c68 a)
theorem a0u a b c:pE d5 a b c=Ul d5 a b c:=f8 (.c69 a b c)
theorem a00 a b:DO d5 a b=kJ d5 a b:=f8 (.c70 a b)
theorem b4B a b:lM d5 a b=pD d5 a b:=f8 (.c71 a b)
theorem a6j a:FG d5 a=dA d5 a:=f8 (.c72 a)
theorem b1I a b c d:cE d5 a b c d=gO d5 a b c d:=f8 (.c73 a b c d)
theorem b5J a b c d:pO d5 a b c d=eY d5 a b c d:=f8 (.c74 a b c d)
theorem b6d a b:Dk d5 a b=uH d5 a b:=f8 (.c75 a b)
theorem a1A a:KZ d5 a=jY d5 a:=f8 (.c76 a)
theorem b3v a b c:lE d5 a b c=rH d5 a b c:=f8 (.c77 a b c)
theorem b2N a b c:oK d5 a b c=pY d5 a b c:=f8 (.c78 a b c)
theorem b4L a b:jR d5 a b=nO d5 a b:=f8 (.c79 a b)
theorem a0X a:EC d5 a=uD d5 a:=f8 (.c80 a)
theorem b4b a b:Qh d5 a b=rY d5 a b:=f8 (.c81 a b)
theorem b3p a b:Sk d5 a b=lI d5 a b:=f8 (.c82 a b)
theorem b0e a:IP d5 a=iA d5 a:=f8 (.c83 a)
theorem b2H a:XT d5 a=pC d5 a:=f8 (.c84 a)
theorem b5m a b:Tw d5 a b=pZ d5 a b:=f8 (.c85 a b)
theorem a39 a b:fW d5 a b=cG d5 a b:=f8 (.c86 a b)
theorem a9I a b:xJ d5 a b=nK d5 a b:=f8 (.c87 a b)
theorem b0U a:Ql d5 a=uC d5 a:=f8 (.c88 a)
theorem a2U a b:qR d5 a b=qZ d5 a b:=f8 (.c89 a b)
theorem a4e a:BF d5 a=dE d5 a:=f8 (.c90 a)
theorem PW a b:O2 d5 a b=Uh d5 a b:=f8 (.c91 a b)
theorem MG a b c d e:qC d5 a b c d e=Uq d5 a b c d e:=f8 (.c92 a b c d e)
theorem UY a b c d e f:Ll d5 a b c d e f=Zd d5 a b c d e f:=f8 (.c93 a b c d e f)
theorem b1H a b c d e:AH d5 a b c d e=fT d5 a b c d e:=f8 (.c94 a b c d e)
theorem a02 a b:NW d5 a b=dW d5 a b:=f8 (.c95 a b)
theorem a6w a:Pg d5 a=cA d5 a:=f8 (.c96 a)
theorem MZ a b c:wF d5 a b c=Vc d5 a b c:=f8 (.c97 a b c)
theorem LY a b c:GK d5 a b c=Yy d5 a b c:=f8 (.c98 a b c)
theorem a4o a b:Wp d5 a b=pU d5 a b:=f8 (.c99 a b)
theorem a9l a b:lA d5 a b=vF d5 a b:=f8 (.c100 a b)
theorem b5i a b c:Tv d5 a b c=iT d5 a b c:=f8 (.c101 a b c)
theorem b4g a b c:fM d5 a b c=tG d5 a b c:=f8 (.c102 a b c)
theorem b1n a:Ij d5 a=pW d5 a:=f8 (.c103 a)
theorem a6t a b c:uX d5 a b c=lB d5 a b c:=f8 (.c104 a b c)
theorem a1I a b c:tM d5 a b c=mQ d5 a b c:=f8 (.c105 a b c)
theorem a5O a:GE d5 a=iY d5 a:=f8 (.c106 a)
theorem b3J a b c d e:uI d5 a b c d e=qE d5 a b c d e:=f8 (.c107 a b c d e)
theorem a6s a b c d e:cQ d5 a b c d e=jV d5 a b c d e:=f8 (.c108 a b c d e)
theorem a3t a b c d e:bW d5 a b c d e=fF d5 a b c d e:=f8 (.c109 a b c d e)
theorem a1V a b c d e f:jT d5 a b c d e f=nL d5 a b c d e f:=f8 (.c110 a b c d e f)
theorem a57 a:a0F d5 a=cT d5 a:=f8 (.c111 a)
theorem a8S a b:lW d5 a b=iZ d5 a b:=f8 (.c112 a b)
theorem a8j a b c:Wy d5 a b c=oH d5 a b c:=f8 (.c113 a b c)
theorem b4c a b:bN d5 a b=kW d5 a b:=f8 (.c114 a b)
theorem b3l a b:BG d5 a b=pS d5 a b:=f8 (.c115 a b)
theorem a3P a b:gK d5 a b=gX d5 a b:=f8 (.c116 a b)
theorem a8Z a:qJ d5 a=nW d5 a:=f8 (.c117 a)
theorem a7y a b:Ai d5 a b=kY d5 a b:=f8 (.c118 a b)
theorem a0t a b c d:jD d5 a b c d=Xb d5 a b c d:=f8 (.c119 a b c d)
theorem b3Q a:KB d5 a=mI d5 a:=f8 (.c120 a)
theorem a6F a b:Rz d5 a b=fY d5 a b:=f8 (.c121 a b)
theorem LB a b c d:pN d5 a b c d=Ye d5 a b c d:=f8 (.c122 a b c d)
theorem NU a b c:wH d5 a b c=Wf d5 a b c:=f8 (.c123 a b c)
theorem a7C a:iV d5 a=nH d5 a:=f8 (.c124 a)
theorem a1p a b:rU d5 a b=eJ d5 a b:=f8 (.c125 a b)
theorem b4v a b:bJ d5 a b=bI d5 a b:=f8 (.c126 a b)
theorem a7g a:AI d5 a=eH d5 a:=f8 (.c127 a)
theorem a8P a:eK d5 a=cB d5 a:=f8 (.c128 a)
theorem b4A a:FT d5 a=rI d5 a:=f8 (.c129 a)
theorem b5l a:pT d5 a=mH d5 a:=f8 (.c130 a)
theorem b4Y a:Ka d5 a=tL d5 a:=f8 (.c131 a)
theorem a7c a:FK d5 a=fC d5 a:=f8 (.c132 a)
theorem b0J a:qW d5 a=oC d5 a:=f8 (.c133 a)
theorem a7a a:uM d5 a=gI d5 a:=f8 (.c134 a)
theorem b0Z a:nX d5 a=nU d5 a:=f8 (.c135 a)
theorem b0n:WH d5=sE d5:=f8 (.c136)
theorem b0V a b:Ow d5 a b=eR d5 a b:=f8 (.c137 a b)
theorem KY a b c:dF d5 a b c=Yr d5 a b c:=f8 (.c138 a b c)
theorem a4I:UH d5=iR d5:=f8 (.c139)
theorem b3i a b:CA d5 a b=vE d5 a b:=f8 (.c140 a b)
theorem a0P a b c d e:Zz d5 a b c d e=Zi d5 a b c d e:=f8 (.c141 a b c d e)
theorem b58 a b c d:FR d5 a b c d=jB d5 a b c d:=f8 (.c142 a b c d)
theorem a7H a b c d:eO d5 a b c d=oY d5 a b c d:=f8 (.c143 a b c d)
theorem a4S a:rC d5 a=nC d5 a:=f8 (.c144 a)
theorem ZB a b:mB d5 a b=Yc d5 a b:=f8 (.c145 a b)
theorem b1C:KV d5=iG d5:=f8 (.c146)
theorem a3E a:Q6 d5 a=EU d5 a:=f8 (.c147 a)
theorem a3W a b:uK d5 a b=nZ d5 a b:=f8 (.c148 a b)
theorem NP a b c:rN d5 a b c=Zn d5 a b c:=f8 (.c149 a b c)
theorem b0i:MQ d5=vY d5:=f8 (.c150)
theorem b1s a b:eC d5 a b=nB d5 a b:=f8 (.c151 a b)
theorem a0H a b c d e:aA d5 a b c d e=Xk d5 a b c d e:=f8 (.c152 a b c d e)
theorem b33 a:VS d5 a=qA d5 a:=f8 (.c153 a)
theorem a2c a b c:Ph d5 a b c=jI d5 a b c:=f8 (.c154 a b c)
theorem UT a b c d:bT d5 a b c d=Zu d5 a b c d:=f8 (.c155 a b c d)
theorem b1f:RV d5=kS d5:=f8 (.c156)
theorem a4F a:FZ d5 a=tQ d5 a:=f8 (.c157 a)
theorem OF a b c:dI d5 a b c=Tt d5 a b c:=f8 (.c158 a b c)
theorem b3G a:wX d5 a=fJ d5 a:=f8 (.c159 a)
theorem nP a b c:Jo d5 a b c=Nn d5 a b c:=f8 (.c160 a b c)
theorem a2M a b:Mq d5 a b=rZ d5 a b:=f8 (.c161 a b)
theorem PX a b c d:Xw d5 a b c d=Ux d5 a b c d:=f8 (.c162 a b c d)
theorem a5I a b c:VO d5 a b c=tX d5 a b c:=f8 (.c163 a b c)
theorem a4M a:GJ d5 a=rB d5 a:=f8 (.c164 a)
theorem a7R a b c:GH d5 a b c=lF d5 a b c:=f8 (.c165 a b c)
theorem JE a b c d:qP d5 a b c d=Yl d5 a b c d:=f8 (.c166 a b c d)
theorem a9V:QO d5=pP d5:=f8 (.c167)
theorem a2s a b c:Tb d5 a b c=wB d5 a b c:=f8 (.c168 a b c)
theorem a6c a b c d:yF d5 a b c d=rW d5 a b c d:=f8 (.c169 a b c d)
theorem a1B a b:XX d5 a b=gE d5 a b:=f8 (.c170 a b)
theorem b5S a b c:Xz d5 a b c=gC d5 a b c:=f8 (.c171 a b c)
theorem b4M a b c:Xx d5 a b c=iO d5 a b c:=f8 (.c172 a b c)
theorem a98 a b:sM d5 a b=eW d5 a b:=f8 (.c173 a b)
theorem a9L a b c:gG d5 a b c=mC d5 a b c:=f8 (.c174 a b c)
theorem a65 a:DI d5 a=nR d5 a:=f8 (.c175 a)
theorem TH a b c d:Up d5 a b c d=aT d5 a b c d:=f8 (.c176 a b c d)
theorem b0d a b c d:kG d5 a b c d=cU d5 a b c d:=f8 (.c177 a b c d)
theorem a8a a b c d:fU d5 a b c d=pG d5 a b c d:=f8 (.c178 a b c d)
theorem b5C a b c:Tq d5 a b c=lC d5 a b c:=f8 (.c179 a b c)
theorem b1w a b c d e:NQ d5 a b c d e=bR d5 a b c d e:=f8 (.c180 a b c d e)
theorem QB a b c d:vD d5 a b c d=Zr d5 a b c d:=f8 (.c181 a b c d)
theorem a0e a b c d e f h j:Se d5 a b c d e f h j=Yg d5 a b c d e f h j:=f8 (.c182 a b c d e f h j)
theorem a2R a:WA d5 a=dJ d5 a:=f8 (.c183 a)
theorem a9m a b c d e f h j:Vp d5 a b c d e f h j=tH d5 a b c d e f h j:=f8 (.c184 a b c d e f h j)
theorem a4v a b c d e f h j:aU d5 a b c d e f h j=sY d5 a b c d e f h j:=f8 (.c185 a b c d e f h j)
theorem b4l a b c d e f h:aR d5 a b c d e f h=oQ d5 a b c d e f h:=f8 (.c186 a b c d e f h)
theorem b5T a b c d e f h j k:KF d5 a b c d e f h j k=kQ d5 a b c d e f h j k:=f8 (.c187 a b c d e f h j k)
theorem b2r a b c d e:MW d5 a b c d e=mP d5 a b c d e:=f8 (.c188 a b c d e)
theorem a6l a:nJ d5 a=lU d5 a:=f8 (.c189 a)
theorem a0I a b:kK d5 a b=Xp d5 a b:=f8 (.c190 a b)
theorem a6H:MY d5=hH d5:=f8 (.c191)
theorem a4t a b c:Rw d5 a b c=cZ d5 a b c:=f8 (.c192 a b c)
theorem a7d a b c:Kl d5 a b c=uF d5 a b c:=f8 (.c193 a b c)
theorem a3u a b:aZ d5 a b=oM d5 a b:=f8 (.c194 a b)
theorem b40 a:xU d5 a=pI d5 a:=f8 (.c195 a)
theorem RF a b c d:Yo d5 a b c d=Ze d5 a b c d:=f8 (.c196 a b c d)
theorem LO a b c d e f h j:Pe d5 a b c d e f h j=aQ d5 a b c d e f h j:=f8 (.c197 a b c d e f h j)
theorem a5P a b c d e f:sJ d5 a b c d e f=sN d5 a b c d e f:=f8 (.c198 a b c d e f)
theorem b1R a:PL d5 a=gZ d5 a:=f8 (.c199 a)
theorem a9Q a b c d e f h j:Ve d5 a b c d e f h j=rL d5 a b c d e f h j:=f8 (.c200 a b c d e f h j)
theorem a1Y a b c d e f h j:Zc d5 a b c d e f h j=uP d5 a b c d e f h j:=f8 (.c201 a b c d e f h j)
theorem a61 a b c d e f h:Mn d5 a b c d e f h=fO d5 a b c d e f h:=f8 (.c202 a b c d e f h)
theorem a8c a b c d e f:rA d5 a b c d e f=eS d5 a b c d e f:=f8 (.c203 a b c d e f)
theorem a87 a b c d e f h j:PM d5 a b c d e f h j=pL d5 a b c d e f h j:=f8 (.c204 a b c d e f h j)
theorem a5i a b c d e:a0r d5 a b c d e=uY d5 a b c d e:=f8 (.c205 a b c d e)
theorem b2x a b c d e:lS d5 a b c d e=cS d5 a b c d e:=f8 (.c206 a b c d e)
theorem b32 a b c d e f h:fX d5 a b c d e f h=jE d5 a b c d e f h:=f8 (.c207 a b c d e f h)
theorem sC a b c:Dy d5 a b c=Og d5 a b c:=f8 (.c208 a b c)
theorem b0Y a b c:Ik d5 a b c=bO d5 a b c:=f8 (.c209 a b c)
theorem a3m a b:Vt d5 a b=nI d5 a b:=f8 (.c210 a b)
theorem a1u a b c d:tU d5 a b c d=fV d5 a b c d:=f8 (.c211 a b c d)
theorem AG a b c d e:Ma d5 a b c d e=Po d5 a b c d e:=f8 (.c212 a b c d e)
theorem OT a b c d e f h j:Sw d5 a b c d e f h j=Wk d5 a b c d e f h j:=f8 (.c213 a b c d e f h j)
theorem a68 a b c d e f:jW d5 a b c d e f=lX d5 a b c d e f:=f8 (.c214 a b c d e f)
theorem SM a:PN d5 a=Tx d5 a:=f8 (.c215 a)
theorem a9b a b c d e f:IX d5 a b c d e f=vU d5 a b c d e f:=f8 (.c216 a b c d e f)
theorem sG a b c d e:Pj d5 a b c d e=Lz d5 a b c d e:=f8 (.c217 a b c d e)
theorem b3e a b c d e:GT d5 a b c d e=uU d5 a b c d e:=f8 (.c218 a b c d e)
theorem a0K a b c d e:Rr d5 a b c d e=Wr d5 a b c d e:=f8 (.c219 a b c d e)
theorem a0G a b c d e f h j k:Tf d5 a b c d e f h j k=aG d5 a b c d e f h j k:=f8 (.c220 a b c d e f h j k)
theorem a7x a b c d e f h j:vJ d5 a b c d e f h j=tA d5 a b c d e f h j:=f8 (.c221 a b c d e f h j)
theorem b4F a b:SL d5 a b=jA d5 a b:=f8 (.c222 a b)
theorem a4E a b c d e f h j:zJ d5 a b c d e f h j=bU d5 a b c d e f h j:=f8 (.c223 a b c d e f h j)
theorem a7X a b c d e f h j:mV d5 a b c d e f h j=pK d5 a b c d e f h j:=f8 (.c224 a b c d e f h j)
theorem a7V a b c d:lG d5 a b c d=fB d5 a b c d:=f8 (.c225 a b c d)
theorem JL a b c d e f:dY d5 a b c d e f=Zj d5 a b c d e f:=f8 (.c226 a b c d e f)
theorem a1h a b c:EK d5 a b c=uW d5 a b c:=f8 (.c227 a b c)
theorem RS a b c d e:Yk d5 a b c d e=Zx d5 a b c d e:=f8 (.c228 a b c d e)
theorem a9F a b:a0T d5 a b=sK d5 a b:=f8 (.c229 a b)
theorem b1O a b:xQ d5 a b=fH d5 a b:=f8 (.c230 a b)
theorem KT a b c d e:aW d5 a b c d e=bA d5 a b c d e:=f8 (.c231 a b c d e)
theorem a9h a b c d:BE d5 a b c d=bZ d5 a b c d:=f8 (.c232 a b c d)
theorem a3q a:zM d5 a=kC d5 a:=f8 (.c233 a)
theorem oE a b c:Km d5 a b c=Nk d5 a b c:=f8 (.c234 a b c)
theorem KE a:Nm d5 a=Yw d5 a:=f8 (.c235 a)
theorem a7j a b:tP d5 a b=cY d5 a b:=f8 (.c236 a b)
theorem b3k a:oP d5 a=nY d5 a:=f8 (.c237 a)
theorem QS a:Wt d5 a=Tn d5 a:=f8 (.c238 a)
theorem a7E a b c:Hv d5 a b c=vQ d5 a b c:=f8 (.c239 a b c)
theorem b4j a b c:N2 d5 a b c=tR d5 a b c:=f8 (.c240 a b c)
theorem b0X a b c:ED d5 a b c=hO d5 a b c:=f8 (.c241 a b c)
theorem a6N a b c:Cz d5 a b c=gA d5 a b c:=f8 (.c242 a b c)
theorem a1k a:GA d5 a=lD d5 a:=f8 (.c243 a)
theorem a26 a b:Oo d5 a b=rQ d5 a b:=f8 (.c244 a b)
theorem b2l a b c:zC d5 a b c=kR d5 a b c:=f8 (.c245 a b c)
theorem a3e a b:BW d5 a b=oJ d5 a b:=f8 (.c246 a b)
theorem PF a b c d e:aK d5 a b c d e=Ur d5 a b c d e:=f8 (.c247 a b c d e)
theorem a7F a b c d:DK d5 a b c d=cR d5 a b c d:=f8 (.c248 a b c d)
theorem VX a b c d e:Yb d5 a b c d e=Xt d5 a b c d e:=f8 (.c249 a b c d e)
theorem RY a b c d e:Th d5 a b c d e=Zm d5 a b c d e:=f8 (.c250 a b c d e)
theorem a4i a b:GZ d5 a b=kF d5 a b:=f8 (.c251 a b)
theorem b3N a b:AX d5 a b=qG d5 a b:=f8 (.c252 a b)
theorem a28 a b c:KR d5 a b c=mD d5 a b c:=f8 (.c253 a b c)
theorem a5y a b:iU d5 a b=sQ d5 a b:=f8 (.c254 a b)
theorem LL a b c d:Ww d5 a b c d=Wu d5 a b c d:=f8 (.c255 a b c d)
theorem a5M a b:RC d5 a b=qO d5 a b:=f8 (.c256 a b)
theorem a50 a b c d:AR d5 a b c d=vV d5 a b c d:=f8 (.c257 a b c d)
theorem a3C a b:sX d5 a b=cH d5 a b:=f8 (.c258 a b)
theorem b4E a b c d e:eN d5 a b c d e=rV d5 a b c d e:=f8 (.c259 a b c d e)
theorem a2A a:gY d5 a=lH d5 a:=f8 (.c260 a)
theorem a74 a b:iF d5 a b=oR d5 a b:=f8 (.c261 a b)
theorem a4R:Jm d5=DU d5:=f8 (.c262)
theorem a6G a b c:xA d5 a b c=jM d5 a b c:=f8 (.c263 a b c)
theorem b3L a b:V1 d5 a b=cV d5 a b:=f8 (.c264 a b)
theorem a3l a b c:M7 d5 a b c=sR d5 a b c:=f8 (.c265 a b c)
theorem b5k a b c d:eQ d5 a b c d=kU d5 a b c d:=f8 (.c266 a b c d)
theorem b5f a b c d e:lN d5 a b c d e=eM d5 a b c d e:=f8 (.c267 a b c d e)
theorem b2k a b c d e:zF d5 a b c d e=tN d5 a b c d e:=f8 (.c268 a b c d e)
theorem Xq a b:La d5 a b=Ke d5 a b:=f8 (.c269 a b)
theorem a7t a b c d:Pr d5 a b c d=kX d5 a b c d:=f8 (.c270 a b c d)
theorem NJ a b c d:Rx d5 a b c d=Vy d5 a b c d:=f8 (.c271 a b c d)
theorem b6f a b:kA d5 a b=cD d5 a b:=f8 (.c272 a b)
theorem a8E a b:OX d5 a b=vL d5 a b:=f8 (.c273 a b)
theorem a1a a b:tF d5 a b=lT d5 a b:=f8 (.c274 a b)
theorem TU a b c d:vM d5 a b c d=Vb d5 a b c d:=f8 (.c275 a b c d)
theorem a5Y a b:YK d5 a b=jN d5 a b:=f8 (.c276 a b)
theorem b2L a:IN d5 a=tZ d5 a:=f8 (.c277 a)
theorem UP a b c d:Kx d5 a b c d=Wg d5 a b c d:=f8 (.c278 a b c d)
theorem b4f a b:cM d5 a b=gU d5 a b:=f8 (.c279 a b)
theorem a2G a:cO d5 a=vB d5 a:=f8 (.c280 a)
theorem b1T a:CP d5 a=sL d5 a:=f8 (.l16_source a)
theorem a9e a b:Mw d5 a b=dQ d5 a b:=f8 (.c282 a b)
theorem VQ a b c d:mX d5 a b c d=aV d5 a b c d:=f8 (.c283 a b c d)
theorem b3o a b:OY d5 a b=qQ d5 a b:=f8 (.c284 a b)
theorem a8f a b c d:U3 d5 a b c d=sO d5 a b c d:=f8 (.c285 a b c d)
theorem YA a:DT d5 a=Ti d5 a:=f8 (.c286 a)
theorem a1m a b:Pl d5 a b=gB d5 a b:=f8 (.c287 a b)
theorem b2D a b:DH d5 a b=uS d5 a b:=f8 (.c288 a b)
theorem a0z a b c d:BX d5 a b c d=Vv d5 a b c d:=f8 (.c289 a b c d)
theorem a5x a b c:xI d5 a b c=bK d5 a b c:=f8 (.c290 a b c)
theorem b15 a b:Bl d5 a b=vR d5 a b:=f8 (.c291 a b)
theorem ZG a b c d e f h:Wv d5 a b c d e f h=aN d5 a b c d e f h:=f8 (.c292 a b c d e f h)
theorem a78 a b c d:pF d5 a b c d=iH d5 a b c d:=f8 (.c293 a b c d)
theorem b1l a b c:fG d5 a b c=oT d5 a b c:=f8 (.c294 a b c)
theorem b3D a b c d e:Tz d5 a b c d e=uE d5 a b c d e:=f8 (.c295 a b c d e)
theorem b0f a b c d:IF d5 a b c d=sB d5 a b c d:=f8 (.c296 a b c d)
theorem b1z a b c:IU d5 a b c=qM d5 a b c:=f8 (.c297 a b c)
theorem VK a b c d e:Wm d5 a b c d e=Zp d5 a b c d e:=f8 (.c298 a b c d e)
theorem b2w a b c:ES d5 a b c=dP d5 a b c:=f8 (.c299 a b c)
theorem a06 a b:wG d5 a b=vC d5 a b:=f8 (.c300 a b)
theorem VG a b:xM d5 a b=Ut d5 a b:=f8 (.c301 a b)
theorem b2s a b:Pz d5 a b=lZ d5 a b:=f8 (.c302 a b)
theorem XG a b c:pM d5 a b c=Xv d5 a b c:=f8 (.c303 a b c)
theorem a18 a:kB d5 a=oO d5 a:=f8 (.c304 a)
theorem MR a b c:aX d5 a b c=Yn d5 a b c:=f8 (.c305 a b c)
theorem b1N a b c d e f:nS d5 a b c d e f=oZ d5 a b c d e f:=f8 (.c306 a b c d e f)
theorem a5W a:dG d5 a=jL d5 a:=f8 (.c307 a)
theorem a3N a b c d:JN d5 a b c d=kV d5 a b c d:=f8 (.c308 a b c d)
theorem b2z a b:FV d5 a b=fZ d5 a b:=f8 (.c311 a b)
theorem MO a b c:kD d5 a b c=Zy d5 a b c:=f8 (.c312 a b c)
theorem b0q a b:RA d5 a b=sV d5 a b:=f8 (.c313 a b)
theorem ME a b c:vW d5 a b c=Yx d5 a b c:=f8 (.c314 a b c)
theorem a33 a b:ML d5 a b=sH d5 a b:=f8 (.c315 a b)
theorem KX a b c:rO d5 a b c=bD d5 a b c:=f8 (.c316 a b c)
theorem b3O:NV d5=tO d5:=f8 (.c317)
theorem a7U a:ST d5 a=nE d5 a:=f8 (.c318 a)
theorem a4G a:WO d5 a=sS d5 a:=f8 (.c319 a)
theorem b2h a:zN d5 a=sP d5 a:=f8 (.l16_GenBytes a)
end
end
end Go.Proofs.YtihbbcealnnpiaaGreatDoor
